/- Yo Kb Yr Yp Si: shortened and put together by squeeze.py. -/
import Derived.Test.YtogbggmckmnlfaaGreatDoorQ09
import Derived.Laws.BytesArg
import Derived.Laws.Strings
set_option maxRecDepth 100000
set_option maxHeartbeats 4000000
set_option linter.unusedVariables false
set_option linter.unusedSectionVars false
set_option linter.unusedSimpArgs false
namespace Go.Proofs.YtogbggmckmnlfaaGreatDoor
open Go.RowKit
structure GStore where
 domains:Vec 512 (BitVec 64)
 start:GProblem×(List GDomain×Bool)
 list:List (List GChoice)
deriving Inhabited
def lJ (n:Int)(low:Int)(high:Int):Bool:=
 ((decide (low≤n))&&(decide (n≤high)))
theorem zdz (F0:Frz)(w:World)(hF0:F0.At w)(n:Int)(low:Int)(high:Int):Calls Tryz.prog 80 #[.int .i64 n, .int .i64 low, .int .i64 high] w fun e w'=>e= .returned (.bool (lJ n low high))∧Below w.heap.size w w':=by
 obtain ⟨r,hk⟩:∃r,lJ n low high=r:=⟨_,rfl⟩;rw [hk];unfold lJ at hk;obtain ⟨S0,F1,rfl,hS0,hp0⟩:=eX hF0;refine dv Tryz.func80 rfl rfl rfl hp0 ?_;refine eO ?_;refine dc (ι:=Unit) (fun z=>[(6, .bool ((decide (low≤n))&&(decide (n≤high))))]) (fun z=>[.fr F1]) (fun z=>True) ?_ ?_
 ·refine eS ?_;refine TL.run 4 rfl ?_;refine dw rfl rfl rfl (fun h1=>?_) (fun h1=>?_)
  ·have p1:=of_decide_eq_true h1;refine lO ?_;exact q4u
  ·have p1:=of_decide_eq_false h1;refine lO ?_;exact q4v
 ·rintro _ _;refine T.ret ?_;subst hk;exact d7
def iq (n:Int):Bool:=
 (lJ n 0 511)
theorem zdk (F0:Frz)(w:World)(hF0:F0.At w)(n:Int):Calls Tryz.prog 79 #[.int .i64 n] w fun e w'=>e= .returned (.bool (iq n))∧Below w.heap.size w w':=by
 obtain ⟨r,hk⟩:∃r,iq n=r:=⟨_,rfl⟩;rw [hk];unfold iq at hk;obtain ⟨S0,F1,rfl,hS0,hp0⟩:=eX hF0;refine dv Tryz.func79 rfl rfl rfl hp0 ?_;refine f7 ?_;refine jW ?_;refine cT (cL rfl rfl rfl (fun w hw=>zdz _ w (hw.fr (i:=0) rfl) n 0 511)) ?_;refine eP ?_;refine fo ?_;subst hk;exact d7
def ll (l:List GChoice):Bool:=
 dL (fun (_:Unit)=>
  true)
 (fun k1=>
  da (fun (i_3:Nat) (next2:Unit→Bool) (_:Unit)=>
   (bif ((!(iq ((cI l i_3).Station)))||(!(lJ ((cI l i_3).Channel) 2 51))) then
    false
    else
    (bif ((decide (0<(i_3:Int)))&&(decide ((cI l i_3).Station≤(cI l (((i_3:Int) - 1).toNat)).Station))) then
     false
     else
     next2 ())))
  (fun (_:Unit)=>
   k1 ()) (l.length - 0) 0 ())
theorem zcg (F0:Frz)(w:World)(hF0:F0.At w)(l:List GChoice)(vl:Value)(hl:SlC F0 vl 2 (l.map cU)):Calls Tryz.prog 42 #[vl] w fun e w'=>e= .returned (.bool (ll l))∧Below w.heap.size w w':=by
 obtain ⟨r,hk⟩:∃r,ll l=r:=⟨_,rfl⟩;rw [hk];unfold ll at hk;haveI:=hl.oneC;obtain ⟨S0,F1,rfl,hS0,hp0⟩:=eX hF0;refine dv Tryz.func42 rfl rfl rfl hp0 ?_;refine i5 ?_;refine q2k ?_;have hm6:l.length≤9223372036854775807:=(List.length_map _)▸hl.max;refine dD ?_;have hq:=em hk;clear hk;obtain ⟨k1,hk1,hk⟩:=hq; (try dsimp only at hk);refine dc (ι:=Unit) (fun z=>[]) (fun z=>[.fr F1]) (fun z=>k1 ()=r) ?_ ?_
 ·have hq:=fx hk;clear hk;obtain ⟨f2,kk2,hf2,hkk2,hk⟩:=hq;refine fm ?_;refine T.loop (ι:=Nat) (fun z=>[(0,vl),(5,vl),(6, .int .i64 (l.length:Int)),(7, .int .i64 (z:Int))]) (fun z=>[.fr F1]) (fun z=>da f2 kk2 (l.length - z) z ()=r) (fun z=>l.length - z) 0 ?_ ?_ ?_ ?_
  ·exact hk
  ·exact q4o
  ·exact eQ
  ·rintro i_3 hk;refine eO ?_;refine T.cond rfl (fun h4=>?_) (fun h4=>?_)
   ·have p4:=of_decide_eq_true h4;rw [fw a5] at hk;generalize hn2:da f2 kk2 (l.length - (i_3+1)) (i_3+1)=next2 at hk;rw [←hf2] at hk; (try dsimp only at hk);refine fv ?_;refine dd ?_;refine cK (dg (i:=i_3) rfl rfl rfl hl (List.length_map _) rfl a5) ?_;refine cK (ep 0 (i:=i_3) rfl rfl rfl hl a5) ?_;refine gB ?_;rintro _ _ ⟨g4,rfl,rfl⟩;refine dd ?_;refine kH ?_;refine q15 ?_;refine dc (ι:=Unit) (fun z=>[(0,vl),(3, .int .i64 (i_3:Int)),(4, .pointer (some ⟨g4,0,none⟩)),(5,vl),(6, .int .i64 (l.length:Int)),(7, .int .i64 (i_3:Int)),(21, .bool ((!(iq ((cI l i_3).Station)))||(!(lJ ((cI l i_3).Channel) 2 51))))]) (fun z=>[.row g4 68 [.int .i64 ((cI l i_3).Station), .int .i64 ((cI l i_3).Channel)], .fr F1]) (fun z=>True) ?_ ?_
    ·refine l4 ?_;refine cT (cL rfl rfl rfl (fun w hw=>zdk _ w (hw.fr (i:=1) rfl) ((cI l i_3).Station))) ?_;refine mi ?_;refine dw rfl rfl rfl (fun h5=>?_) (fun h5=>?_)
     ·refine lO ?_;exact cS () trivial (.c (.c (.c (.c (.c (.c (.b (iC h5).symm .nil))))))) (List.Sublist.refl _)
     ·refine ef ?_;refine cT (cL rfl rfl rfl (fun w hw=>zdz _ w (hw.fr (i:=1) rfl) ((cI l i_3).Channel) 2 51)) ?_;refine lz ?_;exact cS () trivial (.c (.c (.c (.c (.c (.c (.b (gN h5) .nil))))))) (List.Sublist.refl _)
    ·rintro _ _;refine T.cond rfl (fun h6=>?_) (fun h6=>?_)
     ·replace hk:=dp hk h6;refine f7 ?_;refine q2b ?_;subst hk;exact d7
     ·replace hk:=dn hk h6;refine jf ?_;refine dc (ι:=Unit) (fun z=>[(0,vl),(5,vl),(6, .int .i64 (l.length:Int)),(7, .int .i64 (i_3:Int)),(34, .bool ((decide (0<(i_3:Int)))&&(decide ((cI l i_3).Station≤(cI l (((i_3:Int) - 1).toNat)).Station))))]) (fun z=>[.row g4 68 [.int .i64 ((cI l i_3).Station), .int .i64 ((cI l i_3).Channel)], .fr F1]) (fun z=>True) ?_ ?_
      ·refine q1a ?_;refine gp ?_;refine dB rfl rfl rfl rfl (fun h7=>?_) (fun h7=>?_)
       ·have p7:=of_decide_eq_true h7;refine gM ?_;refine q13 ?_;refine q2l ?_;refine cP rfl (d6 1 (i:=((i_3:Int) - 1).toNat) (j:=0) rfl rfl rfl hl a5) ?_;refine fq ?_;refine gM ?_;refine fc ?_;exact cS () trivial (.c (.c (.c (.c (.b (l5 h7) .nil))))) (List.Sublist.refl _)
       ·have p7:=of_decide_eq_false h7;refine TS.run 10 rfl ?_;refine fc ?_;exact cS () trivial (.c (.c (.c (.c (.b (jr h7).symm .nil))))) (List.Sublist.refl _)
      ·rintro _ _;refine T.cond rfl (fun h8=>?_) (fun h8=>?_)
       ·have p8:=h8; (try simp only [cW] at p8);replace hk:=dp hk h8;refine iu ?_;subst hk;exact d7
       ·replace hk:=dn hk h8;refine gU ?_;rw [←hn2] at hk;refine q2N ?_;exact K.next (i_3+1) hk a5 (.c (.c (.c (.c .nil)))) (List.Sublist.refl _)
   ·have p4:=of_decide_eq_false h4;rw [fA a5,←hkk2] at hk; (try dsimp only at hk);refine eF ?_;exact kx
 ·rintro _ hk;rw [←hk1] at hk; (try dsimp only at hk);refine kd ?_;subst hk;exact d7
def zbT (p:GProblem):Option (Vec 512 (BitVec 64)):=
 dL (fun (c_1:Vec 512 (BitVec 64))=>
  some c_1)
 (fun k2=>
  da (fun (i_5:Nat) (next4:Vec 512 (BitVec 64)→Option (Vec 512 (BitVec 64))) (c_3:Vec 512 (BitVec 64))=>
   eg (0≤(cI p.Domains i_5).Station∧(cI p.Domains i_5).Station<(512:Int)) <|
   da (fun (i_9:Nat) (next8:Vec 512 (BitVec 64)→Option (Vec 512 (BitVec 64))) (c_7:Vec 512 (BitVec 64))=>
    eg (0≤(cI ((cI p.Domains i_5).Channels) i_9)∧(cI ((cI p.Domains i_5).Channels) i_9)<(64:Int)) <|
    next8 (Vec.put c_7 (((cI p.Domains i_5).Station).toNat) ((Vec.get c_7 (((cI p.Domains i_5).Station).toNat)) ||| ((1#64) <<< ((cI ((cI p.Domains i_5).Channels) i_9).toNat)))))
   (fun (c_7:Vec 512 (BitVec 64))=>
    next4 c_7) ((((cI p.Domains i_5).Channels).length) - 0) 0 (Vec.put c_3 (((cI p.Domains i_5).Station).toNat) (1#64)))
  (fun (c_3:Vec 512 (BitVec 64))=>
   k2 c_3) (p.Domains.length - 0) 0 (Vec.fill 512 (0#64)))
theorem zfO (F0:Frz)(w:World)(hF0:F0.At w)(p:GProblem)(vp_0:Value)(cp_0:List (List Value))(hp_0:SlD cJ F0 vp_0 2 cp_0 p.Domains)(vp_1:Value)(hp_1:SlC F0 vp_1 5 (p.Rules.Pairs.map cN))(vp_2:Value)(hp_2:SlC F0 vp_2 5 (p.Rules.Loads.map cO))(vp_3:Value)(hp_3:SlC F0 vp_3 4 (p.Rules.Caps.map cR))(r:Vec 512 (BitVec 64))(hr:zbT p=some r):Calls Tryz.prog 118 #[.agg [vp_0,vp_1,vp_2,vp_3].toArray] w fun e w'=>e= .returned (.agg (r.1.map U).toArray)∧Below w.heap.size w w':=by
 have hk:=hr;unfold zbT at hk;haveI:=hp_0.1.oneC;haveI:=hp_1.oneC;haveI:=hp_2.oneC;haveI:=hp_3.oneC;obtain ⟨S0,F1,rfl,hS0,hp0⟩:=eX hF0;refine dv Tryz.func118 rfl rfl rfl hp0 ?_;refine iW ?_;rintro _ _ ⟨g1,rfl,rfl⟩;refine cT (lu (l:=((Vec.fill 512 (0#64)).1.map U)) rfl a7) ?_;rintro _ _ ⟨g2,rfl,rfl⟩;refine dV ?_;refine cT (lu (l:=((Vec.fill 512 (0#64)).1.map U)) rfl a7) ?_;rintro _ _ ⟨g3,rfl,rfl⟩;refine iS ?_;refine mZ ?_;refine q2o ?_;have hm10:p.Domains.length≤9223372036854775807:=hp_0.2.1▸hp_0.1.max;refine dD ?_;have hq:=em hk;clear hk;obtain ⟨k2,hk2,hk⟩:=hq; (try dsimp only at hk);refine dc (ι:=Vec 512 (BitVec 64)) (fun z=>[(2, .pointer (some ⟨g2,0,none⟩)),(3, .pointer (some ⟨g3,0,none⟩))]) (fun z=>[.row g3 141 (z.1.map U), .row g2 141 ((Vec.fill 512 (0#64)).1.map U), .fr F1]) (fun z=>k2 z=some r) ?_ ?_
 ·have hq:=fx hk;clear hk;obtain ⟨f4,kk4,hf4,hkk4,hk⟩:=hq;refine fm ?_;refine T.pick [0,1,3] rfl a6 ?_;refine T.loop (ι:=Nat×Vec 512 (BitVec 64)) (fun z=>[(2, .pointer (some ⟨g2,0,none⟩)),(3, .pointer (some ⟨g3,0,none⟩)),(9,vp_0),(10, .int .i64 (p.Domains.length:Int)),(11, .int .i64 (z.1:Int))]) (fun z=>[.row g3 141 (z.2.1.map U), .row g2 141 ((Vec.fill 512 (0#64)).1.map U), .fr F1]) (fun z=>da f4 kk4 (p.Domains.length - z.1) z.1 z.2=some r) (fun z=>p.Domains.length - z.1) (0,(Vec.fill 512 (0#64))) ?_ ?_ ?_ ?_
  ·exact hk
  ·exact lQ
  ·exact eQ
  ·rintro ⟨i_5,c_3⟩ hk; (try dsimp only at *);refine eO ?_;refine T.cond rfl (fun h6=>?_) (fun h6=>?_)
   ·have p6:=of_decide_eq_true h6;rw [fw a5] at hk;generalize hn4:da f4 kk4 (p.Domains.length - (i_5+1)) (i_5+1)=next4 at hk;rw [←hf4] at hk; (try dsimp only at hk);refine fv ?_;refine q27 ?_;have hd14_1:=(GDomain.c1 (hp_0.2.2 i_5 a5)).2;haveI:=hd14_1.oneC;refine gB ?_;rintro _ _ ⟨g5,rfl,rfl⟩;refine mn ?_;have hq:(0≤(cI p.Domains i_5).Station∧(cI p.Domains i_5).Station<(512:Int))∧_:=fQ hk;clear hk;obtain ⟨g17,hk⟩:=hq; (try dsimp only at hk);refine l4 ?_;refine cK (dW (i:=((cI p.Domains i_5).Station).toNat) rfl rfl rfl a5 a5) ?_;refine ek (gV 1 ((Vec.put c_3 (((cI p.Domains i_5).Station).toNat) (1#64)).1.map U) rfl rfl rfl rfl b4 (zgT a5 (Vec.upd (x:=c_3) (f:=U) (i:=((cI p.Domains i_5).Station).toNat) (v:=1#64) a5))) ?_;refine eP ?_;refine dV ?_;refine ef ?_;refine cK (dh rfl rfl hd14_1 (List.length_map _)) ?_;have hm20:((cI p.Domains i_5).Channels).length≤9223372036854775807:=(List.length_map _)▸hd14_1.max;refine dD ?_;have hq:=fx hk;clear hk;obtain ⟨f8,kk8,hf8,hkk8,hk⟩:=hq;refine fm ?_;refine T.pick [1,0,2,3] rfl a6 ?_;refine T.loop (ι:=Nat×Vec 512 (BitVec 64)) (fun z=>[(2, .pointer (some ⟨g2,0,none⟩)),(3, .pointer (some ⟨g3,0,none⟩)),(5, .pointer (some ⟨g5,0,none⟩)),(9,vp_0),(10, .int .i64 (p.Domains.length:Int)),(11, .int .i64 (i_5:Int)),(19,(cI (cI cp_0 i_5) 1)),(20, .int .i64 (((cI p.Domains i_5).Channels).length:Int)),(21, .int .i64 (z.1:Int))]) (fun z=>[.row g3 141 (z.2.1.map U), .row g5 98 [.int .i64 ((cI p.Domains i_5).Station),(cI (cI cp_0 i_5) 1)], .row g2 141 ((Vec.fill 512 (0#64)).1.map U), .fr F1]) (fun z=>da f8 kk8 ((((cI p.Domains i_5).Channels).length) - z.1) z.1 z.2=some r) (fun z=>(((cI p.Domains i_5).Channels).length) - z.1) (0,(Vec.put c_3 (((cI p.Domains i_5).Station).toNat) (1#64))) ?_ ?_ ?_ ?_
    ·exact hk
    ·exact q4H
    ·exact eQ
    ·rintro ⟨i_9,c_7⟩ hk; (try dsimp only at *);refine eO ?_;refine T.cond rfl (fun h10=>?_) (fun h10=>?_)
     ·have p10:=of_decide_eq_true h10;rw [fw a5] at hk;generalize hn8:da f8 kk8 ((((cI p.Domains i_5).Channels).length) - (i_9+1)) (i_9+1)=next8 at hk;rw [←hf8] at hk; (try dsimp only at hk);refine fv ?_;refine cK (dg (i:=i_9) rfl rfl rfl hd14_1 (List.length_map _) rfl a5) ?_;refine cK (d6 3 (i:=i_9) (j:=0) rfl rfl rfl hd14_1 a5) ?_;refine dD ?_;have hq:(0≤(cI ((cI p.Domains i_5).Channels) i_9)∧(cI ((cI p.Domains i_5).Channels) i_9)<(64:Int))∧_:=fQ hk;clear hk;obtain ⟨g30,hk⟩:=hq; (try dsimp only at hk);refine dI (sN 0 3 (sN 4 2 (.eff 3 (sN 6 2 (.eff 8 .done))))) [.row g5 98 [.int .i64 ((cI p.Domains i_5).Station),(cI (cI cp_0 i_5) 1)], .row g2 141 ((Vec.fill 512 (0#64)).1.map U), .fr F1] a7 Sx ?_;refine fq ?_;refine cP rfl (dW (i:=((cI p.Domains i_5).Station).toNat) rfl rfl rfl a5 a5) ?_;refine fe ?_;refine cP rfl (gu (a:=1#64) ((cI ((cI p.Domains i_5).Channels) i_9).toNat) rfl rfl rfl a5 a5) ?_;refine dy ?_;refine ga rfl (Wt.none) rfl rfl (c7 0 rfl rfl rfl (lB a5 (Vec.cell (i:=((cI p.Domains i_5).Station).toNat) a5))) (fun w hw=>hw.sub Sx) ?_;refine cP rfl (iF (a:=(Vec.get c_7 (((cI p.Domains i_5).Station).toNat))) (b:=((1#64) <<< ((cI ((cI p.Domains i_5).Channels) i_9).toNat)))) ?_;refine cP rfl (dW (i:=((cI p.Domains i_5).Station).toNat) rfl rfl rfl a5 a5) ?_;refine dy ?_;refine iK rfl (Wt.none) rfl (gV 0 ((Vec.put c_7 (((cI p.Domains i_5).Station).toNat) ((Vec.get c_7 (((cI p.Domains i_5).Station).toNat)) ||| ((1#64) <<< ((cI ((cI p.Domains i_5).Channels) i_9).toNat)))).1.map U) rfl rfl rfl rfl b4 (zgT a5 (Vec.upd (x:=c_7) (f:=U) (i:=((cI p.Domains i_5).Station).toNat) (v:=((Vec.get c_7 (((cI p.Domains i_5).Station).toNat)) ||| ((1#64) <<< ((cI ((cI p.Domains i_5).Channels) i_9).toNat)))) a5))) ?_;refine jZ ?_;refine q1x ?_;rw [←hn8] at hk;exact K.next ((i_9+1),(Vec.put c_7 (((cI p.Domains i_5).Station).toNat) ((Vec.get c_7 (((cI p.Domains i_5).Station).toNat)) ||| ((1#64) <<< ((cI ((cI p.Domains i_5).Channels) i_9).toNat))))) hk a9 (.c (.c (.c (.c (.c (.c (.c (.c (.c .nil))))))))) (List.Sublist.refl _)
     ·have p10:=of_decide_eq_false h10;rw [fA a5,←hkk8] at hk; (try dsimp only at hk);refine q2Q ?_;refine j0 ?_;rw [←hn4] at hk;refine K.pick [0,2,3] rfl a6 ?_;exact K.next ((i_5+1),c_7) hk a9 (.c (.c (.c (.c (.c .nil))))) (List.Sublist.refl _)
   ·have p6:=of_decide_eq_false h6;rw [fA a5,←hkk4] at hk; (try dsimp only at hk);refine eF ?_;exact cS c_3 hk (.c (.c .nil)) (List.Sublist.refl _)
 ·rintro c_1 hk;rw [←hk2] at hk; (try dsimp only at hk);refine q3C ?_;obtain rfl:=Option.some.inj hk;exact lh 1 rfl rfl rfl Vec.len (fun w' hw=>⟨rfl,hw.isBelow⟩)
def zbA (p0_:GProblem)(m0_:List GDomain×Bool):Option (Vec 512 Int):=
 dL (fun (c_1:Vec 512 Int)=>
  some c_1)
 (fun k2=>
  da (fun (i_5:Nat) (next4:Vec 512 Int→Option (Vec 512 Int)) (c_3:Vec 512 Int)=>
   eg (0≤(cI (iU m0_) i_5).Station∧(cI (iU m0_) i_5).Station<(512:Int)) <|
   next4 (Vec.put c_3 (((cI (iU m0_) i_5).Station).toNat) ((cI (iU m0_) i_5).Channel)))
  (fun (c_3:Vec 512 Int)=>
   k2 c_3) (((iU m0_).length) - 0) 0 (Vec.fill 512 0))
theorem zdZ (F0:Frz)(w:World)(hF0:F0.At w)(p0_:GProblem)(m0_:List GDomain×Bool)(k0_:SK)(v0_:Value)(L0_:Ws)(hs0_:SI p0_ m0_ k0_ L0_)(tf0_:TbF F0 k0_)(htab:Tab w)(hO:Hp w (dz [ex k0_ v0_ L0_ (!m0_.2)]) [ex k0_ v0_ L0_ (!m0_.2)] w)(hA:∀g,dz [ex k0_ v0_ L0_ (!m0_.2)] g→¬F0.S g)(hZ:¬dz [ex k0_ v0_ L0_ (!m0_.2)] 0)(r:Vec 512 Int)(hr:zbA p0_ m0_=some r):Calls Tryz.prog 146 #[.pointer (some ⟨k0_.sp,0,none⟩)] w fun e w'=>∃(y:Unit) (G:Frz),(True)∧e= .returned (.agg (r.1.map vI).toArray)∧FxM F0 w (dz [ex k0_ v0_ L0_ (!m0_.2)]) G [ex k0_ v0_ L0_ (!m0_.2)] w':=by
 have hk:=hr;unfold zbA at hk;obtain ⟨S0,F1,rfl,hS0,hp0⟩:=kS hF0 hO hA;have hM0:=hZ;have htk:∀ {hs:HS} {w':World},Hp w (dz [ex k0_ v0_ L0_ (!m0_.2)]) hs w'→Tab w':=fun hw=>htab.kept hw hZ;refine dv (hs:=[ex k0_ v0_ L0_ (!m0_.2), .fr F1]) Tryz.func146 rfl rfl rfl hp0 ?_;refine dk ?_;refine q4b ?_;rintro _ _ ⟨g2,rfl,rfl⟩;refine dV ?_;refine q4b ?_;rintro _ _ ⟨g3,rfl,rfl⟩;refine iS ?_;refine dd ?_;refine cT (d3 3 rfl rfl rfl rfl (fun w hw hF=>zmd hs0_ tf0_ (hw.get (i:=2) rfl) (hw.fr (i:=3) rfl) (htk hw))) ?_;rintro _ _ ⟨v7_,F2,le1_2,hf7,hq,rfl⟩;obtain rfl:=hq.symm;haveI:=hf7.oneC;refine cK (dh rfl rfl hf7 (List.length_map _)) ?_;have hm8:(iU m0_).length≤9223372036854775807:=(List.length_map _)▸hf7.max;refine dD ?_;have hq:=em hk;clear hk;obtain ⟨k2,hk2,hk⟩:=hq; (try dsimp only at hk);refine dc (ι:=Vec 512 Int) (fun z=>[(2, .pointer (some ⟨g2,0,none⟩)),(3, .pointer (some ⟨g3,0,none⟩))]) (fun z=>[.row g3 204 (z.1.map vI), .row g2 204 ((Vec.fill 512 0).1.map vI),ex k0_ v0_ L0_ (!m0_.2), .fr F2]) (fun z=>k2 z=some r) ?_ ?_
 ·have hq:=fx hk;clear hk;obtain ⟨f4,kk4,hf4,hkk4,hk⟩:=hq;refine fm ?_;refine T.loop (ι:=Nat×Vec 512 Int) (fun z=>[(2, .pointer (some ⟨g2,0,none⟩)),(3, .pointer (some ⟨g3,0,none⟩)),(7,v7_),(8, .int .i64 ((iU m0_).length:Int)),(9, .int .i64 (z.1:Int))]) (fun z=>[.row g3 204 (z.2.1.map vI), .row g2 204 ((Vec.fill 512 0).1.map vI),ex k0_ v0_ L0_ (!m0_.2), .fr F2]) (fun z=>da f4 kk4 (((iU m0_).length) - z.1) z.1 z.2=some r) (fun z=>((iU m0_).length) - z.1) (0,(Vec.fill 512 0)) ?_ ?_ ?_ ?_
  ·exact hk
  ·exact lQ
  ·exact eQ
  ·rintro ⟨i_5,c_3⟩ hk; (try dsimp only at *);refine eO ?_;refine T.cond rfl (fun h6=>?_) (fun h6=>?_)
   ·have p6:=of_decide_eq_true h6;rw [fw a5] at hk;generalize hn4:da f4 kk4 (((iU m0_).length) - (i_5+1)) (i_5+1)=next4 at hk;rw [←hf4] at hk; (try dsimp only at hk);refine fv ?_;refine cK (dg (i:=i_5) rfl rfl rfl hf7 (List.length_map _) rfl a5) ?_;refine cK (ep 3 (i:=i_5) rfl rfl rfl hf7 a5) ?_;refine gB ?_;rintro _ _ ⟨g5,rfl,rfl⟩;refine kH ?_;refine c4 ?_;have hq:(0≤(cI (iU m0_) i_5).Station∧(cI (iU m0_) i_5).Station<(512:Int))∧_:=fQ hk;clear hk;obtain ⟨g17,hk⟩:=hq; (try dsimp only at hk);refine l4 ?_;refine ef ?_;refine cK (dW (i:=((cI (iU m0_) i_5).Station).toNat) rfl rfl rfl a5 a5) ?_;refine ek (gV 1 ((Vec.put c_3 (((cI (iU m0_) i_5).Station).toNat) ((cI (iU m0_) i_5).Channel)).1.map vI) rfl rfl rfl rfl b4 (zgT a5 (Vec.upd (x:=c_3) (f:=vI) (i:=((cI (iU m0_) i_5).Station).toNat) (v:=(cI (iU m0_) i_5).Channel) a5))) ?_;refine eP ?_;refine ke ?_;rw [←hn4] at hk;refine K.pick [1,2,3,4] rfl a6 ?_;exact K.next ((i_5+1),(Vec.put c_3 (((cI (iU m0_) i_5).Station).toNat) ((cI (iU m0_) i_5).Channel))) hk a9 (.c (.c (.c (.c (.c .nil))))) (List.Sublist.refl _)
   ·have p6:=of_decide_eq_false h6;rw [fA a5,←hkk4] at hk; (try dsimp only at hk);refine eF ?_;exact cS c_3 hk (.c (.c .nil)) (List.Sublist.refl _)
 ·rintro c_1 hk;rw [←hk2] at hk; (try dsimp only at hk);refine q3C ?_;obtain rfl:=Option.some.inj hk;exact lh 1 rfl rfl rfl Vec.len (fun w' hw=>⟨⟨⟩,F2.toFrz,trivial,rfl,dt (hw.pick (idx:=[2,3]) rfl a6) hS0 le1_2⟩)
def zb3 (p0_:GProblem)(m0_:List GDomain×Bool)(x1_:Vec 512 Int)(g_:List GChoice):Option (GChoice×Bool):=
 dL (fun (s6:Int×Int×Int×Int×Int)=>
  (bif ((decide (s6.1=0))&&(decide (0<(g_.length:Int)))) then
   some ((cI g_ 0),true)
   else
   some ((GChoice.mk s6.2.2.2.1 s6.2.2.2.2),((decide (s6.1=0))||(zgN m0_ (GChoice.mk s6.2.2.2.1 s6.2.2.2.2))))))
 (fun k6=>
  da (fun (i_13:Nat) (next12:(Int×Int×Int×Int×Int)→Option (GChoice×Bool)) (s12:Int×Int×Int×Int×Int)=>
   eg (0≤(cI g_ i_13).Station∧(cI g_ i_13).Station<(512:Int)) <|
   dL (fun (s18:Int×Int×Int)=>
    (bif decide (1<s18.1) then
     some ((GChoice.mk 0 0),false)
     else
     next12 (s18.1,s12.2.1,s12.2.2.1,s18.2.1,s18.2.2)))
   (fun k18=>
    (bif decide (¬(Vec.get x1_ (((cI g_ i_13).Station).toNat))=(cI g_ i_13).Channel) then
     k18 (wI (s12.1+1),(cI g_ i_13).Station,(cI g_ i_13).Channel)
     else
     k18 (s12.1,s12.2.2.2.1,s12.2.2.2.2))))
  (fun (s12:Int×Int×Int×Int×Int)=>
   k6 (s12.1,s12.2.1,s12.2.2.1,s12.2.2.2.1,s12.2.2.2.2)) (g_.length - 0) 0 (0,0,0,0,0))
theorem zgI (F0:Frz)(w:World)(hF0:F0.At w)(p0_:GProblem)(m0_:List GDomain×Bool)(k0_:SK)(v0_:Value)(L0_:Ws)(hs0_:SI p0_ m0_ k0_ L0_)(tf0_:TbF F0 k0_)(x1_:Vec 512 Int)(g1_:Nat)(g_:List GChoice)(vg_:Value)(hg_:SlC F0 vg_ 2 (g_.map cU))(htab:Tab w)(hO:Hp w (dz [ex k0_ v0_ L0_ (!m0_.2), .row g1_ 204 (x1_.1.map vI)]) [ex k0_ v0_ L0_ (!m0_.2), .row g1_ 204 (x1_.1.map vI)] w)(hA:∀g,dz [ex k0_ v0_ L0_ (!m0_.2), .row g1_ 204 (x1_.1.map vI)] g→¬F0.S g)(hZ:¬dz [ex k0_ v0_ L0_ (!m0_.2), .row g1_ 204 (x1_.1.map vI)] 0)(r:GChoice×Bool)(hr:zb3 p0_ m0_ x1_ g_=some r):Calls Tryz.prog 147 #[.pointer (some ⟨k0_.sp,0,none⟩), .pointer (some ⟨g1_,0,none⟩),vg_] w fun e w'=>∃(y:Unit),(True)∧e= .returned (.tuple #[.agg [.int .i64 r.1.Station, .int .i64 r.1.Channel].toArray, .bool r.2])∧FxM F0 w (dz [ex k0_ v0_ L0_ (!m0_.2), .row g1_ 204 (x1_.1.map vI)]) F0 [ex k0_ v0_ L0_ (!m0_.2), .row g1_ 204 (x1_.1.map vI)] w':=by
 have hk:=hr;unfold zb3 at hk;haveI:=hg_.oneC;obtain ⟨S0,F1,rfl,hS0,hp0⟩:=kS hF0 hO hA;have hM0:=hZ;have htk:∀ {hs:HS} {w':World},Hp w (dz [ex k0_ v0_ L0_ (!m0_.2), .row g1_ 204 (x1_.1.map vI)]) hs w'→Tab w':=fun hw=>htab.kept hw hZ;refine dv (hs:=[ex k0_ v0_ L0_ (!m0_.2), .row g1_ 204 (x1_.1.map vI), .fr F1]) Tryz.func147 rfl rfl rfl hp0 ?_;refine dk ?_;refine gB ?_;rintro _ _ ⟨g6,rfl,rfl⟩;refine gy ?_;refine gB ?_;rintro _ _ ⟨g8,rfl,rfl⟩;refine dV ?_;refine mX ?_;refine cK (dh rfl rfl hg_ (List.length_map _)) ?_;have hm13:g_.length≤9223372036854775807:=(List.length_map _)▸hg_.max;refine dD ?_;have hq:=em hk;clear hk;obtain ⟨k6,hk6,hk⟩:=hq; (try dsimp only at hk);refine dc (ι:=Int×Int×Int×Int×Int) (fun z=>[(0, .pointer (some ⟨k0_.sp,0,none⟩)),(2,vg_),(6, .pointer (some ⟨g6,0,none⟩)),(8, .pointer (some ⟨g8,0,none⟩)),(9, .int .i64 z.1)]) (fun z=>[.row g6 68 [.int .i64 z.2.1, .int .i64 z.2.2.1], .row g8 68 [.int .i64 z.2.2.2.1, .int .i64 z.2.2.2.2],ex k0_ v0_ L0_ (!m0_.2), .row g1_ 204 (x1_.1.map vI), .fr F1]) (fun z=>k6 (z.1,z.2.1,z.2.2.1,z.2.2.2.1,z.2.2.2.2)=some r) ?_ ?_
 ·have hq:=fx hk;clear hk;obtain ⟨f12,kk12,hf12,hkk12,hk⟩:=hq;refine fm ?_;refine T.pick [1,0,2,3,4] rfl a6 ?_;refine T.loop (ι:=Nat×Int×Int×Int×Int×Int) (fun z=>[(0, .pointer (some ⟨k0_.sp,0,none⟩)),(1, .pointer (some ⟨g1_,0,none⟩)),(2,vg_),(6, .pointer (some ⟨g6,0,none⟩)),(8, .pointer (some ⟨g8,0,none⟩)),(9, .int .i64 z.2.1),(12,vg_),(13, .int .i64 (g_.length:Int)),(14, .int .i64 (z.1:Int))]) (fun z=>[.row g6 68 [.int .i64 z.2.2.1, .int .i64 z.2.2.2.1], .row g8 68 [.int .i64 z.2.2.2.2.1, .int .i64 z.2.2.2.2.2],ex k0_ v0_ L0_ (!m0_.2), .row g1_ 204 (x1_.1.map vI), .fr F1]) (fun z=>da f12 kk12 (g_.length - z.1) z.1 (z.2.1,z.2.2.1,z.2.2.2.1,z.2.2.2.2.1,z.2.2.2.2.2)=some r) (fun z=>g_.length - z.1) (0,0,0,0,0,0) ?_ ?_ ?_ ?_
  ·exact hk
  ·exact q4H
  ·exact eQ
  ·rintro ⟨i_13,n_7,c_8,c_9,c_10,c_11⟩ hk; (try dsimp only at *);refine eO ?_;refine T.cond rfl (fun h14=>?_) (fun h14=>?_)
   ·have p14:=of_decide_eq_true h14;rw [fw a5] at hk;generalize hn12:da f12 kk12 (g_.length - (i_13+1)) (i_13+1)=next12 at hk;rw [←hf12] at hk; (try dsimp only at hk);refine fv ?_;refine cK (dg (i:=i_13) rfl rfl rfl hg_ (List.length_map _) rfl a5) ?_;refine cK (ep 4 (i:=i_13) rfl rfl rfl hg_ a5) ?_;refine gB ?_;rintro _ _ ⟨g11,rfl,rfl⟩;refine kH ?_;refine q15 ?_;have hq:(0≤(cI g_ i_13).Station∧(cI g_ i_13).Station<(512:Int))∧_:=fQ hk;clear hk;obtain ⟨g22,hk⟩:=hq; (try dsimp only at hk);refine q1B ?_;refine fe ?_;refine fq ?_;refine fe ?_;refine cP rfl (dW (i:=((cI g_ i_13).Station).toNat) rfl rfl rfl a5 a5) ?_;refine cP rfl (c7 4 rfl rfl rfl (lB a5 (Vec.cell (i:=((cI g_ i_13).Station).toNat) a5))) ?_;refine fq ?_;refine j9 ?_;have hq:=em hk;clear hk;obtain ⟨k18,hk18,hk⟩:=hq; (try dsimp only at hk);refine dc (ι:=Int×Int×Int) (fun z=>[(0, .pointer (some ⟨k0_.sp,0,none⟩)),(1, .pointer (some ⟨g1_,0,none⟩)),(2,vg_),(6, .pointer (some ⟨g6,0,none⟩)),(8, .pointer (some ⟨g8,0,none⟩)),(9, .int .i64 z.1),(12,vg_),(13, .int .i64 (g_.length:Int)),(14, .int .i64 (i_13:Int))]) (fun z=>[.row g8 68 [.int .i64 z.2.1, .int .i64 z.2.2], .row g6 68 [.int .i64 c_8, .int .i64 c_9],ex k0_ v0_ L0_ (!m0_.2), .row g1_ 204 (x1_.1.map vI), .fr F1]) (fun z=>k18 (z.1,z.2.1,z.2.2)=some r) ?_ ?_
    ·refine T.cond rfl (fun h19=>?_) (fun h19=>?_)
     ·have p19:=of_decide_eq_true h19;replace hk:=dp hk h19;refine dk ?_;refine ij ?_;refine ek (du 2) ?_;refine eP ?_;refine c4 (T.region ?_);refine eM ?_;refine fG ?_;refine K.pick [2,1,3,4,5] rfl a6 ?_;exact cS (wI (n_7+1),(cI g_ i_13).Station,(cI g_ i_13).Channel) hk (.c (.c (.c (.c (.c (.c (.c (.c (.c .nil))))))))) (List.Sublist.refl _)
     ·have p19:=of_decide_eq_false h19;replace hk:=dn hk h19;refine T.skip ?_;refine K.pick [2,1,3,4,5] rfl a6 ?_;exact cS (n_7,c_10,c_11) hk (.c (.c (.c (.c (.c (.c (.c (.c (.c .nil))))))))) (List.Sublist.refl _)
    ·rintro ⟨n_15,c_16,c_17⟩ hk; (try dsimp only at *);rw [←hk18] at hk; (try dsimp only at hk);refine jX ?_;refine c4 ?_;refine T.cond rfl (fun h20=>?_) (fun h20=>?_)
     ·have p20:=of_decide_eq_true h20;replace hk:=dp hk h20;refine dk ?_;refine jq ?_;refine ek (du 1) ?_;refine jL ?_;refine q3b ?_;obtain rfl:=Option.some.inj hk;exact gX 1 rfl rfl rfl rfl rfl (fun w' hw=>⟨⟨⟩,trivial,rfl,dt (hw.pick (idx:=[2,3,4]) rfl a6) hS0 (Frz.Le.refl _)⟩)
     ·have p20:=of_decide_eq_false h20;replace hk:=dn hk h20;refine gU ?_;rw [←hn12] at hk;refine K.pick [1,0,2,3,4] rfl a6 ?_;exact K.next ((i_13+1),n_15,c_8,c_9,c_16,c_17) hk a9 (.c (.c (.c (.c (.c (.c (.c (.c (.c .nil))))))))) (List.Sublist.refl _)
   ·have p14:=of_decide_eq_false h14;rw [fA a5,←hkk12] at hk; (try dsimp only at hk);refine eF ?_;exact cS (n_7,c_8,c_9,c_10,c_11) hk (.c (.c (.c (.c (.c .nil))))) (List.Sublist.refl _)
 ·rintro ⟨n_1,c_2,c_3,c_4,c_5⟩ hk; (try dsimp only at *);rw [←hk6] at hk; (try dsimp only at hk);refine T.seq (T.seq ?_);refine dc (ι:=Unit) (fun z=>[(0, .pointer (some ⟨k0_.sp,0,none⟩)),(2,vg_),(6, .pointer (some ⟨g6,0,none⟩)),(8, .pointer (some ⟨g8,0,none⟩)),(9, .int .i64 n_1),(40, .bool ((decide (n_1=0))&&(decide (0<(g_.length:Int)))))]) (fun z=>[.row g6 68 [.int .i64 c_2, .int .i64 c_3], .row g8 68 [.int .i64 c_4, .int .i64 c_5],ex k0_ v0_ L0_ (!m0_.2), .row g1_ 204 (x1_.1.map vI), .fr F1]) (fun z=>True) ?_ ?_
  ·refine eS ?_;refine eM ?_;refine dw rfl rfl rfl (fun h21=>?_) (fun h21=>?_)
   ·have p21:=of_decide_eq_true h21;refine dd ?_;refine cK (dh rfl rfl hg_ (List.length_map _)) ?_;refine eh ?_;refine fG ?_;exact cS () trivial (.c (.c (.c (.c (.c (.b (l5 h21) .nil)))))) (List.Sublist.refl _)
   ·have p21:=of_decide_eq_false h21;refine ku ?_;exact cS () trivial (.c (.c (.c (.c (.c (.b (jr h21).symm .nil)))))) (List.Sublist.refl _)
  ·rintro _ _;refine T.cond rfl (fun h22=>?_) (fun h22=>?_)
   ·have p22:=h22; (try simp only [cW] at p22);replace hk:=dp hk h22;refine f7 ?_;refine cK (dg (i:=0) rfl rfl rfl hg_ (List.length_map _) (show (0:Int)=((0:Nat):Int) from rfl) a5) ?_;refine cK (ep 4 (i:=0) rfl rfl rfl hg_ a5) ?_;refine kH ?_;refine dd ?_;refine j8 ?_;obtain rfl:=Option.some.inj hk;exact q45
   ·replace hk:=dn hk h22;refine jf ?_;refine dc (ι:=Unit) (fun z=>[(6, .pointer (some ⟨g6,0,none⟩)),(7, .bool ((decide (n_1=0))||(zgN m0_ (GChoice.mk c_4 c_5))))]) (fun z=>[.row g6 68 [.int .i64 c_4, .int .i64 c_5], .row g8 68 [.int .i64 c_4, .int .i64 c_5],ex k0_ v0_ L0_ (!m0_.2), .row g1_ 204 (x1_.1.map vI), .fr F1]) (fun z=>True) ?_ ?_
    ·refine dI (sN 0 6 (.eff 6 (.still 7 (.eff 8 (.still 9 .done))))) [.row g8 68 [.int .i64 c_4, .int .i64 c_5],ex k0_ v0_ L0_ (!m0_.2), .row g1_ 204 (x1_.1.map vI), .fr F1] a7 Sx ?_;refine kE ?_;refine gp ?_;refine dB rfl rfl rfl rfl (fun h23=>?_) (fun h23=>?_)
     ·have p23:=of_decide_eq_true h23;refine gM ?_;refine kz ?_;refine q37 ?_;exact cS () trivial (.c (.b (iC h23).symm .nil)) (List.Sublist.refl _)
     ·have p23:=of_decide_eq_false h23;refine fe ?_;refine kE ?_;refine dy ?_;refine c6 rfl (Wt.some) rfl rfl (cL rfl rfl rfl (fun w hw=>zoA hs0_ tf0_ (hw.get (i:=2) rfl) (hw.fr (i:=4) rfl) (htk hw) (GChoice.mk c_4 c_5))) ?_;refine jZ ?_;refine q37 ?_;exact cS () trivial (.c (.b (gN h23) .nil)) (List.Sublist.refl _)
    ·rintro _ _;refine T.ret ?_;obtain rfl:=Option.some.inj hk;exact q45
def zao (x0_:GStore):Bool:=
 false
theorem za0 (F0:Frz)(w:World)(hF0:F0.At w)(x0_:GStore)(g0_:Nat)(k0_512:SK)(v0_512:Value)(L0_512:Ws)(hs0_512:SI x0_.start.1 x0_.start.2 k0_512 L0_512)(tf0_512:TbF F0 k0_512)(zf0_512:SzF F0 k0_512 v0_512 L0_512 (!x0_.start.2.2))(v0_513:Value)(c0_513:List (List Value))(h0_513:OwnD cH F0 1 c0_513 x0_.list)(hO:Hp w (dz [.row g0_ 144 ((x0_.domains.1.map U)++[.pointer (some ⟨k0_512.sp,0,none⟩),v0_513]), .sl v0_513 50 1 x0_.list.length c0_513.flatten]) [.row g0_ 144 ((x0_.domains.1.map U)++[.pointer (some ⟨k0_512.sp,0,none⟩),v0_513]), .sl v0_513 50 1 x0_.list.length c0_513.flatten] w)(hA:∀g,dz [.row g0_ 144 ((x0_.domains.1.map U)++[.pointer (some ⟨k0_512.sp,0,none⟩),v0_513]), .sl v0_513 50 1 x0_.list.length c0_513.flatten] g→¬F0.S g):Calls Tryz.prog 81 #[.pointer (some ⟨g0_,0,none⟩)] w fun e w'=>∃(y:Unit),(True)∧e= .returned (.bool (zao x0_))∧FxM F0 w (dz [.row g0_ 144 ((x0_.domains.1.map U)++[.pointer (some ⟨k0_512.sp,0,none⟩),v0_513]), .sl v0_513 50 1 x0_.list.length c0_513.flatten]) F0 [.row g0_ 144 ((x0_.domains.1.map U)++[.pointer (some ⟨k0_512.sp,0,none⟩),v0_513]), .sl v0_513 50 1 x0_.list.length c0_513.flatten] w':=by
 obtain ⟨r,hk⟩:∃r,zao x0_=r:=⟨_,rfl⟩;rw [hk];unfold zao at hk;haveI:=li (hO.own (.sl v0_513 50 1 x0_.list.length c0_513.flatten) a8);have hmx0_513:=kR (hO.own (.sl v0_513 50 1 x0_.list.length c0_513.flatten) a8);obtain ⟨S0,F1,rfl,hS0,hp0⟩:=kS hF0 hO hA;refine dv (hs:=[.row g0_ 144 ((x0_.domains.1.map U)++[.pointer (some ⟨k0_512.sp,0,none⟩),v0_513]), .sl v0_513 50 1 x0_.list.length c0_513.flatten, .fr F1]) Tryz.func81 rfl rfl rfl hp0 ?_;refine eO ?_;refine dc (ι:=Unit) (fun z=>[(2, .bool false)]) (fun z=>[.row g0_ 144 ((x0_.domains.1.map U)++[.pointer (some ⟨k0_512.sp,0,none⟩),v0_513]), .sl v0_513 50 1 x0_.list.length c0_513.flatten, .fr F1]) (fun z=>True) ?_ ?_
 ·refine it ?_;refine cK (mH (e:=144) a7 rfl rfl rfl) ?_;refine eM ?_;refine q3P ?_;refine cK (mH (e:=188) a7 rfl rfl rfl) ?_;refine eh ?_;refine fG ?_;exact cS () trivial (.c .nil) (List.Sublist.refl _)
 ·rintro _ _;refine T.ret ?_;subst hk;exact q4I
def zaB (x0_:GStore)(g_:List GChoice):Option Bool:=
 (bif !(ll g_) then
  some false
  else
  dL (fun (_:Unit)=>
   some true)
  (fun k2=>
   da (fun (i_4:Nat) (next3:Unit→Option Bool) (_:Unit)=>
    eg (0≤(cI g_ i_4).Station∧(cI g_ i_4).Station<(512:Int)) <|
    eg (0≤(cI g_ i_4).Channel∧(cI g_ i_4).Channel<(64:Int)) <|
    (bif decide (((((Vec.get x0_.domains (((cI g_ i_4).Station).toNat)) >>> (((cI g_ i_4).Channel).toNat)) &&& (1#64)).toNat:Int)=((0#64).toNat:Int)) then
     some false
     else
     next3 ()))
   (fun (_:Unit)=>
    k2 ()) (g_.length - 0) 0 ()))
theorem zbL (F0:Frz)(w:World)(hF0:F0.At w)(x0_:GStore)(g0_:Nat)(k0_512:SK)(v0_512:Value)(L0_512:Ws)(hs0_512:SI x0_.start.1 x0_.start.2 k0_512 L0_512)(tf0_512:TbF F0 k0_512)(zf0_512:SzF F0 k0_512 v0_512 L0_512 (!x0_.start.2.2))(v0_513:Value)(c0_513:List (List Value))(h0_513:OwnD cH F0 1 c0_513 x0_.list)(g_:List GChoice)(vg_:Value)(hg_:SlC F0 vg_ 2 (g_.map cU))(hO:Hp w (dz [.row g0_ 144 ((x0_.domains.1.map U)++[.pointer (some ⟨k0_512.sp,0,none⟩),v0_513]), .sl v0_513 50 1 x0_.list.length c0_513.flatten]) [.row g0_ 144 ((x0_.domains.1.map U)++[.pointer (some ⟨k0_512.sp,0,none⟩),v0_513]), .sl v0_513 50 1 x0_.list.length c0_513.flatten] w)(hA:∀g,dz [.row g0_ 144 ((x0_.domains.1.map U)++[.pointer (some ⟨k0_512.sp,0,none⟩),v0_513]), .sl v0_513 50 1 x0_.list.length c0_513.flatten] g→¬F0.S g)(r:Bool)(hr:zaB x0_ g_=some r):Calls Tryz.prog 83 #[.pointer (some ⟨g0_,0,none⟩),vg_] w fun e w'=>∃(y:Unit),(True)∧e= .returned (.bool r)∧FxM F0 w (dz [.row g0_ 144 ((x0_.domains.1.map U)++[.pointer (some ⟨k0_512.sp,0,none⟩),v0_513]), .sl v0_513 50 1 x0_.list.length c0_513.flatten]) F0 [.row g0_ 144 ((x0_.domains.1.map U)++[.pointer (some ⟨k0_512.sp,0,none⟩),v0_513]), .sl v0_513 50 1 x0_.list.length c0_513.flatten] w':=by
 have hk:=hr;unfold zaB at hk;haveI:=hg_.oneC;haveI:=li (hO.own (.sl v0_513 50 1 x0_.list.length c0_513.flatten) a8);have hmx0_513:=kR (hO.own (.sl v0_513 50 1 x0_.list.length c0_513.flatten) a8);obtain ⟨S0,F1,rfl,hS0,hp0⟩:=kS hF0 hO hA;refine dv (hs:=[.row g0_ 144 ((x0_.domains.1.map U)++[.pointer (some ⟨k0_512.sp,0,none⟩),v0_513]), .sl v0_513 50 1 x0_.list.length c0_513.flatten, .fr F1]) Tryz.func83 rfl rfl rfl hp0 ?_;refine i5 ?_;refine cT (cL rfl rfl rfl (fun w hw=>zcg _ w (hw.fr (i:=2) rfl) g_ vg_ hg_)) ?_;refine eP ?_;refine dD ?_;refine T.cond rfl (fun h1=>?_) (fun h1=>?_)
 ·replace hk:=dp hk h1;refine ik ?_;obtain rfl:=Option.some.inj hk;exact q4I
 ·replace hk:=dn hk h1;refine jx ?_;refine dd ?_;refine cK (dh rfl rfl hg_ (List.length_map _)) ?_;have hm11:g_.length≤9223372036854775807:=(List.length_map _)▸hg_.max;refine dD ?_;have hq:=em hk;clear hk;obtain ⟨k2,hk2,hk⟩:=hq; (try dsimp only at hk);refine dc (ι:=Unit) (fun z=>[]) (fun z=>[.row g0_ 144 ((x0_.domains.1.map U)++[.pointer (some ⟨k0_512.sp,0,none⟩),v0_513]), .sl v0_513 50 1 x0_.list.length c0_513.flatten, .fr F1]) (fun z=>k2 ()=some r) ?_ ?_
  ·have hq:=fx hk;clear hk;obtain ⟨f3,kk3,hf3,hkk3,hk⟩:=hq;refine fm ?_;refine T.loop (ι:=Nat) (fun z=>[(0, .pointer (some ⟨g0_,0,none⟩)),(10,vg_),(11, .int .i64 (g_.length:Int)),(12, .int .i64 (z:Int))]) (fun z=>[.row g0_ 144 ((x0_.domains.1.map U)++[.pointer (some ⟨k0_512.sp,0,none⟩),v0_513]), .sl v0_513 50 1 x0_.list.length c0_513.flatten, .fr F1]) (fun z=>da f3 kk3 (g_.length - z) z ()=some r) (fun z=>g_.length - z) 0 ?_ ?_ ?_ ?_
   ·exact hk
   ·exact q4o
   ·exact eQ
   ·rintro i_4 hk;refine eO ?_;refine T.cond rfl (fun h5=>?_) (fun h5=>?_)
    ·have p5:=of_decide_eq_true h5;rw [fw a5] at hk;generalize hn3:da f3 kk3 (g_.length - (i_4+1)) (i_4+1)=next3 at hk;rw [←hf3] at hk; (try dsimp only at hk);refine fv ?_;refine cK (dg (i:=i_4) rfl rfl rfl hg_ (List.length_map _) rfl a5) ?_;refine cK (ep 2 (i:=i_4) rfl rfl rfl hg_ a5) ?_;refine gB ?_;rintro _ _ ⟨g6,rfl,rfl⟩;refine mn ?_;have hq:(0≤(cI g_ i_4).Station∧(cI g_ i_4).Station<(512:Int))∧_:=fQ hk;clear hk;obtain ⟨g21,hk⟩:=hq;have hq:(0≤(cI g_ i_4).Channel∧(cI g_ i_4).Channel<(64:Int))∧_:=fQ hk;clear hk;obtain ⟨g25,hk⟩:=hq; (try dsimp only at hk);refine dI (sN 0 11 (.still 11 .done)) _ a7 (List.Sublist.refl _) ?_;refine fe ?_;refine fq ?_;refine fe ?_;refine fT ?_;refine cP rfl (dW (i:=((cI g_ i_4).Station).toNat) rfl rfl rfl a5 a5) ?_;refine cP rfl (c7 1 rfl rfl rfl (lB a5 (znN Vec.len a5 (Vec.cell (i:=((cI g_ i_4).Station).toNat) a5)))) ?_;refine fq ?_;refine cP rfl (fR (a:=(Vec.get x0_.domains (((cI g_ i_4).Station).toNat))) (((cI g_ i_4).Channel).toNat) rfl rfl rfl a5 a5) ?_;refine cP rfl (fU (a:=((Vec.get x0_.domains (((cI g_ i_4).Station).toNat)) >>> (((cI g_ i_4).Channel).toNat))) (b:=1#64)) ?_;refine j9 ?_;refine T.cond rfl (fun h6=>?_) (fun h6=>?_)
     ·replace hk:=dp hk h6;refine iu ?_;obtain rfl:=Option.some.inj hk;exact cX rfl rfl (fun w' hw=>⟨⟨⟩,trivial,rfl,dt (hw.pick (idx:=[1,2,3]) rfl a6) hS0 (Frz.Le.refl _)⟩)
     ·replace hk:=dn hk h6;refine gU ?_;rw [←hn3] at hk;refine q3x ?_;exact K.next (i_4+1) hk a5 (.c (.c (.c (.c .nil)))) (List.Sublist.refl _)
    ·have p5:=of_decide_eq_false h5;rw [fA a5,←hkk3] at hk; (try dsimp only at hk);refine eF ?_;exact kx
  ·rintro _ hk;rw [←hk2] at hk; (try dsimp only at hk);refine kd ?_;obtain rfl:=Option.some.inj hk;exact q4I
def zaE (x0_:GStore)(g_:List GChoice):Option (Int×List (List GChoice)):=
 (bif (zao x0_) then
  some (1,x0_.list)
  else
  (zaB x0_ g_).bind fun r9=>
  (bif !r9 then
   some (2,x0_.list)
   else
   (bif decide (4096≤(x0_.list.length:Int)) then
    some (7,x0_.list)
    else
    eg (dl g_.length 16) <|
    eg (dl (x0_.list++[g_]).length 24) <|
    some (0,(x0_.list++[g_])))))
theorem zbO (F0:Frz)(w:World)(hF0:F0.At w)(x0_:GStore)(g0_:Nat)(k0_512:SK)(v0_512:Value)(L0_512:Ws)(hs0_512:SI x0_.start.1 x0_.start.2 k0_512 L0_512)(tf0_512:TbF F0 k0_512)(zf0_512:SzF F0 k0_512 v0_512 L0_512 (!x0_.start.2.2))(v0_513:Value)(c0_513:List (List Value))(h0_513:OwnD cH F0 1 c0_513 x0_.list)(g_:List GChoice)(vg_:Value)(hg_:SlC F0 vg_ 2 (g_.map cU))(hO:Hp w (dz [.row g0_ 144 ((x0_.domains.1.map U)++[.pointer (some ⟨k0_512.sp,0,none⟩),v0_513]), .sl v0_513 50 1 x0_.list.length c0_513.flatten]) [.row g0_ 144 ((x0_.domains.1.map U)++[.pointer (some ⟨k0_512.sp,0,none⟩),v0_513]), .sl v0_513 50 1 x0_.list.length c0_513.flatten] w)(hA:∀g,dz [.row g0_ 144 ((x0_.domains.1.map U)++[.pointer (some ⟨k0_512.sp,0,none⟩),v0_513]), .sl v0_513 50 1 x0_.list.length c0_513.flatten] g→¬F0.S g)(r:Int×List (List GChoice))(hr:zaE x0_ g_=some r):Calls Tryz.prog 47 #[.pointer (some ⟨g0_,0,none⟩),vg_] w fun e w'=>∃(y:Value×List (List Value)) (G:Frz),(OwnD cH G 1 y.2 r.2)∧e= .returned (.int .i64 r.1)∧FxM F0 w (dz [.row g0_ 144 ((x0_.domains.1.map U)++[.pointer (some ⟨k0_512.sp,0,none⟩),v0_513]), .sl v0_513 50 1 x0_.list.length c0_513.flatten]) G [.row g0_ 144 ((x0_.domains.1.map U)++[.pointer (some ⟨k0_512.sp,0,none⟩),y.1]), .sl y.1 50 1 r.2.length y.2.flatten] w':=by
 have hk:=hr;unfold zaE at hk;haveI:=hg_.oneC;haveI:=li (hO.own (.sl v0_513 50 1 x0_.list.length c0_513.flatten) a8);have hmx0_513:=kR (hO.own (.sl v0_513 50 1 x0_.list.length c0_513.flatten) a8);obtain ⟨S0,F1,rfl,hS0,hp0⟩:=kS hF0 hO hA;refine dv (hs:=[.row g0_ 144 ((x0_.domains.1.map U)++[.pointer (some ⟨k0_512.sp,0,none⟩),v0_513]), .sl v0_513 50 1 x0_.list.length c0_513.flatten, .fr F1]) Tryz.func47 rfl rfl rfl hp0 ?_;refine i5 ?_;refine q07 ?_;rintro _ _ ⟨⟨⟩, -,rfl,rfl⟩;refine fD ?_;refine c4 ?_;refine T.cond rfl (fun h1=>?_) (fun h1=>?_)
 ·replace hk:=dp hk h1;refine ik ?_;obtain rfl:=Option.some.inj hk;exact q4R
 ·replace hk:=dn hk h1;refine q31 ?_;have hq:=dZ hk;clear hk;obtain ⟨r9,hr9,hk⟩:=hq; (try dsimp only at hk);refine i1 ?_;refine cT (eW [0,1,2] [.row g0_ 144 ((x0_.domains.1.map U)++([.pointer (some ⟨k0_512.sp,0,none⟩),v0_513]:List Value)), .sl v0_513 50 1 x0_.list.length c0_513.flatten] [] rfl rfl rfl rfl a6 (fun w hw hw2 hF=>zbL _ w hF x0_ g0_ k0_512 v0_512 L0_512 hs0_512 tf0_512 zf0_512 v0_513 c0_513 h0_513 g_ vg_ hg_ hw2.takes.1 hw2.takes.2 r9 hr9)) ?_;rintro _ _ ⟨⟨⟩, -,rfl,rfl⟩;refine fD ?_;refine dD ?_;refine T.cond rfl (fun h2=>?_) (fun h2=>?_)
  ·replace hk:=dp hk h2;refine ik ?_;obtain rfl:=Option.some.inj hk;exact q4R
  ·replace hk:=dn hk h2;refine jx ?_;refine eh ?_;refine fj ?_;refine cK (c7 0 rfl rfl rfl (lB a5 (zdN Vec.len (show [.pointer (some ⟨k0_512.sp,0,none⟩),v0_513][1]?=some _ from rfl)))) ?_;refine cK (lx 1 rfl rfl rfl) ?_;refine dD ?_;refine T.cond rfl (fun h3=>?_) (fun h3=>?_)
   ·have p3:=of_decide_eq_true h3;replace hk:=dp hk h3;refine ik ?_;obtain rfl:=Option.some.inj hk;exact q4R
   ·have p3:=of_decide_eq_false h3;replace hk:=dn hk h3;refine jf ?_;have hq:(dl g_.length 16)∧_:=fQ hk;clear hk;obtain ⟨g23,hk⟩:=hq;have hq:(dl (x0_.list++[g_]).length 24)∧_:=fQ hk;clear hk;obtain ⟨g25,hk⟩:=hq; (try dsimp only at hk);refine dc (ι:=Value×List (List Value)×FzB w (dz [.row g0_ 144 ((x0_.domains.1.map U)++[.pointer (some ⟨k0_512.sp,0,none⟩),v0_513]), .sl v0_513 50 1 x0_.list.length c0_513.flatten]) S0) (fun z=>[]) (fun z=>[.row g0_ 144 ((x0_.domains.1.map U)++[.pointer (some ⟨k0_512.sp,0,none⟩),z.1]), .sl z.1 50 1 (x0_.list++[g_]).length z.2.1.flatten, .fr z.2.2]) (fun z=>OneC z.1∧OwnD cH z.2.2.toFrz 1 z.2.1 (x0_.list++[g_])∧F1.toFrz.Le z.2.2.toFrz) ?_ ?_
    ·refine dI (.still 0 (.still 1 (.still 2 (.still 3 (.still 5 (.two 4 6 (.eff 6 (.eff 7 (.eff 8 (sN 9 2 (.eff 11 .done))))) (.two 4 7 (.eff 7 (.eff 8 (sN 9 2 (.eff 11 .done)))) (.eff 4 (.eff 8 (sN 9 2 (.eff 11 .done))))))))))) [.fr F1] a7 Sx ?_;refine gp ?_;refine fT ?_;refine fe ?_;refine TS.two ?_ ?_
     ·refine ga rfl (Wt.none) rfl rfl (c7 0 rfl rfl rfl (lB a5 (zdN Vec.len (show [.pointer (some ⟨k0_512.sp,0,none⟩),v0_513][1]?=some _ from rfl)))) (fun w hw=>hw.sub Sx) ?_;refine dy ?_;refine c6 rfl (Wt.none) rfl rfl (d3 2 rfl rfl rfl rfl (fun w hw hF=>zgd _ w hF g_ vg_ hg_ g23)) ?_;rintro _ _ ⟨v23_,F3,le1_3,hf23,hq,rfl⟩;obtain rfl:=hq.symm;haveI:=hf23.oneC;refine ⟨(fun w hw=>(hw.frLe (i:=2) rfl le1_3).sub Sx),?_⟩;refine dy ?_;refine my ?_;rintro _ _ ⟨g24,rfl,rfl⟩;have hl24:OwnD cH F3.toFrz 1 [[v23_]] [g_]:=(de (OwnD.nil _ _ 1) ⟨_,rfl,hf23⟩);refine ⟨(fun w hw=>(hw.frLe (i:=3) rfl le1_3).sub Sx),?_⟩;refine q2c ?_;rintro v25 _ ⟨hv25,rfl⟩;have ho25:OwnD cH F3.toFrz 1 (c0_513++[[v23_]]) (x0_.list++[g_]):=(de (OwnD.mono (rep:=cH) (fun _ _ _ _=>R_List_GChoice.mono) h0_513 le1_3) ⟨_,rfl,hf23⟩);refine ⟨(fun w hw=>(hw.frLe (i:=3) rfl le1_3).sub Sx),?_⟩;refine q0X ?_;refine ⟨(fun w hw=>(hw.frLe (i:=3) rfl le1_3).sub Sx),?_⟩;refine fc ?_;refine q3x ?_;exact cS (v25,(c0_513++[[v23_]]),F3) ⟨inferInstance,ho25,le1_3⟩ .nil (List.Sublist.refl _)
     ·refine c6 rfl (Wt.none) rfl rfl (d3 2 rfl rfl rfl rfl (fun w hw hF=>zgd _ w hF g_ vg_ hg_ g23)) ?_;rintro _ _ ⟨v23_,F4,le1_4,hf23,hq,rfl⟩;obtain rfl:=hq.symm;haveI:=hf23.oneC;refine ⟨(fun w hw=>(hw.frLe (i:=2) rfl le1_4).sub Sx),?_⟩;refine TS.two ?_ ?_
      ·refine ga rfl (Wt.none) rfl rfl (c7 0 rfl rfl rfl (lB a5 (zdN Vec.len (show [.pointer (some ⟨k0_512.sp,0,none⟩),v0_513][1]?=some _ from rfl)))) (fun w hw=>(hw.frLe (i:=2) rfl le1_4).sub Sx) ?_;refine dy ?_;refine my ?_;rintro _ _ ⟨g24,rfl,rfl⟩;have hl24:OwnD cH F4.toFrz 1 [[v23_]] [g_]:=(de (OwnD.nil _ _ 1) ⟨_,rfl,hf23⟩);refine q2x ?_;refine q2c ?_;rintro v25 _ ⟨hv25,rfl⟩;have ho25:OwnD cH F4.toFrz 1 (c0_513++[[v23_]]) (x0_.list++[g_]):=(de (OwnD.mono (rep:=cH) (fun _ _ _ _=>R_List_GChoice.mono) h0_513 le1_4) ⟨_,rfl,hf23⟩);refine q2x ?_;refine q0X ?_;refine q2x ?_;refine fc ?_;refine q3x ?_;exact q46
      ·refine my ?_;rintro _ _ ⟨g24,rfl,rfl⟩;have hl24:OwnD cH F4.toFrz 1 [[v23_]] [g_]:=(de (OwnD.nil _ _ 1) ⟨_,rfl,hf23⟩);refine q2x ?_;refine dy ?_;refine ga rfl (Wt.none) rfl rfl (c7 1 rfl rfl rfl (lB a5 (zdN Vec.len (show [.pointer (some ⟨k0_512.sp,0,none⟩),v0_513][1]?=some _ from rfl)))) (fun w hw=>(hw.frLe (i:=3) rfl le1_4).sub Sx) ?_;refine q2c ?_;rintro v25 _ ⟨hv25,rfl⟩;have ho25:OwnD cH F4.toFrz 1 (c0_513++[[v23_]]) (x0_.list++[g_]):=(de (OwnD.mono (rep:=cH) (fun _ _ _ _=>R_List_GChoice.mono) h0_513 le1_4) ⟨_,rfl,hf23⟩);refine q2x ?_;refine q0X ?_;refine q2x ?_;refine fc ?_;refine q3x ?_;exact q46
    ·rintro ⟨vo1_4,co1_4,F2⟩ ⟨hvo1_4,ho1_4,le1_2⟩; (try dsimp only at *);refine kd ?_;obtain rfl:=Option.some.inj hk;exact cX rfl rfl (fun w' hw=>⟨(vo1_4,co1_4),F2.toFrz,ho1_4,rfl,dt (hw.pick (idx:=[0,1,2]) rfl a6) hS0 le1_2⟩)
def zaI (fuel:Nat)(x0_:GStore)(l:List GChoice):Option ((Option (GProblem×(List GDomain×Bool)))×Bool):=
 dL (fun (m_1:List GDomain×Bool)=>
  dL (fun (m_8:List GDomain×Bool)=>
   some (some (x0_.start.1,m_8),false))
  (fun k9=>
   jn (fun (next12:(Bool×(List GDomain×Bool))→Option ((Option (GProblem×(List GDomain×Bool)))×Bool)) (s12:Bool×(List GDomain×Bool))=>
    (bif s12.1 then
     (bif !s12.2.2 then
      some (none,true)
      else
      (zbA x0_.start.1 s12.2).bind fun r36=>
      da (fun (i_20:Nat) (next19:(Bool×(List GDomain×Bool)×Vec 512 Int)→Option ((Option (GProblem×(List GDomain×Bool)))×Bool)) (s19:Bool×(List GDomain×Bool)×Vec 512 Int)=>
       dL (fun (s25:Bool×(List GDomain×Bool)×Vec 512 Int)=>
        next19 (s25.1,s25.2.1,s25.2.2))
       (fun k25=>
        (zb3 x0_.start.1 s19.2.1 s19.2.2 (cI x0_.list i_20)).bind fun r49=>
        (bif !r49.2 then
         k25 (s19.1,s19.2.1,s19.2.2)
         else
         (bif decide (((cI x0_.list i_20).length:Int)=0) then
          some (none,true)
          else
          (mb fuel x0_.start.1 s19.2.1 false r49.1).bind fun r59=>
          (bif !r59.1.2 then
           some (none,true)
           else
           (zbA x0_.start.1 r59.1).bind fun r63=>
           k25 (true,r59.1,r63))))))
      (fun (s19:Bool×(List GDomain×Bool)×Vec 512 Int)=>
       next12 (s19.1,s19.2.1)) (x0_.list.length - 0) 0 (false,s12.2,r36))
     else
     k9 s12.2)) fuel (true,m_1)))
 (fun k2=>
  da (fun (i_5:Nat) (next4:(List GDomain×Bool)→Option ((Option (GProblem×(List GDomain×Bool)))×Bool)) (m_3:List GDomain×Bool)=>
   (bif !m_3.2 then
    some (none,true)
    else
    (mb fuel x0_.start.1 m_3 true (cI l i_5)).bind fun r30=>
    next4 r30.1))
  (fun (m_3:List GDomain×Bool)=>
   k2 m_3) (l.length - 0) 0 x0_.start.2)
theorem zbB (F0:Frz)(w:World)(hF0:F0.At w)(x0_:GStore)(g0_:Nat)(k0_512:SK)(v0_512:Value)(L0_512:Ws)(hs0_512:SI x0_.start.1 x0_.start.2 k0_512 L0_512)(tf0_512:TbF F0 k0_512)(zf0_512:SzF F0 k0_512 v0_512 L0_512 (!x0_.start.2.2))(v0_513:Value)(c0_513:List (List Value))(h0_513:OwnD cH F0 1 c0_513 x0_.list)(l:List GChoice)(vl:Value)(hl:SlC F0 vl 2 (l.map cU))(htab:Tab w)(hO:Hp w (dz [.row g0_ 144 ((x0_.domains.1.map U)++[.pointer (some ⟨k0_512.sp,0,none⟩),v0_513]), .sl v0_513 50 1 x0_.list.length c0_513.flatten]) [.row g0_ 144 ((x0_.domains.1.map U)++[.pointer (some ⟨k0_512.sp,0,none⟩),v0_513]), .sl v0_513 50 1 x0_.list.length c0_513.flatten] w)(hA:∀g,dz [.row g0_ 144 ((x0_.domains.1.map U)++[.pointer (some ⟨k0_512.sp,0,none⟩),v0_513]), .sl v0_513 50 1 x0_.list.length c0_513.flatten] g→¬F0.S g)(hZ:¬dz [.row g0_ 144 ((x0_.domains.1.map U)++[.pointer (some ⟨k0_512.sp,0,none⟩),v0_513]), .sl v0_513 50 1 x0_.list.length c0_513.flatten] 0)(fuel:Nat)(hfu:100000≤fuel)(r:(Option (GProblem×(List GDomain×Bool)))×Bool)(hr:zaI fuel x0_ l=some r):Calls Tryz.prog 119 #[.pointer (some ⟨g0_,0,none⟩),vl] w fun e w'=>((r.1).isSome=true→∃(y:SK×Value×Ws) (G:Frz),(SI (r.1.getD default).1 (r.1.getD default).2 y.1 y.2.2∧TbF G y.1)∧e= .returned (.tuple #[.pointer (some ⟨y.1.sp,0,none⟩), .bool r.2])∧FxM F0 w (dz [.row g0_ 144 ((x0_.domains.1.map U)++[.pointer (some ⟨k0_512.sp,0,none⟩),v0_513]), .sl v0_513 50 1 x0_.list.length c0_513.flatten]) G [.row g0_ 144 ((x0_.domains.1.map U)++[.pointer (some ⟨k0_512.sp,0,none⟩),v0_513]), .sl v0_513 50 1 x0_.list.length c0_513.flatten,ex y.1 y.2.1 y.2.2 (!(r.1.getD default).2.2)] w')∧((r.1).isSome=false→∃(y:Unit) (G:Frz),(True)∧e= .returned (.tuple #[.pointer none, .bool r.2])∧FxM F0 w (dz [.row g0_ 144 ((x0_.domains.1.map U)++[.pointer (some ⟨k0_512.sp,0,none⟩),v0_513]), .sl v0_513 50 1 x0_.list.length c0_513.flatten]) G [.row g0_ 144 ((x0_.domains.1.map U)++[.pointer (some ⟨k0_512.sp,0,none⟩),v0_513]), .sl v0_513 50 1 x0_.list.length c0_513.flatten] w'):=by
 have hk:=hr;unfold zaI at hk;haveI:=hl.oneC;haveI:=li (hO.own (.sl v0_513 50 1 x0_.list.length c0_513.flatten) a8);have hmx0_513:=kR (hO.own (.sl v0_513 50 1 x0_.list.length c0_513.flatten) a8);obtain ⟨S0,F1,rfl,hS0,hp0⟩:=kS hF0 hO hA;have hM0:=hZ;have htk:∀ {hs:HS} {w':World},Hp w (dz [.row g0_ 144 ((x0_.domains.1.map U)++[.pointer (some ⟨k0_512.sp,0,none⟩),v0_513]), .sl v0_513 50 1 x0_.list.length c0_513.flatten]) hs w'→Tab w':=fun hw=>htab.kept hw hZ;refine dv (hs:=[.row g0_ 144 ((x0_.domains.1.map U)++[.pointer (some ⟨k0_512.sp,0,none⟩),v0_513]), .sl v0_513 50 1 x0_.list.length c0_513.flatten, .fr F1]) Tryz.func119 rfl rfl rfl hp0 ?_;refine jX ?_;refine dV ?_;refine eh ?_;refine q3P ?_;refine cT (ez [2,0,1] [] [.row g0_ 144 ((x0_.domains.1.map U)++([.pointer (some ⟨k0_512.sp,0,none⟩),v0_513]:List Value)), .sl v0_513 50 1 x0_.list.length c0_513.flatten] rfl rfl rfl rfl a6 (fun w hw hw2 hF=>zli hs0_512 tf0_512 (zf0_512 w hF) hF (htk hw))) ?_;rintro _ _ ⟨⟨k19_,v19_⟩,F2,le1_2,⟨hs19,tf19⟩,rfl,rfl⟩;refine fD ?_; (try dsimp only at hs19 tf19);refine mX ?_;refine cK (dh rfl rfl (SlC.mono hl le1_2) (List.length_map _)) ?_;have hm21:l.length≤9223372036854775807:=(List.length_map _)▸(SlC.mono hl le1_2).max;refine dD ?_;have hq:=em hk;clear hk;obtain ⟨k2,hk2,hk⟩:=hq; (try dsimp only at hk);refine dc (ι:=(List GDomain×Bool)×Ws) (fun z=>[(0, .pointer (some ⟨g0_,0,none⟩)),(6, .pointer (some ⟨k19_.sp,0,none⟩))]) (fun z=>[ex k19_ v19_ z.2 (!z.1.2), .row g0_ 144 ((x0_.domains.1.map U)++[.pointer (some ⟨k0_512.sp,0,none⟩),v0_513]), .sl v0_513 50 1 x0_.list.length c0_513.flatten, .fr F2]) (fun z=>k2 z.1=some r∧SI x0_.start.1 z.1 k19_ z.2) ?_ ?_
 ·have hq:=fx hk;clear hk;obtain ⟨f4,kk4,hf4,hkk4,hk⟩:=hq;refine fm ?_;refine T.pick [0,2,3,1] rfl a6 ?_;refine T.loop (ι:=Nat×(List GDomain×Bool)×Ws) (fun z=>[(0, .pointer (some ⟨g0_,0,none⟩)),(6, .pointer (some ⟨k19_.sp,0,none⟩)),(20,vl),(21, .int .i64 (l.length:Int)),(22, .int .i64 (z.1:Int))]) (fun z=>[ex k19_ v19_ z.2.2 (!z.2.1.2), .row g0_ 144 ((x0_.domains.1.map U)++[.pointer (some ⟨k0_512.sp,0,none⟩),v0_513]), .sl v0_513 50 1 x0_.list.length c0_513.flatten, .fr F2]) (fun z=>da f4 kk4 (l.length - z.1) z.1 z.2.1=some r∧SI x0_.start.1 z.2.1 k19_ z.2.2) (fun z=>l.length - z.1) (0,x0_.start.2,L0_512) ?_ ?_ ?_ ?_
  ·exact ⟨hk,hs19⟩
  ·exact lQ
  ·exact eQ
  ·rintro ⟨i_5,m_3,Lm_3⟩ ⟨hk,hsm_3⟩; (try dsimp only at *);refine eO ?_;refine T.cond rfl (fun h6=>?_) (fun h6=>?_)
   ·have p6:=of_decide_eq_true h6;rw [fw a5] at hk;generalize hn4:da f4 kk4 (l.length - (i_5+1)) (i_5+1)=next4 at hk;rw [←hf4] at hk; (try dsimp only at hk);refine fv ?_;refine cK (dg (i:=i_5) rfl rfl rfl (SlC.mono hl le1_2) (List.length_map _) rfl a5) ?_;refine cK (ep 3 (i:=i_5) rfl rfl rfl (SlC.mono hl le1_2) a5) ?_;refine gB ?_;rintro _ _ ⟨g8,rfl,rfl⟩;refine kH ?_;refine iS ?_;refine dd ?_;refine cT (cL rfl rfl rfl (fun w hw=>zeP hsm_3 tf19 (hw.get (i:=1) rfl) (hw.fr (i:=4) rfl) (htk hw))) ?_;refine eP ?_;refine c4 ?_;refine T.cond rfl (fun h7=>?_) (fun h7=>?_)
    ·replace hk:=dp hk h7;refine jX ?_;refine q2b ?_;obtain rfl:=Option.some.inj hk;exact eC rfl rfl rfl (fun w' hw=>⟨fun h=>(by cases h),fun _=>⟨⟨⟩,F2.toFrz,trivial,rfl,dt (hw.pick (idx:=[2,3,4]) rfl a6) hS0 le1_2⟩⟩)
    ·replace hk:=dn hk h7;refine mj ?_;have hq:=dZ hk;clear hk;obtain ⟨r30,hr30,hk⟩:=hq; (try dsimp only at hk);refine it ?_;refine ij ?_;refine cT (lA 1 rfl rfl rfl rfl (fun w hw=>zlx hsm_3 tf19 (hw.get (i:=1) rfl) (hw.fr (i:=4) rfl) (hw.apartF (i:=1) (j:=4) rfl rfl a6) (htk hw) hfu (cI l i_5) hr30)) ?_;rintro _ _ ⟨L30_,hs30,rfl,rfl⟩;refine ke ?_;rw [←hn4] at hk;refine K.pick [1,2,3,4] rfl a6 ?_;exact K.next ((i_5+1),r30.1,L30_) ⟨hk,hs30⟩ a9 (.c (.c (.c (.c (.c .nil))))) (List.Sublist.refl _)
   ·have p6:=of_decide_eq_false h6;rw [fA a5,←hkk4] at hk; (try dsimp only at hk);refine eF ?_;exact cS (m_3,Lm_3) ⟨hk,hsm_3⟩ (.c (.c .nil)) (List.Sublist.refl _)
 ·rintro ⟨m_1,Lm_1⟩ ⟨hk,hsm_1⟩; (try dsimp only at *);rw [←hk2] at hk; (try dsimp only at hk);refine mD ?_;have hq:=em hk;clear hk;obtain ⟨k9,hk9,hk⟩:=hq; (try dsimp only at hk);refine dc (ι:=(List GDomain×Bool)×Ws×FzB w (dz [.row g0_ 144 ((x0_.domains.1.map U)++[.pointer (some ⟨k0_512.sp,0,none⟩),v0_513]), .sl v0_513 50 1 x0_.list.length c0_513.flatten]) S0) (fun z=>[(6, .pointer (some ⟨k19_.sp,0,none⟩))]) (fun z=>[ex k19_ v19_ z.2.1 (!z.1.2), .row g0_ 144 ((x0_.domains.1.map U)++[.pointer (some ⟨k0_512.sp,0,none⟩),v0_513]), .sl v0_513 50 1 x0_.list.length c0_513.flatten, .fr z.2.2]) (fun z=>k9 z.1=some r∧SI x0_.start.1 z.1 k19_ z.2.1∧F2.toFrz.Le z.2.2.toFrz) ?_ ?_
  ·have hq:=zdT hk;clear hk;obtain ⟨f12,hf12,hk⟩:=hq;refine fm ?_;refine T.loop (ι:=Nat×Bool×(List GDomain×Bool)×Ws×FzB w (dz [.row g0_ 144 ((x0_.domains.1.map U)++[.pointer (some ⟨k0_512.sp,0,none⟩),v0_513]), .sl v0_513 50 1 x0_.list.length c0_513.flatten]) S0) (fun z=>[(0, .pointer (some ⟨g0_,0,none⟩)),(6, .pointer (some ⟨k19_.sp,0,none⟩)),(9, .bool z.2.1)]) (fun z=>[ex k19_ v19_ z.2.2.2.1 (!z.2.2.1.2), .row g0_ 144 ((x0_.domains.1.map U)++[.pointer (some ⟨k0_512.sp,0,none⟩),v0_513]), .sl v0_513 50 1 x0_.list.length c0_513.flatten, .fr z.2.2.2.2]) (fun z=>jn f12 z.1 (z.2.1,z.2.2.1)=some r∧SI x0_.start.1 z.2.2.1 k19_ z.2.2.2.1∧F2.toFrz.Le z.2.2.2.2.toFrz) (fun z=>z.1) (fuel,true,m_1,Lm_1,F2) ?_ ?_ ?_ ?_
   ·exact ⟨hk,hsm_1,(Frz.Le.refl _)⟩
   ·exact q4m
   ·exact eQ
   ·rintro ⟨m_13,changed_10,m_11,Lm_11,F4⟩ ⟨hk,hsm_11,le2_4⟩; (try dsimp only at *);have le1_4:=le1_2.trans le2_4;have hq:=zez hk;clear hk;obtain ⟨m_13',rfl,hk⟩:=hq;generalize hn12:jn f12 m_13'=next12 at hk;rw [←hf12] at hk; (try dsimp only at hk);refine mD ?_;refine T.cond rfl (fun h14=>?_) (fun h14=>?_)
    ·replace hk:=dp hk h14;refine T.skip (K.seq (T.block (T.seq (dk ?_))));refine dd ?_;refine cT (cL rfl rfl rfl (fun w hw=>zeP hsm_11 (tf19.mono le2_4) (hw.get (i:=0) rfl) (hw.fr (i:=3) rfl) (htk hw))) ?_;refine eP ?_;refine c4 ?_;refine T.cond rfl (fun h15=>?_) (fun h15=>?_)
     ·replace hk:=dp hk h15;refine jX ?_;refine c4 (T.ret (dX (fi (dX (fi (dX ?_))))));obtain rfl:=Option.some.inj hk;exact eC rfl rfl rfl (fun w' hw=>⟨fun h=>(by cases h),fun _=>⟨⟨⟩,F4.toFrz,trivial,rfl,dt (hw.pick (idx:=[1,2,3]) rfl a6) hS0 le1_4⟩⟩)
     ·replace hk:=dn hk h15;refine iD ?_;refine kU ?_;have hq:=dZ hk;clear hk;obtain ⟨r36,hr36,hk⟩:=hq; (try dsimp only at hk);refine it ?_;refine cT (ez [0,3,1,2] [ex k19_ v19_ Lm_11 (!m_11.2)] [.row g0_ 144 ((x0_.domains.1.map U)++([.pointer (some ⟨k0_512.sp,0,none⟩),v0_513]:List Value)), .sl v0_513 50 1 x0_.list.length c0_513.flatten] rfl rfl rfl rfl a6 (fun w hw hw2 hF=>zdZ _ w hF x0_.start.1 m_11 k19_ v19_ Lm_11 hsm_11 (tf19.mono le2_4) (htk hw) hw2.takes.1 hw2.takes.2 (hw2.takes0 hM0 htab.pos) r36 hr36)) ?_;rintro _ _ ⟨⟨⟩,F5,le4_5, -,rfl,rfl⟩;refine fD ?_;have le1_5:=le1_4.trans le4_5;have le2_5:=le2_4.trans le4_5;refine q4b ?_;rintro _ _ ⟨g10,rfl,rfl⟩;refine q1u ?_;refine dV ?_;refine eh ?_;refine fj ?_;refine cK (c7 3 rfl rfl rfl (lB a5 (zdN Vec.len (show [.pointer (some ⟨k0_512.sp,0,none⟩),v0_513][1]?=some _ from rfl)))) ?_;refine cK (lx 4 rfl rfl rfl) ?_;refine dD ?_;have hq:=fx hk;clear hk;obtain ⟨f19,kk19,hf19,hkk19,hk⟩:=hq;refine fm ?_;refine T.pick [1,0,3,4,2] rfl a6 ?_;refine T.loop (ι:=Nat×Bool×(List GDomain×Bool)×Ws×Vec 512 Int×FzB w (dz [.row g0_ 144 ((x0_.domains.1.map U)++[.pointer (some ⟨k0_512.sp,0,none⟩),v0_513]), .sl v0_513 50 1 x0_.list.length c0_513.flatten]) S0) (fun z=>[(0, .pointer (some ⟨g0_,0,none⟩)),(6, .pointer (some ⟨k19_.sp,0,none⟩)),(9, .bool z.2.1),(10, .pointer (some ⟨g10,0,none⟩)),(40,v0_513),(41, .int .i64 (x0_.list.length:Int)),(42, .int .i64 (z.1:Int))]) (fun z=>[ex k19_ v19_ z.2.2.2.1 (!z.2.2.1.2), .row g10 204 (z.2.2.2.2.1.1.map vI), .row g0_ 144 ((x0_.domains.1.map U)++[.pointer (some ⟨k0_512.sp,0,none⟩),v0_513]), .sl v0_513 50 1 x0_.list.length c0_513.flatten, .fr z.2.2.2.2.2]) (fun z=>da f19 kk19 (x0_.list.length - z.1) z.1 (z.2.1,z.2.2.1,z.2.2.2.2.1)=some r∧SI x0_.start.1 z.2.2.1 k19_ z.2.2.2.1∧F5.toFrz.Le z.2.2.2.2.2.toFrz) (fun z=>x0_.list.length - z.1) (0,false,m_11,Lm_11,r36,F5) ?_ ?_ ?_ ?_
      ·exact ⟨hk,hsm_11,(Frz.Le.refl _)⟩
      ·exact q4F
      ·exact eQ
      ·rintro ⟨i_20,changed_16,m_17,Lm_17,c_18,F6⟩ ⟨hk,hsm_17,le5_6⟩; (try dsimp only at *);have le1_6:=le1_5.trans le5_6;have le2_6:=le2_5.trans le5_6;refine eO ?_;refine T.cond rfl (fun h21=>?_) (fun h21=>?_)
       ·have p21:=of_decide_eq_true h21;rw [fw a5] at hk;generalize hn19:da f19 kk19 (x0_.list.length - (i_20+1)) (i_20+1)=next19 at hk;rw [←hf19] at hk; (try dsimp only at hk);refine jf ?_;have hq:=em hk;clear hk;obtain ⟨k25,hk25,hk⟩:=hq; (try dsimp only at hk);refine dc (ι:=Bool×(List GDomain×Bool)×Ws×Vec 512 Int×FzB w (dz [.row g0_ 144 ((x0_.domains.1.map U)++[.pointer (some ⟨k0_512.sp,0,none⟩),v0_513]), .sl v0_513 50 1 x0_.list.length c0_513.flatten]) S0) (fun z=>[(0, .pointer (some ⟨g0_,0,none⟩)),(6, .pointer (some ⟨k19_.sp,0,none⟩)),(9, .bool z.1),(10, .pointer (some ⟨g10,0,none⟩)),(40,v0_513),(41, .int .i64 (x0_.list.length:Int)),(42, .int .i64 (i_20:Int))]) (fun z=>[ex k19_ v19_ z.2.2.1 (!z.2.1.2), .row g10 204 (z.2.2.2.1.1.map vI), .row g0_ 144 ((x0_.domains.1.map U)++[.pointer (some ⟨k0_512.sp,0,none⟩),v0_513]), .sl v0_513 50 1 x0_.list.length c0_513.flatten, .fr z.2.2.2.2]) (fun z=>k25 (z.1,z.2.1,z.2.2.2.1)=some r∧SI x0_.start.1 z.2.1 k19_ z.2.2.1∧F6.toFrz.Le z.2.2.2.2.toFrz) ?_ ?_
        ·refine T.block (dk ?_);refine cK (Yv.cg 3 (i:=i_20) rfl rfl rfl rfl rfl a5) ?_;refine cK (Yv.ca 3 rfl rfl rfl a5 ((zff _ (OwnD.mono (rep:=cH) (fun _ _ _ _=>R_List_GChoice.mono) h0_513 le1_6).2.1 i_20 (by have:=(OwnD.mono (rep:=cH) (fun _ _ _ _=>R_List_GChoice.mono) h0_513 le1_6).1;omega) 0 a6).trans (R_List_GChoice.c0 ((OwnD.mono (rep:=cH) (fun _ _ _ _=>R_List_GChoice.mono) h0_513 le1_6).2.2 i_20 a5)).1)) ?_;have hd45_0:=(R_List_GChoice.c0 ((OwnD.mono (rep:=cH) (fun _ _ _ _=>R_List_GChoice.mono) h0_513 le1_6).2.2 i_20 a5)).2;haveI:=hd45_0.oneC;refine kU ?_;have hq:=dZ hk;clear hk;obtain ⟨r49,hr49,hk⟩:=hq; (try dsimp only at hk);refine i1 ?_;refine cT (eW [0,1,4,2,3] [ex k19_ v19_ Lm_17 (!m_17.2), .row g10 204 (c_18.1.map vI)] [.row g0_ 144 ((x0_.domains.1.map U)++([.pointer (some ⟨k0_512.sp,0,none⟩),v0_513]:List Value)), .sl v0_513 50 1 x0_.list.length c0_513.flatten] rfl rfl rfl rfl a6 (fun w hw hw2 hF=>zgI _ w hF x0_.start.1 m_17 k19_ v19_ Lm_17 hsm_17 (tf19.mono le2_6) c_18 g10 (cI x0_.list i_20) (cI (cI c0_513 i_20) 0) hd45_0 (htk hw) hw2.takes.1 hw2.takes.2 (hw2.takes0 hM0 htab.pos) r49 hr49)) ?_;rintro _ _ ⟨⟨⟩, -,rfl,rfl⟩;refine fD ?_;refine eM ?_;refine gB ?_;rintro _ _ ⟨g13,rfl,rfl⟩;refine kH ?_;refine jl ?_;refine jo ?_;refine T.cond rfl (fun h26=>?_) (fun h26=>?_)
         ·replace hk:=dp hk h26;refine T.exit (fu (iQ ?_));refine K.pick [1,2,4,5,3] rfl a6 ?_;exact cS (changed_16,m_17,Lm_17,c_18,F6) ⟨hk,hsm_17,(Frz.Le.refl _)⟩ (.c (.c (.c (.c (.c (.c (.c .nil))))))) (List.Sublist.refl _)
         ·replace hk:=dn hk h26;refine jx ?_;refine dd ?_;refine cK (dh rfl rfl hd45_0 (List.length_map _)) ?_;have hm55:(cI x0_.list i_20).length≤9223372036854775807:=(List.length_map _)▸hd45_0.max;refine dD ?_;refine T.cond rfl (fun h27=>?_) (fun h27=>?_)
          ·have p27:=of_decide_eq_true h27;replace hk:=dp hk h27;refine jX ?_;refine c4 (T.ret (dX (fi (dX (dX (fi (fi (dX (fi (dX ?_))))))))));obtain rfl:=Option.some.inj hk;exact q47
          ·have p27:=of_decide_eq_false h27;replace hk:=dn hk h27;refine jf ?_;have hq:=dZ hk;clear hk;obtain ⟨r59,hr59,hk⟩:=hq; (try dsimp only at hk);refine it ?_;refine ij ?_;refine cT (lA 1 rfl rfl rfl rfl (fun w hw=>zkO hsm_17 (tf19.mono le2_6) (hw.get (i:=1) rfl) (hw.fr (i:=3) rfl) (hw.apartF (i:=1) (j:=3) rfl rfl a6) (htk hw) hfu r49.1 hr59)) ?_;rintro _ _ ⟨L59_,hs59,rfl,rfl⟩;refine iS ?_;refine dd ?_;refine cT (cL rfl rfl rfl (fun w hw=>zeP hs59 (tf19.mono le2_6) (hw.get (i:=1) rfl) (hw.fr (i:=3) rfl) (htk hw))) ?_;refine eP ?_;refine c4 ?_;refine T.cond rfl (fun h28=>?_) (fun h28=>?_)
           ·replace hk:=dp hk h28;refine jX ?_;refine c4 (T.ret (dX (fi (dX (dX (fi (fi (dX (fi (dX ?_))))))))));obtain rfl:=Option.some.inj hk;exact q47
           ·replace hk:=dn hk h28;refine mj ?_;have hq:=dZ hk;clear hk;obtain ⟨r63,hr63,hk⟩:=hq; (try dsimp only at hk);refine it ?_;refine cT (ez [1,3,0,2,4,5] [ex k19_ v19_ L59_ (!r59.1.2)] [.row g13 68 [.int .i64 r49.1.Station, .int .i64 r49.1.Channel], .row g10 204 (c_18.1.map vI), .row g0_ 144 ((x0_.domains.1.map U)++([.pointer (some ⟨k0_512.sp,0,none⟩),v0_513]:List Value)), .sl v0_513 50 1 x0_.list.length c0_513.flatten] rfl rfl rfl rfl a6 (fun w hw hw2 hF=>zdZ _ w hF x0_.start.1 r59.1 k19_ v19_ L59_ hs59 (tf19.mono le2_6) (htk hw) hw2.takes.1 hw2.takes.2 (hw2.takes0 hM0 htab.pos) r63 hr63)) ?_;rintro _ _ ⟨⟨⟩,F8,le6_8, -,rfl,rfl⟩;refine fD ?_;refine ek (du 3 rfl rfl rfl rfl Vec.len (Vec.len.trans Vec.len.symm)) ?_;refine jL ?_;refine TL.nil (fS ?_);refine K.pick [0,3,4,5,1] rfl a6 ?_;exact cS (true,r59.1,L59_,r63,F8) ⟨hk,hs59,le6_8⟩ (.c (.c (.c (.c (.c (.c (.c .nil))))))) (List.Sublist.refl _)
        ·rintro ⟨changed_22,m_23,Lm_23,c_24,F7⟩ ⟨hk,hsm_23,le6_7⟩; (try dsimp only at *);rw [←hk25] at hk; (try dsimp only at hk);have le5_7:=le5_6.trans le6_7;refine eS ?_;refine j0 ?_;rw [←hn19] at hk;exact K.next ((i_20+1),changed_22,m_23,Lm_23,c_24,F7) ⟨hk,hsm_23,le5_7⟩ a9 (.c (.c (.c (.c (.c (.c (.c .nil))))))) (List.Sublist.refl _)
       ·have p21:=of_decide_eq_false h21;rw [fA a5,←hkk19] at hk; (try dsimp only at hk);refine T.exit (fu (fu (iQ (fS ?_))));rw [←hn12] at hk;refine K.pick [0,2,3,4] rfl a6 ?_;exact K.next (m_13',changed_16,m_17,Lm_17,F6) ⟨hk,hsm_17,le2_6⟩ a9 (.c (.c (.c .nil))) (List.Sublist.refl _)
    ·replace hk:=dn hk h14;refine eF ?_;exact cS (m_11,Lm_11,F4) ⟨hk,hsm_11,le2_4⟩ (.c .nil) (List.Sublist.refl _)
  ·rintro ⟨m_8,Lm_8,F3⟩ ⟨hk,hsm_8,le2_3⟩; (try dsimp only at *);rw [←hk9] at hk; (try dsimp only at hk);have le1_3:=le1_2.trans le2_3;refine dk ?_;refine eM ?_;refine gb ?_;obtain rfl:=Option.some.inj hk;exact eC rfl rfl rfl (fun w' hw=>⟨fun _=>⟨(k19_,v19_,Lm_8),F3.toFrz,⟨hsm_8,(tf19.mono le2_3)⟩,rfl,dt (hw.pick (idx:=[1,2,0,3]) rfl a6) hS0 le1_3⟩,fun h=>(by cases h)⟩)
def zaH (fuel:Nat)(x0_:GStore)(g_:List GChoice):Option (Bool×Int):=
 (bif (zao x0_) then
  some (false,1)
  else
  (zaB x0_ g_).bind fun r12=>
  (bif !r12 then
   some (false,2)
   else
   (zaI fuel x0_ g_).bind fun r17=>
   (bif (r17.1).isSome then
    some (r17.2,0)
    else
    some (r17.2,0))))
theorem zcl (F0:Frz)(w:World)(hF0:F0.At w)(x0_:GStore)(g0_:Nat)(k0_512:SK)(v0_512:Value)(L0_512:Ws)(hs0_512:SI x0_.start.1 x0_.start.2 k0_512 L0_512)(tf0_512:TbF F0 k0_512)(zf0_512:SzF F0 k0_512 v0_512 L0_512 (!x0_.start.2.2))(v0_513:Value)(c0_513:List (List Value))(h0_513:OwnD cH F0 1 c0_513 x0_.list)(g_:List GChoice)(vg_:Value)(hg_:SlC F0 vg_ 2 (g_.map cU))(htab:Tab w)(hO:Hp w (dz [.row g0_ 144 ((x0_.domains.1.map U)++[.pointer (some ⟨k0_512.sp,0,none⟩),v0_513]), .sl v0_513 50 1 x0_.list.length c0_513.flatten]) [.row g0_ 144 ((x0_.domains.1.map U)++[.pointer (some ⟨k0_512.sp,0,none⟩),v0_513]), .sl v0_513 50 1 x0_.list.length c0_513.flatten] w)(hA:∀g,dz [.row g0_ 144 ((x0_.domains.1.map U)++[.pointer (some ⟨k0_512.sp,0,none⟩),v0_513]), .sl v0_513 50 1 x0_.list.length c0_513.flatten] g→¬F0.S g)(hZ:¬dz [.row g0_ 144 ((x0_.domains.1.map U)++[.pointer (some ⟨k0_512.sp,0,none⟩),v0_513]), .sl v0_513 50 1 x0_.list.length c0_513.flatten] 0)(fuel:Nat)(hfu:100000≤fuel)(r:Bool×Int)(hr:zaH fuel x0_ g_=some r):Calls Tryz.prog 75 #[.pointer (some ⟨g0_,0,none⟩),vg_] w fun e w'=>∃(y:Unit) (G:Frz),(True)∧e= .returned (.tuple #[.bool r.1, .int .i64 r.2])∧FxM F0 w (dz [.row g0_ 144 ((x0_.domains.1.map U)++[.pointer (some ⟨k0_512.sp,0,none⟩),v0_513]), .sl v0_513 50 1 x0_.list.length c0_513.flatten]) G [.row g0_ 144 ((x0_.domains.1.map U)++[.pointer (some ⟨k0_512.sp,0,none⟩),v0_513]), .sl v0_513 50 1 x0_.list.length c0_513.flatten] w':=by
 have hk:=hr;unfold zaH at hk;haveI:=hg_.oneC;haveI:=li (hO.own (.sl v0_513 50 1 x0_.list.length c0_513.flatten) a8);have hmx0_513:=kR (hO.own (.sl v0_513 50 1 x0_.list.length c0_513.flatten) a8);obtain ⟨S0,F1,rfl,hS0,hp0⟩:=kS hF0 hO hA;have hM0:=hZ;have htk:∀ {hs:HS} {w':World},Hp w (dz [.row g0_ 144 ((x0_.domains.1.map U)++[.pointer (some ⟨k0_512.sp,0,none⟩),v0_513]), .sl v0_513 50 1 x0_.list.length c0_513.flatten]) hs w'→Tab w':=fun hw=>htab.kept hw hZ;refine dv (hs:=[.row g0_ 144 ((x0_.domains.1.map U)++[.pointer (some ⟨k0_512.sp,0,none⟩),v0_513]), .sl v0_513 50 1 x0_.list.length c0_513.flatten, .fr F1]) Tryz.func75 rfl rfl rfl hp0 ?_;refine jX ?_;refine iS ?_;refine dd ?_;refine q07 ?_;rintro _ _ ⟨⟨⟩, -,rfl,rfl⟩;refine fD ?_;refine c4 ?_;refine T.cond rfl (fun h1=>?_) (fun h1=>?_)
 ·replace hk:=dp hk h1;refine la ?_;obtain rfl:=Option.some.inj hk;exact q48
 ·replace hk:=dn hk h1;refine q31 ?_;have hq:=dZ hk;clear hk;obtain ⟨r12,hr12,hk⟩:=hq; (try dsimp only at hk);refine i1 ?_;refine cT (eW [0,1,2] [.row g0_ 144 ((x0_.domains.1.map U)++([.pointer (some ⟨k0_512.sp,0,none⟩),v0_513]:List Value)), .sl v0_513 50 1 x0_.list.length c0_513.flatten] [] rfl rfl rfl rfl a6 (fun w hw hw2 hF=>zbL _ w hF x0_ g0_ k0_512 v0_512 L0_512 hs0_512 tf0_512 zf0_512 v0_513 c0_513 h0_513 g_ vg_ hg_ hw2.takes.1 hw2.takes.2 r12 hr12)) ?_;rintro _ _ ⟨⟨⟩, -,rfl,rfl⟩;refine fD ?_;refine dD ?_;refine T.cond rfl (fun h2=>?_) (fun h2=>?_)
  ·replace hk:=dp hk h2;refine la ?_;obtain rfl:=Option.some.inj hk;exact q48
  ·replace hk:=dn hk h2;refine jf ?_;have hq:=dZ hk;clear hk;obtain ⟨r17,hr17,hk⟩:=hq; (try dsimp only at hk);refine lj ((r17.1).isSome) (fun h3=>?_) (fun h3=>?_)
   ·replace hk:=dp hk h3;refine i1 ?_;refine cT (ez [0,1,2] [.row g0_ 144 ((x0_.domains.1.map U)++([.pointer (some ⟨k0_512.sp,0,none⟩),v0_513]:List Value)), .sl v0_513 50 1 x0_.list.length c0_513.flatten] [] rfl rfl rfl rfl a6 (fun w hw hw2 hF=>(zbB _ w hF x0_ g0_ k0_512 v0_512 L0_512 hs0_512 tf0_512 zf0_512 v0_513 c0_513 h0_513 g_ vg_ hg_ (htk hw) hw2.takes.1 hw2.takes.2 (hw2.takes0 hM0 htab.pos) fuel hfu r17 hr17).mono (fun e w' hp=>hp.1 h3))) ?_;rintro _ _ ⟨⟨k17_n,v17_n,L17_n⟩,F2,le1_2,⟨hs17_n,tf17_n⟩,rfl,rfl⟩;refine fD ?_; (try dsimp only at hs17_n tf17_n);refine TL.run 5 rfl ?_;refine dV ?_;refine eM ?_;refine gb ?_;obtain rfl:=Option.some.inj hk;exact eC rfl rfl rfl (fun w' hw=>⟨⟨⟩,F2.toFrz,trivial,rfl,dt (hw.pick (idx:=[0,1,3]) rfl a6) hS0 le1_2⟩)
   ·replace hk:=dn hk h3;refine i1 ?_;refine cT (ez [0,1,2] [.row g0_ 144 ((x0_.domains.1.map U)++([.pointer (some ⟨k0_512.sp,0,none⟩),v0_513]:List Value)), .sl v0_513 50 1 x0_.list.length c0_513.flatten] [] rfl rfl rfl rfl a6 (fun w hw hw2 hF=>(zbB _ w hF x0_ g0_ k0_512 v0_512 L0_512 hs0_512 tf0_512 zf0_512 v0_513 c0_513 h0_513 g_ vg_ hg_ (htk hw) hw2.takes.1 hw2.takes.2 (hw2.takes0 hM0 htab.pos) fuel hfu r17 hr17).mono (fun e w' hp=>hp.2 h3))) ?_;rintro _ _ ⟨⟨⟩,F3,le1_3, -,rfl,rfl⟩;refine fD ?_;refine TL.run 5 rfl ?_;refine dV ?_;refine eM ?_;refine gb ?_;obtain rfl:=Option.some.inj hk;exact eC rfl rfl rfl (fun w' hw=>⟨⟨⟩,F3.toFrz,trivial,rfl,dt (hw.pick (idx:=[0,1,2]) rfl a6) hS0 le1_3⟩)
def zcU (fuel:Nat)(p:GProblem):Option (Option GStore×Int):=
 (bif gJ p then
  (zba fuel p p.Domains).bind fun r8=>
  (zbT p).bind fun r15=>
  some (some (GStore.mk r15 (p,r8) []),0)
  else
  some (none,2))
theorem zfI (F0:Frz)(w:World)(hF0:F0.At w)(p:GProblem)(vp_0:Value)(cp_0:List (List Value))(hp_0:SlD cJ F0 vp_0 2 cp_0 p.Domains)(vp_1:Value)(hp_1:SlC F0 vp_1 5 (p.Rules.Pairs.map cN))(vp_2:Value)(hp_2:SlC F0 vp_2 5 (p.Rules.Loads.map cO))(vp_3:Value)(hp_3:SlC F0 vp_3 4 (p.Rules.Caps.map cR))(htab:Tab w)(fuel:Nat)(hfu:100000≤fuel)(r:Option GStore×Int)(hr:zcU fuel p=some r):Calls Tryz.prog 74 #[.agg [vp_0,vp_1,vp_2,vp_3].toArray] w fun e w'=>((r.1).isSome=true→∃(y:Nat×SK×Value×Ws×Value×List (List Value)) (G:Frz),(SI ((r.1.getD default).start).1 ((r.1.getD default).start).2 y.2.1 y.2.2.2.1∧TbF G y.2.1∧SzF G y.2.1 y.2.2.1 y.2.2.2.1 (!((r.1.getD default).start).2.2)∧OwnD cH G 1 y.2.2.2.2.2 ((r.1.getD default).list))∧e= .returned (.tuple #[.pointer (some ⟨y.1,0,none⟩), .int .i64 r.2])∧FxM F0 w (dz []) G [.row y.1 144 ((((r.1.getD default).domains).1.map U)++[.pointer (some ⟨y.2.1.sp,0,none⟩),y.2.2.2.2.1]), .sl y.2.2.2.2.1 50 1 ((r.1.getD default).list).length y.2.2.2.2.2.flatten] w')∧((r.1).isSome=false→∃(y:Unit) (G:Frz),(True)∧e= .returned (.tuple #[.pointer none, .int .i64 r.2])∧FxM F0 w (dz []) G [] w'):=by
 have hk:=hr;unfold zcU at hk;haveI:=hp_0.1.oneC;haveI:=hp_1.oneC;haveI:=hp_2.oneC;haveI:=hp_3.oneC;obtain ⟨S0,F1,rfl,hS0,hp0⟩:=eX hF0;rw [zgL];have hM0:¬(fun _:Nat=>False) 0:=fun h=>h;have htk:∀ {hs:HS} {w':World},Hp w (fun _=>False) hs w'→Tab w':=fun hw=>htab.keptF hw;refine dv Tryz.func74 rfl rfl rfl hp0 ?_;refine iW ?_;rintro _ _ ⟨g1,rfl,rfl⟩;refine eh ?_;refine ky ?_;refine lj (gJ p) (fun h1=>?_) (fun h1=>?_)
 ·replace hk:=dp hk h1;have hq:=dZ hk;clear hk;obtain ⟨r8,hr8,hk⟩:=hq; (try dsimp only at hk);refine eS ?_;refine ij ?_;refine cT (ez [1,0] [] [.row g1 29 [vp_0,vp_1,vp_2,vp_3]] rfl rfl rfl rfl a6 (fun w hw hw2 hF=>zn8 (p:=p) hF ⟨hp_0,hp_1,hp_2,hp_3⟩ (htk hw) h1 hfu hr8)) ?_;rintro _ _ ⟨⟨k8_,v8_,L8_⟩,F2,le1_2,⟨hs8,tf8⟩,rfl,rfl⟩;refine fD ?_; (try dsimp only at hs8 tf8);refine q14 ?_;refine ii rfl rfl ?_;refine jf ?_;refine mP (fun w hw=>hw.freezeSt (i:=1) (j:=0) a6 rfl rfl) ?_;rintro F3 ⟨le2_3,zf3⟩;refine iG ?_;have le1_3:=le1_2.trans le2_3;have hq:=dZ hk;clear hk;obtain ⟨r15,hr15,hk⟩:=hq; (try dsimp only at hk);refine mR ?_;refine cT (cL rfl rfl rfl (fun w hw=>zfO _ w (hw.fr (i:=0) rfl) p vp_0 cp_0 (SlD.mono (rep:=cJ) (fun _ _ _ _=>GDomain.mono) hp_0 le1_3) vp_1 (SlC.mono hp_1 le1_3) vp_2 (SlC.mono hp_2 le1_3) vp_3 (SlC.mono hp_3 le1_3) r15 hr15)) ?_;refine jL ?_;refine cK (Yv.bQ rfl rfl (l0:=(((Vec.fill 512 (0#64)).1.map U)++[.pointer none,(.slice none 0 0)])) (l:=((r15.1.map U)++[.pointer (some ⟨k8_.sp,0,none⟩),(.slice none 0 0)])) a7 (zeg (off:=0) a7 rfl Vec.len (zgY (Vec.len.trans Vec.len.symm)) (by simp only [Nat.zero_add,Vec.len];rw [(zda Vec.len (show List.length _=2 from rfl))];decide) (zeg (off:=512) a7 (OneC.cells inferInstance) rfl (zfu (off:=512) (by rw [(zda Vec.len (show List.length _=2 from rfl))]; (try simp only [List.length_cons,List.length_nil]);decide) (zgT (by rfl) (zgZ Vec.len (rfl:([.pointer none,(.slice none 0 0)]:List Value).set 0 _=_)))) (by rw [(zda Vec.len (show List.length _=2 from rfl))]; (try simp only [List.length_cons,List.length_nil]);decide) rfl))) ?_;refine q3Z ?_;rintro _ _ ⟨g18,rfl,rfl⟩;refine TL.slNil 50 1 ?_;refine j3 ?_;obtain rfl:=Option.some.inj hk;exact eC rfl rfl rfl (fun w' hw=>⟨fun _=>⟨(g18,k8_,v8_,L8_,(.slice none 0 0),[]),F3.toFrz,⟨hs8,(tf8.mono le2_3),zf3,(OwnD.nil _ _ 1)⟩,rfl,dt (hw.pick (idx:=[1,0,2]) rfl a6) hS0 le1_3⟩,fun h=>(by cases h)⟩)
 ·replace hk:=dn hk h1;refine eS ?_;refine ij ?_;refine cT (cL rfl rfl rfl (fun w hw=>zlX (p:=p) (hw.fr (i:=1) rfl) ⟨hp_0,hp_1,hp_2,hp_3⟩ h1)) ?_;refine eP ?_;refine q14 ?_;refine l7 rfl rfl ?_;refine dk ?_;refine eM ?_;refine j8 ?_;obtain rfl:=Option.some.inj hk;exact eC rfl rfl rfl (fun w' hw=>⟨fun h=>(by cases h),fun _=>⟨⟨⟩,F1.toFrz,trivial,rfl,dt (hw.pick (idx:=[1]) rfl a6) hS0 (Frz.Le.refl _)⟩⟩)
def orK (k:IntKind)(a b:Int):Int:=k.wrap ((BitVec.ofInt k.bits a ||| BitVec.ofInt k.bits b).toNat:Int)
def u8s (xs:List Int):List UInt8:=xs.map fun n=>UInt8.ofNat n.toNat
theorem zny (z:Int):IntKind.u64.wrap z=((BitVec.ofInt 64 z).toNat:Int):=by
 rw [BitVec.toNat_ofInt];simp only [IntKind.wrap,IntKind.signed,IntKind.bits,Bool.false_and];simp;omega
theorem zmS {α:Type}[Inhabited α]{enc:α→List Value}{size:Nat}(he:∀y,(enc y).length=size)(hs:0<size)(x:α)(n:Nat):(madeCells (enc x).toArray (n*size)).toList=(List.replicate n x).flatMap enc:=by
 apply List.ext_getElem?;intro i; (have hl:((List.replicate n x).flatMap enc).length=n*size:=by rw [zmj enc size he];simp);by_cases hi:i<n*size
 ·have hq:i / size<n:=Nat.div_lt_of_lt_mul (by rw [Nat.mul_comm];exact hi);have hj:i % size<size:=Nat.mod_lt _ hs;have e:i=i / size*size+i % size:=(Nat.div_add_mod' i size).symm
  have e2:((List.replicate n x).flatMap enc)[i]?=(enc x)[i % size]?:=by
   conv=>lhs;rw [e]
   rw [zf0 enc size he _ _ (by simpa using hq) _ hj];simp
  rw [e2]; (have hj2:i % size<(enc x).length:=by rw [he];exact hj);simp [madeCells,hi,he,List.getElem?_eq_getElem hj2]
 ·rw [List.getElem?_eq_none (by simp [madeCells];omega),List.getElem?_eq_none (by rw [hl];omega)]
section
variable {P:Program}{n:Nat}{B D:World}{M S0:Nat→Prop}{fs:dR}{hs:HS}{o:Oper}{v:Value}
theorem Ew.cr {α : Type} [Inhabited α] {t e : TypeId} {size bytes n' : Nat} {z : List Value} {x y : Operand} {q q' : IntKind} {xi : Int} {enc : α → List Value} {u : α} [hT : TyE P t e size bytes z] (ho : o.op = .makeSlice t x y) (hx : ev fs x = some (.int q xi)) (hy : ev fs y = some (.int q' xi)) (hn : xi = (n' : Int)) (hr : dl n' bytes) (hb : 0 < bytes) (hp : 0 < size) (he : ∀ v, (enc v).length = size) (hz : enc u = z) :
    Ew P n B M fs hs o (fun v hs' => OneC v ∧ hs' = .sl v e size (List.replicate n' u).length ((List.replicate n' u).flatMap enc) :: hs) := fun F hF Q K a w ha hw k => by
  have hle : n' ≤ 140737488355328 := Nat.le_trans (Nat.le_mul_of_pos_right _ hb) hr; refine Ew.makeSlice ho hx hy hn hn a5 (by rw [Nat.mul_comm]; have h := hr; unfold dl at h; omega) F hF Q K a w ha hw (fun v w' hs' h1 h2 h3 => ?_); obtain ⟨g, rfl, rfl⟩ := h3;refine k _ w' _ h1 ?_ ⟨⟨rfl⟩, rfl⟩; rw [← zmS he hp u n', hz, List.length_replicate]; exact h2
theorem Yv.orK {x y:Operand}{t u:TypeId}{k:IntKind}{a b:Int}(ho:o.op= .binOp .or t x y u)(hx:ev fs x=some (.int k a))(hy:ev fs y=some (.int k b)):Yv P n B M fs hs o (.int k (orK k a b)):=fun f w ha _=>by
 unfold execOp;simp [ho,ha.ev hx,ha.ev hy,eqGuard,binOp,Op.intBits,Go.Proofs.YtogbggmckmnlfaaGreatDoor.orK]
theorem mU {s t:TypeId}{k k':IntKind}{z:Int}{x:Operand}[hS:TyI P s k'][hT:TyI P t k](ho:o.op= .convert s t x)(hx:ev fs x=some (.int k' z)):Yv P n B M fs hs o (.int k (k.wrap z)):=fun a w ha _=>by
 have h:=hT.h;have h':=hS.h;unfold znC at h h'
 split at h
 ·rename_i q hU
  cases h
  split at h'
  ·rename_i q' hU'
   cases h'
   unfold execOp;simp [ho,ha.ev hx,convert,underlying,hU,hU',Conv.intToInt]
  ·cases h'
 ·cases h
theorem Yv.bW {s t:TypeId}{k':IntKind}{z:Int}{x:Operand}[hS:TyI P s k'][hT:TyI P t .u64](ho:o.op= .convert s t x)(hx:ev fs x=some (.int k' z)):Yv P n B M fs hs o (U (BitVec.ofInt 64 z)):=(mU ho hx).eq (by rw [zny])
theorem Yv.cC (ix:Nat){F:FzB B M S0}{s t e:TypeId}{xs:List Int}{x:Operand}(hs1:P.underlying s=some (.slice e))(he:P.underlying e=some (.int .u8))(ht:P.underlying t=some .string)(ho:o.op= .convert s t x)(hx:ev fs x=some v)(hF:hs[ix]?=some (.fr F))(h:SlC F.toFrz v 1 (xs.map (eK .u8))):Yv P n B M fs hs o (.string ⟨(u8s xs).toArray⟩):=fun a w ha hw=>by
 obtain ⟨A,cap,rfl,h2,h3,h4,h5⟩:=h;unfold execOp
 cases xs with
 |nil=>
  have:(convert s t (.slice A ([].map (eK .u8)).length cap)).run P w= .ok (.string ⟨#[]⟩) w:=by
   rw [run_convert_bytes_string w s t e A _ cap hs1 he ht]
   cases A with
   |none=>rfl
   |some b=>
    rw [run_bytesToString (P:=P) w b _ cap [] (by rfl)];rfl
  simp [ho,ha.ev hx] at this ⊢;rw [this];rfl
 |cons z r=>
  obtain ⟨g,off,rfl,hg,hc⟩:=h5 a8;have hl:(List.map (eK .u8) (z :: r)).length=(z :: r).length:=List.length_map _
  have:=run_convert_bytes_arg (P:=P) w s e hs1 he g off (z :: r).length cap (z :: r) rfl (fun i hi=>by
   have h6:=Cs.at (hw.fr hF) hg (hc i (by rw [hl];exact hi)) 0 (by rw [jm hi];simp);rw [jm hi] at h6;rw [show off+i=off+i*1+0 by omega,h6,dS hi]
   simp [List.getElem?_eq_getElem hi,List.getD_eq_getElem?_getD]) t ht
  rw [hl] at hx;simp [ho,ha.ev hx] at this ⊢;rw [this];rfl
theorem Yv.ct {x y:Operand}{t u:TypeId}{a b:List UInt8}(ho:o.op= .binOp .eql t x y u)(hx:ev fs x=some (.string ⟨a.toArray⟩))(hy:ev fs y=some (.string ⟨b.toArray⟩)):Yv P n B M fs hs o (.bool (a == b)):=fun f w ha _=>by
 unfold execOp;simp [ho,ha.ev hx,ha.ev hy,eqGuard,binOp,Op.stringOp,ByteArray.toList_eq]
end
def zaR (x0_:GStore):Option (Option GStore):=
 (bif (zao x0_) then
  some none
  else
  eg (dl x0_.list.length 24) <|
  some (some (GStore.mk x0_.domains (x0_.start.1,x0_.start.2) x0_.list)))
theorem za9 (F0:Frz)(w:World)(hF0:F0.At w)(x0_:GStore)(g0_:Nat)(k0_512:SK)(v0_512:Value)(L0_512:Ws)(hs0_512:SI x0_.start.1 x0_.start.2 k0_512 L0_512)(tf0_512:TbF F0 k0_512)(zf0_512:SzF F0 k0_512 v0_512 L0_512 (!x0_.start.2.2))(v0_513:Value)(c0_513:List (List Value))(h0_513:OwnD cH F0 1 c0_513 x0_.list)(htab:Tab w)(hO:Hp w (dz [.row g0_ 144 ((x0_.domains.1.map U)++[.pointer (some ⟨k0_512.sp,0,none⟩),v0_513]), .sl v0_513 50 1 x0_.list.length c0_513.flatten]) [.row g0_ 144 ((x0_.domains.1.map U)++[.pointer (some ⟨k0_512.sp,0,none⟩),v0_513]), .sl v0_513 50 1 x0_.list.length c0_513.flatten] w)(hA:∀g,dz [.row g0_ 144 ((x0_.domains.1.map U)++[.pointer (some ⟨k0_512.sp,0,none⟩),v0_513]), .sl v0_513 50 1 x0_.list.length c0_513.flatten] g→¬F0.S g)(hZ:¬dz [.row g0_ 144 ((x0_.domains.1.map U)++[.pointer (some ⟨k0_512.sp,0,none⟩),v0_513]), .sl v0_513 50 1 x0_.list.length c0_513.flatten] 0)(r:Option GStore)(hr:zaR x0_=some r):Calls Tryz.prog 46 #[.pointer (some ⟨g0_,0,none⟩)] w fun e w'=>((r).isSome=true→∃(y:Nat×SK×Value×Ws×Value×List (List Value)) (G:Frz),(SI ((r.getD default).start).1 ((r.getD default).start).2 y.2.1 y.2.2.2.1∧TbF G y.2.1∧SzF G y.2.1 y.2.2.1 y.2.2.2.1 (!((r.getD default).start).2.2)∧OwnD cH G 1 y.2.2.2.2.2 ((r.getD default).list))∧e= .returned (.pointer (some ⟨y.1,0,none⟩))∧FxM F0 w (dz [.row g0_ 144 ((x0_.domains.1.map U)++[.pointer (some ⟨k0_512.sp,0,none⟩),v0_513]), .sl v0_513 50 1 x0_.list.length c0_513.flatten]) G [.row g0_ 144 ((x0_.domains.1.map U)++[.pointer (some ⟨k0_512.sp,0,none⟩),v0_513]), .sl v0_513 50 1 x0_.list.length c0_513.flatten, .row y.1 144 ((((r.getD default).domains).1.map U)++[.pointer (some ⟨y.2.1.sp,0,none⟩),y.2.2.2.2.1]), .sl y.2.2.2.2.1 50 1 ((r.getD default).list).length y.2.2.2.2.2.flatten] w')∧((r).isSome=false→∃(y:Unit) (G:Frz),(True)∧e= .returned (.pointer none)∧FxM F0 w (dz [.row g0_ 144 ((x0_.domains.1.map U)++[.pointer (some ⟨k0_512.sp,0,none⟩),v0_513]), .sl v0_513 50 1 x0_.list.length c0_513.flatten]) G [.row g0_ 144 ((x0_.domains.1.map U)++[.pointer (some ⟨k0_512.sp,0,none⟩),v0_513]), .sl v0_513 50 1 x0_.list.length c0_513.flatten] w'):=by
 have hk:=hr;unfold zaR at hk;haveI:=li (hO.own (.sl v0_513 50 1 x0_.list.length c0_513.flatten) a8);have hmx0_513:=kR (hO.own (.sl v0_513 50 1 x0_.list.length c0_513.flatten) a8);obtain ⟨S0,F1,rfl,hS0,hp0⟩:=kS hF0 hO hA;have hM0:=hZ;have htk:∀ {hs:HS} {w':World},Hp w (dz [.row g0_ 144 ((x0_.domains.1.map U)++[.pointer (some ⟨k0_512.sp,0,none⟩),v0_513]), .sl v0_513 50 1 x0_.list.length c0_513.flatten]) hs w'→Tab w':=fun hw=>htab.kept hw hZ;refine dv (hs:=[.row g0_ 144 ((x0_.domains.1.map U)++[.pointer (some ⟨k0_512.sp,0,none⟩),v0_513]), .sl v0_513 50 1 x0_.list.length c0_513.flatten, .fr F1]) Tryz.func46 rfl rfl rfl hp0 ?_;refine i5 ?_;refine q07 ?_;rintro _ _ ⟨⟨⟩, -,rfl,rfl⟩;refine fD ?_;refine c4 ?_;refine T.cond rfl (fun h1=>?_) (fun h1=>?_)
 ·replace hk:=dp hk h1;refine ik ?_;obtain rfl:=Option.some.inj hk;exact cX rfl rfl (fun w' hw=>⟨fun h=>(by cases h),fun _=>⟨⟨⟩,F1.toFrz,trivial,rfl,dt (hw.pick (idx:=[0,1,2]) rfl a6) hS0 (Frz.Le.refl _)⟩⟩)
 ·replace hk:=dn hk h1;refine jf ?_;have hq:(dl x0_.list.length 24)∧_:=fQ hk;clear hk;obtain ⟨g18,hk⟩:=hq; (try dsimp only at hk);refine dI (sN 0 8 (sN 9 4 (.eff 8 (.eff 13 (.still 14 (.eff 15 (.still 16 .done))))))) _ a7 (List.Sublist.refl _) ?_;refine ji ?_;refine cP rfl (mN 0 (m:=(x0_.domains.1.map U)) rfl rfl rfl (znw Vec.len) Vec.len) ?_;refine ji ?_;refine cP rfl (c7 0 rfl rfl rfl (lB a5 (zdN Vec.len (show [.pointer (some ⟨k0_512.sp,0,none⟩),v0_513][0]?=some _ from rfl)))) ?_;refine ji ?_;refine cP rfl (c7 0 rfl rfl rfl (lB a5 (zdN Vec.len (show [.pointer (some ⟨k0_512.sp,0,none⟩),v0_513][1]?=some _ from rfl)))) ?_;refine dy ?_;refine c6 rfl (Wt.none) rfl rfl (ez [2,0,1] [] [.row g0_ 144 ((x0_.domains.1.map U)++([.pointer (some ⟨k0_512.sp,0,none⟩),v0_513]:List Value)), .sl v0_513 50 1 x0_.list.length c0_513.flatten] rfl rfl rfl rfl a6 (fun w hw hw2 hF=>zli hs0_512 tf0_512 (zf0_512 w hF) hF (htk hw))) ?_;rintro _ _ ⟨⟨k13_,v13_⟩,F2,le1_2,⟨hs13,tf13⟩,rfl,rfl⟩;refine fD ?_; (try dsimp only at hs13 tf13);refine ⟨(fun w hw=>(hw.frLe (i:=1) rfl le1_2).pick (idx:=[2,3,1]) rfl a6),?_⟩;refine TS.aV (fun w hw=>hw.freezeSt (i:=1) (j:=0) a6 rfl rfl) ?_;rintro F3 ⟨le2_3,zf3⟩;refine iG ?_;have le1_3:=le1_2.trans le2_3;refine dy ?_;refine c6 rfl (Wt.none) rfl rfl (jg rfl rfl rfl (fun w hw=>(hw.bor (i:=0) (j:=2) rfl rfl).elim fun F9 b=>have le3_4:=b.1.le;have le1_4:=le1_3.trans le3_4;have le2_4:=le2_3.trans le3_4;zfv F9 w b.1.at_ x0_.list v0_513 c0_513 (b.2.toD (OwnD.mono (rep:=cH) (fun _ _ _ _=>R_List_GChoice.mono) h0_513 le1_4) rfl) g18)) ?_;rintro v18_ _ ⟨_,_,rfl,rfl⟩;refine fD ?_;refine ⟨(fun w hw=>(hw.frLe (i:=1) rfl le1_3).pick (idx:=[2,3,1]) rfl a6),?_⟩;refine m6 0 rfl ?_;intro iv18_ hmv18_;refine cP rfl (Yv.bQ rfl rfl (l0:=(((Vec.fill 512 (0#64)).1.map U)++[.pointer none,(.slice none 0 0)])) (l:=((x0_.domains.1.map U)++[.pointer (some ⟨k13_.sp,0,none⟩),v18_])) a7 (zeg (off:=0) a7 rfl Vec.len (zgY (Vec.len.trans Vec.len.symm)) (by simp only [Nat.zero_add,Vec.len];rw [(zda Vec.len (show List.length _=2 from rfl))];decide) (zeg (off:=512) a7 (OneC.cells inferInstance) rfl (zfu (off:=512) (by rw [(zda Vec.len (show List.length _=2 from rfl))]; (try simp only [List.length_cons,List.length_nil]);decide) (zgT (by rfl) (zgZ Vec.len (rfl:([.pointer none,(.slice none 0 0)]:List Value).set 0 _=_)))) (by rw [(zda Vec.len (show List.length _=2 from rfl))]; (try simp only [List.length_cons,List.length_nil]);decide) (zeg (off:=513) a7 (OneC.cells inferInstance) rfl (zfu (off:=513) (by rw [(zda Vec.len (show List.length _=2 from rfl))]; (try simp only [List.length_cons,List.length_nil]);decide) (zgT (by rfl) (zgZ Vec.len (rfl:([.pointer (some ⟨k13_.sp,0,none⟩),(.slice none 0 0)]:List Value).set 1 _=_)))) (by rw [(zda Vec.len (show List.length _=2 from rfl))]; (try simp only [List.length_cons,List.length_nil]);decide) rfl)))) ?_;refine dy ?_;refine c6 rfl (Wt.none) rfl rfl (dC) ?_;rintro _ _ ⟨g20,rfl,rfl⟩;refine ⟨(fun w hw=>(hw.frLe (i:=2) rfl le1_3).pick (idx:=[3,4,2]) rfl a6),?_⟩;refine fe ?_
  refine fc ?_;refine K.seq (T.ret ?_);obtain rfl:=Option.some.inj hk;exact cX rfl rfl (fun w' hw=>⟨fun _=>⟨(g20,k13_,v13_,L0_512,v18_,c0_513),F3.toFrz,⟨hs13,(tf13.mono le2_3),zf3,(OwnD.mono (rep:=cH) (fun _ _ _ _=>R_List_GChoice.mono) h0_513 le1_3)⟩,rfl,dt (hw.pick (idx:=[3,4,0,1,2]) rfl a6) hS0 le1_3⟩,fun h=>(by cases h)⟩)
structure GSet where
 words:Vec 8 (BitVec 64)
deriving DecidableEq,Inhabited
abbrev m2 (x:GSet):List Value:=(x.words.1.map U)
theorem GSet.len (x:GSet):(m2 x).length=8:=Vec.len
def zaX (i:Int):Bool:=
 ((decide (0≤i))&&(decide (i<512)))
theorem zdW (F0:Frz)(w:World)(hF0:F0.At w)(i:Int):Calls Tryz.prog 78 #[.int .i64 i] w fun e w'=>e= .returned (.bool (zaX i))∧Below w.heap.size w w':=by
 obtain ⟨r,hk⟩:∃r,zaX i=r:=⟨_,rfl⟩;rw [hk];unfold zaX at hk;obtain ⟨S0,F1,rfl,hS0,hp0⟩:=eX hF0;refine dv Tryz.func78 rfl rfl rfl hp0 ?_;refine eO ?_;refine dc (ι:=Unit) (fun z=>[(2, .bool ((decide (0≤i))&&(decide (i<512))))]) (fun z=>[.fr F1]) (fun z=>True) ?_ ?_
 ·refine eS ?_;refine eM ?_;refine dw rfl rfl rfl (fun h1=>?_) (fun h1=>?_)
  ·have p1:=of_decide_eq_true h1;refine ku ?_;exact q4u
  ·have p1:=of_decide_eq_false h1;refine ku ?_;exact q4v
 ·rintro _ _;refine T.ret ?_;subst hk;exact d7
def zbK (l:List Int):Option (GSet×Int):=
 dL (fun (s3:Vec 8 (BitVec 64)×Vec 8 (BitVec 64))=>
  some ((GSet.mk s3.2),0))
 (fun k3=>
  da (fun (i_7:Nat) (next6:(Vec 8 (BitVec 64)×Vec 8 (BitVec 64))→Option (GSet×Int)) (s6:Vec 8 (BitVec 64)×Vec 8 (BitVec 64))=>
   (bif !(zaX (cI l i_7)) then
    some ((GSet.mk (Vec.fill 8 (0#64))),2)
    else
    eg (0≤(cI l i_7)∧(cI l i_7)≤9223372036854775807∧1≤(64:Int)) <|
    eg (0≤((cI l i_7) / 64)∧((cI l i_7) / 64)<(8:Int)) <|
    eg (0≤(cI l i_7)∧1≤(64:Int)) <|
    eg (0≤((cI l i_7) % 64)∧((cI l i_7) % 64)<(64:Int)) <|
    next6 (s6.1,(Vec.put s6.2 (((cI l i_7) / 64).toNat) ((Vec.get s6.2 (((cI l i_7) / 64).toNat)) ||| ((1#64) <<< (((cI l i_7) % 64).toNat)))))))
  (fun (s6:Vec 8 (BitVec 64)×Vec 8 (BitVec 64))=>
   k3 (s6.1,s6.2)) (l.length - 0) 0 ((Vec.fill 8 (0#64)),(Vec.fill 8 (0#64))))
theorem zdM (F0:Frz)(w:World)(hF0:F0.At w)(l:List Int)(vl:Value)(hl:SlC F0 vl 1 (l.map eI))(r:GSet×Int)(hr:zbK l=some r):Calls Tryz.prog 41 #[vl] w fun e w'=>e= .returned (.tuple #[.agg (r.1.words.1.map U).toArray, .int .i64 r.2])∧Below w.heap.size w w':=by
 have hk:=hr;unfold zbK at hk;haveI:=hl.oneC;obtain ⟨S0,F1,rfl,hS0,hp0⟩:=eX hF0;refine dv Tryz.func41 rfl rfl rfl hp0 ?_;refine dk ?_;refine q1R ?_;rintro _ _ ⟨g2,rfl,rfl⟩;refine gy ?_;refine q1R ?_;rintro _ _ ⟨g4,rfl,rfl⟩;refine iS ?_;refine dd ?_;refine q2k ?_;have hm8:l.length≤9223372036854775807:=(List.length_map _)▸hl.max;refine dD ?_;have hq:=em hk;clear hk;obtain ⟨k3,hk3,hk⟩:=hq; (try dsimp only at hk);refine dc (ι:=Vec 8 (BitVec 64)×Vec 8 (BitVec 64)) (fun z=>[(2, .pointer (some ⟨g2,0,none⟩)),(4, .pointer (some ⟨g4,0,none⟩))]) (fun z=>[.row g2 83 (z.1.1.map U), .row g4 83 (z.2.1.map U), .fr F1]) (fun z=>k3 (z.1,z.2)=some r) ?_ ?_
 ·have hq:=fx hk;clear hk;obtain ⟨f6,kk6,hf6,hkk6,hk⟩:=hq;refine q4d ?_;refine T.loop (ι:=Nat×Vec 8 (BitVec 64)×Vec 8 (BitVec 64)) (fun z=>[(2, .pointer (some ⟨g2,0,none⟩)),(4, .pointer (some ⟨g4,0,none⟩)),(7,vl),(8, .int .i64 (l.length:Int)),(9, .int .i64 (z.1:Int))]) (fun z=>[.row g2 83 (z.2.1.1.map U), .row g4 83 (z.2.2.1.map U), .fr F1]) (fun z=>da f6 kk6 (l.length - z.1) z.1 (z.2.1,z.2.2)=some r) (fun z=>l.length - z.1) (0,(Vec.fill 8 (0#64)),(Vec.fill 8 (0#64))) ?_ ?_ ?_ ?_
  ·exact hk
  ·exact lQ
  ·exact eQ
  ·rintro ⟨i_7,c_4,c_5⟩ hk; (try dsimp only at *);refine eO ?_;refine T.cond rfl (fun h8=>?_) (fun h8=>?_)
   ·have p8:=of_decide_eq_true h8;rw [fw a5] at hk;generalize hn6:da f6 kk6 (l.length - (i_7+1)) (i_7+1)=next6 at hk;rw [←hf6] at hk; (try dsimp only at hk);refine fv ?_;refine cK (dg (i:=i_7) rfl rfl rfl hl (List.length_map _) rfl a5) ?_;refine cK (d6 2 (i:=i_7) (j:=0) rfl rfl rfl hl a5) ?_;refine mX ?_;refine cT (cL rfl rfl rfl (fun w hw=>zdW _ w (hw.fr (i:=2) rfl) (cI l i_7))) ?_;refine eP ?_;refine dD ?_;refine T.cond rfl (fun h9=>?_) (fun h9=>?_)
    ·replace hk:=dp hk h9;refine dk ?_;refine cK ((Yv.build).eq (v:= .agg ((Vec.fill 8 (0#64)).1.map U).toArray) a7) ?_;refine q1u ?_;refine dd ?_;refine q2b ?_;obtain rfl:=Option.some.inj hk;exact gX 0 rfl rfl rfl rfl Vec.len (fun w' hw=>⟨rfl,hw.isBelow⟩)
    ·replace hk:=dn hk h9;refine mj ?_;have hq:(0≤(cI l i_7)∧(cI l i_7)≤9223372036854775807∧1≤(64:Int))∧_:=fQ hk;clear hk;obtain ⟨g18,hk⟩:=hq;have hq:(0≤((cI l i_7) / 64)∧((cI l i_7) / 64)<(8:Int))∧_:=fQ hk;clear hk;obtain ⟨g20,hk⟩:=hq;have hq:(0≤(cI l i_7)∧1≤(64:Int))∧_:=fQ hk;clear hk;obtain ⟨g23,hk⟩:=hq;have hq:(0≤((cI l i_7) % 64)∧((cI l i_7) % 64)<(64:Int))∧_:=fQ hk;clear hk;obtain ⟨g24,hk⟩:=hq; (try dsimp only at hk);refine dI (sN 0 4 (sN 5 3 (.still 9 (.eff 4 (.still 8 (.still 10 (.eff 11 .done))))))) [.row g2 83 (c_4.1.map U), .fr F1] a7 Sx ?_;refine fe ?_;refine cP rfl (jQ rfl rfl rfl g18) ?_;refine fT ?_;refine cP rfl (dW (i:=((cI l i_7) / 64).toNat) rfl rfl rfl a5 a5) ?_;refine fe ?_;refine cP rfl (jc rfl rfl rfl g23) ?_;refine cP rfl (gu (a:=1#64) (((cI l i_7) % 64).toNat) rfl rfl rfl a5 a5) ?_;refine lk ?_;refine ga rfl (Wt.none) rfl rfl (c7 1 rfl rfl rfl (lB a5 (Vec.cell (i:=((cI l i_7) / 64).toNat) a5))) (fun w hw=>hw.sub Sx) ?_;refine cP rfl (iF (a:=(Vec.get c_5 (((cI l i_7) / 64).toNat))) (b:=((1#64) <<< (((cI l i_7) % 64).toNat)))) ?_;refine cP rfl (dW (i:=((cI l i_7) / 64).toNat) rfl rfl rfl a5 a5) ?_;refine dy ?_;refine iK rfl (Wt.none) rfl (gV 1 ((Vec.put c_5 (((cI l i_7) / 64).toNat) ((Vec.get c_5 (((cI l i_7) / 64).toNat)) ||| ((1#64) <<< (((cI l i_7) % 64).toNat)))).1.map U) rfl rfl rfl rfl b4 (zgT a5 (Vec.upd (x:=c_5) (f:=U) (i:=((cI l i_7) / 64).toNat) (v:=((Vec.get c_5 (((cI l i_7) / 64).toNat)) ||| ((1#64) <<< (((cI l i_7) % 64).toNat)))) a5))) ?_;refine jZ ?_;refine q1x ?_;rw [←hn6] at hk;exact K.next ((i_7+1),c_4,(Vec.put c_5 (((cI l i_7) / 64).toNat) ((Vec.get c_5 (((cI l i_7) / 64).toNat)) ||| ((1#64) <<< (((cI l i_7) % 64).toNat))))) hk a9 (.c (.c (.c (.c (.c .nil))))) (List.Sublist.refl _)
   ·have p8:=of_decide_eq_false h8;rw [fA a5,←hkk6] at hk; (try dsimp only at hk);refine eF ?_;exact cS (c_4,c_5) hk (.c (.c .nil)) (List.Sublist.refl _)
 ·rintro ⟨c_1,c_2⟩ hk; (try dsimp only at *);rw [←hk3] at hk; (try dsimp only at hk);refine dk ?_;refine cK (d5 1 rfl rfl rfl Vec.len) ?_;refine q1u ?_;refine fo ?_;obtain rfl:=Option.some.inj hk;exact gX 0 rfl rfl rfl rfl Vec.len (fun w' hw=>⟨rfl,hw.isBelow⟩)
def lI (s:GSet)(i:Int):Option Bool:=
 dL (fun (x_1:Bool)=>
  some x_1)
 (fun k2=>
  (bif (zaX i) then
   eg (0≤i∧i≤9223372036854775807∧1≤(64:Int)) <|
   eg (0≤(i / 64)∧(i / 64)<(8:Int)) <|
   eg (0≤i∧1≤(64:Int)) <|
   eg (0≤(i % 64)∧(i % 64)<(64:Int)) <|
   k2 (decide (((((Vec.get s.words ((i / 64).toNat)) >>> ((i % 64).toNat)) &&& (1#64)).toNat:Int)=((1#64).toNat:Int)))
   else
   k2 false))
theorem zaA (F0:Frz)(w:World)(hF0:F0.At w)(s:GSet)(i:Int)(r:Bool)(hr:lI s i=some r):Calls Tryz.prog 43 #[.agg (s.words.1.map U).toArray, .int .i64 i] w fun e w'=>e= .returned (.bool r)∧Below w.heap.size w w':=by
 have hk:=hr;unfold lI at hk;obtain ⟨S0,F1,rfl,hS0,hp0⟩:=eX hF0;refine dv Tryz.func43 rfl rfl rfl hp0 ?_;refine iW ?_;rintro _ _ ⟨g2,rfl,rfl⟩;refine kU ?_; (try dsimp only at hk);have hq:=em hk;clear hk;obtain ⟨k2,hk2,hk⟩:=hq; (try dsimp only at hk);refine dc (ι:=Bool) (fun z=>[(4, .bool z)]) (fun z=>[.fr F1]) (fun z=>k2 z=some r) ?_ ?_
 ·refine it ?_;refine cT (cL rfl rfl rfl (fun w hw=>zdW _ w (hw.fr (i:=1) rfl) i)) ?_;refine jL ?_;refine dw rfl rfl rfl (fun h3=>?_) (fun h3=>?_)
  ·replace hk:=dp hk h3;refine dd ?_;have hq:(0≤i∧i≤9223372036854775807∧1≤(64:Int))∧_:=fQ hk;clear hk;obtain ⟨g9,hk⟩:=hq;refine cK (jQ rfl rfl rfl g9) ?_;refine fj ?_;have hq:(0≤(i / 64)∧(i / 64)<(8:Int))∧_:=fQ hk;clear hk;obtain ⟨g11,hk⟩:=hq;refine cK (dW (i:=(i / 64).toNat) rfl rfl rfl a5 a5) ?_;refine cK (c7 0 rfl rfl rfl (lB a5 (Vec.cell (i:=(i / 64).toNat) a5))) ?_;refine dd ?_;have hq:(0≤i∧1≤(64:Int))∧_:=fQ hk;clear hk;obtain ⟨g14,hk⟩:=hq;refine cK (jc rfl rfl rfl g14) ?_;have hq:(0≤(i % 64)∧(i % 64)<(64:Int))∧_:=fQ hk;clear hk;obtain ⟨g15,hk⟩:=hq;refine cK (fR (a:=(Vec.get s.words ((i / 64).toNat))) ((i % 64).toNat) rfl rfl rfl a5 a5) ?_;refine cK (fU (a:=((Vec.get s.words ((i / 64).toNat)) >>> ((i % 64).toNat))) (b:=1#64)) ?_;refine eM ?_;refine fG ?_;refine q2N ?_;exact cS (decide (((((Vec.get s.words ((i / 64).toNat)) >>> ((i % 64).toNat)) &&& (1#64)).toNat:Int)=((1#64).toNat:Int))) hk (.c .nil) (List.Sublist.refl _)
  ·replace hk:=dn hk h3;refine TL.run 12 rfl ?_;refine fG ?_;refine q2N ?_;exact q4p
 ·rintro x_1 hk;rw [←hk2] at hk; (try dsimp only at hk);refine T.ret ?_;obtain rfl:=Option.some.inj hk;exact d7
def zbn (x_:Int):Bool:=
 (decide (¬x_=x_))
theorem zdX (F0:Frz)(w:World)(hF0:F0.At w)(x_:Int):Calls Tryz.prog 140 #[.int .i64 x_] w fun e w'=>e= .returned (.bool (zbn x_))∧Below w.heap.size w w':=by
 obtain ⟨r,hk⟩:∃r,zbn x_=r:=⟨_,rfl⟩;rw [hk];unfold zbn at hk;obtain ⟨S0,F1,rfl,hS0,hp0⟩:=eX hF0;refine dv Tryz.func140 rfl rfl rfl hp0 ?_;refine q3K ?_;refine TL.run 4 rfl ?_;refine gb ?_;subst hk;exact d7
def za4 (x_:Int)(y:Int):Int:=
 (bif (zbn x_) then
  (bif (zbn y) then
   0
   else
   (-1))
  else
  (bif (zbn y) then
   1
   else
   (bif decide (x_<y) then
    (-1)
    else
    (bif decide (y<x_) then
     1
     else
     0))))
theorem ze3 (F0:Frz)(w:World)(hF0:F0.At w)(x_:Int)(y:Int):Calls Tryz.prog 107 #[.int .i64 x_, .int .i64 y] w fun e w'=>e= .returned (.int .i64 (za4 x_ y))∧Below w.heap.size w w':=by
 obtain ⟨r,hk⟩:∃r,za4 x_ y=r:=⟨_,rfl⟩;rw [hk];unfold za4 at hk;obtain ⟨S0,F1,rfl,hS0,hp0⟩:=eX hF0;refine dv Tryz.func107 rfl rfl rfl hp0 ?_;refine f7 ?_;refine jW ?_;refine cT (cL rfl rfl rfl (fun w hw=>zdX _ w (hw.fr (i:=0) rfl) x_)) ?_;refine eP ?_;refine ln ?_;refine cT (cL rfl rfl rfl (fun w hw=>zdX _ w (hw.fr (i:=0) rfl) y)) ?_;refine eP ?_;refine jl ?_;refine dD ?_;refine T.cond rfl (fun h1=>?_) (fun h1=>?_)
 ·replace hk:=dp hk h1;refine mD ?_;refine T.cond rfl (fun h2=>?_) (fun h2=>?_)
  ·replace hk:=dp hk h2;refine f7 ?_;refine c4 (T.ret (dX (dX ?_)));subst hk;exact d7
  ·replace hk:=dn hk h2;refine iD ?_;refine dd ?_;refine j8 ?_;subst hk;exact d7
 ·replace hk:=dn hk h1;refine jx ?_;refine dD ?_;refine T.cond rfl (fun h3=>?_) (fun h3=>?_)
  ·replace hk:=dp hk h3;refine ik ?_;subst hk;exact d7
  ·replace hk:=dn hk h3;refine jx ?_;refine eM ?_;refine c4 ?_;refine T.cond rfl (fun h4=>?_) (fun h4=>?_)
   ·have p4:=of_decide_eq_true h4;replace hk:=dp hk h4;refine ik ?_;subst hk;exact d7
   ·have p4:=of_decide_eq_false h4;replace hk:=dn hk h4;refine jx ?_;refine eM ?_;refine c4 ?_;refine T.cond rfl (fun h5=>?_) (fun h5=>?_)
    ·have p5:=of_decide_eq_true h5;replace hk:=dp hk h5;refine ik ?_;subst hk;exact d7
    ·have p5:=of_decide_eq_false h5;replace hk:=dn hk h5;refine iD ?_;refine fo ?_;subst hk;exact d7
def zan (s:GSet)(o:GSet):Bool:=
 dL (fun (_:Unit)=>
  true)
 (fun k1=>
  da (fun (i_3:Nat) (next2:Unit→Bool) (_:Unit)=>
   (bif decide (¬(((Vec.get s.words i_3) &&& ~~~(Vec.get o.words i_3)).toNat:Int)=((0#64).toNat:Int)) then
    false
    else
    next2 ()))
  (fun (_:Unit)=>
   k1 ()) (8 - 0) 0 ())
theorem zcv (F0:Frz)(w:World)(hF0:F0.At w)(s:GSet)(o:GSet):Calls Tryz.prog 116 #[.agg (s.words.1.map U).toArray, .agg (o.words.1.map U).toArray] w fun e w'=>e= .returned (.bool (zan s o))∧Below w.heap.size w w':=by
 obtain ⟨r,hk⟩:∃r,zan s o=r:=⟨_,rfl⟩;rw [hk];unfold zan at hk;obtain ⟨S0,F1,rfl,hS0,hp0⟩:=eX hF0;refine dv Tryz.func116 rfl rfl rfl hp0 ?_;refine iW ?_;rintro _ _ ⟨g2,rfl,rfl⟩;refine q3Z ?_;rintro _ _ ⟨g3,rfl,rfl⟩;refine jl ?_;refine fj ?_;refine cK (d5 1 rfl rfl rfl Vec.len) ?_;refine dD ?_;have hq:=em hk;clear hk;obtain ⟨k1,hk1,hk⟩:=hq; (try dsimp only at hk);refine dc (ι:=Unit) (fun z=>[]) (fun z=>[.fr F1]) (fun z=>k1 ()=r) ?_ ?_
 ·have hq:=fx hk;clear hk;obtain ⟨f2,kk2,hf2,hkk2,hk⟩:=hq;refine fm ?_;refine T.pick [0,2] rfl a6 ?_;refine T.loop (ι:=Nat) (fun z=>[(3, .pointer (some ⟨g3,0,none⟩)),(8, .agg (s.words.1.map U).toArray),(9, .int .i64 (z:Int))]) (fun z=>[.row g3 83 (o.words.1.map U), .fr F1]) (fun z=>da f2 kk2 (8 - z) z ()=r) (fun z=>8 - z) 0 ?_ ?_ ?_ ?_
  ·exact hk
  ·exact q4m
  ·exact eQ
  ·rintro i_3 hk;refine eO ?_;refine T.cond rfl (fun h4=>?_) (fun h4=>?_)
   ·have p4:=of_decide_eq_true h4;rw [fw a5] at hk;generalize hn2:da f2 kk2 (8 - (i_3+1)) (i_3+1)=next2 at hk;rw [←hf2] at hk; (try dsimp only at hk);refine fv ?_;refine dd ?_;refine cK (mS (i:=i_3) rfl rfl rfl rfl a5 (Vec.cell a5)) ?_;refine eh ?_;refine dV ?_;refine eh ?_;refine fj ?_;refine cK (dW (i:=i_3) rfl rfl rfl rfl a5) ?_;refine cK (c7 0 rfl rfl rfl (lB a5 (Vec.cell (i:=i_3) a5))) ?_;refine cK (lr rfl rfl rfl) ?_;refine dD ?_;refine T.cond rfl (fun h5=>?_) (fun h5=>?_)
    ·replace hk:=dp hk h5;refine iu ?_;subst hk;exact d7
    ·replace hk:=dn hk h5;refine gU ?_;rw [←hn2] at hk;exact q4t
   ·have p4:=of_decide_eq_false h4;rw [fA a5,←hkk2] at hk; (try dsimp only at hk);refine eF ?_;refine q2N ?_;exact kx
 ·rintro _ hk;rw [←hk1] at hk; (try dsimp only at hk);refine kd ?_;subst hk;exact d7
end Go.Proofs.YtogbggmckmnlfaaGreatDoor
