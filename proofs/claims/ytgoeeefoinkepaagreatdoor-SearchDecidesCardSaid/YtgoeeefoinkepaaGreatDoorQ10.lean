/- Yo It Yr Ly Kf Kd: shortened and put together by squeeze.py. -/
import Derived.Test.YtgoeeefoinkepaaGreatDoorQ09
import Derived.Shelf.SlSortCmp.WholeK
import Derived.Shelf.SlicesG.Cmp
import Derived.Ground.SlsfProg
import Derived.Ground.SlgcProg
import Derived.Test.YtgoeeefoinkepaaGreatDoorProg
import Derived.Shelf.SlSortCmp.NoneTotal
import Derived.Shelf.RegionOpenPlain
import Derived.WalkKit
import Derived.Deep.LoopGhost
import Derived.Deep.RegionLaw
import Derived.Lib.Walk
import Derived.Sort.WalkB12
import Derived.Lib.SliceRun
import Derived.Lib.SlicesDelete
import Derived.Lib.Hide
set_option maxRecDepth 100000
set_option maxHeartbeats 4000000
set_option linter.unusedVariables false
set_option linter.unusedSectionVars false
set_option linter.unusedSimpArgs false
namespace Go.Proofs.YtgoeeefoinkepaaGreatDoor
open Go.RowKit
structure GStore where
 domains:Vec 512 (BitVec 64)
 start:GProblem×(List GDomain×Bool)
 list:List (List GChoice)
deriving Inhabited
def zbk (n:Int)(low:Int)(high:Int):Bool:=
 ((decide (low≤n))&&(decide (n≤high)))
theorem zdq (F0:Frz)(w:World)(hF0:F0.At w)(n:Int)(low:Int)(high:Int):Calls Tryz.prog 60 #[.int .i64 n, .int .i64 low, .int .i64 high] w fun e w'=>e= .returned (.bool (zbk n low high))∧Below w.heap.size w w':=by
 obtain ⟨r,hk⟩:∃r,zbk n low high=r:=⟨_,rfl⟩;rw [hk];unfold zbk at hk;obtain ⟨S0,F1,rfl,hS0,hp0⟩:=fX hF0;refine dB Tryz.func60 rfl rfl rfl hp0 ?_;refine fk ?_;refine dg (ι:=Unit) (fun z=>[(6, .bool ((decide (low≤n))&&(decide (n≤high))))]) (fun z=>[.fr F1]) (fun z=>True) ?_ ?_
 ·refine fN ?_;refine TL.run 4 rfl ?_;refine du rfl rfl rfl (fun h1=>?_) (fun h1=>?_)
  ·have p1:=of_decide_eq_true h1;refine q3k ?_;exact q4j
  ·have p1:=of_decide_eq_false h1;refine q3k ?_;exact q37
 ·rintro _ _;refine T.ret ?_;subst hk;exact eX
def zbp (n:Int):Bool:=
 (zbk n 0 511)
theorem zeO (F0:Frz)(w:World)(hF0:F0.At w)(n:Int):Calls Tryz.prog 59 #[.int .i64 n] w fun e w'=>e= .returned (.bool (zbp n))∧Below w.heap.size w w':=by
 obtain ⟨r,hk⟩:∃r,zbp n=r:=⟨_,rfl⟩;rw [hk];unfold zbp at hk;obtain ⟨S0,F1,rfl,hS0,hp0⟩:=fX hF0;refine dB Tryz.func59 rfl rfl rfl hp0 ?_;refine l5 ?_;refine df (cL rfl rfl rfl (fun w hw=>zdq _ w (hw.fr (i:=0) rfl) n 0 511)) ?_;refine eB ?_;refine fB ?_;subst hk;exact eX
def kR (l:List GChoice):Bool:=
 dO (fun (_:Unit)=>
  true)
 (fun k1=>
  dh (fun (i_3:Nat) (next2:Unit→Bool) (_:Unit)=>
   (bif ((!(zbp ((cH l i_3).Station)))||(!(zbk ((cH l i_3).Channel) 2 51))) then
    false
    else
    (bif ((decide (0<(i_3:Int)))&&(decide ((cH l i_3).Station≤(cH l (((i_3:Int) - 1).toNat)).Station))) then
     false
     else
     next2 ())))
  (fun (_:Unit)=>
   k1 ()) (l.length - 0) 0 ())
theorem zbM (F0:Frz)(w:World)(hF0:F0.At w)(l:List GChoice)(vl:Value)(hl:SlC F0 vl 2 (l.map cG)):Calls Tryz.prog 26 #[vl] w fun e w'=>e= .returned (.bool (kR l))∧Below w.heap.size w w':=by
 obtain ⟨r,hk⟩:∃r,kR l=r:=⟨_,rfl⟩;rw [hk];unfold kR at hk;haveI:=hl.oneC;obtain ⟨S0,F1,rfl,hS0,hp0⟩:=fX hF0;refine dB Tryz.func26 rfl rfl rfl hp0 ?_;refine jB ?_;refine q2c ?_;have hm6:l.length≤9223372036854775807:=(List.length_map _)▸hl.max;refine dR ?_;have hq:=fq hk;clear hk;obtain ⟨k1,hk1,hk⟩:=hq; (try dsimp only at hk);refine dg (ι:=Unit) (fun z=>[]) (fun z=>[.fr F1]) (fun z=>k1 ()=r) ?_ ?_
 ·have hq:=gF hk;clear hk;obtain ⟨f2,kk2,hf2,hkk2,hk⟩:=hq;refine fV ?_;refine T.loop (ι:=Nat) (fun z=>[(0,vl),(5,vl),(6, .int .i64 (l.length:Int)),(7, .int .i64 (z:Int))]) (fun z=>[.fr F1]) (fun z=>dh f2 kk2 (l.length - z) z ()=r) (fun z=>l.length - z) 0 ?_ ?_ ?_ ?_
  ·exact hk
  ·exact mc
  ·exact fQ
  ·rintro i_3 hk;refine fk ?_;refine T.cond rfl (fun h4=>?_) (fun h4=>?_)
   ·have p4:=of_decide_eq_true h4;rw [gH a6] at hk;generalize hn2:dh f2 kk2 (l.length - (i_3+1)) (i_3+1)=next2 at hk;rw [←hf2] at hk; (try dsimp only at hk);refine fT ?_;refine dc ?_;refine q2J ?_;refine cK (eD 0 (i:=i_3) rfl rfl rfl hl a6) ?_;refine iJ ?_;rintro _ _ ⟨g4,rfl,rfl⟩;refine dc ?_;refine jX ?_;refine cR (T.seq (T.seq ?_));refine dg (ι:=Unit) (fun z=>[(0,vl),(3, .int .i64 (i_3:Int)),(4, .pointer (some ⟨g4,0,none⟩)),(5,vl),(6, .int .i64 (l.length:Int)),(7, .int .i64 (i_3:Int)),(21, .bool ((!(zbp ((cH l i_3).Station)))||(!(zbk ((cH l i_3).Channel) 2 51))))]) (fun z=>[.row g4 34 [.int .i64 ((cH l i_3).Station), .int .i64 ((cH l i_3).Channel)], .fr F1]) (fun z=>True) ?_ ?_
    ·refine fN ?_;refine em ?_;refine df (cL rfl rfl rfl (fun w hw=>zeO _ w (hw.fr (i:=1) rfl) ((cH l i_3).Station))) ?_;refine eB ?_;refine ec ?_;refine du rfl rfl rfl (fun h5=>?_) (fun h5=>?_)
     ·refine q3k ?_;exact cP () trivial (.c (.c (.c (.c (.c (.c (.b (iz h5).symm .nil))))))) (List.Sublist.refl _)
     ·refine em ?_;refine df (cL rfl rfl rfl (fun w hw=>zdq _ w (hw.fr (i:=1) rfl) ((cH l i_3).Channel) 2 51)) ?_;refine eB ?_;refine lH ?_;exact cP () trivial (.c (.c (.c (.c (.c (.c (.b (iA h5) .nil))))))) (List.Sublist.refl _)
    ·rintro _ _;refine T.cond rfl (fun h6=>?_) (fun h6=>?_)
     ·replace hk:=dH hk h6;refine ic ?_;refine cR (T.ret (dZ (eV (dZ (dZ (eV (dZ ?_)))))));subst hk;exact eX
     ·replace hk:=dL hk h6;refine ks ?_;refine dg (ι:=Unit) (fun z=>[(0,vl),(5,vl),(6, .int .i64 (l.length:Int)),(7, .int .i64 (i_3:Int)),(34, .bool ((decide (0<(i_3:Int)))&&(decide ((cH l i_3).Station≤(cH l (((i_3:Int) - 1).toNat)).Station))))]) (fun z=>[.row g4 34 [.int .i64 ((cH l i_3).Station), .int .i64 ((cH l i_3).Channel)], .fr F1]) (fun z=>True) ?_ ?_
      ·refine q1e ?_;refine fU ?_;refine dz rfl rfl rfl rfl (fun h7=>?_) (fun h7=>?_)
       ·have p7:=of_decide_eq_true h7;refine q2P ?_;refine cN rfl (ek 1 (i:=((i_3:Int) - 1).toNat) (j:=0) rfl rfl rfl hl a6) ?_;refine eW ?_;refine gE ?_;refine fv ?_;exact cP () trivial (.c (.c (.c (.c (.b (kJ h7) .nil))))) (List.Sublist.refl _)
       ·have p7:=of_decide_eq_false h7;refine TS.run 10 rfl ?_;refine fv ?_;exact cP () trivial (.c (.c (.c (.c (.b (fA h7).symm .nil))))) (List.Sublist.refl _)
      ·rintro _ _;refine T.cond rfl (fun h8=>?_) (fun h8=>?_)
       ·have p8:=h8; (try simp only [cT] at p8);replace hk:=dH hk h8;refine jc ?_;subst hk;exact eX
       ·replace hk:=dL hk h8;refine iK ?_;rw [←hn2] at hk;refine mY ?_;exact q4s
   ·have p4:=of_decide_eq_false h4;rw [gK a6,←hkk2] at hk; (try dsimp only at hk);refine fu ?_;exact mg
 ·rintro _ hk;rw [←hk1] at hk; (try dsimp only at hk);refine ld ?_;subst hk;exact eX
def zbS (p:GProblem):Option (Vec 512 (BitVec 64)):=
 dO (fun (c_1:Vec 512 (BitVec 64))=>
  some c_1)
 (fun k2=>
  dh (fun (i_5:Nat) (next4:Vec 512 (BitVec 64)→Option (Vec 512 (BitVec 64))) (c_3:Vec 512 (BitVec 64))=>
   ex (0≤(cH p.Domains i_5).Station∧(cH p.Domains i_5).Station<(512:Int)) <|
   dh (fun (i_9:Nat) (next8:Vec 512 (BitVec 64)→Option (Vec 512 (BitVec 64))) (c_7:Vec 512 (BitVec 64))=>
    ex (0≤(cH ((cH p.Domains i_5).Channels) i_9)∧(cH ((cH p.Domains i_5).Channels) i_9)<(64:Int)) <|
    next8 (Vec.put c_7 (((cH p.Domains i_5).Station).toNat) ((Vec.get c_7 (((cH p.Domains i_5).Station).toNat)) ||| ((1#64) <<< ((cH ((cH p.Domains i_5).Channels) i_9).toNat)))))
   (fun (c_7:Vec 512 (BitVec 64))=>
    next4 c_7) ((((cH p.Domains i_5).Channels).length) - 0) 0 (Vec.put c_3 (((cH p.Domains i_5).Station).toNat) (1#64)))
  (fun (c_3:Vec 512 (BitVec 64))=>
   k2 c_3) (p.Domains.length - 0) 0 (Vec.fill 512 (0#64)))
theorem zfI (F0:Frz)(w:World)(hF0:F0.At w)(p:GProblem)(vp_0:Value)(cp_0:List (List Value))(hp_0:SlD cJ F0 vp_0 2 cp_0 p.Domains)(vp_1:Value)(hp_1:SlC F0 vp_1 5 (p.Rules.Pairs.map da))(vp_2:Value)(hp_2:SlC F0 vp_2 5 (p.Rules.Loads.map de))(vp_3:Value)(hp_3:SlC F0 vp_3 4 (p.Rules.Caps.map dk))(r:Vec 512 (BitVec 64))(hr:zbS p=some r):Calls Tryz.prog 68 #[.agg [vp_0,vp_1,vp_2,vp_3].toArray] w fun e w'=>e= .returned (.agg (r.1.map U).toArray)∧Below w.heap.size w w':=by
 have hk:=hr;unfold zbS at hk;haveI:=hp_0.1.oneC;haveI:=hp_1.oneC;haveI:=hp_2.oneC;haveI:=hp_3.oneC;obtain ⟨S0,F1,rfl,hS0,hp0⟩:=fX hF0;refine dB Tryz.func68 rfl rfl rfl hp0 ?_;refine jI ?_;rintro _ _ ⟨g1,rfl,rfl⟩;refine df (mA (l:=((Vec.fill 512 (0#64)).1.map U)) rfl a8) ?_;rintro _ _ ⟨g2,rfl,rfl⟩;refine dq ?_;refine df (mA (l:=((Vec.fill 512 (0#64)).1.map U)) rfl a8) ?_;rintro _ _ ⟨g3,rfl,rfl⟩;refine ij ?_;refine q18 ?_;refine q2l ?_;have hm10:p.Domains.length≤9223372036854775807:=hp_0.2.1▸hp_0.1.max;refine dR ?_;have hq:=fq hk;clear hk;obtain ⟨k2,hk2,hk⟩:=hq; (try dsimp only at hk);refine dg (ι:=Vec 512 (BitVec 64)) (fun z=>[(2, .pointer (some ⟨g2,0,none⟩)),(3, .pointer (some ⟨g3,0,none⟩))]) (fun z=>[.row g3 119 (z.1.map U), .row g2 119 ((Vec.fill 512 (0#64)).1.map U), .fr F1]) (fun z=>k2 z=some r) ?_ ?_
 ·have hq:=gF hk;clear hk;obtain ⟨f4,kk4,hf4,hkk4,hk⟩:=hq;refine fV ?_;refine T.pick [0,1,3] rfl a7 ?_;refine T.loop (ι:=Nat×Vec 512 (BitVec 64)) (fun z=>[(2, .pointer (some ⟨g2,0,none⟩)),(3, .pointer (some ⟨g3,0,none⟩)),(9,vp_0),(10, .int .i64 (p.Domains.length:Int)),(11, .int .i64 (z.1:Int))]) (fun z=>[.row g3 119 (z.2.1.map U), .row g2 119 ((Vec.fill 512 (0#64)).1.map U), .fr F1]) (fun z=>dh f4 kk4 (p.Domains.length - z.1) z.1 z.2=some r) (fun z=>p.Domains.length - z.1) (0,(Vec.fill 512 (0#64))) ?_ ?_ ?_ ?_
  ·exact hk
  ·exact q4h
  ·exact fQ
  ·rintro ⟨i_5,c_3⟩ hk; (try dsimp only at *);refine fk ?_;refine T.cond rfl (fun h6=>?_) (fun h6=>?_)
   ·have p6:=of_decide_eq_true h6;rw [gH a6] at hk;generalize hn4:dh f4 kk4 (p.Domains.length - (i_5+1)) (i_5+1)=next4 at hk;rw [←hf4] at hk; (try dsimp only at hk);refine fT ?_;refine cK (dj (i:=i_5) rfl rfl rfl hp_0.1 hp_0.2.1 rfl a6) ?_;refine cK (jk 2 (i:=i_5) (j:=0) rfl rfl rfl hp_0.1 hp_0.2.1 a6 rfl (ey (hp_0.2.2 i_5 a6)) rfl) ?_;have hd14_1:=(GDomain.c1 (hp_0.2.2 i_5 a6)).2;haveI:=hd14_1.oneC;refine iJ ?_;rintro _ _ ⟨g5,rfl,rfl⟩;refine q2H ?_;have hq:(0≤(cH p.Domains i_5).Station∧(cH p.Domains i_5).Station<(512:Int))∧_:=gZ hk;clear hk;obtain ⟨g17,hk⟩:=hq; (try dsimp only at hk);refine fN ?_;refine em ?_;refine cK (ed (i:=((cH p.Domains i_5).Station).toNat) rfl rfl rfl a6 a6) ?_;refine fM (iL 1 ((Vec.put c_3 (((cH p.Domains i_5).Station).toNat) (1#64)).1.map U) rfl rfl rfl rfl b7 (zi3 a6 (Vec.upd (x:=c_3) (f:=U) (i:=((cH p.Domains i_5).Station).toNat) (v:=1#64) a6))) ?_;refine eB ?_;refine dq ?_;refine em ?_;refine cK (dn rfl rfl hd14_1 (List.length_map _)) ?_;have hm20:((cH p.Domains i_5).Channels).length≤9223372036854775807:=(List.length_map _)▸hd14_1.max;refine dR ?_;have hq:=gF hk;clear hk;obtain ⟨f8,kk8,hf8,hkk8,hk⟩:=hq;refine fV ?_;refine T.pick [1,0,2,3] rfl a7 ?_;refine T.loop (ι:=Nat×Vec 512 (BitVec 64)) (fun z=>[(2, .pointer (some ⟨g2,0,none⟩)),(3, .pointer (some ⟨g3,0,none⟩)),(5, .pointer (some ⟨g5,0,none⟩)),(9,vp_0),(10, .int .i64 (p.Domains.length:Int)),(11, .int .i64 (i_5:Int)),(19,(cH (cH cp_0 i_5) 1)),(20, .int .i64 (((cH p.Domains i_5).Channels).length:Int)),(21, .int .i64 (z.1:Int))]) (fun z=>[.row g3 119 (z.2.1.map U), .row g5 59 [.int .i64 ((cH p.Domains i_5).Station),(cH (cH cp_0 i_5) 1)], .row g2 119 ((Vec.fill 512 (0#64)).1.map U), .fr F1]) (fun z=>dh f8 kk8 ((((cH p.Domains i_5).Channels).length) - z.1) z.1 z.2=some r) (fun z=>(((cH p.Domains i_5).Channels).length) - z.1) (0,(Vec.put c_3 (((cH p.Domains i_5).Station).toNat) (1#64))) ?_ ?_ ?_ ?_
    ·exact hk
    ·exact (.c (.c (.c (.c (.c (.c (.c (.c (.c .nil)))))))))
    ·exact fQ
    ·rintro ⟨i_9,c_7⟩ hk; (try dsimp only at *);refine fk ?_;refine T.cond rfl (fun h10=>?_) (fun h10=>?_)
     ·have p10:=of_decide_eq_true h10;rw [gH a6] at hk;generalize hn8:dh f8 kk8 ((((cH p.Domains i_5).Channels).length) - (i_9+1)) (i_9+1)=next8 at hk;rw [←hf8] at hk; (try dsimp only at hk);refine fT ?_;refine cK (dj (i:=i_9) rfl rfl rfl hd14_1 (List.length_map _) rfl a6) ?_;refine cK (ek 3 (i:=i_9) (j:=0) rfl rfl rfl hd14_1 a6) ?_;refine dR ?_;have hq:(0≤(cH ((cH p.Domains i_5).Channels) i_9)∧(cH ((cH p.Domains i_5).Channels) i_9)<(64:Int))∧_:=gZ hk;clear hk;obtain ⟨g30,hk⟩:=hq; (try dsimp only at hk);refine dF (sN 0 3 (sN 4 2 (.eff 3 (sN 6 2 (.eff 8 .done))))) [.row g5 59 [.int .i64 ((cH p.Domains i_5).Station),(cH (cH cp_0 i_5) 1)], .row g2 119 ((Vec.fill 512 (0#64)).1.map U), .fr F1] a8 Sx ?_;refine eW ?_;refine cN rfl (ed (i:=((cH p.Domains i_5).Station).toNat) rfl rfl rfl a6 a6) ?_;refine eR ?_;refine cN rfl (it (a:=1#64) ((cH ((cH p.Domains i_5).Channels) i_9).toNat) rfl rfl rfl a6 a6) ?_;refine dx ?_;refine gU rfl (Wt.none) rfl rfl (cX 0 rfl rfl rfl (mF a6 (Vec.cell (i:=((cH p.Domains i_5).Station).toNat) a6))) (fun w hw=>hw.sub Sx) ?_;refine cN rfl (jl (a:=(Vec.get c_7 (((cH p.Domains i_5).Station).toNat))) (b:=((1#64) <<< ((cH ((cH p.Domains i_5).Channels) i_9).toNat)))) ?_;refine cN rfl (ed (i:=((cH p.Domains i_5).Station).toNat) rfl rfl rfl a6 a6) ?_;refine dx ?_;refine fE rfl (Wt.none) rfl (iL 0 ((Vec.put c_7 (((cH p.Domains i_5).Station).toNat) ((Vec.get c_7 (((cH p.Domains i_5).Station).toNat)) ||| ((1#64) <<< ((cH ((cH p.Domains i_5).Channels) i_9).toNat)))).1.map U) rfl rfl rfl rfl b7 (zi3 a6 (Vec.upd (x:=c_7) (f:=U) (i:=((cH p.Domains i_5).Station).toNat) (v:=((Vec.get c_7 (((cH p.Domains i_5).Station).toNat)) ||| ((1#64) <<< ((cH ((cH p.Domains i_5).Channels) i_9).toNat)))) a6))) ?_;refine jh ?_;refine q1W ?_;rw [←hn8] at hk;exact K.next ((i_9+1),(Vec.put c_7 (((cH p.Domains i_5).Station).toNat) ((Vec.get c_7 (((cH p.Domains i_5).Station).toNat)) ||| ((1#64) <<< ((cH ((cH p.Domains i_5).Channels) i_9).toNat))))) hk b3 (.c (.c (.c (.c (.c (.c (.c (.c (.c .nil))))))))) (List.Sublist.refl _)
     ·have p10:=of_decide_eq_false h10;rw [gK a6,←hkk8] at hk; (try dsimp only at hk);refine T.exit (d3 (d3 (fy (eQ (K.seq (T.region ?_))))));refine ku ?_;rw [←hn4] at hk;refine K.pick [0,2,3] rfl a7 ?_;exact K.next ((i_5+1),c_7) hk b3 (.c (.c (.c (.c (.c .nil))))) (List.Sublist.refl _)
   ·have p6:=of_decide_eq_false h6;rw [gK a6,←hkk4] at hk; (try dsimp only at hk);refine fu ?_;exact cP c_3 hk (.c (.c .nil)) (List.Sublist.refl _)
 ·rintro c_1 hk;rw [←hk2] at hk; (try dsimp only at hk);refine q3n ?_;obtain rfl:=Option.some.inj hk;exact mG 1 rfl rfl rfl Vec.len (fun w' hw=>⟨rfl,hw.isBelow⟩)
def zbr (p0_:GProblem)(m0_:List GDomain×Bool):Option (Vec 512 Int):=
 dO (fun (c_1:Vec 512 Int)=>
  some c_1)
 (fun k2=>
  dh (fun (i_5:Nat) (next4:Vec 512 Int→Option (Vec 512 Int)) (c_3:Vec 512 Int)=>
   ex (0≤(cH (gp m0_) i_5).Station∧(cH (gp m0_) i_5).Station<(512:Int)) <|
   next4 (Vec.put c_3 (((cH (gp m0_) i_5).Station).toNat) ((cH (gp m0_) i_5).Channel)))
  (fun (c_3:Vec 512 Int)=>
   k2 c_3) (((gp m0_).length) - 0) 0 (Vec.fill 512 0))
theorem zdP (F0:Frz)(w:World)(hF0:F0.At w)(p0_:GProblem)(m0_:List GDomain×Bool)(k0_:SK)(v0_:Value)(L0_:Ws)(hs0_:SI p0_ m0_ k0_ L0_)(tf0_:TbF F0 k0_)(htab:Tab w)(hO:Hp w (dy [eu k0_ v0_ L0_ (!m0_.2)]) [eu k0_ v0_ L0_ (!m0_.2)] w)(hA:∀g,dy [eu k0_ v0_ L0_ (!m0_.2)] g→¬F0.S g)(hZ:¬dy [eu k0_ v0_ L0_ (!m0_.2)] 0)(r:Vec 512 Int)(hr:zbr p0_ m0_=some r):Calls Tryz.prog 120 #[.pointer (some ⟨k0_.sp,0,none⟩)] w fun e w'=>∃(y:Unit) (G:Frz),(True)∧e= .returned (.agg (r.1.map vI).toArray)∧FxM F0 w (dy [eu k0_ v0_ L0_ (!m0_.2)]) G [eu k0_ v0_ L0_ (!m0_.2)] w':=by
 have hk:=hr;unfold zbr at hk;obtain ⟨S0,F1,rfl,hS0,hp0⟩:=lq hF0 hO hA;have hM0:=hZ;have htk:∀ {hs:HS} {w':World},Hp w (dy [eu k0_ v0_ L0_ (!m0_.2)]) hs w'→Tab w':=fun hw=>htab.kept hw hZ;refine dB (hs:=[eu k0_ v0_ L0_ (!m0_.2), .fr F1]) Tryz.func120 rfl rfl rfl hp0 ?_;refine dd ?_;refine q3R ?_;rintro _ _ ⟨g2,rfl,rfl⟩;refine dq ?_;refine q3R ?_;rintro _ _ ⟨g3,rfl,rfl⟩;refine ij ?_;refine dc ?_;refine df (fw 3 rfl rfl rfl rfl (fun w hw hF=>zmm hs0_ tf0_ (hw.get (i:=2) rfl) (hw.fr (i:=3) rfl) (htk hw))) ?_;rintro _ _ ⟨v7_,F2,le1_2,hf7,hq,rfl⟩;obtain rfl:=hq.symm;haveI:=hf7.oneC;refine cK (dn rfl rfl hf7 (List.length_map _)) ?_;have hm8:(gp m0_).length≤9223372036854775807:=(List.length_map _)▸hf7.max;refine dR ?_;have hq:=fq hk;clear hk;obtain ⟨k2,hk2,hk⟩:=hq; (try dsimp only at hk);refine dg (ι:=Vec 512 Int) (fun z=>[(2, .pointer (some ⟨g2,0,none⟩)),(3, .pointer (some ⟨g3,0,none⟩))]) (fun z=>[.row g3 166 (z.1.map vI), .row g2 166 ((Vec.fill 512 0).1.map vI),eu k0_ v0_ L0_ (!m0_.2), .fr F2]) (fun z=>k2 z=some r) ?_ ?_
 ·have hq:=gF hk;clear hk;obtain ⟨f4,kk4,hf4,hkk4,hk⟩:=hq;refine fV ?_;refine T.loop (ι:=Nat×Vec 512 Int) (fun z=>[(2, .pointer (some ⟨g2,0,none⟩)),(3, .pointer (some ⟨g3,0,none⟩)),(7,v7_),(8, .int .i64 ((gp m0_).length:Int)),(9, .int .i64 (z.1:Int))]) (fun z=>[.row g3 166 (z.2.1.map vI), .row g2 166 ((Vec.fill 512 0).1.map vI),eu k0_ v0_ L0_ (!m0_.2), .fr F2]) (fun z=>dh f4 kk4 (((gp m0_).length) - z.1) z.1 z.2=some r) (fun z=>((gp m0_).length) - z.1) (0,(Vec.fill 512 0)) ?_ ?_ ?_ ?_
  ·exact hk
  ·exact q4h
  ·exact fQ
  ·rintro ⟨i_5,c_3⟩ hk; (try dsimp only at *);refine fk ?_;refine T.cond rfl (fun h6=>?_) (fun h6=>?_)
   ·have p6:=of_decide_eq_true h6;rw [gH a6] at hk;generalize hn4:dh f4 kk4 (((gp m0_).length) - (i_5+1)) (i_5+1)=next4 at hk;rw [←hf4] at hk; (try dsimp only at hk);refine fT ?_;refine cK (dj (i:=i_5) rfl rfl rfl hf7 (List.length_map _) rfl a6) ?_;refine cK (eD 3 (i:=i_5) rfl rfl rfl hf7 a6) ?_;refine iJ ?_;rintro _ _ ⟨g5,rfl,rfl⟩;refine jX ?_;refine cR ?_;have hq:(0≤(cH (gp m0_) i_5).Station∧(cH (gp m0_) i_5).Station<(512:Int))∧_:=gZ hk;clear hk;obtain ⟨g17,hk⟩:=hq; (try dsimp only at hk);refine fN ?_;refine em ?_;refine em ?_;refine cK (ed (i:=((cH (gp m0_) i_5).Station).toNat) rfl rfl rfl a6 a6) ?_;refine fM (iL 1 ((Vec.put c_3 (((cH (gp m0_) i_5).Station).toNat) ((cH (gp m0_) i_5).Channel)).1.map vI) rfl rfl rfl rfl b7 (zi3 a6 (Vec.upd (x:=c_3) (f:=vI) (i:=((cH (gp m0_) i_5).Station).toNat) (v:=(cH (gp m0_) i_5).Channel) a6))) ?_;refine eB ?_;refine lN ?_;rw [←hn4] at hk;refine K.pick [1,2,3,4] rfl a7 ?_;exact K.next ((i_5+1),(Vec.put c_3 (((cH (gp m0_) i_5).Station).toNat) ((cH (gp m0_) i_5).Channel))) hk b3 (.c (.c (.c (.c (.c .nil))))) (List.Sublist.refl _)
   ·have p6:=of_decide_eq_false h6;rw [gK a6,←hkk4] at hk; (try dsimp only at hk);refine fu ?_;exact cP c_3 hk (.c (.c .nil)) (List.Sublist.refl _)
 ·rintro c_1 hk;rw [←hk2] at hk; (try dsimp only at hk);refine q3n ?_;obtain rfl:=Option.some.inj hk;exact mG 1 rfl rfl rfl Vec.len (fun w' hw=>⟨⟨⟩,F2.toFrz,trivial,rfl,dw (hw.pick (idx:=[2,3]) rfl a7) hS0 le1_2⟩)
def zb0 (p0_:GProblem)(m0_:List GDomain×Bool)(x1_:Vec 512 Int)(g_:List GChoice):Option (GChoice×Bool):=
 dO (fun (s6:Int×Int×Int×Int×Int)=>
  (bif ((decide (s6.1=0))&&(decide (0<(g_.length:Int)))) then
   some ((cH g_ 0),true)
   else
   some ((GChoice.mk s6.2.2.2.1 s6.2.2.2.2),((decide (s6.1=0))||(zgC m0_ (GChoice.mk s6.2.2.2.1 s6.2.2.2.2))))))
 (fun k6=>
  dh (fun (i_13:Nat) (next12:(Int×Int×Int×Int×Int)→Option (GChoice×Bool)) (s12:Int×Int×Int×Int×Int)=>
   ex (0≤(cH g_ i_13).Station∧(cH g_ i_13).Station<(512:Int)) <|
   dO (fun (s18:Int×Int×Int)=>
    (bif decide (1<s18.1) then
     some ((GChoice.mk 0 0),false)
     else
     next12 (s18.1,s12.2.1,s12.2.2.1,s18.2.1,s18.2.2)))
   (fun k18=>
    (bif decide (¬(Vec.get x1_ (((cH g_ i_13).Station).toNat))=(cH g_ i_13).Channel) then
     k18 (wI (s12.1+1),(cH g_ i_13).Station,(cH g_ i_13).Channel)
     else
     k18 (s12.1,s12.2.2.2.1,s12.2.2.2.2))))
  (fun (s12:Int×Int×Int×Int×Int)=>
   k6 (s12.1,s12.2.1,s12.2.2.1,s12.2.2.2.1,s12.2.2.2.2)) (g_.length - 0) 0 (0,0,0,0,0))
theorem zgx (F0:Frz)(w:World)(hF0:F0.At w)(p0_:GProblem)(m0_:List GDomain×Bool)(k0_:SK)(v0_:Value)(L0_:Ws)(hs0_:SI p0_ m0_ k0_ L0_)(tf0_:TbF F0 k0_)(x1_:Vec 512 Int)(g1_:Nat)(g_:List GChoice)(vg_:Value)(hg_:SlC F0 vg_ 2 (g_.map cG))(htab:Tab w)(hO:Hp w (dy [eu k0_ v0_ L0_ (!m0_.2), .row g1_ 166 (x1_.1.map vI)]) [eu k0_ v0_ L0_ (!m0_.2), .row g1_ 166 (x1_.1.map vI)] w)(hA:∀g,dy [eu k0_ v0_ L0_ (!m0_.2), .row g1_ 166 (x1_.1.map vI)] g→¬F0.S g)(hZ:¬dy [eu k0_ v0_ L0_ (!m0_.2), .row g1_ 166 (x1_.1.map vI)] 0)(r:GChoice×Bool)(hr:zb0 p0_ m0_ x1_ g_=some r):Calls Tryz.prog 121 #[.pointer (some ⟨k0_.sp,0,none⟩), .pointer (some ⟨g1_,0,none⟩),vg_] w fun e w'=>∃(y:Unit),(True)∧e= .returned (.tuple #[.agg [.int .i64 r.1.Station, .int .i64 r.1.Channel].toArray, .bool r.2])∧FxM F0 w (dy [eu k0_ v0_ L0_ (!m0_.2), .row g1_ 166 (x1_.1.map vI)]) F0 [eu k0_ v0_ L0_ (!m0_.2), .row g1_ 166 (x1_.1.map vI)] w':=by
 have hk:=hr;unfold zb0 at hk;haveI:=hg_.oneC;obtain ⟨S0,F1,rfl,hS0,hp0⟩:=lq hF0 hO hA;have hM0:=hZ;have htk:∀ {hs:HS} {w':World},Hp w (dy [eu k0_ v0_ L0_ (!m0_.2), .row g1_ 166 (x1_.1.map vI)]) hs w'→Tab w':=fun hw=>htab.kept hw hZ;refine dB (hs:=[eu k0_ v0_ L0_ (!m0_.2), .row g1_ 166 (x1_.1.map vI), .fr F1]) Tryz.func121 rfl rfl rfl hp0 ?_;refine dd ?_;refine iJ ?_;rintro _ _ ⟨g6,rfl,rfl⟩;refine gN ?_;refine iJ ?_;rintro _ _ ⟨g8,rfl,rfl⟩;refine dq ?_;refine jD ?_;refine dc ?_;refine cK (dn rfl rfl hg_ (List.length_map _)) ?_;have hm13:g_.length≤9223372036854775807:=(List.length_map _)▸hg_.max;refine dR ?_;have hq:=fq hk;clear hk;obtain ⟨k6,hk6,hk⟩:=hq; (try dsimp only at hk);refine dg (ι:=Int×Int×Int×Int×Int) (fun z=>[(0, .pointer (some ⟨k0_.sp,0,none⟩)),(2,vg_),(6, .pointer (some ⟨g6,0,none⟩)),(8, .pointer (some ⟨g8,0,none⟩)),(9, .int .i64 z.1)]) (fun z=>[.row g6 34 [.int .i64 z.2.1, .int .i64 z.2.2.1], .row g8 34 [.int .i64 z.2.2.2.1, .int .i64 z.2.2.2.2],eu k0_ v0_ L0_ (!m0_.2), .row g1_ 166 (x1_.1.map vI), .fr F1]) (fun z=>k6 (z.1,z.2.1,z.2.2.1,z.2.2.2.1,z.2.2.2.2)=some r) ?_ ?_
 ·have hq:=gF hk;clear hk;obtain ⟨f12,kk12,hf12,hkk12,hk⟩:=hq;refine fV ?_;refine T.pick [1,0,2,3,4] rfl a7 ?_;refine T.loop (ι:=Nat×Int×Int×Int×Int×Int) (fun z=>[(0, .pointer (some ⟨k0_.sp,0,none⟩)),(1, .pointer (some ⟨g1_,0,none⟩)),(2,vg_),(6, .pointer (some ⟨g6,0,none⟩)),(8, .pointer (some ⟨g8,0,none⟩)),(9, .int .i64 z.2.1),(12,vg_),(13, .int .i64 (g_.length:Int)),(14, .int .i64 (z.1:Int))]) (fun z=>[.row g6 34 [.int .i64 z.2.2.1, .int .i64 z.2.2.2.1], .row g8 34 [.int .i64 z.2.2.2.2.1, .int .i64 z.2.2.2.2.2],eu k0_ v0_ L0_ (!m0_.2), .row g1_ 166 (x1_.1.map vI), .fr F1]) (fun z=>dh f12 kk12 (g_.length - z.1) z.1 (z.2.1,z.2.2.1,z.2.2.2.1,z.2.2.2.2.1,z.2.2.2.2.2)=some r) (fun z=>g_.length - z.1) (0,0,0,0,0,0) ?_ ?_ ?_ ?_
  ·exact hk
  ·exact (.c (.c (.c (.c (.c (.c (.c (.c (.c .nil)))))))))
  ·exact fQ
  ·rintro ⟨i_13,n_7,c_8,c_9,c_10,c_11⟩ hk; (try dsimp only at *);refine fk ?_;refine T.cond rfl (fun h14=>?_) (fun h14=>?_)
   ·have p14:=of_decide_eq_true h14;rw [gH a6] at hk;generalize hn12:dh f12 kk12 (g_.length - (i_13+1)) (i_13+1)=next12 at hk;rw [←hf12] at hk; (try dsimp only at hk);refine fT ?_;refine cK (dj (i:=i_13) rfl rfl rfl hg_ (List.length_map _) rfl a6) ?_;refine cK (eD 4 (i:=i_13) rfl rfl rfl hg_ a6) ?_;refine iJ ?_;rintro _ _ ⟨g11,rfl,rfl⟩;refine jX ?_;refine cR (T.seq (T.seq ?_));have hq:(0≤(cH g_ i_13).Station∧(cH g_ i_13).Station<(512:Int))∧_:=gZ hk;clear hk;obtain ⟨g22,hk⟩:=hq; (try dsimp only at hk);refine q16 ?_;refine eR ?_;refine eW ?_;refine eR ?_;refine cN rfl (ed (i:=((cH g_ i_13).Station).toNat) rfl rfl rfl a6 a6) ?_;refine cN rfl (cX 4 rfl rfl rfl (mF a6 (Vec.cell (i:=((cH g_ i_13).Station).toNat) a6))) ?_;refine eW ?_;refine kM ?_;have hq:=fq hk;clear hk;obtain ⟨k18,hk18,hk⟩:=hq; (try dsimp only at hk);refine dg (ι:=Int×Int×Int) (fun z=>[(0, .pointer (some ⟨k0_.sp,0,none⟩)),(1, .pointer (some ⟨g1_,0,none⟩)),(2,vg_),(6, .pointer (some ⟨g6,0,none⟩)),(8, .pointer (some ⟨g8,0,none⟩)),(9, .int .i64 z.1),(12,vg_),(13, .int .i64 (g_.length:Int)),(14, .int .i64 (i_13:Int))]) (fun z=>[.row g8 34 [.int .i64 z.2.1, .int .i64 z.2.2], .row g6 34 [.int .i64 c_8, .int .i64 c_9],eu k0_ v0_ L0_ (!m0_.2), .row g1_ 166 (x1_.1.map vI), .fr F1]) (fun z=>k18 (z.1,z.2.1,z.2.2)=some r) ?_ ?_
    ·refine T.cond rfl (fun h19=>?_) (fun h19=>?_)
     ·have p19:=of_decide_eq_true h19;replace hk:=dH hk h19;refine dd ?_;refine jd ?_;refine fM (dG 2) ?_;refine eB ?_;refine cR (T.region ?_);refine fb ?_;refine fO ?_;refine K.pick [2,1,3,4,5] rfl a7 ?_;exact cP (wI (n_7+1),(cH g_ i_13).Station,(cH g_ i_13).Channel) hk (.c (.c (.c (.c (.c (.c (.c (.c (.c .nil))))))))) (List.Sublist.refl _)
     ·have p19:=of_decide_eq_false h19;replace hk:=dL hk h19;refine T.skip ?_;refine K.pick [2,1,3,4,5] rfl a7 ?_;exact cP (n_7,c_10,c_11) hk (.c (.c (.c (.c (.c (.c (.c (.c (.c .nil))))))))) (List.Sublist.refl _)
    ·rintro ⟨n_15,c_16,c_17⟩ hk; (try dsimp only at *);rw [←hk18] at hk; (try dsimp only at hk);refine i4 ?_;refine cR ?_;refine T.cond rfl (fun h20=>?_) (fun h20=>?_)
     ·have p20:=of_decide_eq_true h20;replace hk:=dH hk h20;refine dd ?_;refine jm ?_;refine q3K ?_;refine mN ?_;obtain rfl:=Option.some.inj hk;exact jH 1 rfl rfl rfl rfl rfl (fun w' hw=>⟨⟨⟩,trivial,rfl,dw (hw.pick (idx:=[2,3,4]) rfl a7) hS0 (Frz.Le.refl _)⟩)
     ·have p20:=of_decide_eq_false h20;replace hk:=dL hk h20;refine iK ?_;rw [←hn12] at hk;refine K.pick [1,0,2,3,4] rfl a7 ?_;exact K.next ((i_13+1),n_15,c_8,c_9,c_16,c_17) hk b3 (.c (.c (.c (.c (.c (.c (.c (.c (.c .nil))))))))) (List.Sublist.refl _)
   ·have p14:=of_decide_eq_false h14;rw [gK a6,←hkk12] at hk; (try dsimp only at hk);refine fu ?_;exact cP (n_7,c_8,c_9,c_10,c_11) hk (.c (.c (.c (.c (.c .nil))))) (List.Sublist.refl _)
 ·rintro ⟨n_1,c_2,c_3,c_4,c_5⟩ hk; (try dsimp only at *);rw [←hk6] at hk; (try dsimp only at hk);refine T.seq (T.seq ?_);refine dg (ι:=Unit) (fun z=>[(0, .pointer (some ⟨k0_.sp,0,none⟩)),(2,vg_),(6, .pointer (some ⟨g6,0,none⟩)),(8, .pointer (some ⟨g8,0,none⟩)),(9, .int .i64 n_1),(40, .bool ((decide (n_1=0))&&(decide (0<(g_.length:Int)))))]) (fun z=>[.row g6 34 [.int .i64 c_2, .int .i64 c_3], .row g8 34 [.int .i64 c_4, .int .i64 c_5],eu k0_ v0_ L0_ (!m0_.2), .row g1_ 166 (x1_.1.map vI), .fr F1]) (fun z=>True) ?_ ?_
  ·refine q3L ?_;refine du rfl rfl rfl (fun h21=>?_) (fun h21=>?_)
   ·have p21:=of_decide_eq_true h21;refine dc ?_;refine cK (dn rfl rfl hg_ (List.length_map _)) ?_;refine lH ?_;exact cP () trivial (.c (.c (.c (.c (.c (.b (kJ h21) .nil)))))) (List.Sublist.refl _)
   ·have p21:=of_decide_eq_false h21;refine mv ?_;exact cP () trivial (.c (.c (.c (.c (.c (.b (fA h21).symm .nil)))))) (List.Sublist.refl _)
  ·rintro _ _;refine T.cond rfl (fun h22=>?_) (fun h22=>?_)
   ·have p22:=h22; (try simp only [cT] at p22);replace hk:=dH hk h22;refine ic ?_;refine cK (dj (i:=0) rfl rfl rfl hg_ (List.length_map _) (show (0:Int)=((0:Nat):Int) from rfl) a6) ?_;refine cK (eD 4 (i:=0) rfl rfl rfl hg_ a6) ?_;refine jX ?_;refine dc ?_;refine ky ?_;obtain rfl:=Option.some.inj hk;exact q4D
   ·replace hk:=dL hk h22;refine ks ?_;refine dg (ι:=Unit) (fun z=>[(6, .pointer (some ⟨g6,0,none⟩)),(7, .bool ((decide (n_1=0))||(zgC m0_ (GChoice.mk c_4 c_5))))]) (fun z=>[.row g6 34 [.int .i64 c_4, .int .i64 c_5], .row g8 34 [.int .i64 c_4, .int .i64 c_5],eu k0_ v0_ L0_ (!m0_.2), .row g1_ 166 (x1_.1.map vI), .fr F1]) (fun z=>True) ?_ ?_
    ·refine dF (sN 0 6 (.eff 6 (.still 7 (.eff 8 (.still 9 .done))))) [.row g8 34 [.int .i64 c_4, .int .i64 c_5],eu k0_ v0_ L0_ (!m0_.2), .row g1_ 166 (x1_.1.map vI), .fr F1] a8 Sx ?_;refine jM ?_;refine fU ?_;refine dz rfl rfl rfl rfl (fun h23=>?_) (fun h23=>?_)
     ·have p23:=of_decide_eq_true h23;refine gE ?_;refine iZ ?_;refine eR ?_;refine dx ?_;refine q1Y ?_;refine l7 ?_;exact cP () trivial (.c (.b (iz h23).symm .nil)) (List.Sublist.refl _)
     ·have p23:=of_decide_eq_false h23;refine eR ?_;refine jM ?_;refine dx ?_;refine cQ rfl (Wt.some) rfl rfl (cL rfl rfl rfl (fun w hw=>zop hs0_ tf0_ (hw.get (i:=2) rfl) (hw.fr (i:=4) rfl) (htk hw) (GChoice.mk c_4 c_5))) ?_;refine jh ?_;refine eR ?_;refine dx ?_;refine q1Y ?_;refine l7 ?_;exact cP () trivial (.c (.b (iA h23) .nil)) (List.Sublist.refl _)
    ·rintro _ _;refine T.ret ?_;obtain rfl:=Option.some.inj hk;exact q4D
def zai (x0_:GStore):Bool:=
 false
theorem zaP (F0:Frz)(w:World)(hF0:F0.At w)(x0_:GStore)(g0_:Nat)(k0_512:SK)(v0_512:Value)(L0_512:Ws)(hs0_512:SI x0_.start.1 x0_.start.2 k0_512 L0_512)(tf0_512:TbF F0 k0_512)(zf0_512:SzF F0 k0_512 v0_512 L0_512 (!x0_.start.2.2))(v0_513:Value)(c0_513:List (List Value))(h0_513:OwnD cI F0 1 c0_513 x0_.list)(hO:Hp w (dy [.row g0_ 122 ((x0_.domains.1.map U)++[.pointer (some ⟨k0_512.sp,0,none⟩),v0_513]), .sl v0_513 23 1 x0_.list.length c0_513.flatten]) [.row g0_ 122 ((x0_.domains.1.map U)++[.pointer (some ⟨k0_512.sp,0,none⟩),v0_513]), .sl v0_513 23 1 x0_.list.length c0_513.flatten] w)(hA:∀g,dy [.row g0_ 122 ((x0_.domains.1.map U)++[.pointer (some ⟨k0_512.sp,0,none⟩),v0_513]), .sl v0_513 23 1 x0_.list.length c0_513.flatten] g→¬F0.S g):Calls Tryz.prog 96 #[.pointer (some ⟨g0_,0,none⟩)] w fun e w'=>∃(y:Unit),(True)∧e= .returned (.bool (zai x0_))∧FxM F0 w (dy [.row g0_ 122 ((x0_.domains.1.map U)++[.pointer (some ⟨k0_512.sp,0,none⟩),v0_513]), .sl v0_513 23 1 x0_.list.length c0_513.flatten]) F0 [.row g0_ 122 ((x0_.domains.1.map U)++[.pointer (some ⟨k0_512.sp,0,none⟩),v0_513]), .sl v0_513 23 1 x0_.list.length c0_513.flatten] w':=by
 obtain ⟨r,hk⟩:∃r,zai x0_=r:=⟨_,rfl⟩;rw [hk];unfold zai at hk;haveI:=jG (hO.own (.sl v0_513 23 1 x0_.list.length c0_513.flatten) b2);have hmx0_513:=jA (hO.own (.sl v0_513 23 1 x0_.list.length c0_513.flatten) b2);obtain ⟨S0,F1,rfl,hS0,hp0⟩:=lq hF0 hO hA;refine dB (hs:=[.row g0_ 122 ((x0_.domains.1.map U)++[.pointer (some ⟨k0_512.sp,0,none⟩),v0_513]), .sl v0_513 23 1 x0_.list.length c0_513.flatten, .fr F1]) Tryz.func96 rfl rfl rfl hp0 ?_;refine fk ?_;refine dg (ι:=Unit) (fun z=>[(2, .bool false)]) (fun z=>[.row g0_ 122 ((x0_.domains.1.map U)++[.pointer (some ⟨k0_512.sp,0,none⟩),v0_513]), .sl v0_513 23 1 x0_.list.length c0_513.flatten, .fr F1]) (fun z=>True) ?_ ?_
 ·refine kd ?_;refine cK (Yv.bV (e:=122) a8 rfl rfl rfl) ?_;refine fb ?_;refine q3w ?_;refine cK (Yv.bV (e:=145) a8 rfl rfl rfl) ?_;refine lH ?_;exact cP () trivial (.c .nil) (List.Sublist.refl _)
 ·rintro _ _;refine T.ret ?_;subst hk;exact q4t
def zaD (x0_:GStore)(g_:List GChoice):Option Bool:=
 (bif !(kR g_) then
  some false
  else
  dO (fun (_:Unit)=>
   some true)
  (fun k2=>
   dh (fun (i_4:Nat) (next3:Unit→Option Bool) (_:Unit)=>
    ex (0≤(cH g_ i_4).Station∧(cH g_ i_4).Station<(512:Int)) <|
    ex (0≤(cH g_ i_4).Channel∧(cH g_ i_4).Channel<(64:Int)) <|
    (bif decide (((((Vec.get x0_.domains (((cH g_ i_4).Station).toNat)) >>> (((cH g_ i_4).Channel).toNat)) &&& (1#64)).toNat:Int)=((0#64).toNat:Int)) then
     some false
     else
     next3 ()))
   (fun (_:Unit)=>
    k2 ()) (g_.length - 0) 0 ()))
theorem zbF (F0:Frz)(w:World)(hF0:F0.At w)(x0_:GStore)(g0_:Nat)(k0_512:SK)(v0_512:Value)(L0_512:Ws)(hs0_512:SI x0_.start.1 x0_.start.2 k0_512 L0_512)(tf0_512:TbF F0 k0_512)(zf0_512:SzF F0 k0_512 v0_512 L0_512 (!x0_.start.2.2))(v0_513:Value)(c0_513:List (List Value))(h0_513:OwnD cI F0 1 c0_513 x0_.list)(g_:List GChoice)(vg_:Value)(hg_:SlC F0 vg_ 2 (g_.map cG))(hO:Hp w (dy [.row g0_ 122 ((x0_.domains.1.map U)++[.pointer (some ⟨k0_512.sp,0,none⟩),v0_513]), .sl v0_513 23 1 x0_.list.length c0_513.flatten]) [.row g0_ 122 ((x0_.domains.1.map U)++[.pointer (some ⟨k0_512.sp,0,none⟩),v0_513]), .sl v0_513 23 1 x0_.list.length c0_513.flatten] w)(hA:∀g,dy [.row g0_ 122 ((x0_.domains.1.map U)++[.pointer (some ⟨k0_512.sp,0,none⟩),v0_513]), .sl v0_513 23 1 x0_.list.length c0_513.flatten] g→¬F0.S g)(r:Bool)(hr:zaD x0_ g_=some r):Calls Tryz.prog 128 #[.pointer (some ⟨g0_,0,none⟩),vg_] w fun e w'=>∃(y:Unit),(True)∧e= .returned (.bool r)∧FxM F0 w (dy [.row g0_ 122 ((x0_.domains.1.map U)++[.pointer (some ⟨k0_512.sp,0,none⟩),v0_513]), .sl v0_513 23 1 x0_.list.length c0_513.flatten]) F0 [.row g0_ 122 ((x0_.domains.1.map U)++[.pointer (some ⟨k0_512.sp,0,none⟩),v0_513]), .sl v0_513 23 1 x0_.list.length c0_513.flatten] w':=by
 have hk:=hr;unfold zaD at hk;haveI:=hg_.oneC;haveI:=jG (hO.own (.sl v0_513 23 1 x0_.list.length c0_513.flatten) b2);have hmx0_513:=jA (hO.own (.sl v0_513 23 1 x0_.list.length c0_513.flatten) b2);obtain ⟨S0,F1,rfl,hS0,hp0⟩:=lq hF0 hO hA;refine dB (hs:=[.row g0_ 122 ((x0_.domains.1.map U)++[.pointer (some ⟨k0_512.sp,0,none⟩),v0_513]), .sl v0_513 23 1 x0_.list.length c0_513.flatten, .fr F1]) Tryz.func128 rfl rfl rfl hp0 ?_;refine jB ?_;refine df (cL rfl rfl rfl (fun w hw=>zbM _ w (hw.fr (i:=2) rfl) g_ vg_ hg_)) ?_;refine eB ?_;refine dR ?_;refine T.cond rfl (fun h1=>?_) (fun h1=>?_)
 ·replace hk:=dH hk h1;refine ja ?_;obtain rfl:=Option.some.inj hk;exact q4t
 ·replace hk:=dL hk h1;refine kh ?_;refine dc ?_;refine cK (dn rfl rfl hg_ (List.length_map _)) ?_;have hm11:g_.length≤9223372036854775807:=(List.length_map _)▸hg_.max;refine dR ?_;have hq:=fq hk;clear hk;obtain ⟨k2,hk2,hk⟩:=hq; (try dsimp only at hk);refine dg (ι:=Unit) (fun z=>[]) (fun z=>[.row g0_ 122 ((x0_.domains.1.map U)++[.pointer (some ⟨k0_512.sp,0,none⟩),v0_513]), .sl v0_513 23 1 x0_.list.length c0_513.flatten, .fr F1]) (fun z=>k2 ()=some r) ?_ ?_
  ·have hq:=gF hk;clear hk;obtain ⟨f3,kk3,hf3,hkk3,hk⟩:=hq;refine fV ?_;refine T.loop (ι:=Nat) (fun z=>[(0, .pointer (some ⟨g0_,0,none⟩)),(10,vg_),(11, .int .i64 (g_.length:Int)),(12, .int .i64 (z:Int))]) (fun z=>[.row g0_ 122 ((x0_.domains.1.map U)++[.pointer (some ⟨k0_512.sp,0,none⟩),v0_513]), .sl v0_513 23 1 x0_.list.length c0_513.flatten, .fr F1]) (fun z=>dh f3 kk3 (g_.length - z) z ()=some r) (fun z=>g_.length - z) 0 ?_ ?_ ?_ ?_
   ·exact hk
   ·exact mc
   ·exact fQ
   ·rintro i_4 hk;refine fk ?_;refine T.cond rfl (fun h5=>?_) (fun h5=>?_)
    ·have p5:=of_decide_eq_true h5;rw [gH a6] at hk;generalize hn3:dh f3 kk3 (g_.length - (i_4+1)) (i_4+1)=next3 at hk;rw [←hf3] at hk; (try dsimp only at hk);refine fT ?_;refine cK (dj (i:=i_4) rfl rfl rfl hg_ (List.length_map _) rfl a6) ?_;refine cK (eD 2 (i:=i_4) rfl rfl rfl hg_ a6) ?_;refine iJ ?_;rintro _ _ ⟨g6,rfl,rfl⟩;refine q2H ?_;have hq:(0≤(cH g_ i_4).Station∧(cH g_ i_4).Station<(512:Int))∧_:=gZ hk;clear hk;obtain ⟨g21,hk⟩:=hq;have hq:(0≤(cH g_ i_4).Channel∧(cH g_ i_4).Channel<(64:Int))∧_:=gZ hk;clear hk;obtain ⟨g25,hk⟩:=hq; (try dsimp only at hk);refine dF (sN 0 11 (.still 11 .done)) _ a8 (List.Sublist.refl _) ?_;refine eR ?_;refine eW ?_;refine lg ?_;refine cN rfl (ed (i:=((cH g_ i_4).Station).toNat) rfl rfl rfl a6 a6) ?_;refine cN rfl (cX 1 rfl rfl rfl (mF a6 (zlq Vec.len a6 (Vec.cell (i:=((cH g_ i_4).Station).toNat) a6)))) ?_;refine eW ?_;refine cN rfl (gz (a:=(Vec.get x0_.domains (((cH g_ i_4).Station).toNat))) (((cH g_ i_4).Channel).toNat) rfl rfl rfl a6 a6) ?_;refine cN rfl (f9 (a:=((Vec.get x0_.domains (((cH g_ i_4).Station).toNat)) >>> (((cH g_ i_4).Channel).toNat))) (b:=1#64)) ?_;refine kM ?_;refine T.cond rfl (fun h6=>?_) (fun h6=>?_)
     ·replace hk:=dH hk h6;refine jc ?_;obtain rfl:=Option.some.inj hk;exact cU rfl rfl (fun w' hw=>⟨⟨⟩,trivial,rfl,dw (hw.pick (idx:=[1,2,3]) rfl a7) hS0 (Frz.Le.refl _)⟩)
     ·replace hk:=dL hk h6;refine iK ?_;rw [←hn3] at hk;refine q2S ?_;exact K.next (i_4+1) hk a6 (.c (.c (.c (.c .nil)))) (List.Sublist.refl _)
    ·have p5:=of_decide_eq_false h5;rw [gK a6,←hkk3] at hk; (try dsimp only at hk);refine fu ?_;exact mg
  ·rintro _ hk;rw [←hk2] at hk; (try dsimp only at hk);refine ld ?_;obtain rfl:=Option.some.inj hk;exact q4t
def zaq (x0_:GStore)(g_:List GChoice):Option (Int×List (List GChoice)):=
 (bif (zai x0_) then
  some (1,x0_.list)
  else
  (zaD x0_ g_).bind fun r9=>
  (bif !r9 then
   some (2,x0_.list)
   else
   (bif decide (4096≤(x0_.list.length:Int)) then
    some (7,x0_.list)
    else
    ex (dQ g_.length 16) <|
    ex (dQ (x0_.list++[g_]).length 24) <|
    some (0,(x0_.list++[g_])))))
theorem zcH (F0:Frz)(w:World)(hF0:F0.At w)(x0_:GStore)(g0_:Nat)(k0_512:SK)(v0_512:Value)(L0_512:Ws)(hs0_512:SI x0_.start.1 x0_.start.2 k0_512 L0_512)(tf0_512:TbF F0 k0_512)(zf0_512:SzF F0 k0_512 v0_512 L0_512 (!x0_.start.2.2))(v0_513:Value)(c0_513:List (List Value))(h0_513:OwnD cI F0 1 c0_513 x0_.list)(g_:List GChoice)(vg_:Value)(hg_:SlC F0 vg_ 2 (g_.map cG))(hO:Hp w (dy [.row g0_ 122 ((x0_.domains.1.map U)++[.pointer (some ⟨k0_512.sp,0,none⟩),v0_513]), .sl v0_513 23 1 x0_.list.length c0_513.flatten]) [.row g0_ 122 ((x0_.domains.1.map U)++[.pointer (some ⟨k0_512.sp,0,none⟩),v0_513]), .sl v0_513 23 1 x0_.list.length c0_513.flatten] w)(hA:∀g,dy [.row g0_ 122 ((x0_.domains.1.map U)++[.pointer (some ⟨k0_512.sp,0,none⟩),v0_513]), .sl v0_513 23 1 x0_.list.length c0_513.flatten] g→¬F0.S g)(r:Int×List (List GChoice))(hr:zaq x0_ g_=some r):Calls Tryz.prog 104 #[.pointer (some ⟨g0_,0,none⟩),vg_] w fun e w'=>∃(y:Value×List (List Value)) (G:Frz),(OwnD cI G 1 y.2 r.2)∧e= .returned (.int .i64 r.1)∧FxM F0 w (dy [.row g0_ 122 ((x0_.domains.1.map U)++[.pointer (some ⟨k0_512.sp,0,none⟩),v0_513]), .sl v0_513 23 1 x0_.list.length c0_513.flatten]) G [.row g0_ 122 ((x0_.domains.1.map U)++[.pointer (some ⟨k0_512.sp,0,none⟩),y.1]), .sl y.1 23 1 r.2.length y.2.flatten] w':=by
 have hk:=hr;unfold zaq at hk;haveI:=hg_.oneC;haveI:=jG (hO.own (.sl v0_513 23 1 x0_.list.length c0_513.flatten) b2);have hmx0_513:=jA (hO.own (.sl v0_513 23 1 x0_.list.length c0_513.flatten) b2);obtain ⟨S0,F1,rfl,hS0,hp0⟩:=lq hF0 hO hA;refine dB (hs:=[.row g0_ 122 ((x0_.domains.1.map U)++[.pointer (some ⟨k0_512.sp,0,none⟩),v0_513]), .sl v0_513 23 1 x0_.list.length c0_513.flatten, .fr F1]) Tryz.func104 rfl rfl rfl hp0 ?_;refine ic ?_;refine q02 ?_;rintro _ _ ⟨⟨⟩, -,rfl,rfl⟩;refine fH ?_;refine cR ?_;refine T.cond rfl (fun h1=>?_) (fun h1=>?_)
 ·replace hk:=dH hk h1;refine ja ?_;obtain rfl:=Option.some.inj hk;exact q4u
 ·replace hk:=dL hk h1;refine T.skip (K.seq (T.seq (T.seq ?_)));have hq:=fD hk;clear hk;obtain ⟨r9,hr9,hk⟩:=hq; (try dsimp only at hk);refine jO ?_;refine df (fL [0,1,2] [.row g0_ 122 ((x0_.domains.1.map U)++([.pointer (some ⟨k0_512.sp,0,none⟩),v0_513]:List Value)), .sl v0_513 23 1 x0_.list.length c0_513.flatten] [] rfl rfl rfl rfl a7 (fun w hw hw2 hF=>zbF _ w hF x0_ g0_ k0_512 v0_512 L0_512 hs0_512 tf0_512 zf0_512 v0_513 c0_513 h0_513 g_ vg_ hg_ hw2.takes.1 hw2.takes.2 r9 hr9)) ?_;rintro _ _ ⟨⟨⟩, -,rfl,rfl⟩;refine fH ?_;refine dR ?_;refine T.cond rfl (fun h2=>?_) (fun h2=>?_)
  ·replace hk:=dH hk h2;refine ja ?_;obtain rfl:=Option.some.inj hk;exact q4u
  ·replace hk:=dL hk h2;refine kh ?_;refine ec ?_;refine ft ?_;refine cK (cX 0 rfl rfl rfl (mF a6 (zdf Vec.len (show [.pointer (some ⟨k0_512.sp,0,none⟩),v0_513][1]?=some _ from rfl)))) ?_;refine cK (jP 1 rfl rfl rfl) ?_;refine dR ?_;refine T.cond rfl (fun h3=>?_) (fun h3=>?_)
   ·have p3:=of_decide_eq_true h3;replace hk:=dH hk h3;refine ja ?_;obtain rfl:=Option.some.inj hk;exact q4u
   ·have p3:=of_decide_eq_false h3;replace hk:=dL hk h3;refine ks ?_;have hq:(dQ g_.length 16)∧_:=gZ hk;clear hk;obtain ⟨g23,hk⟩:=hq;have hq:(dQ (x0_.list++[g_]).length 24)∧_:=gZ hk;clear hk;obtain ⟨g25,hk⟩:=hq; (try dsimp only at hk);refine dg (ι:=Value×List (List Value)×FzB w (dy [.row g0_ 122 ((x0_.domains.1.map U)++[.pointer (some ⟨k0_512.sp,0,none⟩),v0_513]), .sl v0_513 23 1 x0_.list.length c0_513.flatten]) S0) (fun z=>[]) (fun z=>[.row g0_ 122 ((x0_.domains.1.map U)++[.pointer (some ⟨k0_512.sp,0,none⟩),z.1]), .sl z.1 23 1 (x0_.list++[g_]).length z.2.1.flatten, .fr z.2.2]) (fun z=>OneC z.1∧OwnD cI z.2.2.toFrz 1 z.2.1 (x0_.list++[g_])∧F1.toFrz.Le z.2.2.toFrz) ?_ ?_
    ·refine dF (.still 0 (.still 1 (.still 2 (.still 3 (.still 5 (.two 4 6 (.eff 6 (.eff 7 (.eff 8 (sN 9 2 (.eff 11 .done))))) (.two 4 7 (.eff 7 (.eff 8 (sN 9 2 (.eff 11 .done)))) (.eff 4 (.eff 8 (sN 9 2 (.eff 11 .done))))))))))) [.fr F1] a8 Sx ?_;refine fU ?_;refine gu ?_;refine eR ?_;refine TS.two ?_ ?_
     ·refine gU rfl (Wt.none) rfl rfl (cX 0 rfl rfl rfl (mF a6 (zdf Vec.len (show [.pointer (some ⟨k0_512.sp,0,none⟩),v0_513][1]?=some _ from rfl)))) (fun w hw=>hw.sub Sx) ?_;refine dx ?_;refine cQ rfl (Wt.none) rfl rfl (fw 2 rfl rfl rfl rfl (fun w hw hF=>zhJ _ w hF g_ vg_ hg_ g23)) ?_;rintro _ _ ⟨v23_,F3,le1_3,hf23,hq,rfl⟩;obtain rfl:=hq.symm;haveI:=hf23.oneC;refine ⟨(fun w hw=>(hw.frLe (i:=2) rfl le1_3).sub Sx),?_⟩;refine dx ?_;refine mt ?_;rintro _ _ ⟨g24,rfl,rfl⟩;have hl24:OwnD cI F3.toFrz 1 [[v23_]] [g_]:=(dl (OwnD.nil _ _ 1) ⟨_,rfl,hf23⟩);refine ⟨(fun w hw=>(hw.frLe (i:=3) rfl le1_3).sub Sx),?_⟩;refine q11 ?_;rintro v25 _ ⟨hv25,rfl⟩;have ho25:OwnD cI F3.toFrz 1 (c0_513++[[v23_]]) (x0_.list++[g_]):=(dl (OwnD.mono (rep:=cI) (fun _ _ _ _=>R_List_GChoice.mono) h0_513 le1_3) ⟨_,rfl,hf23⟩);refine ⟨(fun w hw=>(hw.frLe (i:=3) rfl le1_3).sub Sx),?_⟩;refine q0Q ?_;refine ⟨(fun w hw=>(hw.frLe (i:=3) rfl le1_3).sub Sx),?_⟩;refine fv ?_;refine q2S ?_;exact cP (v25,(c0_513++[[v23_]]),F3) ⟨inferInstance,ho25,le1_3⟩ .nil (List.Sublist.refl _)
     ·refine cQ rfl (Wt.none) rfl rfl (fw 2 rfl rfl rfl rfl (fun w hw hF=>zhJ _ w hF g_ vg_ hg_ g23)) ?_;rintro _ _ ⟨v23_,F4,le1_4,hf23,hq,rfl⟩;obtain rfl:=hq.symm;haveI:=hf23.oneC;refine ⟨(fun w hw=>(hw.frLe (i:=2) rfl le1_4).sub Sx),?_⟩;refine TS.two ?_ ?_
      ·refine gU rfl (Wt.none) rfl rfl (cX 0 rfl rfl rfl (mF a6 (zdf Vec.len (show [.pointer (some ⟨k0_512.sp,0,none⟩),v0_513][1]?=some _ from rfl)))) (fun w hw=>(hw.frLe (i:=2) rfl le1_4).sub Sx) ?_;refine dx ?_;refine mt ?_;rintro _ _ ⟨g24,rfl,rfl⟩;have hl24:OwnD cI F4.toFrz 1 [[v23_]] [g_]:=(dl (OwnD.nil _ _ 1) ⟨_,rfl,hf23⟩);refine q2w ?_;refine q11 ?_;rintro v25 _ ⟨hv25,rfl⟩;have ho25:OwnD cI F4.toFrz 1 (c0_513++[[v23_]]) (x0_.list++[g_]):=(dl (OwnD.mono (rep:=cI) (fun _ _ _ _=>R_List_GChoice.mono) h0_513 le1_4) ⟨_,rfl,hf23⟩);refine q2w ?_;refine q0Q ?_;refine q2w ?_;refine fv ?_;refine q2S ?_;exact q4E
      ·refine mt ?_;rintro _ _ ⟨g24,rfl,rfl⟩;have hl24:OwnD cI F4.toFrz 1 [[v23_]] [g_]:=(dl (OwnD.nil _ _ 1) ⟨_,rfl,hf23⟩);refine q2w ?_;refine dx ?_;refine gU rfl (Wt.none) rfl rfl (cX 1 rfl rfl rfl (mF a6 (zdf Vec.len (show [.pointer (some ⟨k0_512.sp,0,none⟩),v0_513][1]?=some _ from rfl)))) (fun w hw=>(hw.frLe (i:=3) rfl le1_4).sub Sx) ?_;refine q11 ?_;rintro v25 _ ⟨hv25,rfl⟩;have ho25:OwnD cI F4.toFrz 1 (c0_513++[[v23_]]) (x0_.list++[g_]):=(dl (OwnD.mono (rep:=cI) (fun _ _ _ _=>R_List_GChoice.mono) h0_513 le1_4) ⟨_,rfl,hf23⟩);refine q2w ?_;refine q0Q ?_;refine q2w ?_;refine fv ?_;refine q2S ?_;exact q4E
    ·rintro ⟨vo1_4,co1_4,F2⟩ ⟨hvo1_4,ho1_4,le1_2⟩; (try dsimp only at *);refine ld ?_;obtain rfl:=Option.some.inj hk;exact cU rfl rfl (fun w' hw=>⟨(vo1_4,co1_4),F2.toFrz,ho1_4,rfl,dw (hw.pick (idx:=[0,1,2]) rfl a7) hS0 le1_2⟩)
def zaz (fuel:Nat)(x0_:GStore)(l:List GChoice):Option ((Option (GProblem×(List GDomain×Bool)))×Bool):=
 dO (fun (m_1:List GDomain×Bool)=>
  dO (fun (m_8:List GDomain×Bool)=>
   some (some (x0_.start.1,m_8),false))
  (fun k9=>
   iP (fun (next12:(Bool×(List GDomain×Bool))→Option ((Option (GProblem×(List GDomain×Bool)))×Bool)) (s12:Bool×(List GDomain×Bool))=>
    (bif s12.1 then
     (bif !s12.2.2 then
      some (none,true)
      else
      (zbr x0_.start.1 s12.2).bind fun r36=>
      dh (fun (i_20:Nat) (next19:(Bool×(List GDomain×Bool)×Vec 512 Int)→Option ((Option (GProblem×(List GDomain×Bool)))×Bool)) (s19:Bool×(List GDomain×Bool)×Vec 512 Int)=>
       dO (fun (s25:Bool×(List GDomain×Bool)×Vec 512 Int)=>
        next19 (s25.1,s25.2.1,s25.2.2))
       (fun k25=>
        (zb0 x0_.start.1 s19.2.1 s19.2.2 (cH x0_.list i_20)).bind fun r49=>
        (bif !r49.2 then
         k25 (s19.1,s19.2.1,s19.2.2)
         else
         (bif decide (((cH x0_.list i_20).length:Int)=0) then
          some (none,true)
          else
          (mm fuel x0_.start.1 s19.2.1 false r49.1).bind fun r59=>
          (bif !r59.1.2 then
           some (none,true)
           else
           (zbr x0_.start.1 r59.1).bind fun r63=>
           k25 (true,r59.1,r63))))))
      (fun (s19:Bool×(List GDomain×Bool)×Vec 512 Int)=>
       next12 (s19.1,s19.2.1)) (x0_.list.length - 0) 0 (false,s12.2,r36))
     else
     k9 s12.2)) fuel (true,m_1)))
 (fun k2=>
  dh (fun (i_5:Nat) (next4:(List GDomain×Bool)→Option ((Option (GProblem×(List GDomain×Bool)))×Bool)) (m_3:List GDomain×Bool)=>
   (bif !m_3.2 then
    some (none,true)
    else
    (mm fuel x0_.start.1 m_3 true (cH l i_5)).bind fun r30=>
    next4 r30.1))
  (fun (m_3:List GDomain×Bool)=>
   k2 m_3) (l.length - 0) 0 x0_.start.2)
theorem zaU (F0:Frz)(w:World)(hF0:F0.At w)(x0_:GStore)(g0_:Nat)(k0_512:SK)(v0_512:Value)(L0_512:Ws)(hs0_512:SI x0_.start.1 x0_.start.2 k0_512 L0_512)(tf0_512:TbF F0 k0_512)(zf0_512:SzF F0 k0_512 v0_512 L0_512 (!x0_.start.2.2))(v0_513:Value)(c0_513:List (List Value))(h0_513:OwnD cI F0 1 c0_513 x0_.list)(l:List GChoice)(vl:Value)(hl:SlC F0 vl 2 (l.map cG))(htab:Tab w)(hO:Hp w (dy [.row g0_ 122 ((x0_.domains.1.map U)++[.pointer (some ⟨k0_512.sp,0,none⟩),v0_513]), .sl v0_513 23 1 x0_.list.length c0_513.flatten]) [.row g0_ 122 ((x0_.domains.1.map U)++[.pointer (some ⟨k0_512.sp,0,none⟩),v0_513]), .sl v0_513 23 1 x0_.list.length c0_513.flatten] w)(hA:∀g,dy [.row g0_ 122 ((x0_.domains.1.map U)++[.pointer (some ⟨k0_512.sp,0,none⟩),v0_513]), .sl v0_513 23 1 x0_.list.length c0_513.flatten] g→¬F0.S g)(hZ:¬dy [.row g0_ 122 ((x0_.domains.1.map U)++[.pointer (some ⟨k0_512.sp,0,none⟩),v0_513]), .sl v0_513 23 1 x0_.list.length c0_513.flatten] 0)(fuel:Nat)(hfu:100000≤fuel)(r:(Option (GProblem×(List GDomain×Bool)))×Bool)(hr:zaz fuel x0_ l=some r):Calls Tryz.prog 97 #[.pointer (some ⟨g0_,0,none⟩),vl] w fun e w'=>((r.1).isSome=true→∃(y:SK×Value×Ws) (G:Frz),(SI (r.1.getD default).1 (r.1.getD default).2 y.1 y.2.2∧TbF G y.1)∧e= .returned (.tuple #[.pointer (some ⟨y.1.sp,0,none⟩), .bool r.2])∧FxM F0 w (dy [.row g0_ 122 ((x0_.domains.1.map U)++[.pointer (some ⟨k0_512.sp,0,none⟩),v0_513]), .sl v0_513 23 1 x0_.list.length c0_513.flatten]) G [.row g0_ 122 ((x0_.domains.1.map U)++[.pointer (some ⟨k0_512.sp,0,none⟩),v0_513]), .sl v0_513 23 1 x0_.list.length c0_513.flatten,eu y.1 y.2.1 y.2.2 (!(r.1.getD default).2.2)] w')∧((r.1).isSome=false→∃(y:Unit) (G:Frz),(True)∧e= .returned (.tuple #[.pointer none, .bool r.2])∧FxM F0 w (dy [.row g0_ 122 ((x0_.domains.1.map U)++[.pointer (some ⟨k0_512.sp,0,none⟩),v0_513]), .sl v0_513 23 1 x0_.list.length c0_513.flatten]) G [.row g0_ 122 ((x0_.domains.1.map U)++[.pointer (some ⟨k0_512.sp,0,none⟩),v0_513]), .sl v0_513 23 1 x0_.list.length c0_513.flatten] w'):=by
 have hk:=hr;unfold zaz at hk;haveI:=hl.oneC;haveI:=jG (hO.own (.sl v0_513 23 1 x0_.list.length c0_513.flatten) b2);have hmx0_513:=jA (hO.own (.sl v0_513 23 1 x0_.list.length c0_513.flatten) b2);obtain ⟨S0,F1,rfl,hS0,hp0⟩:=lq hF0 hO hA;have hM0:=hZ;have htk:∀ {hs:HS} {w':World},Hp w (dy [.row g0_ 122 ((x0_.domains.1.map U)++[.pointer (some ⟨k0_512.sp,0,none⟩),v0_513]), .sl v0_513 23 1 x0_.list.length c0_513.flatten]) hs w'→Tab w':=fun hw=>htab.kept hw hZ;refine dB (hs:=[.row g0_ 122 ((x0_.domains.1.map U)++[.pointer (some ⟨k0_512.sp,0,none⟩),v0_513]), .sl v0_513 23 1 x0_.list.length c0_513.flatten, .fr F1]) Tryz.func97 rfl rfl rfl hp0 ?_;refine i4 ?_;refine dq ?_;refine ec ?_;refine q3w ?_;refine df (fi [2,0,1] [] [.row g0_ 122 ((x0_.domains.1.map U)++([.pointer (some ⟨k0_512.sp,0,none⟩),v0_513]:List Value)), .sl v0_513 23 1 x0_.list.length c0_513.flatten] rfl rfl rfl rfl a7 (fun w hw hw2 hF=>znX hs0_512 tf0_512 (zf0_512 w hF) hF (htk hw))) ?_;rintro _ _ ⟨⟨k19_,v19_⟩,F2,le1_2,⟨hs19,tf19⟩,rfl,rfl⟩;refine fH ?_; (try dsimp only at hs19 tf19);refine jD ?_;refine dc ?_;refine cK (dn rfl rfl (SlC.mono hl le1_2) (List.length_map _)) ?_;have hm21:l.length≤9223372036854775807:=(List.length_map _)▸(SlC.mono hl le1_2).max;refine dR ?_;have hq:=fq hk;clear hk;obtain ⟨k2,hk2,hk⟩:=hq; (try dsimp only at hk);refine dg (ι:=(List GDomain×Bool)×Ws) (fun z=>[(0, .pointer (some ⟨g0_,0,none⟩)),(6, .pointer (some ⟨k19_.sp,0,none⟩))]) (fun z=>[eu k19_ v19_ z.2 (!z.1.2), .row g0_ 122 ((x0_.domains.1.map U)++[.pointer (some ⟨k0_512.sp,0,none⟩),v0_513]), .sl v0_513 23 1 x0_.list.length c0_513.flatten, .fr F2]) (fun z=>k2 z.1=some r∧SI x0_.start.1 z.1 k19_ z.2) ?_ ?_
 ·have hq:=gF hk;clear hk;obtain ⟨f4,kk4,hf4,hkk4,hk⟩:=hq;refine fV ?_;refine T.pick [0,2,3,1] rfl a7 ?_;refine T.loop (ι:=Nat×(List GDomain×Bool)×Ws) (fun z=>[(0, .pointer (some ⟨g0_,0,none⟩)),(6, .pointer (some ⟨k19_.sp,0,none⟩)),(20,vl),(21, .int .i64 (l.length:Int)),(22, .int .i64 (z.1:Int))]) (fun z=>[eu k19_ v19_ z.2.2 (!z.2.1.2), .row g0_ 122 ((x0_.domains.1.map U)++[.pointer (some ⟨k0_512.sp,0,none⟩),v0_513]), .sl v0_513 23 1 x0_.list.length c0_513.flatten, .fr F2]) (fun z=>dh f4 kk4 (l.length - z.1) z.1 z.2.1=some r∧SI x0_.start.1 z.2.1 k19_ z.2.2) (fun z=>l.length - z.1) (0,x0_.start.2,L0_512) ?_ ?_ ?_ ?_
  ·exact ⟨hk,hs19⟩
  ·exact q4h
  ·exact fQ
  ·rintro ⟨i_5,m_3,Lm_3⟩ ⟨hk,hsm_3⟩; (try dsimp only at *);refine fk ?_;refine T.cond rfl (fun h6=>?_) (fun h6=>?_)
   ·have p6:=of_decide_eq_true h6;rw [gH a6] at hk;generalize hn4:dh f4 kk4 (l.length - (i_5+1)) (i_5+1)=next4 at hk;rw [←hf4] at hk; (try dsimp only at hk);refine fT ?_;refine cK (dj (i:=i_5) rfl rfl rfl (SlC.mono hl le1_2) (List.length_map _) rfl a6) ?_;refine cK (eD 3 (i:=i_5) rfl rfl rfl (SlC.mono hl le1_2) a6) ?_;refine iJ ?_;rintro _ _ ⟨g8,rfl,rfl⟩;refine jX ?_;refine ij ?_;refine dc ?_;refine df (cL rfl rfl rfl (fun w hw=>zeB hsm_3 tf19 (hw.get (i:=1) rfl) (hw.fr (i:=4) rfl) (htk hw))) ?_;refine eB ?_;refine cR ?_;refine T.cond rfl (fun h7=>?_) (fun h7=>?_)
    ·replace hk:=dH hk h7;refine i4 ?_;refine cR (T.ret (dZ (eV (dZ (dZ (eV (dZ ?_)))))));obtain rfl:=Option.some.inj hk;exact fP rfl rfl rfl (fun w' hw=>⟨fun h=>(by cases h),fun _=>⟨⟨⟩,F2.toFrz,trivial,rfl,dw (hw.pick (idx:=[2,3,4]) rfl a7) hS0 le1_2⟩⟩)
    ·replace hk:=dL hk h7;refine T.skip (K.seq ?_);have hq:=fD hk;clear hk;obtain ⟨r30,hr30,hk⟩:=hq; (try dsimp only at hk);refine kd ?_;refine jd ?_;refine df (lr 1 rfl rfl rfl rfl (fun w hw=>zkZ hsm_3 tf19 (hw.get (i:=1) rfl) (hw.fr (i:=4) rfl) (hw.apartF (i:=1) (j:=4) rfl rfl a7) (htk hw) hfu (cH l i_5) hr30)) ?_;rintro _ _ ⟨L30_,hs30,rfl,rfl⟩;refine lN ?_;rw [←hn4] at hk;refine K.pick [1,2,3,4] rfl a7 ?_;exact K.next ((i_5+1),r30.1,L30_) ⟨hk,hs30⟩ b3 (.c (.c (.c (.c (.c .nil))))) (List.Sublist.refl _)
   ·have p6:=of_decide_eq_false h6;rw [gK a6,←hkk4] at hk; (try dsimp only at hk);refine fu ?_;exact cP (m_3,Lm_3) ⟨hk,hsm_3⟩ (.c (.c .nil)) (List.Sublist.refl _)
 ·rintro ⟨m_1,Lm_1⟩ ⟨hk,hsm_1⟩; (try dsimp only at *);rw [←hk2] at hk; (try dsimp only at hk);refine q3O ?_;have hq:=fq hk;clear hk;obtain ⟨k9,hk9,hk⟩:=hq; (try dsimp only at hk);refine dg (ι:=(List GDomain×Bool)×Ws×FzB w (dy [.row g0_ 122 ((x0_.domains.1.map U)++[.pointer (some ⟨k0_512.sp,0,none⟩),v0_513]), .sl v0_513 23 1 x0_.list.length c0_513.flatten]) S0) (fun z=>[(6, .pointer (some ⟨k19_.sp,0,none⟩))]) (fun z=>[eu k19_ v19_ z.2.1 (!z.1.2), .row g0_ 122 ((x0_.domains.1.map U)++[.pointer (some ⟨k0_512.sp,0,none⟩),v0_513]), .sl v0_513 23 1 x0_.list.length c0_513.flatten, .fr z.2.2]) (fun z=>k9 z.1=some r∧SI x0_.start.1 z.1 k19_ z.2.1∧F2.toFrz.Le z.2.2.toFrz) ?_ ?_
  ·have hq:=zeI hk;clear hk;obtain ⟨f12,hf12,hk⟩:=hq;refine fV ?_;refine T.loop (ι:=Nat×Bool×(List GDomain×Bool)×Ws×FzB w (dy [.row g0_ 122 ((x0_.domains.1.map U)++[.pointer (some ⟨k0_512.sp,0,none⟩),v0_513]), .sl v0_513 23 1 x0_.list.length c0_513.flatten]) S0) (fun z=>[(0, .pointer (some ⟨g0_,0,none⟩)),(6, .pointer (some ⟨k19_.sp,0,none⟩)),(9, .bool z.2.1)]) (fun z=>[eu k19_ v19_ z.2.2.2.1 (!z.2.2.1.2), .row g0_ 122 ((x0_.domains.1.map U)++[.pointer (some ⟨k0_512.sp,0,none⟩),v0_513]), .sl v0_513 23 1 x0_.list.length c0_513.flatten, .fr z.2.2.2.2]) (fun z=>iP f12 z.1 (z.2.1,z.2.2.1)=some r∧SI x0_.start.1 z.2.2.1 k19_ z.2.2.2.1∧F2.toFrz.Le z.2.2.2.2.toFrz) (fun z=>z.1) (fuel,true,m_1,Lm_1,F2) ?_ ?_ ?_ ?_
   ·exact ⟨hk,hsm_1,(Frz.Le.refl _)⟩
   ·exact q32
   ·exact fQ
   ·rintro ⟨m_13,changed_10,m_11,Lm_11,F4⟩ ⟨hk,hsm_11,le2_4⟩; (try dsimp only at *);have le1_4:=le1_2.trans le2_4;have hq:=zfi hk;clear hk;obtain ⟨m_13',rfl,hk⟩:=hq;generalize hn12:iP f12 m_13'=next12 at hk;rw [←hf12] at hk; (try dsimp only at hk);refine q3O ?_;refine T.cond rfl (fun h14=>?_) (fun h14=>?_)
    ·replace hk:=dH hk h14;refine T.skip (K.seq (T.block (T.seq (dd ?_))));refine dc ?_;refine df (cL rfl rfl rfl (fun w hw=>zeB hsm_11 (tf19.mono le2_4) (hw.get (i:=0) rfl) (hw.fr (i:=3) rfl) (htk hw))) ?_;refine eB ?_;refine cR ?_;refine T.cond rfl (fun h15=>?_) (fun h15=>?_)
     ·replace hk:=dH hk h15;refine i4 ?_;refine cR (T.ret (dZ (eV (dZ (eV (dZ ?_))))));obtain rfl:=Option.some.inj hk;exact fP rfl rfl rfl (fun w' hw=>⟨fun h=>(by cases h),fun _=>⟨⟨⟩,F4.toFrz,trivial,rfl,dw (hw.pick (idx:=[1,2,3]) rfl a7) hS0 le1_4⟩⟩)
     ·replace hk:=dL hk h15;refine i1 ?_;refine j6 ?_;have hq:=fD hk;clear hk;obtain ⟨r36,hr36,hk⟩:=hq; (try dsimp only at hk);refine kd ?_;refine df (fi [0,3,1,2] [eu k19_ v19_ Lm_11 (!m_11.2)] [.row g0_ 122 ((x0_.domains.1.map U)++([.pointer (some ⟨k0_512.sp,0,none⟩),v0_513]:List Value)), .sl v0_513 23 1 x0_.list.length c0_513.flatten] rfl rfl rfl rfl a7 (fun w hw hw2 hF=>zdP _ w hF x0_.start.1 m_11 k19_ v19_ Lm_11 hsm_11 (tf19.mono le2_4) (htk hw) hw2.takes.1 hw2.takes.2 (hw2.takes0 hM0 htab.pos) r36 hr36)) ?_;rintro _ _ ⟨⟨⟩,F5,le4_5, -,rfl,rfl⟩;refine fH ?_;have le1_5:=le1_4.trans le4_5;have le2_5:=le2_4.trans le4_5;refine q3R ?_;rintro _ _ ⟨g10,rfl,rfl⟩;refine fM (dG 0 rfl rfl rfl rfl Vec.len (Vec.len.trans Vec.len.symm)) ?_;refine eB ?_;refine dq ?_;refine ec ?_;refine ft ?_;refine cK (cX 3 rfl rfl rfl (mF a6 (zdf Vec.len (show [.pointer (some ⟨k0_512.sp,0,none⟩),v0_513][1]?=some _ from rfl)))) ?_;refine cK (jP 4 rfl rfl rfl) ?_;refine dR ?_;have hq:=gF hk;clear hk;obtain ⟨f19,kk19,hf19,hkk19,hk⟩:=hq;refine fV ?_;refine T.pick [1,0,3,4,2] rfl a7 ?_;refine T.loop (ι:=Nat×Bool×(List GDomain×Bool)×Ws×Vec 512 Int×FzB w (dy [.row g0_ 122 ((x0_.domains.1.map U)++[.pointer (some ⟨k0_512.sp,0,none⟩),v0_513]), .sl v0_513 23 1 x0_.list.length c0_513.flatten]) S0) (fun z=>[(0, .pointer (some ⟨g0_,0,none⟩)),(6, .pointer (some ⟨k19_.sp,0,none⟩)),(9, .bool z.2.1),(10, .pointer (some ⟨g10,0,none⟩)),(40,v0_513),(41, .int .i64 (x0_.list.length:Int)),(42, .int .i64 (z.1:Int))]) (fun z=>[eu k19_ v19_ z.2.2.2.1 (!z.2.2.1.2), .row g10 166 (z.2.2.2.2.1.1.map vI), .row g0_ 122 ((x0_.domains.1.map U)++[.pointer (some ⟨k0_512.sp,0,none⟩),v0_513]), .sl v0_513 23 1 x0_.list.length c0_513.flatten, .fr z.2.2.2.2.2]) (fun z=>dh f19 kk19 (x0_.list.length - z.1) z.1 (z.2.1,z.2.2.1,z.2.2.2.2.1)=some r∧SI x0_.start.1 z.2.2.1 k19_ z.2.2.2.1∧F5.toFrz.Le z.2.2.2.2.2.toFrz) (fun z=>x0_.list.length - z.1) (0,false,m_11,Lm_11,r36,F5) ?_ ?_ ?_ ?_
      ·exact ⟨hk,hsm_11,(Frz.Le.refl _)⟩
      ·exact (.c (.c (.c (.c (.c (.c (.c .nil)))))))
      ·exact fQ
      ·rintro ⟨i_20,changed_16,m_17,Lm_17,c_18,F6⟩ ⟨hk,hsm_17,le5_6⟩; (try dsimp only at *);have le1_6:=le1_5.trans le5_6;have le2_6:=le2_5.trans le5_6;refine fk ?_;refine T.cond rfl (fun h21=>?_) (fun h21=>?_)
       ·have p21:=of_decide_eq_true h21;rw [gH a6] at hk;generalize hn19:dh f19 kk19 (x0_.list.length - (i_20+1)) (i_20+1)=next19 at hk;rw [←hf19] at hk; (try dsimp only at hk);refine ks ?_;have hq:=fq hk;clear hk;obtain ⟨k25,hk25,hk⟩:=hq; (try dsimp only at hk);refine dg (ι:=Bool×(List GDomain×Bool)×Ws×Vec 512 Int×FzB w (dy [.row g0_ 122 ((x0_.domains.1.map U)++[.pointer (some ⟨k0_512.sp,0,none⟩),v0_513]), .sl v0_513 23 1 x0_.list.length c0_513.flatten]) S0) (fun z=>[(0, .pointer (some ⟨g0_,0,none⟩)),(6, .pointer (some ⟨k19_.sp,0,none⟩)),(9, .bool z.1),(10, .pointer (some ⟨g10,0,none⟩)),(40,v0_513),(41, .int .i64 (x0_.list.length:Int)),(42, .int .i64 (i_20:Int))]) (fun z=>[eu k19_ v19_ z.2.2.1 (!z.2.1.2), .row g10 166 (z.2.2.2.1.1.map vI), .row g0_ 122 ((x0_.domains.1.map U)++[.pointer (some ⟨k0_512.sp,0,none⟩),v0_513]), .sl v0_513 23 1 x0_.list.length c0_513.flatten, .fr z.2.2.2.2]) (fun z=>k25 (z.1,z.2.1,z.2.2.2.1)=some r∧SI x0_.start.1 z.2.1 k19_ z.2.2.1∧F6.toFrz.Le z.2.2.2.2.toFrz) ?_ ?_
        ·refine T.block (dd ?_);refine cK (Yv.cx 3 (i:=i_20) rfl rfl rfl rfl rfl a6) ?_;refine cK (Yv.ca 3 rfl rfl rfl a6 ((zd0 _ (OwnD.mono (rep:=cI) (fun _ _ _ _=>R_List_GChoice.mono) h0_513 le1_6).2.1 i_20 (by have:=(OwnD.mono (rep:=cI) (fun _ _ _ _=>R_List_GChoice.mono) h0_513 le1_6).1;omega) 0 a7).trans (R_List_GChoice.c0 ((OwnD.mono (rep:=cI) (fun _ _ _ _=>R_List_GChoice.mono) h0_513 le1_6).2.2 i_20 a6)).1)) ?_;have hd45_0:=(R_List_GChoice.c0 ((OwnD.mono (rep:=cI) (fun _ _ _ _=>R_List_GChoice.mono) h0_513 le1_6).2.2 i_20 a6)).2;haveI:=hd45_0.oneC;refine j6 ?_;have hq:=fD hk;clear hk;obtain ⟨r49,hr49,hk⟩:=hq; (try dsimp only at hk);refine jO ?_;refine df (fL [0,1,4,2,3] [eu k19_ v19_ Lm_17 (!m_17.2), .row g10 166 (c_18.1.map vI)] [.row g0_ 122 ((x0_.domains.1.map U)++([.pointer (some ⟨k0_512.sp,0,none⟩),v0_513]:List Value)), .sl v0_513 23 1 x0_.list.length c0_513.flatten] rfl rfl rfl rfl a7 (fun w hw hw2 hF=>zgx _ w hF x0_.start.1 m_17 k19_ v19_ Lm_17 hsm_17 (tf19.mono le2_6) c_18 g10 (cH x0_.list i_20) (cH (cH c0_513 i_20) 0) hd45_0 (htk hw) hw2.takes.1 hw2.takes.2 (hw2.takes0 hM0 htab.pos) r49 hr49)) ?_;rintro _ _ ⟨⟨⟩, -,rfl,rfl⟩;refine fH ?_;refine fb ?_;refine iJ ?_;rintro _ _ ⟨g13,rfl,rfl⟩;refine jX ?_;refine jD ?_;refine ji ?_;refine T.cond rfl (fun h26=>?_) (fun h26=>?_)
         ·replace hk:=dH hk h26;refine T.exit (d3 (fy ?_));refine K.pick [1,2,4,5,3] rfl a7 ?_;exact cP (changed_16,m_17,Lm_17,c_18,F6) ⟨hk,hsm_17,(Frz.Le.refl _)⟩ (.c (.c (.c (.c (.c (.c (.c .nil))))))) (List.Sublist.refl _)
         ·replace hk:=dL hk h26;refine kh ?_;refine dc ?_;refine cK (dn rfl rfl hd45_0 (List.length_map _)) ?_;have hm55:(cH x0_.list i_20).length≤9223372036854775807:=(List.length_map _)▸hd45_0.max;refine dR ?_;refine T.cond rfl (fun h27=>?_) (fun h27=>?_)
          ·have p27:=of_decide_eq_true h27;replace hk:=dH hk h27;refine i4 ?_;refine cR (T.ret (dZ (eV (dZ (dZ (eV (eV (dZ (eV (dZ ?_))))))))));obtain rfl:=Option.some.inj hk;exact q4F
          ·have p27:=of_decide_eq_false h27;replace hk:=dL hk h27;refine ks ?_;have hq:=fD hk;clear hk;obtain ⟨r59,hr59,hk⟩:=hq; (try dsimp only at hk);refine kd ?_;refine jd ?_;refine df (lr 1 rfl rfl rfl rfl (fun w hw=>zkL hsm_17 (tf19.mono le2_6) (hw.get (i:=1) rfl) (hw.fr (i:=3) rfl) (hw.apartF (i:=1) (j:=3) rfl rfl a7) (htk hw) hfu r49.1 hr59)) ?_;rintro _ _ ⟨L59_,hs59,rfl,rfl⟩;refine ij ?_;refine dc ?_;refine df (cL rfl rfl rfl (fun w hw=>zeB hs59 (tf19.mono le2_6) (hw.get (i:=1) rfl) (hw.fr (i:=3) rfl) (htk hw))) ?_;refine eB ?_;refine cR ?_;refine T.cond rfl (fun h28=>?_) (fun h28=>?_)
           ·replace hk:=dH hk h28;refine i4 ?_;refine cR (T.ret (dZ (eV (dZ (dZ (eV (eV (dZ (eV (dZ ?_))))))))));obtain rfl:=Option.some.inj hk;exact q4F
           ·replace hk:=dL hk h28;refine T.skip (K.seq ?_);have hq:=fD hk;clear hk;obtain ⟨r63,hr63,hk⟩:=hq; (try dsimp only at hk);refine kd ?_;refine df (fi [1,3,0,2,4,5] [eu k19_ v19_ L59_ (!r59.1.2)] [.row g13 34 [.int .i64 r49.1.Station, .int .i64 r49.1.Channel], .row g10 166 (c_18.1.map vI), .row g0_ 122 ((x0_.domains.1.map U)++([.pointer (some ⟨k0_512.sp,0,none⟩),v0_513]:List Value)), .sl v0_513 23 1 x0_.list.length c0_513.flatten] rfl rfl rfl rfl a7 (fun w hw hw2 hF=>zdP _ w hF x0_.start.1 r59.1 k19_ v19_ L59_ hs59 (tf19.mono le2_6) (htk hw) hw2.takes.1 hw2.takes.2 (hw2.takes0 hM0 htab.pos) r63 hr63)) ?_;rintro _ _ ⟨⟨⟩,F8,le6_8, -,rfl,rfl⟩;refine fH ?_;refine fM (dG 3 rfl rfl rfl rfl Vec.len (Vec.len.trans Vec.len.symm)) ?_;refine eB ?_;refine dc ?_;refine TL.nil (eQ ?_);refine K.pick [0,3,4,5,1] rfl a7 ?_;exact cP (true,r59.1,L59_,r63,F8) ⟨hk,hs59,le6_8⟩ (.c (.c (.c (.c (.c (.c (.c .nil))))))) (List.Sublist.refl _)
        ·rintro ⟨changed_22,m_23,Lm_23,c_24,F7⟩ ⟨hk,hsm_23,le6_7⟩; (try dsimp only at *);rw [←hk25] at hk; (try dsimp only at hk);have le5_7:=le5_6.trans le6_7;refine fN ?_;refine ku ?_;rw [←hn19] at hk;exact K.next ((i_20+1),changed_22,m_23,Lm_23,c_24,F7) ⟨hk,hsm_23,le5_7⟩ b3 (.c (.c (.c (.c (.c (.c (.c .nil))))))) (List.Sublist.refl _)
       ·have p21:=of_decide_eq_false h21;rw [gK a6,←hkk19] at hk; (try dsimp only at hk);refine T.exit (d3 (d3 (fy (eQ ?_))));rw [←hn12] at hk;refine K.pick [0,2,3,4] rfl a7 ?_;exact K.next (m_13',changed_16,m_17,Lm_17,F6) ⟨hk,hsm_17,le2_6⟩ b3 (.c (.c (.c .nil))) (List.Sublist.refl _)
    ·replace hk:=dL hk h14;refine fu ?_;exact cP (m_11,Lm_11,F4) ⟨hk,hsm_11,le2_4⟩ (.c .nil) (List.Sublist.refl _)
  ·rintro ⟨m_8,Lm_8,F3⟩ ⟨hk,hsm_8,le2_3⟩; (try dsimp only at *);rw [←hk9] at hk; (try dsimp only at hk);have le1_3:=le1_2.trans le2_3;refine dd ?_;refine fb ?_;refine gM ?_;obtain rfl:=Option.some.inj hk;exact fP rfl rfl rfl (fun w' hw=>⟨fun _=>⟨(k19_,v19_,Lm_8),F3.toFrz,⟨hsm_8,(tf19.mono le2_3)⟩,rfl,dw (hw.pick (idx:=[1,2,0,3]) rfl a7) hS0 le1_3⟩,fun h=>(by cases h)⟩)
def zak (fuel:Nat)(x0_:GStore)(g_:List GChoice):Option (Bool×Int):=
 (bif (zai x0_) then
  some (false,1)
  else
  (zaD x0_ g_).bind fun r12=>
  (bif !r12 then
   some (false,2)
   else
   (zaz fuel x0_ g_).bind fun r17=>
   (bif (r17.1).isSome then
    some (r17.2,0)
    else
    some (r17.2,0))))
theorem zcp (F0:Frz)(w:World)(hF0:F0.At w)(x0_:GStore)(g0_:Nat)(k0_512:SK)(v0_512:Value)(L0_512:Ws)(hs0_512:SI x0_.start.1 x0_.start.2 k0_512 L0_512)(tf0_512:TbF F0 k0_512)(zf0_512:SzF F0 k0_512 v0_512 L0_512 (!x0_.start.2.2))(v0_513:Value)(c0_513:List (List Value))(h0_513:OwnD cI F0 1 c0_513 x0_.list)(g_:List GChoice)(vg_:Value)(hg_:SlC F0 vg_ 2 (g_.map cG))(htab:Tab w)(hO:Hp w (dy [.row g0_ 122 ((x0_.domains.1.map U)++[.pointer (some ⟨k0_512.sp,0,none⟩),v0_513]), .sl v0_513 23 1 x0_.list.length c0_513.flatten]) [.row g0_ 122 ((x0_.domains.1.map U)++[.pointer (some ⟨k0_512.sp,0,none⟩),v0_513]), .sl v0_513 23 1 x0_.list.length c0_513.flatten] w)(hA:∀g,dy [.row g0_ 122 ((x0_.domains.1.map U)++[.pointer (some ⟨k0_512.sp,0,none⟩),v0_513]), .sl v0_513 23 1 x0_.list.length c0_513.flatten] g→¬F0.S g)(hZ:¬dy [.row g0_ 122 ((x0_.domains.1.map U)++[.pointer (some ⟨k0_512.sp,0,none⟩),v0_513]), .sl v0_513 23 1 x0_.list.length c0_513.flatten] 0)(fuel:Nat)(hfu:100000≤fuel)(r:Bool×Int)(hr:zak fuel x0_ g_=some r):Calls Tryz.prog 103 #[.pointer (some ⟨g0_,0,none⟩),vg_] w fun e w'=>∃(y:Unit) (G:Frz),(True)∧e= .returned (.tuple #[.bool r.1, .int .i64 r.2])∧FxM F0 w (dy [.row g0_ 122 ((x0_.domains.1.map U)++[.pointer (some ⟨k0_512.sp,0,none⟩),v0_513]), .sl v0_513 23 1 x0_.list.length c0_513.flatten]) G [.row g0_ 122 ((x0_.domains.1.map U)++[.pointer (some ⟨k0_512.sp,0,none⟩),v0_513]), .sl v0_513 23 1 x0_.list.length c0_513.flatten] w':=by
 have hk:=hr;unfold zak at hk;haveI:=hg_.oneC;haveI:=jG (hO.own (.sl v0_513 23 1 x0_.list.length c0_513.flatten) b2);have hmx0_513:=jA (hO.own (.sl v0_513 23 1 x0_.list.length c0_513.flatten) b2);obtain ⟨S0,F1,rfl,hS0,hp0⟩:=lq hF0 hO hA;have hM0:=hZ;have htk:∀ {hs:HS} {w':World},Hp w (dy [.row g0_ 122 ((x0_.domains.1.map U)++[.pointer (some ⟨k0_512.sp,0,none⟩),v0_513]), .sl v0_513 23 1 x0_.list.length c0_513.flatten]) hs w'→Tab w':=fun hw=>htab.kept hw hZ;refine dB (hs:=[.row g0_ 122 ((x0_.domains.1.map U)++[.pointer (some ⟨k0_512.sp,0,none⟩),v0_513]), .sl v0_513 23 1 x0_.list.length c0_513.flatten, .fr F1]) Tryz.func103 rfl rfl rfl hp0 ?_;refine i4 ?_;refine q02 ?_;rintro _ _ ⟨⟨⟩, -,rfl,rfl⟩;refine fH ?_;refine cR ?_;refine T.cond rfl (fun h1=>?_) (fun h1=>?_)
 ·replace hk:=dH hk h1;refine mf ?_;obtain rfl:=Option.some.inj hk;exact q4G
 ·replace hk:=dL hk h1;refine T.skip (K.seq (T.seq (T.seq ?_)));have hq:=fD hk;clear hk;obtain ⟨r12,hr12,hk⟩:=hq; (try dsimp only at hk);refine jO ?_;refine df (fL [0,1,2] [.row g0_ 122 ((x0_.domains.1.map U)++([.pointer (some ⟨k0_512.sp,0,none⟩),v0_513]:List Value)), .sl v0_513 23 1 x0_.list.length c0_513.flatten] [] rfl rfl rfl rfl a7 (fun w hw hw2 hF=>zbF _ w hF x0_ g0_ k0_512 v0_512 L0_512 hs0_512 tf0_512 zf0_512 v0_513 c0_513 h0_513 g_ vg_ hg_ hw2.takes.1 hw2.takes.2 r12 hr12)) ?_;rintro _ _ ⟨⟨⟩, -,rfl,rfl⟩;refine fH ?_;refine dR ?_;refine T.cond rfl (fun h2=>?_) (fun h2=>?_)
  ·replace hk:=dH hk h2;refine mf ?_;obtain rfl:=Option.some.inj hk;exact q4G
  ·replace hk:=dL hk h2;refine ks ?_;have hq:=fD hk;clear hk;obtain ⟨r17,hr17,hk⟩:=hq; (try dsimp only at hk);refine T.bt ((r17.1).isSome) (fun h3=>?_) (fun h3=>?_)
   ·replace hk:=dH hk h3;refine jO ?_;refine df (fi [0,1,2] [.row g0_ 122 ((x0_.domains.1.map U)++([.pointer (some ⟨k0_512.sp,0,none⟩),v0_513]:List Value)), .sl v0_513 23 1 x0_.list.length c0_513.flatten] [] rfl rfl rfl rfl a7 (fun w hw hw2 hF=>(zaU _ w hF x0_ g0_ k0_512 v0_512 L0_512 hs0_512 tf0_512 zf0_512 v0_513 c0_513 h0_513 g_ vg_ hg_ (htk hw) hw2.takes.1 hw2.takes.2 (hw2.takes0 hM0 htab.pos) fuel hfu r17 hr17).mono (fun e w' hp=>hp.1 h3))) ?_;rintro _ _ ⟨⟨k17_n,v17_n,L17_n⟩,F2,le1_2,⟨hs17_n,tf17_n⟩,rfl,rfl⟩;refine fH ?_; (try dsimp only at hs17_n tf17_n);refine TL.run 5 rfl ?_;refine dq ?_;refine fb ?_;refine gM ?_;obtain rfl:=Option.some.inj hk;exact fP rfl rfl rfl (fun w' hw=>⟨⟨⟩,F2.toFrz,trivial,rfl,dw (hw.pick (idx:=[0,1,3]) rfl a7) hS0 le1_2⟩)
   ·replace hk:=dL hk h3;refine jO ?_;refine df (fi [0,1,2] [.row g0_ 122 ((x0_.domains.1.map U)++([.pointer (some ⟨k0_512.sp,0,none⟩),v0_513]:List Value)), .sl v0_513 23 1 x0_.list.length c0_513.flatten] [] rfl rfl rfl rfl a7 (fun w hw hw2 hF=>(zaU _ w hF x0_ g0_ k0_512 v0_512 L0_512 hs0_512 tf0_512 zf0_512 v0_513 c0_513 h0_513 g_ vg_ hg_ (htk hw) hw2.takes.1 hw2.takes.2 (hw2.takes0 hM0 htab.pos) fuel hfu r17 hr17).mono (fun e w' hp=>hp.2 h3))) ?_;rintro _ _ ⟨⟨⟩,F3,le1_3, -,rfl,rfl⟩;refine fH ?_;refine TL.run 5 rfl ?_;refine dq ?_;refine fb ?_;refine gM ?_;obtain rfl:=Option.some.inj hk;exact fP rfl rfl rfl (fun w' hw=>⟨⟨⟩,F3.toFrz,trivial,rfl,dw (hw.pick (idx:=[0,1,2]) rfl a7) hS0 le1_3⟩)
def zam (fuel:Nat)(x0_:GStore)(l:List GChoice):Option (List GDomain×Bool×Int):=
 (bif (zai x0_) then
  some ([],false,1)
  else
  (bif !(kR l) then
   some ([],false,2)
   else
   dO (fun (_:Unit)=>
    (zaz fuel x0_ l).bind fun r34=>
    (bif (r34.1).isSome then
     (bif r34.2 then
      some ([],true,0)
      else
      some (((r34.1.getD default).2).1,false,0))
     else
     (bif r34.2 then
      some ([],true,0)
      else
      none)))
   (fun k3=>
    dh (fun (i_5:Nat) (next4:Unit→Option (List GDomain×Bool×Int)) (_:Unit)=>
     ex (0≤(cH l i_5).Station∧(cH l i_5).Station<(512:Int)) <|
     (bif decide (((Vec.get x0_.domains (((cH l i_5).Station).toNat)).toNat:Int)=((0#64).toNat:Int)) then
      some ([],false,9)
      else
      next4 ()))
    (fun (_:Unit)=>
     k3 ()) (l.length - 0) 0 ())))
theorem za9 (F0:Frz)(w:World)(hF0:F0.At w)(x0_:GStore)(g0_:Nat)(k0_512:SK)(v0_512:Value)(L0_512:Ws)(hs0_512:SI x0_.start.1 x0_.start.2 k0_512 L0_512)(tf0_512:TbF F0 k0_512)(zf0_512:SzF F0 k0_512 v0_512 L0_512 (!x0_.start.2.2))(v0_513:Value)(c0_513:List (List Value))(h0_513:OwnD cI F0 1 c0_513 x0_.list)(l:List GChoice)(vl:Value)(hl:SlC F0 vl 2 (l.map cG))(htab:Tab w)(hO:Hp w (dy [.row g0_ 122 ((x0_.domains.1.map U)++[.pointer (some ⟨k0_512.sp,0,none⟩),v0_513]), .sl v0_513 23 1 x0_.list.length c0_513.flatten]) [.row g0_ 122 ((x0_.domains.1.map U)++[.pointer (some ⟨k0_512.sp,0,none⟩),v0_513]), .sl v0_513 23 1 x0_.list.length c0_513.flatten] w)(hA:∀g,dy [.row g0_ 122 ((x0_.domains.1.map U)++[.pointer (some ⟨k0_512.sp,0,none⟩),v0_513]), .sl v0_513 23 1 x0_.list.length c0_513.flatten] g→¬F0.S g)(hZ:¬dy [.row g0_ 122 ((x0_.domains.1.map U)++[.pointer (some ⟨k0_512.sp,0,none⟩),v0_513]), .sl v0_513 23 1 x0_.list.length c0_513.flatten] 0)(fuel:Nat)(hfu:100000≤fuel)(r:List GDomain×Bool×Int)(hr:zam fuel x0_ l=some r):Calls Tryz.prog 69 #[.pointer (some ⟨g0_,0,none⟩),vl] w fun e w'=>∃(y:Value×List (List Value)) (G:Frz),(SlD cJ G y.1 2 y.2 r.1)∧e= .returned (.tuple #[y.1, .bool r.2.1, .int .i64 r.2.2])∧FxM F0 w (dy [.row g0_ 122 ((x0_.domains.1.map U)++[.pointer (some ⟨k0_512.sp,0,none⟩),v0_513]), .sl v0_513 23 1 x0_.list.length c0_513.flatten]) G [.row g0_ 122 ((x0_.domains.1.map U)++[.pointer (some ⟨k0_512.sp,0,none⟩),v0_513]), .sl v0_513 23 1 x0_.list.length c0_513.flatten] w':=by
 have hk:=hr;unfold zam at hk;haveI:=hl.oneC;haveI:=jG (hO.own (.sl v0_513 23 1 x0_.list.length c0_513.flatten) b2);have hmx0_513:=jA (hO.own (.sl v0_513 23 1 x0_.list.length c0_513.flatten) b2);obtain ⟨S0,F1,rfl,hS0,hp0⟩:=lq hF0 hO hA;have hM0:=hZ;have htk:∀ {hs:HS} {w':World},Hp w (dy [.row g0_ 122 ((x0_.domains.1.map U)++[.pointer (some ⟨k0_512.sp,0,none⟩),v0_513]), .sl v0_513 23 1 x0_.list.length c0_513.flatten]) hs w'→Tab w':=fun hw=>htab.kept hw hZ;refine dB (hs:=[.row g0_ 122 ((x0_.domains.1.map U)++[.pointer (some ⟨k0_512.sp,0,none⟩),v0_513]), .sl v0_513 23 1 x0_.list.length c0_513.flatten, .fr F1]) Tryz.func69 rfl rfl rfl hp0 ?_;refine dd ?_;refine fb ?_;refine q02 ?_;rintro _ _ ⟨⟨⟩, -,rfl,rfl⟩;refine fH ?_;refine cR ?_;refine T.cond rfl (fun h1=>?_) (fun h1=>?_)
 ·replace hk:=dH hk h1;refine dd ?_;refine fb ?_;refine ky ?_;obtain rfl:=Option.some.inj hk;exact q4H
 ·replace hk:=dL hk h1;refine kh ?_;refine dc ?_;refine df (cL rfl rfl rfl (fun w hw=>zbM _ w (hw.fr (i:=2) rfl) l vl hl)) ?_;refine eB ?_;refine dR ?_;refine T.cond rfl (fun h2=>?_) (fun h2=>?_)
  ·replace hk:=dH hk h2;refine dd ?_;refine fb ?_;refine ky ?_;obtain rfl:=Option.some.inj hk;exact q4H
  ·replace hk:=dL hk h2;refine kh ?_;refine dc ?_;refine q2c ?_;have hm17:l.length≤9223372036854775807:=(List.length_map _)▸hl.max;refine dR ?_;have hq:=fq hk;clear hk;obtain ⟨k3,hk3,hk⟩:=hq; (try dsimp only at hk);refine dg (ι:=Unit) (fun z=>[(0, .pointer (some ⟨g0_,0,none⟩)),(1,vl)]) (fun z=>[.row g0_ 122 ((x0_.domains.1.map U)++[.pointer (some ⟨k0_512.sp,0,none⟩),v0_513]), .sl v0_513 23 1 x0_.list.length c0_513.flatten, .fr F1]) (fun z=>k3 ()=some r) ?_ ?_
   ·have hq:=gF hk;clear hk;obtain ⟨f4,kk4,hf4,hkk4,hk⟩:=hq;refine fV ?_;refine T.loop (ι:=Nat) (fun z=>[(0, .pointer (some ⟨g0_,0,none⟩)),(1,vl),(16,vl),(17, .int .i64 (l.length:Int)),(18, .int .i64 (z:Int))]) (fun z=>[.row g0_ 122 ((x0_.domains.1.map U)++[.pointer (some ⟨k0_512.sp,0,none⟩),v0_513]), .sl v0_513 23 1 x0_.list.length c0_513.flatten, .fr F1]) (fun z=>dh f4 kk4 (l.length - z) z ()=some r) (fun z=>l.length - z) 0 ?_ ?_ ?_ ?_
    ·exact hk
    ·exact q4h
    ·exact fQ
    ·rintro i_5 hk;refine fk ?_;refine T.cond rfl (fun h6=>?_) (fun h6=>?_)
     ·have p6:=of_decide_eq_true h6;rw [gH a6] at hk;generalize hn4:dh f4 kk4 (l.length - (i_5+1)) (i_5+1)=next4 at hk;rw [←hf4] at hk; (try dsimp only at hk);refine fT ?_;refine cK (dj (i:=i_5) rfl rfl rfl hl (List.length_map _) rfl a6) ?_;refine cK (eD 2 (i:=i_5) rfl rfl rfl hl a6) ?_;refine iJ ?_;rintro _ _ ⟨g8,rfl,rfl⟩;refine q2H ?_;have hq:(0≤(cH l i_5).Station∧(cH l i_5).Station<(512:Int))∧_:=gZ hk;clear hk;obtain ⟨g27,hk⟩:=hq; (try dsimp only at hk);refine dF (sN 0 7 (.still 7 .done)) _ a8 (List.Sublist.refl _) ?_;refine eR ?_;refine eW ?_;refine lg ?_;refine cN rfl (ed (i:=((cH l i_5).Station).toNat) rfl rfl rfl a6 a6) ?_;refine cN rfl (cX 1 rfl rfl rfl (mF a6 (zlq Vec.len a6 (Vec.cell (i:=((cH l i_5).Station).toNat) a6)))) ?_;refine kM ?_;refine T.cond rfl (fun h7=>?_) (fun h7=>?_)
      ·replace hk:=dH hk h7;refine dd ?_;refine fb ?_;refine mN ?_;obtain rfl:=Option.some.inj hk;exact mO rfl rfl rfl rfl (fun w' hw=>⟨((.slice none 0 0),[]),F1.toFrz,(SlD.nil _ _ 2),rfl,dw (hw.pick (idx:=[1,2,3]) rfl a7) hS0 (Frz.Le.refl _)⟩)
      ·replace hk:=dL hk h7;refine iK ?_;rw [←hn4] at hk;refine q2S ?_;exact K.next (i_5+1) hk a6 (.c (.c (.c (.c (.c .nil))))) (List.Sublist.refl _)
     ·have p6:=of_decide_eq_false h6;rw [gK a6,←hkk4] at hk; (try dsimp only at hk);refine fu ?_;exact cP () hk (.c (.c .nil)) (List.Sublist.refl _)
   ·rintro _ hk;rw [←hk3] at hk; (try dsimp only at hk);refine T.seq ?_;have hq:=fD hk;clear hk;obtain ⟨r34,hr34,hk⟩:=hq; (try dsimp only at hk);refine T.bt ((r34.1).isSome) (fun h8=>?_) (fun h8=>?_)
    ·replace hk:=dH hk h8;refine jO ?_;refine df (fi [0,1,2] [.row g0_ 122 ((x0_.domains.1.map U)++([.pointer (some ⟨k0_512.sp,0,none⟩),v0_513]:List Value)), .sl v0_513 23 1 x0_.list.length c0_513.flatten] [] rfl rfl rfl rfl a7 (fun w hw hw2 hF=>(zaU _ w hF x0_ g0_ k0_512 v0_512 L0_512 hs0_512 tf0_512 zf0_512 v0_513 c0_513 h0_513 l vl hl (htk hw) hw2.takes.1 hw2.takes.2 (hw2.takes0 hM0 htab.pos) fuel hfu r34 hr34).mono (fun e w' hp=>hp.1 h8))) ?_;rintro _ _ ⟨⟨k34_n,v34_n,L34_n⟩,F2,le1_2,⟨hs34_n,tf34_n⟩,rfl,rfl⟩;refine fH ?_; (try dsimp only at hs34_n tf34_n);refine TL.run 5 rfl ?_;refine ij ?_;refine dR ?_;refine T.cond rfl (fun h9=>?_) (fun h9=>?_)
     ·replace hk:=dH hk h9;refine dd ?_;refine fb ?_;refine ky ?_;obtain rfl:=Option.some.inj hk;exact mO rfl rfl rfl rfl (fun w' hw=>⟨((.slice none 0 0),[]),F2.toFrz,(SlD.nil _ _ 2),rfl,dw (hw.pick (idx:=[0,1,3]) rfl a7) hS0 le1_2⟩)
     ·replace hk:=dL hk h9;refine i1 ?_;refine dc ?_;refine df (fw 3 rfl rfl rfl rfl (fun w hw hF=>zkC hs34_n tf34_n (hw.get (i:=2) rfl) (hw.fr (i:=3) rfl) (htk hw))) ?_;rintro _ _ ⟨⟨v39_,c39_⟩,F3,le2_3,hf39,hq,rfl⟩;obtain rfl:=hq.symm;dsimp only at hf39 ⊢;have le1_3:=le1_2.trans le2_3;haveI:=hf39.1.oneC;refine fb ?_;refine gM ?_;obtain rfl:=Option.some.inj hk;exact mO rfl rfl rfl rfl (fun w' hw=>⟨(v39_,c39_),F3.toFrz,hf39,rfl,dw (hw.pick (idx:=[0,1,3]) rfl a7) hS0 le1_3⟩)
    ·replace hk:=dL hk h8;refine jO ?_;refine df (fi [0,1,2] [.row g0_ 122 ((x0_.domains.1.map U)++([.pointer (some ⟨k0_512.sp,0,none⟩),v0_513]:List Value)), .sl v0_513 23 1 x0_.list.length c0_513.flatten] [] rfl rfl rfl rfl a7 (fun w hw hw2 hF=>(zaU _ w hF x0_ g0_ k0_512 v0_512 L0_512 hs0_512 tf0_512 zf0_512 v0_513 c0_513 h0_513 l vl hl (htk hw) hw2.takes.1 hw2.takes.2 (hw2.takes0 hM0 htab.pos) fuel hfu r34 hr34).mono (fun e w' hp=>hp.2 h8))) ?_;rintro _ _ ⟨⟨⟩,F4,le1_4, -,rfl,rfl⟩;refine fH ?_;refine TL.run 5 rfl ?_;refine ij ?_;refine dR ?_;refine T.cond rfl (fun h10=>?_) (fun h10=>?_)
     ·replace hk:=dH hk h10;refine dd ?_;refine fb ?_;refine ky ?_;obtain rfl:=Option.some.inj hk;exact mO rfl rfl rfl rfl (fun w' hw=>⟨((.slice none 0 0),[]),F4.toFrz,(SlD.nil _ _ 2),rfl,dw (hw.pick (idx:=[0,1,2]) rfl a7) hS0 le1_4⟩)
     ·replace hk:=dL hk h10;refine ks ?_;cases hk
def zcL (fuel:Nat)(p:GProblem):Option (Option GStore×Int):=
 (bif eF p then
  (za4 fuel p p.Domains).bind fun r8=>
  (zbS p).bind fun r15=>
  some (some (GStore.mk r15 (p,r8) []),0)
  else
  some (none,2))
theorem zfz (F0:Frz)(w:World)(hF0:F0.At w)(p:GProblem)(vp_0:Value)(cp_0:List (List Value))(hp_0:SlD cJ F0 vp_0 2 cp_0 p.Domains)(vp_1:Value)(hp_1:SlC F0 vp_1 5 (p.Rules.Pairs.map da))(vp_2:Value)(hp_2:SlC F0 vp_2 5 (p.Rules.Loads.map de))(vp_3:Value)(hp_3:SlC F0 vp_3 4 (p.Rules.Caps.map dk))(htab:Tab w)(fuel:Nat)(hfu:100000≤fuel)(r:Option GStore×Int)(hr:zcL fuel p=some r):Calls Tryz.prog 35 #[.agg [vp_0,vp_1,vp_2,vp_3].toArray] w fun e w'=>((r.1).isSome=true→∃(y:Nat×SK×Value×Ws×Value×List (List Value)) (G:Frz),(SI ((r.1.getD default).start).1 ((r.1.getD default).start).2 y.2.1 y.2.2.2.1∧TbF G y.2.1∧SzF G y.2.1 y.2.2.1 y.2.2.2.1 (!((r.1.getD default).start).2.2)∧OwnD cI G 1 y.2.2.2.2.2 ((r.1.getD default).list))∧e= .returned (.tuple #[.pointer (some ⟨y.1,0,none⟩), .int .i64 r.2])∧FxM F0 w (dy []) G [.row y.1 122 ((((r.1.getD default).domains).1.map U)++[.pointer (some ⟨y.2.1.sp,0,none⟩),y.2.2.2.2.1]), .sl y.2.2.2.2.1 23 1 ((r.1.getD default).list).length y.2.2.2.2.2.flatten] w')∧((r.1).isSome=false→∃(y:Unit) (G:Frz),(True)∧e= .returned (.tuple #[.pointer none, .int .i64 r.2])∧FxM F0 w (dy []) G [] w'):=by
 have hk:=hr;unfold zcL at hk;haveI:=hp_0.1.oneC;haveI:=hp_1.oneC;haveI:=hp_2.oneC;haveI:=hp_3.oneC;obtain ⟨S0,F1,rfl,hS0,hp0⟩:=fX hF0;rw [zhf];have hM0:¬(fun _:Nat=>False) 0:=fun h=>h;have htk:∀ {hs:HS} {w':World},Hp w (fun _=>False) hs w'→Tab w':=fun hw=>htab.keptF hw;refine dB Tryz.func35 rfl rfl rfl hp0 ?_;refine jI ?_;rintro _ _ ⟨g1,rfl,rfl⟩;refine ec ?_;refine cR (T.seq ?_);refine T.bt (eF p) (fun h1=>?_) (fun h1=>?_)
 ·replace hk:=dH hk h1;have hq:=fD hk;clear hk;obtain ⟨r8,hr8,hk⟩:=hq; (try dsimp only at hk);refine fN ?_;refine jd ?_;refine df (fi [1,0] [] [.row g1 31 [vp_0,vp_1,vp_2,vp_3]] rfl rfl rfl rfl a7 (fun w hw hw2 hF=>zoP (p:=p) hF ⟨hp_0,hp_1,hp_2,hp_3⟩ (htk hw) h1 hfu hr8)) ?_;rintro _ _ ⟨⟨k8_,v8_,L8_⟩,F2,le1_2,⟨hs8,tf8⟩,rfl,rfl⟩;refine fH ?_; (try dsimp only at hs8 tf8);refine q2p ?_;refine iq rfl rfl ?_;refine ks ?_;refine li (fun w hw=>hw.freezeSt (i:=1) (j:=0) a7 rfl rfl) ?_;rintro F3 ⟨le2_3,zf3⟩;refine iI ?_;have le1_3:=le1_2.trans le2_3;have hq:=fD hk;clear hk;obtain ⟨r15,hr15,hk⟩:=hq; (try dsimp only at hk);refine fN ?_;refine q2F ?_;refine df (cL rfl rfl rfl (fun w hw=>zfI _ w (hw.fr (i:=0) rfl) p vp_0 cp_0 (SlD.mono (rep:=cJ) (fun _ _ _ _=>GDomain.mono) hp_0 le1_3) vp_1 (SlC.mono hp_1 le1_3) vp_2 (SlC.mono hp_2 le1_3) vp_3 (SlC.mono hp_3 le1_3) r15 hr15)) ?_;refine eB ?_;refine dc ?_;refine cK (Yv.cf rfl rfl (l0:=(((Vec.fill 512 (0#64)).1.map U)++[.pointer none,(.slice none 0 0)])) (l:=((r15.1.map U)++[.pointer (some ⟨k8_.sp,0,none⟩),(.slice none 0 0)])) a8 (zhM (off:=0) a8 rfl Vec.len (zko (Vec.len.trans Vec.len.symm)) (by simp only [Nat.zero_add,Vec.len];rw [(zfr Vec.len (show List.length _=2 from rfl))];decide) (zhM (off:=512) a8 (OneC.cells inferInstance) rfl (zkc (off:=512) (by rw [(zfr Vec.len (show List.length _=2 from rfl))]; (try simp only [List.length_cons,List.length_nil]);decide) (zi3 (by rfl) (zjM Vec.len (rfl:([.pointer none,(.slice none 0 0)]:List Value).set 0 _=_)))) (by rw [(zfr Vec.len (show List.length _=2 from rfl))]; (try simp only [List.length_cons,List.length_nil]);decide) rfl))) ?_;refine df (dv) ?_;rintro _ _ ⟨g18,rfl,rfl⟩;refine TL.slNil 23 1 ?_;refine jE ?_;obtain rfl:=Option.some.inj hk;exact fP rfl rfl rfl (fun w' hw=>⟨fun _=>⟨(g18,k8_,v8_,L8_,(.slice none 0 0),[]),F3.toFrz,⟨hs8,(tf8.mono le2_3),zf3,(OwnD.nil _ _ 1)⟩,rfl,dw (hw.pick (idx:=[1,0,2]) rfl a7) hS0 le1_3⟩,fun h=>(by cases h)⟩)
 ·replace hk:=dL hk h1;refine fN ?_;refine jd ?_;refine df (cL rfl rfl rfl (fun w hw=>zlk (p:=p) (hw.fr (i:=1) rfl) ⟨hp_0,hp_1,hp_2,hp_3⟩ h1)) ?_;refine eB ?_;refine q2p ?_;refine j7 rfl rfl ?_;refine dd ?_;refine fb ?_;refine ky ?_;obtain rfl:=Option.some.inj hk;exact fP rfl rfl rfl (fun w' hw=>⟨fun h=>(by cases h),fun _=>⟨⟨⟩,F1.toFrz,trivial,rfl,dw (hw.pick (idx:=[1]) rfl a7) hS0 (Frz.Le.refl _)⟩⟩)
def jq:Value→Value
 | .slice A n _=> .slice A n n
 |v=>v
instance {v:Value} [h:OneC v]:OneC (jq v):=⟨by
 cases v <;> first|rfl|exact h.h⟩
theorem Yv.cr {P:Program}{n:Nat}{B:World}{M:Nat→Prop}{fs:dV}{hs:HS}{o:Oper}{sv:Value}(j:Nat){t e e2 k k2 m:Nat}{l:List Value}{x y z:Operand}[hT:TySl P t e k](ho:o.op= .slice t x none (some y) (some z))(hx:ev fs x=some sv)(hy:ev fs y=some (.int .i64 (m:Int)))(hz:ev fs z=some (.int .i64 (m:Int)))(hj:hs[j]?=some (.sl sv e2 k2 m l)):Yv P n B M fs hs o (jq sv):=fun a w ha hw=>by
 have hm:=jA (hw.get hj)
 obtain ⟨A,c,rfl,hc⟩:∃A c,sv= .slice A m c∧m≤c:=by
  rcases (cS.1 (hw.get hj)).2 with ⟨rfl,h0⟩|⟨g,cap,cur,rfl,hb,hg,hnc,_⟩
  ·exact ⟨none,0,by rw [h0],by omega⟩
  ·exact ⟨_,_,rfl,hnc⟩
 have hs:(Instr.slice t (.slice A m c) none (some (.int .i64 (m:Int))) (some (.int .i64 (m:Int)))).run P w=((sizeOf (P.elem t)).run P w).andThen fun s w=> .ok (sliced A 0 m m s) w:=by
  have e1:=run_sliceBound (P:=P) (w:=w) .i64 (m:Int);simp [Instr.slice,run_underlying hT.elem.1,Instr.sliceBounds,e1,sliced,hc]
 have e2:sliced A 0 m m k= .slice A m m:=by
  unfold sliced;by_cases h0:m=0
  ·subst h0;rfl
  ·rw [if_neg h0]
   cases A with
   |none=>rfl
   |some a=>cases a;simp [l4];rfl
 unfold execOp;simp [ho,ha.ev hx,ha.ev hy,ha.ev hz,run_sliceAt_slice w t _ _ _ _ hT.elem.1,hs,hT.elem.2,e2,jq]
def AllA (i:Nat)(x:List GChoice)(vs:List Value)(gx:HS):Prop:=∃v,vs=[.int .i64 (i:Int),v]∧gx=[.sl v 34 2 x.length (x.flatMap cG)]
theorem zlE {F : Frz} {B : World} {M : Nat → Prop} {gb : Nat} {v : Value} {cs : List (List Value)} {xs : List (List GChoice)} (hD : OwnD cI F 1 cs xs) (hr : ∀ x ∈ xs, dQ x.length 16) :
    zjl Tryz.prog 129 [.pointer (some ⟨gb, 0, none⟩)] AllA F.At xs [.row gb 44 [jq v], .sl v 23 1 xs.length cs.flatten] B M := by
  intro G Z l W g0 hk0 hy hG0 hp0; have hlc := hD.1
  obtain ⟨A, c, rfl, hA⟩ : ∃ A c, v = .slice A xs.length c ∧ (0 < xs.length → ∃ g, A = some ⟨g, 0, none⟩) := by
    rcases (cS.1 (hp0.get (i := 1) rfl)).2 with ⟨rfl, h0⟩ | ⟨g, cap, cur, rfl, _⟩
    · exact ⟨none, 0, by rw [h0], fun h => by omega⟩
    · exact ⟨_, _, rfl, fun _ => ⟨g, rfl⟩⟩
  have hmx := jA (hp0.get (i := 1) rfl);refine zho (B := B) (M := M) Tryz.func129 rfl rfl rfl hp0 ?_;refine dd ?_;refine cK (cX 0) ?_;refine jz ?_; refine T.loop (ι := Nat × HS) (fun x => [(0, .func (.yield l) #[] #[]), (5, .slice A xs.length xs.length), (6, .int .i64 (xs.length : Int)), (7, .int .i64 (x.1 : Int))]) (fun x => [Ent.row gb 44 [jq (.slice A xs.length c)], Ent.sl (.slice A xs.length c) 23 1 xs.length cs.flatten] ++ x.2) (fun x => x.1 ≤ xs.length ∧ G x.1 x.2) (fun x => xs.length - x.1) (0, g0) ?_ ?_ ?_ ?_
  · exact ⟨Nat.zero_le _, hG0⟩
  · exact (by repeat (first | exact Sub.nil | refine Sub.cons rfl ?_ | (refine dU rfl a6 ?_)))
  · exact fQ
  · rintro ⟨k, g⟩ ⟨hkn, hG⟩; dsimp only at hkn hG ⊢;refine fk ?_; refine T.cond rfl (fun h1 => ?_) (fun h1 => ?_)
    · have p1 := of_decide_eq_true h1; (have hk : k < xs.length := by omega); obtain ⟨ga, rfl⟩ := hA a6; have hrep := hD.2.2 k hk; have hS := (R_List_GChoice.c0 hrep).2; haveI := hS.oneC
      have hv : cs.flatten[0 + k * 1]? = some (cH (cH cs k) 0) := by
        rw [Nat.zero_add]; exact (zd0 _ hD.2.1 k a6 0 a7).trans (R_List_GChoice.c0 hrep).1
      refine fT ?_;refine dc ?_;refine cK (gm (i := k) rfl rfl rfl rfl hk) ?_;refine cK (eS 1 rfl rfl rfl hv) ?_;refine ec ?_;refine dq ?_;refine fb ?_;refine df (iG rfl rfl rfl (fun w hw => zd8 F w (hk0 k g w hG hw) (cH xs k) _ hS (hr _ (eh hk)))) ?_; rintro v' _ ⟨_, _, rfl, rfl⟩;refine TL.bu (hs' := [Ent.row gb 44 [jq (.slice (some ⟨ga, 0, none⟩) xs.length c)], Ent.sl (.slice (some ⟨ga, 0, none⟩) xs.length c) 23 1 xs.length cs.flatten] ++ ([.sl v' 34 2 (cH xs k).length ((cH xs k).flatMap cG)] ++ g)) ((List.Perm.swap _ _ _).trans ((List.Perm.swap _ _ _).cons _)) ?_; refine TL.yield (Φ := fun v hs' => (v = .bool true ∧ ∃ g', G (k + 1) g' ∧ hs' = [Ent.row gb 44 [jq (.slice (some ⟨ga, 0, none⟩) xs.length c)], Ent.sl (.slice (some ⟨ga, 0, none⟩) xs.length c) 23 1 xs.length cs.flatten] ++ g') ∨ (v = .bool false ∧ ∃ z, Z z ∧ hs' = [Ent.row gb 44 [jq (.slice (some ⟨ga, 0, none⟩) xs.length c)], Ent.sl (.slice (some ⟨ga, 0, none⟩) xs.length c) 23 1 xs.length cs.flatten] ++ z)) (Wt.none) rfl rfl rfl rfl rfl (fun w hw => ?_) ?_
      · obtain ⟨fn, tmps, assign, body, h1, h2⟩ := hy k (cH xs k) [.int .i64 (k : Int), v'] _ g w (by rw [List.getElem?_eq_getElem hk, d4 hk]) ⟨v', rfl, rfl⟩ hG hw;refine ⟨fn, tmps, assign, body, h1, h2.mono ?_⟩; rintro e w' ⟨hkp, ⟨rfl, g', q1, q2⟩ | ⟨rfl, z, q1, q2⟩⟩
        · exact ⟨hkp, _, _, rfl, q2, .inl ⟨rfl, g', q1, rfl⟩⟩
        · exact ⟨hkp, _, _, rfl, q2, .inr ⟨rfl, z, q1, rfl⟩⟩
      · rintro v hs' (⟨rfl, g', hG', rfl⟩ | ⟨rfl, z, hZ, rfl⟩)
        · refine dc ?_;refine cR (iq rfl rfl ?_);refine iK ?_; exact K.next (k + 1, g') ⟨by dsimp only; omega, hG'⟩ (by dsimp only; omega) (by repeat (first | exact Sub.nil | refine Sub.cons rfl ?_ | (refine dU rfl a6 ?_))) (List.Sublist.refl _)
        · refine dc ?_;refine cR (j7 rfl rfl ?_);refine T.ret ?_
          repeat (first | refine eV ?_ | refine dZ ?_)
          exact K.bR rfl (fun w' hw hkp => ⟨⟨_, rfl⟩, hkp, .inr ⟨z, hZ, hw⟩⟩)
    · have p1 := of_decide_eq_false h1;refine T.exit ?_
      repeat (first | refine fy ?_ | refine d3 ?_)
      exact K.bS rfl (fun w' hw hkp => ⟨⟨_, rfl⟩, hkp, .inl ⟨g, by rw [show xs.length = k by omega]; exact hG, hw⟩⟩)
def zbK (x0_:GStore):Unit:=
 ()
theorem zcI (F0:Frz)(w:World)(hF0:F0.At w)(x0_:GStore)(g0_:Nat)(k0_512:SK)(v0_512:Value)(L0_512:Ws)(hs0_512:SI x0_.start.1 x0_.start.2 k0_512 L0_512)(tf0_512:TbF F0 k0_512)(zf0_512:SzF F0 k0_512 v0_512 L0_512 (!x0_.start.2.2))(v0_513:Value)(c0_513:List (List Value))(h0_513:OwnD cI F0 1 c0_513 x0_.list)(hO:Hp w (dy [.row g0_ 122 ((x0_.domains.1.map U)++[.pointer (some ⟨k0_512.sp,0,none⟩),v0_513]), .sl v0_513 23 1 x0_.list.length c0_513.flatten]) [.row g0_ 122 ((x0_.domains.1.map U)++[.pointer (some ⟨k0_512.sp,0,none⟩),v0_513]), .sl v0_513 23 1 x0_.list.length c0_513.flatten] w)(hA:∀g,dy [.row g0_ 122 ((x0_.domains.1.map U)++[.pointer (some ⟨k0_512.sp,0,none⟩),v0_513]), .sl v0_513 23 1 x0_.list.length c0_513.flatten] g→¬F0.S g):Calls Tryz.prog 105 #[.pointer (some ⟨g0_,0,none⟩)] w fun e w'=>∃(y:Nat),True∧e= .returned (.func (.func 129) #[] #[.pointer (some ⟨y,0,none⟩)])∧FxM F0 w (dy [.row g0_ 122 ((x0_.domains.1.map U)++[.pointer (some ⟨k0_512.sp,0,none⟩),v0_513]), .sl v0_513 23 1 x0_.list.length c0_513.flatten]) F0 (.row y 44 [jq v0_513] :: [.row g0_ 122 ((x0_.domains.1.map U)++[.pointer (some ⟨k0_512.sp,0,none⟩),v0_513]), .sl v0_513 23 1 x0_.list.length c0_513.flatten]) w':=by
 obtain ⟨r,hk⟩:∃r,zbK x0_=r:=⟨_,rfl⟩;unfold zbK at hk;haveI:=jG (hO.own (.sl v0_513 23 1 x0_.list.length c0_513.flatten) b2);have hmx0_513:=jA (hO.own (.sl v0_513 23 1 x0_.list.length c0_513.flatten) b2);obtain ⟨S0,F1,rfl,hS0,hp0⟩:=lq hF0 hO hA;refine dB (hs:=[.row g0_ 122 ((x0_.domains.1.map U)++[.pointer (some ⟨k0_512.sp,0,none⟩),v0_513]), .sl v0_513 23 1 x0_.list.length c0_513.flatten, .fr F1]) Tryz.func105 rfl rfl rfl hp0 ?_;refine ic ?_;refine dq ?_;refine iJ ?_;rintro _ _ ⟨g3,rfl,rfl⟩;refine ij ?_;refine dc ?_;refine df (fL [1,2,3,0] [.row g0_ 122 ((x0_.domains.1.map U)++([.pointer (some ⟨k0_512.sp,0,none⟩),v0_513]:List Value)), .sl v0_513 23 1 x0_.list.length c0_513.flatten] [.row g3 44 [(.slice none 0 0)]] rfl rfl rfl rfl a7 (fun w hw hw2 hF=>zaP _ w hF x0_ g0_ k0_512 v0_512 L0_512 hs0_512 tf0_512 zf0_512 v0_513 c0_513 h0_513 hw2.takes.1 hw2.takes.2)) ?_;rintro _ _ ⟨⟨⟩, -,rfl,rfl⟩;refine fH ?_;refine dR ?_;refine j7 rfl rfl ?_;refine dF (sN 0 15 (.eff 15 .done)) [.row g0_ 122 ((x0_.domains.1.map U)++[.pointer (some ⟨k0_512.sp,0,none⟩),v0_513]), .sl v0_513 23 1 x0_.list.length c0_513.flatten, .fr F1] a8 Sx ?_;refine q14 ?_;refine q14 ?_;refine cN rfl (jP 1 rfl rfl rfl) ?_;refine q14 ?_;refine cN rfl (jP 1 rfl rfl rfl) ?_;refine cN rfl (Yv.cr 1 rfl rfl rfl rfl rfl) ?_;refine dx ?_;refine fE rfl (Wt.none) rfl (ei 3 rfl rfl rfl rfl b2) ?_;refine jh ?_;refine fv ?_;refine K.seq (dd ?_);refine jE ?_;subst hk;exact cU rfl rfl (fun w' hw=>⟨g3,trivial,rfl,dw (hw.pick (idx:=[3,0,1,2]) rfl a7) hS0 (Frz.Le.refl _)⟩)
end Go.Proofs.YtgoeeefoinkepaaGreatDoor
namespace Go.Proofs.YtgoeeefoinkepaaGreatDoor
open Go.Shelf
def zkE:Go.Shelf.Ren:=⟨fun|6=>100|15=>126|14=>125|28=>150|29=>151|20=>142|21=>143|22=>144|23=>145|24=>146|25=>147|26=>148|27=>149|46=>162|47=>163|48=>164|49=>165|50=>166|57=>168|n=>n,fun|22=>23|24=>34|25=>152|3=>3|39=>183|0=>0|53=>212|55=>98|4=>4|46=>205|45=>204|50=>209|5=>5|9=>9|66=>218|70=>222|76=>224|77=>225|n=>n,fun|n=>n⟩
theorem znh:Go.Proofs.SlLaysF0.n6 Tryz.prog zkE:={
 mixed:=by kernel_rfl
 f6:=⟨Tryz.f100.name,by decide,Tryz.func100.trans (congrArg some a8)⟩
 f14:=⟨Tryz.f125.name,by decide,Tryz.func125.trans (congrArg some a8)⟩
 f15:=Tryz.func126.trans (congrArg some a8)
 f20:=⟨Tryz.f142.name,by decide,Tryz.func142.trans (congrArg some a8)⟩
 f21:=⟨Tryz.f143.name,by decide,Tryz.func143.trans (congrArg some a8)⟩
 f22:=⟨Tryz.f144.name,by decide,Tryz.func144.trans (congrArg some a8)⟩
 f23:=⟨Tryz.f145.name,by decide,Tryz.func145.trans (congrArg some a8)⟩
 f24:=⟨Tryz.f146.name,by decide,Tryz.func146.trans (congrArg some a8)⟩
 f25:=⟨Tryz.f147.name,by decide,Tryz.func147.trans (congrArg some a8)⟩
 f26:=⟨Tryz.f148.name,by decide,Tryz.func148.trans (congrArg some a8)⟩
 f27:=⟨Tryz.f149.name,by decide,Tryz.func149.trans (congrArg some a8)⟩
 f28:=Tryz.func150.trans (congrArg some a8)
 f29:=Tryz.func151.trans (congrArg some a8)
 f46:=⟨Tryz.f162.name,by decide,Tryz.func162.trans (congrArg some a8)⟩
 f47:=Tryz.func163.trans (congrArg some a8)
 f48:=Tryz.func164.trans (congrArg some a8)
 f49:=⟨Tryz.f165.name,by decide,Tryz.func165.trans (congrArg some a8)⟩
 f50:=⟨Tryz.f166.name,by decide,Tryz.func166.trans (congrArg some a8)⟩
 f57:=⟨Tryz.f168.name,by decide,Tryz.func168.trans (congrArg some a8)⟩
 t0:=Tryz.underlying0
 a0:=Tryz.isAgg0
 z0:=Tryz.sizeOf0
 v0:=Tryz.zeroValue0
 t3:=Tryz.underlying3
 a3:=Tryz.isAgg3
 z3:=Tryz.sizeOf3
 v3:=Tryz.zeroValue3
 t4:=Tryz.underlying4
 a4:=Tryz.isAgg4
 z4:=Tryz.sizeOf4
 v4:=Tryz.zeroValue4
 t5:=Tryz.underlying5
 a5:=Tryz.isAgg5
 z5:=Tryz.sizeOf5
 v5:=Tryz.zeroValue5
 t9:=Tryz.underlying9
 a9:=Tryz.isAgg9
 z9:=Tryz.sizeOf9
 v9:=Tryz.zeroValue9
 t22:=Tryz.underlying23
 a22:=Tryz.isAgg23
 z22:=Tryz.sizeOf23
 v22:=Tryz.zeroValue23
 t25:=Tryz.underlying152
 a25:=Tryz.isAgg152
 z25:=Tryz.sizeOf152
 v25:=Tryz.zeroValue152
 t39:=Tryz.underlying183
 a39:=Tryz.isAgg183
 z39:=Tryz.sizeOf183
 v39:=Tryz.zeroValue183
 t45:=Tryz.underlying204
 a45:=Tryz.isAgg204
 z45:=Tryz.sizeOf204
 v45:=Tryz.zeroValue204
 t46:=Tryz.underlying205
 a46:=Tryz.isAgg205
 z46:=Tryz.sizeOf205
 v46:=Tryz.zeroValue205
 t50:=Tryz.underlying209
 a50:=Tryz.isAgg209
 z50:=Tryz.sizeOf209
 v50:=Tryz.zeroValue209
 t53:=Tryz.underlying212
 a53:=Tryz.isAgg212
 z53:=Tryz.sizeOf212
 v53:=Tryz.zeroValue212
 t55:=Tryz.underlying98
 a55:=Tryz.isAgg98
 z55:=Tryz.sizeOf98
 v55:=Tryz.zeroValue98
 t66:=Tryz.underlying218
 a66:=Tryz.isAgg218
 z66:=Tryz.sizeOf218
 v66:=Tryz.zeroValue218
 t70:=Tryz.underlying222
 a70:=Tryz.isAgg222
 z70:=Tryz.sizeOf222
 v70:=Tryz.zeroValue222
 t76:=Tryz.underlying224
 a76:=Tryz.isAgg224
 z76:=Tryz.sizeOf224
 v76:=Tryz.zeroValue224
 t77:=Tryz.underlying225
 a77:=Tryz.isAgg225
 z77:=Tryz.sizeOf225
 v77:=Tryz.zeroValue225 }
def zkn:Go.Shelf.Ren:=⟨fun|5=>49|7=>90|n=>n,fun|22=>3|3=>3|4=>4|n=>n,fun|n=>n⟩
theorem zou:Go.Proofs.SlLaysC2.n5 Tryz.prog zkn:={
 mixed:=by kernel_rfl
 f5:=⟨Tryz.f49.name,by decide,Tryz.func49.trans (congrArg some a8)⟩
 f7:=⟨Tryz.f90.name,by decide,Tryz.func90.trans (congrArg some a8)⟩
 t3:=Tryz.underlying3
 a3:=Tryz.isAgg3
 z3:=Tryz.sizeOf3
 v3:=Tryz.zeroValue3
 t4:=Tryz.underlying4
 a4:=Tryz.isAgg4
 z4:=Tryz.sizeOf4
 v4:=Tryz.zeroValue4
 t22:=Tryz.underlying3
 a22:=Tryz.isAgg3
 z22:=Tryz.sizeOf3
 v22:=Tryz.zeroValue3 }
end Go.Proofs.YtgoeeefoinkepaaGreatDoor
namespace Go.Proofs.YtgoeeefoinkepaaGreatDoor
open Go.RowKit Go.Sort
theorem FxM.one {F0:Frz}{w w':World}{E E':Ent}(hF0:F0.At w)(hO:Hp w (dy [E]) [E] w)(hA:∀g,dy [E] g→¬F0.S g)(ho:Only E.fp w w')(hok:E'.ok w')(hfp:∀g,E'.fp g→E.fp g∨w.heap.size≤g):FxM F0 w (dy [E]) F0 [E'] w':=by
 obtain ⟨S0,G,rfl,hS,h⟩:=lq hF0 hO hA;refine dw (es:=[E']) (iE (es:=[E]) (es':=[E']) (hs:=[.fr G]) h ho (fun g _ hg=>⟨E,by simp,hg⟩) (fun e he=>?_) (fun e he g hg=>?_) (List.pairwise_singleton _ _)) hS (Frz.Le.refl _)
 ·obtain rfl:=List.mem_singleton.1 he;exact hok
 ·obtain rfl:=List.mem_singleton.1 he;exact (hfp g hg).imp (fun h=>⟨E,by simp,h⟩) id
def lj (x:GChoice):List GChoice→List GChoice
 | []=>[x]
 |y :: r=>bif decide (x.Station≤y.Station) then x :: y :: r else y :: lj x r
def ip (l:List GChoice):List GChoice:=l.foldr lj []
theorem zgh (x:GChoice):∀l,(lj x l).Perm (x :: l)
 | []=> .refl _
 |y :: r=>by
  unfold lj
  cases decide (x.Station≤y.Station)
  ·exact ((zgh x r).cons y).trans (.swap ..)
  ·exact .refl _
theorem mB:∀l,(ip l).Perm l
 | []=> .refl _
 |x :: l=>(zgh x _).trans ((mB l).cons x)
def LeS (a b:GChoice):Prop:=a.Station≤b.Station
theorem zge (x:GChoice):∀l:List GChoice,l.Pairwise LeS→(lj x l).Pairwise LeS
 | [],_=>by simp [lj]
 |y :: r,h=>by
  have h2:=List.pairwise_cons.1 h;unfold lj;by_cases hxy:x.Station≤y.Station
  ·rw [decide_eq_true hxy];refine List.pairwise_cons.2 ⟨fun z hz=>?_,h⟩;rcases List.mem_cons.1 hz with rfl|hz
   ·exact hxy
   ·exact Int.le_trans hxy (h2.1 z hz)
  ·rw [decide_eq_false hxy];refine List.pairwise_cons.2 ⟨fun z hz=>?_,zge x r h2.2⟩;rcases List.mem_cons.1 ((zgh x r).mem_iff.1 hz) with rfl|hz
   ·show y.Station≤z.Station;omega
   ·exact h2.1 z hz
theorem zea:∀l,(ip l).Pairwise LeS
 | []=> .nil
 |x :: l=>zge x _ (zea l)
theorem zoG:∀ {a b:List GChoice},a.Perm b→(a.map GChoice.Station).Nodup→a.Pairwise LeS→b.Pairwise LeS→a=b
 | [],b,h,_,_,_=>(List.Perm.nil_eq h)
 |x :: a,[],h,_,_,_=>by cases h.symm.nil_eq
 |x :: a,y :: b,h,hn,ha,hb=>by
  have h1:=List.pairwise_cons.1 ha;have h2:=List.pairwise_cons.1 hb;have hn2:=List.nodup_cons.1 (show (x.Station :: a.map GChoice.Station).Nodup from hn);have hx:x∈y :: b:=h.mem_iff.1 (List.mem_cons_self ..);have hy:y∈x :: a:=h.mem_iff.2 (List.mem_cons_self ..)
  have e:x=y:=by
   rcases List.mem_cons.1 hx with e|hx
   ·exact e
   ·rcases List.mem_cons.1 hy with e|hy
    ·exact e.symm
    ·have p1:x.Station≤y.Station:=h1.1 y hy;have p2:y.Station≤x.Station:=h2.1 x hx;exact absurd (List.mem_map.2 ⟨y,hy,by omega⟩) hn2.1
  subst e;rw [zoG (List.perm_cons x |>.1 h) hn2.2 h1.2 h2.2]
def cfS (x y:GChoice):Int:=Lib.compareInt x.Station y.Station
theorem zk0 (x y:GChoice)(W:World):Calls Tryz.prog 101 #[.agg (cG x).toArray, .agg (cG y).toArray] W fun e w'=>e= .returned (.int .i64 (cfS x y))∧∃q os',w'=grow (W.drewN q) os':=by
 have hcon:=fun W'=>AnyG.cmp_Compare_int zou x.Station y.Station W';change ∀W',Calls Tryz.prog 49 _ _ _ at hcon
 show Calls Tryz.prog 101 #[.agg #[.int .i64 x.Station, .int .i64 x.Channel], .agg #[.int .i64 y.Station, .int .i64 y.Channel]] W _
 unfold cfS;generalize Lib.compareInt x.Station y.Station=r at hcon ⊢
 go_enter Tryz.func101,Tryz.ntmps101
 go_wp2_with (go_at_call 49;refine (hcon _).mono ?_;rintro e w' ⟨rfl,rfl⟩)
 go_ret
 exact ⟨rfl,0,_,by rw [alloc_eq_grow,alloc_eq_grow,grow_grow];rfl⟩
theorem ltS (x y:GChoice):ltOf cfS x y=decide (x.Station<y.Station):=by
 unfold ltOf cfS Lib.compareInt;by_cases h1:x.Station<y.Station
 ·simp [h1]
 ·by_cases h2:y.Station<x.Station <;> simp [h1,h2]
theorem swoS:SWO (ltOf cfS) where
 irrefl x:=by rw [ltS];simp
 trans x y z h1 h2:=by rw [ltS] at *;simp at *;omega
 ntrans x y z h1 h2:=by rw [ltS] at *;simp at *;omega
theorem zjK (l:List GChoice):(flatK cG 2 l.toArray).toList=l.flatMap cG:=by
 (have hl:(l.flatMap cG).length=l.length*2:=by rw [zdb cG 2 GChoice.len]);refine List.ext_getElem? fun t=>?_;rcases Nat.lt_or_ge t (l.length*2) with ht|ht
 ·have h1:=get_flatK cG 2 l.toArray t (by simpa using ht); (have hi:t / 2<l.length:=by omega);have h2:=ze1 cG 2 GChoice.len l (t / 2) hi (t % 2) a6;rw [show t / 2*2+t % 2=t by omega] at h2;rw [h2,Array.getElem?_toList]; (have hs:t<(flatK cG 2 l.toArray).size:=by simpa using ht);rw [Array.getElem?_eq_getElem hs,←getElem!_pos (flatK cG 2 l.toArray) t hs,h1]; (have e:l.toArray[t / 2]! =l[t / 2]:=by simp [hi]);rw [e]; (have h3:t % 2=0∨t % 2=1:=by omega);rcases h3 with h3|h3 <;> rw [h3] <;> rfl
 ·rw [List.getElem?_eq_none (by simpa using ht),List.getElem?_eq_none a6]
section
variable {w:World}{g n:Nat}{cur:Array Value}{e:TypeId}
theorem zk8 {d:Array Value}(hb:w.heap[g]?=some (.cells cur e (0,0)))(ht:cur.toList.take d.size=d.toList):Holds id w g 0 d:=by
 intro j hj;refine ⟨?_,by simp [World.frozen?,hb]⟩; (have h1:(cur.toList.take d.size)[j]?=d.toList[j]?:=by rw [ht]);rw [List.getElem?_take_of_lt hj] at h1;simp only [World.cell?,hb,Nat.zero_add];simp only [Option.isSome_none,Bool.false_eq_true,if_false];rw [←Array.getElem?_toList,h1];simp [hj]
theorem znf (d:Array Value)(os:Array Obj)(hb:w.heap[g]?=some (.cells cur e (0,0))):(grow (putRow id (Sort.ahead w n) g 0 d) os).heap[g]?=some (.cells (putCells id 0 d cur) e (0,0)):=by
 have hg:g<w.heap.size:=(Array.getElem?_eq_some_iff.1 hb).1;have hb':w.heap[g]= .cells cur e (0,0):=(Array.getElem?_eq_some_iff.1 hb).2;simp [grow,putRow,mapBlock,Sort.ahead,Array.getElem?_append,hg];rw [Array.getElem_modify,if_pos rfl,hb'];rfl
theorem znq (d:Array Value)(os:Array Obj){v:Value}{size k:Nat}{l:List Value}(hv:v.ownBlock=some g):Only (Ent.sl v e size k l).fp w (grow (putRow id (Sort.ahead w n) g 0 d) os):=by
 refine ⟨rfl,rfl,rfl,by simp [grow,putRow,mapBlock,Sort.ahead],fun k hk hn=>?_⟩;have:g≠k:=fun q=>hn (cY.2 (by rw [hv,q]));simp [grow,putRow,mapBlock,Sort.ahead,Array.getElem?_append,hk];rw [Array.getElem_modify,if_neg this]
theorem zno (ts:List Value)(h:ts.length≤cur.size):(putCells id 0 ts.toArray cur).toList.take ts.length=ts:=by
 apply List.ext_getElem?;intro j;by_cases hj:j<ts.length
 ·rw [List.getElem?_take_of_lt hj,Array.getElem?_toList];simp [putCells,hj,show j<cur.size by omega]
 ·rw [List.getElem?_take_eq_none a6,List.getElem?_eq_none a6]
end
def zhv (l:List GChoice):Option (List GChoice):=ex (l.length<4611686018427387904∧(l.map GChoice.Station).Nodup) <| some (ip l)
theorem zmC (F0 : Frz) (w : World) (hF0 : F0.At w) (l0_ : List GChoice) (v0_ : Value) (hO : Hp w (dy [.sl v0_ 34 2 l0_.length (l0_.flatMap cG)]) [.sl v0_ 34 2 l0_.length (l0_.flatMap cG)] w) (hA : ∀ g, dy [.sl v0_ 34 2 l0_.length (l0_.flatMap cG)] g → ¬ F0.S g) (r : List GChoice) (hr : zhv l0_ = some r) :
    Calls Tryz.prog 100 #[v0_, .func (.func 101) #[] #[]] w fun e w' => ∃ (y : Unit), (True) ∧ e = .returned (.tuple #[]) ∧ FxM F0 w (dy [.sl v0_ 34 2 l0_.length (l0_.flatMap cG)]) F0 [.sl v0_ 34 2 r.length (r.flatMap cG)] w' := by
  obtain ⟨⟨hsz, hnd⟩, hr⟩ := gZ hr; obtain rfl := Option.some.inj hr; have hk := hO.own _ (List.mem_cons_self ..); have ho := cS.1 hk; have hl : (ip l0_).length = l0_.length := (mB l0_).length_eq; rcases ho.2 with ⟨rfl, h0⟩ | ⟨g, cap, cur, rfl, hb, hg, h1, h2, h3, h4⟩
  · obtain rfl := List.eq_nil_of_length_eq_zero h0;refine (AnyF.slices_SortFunc_none { znh with } none 0 (.func (.func 101) #[] #[]) w).mono ?_; rintro e w' ⟨rfl, rfl⟩; exact ⟨⟨⟩, trivial, rfl, FxM.one hF0 hO hA (Only.refl _ _) hk fun g h => .inl h⟩
  · have hgs := (Array.getElem?_eq_some_iff.1 hg).1; (have hfl : (l0_.flatMap cG).length = l0_.length * 2 := by rw [zdb cG 2 GChoice.len])
    have hH : HoldsK cG 2 w g 0 l0_.toArray := zk8 hg (by
      rw [zjK, show (flatK cG 2 l0_.toArray).size = l0_.length * 2 by simp]; exact h4)
    have eg : ∀ args w, (callFunc 101 args).run Tryz.prog w = .ok (.enter 101 args) w := enters_of Tryz.func101 a8 rfl
    have hcon := AnyQ.slices_SortFunc znh 2 Tryz.isAgg34 Tryz.sizeOf34 cG GChoice.len (fun x v hv => by
      simp only [cG, List.mem_cons, List.not_mem_nil, or_false] at hv
      rcases hv with rfl | rfl <;> rfl) cfS swoS 101 #[] g 0 cap l0_.toArray w eg (fun _ _ _ _ x y => zk0 x y _) hH hgs (by simpa using hsz)
    refine hcon.mono ?_; rintro e w' ⟨rfl, d', n, os, ⟨hd1, _, hd3⟩, hd4, rfl⟩; (have hds : d'.size = l0_.length := by simpa using hd1)
    have hp : d'.toList.Perm l0_ := by
      (have e1 : d'.extract 0 l0_.toArray.size = d' := by rw [show l0_.toArray.size = d'.size by rw [hds]; simp]; exact Array.extract_size); have e2 : l0_.toArray.extract 0 l0_.toArray.size = l0_.toArray := Array.extract_size; rw [e1, e2] at hd3; simpa using hd3
    have hsd : d'.toList.Pairwise LeS := by
      rw [List.pairwise_iff_getElem]; intro i j hi hj hij; have h5 := hd4 i j (Nat.zero_le _) hij (by simpa [hds] using hj); rw [ltS, decide_eq_false_iff_not] at h5; (have hi' : i < d'.size := by simpa using hi); (have hj' : j < d'.size := by simpa using hj); rw [getElem!_pos d' i hi', getElem!_pos d' j hj'] at h5
      show d'.toList[i].Station ≤ d'.toList[j].Station
      rw [Array.getElem_toList, Array.getElem_toList]; omega
    have hd : d'.toList = ip l0_ := zoG (hp.trans (mB l0_).symm) (by
      have := hp.map GChoice.Station
      exact this.nodup_iff.2 hnd) hsd (zea l0_)
    (obtain rfl : d' = (ip l0_).toArray := by rw [← hd]); refine ⟨⟨⟩, trivial, rfl, FxM.one hF0 hO hA (znq _ _ rfl) (cS.2 ⟨by rw [zdb cG 2 GChoice.len], .inr ⟨g, cap, _, by rw [hl], Nat.zero_le _, znf _ _ hg, by omega, h2, by simp [putCells, h3], ?_⟩⟩) fun k h => .inl (cY.2 (show some g = some k from cY.1 h))⟩
    have h6 := zno (cur := cur) ((ip l0_).flatMap cG) (by
      rw [zdb cG 2 GChoice.len, hl, h3]; exact Nat.mul_le_mul_right _ h1)
    rw [zdb cG 2 GChoice.len] at h6; rw [← zjK] at h6 ⊢; simpa using h6
end Go.Proofs.YtgoeeefoinkepaaGreatDoor
namespace Go.Proofs.YtgoeeefoinkepaaGreatDoor
open Go.RowKit Go.Sort Go.Lib
theorem zor {P : Program} (w : World) (t e ty : TypeId) (ht : P.underlying t = some (.slice e)) (hv : ∀ w, (zeroValue e).run P w = .ok (.agg #[.int .i64 0, .int .i64 0]) w) (b o c : Nat)
    (hc : ∀ j, j < 2 → (w.cell? ⟨b, o + j, none⟩).isSome = true) (hf : ∀ j, j < 2 → w.frozen? ⟨b, o + j, none⟩ = false) :
    (Builtin.clear_ #[t] ty #[.slice (some ⟨b, o, none⟩) 1 c]).run P w = .ok (.tuple #[]) (w.setCells b o [.int .i64 0, .int .i64 0]) := by
  have hst := run_storeCells_cells (P := P) b o [.int .i64 0, .int .i64 0] 0 w (by simpa using hc) (by simpa using hf) (by intro v hv'; simp at hv'; rw [hv']; rfl); simp only [Nat.add_zero] at hst; (have hz : (Builtin.zeroCells (Value.agg #[.int .i64 0, .int .i64 0]).cells 1).toList = [.int .i64 0, .int .i64 0] := by kernel_rfl); simp [Builtin.clear_, run_underlying ht, hv, hz, hst]
theorem znv (g cap n i : Nat) (c : List Value) (w : World) (hn : c.length = n * 2) (h1 : ∀ v ∈ c, v.oneCell' = true) (hH : Holds id w g 0 c.toArray) (hcap : n ≤ cap) (hm : cap ≤ 9223372036854775807) (j : Nat) (hlt : i < j) (hle : j ≤ i + 1) (hij : i ≤ j) (hjn : j ≤ n) (hne : i ≠ j) :
    Calls Tryz.prog 127 #[.slice (some ⟨g, 0, none⟩) n cap, .int .i64 i, .int .i64 j] w fun e w' => e = .returned (.slice (some ⟨g, 0, none⟩) (i + (n - j)) cap) ∧ ∃ q, w' = putRow id (Sort.ahead w q) g 0 (c.take (2 * i) ++ c.drop (2 * j) ++ [Value.int .i64 0, Value.int .i64 0]).toArray := by
  (have mixed : Tryz.prog.follows .mixedOrders = true := by kernel_rfl); obtain ⟨news, hnews⟩ : ∃ news, news = c.drop (2 * j) := ⟨_, rfl⟩; (have hlen : news.length = (n - j) * 2 := by rw [hnews, List.length_drop, hn]; omega)
  have hget : ∀ t u, news[t]? = some u → w.cell? ⟨g, 2 * j + t, none⟩ = some u := by
    intro t u hu; rw [hnews, List.getElem?_drop] at hu; have ht := (List.getElem?_eq_some_iff.1 hu).1; have h2 := (hH (2 * j + t) (by simpa using ht)).1; rw [Nat.zero_add] at h2; rw [h2]; simpa [ht] using hu
  obtain ⟨A, hA, hsrc⟩ : ∃ A : Addr, (if cap = j then some (⟨g, 0, none⟩ : Addr) else some ⟨g, 0 + j * 2, none⟩) = some A ∧ Hid (∀ t u, news[t]? = some u → w.drew.cell? (A.add t) = some u) := by
    by_cases h : cap = j
    · refine ⟨⟨g, 0, none⟩, by simp [h], fun t u hu => ?_⟩; (have h0 : news.length = 0 := by rw [hlen]; omega); rw [List.length_eq_zero_iff.1 h0] at hu; simp at hu
    · refine ⟨⟨g, 0 + j * 2, none⟩, by simp [h], fun t u hu => ?_⟩; rw [Addr.add_lit, show 0 + j * 2 + t = 2 * j + t by omega]; exact hget t u hu
  have s1 : Hid (news.length = (n - j) * 2) := hlen; have s2 : Hid (∀ u ∈ news, u.oneCell' = true) := fun u hu => h1 u (by rw [hnews] at hu; exact List.mem_of_mem_drop hu)
  have s3 : Hid (∀ t, t < news.length → (w.drew.cell? ⟨g, 0 + i * 2 + t, none⟩).isSome = true ∧ w.drew.frozen? ⟨g, 0 + i * 2 + t, none⟩ = false) := by
    intro t ht; rw [hlen] at ht; have h2 := hH (i * 2 + t) (by simp [hn]; omega); rw [Nat.zero_add] at h2; rw [Nat.zero_add]; exact ⟨by show (w.cell? _).isSome = true; rw [h2.1]; rfl, h2.2⟩
  obtain ⟨W1, hW1⟩ : ∃ W1, W1 = w.drew.setCells g (0 + i * 2) news := ⟨_, rfl⟩
  have hW1' : W1 = putRow id (Sort.ahead w 1) g 0 (lay c.toArray (2 * i) news) := by
    have e := putRow_setCells id (Sort.ahead w 1) g 0 news c.toArray (2 * i) (by simp [hlen, hn]; omega); rw [putRow_self id (Sort.ahead w 1) g 0 c.toArray (holds_ahead id w 1 g 0 c.toArray hH), List.map_id] at e; rw [hW1, show 0 + i * 2 = 0 + 2 * i by omega, ← e]; rfl
  (have hH1 : Holds id W1 g 0 (lay c.toArray (2 * i) news) := by rw [hW1']; exact holds_putRow id _ g 0 c.toArray _ (holds_ahead id w 1 g 0 c.toArray hH) (lay_size _ _ _))
  have hcl : ∀ ty, (Builtin.clear_ #[23] ty #[.slice (some ⟨g, (i + (n - j)) * 2, none⟩) (n - (i + (n - j))) (cap - (i + (n - j)))]).run Tryz.prog W1 = .ok (.tuple #[]) (W1.setCells g ((i + (n - j)) * 2) [.int .i64 0, .int .i64 0]) := fun ty => by
    rw [show n - (i + (n - j)) = 1 by omega]; refine zor W1 23 34 ty Tryz.underlying23 Tryz.zeroValue34 g _ _ (fun q hq => ?_) (fun q hq => ?_)
    · have h2 := hH1 ((i + (n - j)) * 2 + q) (by rw [lay_size]; simp [hn]; omega); rw [Nat.zero_add] at h2; rw [h2.1]; rfl
    · have h2 := hH1 ((i + (n - j)) * 2 + q) (by rw [lay_size]; simp [hn]; omega); rw [Nat.zero_add] at h2; exact h2.2
  have X : Aside (W1 = putRow id (Sort.ahead w 1) g 0 (lay c.toArray (2 * i) news)) := hW1'; have hW : Hid (W1 = w.drew.setCells g (0 + i * 2) news) := hW1; have hN : Aside (news = c.drop (2 * j)) := hnews; (have hic : i ≤ cap := by omega); (have hjc : j ≤ cap := by omega); obtain ⟨i0, hi0, hz0, hz1, hz2⟩ := info_parts (show (Tryz.prog.info? 34).map (fun i => (i.zero, i.size, i.bytes)) = some (some (.agg #[.int .i64 0, .int .i64 0]), 2, 16) by kernel_rfl); clear hW1 hW1' hH1 hH hget hnews hlen
  go_enter Tryz.func127, Tryz.ntmps127
  go_wp2_with fail
  go_region_law_o (refine step_append_room rfl (.tmp 22) (.tmp 25) 23 rfl 34 i0 2 Tryz.underlying23 hi0 hz1 g 0 i cap (by simp [Act.eval, Act.put]) A (n - j) (cap - j) news (by simp [Act.eval, Act.put]; first | exact hA | simpa using hA) s1.out hsrc.out s2.out a6 s3.out ?_; rw [← hW.out])
  go_wp2
  all_goals
    go_ret
    refine ⟨rfl, 1, ?_⟩; have e := putRow_setCells id (Sort.ahead w 1) g 0 [Value.int .i64 0, .int .i64 0] (lay c.toArray (2 * i) news) ((i + (n - j)) * 2) (by rw [lay_size]; simp [hn]; omega); rw [Nat.zero_add] at e; rw [X.out];refine e.trans ?_; have key := delete_arr c.toArray (2 * i) (2 * j) (Value.int .i64 0) a6 (by simp [hn]; omega); rw [show 2 * j - 2 * i = 2 by omega, show c.toArray.size = n * 2 by simp [hn], show 2 * i + (n * 2 - 2 * j) = (i + (n - j)) * 2 by omega] at key; rw [hN.out]; rw [List.append_assoc] at key; exact congrArg (putRow id (Sort.ahead w 1) g 0) key
theorem zm1 (w:World):grow w #[]=w:=by simp [grow]
theorem zgS:∀(l:List GChoice) (i:Nat),(l.take i).flatMap cG=(l.flatMap cG).take (2*i)
 | [],i=>by simp
 |c :: l,0=>by simp
 |c :: l,i+1=>by
  rw [List.take_succ_cons,List.flatMap_cons,List.flatMap_cons,zgS l i,show 2* (i+1)=2*i+1+1 by omega];rfl
theorem zgN:∀(l:List GChoice) (i:Nat),(l.drop i).flatMap cG=(l.flatMap cG).drop (2*i)
 | [],i=>by simp
 |c :: l,0=>by simp
 |c :: l,i+1=>by
  rw [List.drop_succ_cons,List.flatMap_cons,zgN l i,show 2* (i+1)=2*i+1+1 by omega];rfl
def zfo (l:List GChoice)(i j:Int):Option (List GChoice):=ex (0≤i∧j=i+1∧j≤(l.length:Int)) <| some (l.take i.toNat++l.drop (i.toNat+1))
theorem zn0 (F0 : Frz) (w : World) (hF0 : F0.At w) (l0_ : List GChoice) (v0_ : Value) (i_ j_ : Int) (hO : Hp w (dy [.sl v0_ 34 2 l0_.length (l0_.flatMap cG)]) [.sl v0_ 34 2 l0_.length (l0_.flatMap cG)] w) (hA : ∀ g, dy [.sl v0_ 34 2 l0_.length (l0_.flatMap cG)] g → ¬ F0.S g) (r : List GChoice) (hr : zfo l0_ i_ j_ = some r) :
    Calls Tryz.prog 127 #[v0_, .int .i64 i_, .int .i64 j_] w fun e w' => ∃ (y : Value), (True) ∧ e = .returned y ∧ FxM F0 w (dy [.sl v0_ 34 2 l0_.length (l0_.flatMap cG)]) F0 [.sl y 34 2 r.length (r.flatMap cG)] w' := by
  obtain ⟨⟨hi, rfl, hj⟩, hr2⟩ := gZ hr; obtain rfl := Option.some.inj hr2; have hk := hO.own _ (List.mem_cons_self ..); have ho := cS.1 hk; obtain ⟨i, rfl⟩ : ∃ i : Nat, i_ = (i : Int) := ⟨i_.toNat, by omega⟩; rw [show ((i : Int).toNat) = i from rfl]; rcases ho.2 with ⟨rfl, h0⟩ | ⟨g, cap, cur, rfl, hb, hg, h1, h2, h3, h4⟩
  · omega
  · (have hfl : (l0_.flatMap cG).length = l0_.length * 2 := by rw [zdb cG 2 GChoice.len]); have hH : Holds id w g 0 (l0_.flatMap cG).toArray := zk8 hg (by rw [List.size_toArray, hfl]; exact h4)
    have hone : ∀ v ∈ l0_.flatMap cG, v.oneCell' = true := fun v hv => by
      obtain ⟨c, _, hc⟩ := List.mem_flatMap.1 hv; simp only [cG, List.mem_cons, List.not_mem_nil, or_false] at hc; rcases hc with rfl | rfl <;> rfl
    have hcon := znv g cap l0_.length i (l0_.flatMap cG) w hfl hone hH h1 h2 (i + 1) a6 (Nat.le_refl _) a6 a6 a6; rw [show (((i + 1 : Nat) : Int)) = (i : Int) + 1 by omega] at hcon;refine hcon.mono ?_; rintro e w' ⟨rfl, q, rfl⟩; (have hlen : (l0_.take i ++ l0_.drop (i + 1)).length = i + (l0_.length - (i + 1)) := by rw [List.length_append, List.length_take, List.length_drop]; omega)
    have hX : (l0_.flatMap cG).take (2 * i) ++ (l0_.flatMap cG).drop (2 * (i + 1)) = (l0_.take i ++ l0_.drop (i + 1)).flatMap cG := by
      rw [List.flatMap_append, zgS, zgN]
    rw [hX]; generalize hR : l0_.take i ++ l0_.drop (i + 1) = R at *; (have hRl : (R.flatMap cG).length = R.length * 2 := by rw [zdb cG 2 GChoice.len])
    have hXl : (R.flatMap cG ++ [Value.int .i64 0, Value.int .i64 0]).length ≤ cur.size := by
      rw [List.length_append, hRl, h3]
      show R.length * 2 + 2 ≤ cap * 2
      omega
    have h6 := zno (cur := cur) (R.flatMap cG ++ [Value.int .i64 0, Value.int .i64 0]) hXl; have eg : putRow id (Sort.ahead w q) g 0 (R.flatMap cG ++ [Value.int .i64 0, Value.int .i64 0]).toArray = grow (putRow id (Sort.ahead w q) g 0 (R.flatMap cG ++ [Value.int .i64 0, Value.int .i64 0]).toArray) #[] := (zm1 _).symm; rw [eg]; refine ⟨_, trivial, rfl, FxM.one hF0 hO hA (znq _ _ rfl) (cS.2 ⟨hRl, .inr ⟨g, cap, _, by rw [hlen], Nat.zero_le _, znf _ _ hg, by omega, h2, by simp [putCells, h3], ?_⟩⟩) fun k h => .inl (cY.2 (show some g = some k from cY.1 h))⟩; have h7 := congrArg (List.take (R.length * 2)) h6; rw [List.take_take, List.take_left' hRl, Nat.min_eq_left (by rw [List.length_append, hRl]; omega)] at h7; exact h7
end Go.Proofs.YtgoeeefoinkepaaGreatDoor
