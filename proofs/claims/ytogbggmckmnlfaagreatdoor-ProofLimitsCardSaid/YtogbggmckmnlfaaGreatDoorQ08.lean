/- Yo Kb Yr Yp Si: shortened and put together by squeeze.py. -/
import Derived.Test.YtogbggmckmnlfaaGreatDoorQ07
import Derived.Laws.BytesArg
import Derived.Laws.Strings
set_option maxRecDepth 100000
set_option maxHeartbeats 4000000
set_option linter.unusedVariables false
set_option linter.unusedSectionVars false
set_option linter.unusedSimpArgs false
namespace Go.Proofs.YtogbggmckmnlfaaGreatDoor
open Go.RowKit
theorem b3 {p:Prop}(h:p:=by rw [Vec.len];first|omega|(simp only [List.length_cons,List.length_nil];omega)):p:=h
structure GStore where
 domains:Vec 512 (BitVec 64)
 start:GProblem×(List GDomain×Bool)
 list:List (List GChoice)
deriving Inhabited
def zaP (n:Int)(low:Int)(high:Int):Bool:=
 ((decide (low≤n))&&(decide (n≤high)))
theorem zdm (F0:Frz)(w:World)(hF0:F0.At w)(n:Int)(low:Int)(high:Int):Calls Tryz.prog 80 #[.int .i64 n, .int .i64 low, .int .i64 high] w fun e w'=>e= .returned (.bool (zaP n low high))∧Below w.heap.size w w':=by
 obtain ⟨r,hk⟩:∃r,zaP n low high=r:=⟨_,rfl⟩;rw [hk];unfold zaP at hk;obtain ⟨S0,F1,rfl,hS0,hp0⟩:=fK hF0;refine dq Tryz.func80 rfl rfl rfl hp0 ?_;refine ei ?_;refine dj (ι:=Unit) (fun z=>[(6, .bool ((decide (low≤n))&&(decide (n≤high))))]) (fun z=>[.fr F1]) (fun z=>True) ?_ ?_
 ·refine ed ?_;refine TL.run 4 rfl ?_;refine dQ rfl rfl rfl (fun h1=>?_) (fun h1=>?_)
  ·have p1:=of_decide_eq_true h1;refine q2j ?_;exact q4n
  ·have p1:=of_decide_eq_false h1;refine q2j ?_;exact q4o
 ·rintro _ _;refine T.ret ?_;subst hk;exact fw
def ks (n:Int):Bool:=
 (zaP n 0 511)
theorem zcX (F0:Frz)(w:World)(hF0:F0.At w)(n:Int):Calls Tryz.prog 79 #[.int .i64 n] w fun e w'=>e= .returned (.bool (ks n))∧Below w.heap.size w w':=by
 obtain ⟨r,hk⟩:∃r,ks n=r:=⟨_,rfl⟩;rw [hk];unfold ks at hk;obtain ⟨S0,F1,rfl,hS0,hp0⟩:=fK hF0;refine dq Tryz.func79 rfl rfl rfl hp0 ?_;refine mh ?_;refine cN (cL rfl rfl rfl (fun w hw=>zdm _ w (hw.fr (i:=0) rfl) n 0 511)) ?_;refine ex ?_;refine eU ?_;subst hk;exact fw
def kc (l:List GChoice):Bool:=
 dS (fun (_:Unit)=>
  true)
 (fun k1=>
  di (fun (i_3:Nat) (next2:Unit→Bool) (_:Unit)=>
   (bif ((!(ks ((cH l i_3).Station)))||(!(zaP ((cH l i_3).Channel) 2 51))) then
    false
    else
    (bif ((decide (0<(i_3:Int)))&&(decide ((cH l i_3).Station≤(cH l (((i_3:Int) - 1).toNat)).Station))) then
     false
     else
     next2 ())))
  (fun (_:Unit)=>
   k1 ()) (l.length - 0) 0 ())
theorem zb7 (F0:Frz)(w:World)(hF0:F0.At w)(l:List GChoice)(vl:Value)(hl:SlC F0 vl 2 (l.map cM)):Calls Tryz.prog 42 #[vl] w fun e w'=>e= .returned (.bool (kc l))∧Below w.heap.size w w':=by
 obtain ⟨r,hk⟩:∃r,kc l=r:=⟨_,rfl⟩;rw [hk];unfold kc at hk;haveI:=hl.oneC;obtain ⟨S0,F1,rfl,hS0,hp0⟩:=fK hF0;refine dq Tryz.func42 rfl rfl rfl hp0 ?_;refine iE ?_;refine q3i ?_;have hm6:l.length≤9223372036854775807:=(List.length_map _)▸hl.max;refine dP ?_;have hq:=eP hk;clear hk;obtain ⟨k1,hk1,hk⟩:=hq; (try dsimp only at hk);refine dj (ι:=Unit) (fun z=>[]) (fun z=>[.fr F1]) (fun z=>k1 ()=r) ?_ ?_
 ·have hq:=fS hk;clear hk;obtain ⟨f2,kk2,hf2,hkk2,hk⟩:=hq;refine gg ?_;refine T.loop (ι:=Nat) (fun z=>[(0,vl),(5,vl),(6, .int .i64 (l.length:Int)),(7, .int .i64 (z:Int))]) (fun z=>[.fr F1]) (fun z=>di f2 kk2 (l.length - z) z ()=r) (fun z=>l.length - z) 0 ?_ ?_ ?_ ?_
  ·exact hk
  ·exact q37
  ·exact fv
  ·rintro i_3 hk;refine ei ?_;refine T.cond rfl (fun h4=>?_) (fun h4=>?_)
   ·have p4:=of_decide_eq_true h4;rw [fT a5] at hk;generalize hn2:di f2 kk2 (l.length - (i_3+1)) (i_3+1)=next2 at hk;rw [←hf2] at hk; (try dsimp only at hk);refine fq ?_;refine dd ?_;refine cI (dL (i:=i_3) rfl rfl rfl hl (List.length_map _) rfl a5) ?_;refine cI (fE 0 (i:=i_3) rfl rfl rfl hl a5) ?_;refine fQ ?_;rintro _ _ ⟨g4,rfl,rfl⟩;refine dd ?_;refine kr ?_;refine jB ?_;refine dj (ι:=Unit) (fun z=>[(0,vl),(3, .int .i64 (i_3:Int)),(4, .pointer (some ⟨g4,0,none⟩)),(5,vl),(6, .int .i64 (l.length:Int)),(7, .int .i64 (i_3:Int)),(21, .bool ((!(ks ((cH l i_3).Station)))||(!(zaP ((cH l i_3).Channel) 2 51))))]) (fun z=>[.row g4 68 [.int .i64 ((cH l i_3).Station), .int .i64 ((cH l i_3).Channel)], .fr F1]) (fun z=>True) ?_ ?_
    ·refine ed ?_;refine eu ?_;refine cN (cL rfl rfl rfl (fun w hw=>zcX _ w (hw.fr (i:=1) rfl) ((cH l i_3).Station))) ?_;refine ex ?_;refine d5 ?_;refine dQ rfl rfl rfl (fun h5=>?_) (fun h5=>?_)
     ·refine q2j ?_;exact c4 () trivial (.c (.c (.c (.c (.c (.c (.b (zkm h5).symm .nil))))))) (List.Sublist.refl _)
     ·refine eu ?_;refine cN (cL rfl rfl rfl (fun w hw=>zdm _ w (hw.fr (i:=1) rfl) ((cH l i_3).Channel) 2 51)) ?_;refine lO ?_;exact c4 () trivial (.c (.c (.c (.c (.c (.c (.b (mi h5) .nil))))))) (List.Sublist.refl _)
    ·rintro _ _;refine T.cond rfl (fun h6=>?_) (fun h6=>?_)
     ·replace hk:=dy hk h6;refine gy ?_;refine q1h ?_;subst hk;exact fw
     ·replace hk:=dz hk h6;refine iR ?_;refine dj (ι:=Unit) (fun z=>[(0,vl),(5,vl),(6, .int .i64 (l.length:Int)),(7, .int .i64 (i_3:Int)),(34, .bool ((decide (0<(i_3:Int)))&&(decide ((cH l i_3).Station≤(cH l (((i_3:Int) - 1).toNat)).Station))))]) (fun z=>[.row g4 68 [.int .i64 ((cH l i_3).Station), .int .i64 ((cH l i_3).Channel)], .fr F1]) (fun z=>True) ?_ ?_
      ·refine q1a ?_;refine TS.run 3 rfl ?_;refine jz rfl rfl rfl rfl (fun h7=>?_) (fun h7=>?_)
       ·have p7:=of_decide_eq_true h7;refine iQ ?_;refine q1D ?_;refine cR rfl (dL (i:=((i_3:Int) - 1).toNat) rfl rfl rfl hl (List.length_map _) a5 a5) ?_;refine cR rfl (Yv.cy rfl rfl hl (List.length_map _) a5) ?_;refine cR rfl (hD 1 (i:=((i_3:Int) - 1).toNat) (j:=0) rfl rfl rfl hl a5) ?_;refine fY ?_;refine iQ ?_;refine TS.done ?_;exact c4 () trivial (.c (.c (.c (.c (.b (zgb h7) .nil))))) (List.Sublist.refl _)
       ·have p7:=of_decide_eq_false h7;refine TS.run 10 rfl ?_;refine TS.done ?_;exact c4 () trivial (.c (.c (.c (.c (.b (zef h7).symm .nil))))) (List.Sublist.refl _)
      ·rintro _ _;refine T.cond rfl (fun h8=>?_) (fun h8=>?_)
       ·have p8:=h8; (try simp only [cV] at p8);replace hk:=dy hk h8;refine jT ?_;subst hk;exact fw
       ·replace hk:=dz hk h8;refine gB ?_;rw [←hn2] at hk;refine K.pick [1] rfl a6 ?_;exact K.next (i_3+1) hk a5 (.c (.c (.c (.c .nil)))) (List.Sublist.refl _)
   ·have p4:=of_decide_eq_false h4;rw [fR a5,←hkk2] at hk; (try dsimp only at hk);refine ff ?_;exact q34
 ·rintro _ hk;rw [←hk1] at hk; (try dsimp only at hk);refine q3M ?_;subst hk;exact fw
def zcD (p:GProblem):Option (Vec 512 (BitVec 64)):=
 dS (fun (c_1:Vec 512 (BitVec 64))=>
  some c_1)
 (fun k2=>
  di (fun (i_5:Nat) (next4:Vec 512 (BitVec 64)→Option (Vec 512 (BitVec 64))) (c_3:Vec 512 (BitVec 64))=>
   d4 (0≤(cH p.Domains i_5).Station∧(cH p.Domains i_5).Station<(512:Int)) <|
   di (fun (i_9:Nat) (next8:Vec 512 (BitVec 64)→Option (Vec 512 (BitVec 64))) (c_7:Vec 512 (BitVec 64))=>
    d4 (0≤(cH ((cH p.Domains i_5).Channels) i_9)∧(cH ((cH p.Domains i_5).Channels) i_9)<(64:Int)) <|
    next8 (Vec.put c_7 (((cH p.Domains i_5).Station).toNat) ((Vec.get c_7 (((cH p.Domains i_5).Station).toNat)) ||| ((1#64) <<< ((cH ((cH p.Domains i_5).Channels) i_9).toNat)))))
   (fun (c_7:Vec 512 (BitVec 64))=>
    next4 c_7) ((((cH p.Domains i_5).Channels).length) - 0) 0 (Vec.put c_3 (((cH p.Domains i_5).Station).toNat) (1#64)))
  (fun (c_3:Vec 512 (BitVec 64))=>
   k2 c_3) (p.Domains.length - 0) 0 (Vec.fill 512 (0#64)))
theorem zfi (F0:Frz)(w:World)(hF0:F0.At w)(p:GProblem)(vp_0:Value)(cp_0:List (List Value))(hp_0:SlD cJ F0 vp_0 2 cp_0 p.Domains)(vp_1:Value)(hp_1:SlC F0 vp_1 5 (p.Rules.Pairs.map c8))(vp_2:Value)(hp_2:SlC F0 vp_2 5 (p.Rules.Loads.map da))(vp_3:Value)(hp_3:SlC F0 vp_3 4 (p.Rules.Caps.map dh))(r:Vec 512 (BitVec 64))(hr:zcD p=some r):Calls Tryz.prog 118 #[.agg [vp_0,vp_1,vp_2,vp_3].toArray] w fun e w'=>e= .returned (.agg (r.1.map U).toArray)∧Below w.heap.size w w':=by
 have hk:=hr;unfold zcD at hk;haveI:=hp_0.1.oneC;haveI:=hp_1.oneC;haveI:=hp_2.oneC;haveI:=hp_3.oneC;obtain ⟨S0,F1,rfl,hS0,hp0⟩:=fK hF0;refine dq Tryz.func118 rfl rfl rfl hp0 ?_;refine kA ?_;rintro _ _ ⟨g1,rfl,rfl⟩;refine cN (kW (l:=((Vec.fill 512 (0#64)).1.map U)) rfl a8) ?_;rintro _ _ ⟨g2,rfl,rfl⟩;refine dG ?_;refine cN (kW (l:=((Vec.fill 512 (0#64)).1.map U)) rfl a8) ?_;rintro _ _ ⟨g3,rfl,rfl⟩;refine gX ?_;refine kO ?_;refine cI (dA rfl rfl hp_0.1 hp_0.2.1) ?_;have hm10:p.Domains.length≤9223372036854775807:=hp_0.2.1▸hp_0.1.max;refine dP ?_;have hq:=eP hk;clear hk;obtain ⟨k2,hk2,hk⟩:=hq; (try dsimp only at hk);refine dj (ι:=Vec 512 (BitVec 64)) (fun z=>[(2, .pointer (some ⟨g2,0,none⟩)),(3, .pointer (some ⟨g3,0,none⟩))]) (fun z=>[.row g3 141 (z.1.map U), .row g2 141 ((Vec.fill 512 (0#64)).1.map U), .fr F1]) (fun z=>k2 z=some r) ?_ ?_
 ·have hq:=fS hk;clear hk;obtain ⟨f4,kk4,hf4,hkk4,hk⟩:=hq;refine gg ?_;refine T.pick [0,1,3] rfl a6 ?_;refine T.loop (ι:=Nat×Vec 512 (BitVec 64)) (fun z=>[(2, .pointer (some ⟨g2,0,none⟩)),(3, .pointer (some ⟨g3,0,none⟩)),(9,vp_0),(10, .int .i64 (p.Domains.length:Int)),(11, .int .i64 (z.1:Int))]) (fun z=>[.row g3 141 (z.2.1.map U), .row g2 141 ((Vec.fill 512 (0#64)).1.map U), .fr F1]) (fun z=>di f4 kk4 (p.Domains.length - z.1) z.1 z.2=some r) (fun z=>p.Domains.length - z.1) (0,(Vec.fill 512 (0#64))) ?_ ?_ ?_ ?_
  ·exact hk
  ·exact ld
  ·exact fv
  ·rintro ⟨i_5,c_3⟩ hk; (try dsimp only at *);refine ei ?_;refine T.cond rfl (fun h6=>?_) (fun h6=>?_)
   ·have p6:=of_decide_eq_true h6;rw [fT a5] at hk;generalize hn4:di f4 kk4 (p.Domains.length - (i_5+1)) (i_5+1)=next4 at hk;rw [←hf4] at hk; (try dsimp only at hk);refine fq ?_;refine q2Q ?_;have hd14_1:=(GDomain.c1 (hp_0.2.2 i_5 a5)).2;haveI:=hd14_1.oneC;refine fQ ?_;rintro _ _ ⟨g5,rfl,rfl⟩;refine q3P ?_;have hq:(0≤(cH p.Domains i_5).Station∧(cH p.Domains i_5).Station<(512:Int))∧_:=eQ hk;clear hk;obtain ⟨g17,hk⟩:=hq; (try dsimp only at hk);refine ed ?_;refine eu ?_;refine cI (dX (i:=((cH p.Domains i_5).Station).toNat) rfl rfl rfl a5 a5) ?_;refine d7 (gJ 1 ((Vec.put c_3 (((cH p.Domains i_5).Station).toNat) (1#64)).1.map U) rfl rfl rfl rfl b3 (zgd a5 (Vec.upd (x:=c_3) (f:=U) (i:=((cH p.Domains i_5).Station).toNat) (v:=1#64) a5))) ?_;refine ex ?_;refine dG ?_;refine eu ?_;refine cI (dA rfl rfl hd14_1 (List.length_map _)) ?_;have hm20:((cH p.Domains i_5).Channels).length≤9223372036854775807:=(List.length_map _)▸hd14_1.max;refine dP ?_;have hq:=fS hk;clear hk;obtain ⟨f8,kk8,hf8,hkk8,hk⟩:=hq;refine gg ?_;refine T.pick [1,0,2,3] rfl a6 ?_;refine T.loop (ι:=Nat×Vec 512 (BitVec 64)) (fun z=>[(2, .pointer (some ⟨g2,0,none⟩)),(3, .pointer (some ⟨g3,0,none⟩)),(5, .pointer (some ⟨g5,0,none⟩)),(9,vp_0),(10, .int .i64 (p.Domains.length:Int)),(11, .int .i64 (i_5:Int)),(19,(cH (cH cp_0 i_5) 1)),(20, .int .i64 (((cH p.Domains i_5).Channels).length:Int)),(21, .int .i64 (z.1:Int))]) (fun z=>[.row g3 141 (z.2.1.map U), .row g5 98 [.int .i64 ((cH p.Domains i_5).Station),(cH (cH cp_0 i_5) 1)], .row g2 141 ((Vec.fill 512 (0#64)).1.map U), .fr F1]) (fun z=>di f8 kk8 ((((cH p.Domains i_5).Channels).length) - z.1) z.1 z.2=some r) (fun z=>(((cH p.Domains i_5).Channels).length) - z.1) (0,(Vec.put c_3 (((cH p.Domains i_5).Station).toNat) (1#64))) ?_ ?_ ?_ ?_
    ·exact hk
    ·exact q4p
    ·exact fv
    ·rintro ⟨i_9,c_7⟩ hk; (try dsimp only at *);refine ei ?_;refine T.cond rfl (fun h10=>?_) (fun h10=>?_)
     ·have p10:=of_decide_eq_true h10;rw [fT a5] at hk;generalize hn8:di f8 kk8 ((((cH p.Domains i_5).Channels).length) - (i_9+1)) (i_9+1)=next8 at hk;rw [←hf8] at hk; (try dsimp only at hk);refine fq ?_;refine cI (dL (i:=i_9) rfl rfl rfl hd14_1 (List.length_map _) rfl a5) ?_;refine cI (hD 3 (i:=i_9) (j:=0) rfl rfl rfl hd14_1 a5) ?_;refine dP ?_;have hq:(0≤(cH ((cH p.Domains i_5).Channels) i_9)∧(cH ((cH p.Domains i_5).Channels) i_9)<(64:Int))∧_:=eQ hk;clear hk;obtain ⟨g30,hk⟩:=hq; (try dsimp only at hk);refine dT (sN 0 3 (sN 4 2 (.eff 3 (sN 6 2 (.eff 8 .done))))) [.row g5 98 [.int .i64 ((cH p.Domains i_5).Station),(cH (cH cp_0 i_5) 1)], .row g2 141 ((Vec.fill 512 (0#64)).1.map U), .fr F1] a8 Sx ?_;refine fY ?_;refine cR rfl (dX (i:=((cH p.Domains i_5).Station).toNat) rfl rfl rfl a5 a5) ?_;refine gR ?_;refine cR rfl (fW (a:=1#64) ((cH ((cH p.Domains i_5).Channels) i_9).toNat) rfl rfl rfl a5 a5) ?_;refine dF ?_;refine fI rfl (Wt.none) rfl rfl (cS 0 rfl rfl rfl (kP a5 (Vec.cell (i:=((cH p.Domains i_5).Station).toNat) a5))) (fun w hw=>hw.sub Sx) ?_;refine cR rfl (fH (a:=(Vec.get c_7 (((cH p.Domains i_5).Station).toNat))) (b:=((1#64) <<< ((cH ((cH p.Domains i_5).Channels) i_9).toNat)))) ?_;refine cR rfl (dX (i:=((cH p.Domains i_5).Station).toNat) rfl rfl rfl a5 a5) ?_;refine dF ?_;refine fk rfl (Wt.none) rfl (gJ 0 ((Vec.put c_7 (((cH p.Domains i_5).Station).toNat) ((Vec.get c_7 (((cH p.Domains i_5).Station).toNat)) ||| ((1#64) <<< ((cH ((cH p.Domains i_5).Channels) i_9).toNat)))).1.map U) rfl rfl rfl rfl b3 (zgd a5 (Vec.upd (x:=c_7) (f:=U) (i:=((cH p.Domains i_5).Station).toNat) (v:=((Vec.get c_7 (((cH p.Domains i_5).Station).toNat)) ||| ((1#64) <<< ((cH ((cH p.Domains i_5).Channels) i_9).toNat)))) a5))) ?_;refine kI ?_;refine q1s ?_;rw [←hn8] at hk;exact K.next ((i_9+1),(Vec.put c_7 (((cH p.Domains i_5).Station).toNat) ((Vec.get c_7 (((cH p.Domains i_5).Station).toNat)) ||| ((1#64) <<< ((cH ((cH p.Domains i_5).Channels) i_9).toNat))))) hk a9 (.c (.c (.c (.c (.c (.c (.c (.c (.c .nil))))))))) (List.Sublist.refl _)
     ·have p10:=of_decide_eq_false h10;rw [fR a5,←hkk8] at hk; (try dsimp only at hk);refine q2K ?_;rw [←hn4] at hk;refine K.pick [0,2,3] rfl a6 ?_;exact K.next ((i_5+1),c_7) hk a9 (.c (.c (.c (.c (.c .nil))))) (List.Sublist.refl _)
   ·have p6:=of_decide_eq_false h6;rw [fR a5,←hkk4] at hk; (try dsimp only at hk);refine ff ?_;exact c4 c_3 hk (.c (.c .nil)) (List.Sublist.refl _)
 ·rintro c_1 hk;rw [←hk2] at hk; (try dsimp only at hk);refine q3t ?_;obtain rfl:=Option.some.inj hk;exact j1 1 rfl rfl rfl Vec.len (fun w' hw=>⟨rfl,hw.isBelow⟩)
def zb6 (p0_:GProblem)(m0_:List GDomain×Bool):Option (Vec 512 Int):=
 dS (fun (c_1:Vec 512 Int)=>
  some c_1)
 (fun k2=>
  di (fun (i_5:Nat) (next4:Vec 512 Int→Option (Vec 512 Int)) (c_3:Vec 512 Int)=>
   d4 (0≤(cH (iP m0_) i_5).Station∧(cH (iP m0_) i_5).Station<(512:Int)) <|
   next4 (Vec.put c_3 (((cH (iP m0_) i_5).Station).toNat) ((cH (iP m0_) i_5).Channel)))
  (fun (c_3:Vec 512 Int)=>
   k2 c_3) (((iP m0_).length) - 0) 0 (Vec.fill 512 0))
theorem zdL (F0:Frz)(w:World)(hF0:F0.At w)(p0_:GProblem)(m0_:List GDomain×Bool)(k0_:SK)(v0_:Value)(L0_:Ws)(hs0_:SI p0_ m0_ k0_ L0_)(tf0_:TbF F0 k0_)(htab:Tab w)(hO:Hp w (cZ [ej k0_ v0_ L0_ (!m0_.2)]) [ej k0_ v0_ L0_ (!m0_.2)] w)(hA:∀g,cZ [ej k0_ v0_ L0_ (!m0_.2)] g→¬F0.S g)(hZ:¬cZ [ej k0_ v0_ L0_ (!m0_.2)] 0)(r:Vec 512 Int)(hr:zb6 p0_ m0_=some r):Calls Tryz.prog 146 #[.pointer (some ⟨k0_.sp,0,none⟩)] w fun e w'=>∃(y:Unit) (G:Frz),(True)∧e= .returned (.agg (r.1.map vI).toArray)∧FxM F0 w (cZ [ej k0_ v0_ L0_ (!m0_.2)]) G [ej k0_ v0_ L0_ (!m0_.2)] w':=by
 have hk:=hr;unfold zb6 at hk;obtain ⟨S0,F1,rfl,hS0,hp0⟩:=ga hF0 hO hA;have hM0:=hZ;have htk:∀ {hs:HS} {w':World},Hp w (cZ [ej k0_ v0_ L0_ (!m0_.2)]) hs w'→Tab w':=fun hw=>htab.kept hw hZ;refine dq (hs:=[ej k0_ v0_ L0_ (!m0_.2), .fr F1]) Tryz.func146 rfl rfl rfl hp0 ?_;refine de ?_;refine q3Q ?_;rintro _ _ ⟨g2,rfl,rfl⟩;refine dG ?_;refine q3Q ?_;rintro _ _ ⟨g3,rfl,rfl⟩;refine gX ?_;refine dd ?_;refine cN (eh 3 rfl rfl rfl rfl (fun w hw hF=>zlm hs0_ tf0_ (hw.get (i:=2) rfl) (hw.fr (i:=3) rfl) (htk hw))) ?_;rintro _ _ ⟨v7_,F2,le1_2,hf7,hq,rfl⟩;obtain rfl:=hq.symm;haveI:=hf7.oneC;refine cI (dA rfl rfl hf7 (List.length_map _)) ?_;have hm8:(iP m0_).length≤9223372036854775807:=(List.length_map _)▸hf7.max;refine dP ?_;have hq:=eP hk;clear hk;obtain ⟨k2,hk2,hk⟩:=hq; (try dsimp only at hk);refine dj (ι:=Vec 512 Int) (fun z=>[(2, .pointer (some ⟨g2,0,none⟩)),(3, .pointer (some ⟨g3,0,none⟩))]) (fun z=>[.row g3 204 (z.1.map vI), .row g2 204 ((Vec.fill 512 0).1.map vI),ej k0_ v0_ L0_ (!m0_.2), .fr F2]) (fun z=>k2 z=some r) ?_ ?_
 ·have hq:=fS hk;clear hk;obtain ⟨f4,kk4,hf4,hkk4,hk⟩:=hq;refine gg ?_;refine T.loop (ι:=Nat×Vec 512 Int) (fun z=>[(2, .pointer (some ⟨g2,0,none⟩)),(3, .pointer (some ⟨g3,0,none⟩)),(7,v7_),(8, .int .i64 ((iP m0_).length:Int)),(9, .int .i64 (z.1:Int))]) (fun z=>[.row g3 204 (z.2.1.map vI), .row g2 204 ((Vec.fill 512 0).1.map vI),ej k0_ v0_ L0_ (!m0_.2), .fr F2]) (fun z=>di f4 kk4 (((iP m0_).length) - z.1) z.1 z.2=some r) (fun z=>((iP m0_).length) - z.1) (0,(Vec.fill 512 0)) ?_ ?_ ?_ ?_
  ·exact hk
  ·exact ld
  ·exact fv
  ·rintro ⟨i_5,c_3⟩ hk; (try dsimp only at *);refine ei ?_;refine T.cond rfl (fun h6=>?_) (fun h6=>?_)
   ·have p6:=of_decide_eq_true h6;rw [fT a5] at hk;generalize hn4:di f4 kk4 (((iP m0_).length) - (i_5+1)) (i_5+1)=next4 at hk;rw [←hf4] at hk; (try dsimp only at hk);refine fq ?_;refine cI (dL (i:=i_5) rfl rfl rfl hf7 (List.length_map _) rfl a5) ?_;refine cI (fE 3 (i:=i_5) rfl rfl rfl hf7 a5) ?_;refine fQ ?_;rintro _ _ ⟨g5,rfl,rfl⟩;refine kr ?_;refine TL.ns ?_;have hq:(0≤(cH (iP m0_) i_5).Station∧(cH (iP m0_) i_5).Station<(512:Int))∧_:=eQ hk;clear hk;obtain ⟨g17,hk⟩:=hq; (try dsimp only at hk);refine ed ?_;refine eu ?_;refine eu ?_;refine cI (dX (i:=((cH (iP m0_) i_5).Station).toNat) rfl rfl rfl a5 a5) ?_;refine d7 (gJ 1 ((Vec.put c_3 (((cH (iP m0_) i_5).Station).toNat) ((cH (iP m0_) i_5).Channel)).1.map vI) rfl rfl rfl rfl b3 (zgd a5 (Vec.upd (x:=c_3) (f:=vI) (i:=((cH (iP m0_) i_5).Station).toNat) (v:=(cH (iP m0_) i_5).Channel) a5))) ?_;refine ex ?_;refine kC ?_;rw [←hn4] at hk;refine K.pick [1,2,3,4] rfl a6 ?_;exact K.next ((i_5+1),(Vec.put c_3 (((cH (iP m0_) i_5).Station).toNat) ((cH (iP m0_) i_5).Channel))) hk a9 (.c (.c (.c (.c (.c .nil))))) (List.Sublist.refl _)
   ·have p6:=of_decide_eq_false h6;rw [fR a5,←hkk4] at hk; (try dsimp only at hk);refine ff ?_;exact c4 c_3 hk (.c (.c .nil)) (List.Sublist.refl _)
 ·rintro c_1 hk;rw [←hk2] at hk; (try dsimp only at hk);refine q3t ?_;obtain rfl:=Option.some.inj hk;exact j1 1 rfl rfl rfl Vec.len (fun w' hw=>⟨⟨⟩,F2.toFrz,trivial,rfl,cX (hw.pick (idx:=[2,3]) rfl a6) hS0 le1_2⟩)
def zcY (p0_:GProblem)(m0_:List GDomain×Bool)(x1_:Vec 512 Int)(g_:List GChoice):Option (GChoice×Bool):=
 dS (fun (s6:Int×Int×Int×Int×Int)=>
  (bif ((decide (s6.1=0))&&(decide (0<(g_.length:Int)))) then
   some ((cH g_ 0),true)
   else
   some ((GChoice.mk s6.2.2.2.1 s6.2.2.2.2),((decide (s6.1=0))||(zke m0_ (GChoice.mk s6.2.2.2.1 s6.2.2.2.2))))))
 (fun k6=>
  di (fun (i_13:Nat) (next12:(Int×Int×Int×Int×Int)→Option (GChoice×Bool)) (s12:Int×Int×Int×Int×Int)=>
   d4 (0≤(cH g_ i_13).Station∧(cH g_ i_13).Station<(512:Int)) <|
   dS (fun (s18:Int×Int×Int)=>
    (bif decide (1<s18.1) then
     some ((GChoice.mk 0 0),false)
     else
     next12 (s18.1,s12.2.1,s12.2.2.1,s18.2.1,s18.2.2)))
   (fun k18=>
    (bif decide (¬(Vec.get x1_ (((cH g_ i_13).Station).toNat))=(cH g_ i_13).Channel) then
     k18 (wI (s12.1+1),(cH g_ i_13).Station,(cH g_ i_13).Channel)
     else
     k18 (s12.1,s12.2.2.2.1,s12.2.2.2.2))))
  (fun (s12:Int×Int×Int×Int×Int)=>
   k6 (s12.1,s12.2.1,s12.2.2.1,s12.2.2.2.1,s12.2.2.2.2)) (g_.length - 0) 0 (0,0,0,0,0))
theorem zfB (F0:Frz)(w:World)(hF0:F0.At w)(p0_:GProblem)(m0_:List GDomain×Bool)(k0_:SK)(v0_:Value)(L0_:Ws)(hs0_:SI p0_ m0_ k0_ L0_)(tf0_:TbF F0 k0_)(x1_:Vec 512 Int)(g1_:Nat)(g_:List GChoice)(vg_:Value)(hg_:SlC F0 vg_ 2 (g_.map cM))(htab:Tab w)(hO:Hp w (cZ [ej k0_ v0_ L0_ (!m0_.2), .row g1_ 204 (x1_.1.map vI)]) [ej k0_ v0_ L0_ (!m0_.2), .row g1_ 204 (x1_.1.map vI)] w)(hA:∀g,cZ [ej k0_ v0_ L0_ (!m0_.2), .row g1_ 204 (x1_.1.map vI)] g→¬F0.S g)(hZ:¬cZ [ej k0_ v0_ L0_ (!m0_.2), .row g1_ 204 (x1_.1.map vI)] 0)(r:GChoice×Bool)(hr:zcY p0_ m0_ x1_ g_=some r):Calls Tryz.prog 147 #[.pointer (some ⟨k0_.sp,0,none⟩), .pointer (some ⟨g1_,0,none⟩),vg_] w fun e w'=>∃(y:Unit),(True)∧e= .returned (.tuple #[.agg [.int .i64 r.1.Station, .int .i64 r.1.Channel].toArray, .bool r.2])∧FxM F0 w (cZ [ej k0_ v0_ L0_ (!m0_.2), .row g1_ 204 (x1_.1.map vI)]) F0 [ej k0_ v0_ L0_ (!m0_.2), .row g1_ 204 (x1_.1.map vI)] w':=by
 have hk:=hr;unfold zcY at hk;haveI:=hg_.oneC;obtain ⟨S0,F1,rfl,hS0,hp0⟩:=ga hF0 hO hA;have hM0:=hZ;have htk:∀ {hs:HS} {w':World},Hp w (cZ [ej k0_ v0_ L0_ (!m0_.2), .row g1_ 204 (x1_.1.map vI)]) hs w'→Tab w':=fun hw=>htab.kept hw hZ;refine dq (hs:=[ej k0_ v0_ L0_ (!m0_.2), .row g1_ 204 (x1_.1.map vI), .fr F1]) Tryz.func147 rfl rfl rfl hp0 ?_;refine de ?_;refine fQ ?_;rintro _ _ ⟨g6,rfl,rfl⟩;refine f9 ?_;refine fQ ?_;rintro _ _ ⟨g8,rfl,rfl⟩;refine dG ?_;refine kL ?_;refine cI (dA rfl rfl hg_ (List.length_map _)) ?_;have hm13:g_.length≤9223372036854775807:=(List.length_map _)▸hg_.max;refine dP ?_;have hq:=eP hk;clear hk;obtain ⟨k6,hk6,hk⟩:=hq; (try dsimp only at hk);refine dj (ι:=Int×Int×Int×Int×Int) (fun z=>[(0, .pointer (some ⟨k0_.sp,0,none⟩)),(2,vg_),(6, .pointer (some ⟨g6,0,none⟩)),(8, .pointer (some ⟨g8,0,none⟩)),(9, .int .i64 z.1)]) (fun z=>[.row g6 68 [.int .i64 z.2.1, .int .i64 z.2.2.1], .row g8 68 [.int .i64 z.2.2.2.1, .int .i64 z.2.2.2.2],ej k0_ v0_ L0_ (!m0_.2), .row g1_ 204 (x1_.1.map vI), .fr F1]) (fun z=>k6 (z.1,z.2.1,z.2.2.1,z.2.2.2.1,z.2.2.2.2)=some r) ?_ ?_
 ·have hq:=fS hk;clear hk;obtain ⟨f12,kk12,hf12,hkk12,hk⟩:=hq;refine gg ?_;refine T.pick [1,0,2,3,4] rfl a6 ?_;refine T.loop (ι:=Nat×Int×Int×Int×Int×Int) (fun z=>[(0, .pointer (some ⟨k0_.sp,0,none⟩)),(1, .pointer (some ⟨g1_,0,none⟩)),(2,vg_),(6, .pointer (some ⟨g6,0,none⟩)),(8, .pointer (some ⟨g8,0,none⟩)),(9, .int .i64 z.2.1),(12,vg_),(13, .int .i64 (g_.length:Int)),(14, .int .i64 (z.1:Int))]) (fun z=>[.row g6 68 [.int .i64 z.2.2.1, .int .i64 z.2.2.2.1], .row g8 68 [.int .i64 z.2.2.2.2.1, .int .i64 z.2.2.2.2.2],ej k0_ v0_ L0_ (!m0_.2), .row g1_ 204 (x1_.1.map vI), .fr F1]) (fun z=>di f12 kk12 (g_.length - z.1) z.1 (z.2.1,z.2.2.1,z.2.2.2.1,z.2.2.2.2.1,z.2.2.2.2.2)=some r) (fun z=>g_.length - z.1) (0,0,0,0,0,0) ?_ ?_ ?_ ?_
  ·exact hk
  ·exact q4p
  ·exact fv
  ·rintro ⟨i_13,n_7,c_8,c_9,c_10,c_11⟩ hk; (try dsimp only at *);refine ei ?_;refine T.cond rfl (fun h14=>?_) (fun h14=>?_)
   ·have p14:=of_decide_eq_true h14;rw [fT a5] at hk;generalize hn12:di f12 kk12 (g_.length - (i_13+1)) (i_13+1)=next12 at hk;rw [←hf12] at hk; (try dsimp only at hk);refine fq ?_;refine cI (dL (i:=i_13) rfl rfl rfl hg_ (List.length_map _) rfl a5) ?_;refine cI (fE 4 (i:=i_13) rfl rfl rfl hg_ a5) ?_;refine fQ ?_;rintro _ _ ⟨g11,rfl,rfl⟩;refine kr ?_;refine jB ?_;have hq:(0≤(cH g_ i_13).Station∧(cH g_ i_13).Station<(512:Int))∧_:=eQ hk;clear hk;obtain ⟨g22,hk⟩:=hq; (try dsimp only at hk);refine q11 ?_;refine gR ?_;refine fY ?_;refine gR ?_;refine cR rfl (dX (i:=((cH g_ i_13).Station).toNat) rfl rfl rfl a5 a5) ?_;refine cR rfl (cS 4 rfl rfl rfl (kP a5 (Vec.cell (i:=((cH g_ i_13).Station).toNat) a5))) ?_;refine fY ?_;refine ky ?_;have hq:=eP hk;clear hk;obtain ⟨k18,hk18,hk⟩:=hq; (try dsimp only at hk);refine dj (ι:=Int×Int×Int) (fun z=>[(0, .pointer (some ⟨k0_.sp,0,none⟩)),(1, .pointer (some ⟨g1_,0,none⟩)),(2,vg_),(6, .pointer (some ⟨g6,0,none⟩)),(8, .pointer (some ⟨g8,0,none⟩)),(9, .int .i64 z.1),(12,vg_),(13, .int .i64 (g_.length:Int)),(14, .int .i64 (i_13:Int))]) (fun z=>[.row g8 68 [.int .i64 z.2.1, .int .i64 z.2.2], .row g6 68 [.int .i64 c_8, .int .i64 c_9],ej k0_ v0_ L0_ (!m0_.2), .row g1_ 204 (x1_.1.map vI), .fr F1]) (fun z=>k18 (z.1,z.2.1,z.2.2)=some r) ?_ ?_
    ·refine T.cond rfl (fun h19=>?_) (fun h19=>?_)
     ·have p19:=of_decide_eq_true h19;replace hk:=dy hk h19;refine de ?_;refine gY ?_;refine d7 (dr 2) ?_;refine ex ?_;refine TL.ns (T.region ?_);refine lZ ?_;refine K.pick [2,1,3,4,5] rfl a6 ?_;exact c4 (wI (n_7+1),(cH g_ i_13).Station,(cH g_ i_13).Channel) hk (.c (.c (.c (.c (.c (.c (.c (.c (.c .nil))))))))) (List.Sublist.refl _)
     ·have p19:=of_decide_eq_false h19;replace hk:=dz hk h19;refine T.skip ?_;refine K.pick [2,1,3,4,5] rfl a6 ?_;exact c4 (n_7,c_10,c_11) hk (.c (.c (.c (.c (.c (.c (.c (.c (.c .nil))))))))) (List.Sublist.refl _)
    ·rintro ⟨n_15,c_16,c_17⟩ hk; (try dsimp only at *);rw [←hk18] at hk; (try dsimp only at hk);refine iA ?_;refine TL.ns ?_;refine T.cond rfl (fun h20=>?_) (fun h20=>?_)
     ·have p20:=of_decide_eq_true h20;replace hk:=dy hk h20;refine de ?_;refine iX ?_;refine q2d ?_;refine dd ?_;refine q0B ?_;obtain rfl:=Option.some.inj hk;exact gz 1 rfl rfl rfl rfl rfl (fun w' hw=>⟨⟨⟩,trivial,rfl,cX (hw.pick (idx:=[2,3,4]) rfl a6) hS0 (Frz.Le.refl _)⟩)
     ·have p20:=of_decide_eq_false h20;replace hk:=dz hk h20;refine gB ?_;rw [←hn12] at hk;refine K.pick [1,0,2,3,4] rfl a6 ?_;exact K.next ((i_13+1),n_15,c_8,c_9,c_16,c_17) hk a9 (.c (.c (.c (.c (.c (.c (.c (.c (.c .nil))))))))) (List.Sublist.refl _)
   ·have p14:=of_decide_eq_false h14;rw [fR a5,←hkk12] at hk; (try dsimp only at hk);refine ff ?_;exact c4 (n_7,c_8,c_9,c_10,c_11) hk (.c (.c (.c (.c (.c .nil))))) (List.Sublist.refl _)
 ·rintro ⟨n_1,c_2,c_3,c_4,c_5⟩ hk; (try dsimp only at *);rw [←hk6] at hk; (try dsimp only at hk);refine T.seq (T.seq ?_);refine dj (ι:=Unit) (fun z=>[(0, .pointer (some ⟨k0_.sp,0,none⟩)),(2,vg_),(6, .pointer (some ⟨g6,0,none⟩)),(8, .pointer (some ⟨g8,0,none⟩)),(9, .int .i64 n_1),(40, .bool ((decide (n_1=0))&&(decide (0<(g_.length:Int)))))]) (fun z=>[.row g6 68 [.int .i64 c_2, .int .i64 c_3], .row g8 68 [.int .i64 c_4, .int .i64 c_5],ej k0_ v0_ L0_ (!m0_.2), .row g1_ 204 (x1_.1.map vI), .fr F1]) (fun z=>True) ?_ ?_
  ·refine ed ?_;refine eM ?_;refine dQ rfl rfl rfl (fun h21=>?_) (fun h21=>?_)
   ·have p21:=of_decide_eq_true h21;refine dd ?_;refine cI (dA rfl rfl hg_ (List.length_map _)) ?_;refine d5 ?_;refine TL.nil ?_;exact c4 () trivial (.c (.c (.c (.c (.c (.b (zgb h21) .nil)))))) (List.Sublist.refl _)
   ·have p21:=of_decide_eq_false h21;refine q2R ?_;exact c4 () trivial (.c (.c (.c (.c (.c (.b (zef h21).symm .nil)))))) (List.Sublist.refl _)
  ·rintro _ _;refine T.cond rfl (fun h22=>?_) (fun h22=>?_)
   ·have p22:=h22; (try simp only [cV] at p22);replace hk:=dy hk h22;refine gy ?_;refine cI (dL (i:=0) rfl rfl rfl hg_ (List.length_map _) (show (0:Int)=((0:Nat):Int) from rfl) a5) ?_;refine cI (fE 4 (i:=0) rfl rfl rfl hg_ a5) ?_;refine kr ?_;refine dd ?_;refine jK ?_;obtain rfl:=Option.some.inj hk;exact q4J
   ·replace hk:=dz hk h22;refine iR ?_;refine dj (ι:=Unit) (fun z=>[(6, .pointer (some ⟨g6,0,none⟩)),(7, .bool ((decide (n_1=0))||(zke m0_ (GChoice.mk c_4 c_5))))]) (fun z=>[.row g6 68 [.int .i64 c_4, .int .i64 c_5], .row g8 68 [.int .i64 c_4, .int .i64 c_5],ej k0_ v0_ L0_ (!m0_.2), .row g1_ 204 (x1_.1.map vI), .fr F1]) (fun z=>True) ?_ ?_
    ·refine dT (sN 0 6 (.eff 6 (.still 7 (.eff 8 (.still 9 .done))))) [.row g8 68 [.int .i64 c_4, .int .i64 c_5],ej k0_ v0_ L0_ (!m0_.2), .row g1_ 204 (x1_.1.map vI), .fr F1] a8 Sx ?_;refine q2r ?_;refine TS.run 3 rfl ?_;refine jz rfl rfl rfl rfl (fun h23=>?_) (fun h23=>?_)
     ·have p23:=of_decide_eq_true h23;refine iQ ?_;refine q2p ?_;refine gR ?_;refine dF ?_;refine fk rfl (Wt.none) rfl (dr 0) ?_;refine kI ?_;refine q0X ?_;exact c4 () trivial (.c (.b (zkm h23).symm .nil)) (List.Sublist.refl _)
     ·have p23:=of_decide_eq_false h23;refine gR ?_;refine q2r ?_;refine dF ?_;refine dn rfl (Wt.some) rfl rfl (cL rfl rfl rfl (fun w hw=>zm3 hs0_ tf0_ (hw.get (i:=2) rfl) (hw.fr (i:=4) rfl) (htk hw) (GChoice.mk c_4 c_5))) ?_;refine kI ?_;refine gR ?_;refine dF ?_;refine fk rfl (Wt.none) rfl (dr 0) ?_;refine kI ?_;refine q0X ?_;exact c4 () trivial (.c (.b (mi h23) .nil)) (List.Sublist.refl _)
    ·rintro _ _;refine T.ret ?_;obtain rfl:=Option.some.inj hk;exact q4J
def zay (x0_:GStore):Bool:=
 false
theorem za5 (F0:Frz)(w:World)(hF0:F0.At w)(x0_:GStore)(g0_:Nat)(k0_512:SK)(v0_512:Value)(L0_512:Ws)(hs0_512:SI x0_.start.1 x0_.start.2 k0_512 L0_512)(tf0_512:TbF F0 k0_512)(zf0_512:SzF F0 k0_512 v0_512 L0_512 (!x0_.start.2.2))(v0_513:Value)(c0_513:List (List Value))(h0_513:OwnD cG F0 1 c0_513 x0_.list)(hO:Hp w (cZ [.row g0_ 144 ((x0_.domains.1.map U)++[.pointer (some ⟨k0_512.sp,0,none⟩),v0_513]), .sl v0_513 50 1 x0_.list.length c0_513.flatten]) [.row g0_ 144 ((x0_.domains.1.map U)++[.pointer (some ⟨k0_512.sp,0,none⟩),v0_513]), .sl v0_513 50 1 x0_.list.length c0_513.flatten] w)(hA:∀g,cZ [.row g0_ 144 ((x0_.domains.1.map U)++[.pointer (some ⟨k0_512.sp,0,none⟩),v0_513]), .sl v0_513 50 1 x0_.list.length c0_513.flatten] g→¬F0.S g):Calls Tryz.prog 81 #[.pointer (some ⟨g0_,0,none⟩)] w fun e w'=>∃(y:Unit),(True)∧e= .returned (.bool (zay x0_))∧FxM F0 w (cZ [.row g0_ 144 ((x0_.domains.1.map U)++[.pointer (some ⟨k0_512.sp,0,none⟩),v0_513]), .sl v0_513 50 1 x0_.list.length c0_513.flatten]) F0 [.row g0_ 144 ((x0_.domains.1.map U)++[.pointer (some ⟨k0_512.sp,0,none⟩),v0_513]), .sl v0_513 50 1 x0_.list.length c0_513.flatten] w':=by
 obtain ⟨r,hk⟩:∃r,zay x0_=r:=⟨_,rfl⟩;rw [hk];unfold zay at hk;haveI:=gN (hO.own (.sl v0_513 50 1 x0_.list.length c0_513.flatten) a7);have hmx0_513:=gW (hO.own (.sl v0_513 50 1 x0_.list.length c0_513.flatten) a7);obtain ⟨S0,F1,rfl,hS0,hp0⟩:=ga hF0 hO hA;refine dq (hs:=[.row g0_ 144 ((x0_.domains.1.map U)++[.pointer (some ⟨k0_512.sp,0,none⟩),v0_513]), .sl v0_513 50 1 x0_.list.length c0_513.flatten, .fr F1]) Tryz.func81 rfl rfl rfl hp0 ?_;refine ei ?_;refine dj (ι:=Unit) (fun z=>[(2, .bool false)]) (fun z=>[.row g0_ 144 ((x0_.domains.1.map U)++[.pointer (some ⟨k0_512.sp,0,none⟩),v0_513]), .sl v0_513 50 1 x0_.list.length c0_513.flatten, .fr F1]) (fun z=>True) ?_ ?_
 ·refine fo ?_;refine cI (l6 (e:=144) a8 rfl rfl rfl) ?_;refine eM ?_;refine q3w ?_;refine cI (l6 (e:=188) a8 rfl rfl rfl) ?_;refine d5 ?_;refine TL.nil ?_;exact q4m
 ·rintro _ _;refine T.ret ?_;subst hk;exact mj
def zaT (x0_:GStore)(g_:List GChoice):Option Bool:=
 (bif !(kc g_) then
  some false
  else
  dS (fun (_:Unit)=>
   some true)
  (fun k2=>
   di (fun (i_4:Nat) (next3:Unit→Option Bool) (_:Unit)=>
    d4 (0≤(cH g_ i_4).Station∧(cH g_ i_4).Station<(512:Int)) <|
    d4 (0≤(cH g_ i_4).Channel∧(cH g_ i_4).Channel<(64:Int)) <|
    (bif decide (((((Vec.get x0_.domains (((cH g_ i_4).Station).toNat)) >>> (((cH g_ i_4).Channel).toNat)) &&& (1#64)).toNat:Int)=((0#64).toNat:Int)) then
     some false
     else
     next3 ()))
   (fun (_:Unit)=>
    k2 ()) (g_.length - 0) 0 ()))
theorem zbH (F0:Frz)(w:World)(hF0:F0.At w)(x0_:GStore)(g0_:Nat)(k0_512:SK)(v0_512:Value)(L0_512:Ws)(hs0_512:SI x0_.start.1 x0_.start.2 k0_512 L0_512)(tf0_512:TbF F0 k0_512)(zf0_512:SzF F0 k0_512 v0_512 L0_512 (!x0_.start.2.2))(v0_513:Value)(c0_513:List (List Value))(h0_513:OwnD cG F0 1 c0_513 x0_.list)(g_:List GChoice)(vg_:Value)(hg_:SlC F0 vg_ 2 (g_.map cM))(hO:Hp w (cZ [.row g0_ 144 ((x0_.domains.1.map U)++[.pointer (some ⟨k0_512.sp,0,none⟩),v0_513]), .sl v0_513 50 1 x0_.list.length c0_513.flatten]) [.row g0_ 144 ((x0_.domains.1.map U)++[.pointer (some ⟨k0_512.sp,0,none⟩),v0_513]), .sl v0_513 50 1 x0_.list.length c0_513.flatten] w)(hA:∀g,cZ [.row g0_ 144 ((x0_.domains.1.map U)++[.pointer (some ⟨k0_512.sp,0,none⟩),v0_513]), .sl v0_513 50 1 x0_.list.length c0_513.flatten] g→¬F0.S g)(r:Bool)(hr:zaT x0_ g_=some r):Calls Tryz.prog 83 #[.pointer (some ⟨g0_,0,none⟩),vg_] w fun e w'=>∃(y:Unit),(True)∧e= .returned (.bool r)∧FxM F0 w (cZ [.row g0_ 144 ((x0_.domains.1.map U)++[.pointer (some ⟨k0_512.sp,0,none⟩),v0_513]), .sl v0_513 50 1 x0_.list.length c0_513.flatten]) F0 [.row g0_ 144 ((x0_.domains.1.map U)++[.pointer (some ⟨k0_512.sp,0,none⟩),v0_513]), .sl v0_513 50 1 x0_.list.length c0_513.flatten] w':=by
 have hk:=hr;unfold zaT at hk;haveI:=hg_.oneC;haveI:=gN (hO.own (.sl v0_513 50 1 x0_.list.length c0_513.flatten) a7);have hmx0_513:=gW (hO.own (.sl v0_513 50 1 x0_.list.length c0_513.flatten) a7);obtain ⟨S0,F1,rfl,hS0,hp0⟩:=ga hF0 hO hA;refine dq (hs:=[.row g0_ 144 ((x0_.domains.1.map U)++[.pointer (some ⟨k0_512.sp,0,none⟩),v0_513]), .sl v0_513 50 1 x0_.list.length c0_513.flatten, .fr F1]) Tryz.func83 rfl rfl rfl hp0 ?_;refine iE ?_;refine cN (cL rfl rfl rfl (fun w hw=>zb7 _ w (hw.fr (i:=2) rfl) g_ vg_ hg_)) ?_;refine ex ?_;refine dP ?_;refine T.cond rfl (fun h1=>?_) (fun h1=>?_)
 ·replace hk:=dy hk h1;refine gF ?_;obtain rfl:=Option.some.inj hk;exact mj
 ·replace hk:=dz hk h1;refine jR ?_;refine dd ?_;refine cI (dA rfl rfl hg_ (List.length_map _)) ?_;have hm11:g_.length≤9223372036854775807:=(List.length_map _)▸hg_.max;refine dP ?_;have hq:=eP hk;clear hk;obtain ⟨k2,hk2,hk⟩:=hq; (try dsimp only at hk);refine dj (ι:=Unit) (fun z=>[]) (fun z=>[.row g0_ 144 ((x0_.domains.1.map U)++[.pointer (some ⟨k0_512.sp,0,none⟩),v0_513]), .sl v0_513 50 1 x0_.list.length c0_513.flatten, .fr F1]) (fun z=>k2 ()=some r) ?_ ?_
  ·have hq:=fS hk;clear hk;obtain ⟨f3,kk3,hf3,hkk3,hk⟩:=hq;refine gg ?_;refine T.loop (ι:=Nat) (fun z=>[(0, .pointer (some ⟨g0_,0,none⟩)),(10,vg_),(11, .int .i64 (g_.length:Int)),(12, .int .i64 (z:Int))]) (fun z=>[.row g0_ 144 ((x0_.domains.1.map U)++[.pointer (some ⟨k0_512.sp,0,none⟩),v0_513]), .sl v0_513 50 1 x0_.list.length c0_513.flatten, .fr F1]) (fun z=>di f3 kk3 (g_.length - z) z ()=some r) (fun z=>g_.length - z) 0 ?_ ?_ ?_ ?_
   ·exact hk
   ·exact q37
   ·exact fv
   ·rintro i_4 hk;refine ei ?_;refine T.cond rfl (fun h5=>?_) (fun h5=>?_)
    ·have p5:=of_decide_eq_true h5;rw [fT a5] at hk;generalize hn3:di f3 kk3 (g_.length - (i_4+1)) (i_4+1)=next3 at hk;rw [←hf3] at hk; (try dsimp only at hk);refine fq ?_;refine cI (dL (i:=i_4) rfl rfl rfl hg_ (List.length_map _) rfl a5) ?_;refine cI (fE 2 (i:=i_4) rfl rfl rfl hg_ a5) ?_;refine fQ ?_;rintro _ _ ⟨g6,rfl,rfl⟩;refine q3P ?_;have hq:(0≤(cH g_ i_4).Station∧(cH g_ i_4).Station<(512:Int))∧_:=eQ hk;clear hk;obtain ⟨g21,hk⟩:=hq;have hq:(0≤(cH g_ i_4).Channel∧(cH g_ i_4).Channel<(64:Int))∧_:=eQ hk;clear hk;obtain ⟨g25,hk⟩:=hq; (try dsimp only at hk);refine dT (sN 0 11 (.still 11 .done)) _ a8 (List.Sublist.refl _) ?_;refine gR ?_;refine fY ?_;refine q3O ?_;refine cR rfl (dX (i:=((cH g_ i_4).Station).toNat) rfl rfl rfl a5 a5) ?_;refine cR rfl (cS 1 rfl rfl rfl (kP a5 (zmx Vec.len a5 (Vec.cell (i:=((cH g_ i_4).Station).toNat) a5)))) ?_;refine fY ?_;refine cR rfl (fD (a:=(Vec.get x0_.domains (((cH g_ i_4).Station).toNat))) (((cH g_ i_4).Channel).toNat) rfl rfl rfl a5 a5) ?_;refine cR rfl (fL (a:=((Vec.get x0_.domains (((cH g_ i_4).Station).toNat)) >>> (((cH g_ i_4).Channel).toNat))) (b:=1#64)) ?_;refine ky ?_;refine T.cond rfl (fun h6=>?_) (fun h6=>?_)
     ·replace hk:=dy hk h6;refine jT ?_;obtain rfl:=Option.some.inj hk;exact cU rfl rfl (fun w' hw=>⟨⟨⟩,trivial,rfl,cX (hw.pick (idx:=[1,2,3]) rfl a6) hS0 (Frz.Le.refl _)⟩)
     ·replace hk:=dz hk h6;refine gB ?_;rw [←hn3] at hk;refine q3g ?_;exact K.next (i_4+1) hk a5 (.c (.c (.c (.c .nil)))) (List.Sublist.refl _)
    ·have p5:=of_decide_eq_false h5;rw [fR a5,←hkk3] at hk; (try dsimp only at hk);refine ff ?_;exact q34
  ·rintro _ hk;rw [←hk2] at hk; (try dsimp only at hk);refine q3M ?_;obtain rfl:=Option.some.inj hk;exact mj
def zaZ (x0_:GStore)(g_:List GChoice):Option (Int×List (List GChoice)):=
 (bif (zay x0_) then
  some (1,x0_.list)
  else
  (zaT x0_ g_).bind fun r9=>
  (bif !r9 then
   some (2,x0_.list)
   else
   (bif decide (4096≤(x0_.list.length:Int)) then
    some (7,x0_.list)
    else
    d4 (db g_.length 16) <|
    d4 (db (x0_.list++[g_]).length 24) <|
    some (0,(x0_.list++[g_])))))
theorem zbL (F0:Frz)(w:World)(hF0:F0.At w)(x0_:GStore)(g0_:Nat)(k0_512:SK)(v0_512:Value)(L0_512:Ws)(hs0_512:SI x0_.start.1 x0_.start.2 k0_512 L0_512)(tf0_512:TbF F0 k0_512)(zf0_512:SzF F0 k0_512 v0_512 L0_512 (!x0_.start.2.2))(v0_513:Value)(c0_513:List (List Value))(h0_513:OwnD cG F0 1 c0_513 x0_.list)(g_:List GChoice)(vg_:Value)(hg_:SlC F0 vg_ 2 (g_.map cM))(hO:Hp w (cZ [.row g0_ 144 ((x0_.domains.1.map U)++[.pointer (some ⟨k0_512.sp,0,none⟩),v0_513]), .sl v0_513 50 1 x0_.list.length c0_513.flatten]) [.row g0_ 144 ((x0_.domains.1.map U)++[.pointer (some ⟨k0_512.sp,0,none⟩),v0_513]), .sl v0_513 50 1 x0_.list.length c0_513.flatten] w)(hA:∀g,cZ [.row g0_ 144 ((x0_.domains.1.map U)++[.pointer (some ⟨k0_512.sp,0,none⟩),v0_513]), .sl v0_513 50 1 x0_.list.length c0_513.flatten] g→¬F0.S g)(r:Int×List (List GChoice))(hr:zaZ x0_ g_=some r):Calls Tryz.prog 47 #[.pointer (some ⟨g0_,0,none⟩),vg_] w fun e w'=>∃(y:Value×List (List Value)) (G:Frz),(OwnD cG G 1 y.2 r.2)∧e= .returned (.int .i64 r.1)∧FxM F0 w (cZ [.row g0_ 144 ((x0_.domains.1.map U)++[.pointer (some ⟨k0_512.sp,0,none⟩),v0_513]), .sl v0_513 50 1 x0_.list.length c0_513.flatten]) G [.row g0_ 144 ((x0_.domains.1.map U)++[.pointer (some ⟨k0_512.sp,0,none⟩),y.1]), .sl y.1 50 1 r.2.length y.2.flatten] w':=by
 have hk:=hr;unfold zaZ at hk;haveI:=hg_.oneC;haveI:=gN (hO.own (.sl v0_513 50 1 x0_.list.length c0_513.flatten) a7);have hmx0_513:=gW (hO.own (.sl v0_513 50 1 x0_.list.length c0_513.flatten) a7);obtain ⟨S0,F1,rfl,hS0,hp0⟩:=ga hF0 hO hA;refine dq (hs:=[.row g0_ 144 ((x0_.domains.1.map U)++[.pointer (some ⟨k0_512.sp,0,none⟩),v0_513]), .sl v0_513 50 1 x0_.list.length c0_513.flatten, .fr F1]) Tryz.func47 rfl rfl rfl hp0 ?_;refine iE ?_;refine q01 ?_;rintro _ _ ⟨⟨⟩, -,rfl,rfl⟩;refine em ?_;refine TL.ns ?_;refine T.cond rfl (fun h1=>?_) (fun h1=>?_)
 ·replace hk:=dy hk h1;refine gF ?_;obtain rfl:=Option.some.inj hk;exact q4x
 ·replace hk:=dz hk h1;refine q3h ?_;have hq:=dM hk;clear hk;obtain ⟨r9,hr9,hk⟩:=hq; (try dsimp only at hk);refine gQ ?_;refine cN (dl [0,1,2] [.row g0_ 144 ((x0_.domains.1.map U)++([.pointer (some ⟨k0_512.sp,0,none⟩),v0_513]:List Value)), .sl v0_513 50 1 x0_.list.length c0_513.flatten] [] rfl rfl rfl rfl a6 (fun w hw hw2 hF=>zbH _ w hF x0_ g0_ k0_512 v0_512 L0_512 hs0_512 tf0_512 zf0_512 v0_513 c0_513 h0_513 g_ vg_ hg_ hw2.takes.1 hw2.takes.2 r9 hr9)) ?_;rintro _ _ ⟨⟨⟩, -,rfl,rfl⟩;refine lC ?_;refine T.cond rfl (fun h2=>?_) (fun h2=>?_)
  ·replace hk:=dy hk h2;refine gF ?_;obtain rfl:=Option.some.inj hk;exact q4x
  ·replace hk:=dz hk h2;refine jR ?_;refine d5 ?_;refine eZ ?_;refine cI (cS 0 rfl rfl rfl (kP a5 (zdD Vec.len (show [.pointer (some ⟨k0_512.sp,0,none⟩),v0_513][1]?=some _ from rfl)))) ?_;refine cI (jk 1 rfl rfl rfl) ?_;refine dP ?_;refine T.cond rfl (fun h3=>?_) (fun h3=>?_)
   ·have p3:=of_decide_eq_true h3;replace hk:=dy hk h3;refine gF ?_;obtain rfl:=Option.some.inj hk;exact q4x
   ·have p3:=of_decide_eq_false h3;replace hk:=dz hk h3;refine iR ?_;have hq:(db g_.length 16)∧_:=eQ hk;clear hk;obtain ⟨g23,hk⟩:=hq;have hq:(db (x0_.list++[g_]).length 24)∧_:=eQ hk;clear hk;obtain ⟨g25,hk⟩:=hq; (try dsimp only at hk);refine dj (ι:=Value×List (List Value)×FzB w (cZ [.row g0_ 144 ((x0_.domains.1.map U)++[.pointer (some ⟨k0_512.sp,0,none⟩),v0_513]), .sl v0_513 50 1 x0_.list.length c0_513.flatten]) S0) (fun z=>[]) (fun z=>[.row g0_ 144 ((x0_.domains.1.map U)++[.pointer (some ⟨k0_512.sp,0,none⟩),z.1]), .sl z.1 50 1 (x0_.list++[g_]).length z.2.1.flatten, .fr z.2.2]) (fun z=>OneC z.1∧OwnD cG z.2.2.toFrz 1 z.2.1 (x0_.list++[g_])∧F1.toFrz.Le z.2.2.toFrz) ?_ ?_
    ·refine dT (.still 0 (.still 1 (.still 2 (.still 3 (.still 5 (.two 4 6 (.eff 6 (.eff 7 (.eff 8 (sN 9 2 (.eff 11 .done))))) (.two 4 7 (.eff 7 (.eff 8 (sN 9 2 (.eff 11 .done)))) (.eff 4 (.eff 8 (sN 9 2 (.eff 11 .done))))))))))) [.fr F1] a8 Sx ?_;refine TS.run 3 rfl ?_;refine iq ?_;refine gR ?_;refine TS.two ?_ ?_
     ·refine fI rfl (Wt.none) rfl rfl (cS 0 rfl rfl rfl (kP a5 (zdD Vec.len (show [.pointer (some ⟨k0_512.sp,0,none⟩),v0_513][1]?=some _ from rfl)))) (fun w hw=>hw.sub Sx) ?_;refine dF ?_;refine dn rfl (Wt.none) rfl rfl (eh 2 rfl rfl rfl rfl (fun w hw hF=>zfz _ w hF g_ vg_ hg_ g23)) ?_;rintro _ _ ⟨v23_,F3,le1_3,hf23,hq,rfl⟩;obtain rfl:=hq.symm;haveI:=hf23.oneC;refine ⟨(fun w hw=>(hw.frLe (i:=2) rfl le1_3).sub Sx),?_⟩;refine dF ?_;refine jU ?_;rintro _ _ ⟨g24,rfl,rfl⟩;have hl24:OwnD cG F3.toFrz 1 [[v23_]] [g_]:=(cP (OwnD.nil _ _ 1) ⟨_,rfl,hf23⟩);refine ⟨(fun w hw=>(hw.frLe (i:=3) rfl le1_3).sub Sx),?_⟩;refine q1Y ?_;rintro v25 _ ⟨hv25,rfl⟩;have ho25:OwnD cG F3.toFrz 1 (c0_513++[[v23_]]) (x0_.list++[g_]):=(cP (OwnD.mono (rep:=cG) (fun _ _ _ _=>R_List_GChoice.mono) h0_513 le1_3) ⟨_,rfl,hf23⟩);refine ⟨(fun w hw=>(hw.frLe (i:=3) rfl le1_3).sub Sx),?_⟩;refine q3O ?_;refine q0V ?_;refine ex ?_;refine ⟨(fun w hw=>(hw.frLe (i:=3) rfl le1_3).sub Sx),?_⟩;refine TS.done ?_;refine q3g ?_;exact c4 (v25,(c0_513++[[v23_]]),F3) ⟨inferInstance,ho25,le1_3⟩ .nil (List.Sublist.refl _)
     ·refine dn rfl (Wt.none) rfl rfl (eh 2 rfl rfl rfl rfl (fun w hw hF=>zfz _ w hF g_ vg_ hg_ g23)) ?_;rintro _ _ ⟨v23_,F4,le1_4,hf23,hq,rfl⟩;obtain rfl:=hq.symm;haveI:=hf23.oneC;refine ⟨(fun w hw=>(hw.frLe (i:=2) rfl le1_4).sub Sx),?_⟩;refine TS.two ?_ ?_
      ·refine fI rfl (Wt.none) rfl rfl (cS 0 rfl rfl rfl (kP a5 (zdD Vec.len (show [.pointer (some ⟨k0_512.sp,0,none⟩),v0_513][1]?=some _ from rfl)))) (fun w hw=>(hw.frLe (i:=2) rfl le1_4).sub Sx) ?_;refine dF ?_;refine jU ?_;rintro _ _ ⟨g24,rfl,rfl⟩;have hl24:OwnD cG F4.toFrz 1 [[v23_]] [g_]:=(cP (OwnD.nil _ _ 1) ⟨_,rfl,hf23⟩);refine q2g ?_;refine q1Y ?_;rintro v25 _ ⟨hv25,rfl⟩;have ho25:OwnD cG F4.toFrz 1 (c0_513++[[v23_]]) (x0_.list++[g_]):=(cP (OwnD.mono (rep:=cG) (fun _ _ _ _=>R_List_GChoice.mono) h0_513 le1_4) ⟨_,rfl,hf23⟩);refine q2g ?_;refine q3O ?_;refine q0V ?_;refine ex ?_;refine q2g ?_;refine TS.done ?_;refine q3g ?_;exact q4K
      ·refine jU ?_;rintro _ _ ⟨g24,rfl,rfl⟩;have hl24:OwnD cG F4.toFrz 1 [[v23_]] [g_]:=(cP (OwnD.nil _ _ 1) ⟨_,rfl,hf23⟩);refine q2g ?_;refine dF ?_;refine fI rfl (Wt.none) rfl rfl (cS 1 rfl rfl rfl (kP a5 (zdD Vec.len (show [.pointer (some ⟨k0_512.sp,0,none⟩),v0_513][1]?=some _ from rfl)))) (fun w hw=>(hw.frLe (i:=3) rfl le1_4).sub Sx) ?_;refine q1Y ?_;rintro v25 _ ⟨hv25,rfl⟩;have ho25:OwnD cG F4.toFrz 1 (c0_513++[[v23_]]) (x0_.list++[g_]):=(cP (OwnD.mono (rep:=cG) (fun _ _ _ _=>R_List_GChoice.mono) h0_513 le1_4) ⟨_,rfl,hf23⟩);refine q2g ?_;refine q3O ?_;refine q0V ?_;refine ex ?_;refine q2g ?_;refine TS.done ?_;refine q3g ?_;exact q4K
    ·rintro ⟨vo1_4,co1_4,F2⟩ ⟨hvo1_4,ho1_4,le1_2⟩; (try dsimp only at *);refine q3M ?_;obtain rfl:=Option.some.inj hk;exact cU rfl rfl (fun w' hw=>⟨(vo1_4,co1_4),F2.toFrz,ho1_4,rfl,cX (hw.pick (idx:=[0,1,2]) rfl a6) hS0 le1_2⟩)
def za8 (fuel:Nat)(x0_:GStore)(l:List GChoice):Option ((Option (GProblem×(List GDomain×Bool)))×Bool):=
 dS (fun (m_1:List GDomain×Bool)=>
  dS (fun (m_8:List GDomain×Bool)=>
   some (some (x0_.start.1,m_8),false))
  (fun k9=>
   kg (fun (next12:(Bool×(List GDomain×Bool))→Option ((Option (GProblem×(List GDomain×Bool)))×Bool)) (s12:Bool×(List GDomain×Bool))=>
    (bif s12.1 then
     (bif !s12.2.2 then
      some (none,true)
      else
      (zb6 x0_.start.1 s12.2).bind fun r36=>
      di (fun (i_20:Nat) (next19:(Bool×(List GDomain×Bool)×Vec 512 Int)→Option ((Option (GProblem×(List GDomain×Bool)))×Bool)) (s19:Bool×(List GDomain×Bool)×Vec 512 Int)=>
       dS (fun (s25:Bool×(List GDomain×Bool)×Vec 512 Int)=>
        next19 (s25.1,s25.2.1,s25.2.2))
       (fun k25=>
        (zcY x0_.start.1 s19.2.1 s19.2.2 (cH x0_.list i_20)).bind fun r49=>
        (bif !r49.2 then
         k25 (s19.1,s19.2.1,s19.2.2)
         else
         (bif decide (((cH x0_.list i_20).length:Int)=0) then
          some (none,true)
          else
          (zgi fuel x0_.start.1 s19.2.1 false r49.1).bind fun r59=>
          (bif !r59.1.2 then
           some (none,true)
           else
           (zb6 x0_.start.1 r59.1).bind fun r63=>
           k25 (true,r59.1,r63))))))
      (fun (s19:Bool×(List GDomain×Bool)×Vec 512 Int)=>
       next12 (s19.1,s19.2.1)) (x0_.list.length - 0) 0 (false,s12.2,r36))
     else
     k9 s12.2)) fuel (true,m_1)))
 (fun k2=>
  di (fun (i_5:Nat) (next4:(List GDomain×Bool)→Option ((Option (GProblem×(List GDomain×Bool)))×Bool)) (m_3:List GDomain×Bool)=>
   (bif !m_3.2 then
    some (none,true)
    else
    (zgi fuel x0_.start.1 m_3 true (cH l i_5)).bind fun r30=>
    next4 r30.1))
  (fun (m_3:List GDomain×Bool)=>
   k2 m_3) (l.length - 0) 0 x0_.start.2)
theorem zbB (F0:Frz)(w:World)(hF0:F0.At w)(x0_:GStore)(g0_:Nat)(k0_512:SK)(v0_512:Value)(L0_512:Ws)(hs0_512:SI x0_.start.1 x0_.start.2 k0_512 L0_512)(tf0_512:TbF F0 k0_512)(zf0_512:SzF F0 k0_512 v0_512 L0_512 (!x0_.start.2.2))(v0_513:Value)(c0_513:List (List Value))(h0_513:OwnD cG F0 1 c0_513 x0_.list)(l:List GChoice)(vl:Value)(hl:SlC F0 vl 2 (l.map cM))(htab:Tab w)(hO:Hp w (cZ [.row g0_ 144 ((x0_.domains.1.map U)++[.pointer (some ⟨k0_512.sp,0,none⟩),v0_513]), .sl v0_513 50 1 x0_.list.length c0_513.flatten]) [.row g0_ 144 ((x0_.domains.1.map U)++[.pointer (some ⟨k0_512.sp,0,none⟩),v0_513]), .sl v0_513 50 1 x0_.list.length c0_513.flatten] w)(hA:∀g,cZ [.row g0_ 144 ((x0_.domains.1.map U)++[.pointer (some ⟨k0_512.sp,0,none⟩),v0_513]), .sl v0_513 50 1 x0_.list.length c0_513.flatten] g→¬F0.S g)(hZ:¬cZ [.row g0_ 144 ((x0_.domains.1.map U)++[.pointer (some ⟨k0_512.sp,0,none⟩),v0_513]), .sl v0_513 50 1 x0_.list.length c0_513.flatten] 0)(fuel:Nat)(hfu:100000≤fuel)(r:(Option (GProblem×(List GDomain×Bool)))×Bool)(hr:za8 fuel x0_ l=some r):Calls Tryz.prog 119 #[.pointer (some ⟨g0_,0,none⟩),vl] w fun e w'=>((r.1).isSome=true→∃(y:SK×Value×Ws) (G:Frz),(SI (r.1.getD default).1 (r.1.getD default).2 y.1 y.2.2∧TbF G y.1)∧e= .returned (.tuple #[.pointer (some ⟨y.1.sp,0,none⟩), .bool r.2])∧FxM F0 w (cZ [.row g0_ 144 ((x0_.domains.1.map U)++[.pointer (some ⟨k0_512.sp,0,none⟩),v0_513]), .sl v0_513 50 1 x0_.list.length c0_513.flatten]) G [.row g0_ 144 ((x0_.domains.1.map U)++[.pointer (some ⟨k0_512.sp,0,none⟩),v0_513]), .sl v0_513 50 1 x0_.list.length c0_513.flatten,ej y.1 y.2.1 y.2.2 (!(r.1.getD default).2.2)] w')∧((r.1).isSome=false→∃(y:Unit) (G:Frz),(True)∧e= .returned (.tuple #[.pointer none, .bool r.2])∧FxM F0 w (cZ [.row g0_ 144 ((x0_.domains.1.map U)++[.pointer (some ⟨k0_512.sp,0,none⟩),v0_513]), .sl v0_513 50 1 x0_.list.length c0_513.flatten]) G [.row g0_ 144 ((x0_.domains.1.map U)++[.pointer (some ⟨k0_512.sp,0,none⟩),v0_513]), .sl v0_513 50 1 x0_.list.length c0_513.flatten] w'):=by
 have hk:=hr;unfold za8 at hk;haveI:=hl.oneC;haveI:=gN (hO.own (.sl v0_513 50 1 x0_.list.length c0_513.flatten) a7);have hmx0_513:=gW (hO.own (.sl v0_513 50 1 x0_.list.length c0_513.flatten) a7);obtain ⟨S0,F1,rfl,hS0,hp0⟩:=ga hF0 hO hA;have hM0:=hZ;have htk:∀ {hs:HS} {w':World},Hp w (cZ [.row g0_ 144 ((x0_.domains.1.map U)++[.pointer (some ⟨k0_512.sp,0,none⟩),v0_513]), .sl v0_513 50 1 x0_.list.length c0_513.flatten]) hs w'→Tab w':=fun hw=>htab.kept hw hZ;refine dq (hs:=[.row g0_ 144 ((x0_.domains.1.map U)++[.pointer (some ⟨k0_512.sp,0,none⟩),v0_513]), .sl v0_513 50 1 x0_.list.length c0_513.flatten, .fr F1]) Tryz.func119 rfl rfl rfl hp0 ?_;refine iA ?_;refine dG ?_;refine d5 ?_;refine q3w ?_;refine cN (d3 [2,0,1] [] [.row g0_ 144 ((x0_.domains.1.map U)++([.pointer (some ⟨k0_512.sp,0,none⟩),v0_513]:List Value)), .sl v0_513 50 1 x0_.list.length c0_513.flatten] rfl rfl rfl rfl a6 (fun w hw hw2 hF=>zj9 hs0_512 tf0_512 (zf0_512 w hF) hF (htk hw))) ?_;rintro _ _ ⟨⟨k19_,v19_⟩,F2,le1_2,⟨hs19,tf19⟩,rfl,rfl⟩;refine em ?_; (try dsimp only at hs19 tf19);refine kL ?_;refine cI (dA rfl rfl (SlC.mono hl le1_2) (List.length_map _)) ?_;have hm21:l.length≤9223372036854775807:=(List.length_map _)▸(SlC.mono hl le1_2).max;refine dP ?_;have hq:=eP hk;clear hk;obtain ⟨k2,hk2,hk⟩:=hq; (try dsimp only at hk);refine dj (ι:=(List GDomain×Bool)×Ws) (fun z=>[(0, .pointer (some ⟨g0_,0,none⟩)),(6, .pointer (some ⟨k19_.sp,0,none⟩))]) (fun z=>[ej k19_ v19_ z.2 (!z.1.2), .row g0_ 144 ((x0_.domains.1.map U)++[.pointer (some ⟨k0_512.sp,0,none⟩),v0_513]), .sl v0_513 50 1 x0_.list.length c0_513.flatten, .fr F2]) (fun z=>k2 z.1=some r∧SI x0_.start.1 z.1 k19_ z.2) ?_ ?_
 ·have hq:=fS hk;clear hk;obtain ⟨f4,kk4,hf4,hkk4,hk⟩:=hq;refine gg ?_;refine T.pick [0,2,3,1] rfl a6 ?_;refine T.loop (ι:=Nat×(List GDomain×Bool)×Ws) (fun z=>[(0, .pointer (some ⟨g0_,0,none⟩)),(6, .pointer (some ⟨k19_.sp,0,none⟩)),(20,vl),(21, .int .i64 (l.length:Int)),(22, .int .i64 (z.1:Int))]) (fun z=>[ej k19_ v19_ z.2.2 (!z.2.1.2), .row g0_ 144 ((x0_.domains.1.map U)++[.pointer (some ⟨k0_512.sp,0,none⟩),v0_513]), .sl v0_513 50 1 x0_.list.length c0_513.flatten, .fr F2]) (fun z=>di f4 kk4 (l.length - z.1) z.1 z.2.1=some r∧SI x0_.start.1 z.2.1 k19_ z.2.2) (fun z=>l.length - z.1) (0,x0_.start.2,L0_512) ?_ ?_ ?_ ?_
  ·exact ⟨hk,hs19⟩
  ·exact ld
  ·exact fv
  ·rintro ⟨i_5,m_3,Lm_3⟩ ⟨hk,hsm_3⟩; (try dsimp only at *);refine ei ?_;refine T.cond rfl (fun h6=>?_) (fun h6=>?_)
   ·have p6:=of_decide_eq_true h6;rw [fT a5] at hk;generalize hn4:di f4 kk4 (l.length - (i_5+1)) (i_5+1)=next4 at hk;rw [←hf4] at hk; (try dsimp only at hk);refine fq ?_;refine cI (dL (i:=i_5) rfl rfl rfl (SlC.mono hl le1_2) (List.length_map _) rfl a5) ?_;refine cI (fE 3 (i:=i_5) rfl rfl rfl (SlC.mono hl le1_2) a5) ?_;refine fQ ?_;rintro _ _ ⟨g8,rfl,rfl⟩;refine kr ?_;refine gX ?_;refine dd ?_;refine cN (cL rfl rfl rfl (fun w hw=>zeq hsm_3 tf19 (hw.get (i:=1) rfl) (hw.fr (i:=4) rfl) (htk hw))) ?_;refine ex ?_;refine TL.ns ?_;refine T.cond rfl (fun h7=>?_) (fun h7=>?_)
    ·replace hk:=dy hk h7;refine iA ?_;refine q1h ?_;obtain rfl:=Option.some.inj hk;exact en rfl rfl rfl (fun w' hw=>⟨fun h=>(by cases h),fun _=>⟨⟨⟩,F2.toFrz,trivial,rfl,cX (hw.pick (idx:=[2,3,4]) rfl a6) hS0 le1_2⟩⟩)
    ·replace hk:=dz hk h7;refine kl ?_;have hq:=dM hk;clear hk;obtain ⟨r30,hr30,hk⟩:=hq; (try dsimp only at hk);refine fo ?_;refine gY ?_;refine cN (j0 1 rfl rfl rfl rfl (fun w hw=>zkh hsm_3 tf19 (hw.get (i:=1) rfl) (hw.fr (i:=4) rfl) (hw.apartF (i:=1) (j:=4) rfl rfl a6) (htk hw) hfu (cH l i_5) hr30)) ?_;rintro _ _ ⟨L30_,hs30,rfl,rfl⟩;refine kC ?_;rw [←hn4] at hk;refine K.pick [1,2,3,4] rfl a6 ?_;exact K.next ((i_5+1),r30.1,L30_) ⟨hk,hs30⟩ a9 (.c (.c (.c (.c (.c .nil))))) (List.Sublist.refl _)
   ·have p6:=of_decide_eq_false h6;rw [fR a5,←hkk4] at hk; (try dsimp only at hk);refine ff ?_;exact c4 (m_3,Lm_3) ⟨hk,hsm_3⟩ (.c (.c .nil)) (List.Sublist.refl _)
 ·rintro ⟨m_1,Lm_1⟩ ⟨hk,hsm_1⟩; (try dsimp only at *);rw [←hk2] at hk; (try dsimp only at hk);refine iJ ?_;refine dP ?_;have hq:=eP hk;clear hk;obtain ⟨k9,hk9,hk⟩:=hq; (try dsimp only at hk);refine dj (ι:=(List GDomain×Bool)×Ws×FzB w (cZ [.row g0_ 144 ((x0_.domains.1.map U)++[.pointer (some ⟨k0_512.sp,0,none⟩),v0_513]), .sl v0_513 50 1 x0_.list.length c0_513.flatten]) S0) (fun z=>[(6, .pointer (some ⟨k19_.sp,0,none⟩))]) (fun z=>[ej k19_ v19_ z.2.1 (!z.1.2), .row g0_ 144 ((x0_.domains.1.map U)++[.pointer (some ⟨k0_512.sp,0,none⟩),v0_513]), .sl v0_513 50 1 x0_.list.length c0_513.flatten, .fr z.2.2]) (fun z=>k9 z.1=some r∧SI x0_.start.1 z.1 k19_ z.2.1∧F2.toFrz.Le z.2.2.toFrz) ?_ ?_
  ·have hq:=zf4 hk;clear hk;obtain ⟨f12,hf12,hk⟩:=hq;refine gg ?_;refine T.loop (ι:=Nat×Bool×(List GDomain×Bool)×Ws×FzB w (cZ [.row g0_ 144 ((x0_.domains.1.map U)++[.pointer (some ⟨k0_512.sp,0,none⟩),v0_513]), .sl v0_513 50 1 x0_.list.length c0_513.flatten]) S0) (fun z=>[(0, .pointer (some ⟨g0_,0,none⟩)),(6, .pointer (some ⟨k19_.sp,0,none⟩)),(9, .bool z.2.1)]) (fun z=>[ej k19_ v19_ z.2.2.2.1 (!z.2.2.1.2), .row g0_ 144 ((x0_.domains.1.map U)++[.pointer (some ⟨k0_512.sp,0,none⟩),v0_513]), .sl v0_513 50 1 x0_.list.length c0_513.flatten, .fr z.2.2.2.2]) (fun z=>kg f12 z.1 (z.2.1,z.2.2.1)=some r∧SI x0_.start.1 z.2.2.1 k19_ z.2.2.2.1∧F2.toFrz.Le z.2.2.2.2.toFrz) (fun z=>z.1) (fuel,true,m_1,Lm_1,F2) ?_ ?_ ?_ ?_
   ·exact ⟨hk,hsm_1,(Frz.Le.refl _)⟩
   ·exact q4a
   ·exact fv
   ·rintro ⟨m_13,changed_10,m_11,Lm_11,F4⟩ ⟨hk,hsm_11,le2_4⟩; (try dsimp only at *);have le1_4:=le1_2.trans le2_4;have hq:=zgE hk;clear hk;obtain ⟨m_13',rfl,hk⟩:=hq;generalize hn12:kg f12 m_13'=next12 at hk;rw [←hf12] at hk; (try dsimp only at hk);refine iJ ?_;refine dP ?_;refine T.cond rfl (fun h14=>?_) (fun h14=>?_)
    ·replace hk:=dy hk h14;refine T.skip (K.seq (T.block (T.seq (de ?_))));refine dd ?_;refine cN (cL rfl rfl rfl (fun w hw=>zeq hsm_11 (tf19.mono le2_4) (hw.get (i:=0) rfl) (hw.fr (i:=3) rfl) (htk hw))) ?_;refine ex ?_;refine TL.ns ?_;refine T.cond rfl (fun h15=>?_) (fun h15=>?_)
     ·replace hk:=dy hk h15;refine iA ?_;refine TL.ns (T.ret (cQ (fy (cQ (fy (cQ ?_))))));obtain rfl:=Option.some.inj hk;exact en rfl rfl rfl (fun w' hw=>⟨fun h=>(by cases h),fun _=>⟨⟨⟩,F4.toFrz,trivial,rfl,cX (hw.pick (idx:=[1,2,3]) rfl a6) hS0 le1_4⟩⟩)
     ·replace hk:=dz hk h15;refine gV ?_;refine kx ?_;have hq:=dM hk;clear hk;obtain ⟨r36,hr36,hk⟩:=hq; (try dsimp only at hk);refine fo ?_;refine cN (d3 [0,3,1,2] [ej k19_ v19_ Lm_11 (!m_11.2)] [.row g0_ 144 ((x0_.domains.1.map U)++([.pointer (some ⟨k0_512.sp,0,none⟩),v0_513]:List Value)), .sl v0_513 50 1 x0_.list.length c0_513.flatten] rfl rfl rfl rfl a6 (fun w hw hw2 hF=>zdL _ w hF x0_.start.1 m_11 k19_ v19_ Lm_11 hsm_11 (tf19.mono le2_4) (htk hw) hw2.takes.1 hw2.takes.2 (hw2.takes0 hM0 htab.pos) r36 hr36)) ?_;rintro _ _ ⟨⟨⟩,F5,le4_5, -,rfl,rfl⟩;refine em ?_;have le1_5:=le1_4.trans le4_5;have le2_5:=le2_4.trans le4_5;refine q3Q ?_;rintro _ _ ⟨g10,rfl,rfl⟩;refine q1n ?_;refine dG ?_;refine d5 ?_;refine eZ ?_;refine cI (cS 3 rfl rfl rfl (kP a5 (zdD Vec.len (show [.pointer (some ⟨k0_512.sp,0,none⟩),v0_513][1]?=some _ from rfl)))) ?_;refine cI (jk 4 rfl rfl rfl) ?_;refine dP ?_;have hq:=fS hk;clear hk;obtain ⟨f19,kk19,hf19,hkk19,hk⟩:=hq;refine gg ?_;refine T.pick [1,0,3,4,2] rfl a6 ?_;refine T.loop (ι:=Nat×Bool×(List GDomain×Bool)×Ws×Vec 512 Int×FzB w (cZ [.row g0_ 144 ((x0_.domains.1.map U)++[.pointer (some ⟨k0_512.sp,0,none⟩),v0_513]), .sl v0_513 50 1 x0_.list.length c0_513.flatten]) S0) (fun z=>[(0, .pointer (some ⟨g0_,0,none⟩)),(6, .pointer (some ⟨k19_.sp,0,none⟩)),(9, .bool z.2.1),(10, .pointer (some ⟨g10,0,none⟩)),(40,v0_513),(41, .int .i64 (x0_.list.length:Int)),(42, .int .i64 (z.1:Int))]) (fun z=>[ej k19_ v19_ z.2.2.2.1 (!z.2.2.1.2), .row g10 204 (z.2.2.2.2.1.1.map vI), .row g0_ 144 ((x0_.domains.1.map U)++[.pointer (some ⟨k0_512.sp,0,none⟩),v0_513]), .sl v0_513 50 1 x0_.list.length c0_513.flatten, .fr z.2.2.2.2.2]) (fun z=>di f19 kk19 (x0_.list.length - z.1) z.1 (z.2.1,z.2.2.1,z.2.2.2.2.1)=some r∧SI x0_.start.1 z.2.2.1 k19_ z.2.2.2.1∧F5.toFrz.Le z.2.2.2.2.2.toFrz) (fun z=>x0_.list.length - z.1) (0,false,m_11,Lm_11,r36,F5) ?_ ?_ ?_ ?_
      ·exact ⟨hk,hsm_11,(Frz.Le.refl _)⟩
      ·exact q4c
      ·exact fv
      ·rintro ⟨i_20,changed_16,m_17,Lm_17,c_18,F6⟩ ⟨hk,hsm_17,le5_6⟩; (try dsimp only at *);have le1_6:=le1_5.trans le5_6;have le2_6:=le2_5.trans le5_6;refine ei ?_;refine T.cond rfl (fun h21=>?_) (fun h21=>?_)
       ·have p21:=of_decide_eq_true h21;rw [fT a5] at hk;generalize hn19:di f19 kk19 (x0_.list.length - (i_20+1)) (i_20+1)=next19 at hk;rw [←hf19] at hk; (try dsimp only at hk);refine iR ?_;have hq:=eP hk;clear hk;obtain ⟨k25,hk25,hk⟩:=hq; (try dsimp only at hk);refine dj (ι:=Bool×(List GDomain×Bool)×Ws×Vec 512 Int×FzB w (cZ [.row g0_ 144 ((x0_.domains.1.map U)++[.pointer (some ⟨k0_512.sp,0,none⟩),v0_513]), .sl v0_513 50 1 x0_.list.length c0_513.flatten]) S0) (fun z=>[(0, .pointer (some ⟨g0_,0,none⟩)),(6, .pointer (some ⟨k19_.sp,0,none⟩)),(9, .bool z.1),(10, .pointer (some ⟨g10,0,none⟩)),(40,v0_513),(41, .int .i64 (x0_.list.length:Int)),(42, .int .i64 (i_20:Int))]) (fun z=>[ej k19_ v19_ z.2.2.1 (!z.2.1.2), .row g10 204 (z.2.2.2.1.1.map vI), .row g0_ 144 ((x0_.domains.1.map U)++[.pointer (some ⟨k0_512.sp,0,none⟩),v0_513]), .sl v0_513 50 1 x0_.list.length c0_513.flatten, .fr z.2.2.2.2]) (fun z=>k25 (z.1,z.2.1,z.2.2.2.1)=some r∧SI x0_.start.1 z.2.1 k19_ z.2.2.1∧F6.toFrz.Le z.2.2.2.2.toFrz) ?_ ?_
        ·refine T.block (de ?_);refine cI (mg 3 (i:=i_20) rfl rfl rfl rfl rfl a5) ?_;refine cI (Yv.bR 3 rfl rfl rfl a5 ((zeu _ (OwnD.mono (rep:=cG) (fun _ _ _ _=>R_List_GChoice.mono) h0_513 le1_6).2.1 i_20 (by have:=(OwnD.mono (rep:=cG) (fun _ _ _ _=>R_List_GChoice.mono) h0_513 le1_6).1;omega) 0 a6).trans (R_List_GChoice.c0 ((OwnD.mono (rep:=cG) (fun _ _ _ _=>R_List_GChoice.mono) h0_513 le1_6).2.2 i_20 a5)).1)) ?_;have hd45_0:=(R_List_GChoice.c0 ((OwnD.mono (rep:=cG) (fun _ _ _ _=>R_List_GChoice.mono) h0_513 le1_6).2.2 i_20 a5)).2;haveI:=hd45_0.oneC;refine kx ?_;have hq:=dM hk;clear hk;obtain ⟨r49,hr49,hk⟩:=hq; (try dsimp only at hk);refine gQ ?_;refine cN (dl [0,1,4,2,3] [ej k19_ v19_ Lm_17 (!m_17.2), .row g10 204 (c_18.1.map vI)] [.row g0_ 144 ((x0_.domains.1.map U)++([.pointer (some ⟨k0_512.sp,0,none⟩),v0_513]:List Value)), .sl v0_513 50 1 x0_.list.length c0_513.flatten] rfl rfl rfl rfl a6 (fun w hw hw2 hF=>zfB _ w hF x0_.start.1 m_17 k19_ v19_ Lm_17 hsm_17 (tf19.mono le2_6) c_18 g10 (cH x0_.list i_20) (cH (cH c0_513 i_20) 0) hd45_0 (htk hw) hw2.takes.1 hw2.takes.2 (hw2.takes0 hM0 htab.pos) r49 hr49)) ?_;rintro _ _ ⟨⟨⟩, -,rfl,rfl⟩;refine em ?_;refine eM ?_;refine fQ ?_;rintro _ _ ⟨g13,rfl,rfl⟩;refine kr ?_;refine jd ?_;refine iK ?_;refine T.cond rfl (fun h26=>?_) (fun h26=>?_)
         ·replace hk:=dy hk h26;refine T.exit (fg (it ?_));refine K.pick [1,2,4,5,3] rfl a6 ?_;exact c4 (changed_16,m_17,Lm_17,c_18,F6) ⟨hk,hsm_17,(Frz.Le.refl _)⟩ (.c (.c (.c (.c (.c (.c (.c .nil))))))) (List.Sublist.refl _)
         ·replace hk:=dz hk h26;refine jR ?_;refine dd ?_;refine cI (dA rfl rfl hd45_0 (List.length_map _)) ?_;have hm55:(cH x0_.list i_20).length≤9223372036854775807:=(List.length_map _)▸hd45_0.max;refine dP ?_;refine T.cond rfl (fun h27=>?_) (fun h27=>?_)
          ·have p27:=of_decide_eq_true h27;replace hk:=dy hk h27;refine iA ?_;refine TL.ns (T.ret (cQ (fy (cQ (cQ (fy (fy (cQ (fy (cQ ?_))))))))));obtain rfl:=Option.some.inj hk;exact q4L
          ·have p27:=of_decide_eq_false h27;replace hk:=dz hk h27;refine iR ?_;have hq:=dM hk;clear hk;obtain ⟨r59,hr59,hk⟩:=hq; (try dsimp only at hk);refine fo ?_;refine gY ?_;refine cN (j0 1 rfl rfl rfl rfl (fun w hw=>zj6 hsm_17 (tf19.mono le2_6) (hw.get (i:=1) rfl) (hw.fr (i:=3) rfl) (hw.apartF (i:=1) (j:=3) rfl rfl a6) (htk hw) hfu r49.1 hr59)) ?_;rintro _ _ ⟨L59_,hs59,rfl,rfl⟩;refine gX ?_;refine dd ?_;refine cN (cL rfl rfl rfl (fun w hw=>zeq hs59 (tf19.mono le2_6) (hw.get (i:=1) rfl) (hw.fr (i:=3) rfl) (htk hw))) ?_;refine ex ?_;refine TL.ns ?_;refine T.cond rfl (fun h28=>?_) (fun h28=>?_)
           ·replace hk:=dy hk h28;refine iA ?_;refine TL.ns (T.ret (cQ (fy (cQ (cQ (fy (fy (cQ (fy (cQ ?_))))))))));obtain rfl:=Option.some.inj hk;exact q4L
           ·replace hk:=dz hk h28;refine kl ?_;have hq:=dM hk;clear hk;obtain ⟨r63,hr63,hk⟩:=hq; (try dsimp only at hk);refine fo ?_;refine cN (d3 [1,3,0,2,4,5] [ej k19_ v19_ L59_ (!r59.1.2)] [.row g13 68 [.int .i64 r49.1.Station, .int .i64 r49.1.Channel], .row g10 204 (c_18.1.map vI), .row g0_ 144 ((x0_.domains.1.map U)++([.pointer (some ⟨k0_512.sp,0,none⟩),v0_513]:List Value)), .sl v0_513 50 1 x0_.list.length c0_513.flatten] rfl rfl rfl rfl a6 (fun w hw hw2 hF=>zdL _ w hF x0_.start.1 r59.1 k19_ v19_ L59_ hs59 (tf19.mono le2_6) (htk hw) hw2.takes.1 hw2.takes.2 (hw2.takes0 hM0 htab.pos) r63 hr63)) ?_;rintro _ _ ⟨⟨⟩,F8,le6_8, -,rfl,rfl⟩;refine em ?_;refine d7 (dr 3 rfl rfl rfl rfl Vec.len (Vec.len.trans Vec.len.symm)) ?_;refine lJ ?_;refine TL.nil (fh ?_);refine K.pick [0,3,4,5,1] rfl a6 ?_;exact c4 (true,r59.1,L59_,r63,F8) ⟨hk,hs59,le6_8⟩ (.c (.c (.c (.c (.c (.c (.c .nil))))))) (List.Sublist.refl _)
        ·rintro ⟨changed_22,m_23,Lm_23,c_24,F7⟩ ⟨hk,hsm_23,le6_7⟩; (try dsimp only at *);rw [←hk25] at hk; (try dsimp only at hk);have le5_7:=le5_6.trans le6_7;refine ed ?_;refine jS ?_;rw [←hn19] at hk;exact K.next ((i_20+1),changed_22,m_23,Lm_23,c_24,F7) ⟨hk,hsm_23,le5_7⟩ a9 (.c (.c (.c (.c (.c (.c (.c .nil))))))) (List.Sublist.refl _)
       ·have p21:=of_decide_eq_false h21;rw [fR a5,←hkk19] at hk; (try dsimp only at hk);refine T.exit (fg (fg (it (fh ?_))));rw [←hn12] at hk;refine K.pick [0,2,3,4] rfl a6 ?_;exact K.next (m_13',changed_16,m_17,Lm_17,F6) ⟨hk,hsm_17,le2_6⟩ a9 (.c (.c (.c .nil))) (List.Sublist.refl _)
    ·replace hk:=dz hk h14;refine ff ?_;exact c4 (m_11,Lm_11,F4) ⟨hk,hsm_11,le2_4⟩ (.c .nil) (List.Sublist.refl _)
  ·rintro ⟨m_8,Lm_8,F3⟩ ⟨hk,hsm_8,le2_3⟩; (try dsimp only at *);rw [←hk9] at hk; (try dsimp only at hk);have le1_3:=le1_2.trans le2_3;refine de ?_;refine eM ?_;refine fJ ?_;obtain rfl:=Option.some.inj hk;exact en rfl rfl rfl (fun w' hw=>⟨fun _=>⟨(k19_,v19_,Lm_8),F3.toFrz,⟨hsm_8,(tf19.mono le2_3)⟩,rfl,cX (hw.pick (idx:=[1,2,0,3]) rfl a6) hS0 le1_3⟩,fun h=>(by cases h)⟩)
def za6 (fuel:Nat)(x0_:GStore)(g_:List GChoice):Option (Bool×Int):=
 (bif (zay x0_) then
  some (false,1)
  else
  (zaT x0_ g_).bind fun r12=>
  (bif !r12 then
   some (false,2)
   else
   (za8 fuel x0_ g_).bind fun r17=>
   (bif (r17.1).isSome then
    some (r17.2,0)
    else
    some (r17.2,0))))
theorem zcb (F0:Frz)(w:World)(hF0:F0.At w)(x0_:GStore)(g0_:Nat)(k0_512:SK)(v0_512:Value)(L0_512:Ws)(hs0_512:SI x0_.start.1 x0_.start.2 k0_512 L0_512)(tf0_512:TbF F0 k0_512)(zf0_512:SzF F0 k0_512 v0_512 L0_512 (!x0_.start.2.2))(v0_513:Value)(c0_513:List (List Value))(h0_513:OwnD cG F0 1 c0_513 x0_.list)(g_:List GChoice)(vg_:Value)(hg_:SlC F0 vg_ 2 (g_.map cM))(htab:Tab w)(hO:Hp w (cZ [.row g0_ 144 ((x0_.domains.1.map U)++[.pointer (some ⟨k0_512.sp,0,none⟩),v0_513]), .sl v0_513 50 1 x0_.list.length c0_513.flatten]) [.row g0_ 144 ((x0_.domains.1.map U)++[.pointer (some ⟨k0_512.sp,0,none⟩),v0_513]), .sl v0_513 50 1 x0_.list.length c0_513.flatten] w)(hA:∀g,cZ [.row g0_ 144 ((x0_.domains.1.map U)++[.pointer (some ⟨k0_512.sp,0,none⟩),v0_513]), .sl v0_513 50 1 x0_.list.length c0_513.flatten] g→¬F0.S g)(hZ:¬cZ [.row g0_ 144 ((x0_.domains.1.map U)++[.pointer (some ⟨k0_512.sp,0,none⟩),v0_513]), .sl v0_513 50 1 x0_.list.length c0_513.flatten] 0)(fuel:Nat)(hfu:100000≤fuel)(r:Bool×Int)(hr:za6 fuel x0_ g_=some r):Calls Tryz.prog 75 #[.pointer (some ⟨g0_,0,none⟩),vg_] w fun e w'=>∃(y:Unit) (G:Frz),(True)∧e= .returned (.tuple #[.bool r.1, .int .i64 r.2])∧FxM F0 w (cZ [.row g0_ 144 ((x0_.domains.1.map U)++[.pointer (some ⟨k0_512.sp,0,none⟩),v0_513]), .sl v0_513 50 1 x0_.list.length c0_513.flatten]) G [.row g0_ 144 ((x0_.domains.1.map U)++[.pointer (some ⟨k0_512.sp,0,none⟩),v0_513]), .sl v0_513 50 1 x0_.list.length c0_513.flatten] w':=by
 have hk:=hr;unfold za6 at hk;haveI:=hg_.oneC;haveI:=gN (hO.own (.sl v0_513 50 1 x0_.list.length c0_513.flatten) a7);have hmx0_513:=gW (hO.own (.sl v0_513 50 1 x0_.list.length c0_513.flatten) a7);obtain ⟨S0,F1,rfl,hS0,hp0⟩:=ga hF0 hO hA;have hM0:=hZ;have htk:∀ {hs:HS} {w':World},Hp w (cZ [.row g0_ 144 ((x0_.domains.1.map U)++[.pointer (some ⟨k0_512.sp,0,none⟩),v0_513]), .sl v0_513 50 1 x0_.list.length c0_513.flatten]) hs w'→Tab w':=fun hw=>htab.kept hw hZ;refine dq (hs:=[.row g0_ 144 ((x0_.domains.1.map U)++[.pointer (some ⟨k0_512.sp,0,none⟩),v0_513]), .sl v0_513 50 1 x0_.list.length c0_513.flatten, .fr F1]) Tryz.func75 rfl rfl rfl hp0 ?_;refine iA ?_;refine gX ?_;refine dd ?_;refine q01 ?_;rintro _ _ ⟨⟨⟩, -,rfl,rfl⟩;refine em ?_;refine TL.ns ?_;refine T.cond rfl (fun h1=>?_) (fun h1=>?_)
 ·replace hk:=dy hk h1;refine ko ?_;obtain rfl:=Option.some.inj hk;exact q4M
 ·replace hk:=dz hk h1;refine q3h ?_;have hq:=dM hk;clear hk;obtain ⟨r12,hr12,hk⟩:=hq; (try dsimp only at hk);refine gQ ?_;refine cN (dl [0,1,2] [.row g0_ 144 ((x0_.domains.1.map U)++([.pointer (some ⟨k0_512.sp,0,none⟩),v0_513]:List Value)), .sl v0_513 50 1 x0_.list.length c0_513.flatten] [] rfl rfl rfl rfl a6 (fun w hw hw2 hF=>zbH _ w hF x0_ g0_ k0_512 v0_512 L0_512 hs0_512 tf0_512 zf0_512 v0_513 c0_513 h0_513 g_ vg_ hg_ hw2.takes.1 hw2.takes.2 r12 hr12)) ?_;rintro _ _ ⟨⟨⟩, -,rfl,rfl⟩;refine lC ?_;refine T.cond rfl (fun h2=>?_) (fun h2=>?_)
  ·replace hk:=dy hk h2;refine ko ?_;obtain rfl:=Option.some.inj hk;exact q4M
  ·replace hk:=dz hk h2;refine iR ?_;have hq:=dM hk;clear hk;obtain ⟨r17,hr17,hk⟩:=hq; (try dsimp only at hk);refine iH ((r17.1).isSome) (fun h3=>?_) (fun h3=>?_)
   ·replace hk:=dy hk h3;refine gQ ?_;refine cN (d3 [0,1,2] [.row g0_ 144 ((x0_.domains.1.map U)++([.pointer (some ⟨k0_512.sp,0,none⟩),v0_513]:List Value)), .sl v0_513 50 1 x0_.list.length c0_513.flatten] [] rfl rfl rfl rfl a6 (fun w hw hw2 hF=>(zbB _ w hF x0_ g0_ k0_512 v0_512 L0_512 hs0_512 tf0_512 zf0_512 v0_513 c0_513 h0_513 g_ vg_ hg_ (htk hw) hw2.takes.1 hw2.takes.2 (hw2.takes0 hM0 htab.pos) fuel hfu r17 hr17).mono (fun e w' hp=>hp.1 h3))) ?_;rintro _ _ ⟨⟨k17_n,v17_n,L17_n⟩,F2,le1_2,⟨hs17_n,tf17_n⟩,rfl,rfl⟩;refine em ?_; (try dsimp only at hs17_n tf17_n);refine TL.run 5 rfl ?_;refine dG ?_;refine eM ?_;refine fJ ?_;obtain rfl:=Option.some.inj hk;exact en rfl rfl rfl (fun w' hw=>⟨⟨⟩,F2.toFrz,trivial,rfl,cX (hw.pick (idx:=[0,1,3]) rfl a6) hS0 le1_2⟩)
   ·replace hk:=dz hk h3;refine gQ ?_;refine cN (d3 [0,1,2] [.row g0_ 144 ((x0_.domains.1.map U)++([.pointer (some ⟨k0_512.sp,0,none⟩),v0_513]:List Value)), .sl v0_513 50 1 x0_.list.length c0_513.flatten] [] rfl rfl rfl rfl a6 (fun w hw hw2 hF=>(zbB _ w hF x0_ g0_ k0_512 v0_512 L0_512 hs0_512 tf0_512 zf0_512 v0_513 c0_513 h0_513 g_ vg_ hg_ (htk hw) hw2.takes.1 hw2.takes.2 (hw2.takes0 hM0 htab.pos) fuel hfu r17 hr17).mono (fun e w' hp=>hp.2 h3))) ?_;rintro _ _ ⟨⟨⟩,F3,le1_3, -,rfl,rfl⟩;refine em ?_;refine TL.run 5 rfl ?_;refine dG ?_;refine eM ?_;refine fJ ?_;obtain rfl:=Option.some.inj hk;exact en rfl rfl rfl (fun w' hw=>⟨⟨⟩,F3.toFrz,trivial,rfl,cX (hw.pick (idx:=[0,1,2]) rfl a6) hS0 le1_3⟩)
def zdR (fuel:Nat)(p:GProblem):Option (Option GStore×Int):=
 (bif kK p then
  (zbf fuel p p.Domains).bind fun r8=>
  (zcD p).bind fun r15=>
  some (some (GStore.mk r15 (p,r8) []),0)
  else
  some (none,2))
theorem zfe (F0:Frz)(w:World)(hF0:F0.At w)(p:GProblem)(vp_0:Value)(cp_0:List (List Value))(hp_0:SlD cJ F0 vp_0 2 cp_0 p.Domains)(vp_1:Value)(hp_1:SlC F0 vp_1 5 (p.Rules.Pairs.map c8))(vp_2:Value)(hp_2:SlC F0 vp_2 5 (p.Rules.Loads.map da))(vp_3:Value)(hp_3:SlC F0 vp_3 4 (p.Rules.Caps.map dh))(htab:Tab w)(fuel:Nat)(hfu:100000≤fuel)(r:Option GStore×Int)(hr:zdR fuel p=some r):Calls Tryz.prog 74 #[.agg [vp_0,vp_1,vp_2,vp_3].toArray] w fun e w'=>((r.1).isSome=true→∃(y:Nat×SK×Value×Ws×Value×List (List Value)) (G:Frz),(SI ((r.1.getD default).start).1 ((r.1.getD default).start).2 y.2.1 y.2.2.2.1∧TbF G y.2.1∧SzF G y.2.1 y.2.2.1 y.2.2.2.1 (!((r.1.getD default).start).2.2)∧OwnD cG G 1 y.2.2.2.2.2 ((r.1.getD default).list))∧e= .returned (.tuple #[.pointer (some ⟨y.1,0,none⟩), .int .i64 r.2])∧FxM F0 w (cZ []) G [.row y.1 144 ((((r.1.getD default).domains).1.map U)++[.pointer (some ⟨y.2.1.sp,0,none⟩),y.2.2.2.2.1]), .sl y.2.2.2.2.1 50 1 ((r.1.getD default).list).length y.2.2.2.2.2.flatten] w')∧((r.1).isSome=false→∃(y:Unit) (G:Frz),(True)∧e= .returned (.tuple #[.pointer none, .int .i64 r.2])∧FxM F0 w (cZ []) G [] w'):=by
 have hk:=hr;unfold zdR at hk;haveI:=hp_0.1.oneC;haveI:=hp_1.oneC;haveI:=hp_2.oneC;haveI:=hp_3.oneC;obtain ⟨S0,F1,rfl,hS0,hp0⟩:=fK hF0;rw [zem];have hM0:¬(fun _:Nat=>False) 0:=fun h=>h;have htk:∀ {hs:HS} {w':World},Hp w (fun _=>False) hs w'→Tab w':=fun hw=>htab.keptF hw;refine dq Tryz.func74 rfl rfl rfl hp0 ?_;refine kA ?_;rintro _ _ ⟨g1,rfl,rfl⟩;refine d5 ?_;refine i3 ?_;refine iH (kK p) (fun h1=>?_) (fun h1=>?_)
 ·replace hk:=dy hk h1;have hq:=dM hk;clear hk;obtain ⟨r8,hr8,hk⟩:=hq; (try dsimp only at hk);refine ed ?_;refine gY ?_;refine cN (d3 [1,0] [] [.row g1 29 [vp_0,vp_1,vp_2,vp_3]] rfl rfl rfl rfl a6 (fun w hw hw2 hF=>zmW (p:=p) hF ⟨hp_0,hp_1,hp_2,hp_3⟩ (htk hw) h1 hfu hr8)) ?_;rintro _ _ ⟨⟨k8_,v8_,L8_⟩,F2,le1_2,⟨hs8,tf8⟩,rfl,rfl⟩;refine em ?_; (try dsimp only at hs8 tf8);refine q1T ?_;refine ii rfl rfl ?_;refine iR ?_;refine iU (fun w hw=>hw.freezeSt (i:=1) (j:=0) a6 rfl rfl) ?_;rintro F3 ⟨le2_3,zf3⟩;refine gU ?_;have le1_3:=le1_2.trans le2_3;have hq:=dM hk;clear hk;obtain ⟨r15,hr15,hk⟩:=hq; (try dsimp only at hk);refine q2e ?_;refine cN (cL rfl rfl rfl (fun w hw=>zfi _ w (hw.fr (i:=0) rfl) p vp_0 cp_0 (SlD.mono (rep:=cJ) (fun _ _ _ _=>GDomain.mono) hp_0 le1_3) vp_1 (SlC.mono hp_1 le1_3) vp_2 (SlC.mono hp_2 le1_3) vp_3 (SlC.mono hp_3 le1_3) r15 hr15)) ?_;refine lJ ?_;refine cI (Yv.bT rfl rfl (l0:=(((Vec.fill 512 (0#64)).1.map U)++[.pointer none,(.slice none 0 0)])) (l:=((r15.1.map U)++[.pointer (some ⟨k8_.sp,0,none⟩),(.slice none 0 0)])) a8 (zdV (off:=0) a8 rfl Vec.len (zgq (Vec.len.trans Vec.len.symm)) (by simp only [Nat.zero_add,Vec.len];rw [(zc5 Vec.len (show List.length _=2 from rfl))];decide) (zdV (off:=512) a8 (OneC.cells inferInstance) rfl (ze2 (off:=512) (by rw [(zc5 Vec.len (show List.length _=2 from rfl))]; (try simp only [List.length_cons,List.length_nil]);decide) (zgd (by rfl) (zgv Vec.len (rfl:([.pointer none,(.slice none 0 0)]:List Value).set 0 _=_)))) (by rw [(zc5 Vec.len (show List.length _=2 from rfl))]; (try simp only [List.length_cons,List.length_nil]);decide) rfl))) ?_;refine q3Z ?_;rintro _ _ ⟨g18,rfl,rfl⟩;refine TL.slNil 50 1 ?_;refine ji ?_;obtain rfl:=Option.some.inj hk;exact en rfl rfl rfl (fun w' hw=>⟨fun _=>⟨(g18,k8_,v8_,L8_,(.slice none 0 0),[]),F3.toFrz,⟨hs8,(tf8.mono le2_3),zf3,(OwnD.nil _ _ 1)⟩,rfl,cX (hw.pick (idx:=[1,0,2]) rfl a6) hS0 le1_3⟩,fun h=>(by cases h)⟩)
 ·replace hk:=dz hk h1;refine ed ?_;refine gY ?_;refine cN (cL rfl rfl rfl (fun w hw=>zjS (p:=p) (hw.fr (i:=1) rfl) ⟨hp_0,hp_1,hp_2,hp_3⟩ h1)) ?_;refine ex ?_;refine q1T ?_;refine ll rfl rfl ?_;refine de ?_;refine eM ?_;refine jK ?_;obtain rfl:=Option.some.inj hk;exact en rfl rfl rfl (fun w' hw=>⟨fun h=>(by cases h),fun _=>⟨⟨⟩,F1.toFrz,trivial,rfl,cX (hw.pick (idx:=[1]) rfl a6) hS0 (Frz.Le.refl _)⟩⟩)
def orK (k:IntKind)(a b:Int):Int:=k.wrap ((BitVec.ofInt k.bits a ||| BitVec.ofInt k.bits b).toNat:Int)
def andK (k:IntKind)(a b:Int):Int:=k.wrap ((BitVec.ofInt k.bits a &&& BitVec.ofInt k.bits b).toNat:Int)
def u8s (xs:List Int):List UInt8:=xs.map fun n=>UInt8.ofNat n.toNat
theorem zmJ (z:Int):IntKind.u64.wrap z=((BitVec.ofInt 64 z).toNat:Int):=by
 rw [BitVec.toNat_ofInt];simp only [IntKind.wrap,IntKind.signed,IntKind.bits,Bool.false_and];simp;omega
theorem zlB {α:Type}[Inhabited α]{enc:α→List Value}{size:Nat}(he:∀y,(enc y).length=size)(hs:0<size)(x:α)(n:Nat):(madeCells (enc x).toArray (n*size)).toList=(List.replicate n x).flatMap enc:=by
 apply List.ext_getElem?;intro i; (have hl:((List.replicate n x).flatMap enc).length=n*size:=by rw [zlC enc size he];simp);by_cases hi:i<n*size
 ·have hq:i / size<n:=Nat.div_lt_of_lt_mul (by rw [Nat.mul_comm];exact hi);have hj:i % size<size:=Nat.mod_lt _ hs;have e:i=i / size*size+i % size:=(Nat.div_add_mod' i size).symm
  have e2:((List.replicate n x).flatMap enc)[i]?=(enc x)[i % size]?:=by
   conv=>lhs;rw [e]
   rw [zew enc size he _ _ (by simpa using hq) _ hj];simp
  rw [e2]; (have hj2:i % size<(enc x).length:=by rw [he];exact hj);simp [madeCells,hi,he,List.getElem?_eq_getElem hj2]
 ·rw [List.getElem?_eq_none (by simp [madeCells];omega),List.getElem?_eq_none (by rw [hl];omega)]
section
variable {P:Program}{n:Nat}{B D:World}{M S0:Nat→Prop}{fs:dH}{hs:HS}{o:Oper}{v:Value}
theorem Ew.cc {α : Type} [Inhabited α] {t e : TypeId} {size bytes n' : Nat} {z : List Value} {x y : Operand} {q q' : IntKind} {xi : Int} {enc : α → List Value} {u : α} [hT : TyE P t e size bytes z] (ho : o.op = .makeSlice t x y) (hx : ev fs x = some (.int q xi)) (hy : ev fs y = some (.int q' xi)) (hn : xi = (n' : Int)) (hr : db n' bytes) (hb : 0 < bytes) (hp : 0 < size) (he : ∀ v, (enc v).length = size) (hz : enc u = z) :
    Ew P n B M fs hs o (fun v hs' => OneC v ∧ hs' = .sl v e size (List.replicate n' u).length ((List.replicate n' u).flatMap enc) :: hs) := fun F hF Q K a w ha hw k => by
  have hle : n' ≤ 140737488355328 := Nat.le_trans (Nat.le_mul_of_pos_right _ hb) hr; refine Ew.makeSlice ho hx hy hn hn a5 (by rw [Nat.mul_comm]; have h := hr; unfold db at h; omega) F hF Q K a w ha hw (fun v w' hs' h1 h2 h3 => ?_); obtain ⟨g, rfl, rfl⟩ := h3;refine k _ w' _ h1 ?_ ⟨⟨rfl⟩, rfl⟩; rw [← zlB he hp u n', hz, List.length_replicate]; exact h2
theorem Yv.orK {x y:Operand}{t u:TypeId}{k:IntKind}{a b:Int}(ho:o.op= .binOp .or t x y u)(hx:ev fs x=some (.int k a))(hy:ev fs y=some (.int k b)):Yv P n B M fs hs o (.int k (orK k a b)):=fun f w ha _=>by
 unfold execOp;simp [ho,ha.ev hx,ha.ev hy,eqGuard,binOp,Op.intBits,Go.Proofs.YtogbggmckmnlfaaGreatDoor.orK]
theorem Yv.andK {x y:Operand}{t u:TypeId}{k:IntKind}{a b:Int}(ho:o.op= .binOp .and t x y u)(hx:ev fs x=some (.int k a))(hy:ev fs y=some (.int k b)):Yv P n B M fs hs o (.int k (andK k a b)):=fun f w ha _=>by
 unfold execOp;simp [ho,ha.ev hx,ha.ev hy,eqGuard,binOp,Op.intBits,Go.Proofs.YtogbggmckmnlfaaGreatDoor.andK]
theorem j7 {s t:TypeId}{k k':IntKind}{z:Int}{x:Operand}[hS:TyI P s k'][hT:TyI P t k](ho:o.op= .convert s t x)(hx:ev fs x=some (.int k' z)):Yv P n B M fs hs o (.int k (k.wrap z)):=fun a w ha _=>by
 have h:=hT.h;have h':=hS.h;unfold zmM at h h'
 split at h
 ·rename_i q hU
  cases h
  split at h'
  ·rename_i q' hU'
   cases h'
   unfold execOp;simp [ho,ha.ev hx,convert,underlying,hU,hU',Conv.intToInt]
  ·cases h'
 ·cases h
theorem Yv.bz {s t:TypeId}{k':IntKind}{z:Int}{x:Operand}[hS:TyI P s k'][hT:TyI P t .u64](ho:o.op= .convert s t x)(hx:ev fs x=some (.int k' z)):Yv P n B M fs hs o (U (BitVec.ofInt 64 z)):=(j7 ho hx).eq (by rw [zmJ])
theorem Yv.cB (ix:Nat){F:FzB B M S0}{s t e:TypeId}{xs:List Int}{x:Operand}(hs1:P.underlying s=some (.slice e))(he:P.underlying e=some (.int .u8))(ht:P.underlying t=some .string)(ho:o.op= .convert s t x)(hx:ev fs x=some v)(hF:hs[ix]?=some (.fr F))(h:SlC F.toFrz v 1 (xs.map (eK .u8))):Yv P n B M fs hs o (.string ⟨(u8s xs).toArray⟩):=fun a w ha hw=>by
 obtain ⟨A,cap,rfl,h2,h3,h4,h5⟩:=h;unfold execOp
 cases xs with
 |nil=>
  have:(convert s t (.slice A ([].map (eK .u8)).length cap)).run P w= .ok (.string ⟨#[]⟩) w:=by
   rw [run_convert_bytes_string w s t e A _ cap hs1 he ht]
   cases A with
   |none=>rfl
   |some b=>
    rw [run_bytesToString (P:=P) w b _ cap [] (by rfl)];rfl
  simp [ho,ha.ev hx] at this ⊢;rw [this];rfl
 |cons z r=>
  obtain ⟨g,off,rfl,hg,hc⟩:=h5 a7;have hl:(List.map (eK .u8) (z :: r)).length=(z :: r).length:=List.length_map _
  have:=run_convert_bytes_arg (P:=P) w s e hs1 he g off (z :: r).length cap (z :: r) rfl (fun i hi=>by
   have h6:=Cs.at (hw.fr hF) hg (hc i (by rw [hl];exact hi)) 0 (by rw [zcv hi];simp);rw [zcv hi] at h6;rw [show off+i=off+i*1+0 by omega,h6,dW hi]
   simp [List.getElem?_eq_getElem hi,List.getD_eq_getElem?_getD]) t ht
  rw [hl] at hx;simp [ho,ha.ev hx] at this ⊢;rw [this];rfl
theorem Yv.ct {x y:Operand}{t u:TypeId}{a b:List UInt8}(ho:o.op= .binOp .eql t x y u)(hx:ev fs x=some (.string ⟨a.toArray⟩))(hy:ev fs y=some (.string ⟨b.toArray⟩)):Yv P n B M fs hs o (.bool (a == b)):=fun f w ha _=>by
 unfold execOp;simp [ho,ha.ev hx,ha.ev hy,eqGuard,binOp,Op.stringOp,ByteArray.toList_eq]
end
def zaV (x0_:GStore):Option (Option GStore):=
 (bif (zay x0_) then
  some none
  else
  d4 (db x0_.list.length 24) <|
  some (some (GStore.mk x0_.domains (x0_.start.1,x0_.start.2) x0_.list)))
theorem zbg (F0:Frz)(w:World)(hF0:F0.At w)(x0_:GStore)(g0_:Nat)(k0_512:SK)(v0_512:Value)(L0_512:Ws)(hs0_512:SI x0_.start.1 x0_.start.2 k0_512 L0_512)(tf0_512:TbF F0 k0_512)(zf0_512:SzF F0 k0_512 v0_512 L0_512 (!x0_.start.2.2))(v0_513:Value)(c0_513:List (List Value))(h0_513:OwnD cG F0 1 c0_513 x0_.list)(htab:Tab w)(hO:Hp w (cZ [.row g0_ 144 ((x0_.domains.1.map U)++[.pointer (some ⟨k0_512.sp,0,none⟩),v0_513]), .sl v0_513 50 1 x0_.list.length c0_513.flatten]) [.row g0_ 144 ((x0_.domains.1.map U)++[.pointer (some ⟨k0_512.sp,0,none⟩),v0_513]), .sl v0_513 50 1 x0_.list.length c0_513.flatten] w)(hA:∀g,cZ [.row g0_ 144 ((x0_.domains.1.map U)++[.pointer (some ⟨k0_512.sp,0,none⟩),v0_513]), .sl v0_513 50 1 x0_.list.length c0_513.flatten] g→¬F0.S g)(hZ:¬cZ [.row g0_ 144 ((x0_.domains.1.map U)++[.pointer (some ⟨k0_512.sp,0,none⟩),v0_513]), .sl v0_513 50 1 x0_.list.length c0_513.flatten] 0)(r:Option GStore)(hr:zaV x0_=some r):Calls Tryz.prog 46 #[.pointer (some ⟨g0_,0,none⟩)] w fun e w'=>((r).isSome=true→∃(y:Nat×SK×Value×Ws×Value×List (List Value)) (G:Frz),(SI ((r.getD default).start).1 ((r.getD default).start).2 y.2.1 y.2.2.2.1∧TbF G y.2.1∧SzF G y.2.1 y.2.2.1 y.2.2.2.1 (!((r.getD default).start).2.2)∧OwnD cG G 1 y.2.2.2.2.2 ((r.getD default).list))∧e= .returned (.pointer (some ⟨y.1,0,none⟩))∧FxM F0 w (cZ [.row g0_ 144 ((x0_.domains.1.map U)++[.pointer (some ⟨k0_512.sp,0,none⟩),v0_513]), .sl v0_513 50 1 x0_.list.length c0_513.flatten]) G [.row g0_ 144 ((x0_.domains.1.map U)++[.pointer (some ⟨k0_512.sp,0,none⟩),v0_513]), .sl v0_513 50 1 x0_.list.length c0_513.flatten, .row y.1 144 ((((r.getD default).domains).1.map U)++[.pointer (some ⟨y.2.1.sp,0,none⟩),y.2.2.2.2.1]), .sl y.2.2.2.2.1 50 1 ((r.getD default).list).length y.2.2.2.2.2.flatten] w')∧((r).isSome=false→∃(y:Unit) (G:Frz),(True)∧e= .returned (.pointer none)∧FxM F0 w (cZ [.row g0_ 144 ((x0_.domains.1.map U)++[.pointer (some ⟨k0_512.sp,0,none⟩),v0_513]), .sl v0_513 50 1 x0_.list.length c0_513.flatten]) G [.row g0_ 144 ((x0_.domains.1.map U)++[.pointer (some ⟨k0_512.sp,0,none⟩),v0_513]), .sl v0_513 50 1 x0_.list.length c0_513.flatten] w'):=by
 have hk:=hr;unfold zaV at hk;haveI:=gN (hO.own (.sl v0_513 50 1 x0_.list.length c0_513.flatten) a7);have hmx0_513:=gW (hO.own (.sl v0_513 50 1 x0_.list.length c0_513.flatten) a7);obtain ⟨S0,F1,rfl,hS0,hp0⟩:=ga hF0 hO hA;have hM0:=hZ;have htk:∀ {hs:HS} {w':World},Hp w (cZ [.row g0_ 144 ((x0_.domains.1.map U)++[.pointer (some ⟨k0_512.sp,0,none⟩),v0_513]), .sl v0_513 50 1 x0_.list.length c0_513.flatten]) hs w'→Tab w':=fun hw=>htab.kept hw hZ;refine dq (hs:=[.row g0_ 144 ((x0_.domains.1.map U)++[.pointer (some ⟨k0_512.sp,0,none⟩),v0_513]), .sl v0_513 50 1 x0_.list.length c0_513.flatten, .fr F1]) Tryz.func46 rfl rfl rfl hp0 ?_;refine iE ?_;refine q01 ?_;rintro _ _ ⟨⟨⟩, -,rfl,rfl⟩;refine em ?_;refine TL.ns ?_;refine T.cond rfl (fun h1=>?_) (fun h1=>?_)
 ·replace hk:=dy hk h1;refine gF ?_;obtain rfl:=Option.some.inj hk;exact cU rfl rfl (fun w' hw=>⟨fun h=>(by cases h),fun _=>⟨⟨⟩,F1.toFrz,trivial,rfl,cX (hw.pick (idx:=[0,1,2]) rfl a6) hS0 (Frz.Le.refl _)⟩⟩)
 ·replace hk:=dz hk h1;refine iR ?_;have hq:(db x0_.list.length 24)∧_:=eQ hk;clear hk;obtain ⟨g18,hk⟩:=hq; (try dsimp only at hk);refine dT (sN 0 8 (sN 9 4 (.eff 8 (.eff 13 (.still 14 (.eff 15 (.still 16 .done))))))) _ a8 (List.Sublist.refl _) ?_;refine i1 ?_;refine cR rfl (Yv.bO 0 (m:=(x0_.domains.1.map U)) rfl rfl rfl (zmj Vec.len) Vec.len) ?_;refine i1 ?_;refine cR rfl (cS 0 rfl rfl rfl (kP a5 (zdD Vec.len (show [.pointer (some ⟨k0_512.sp,0,none⟩),v0_513][0]?=some _ from rfl)))) ?_;refine i1 ?_;refine cR rfl (cS 0 rfl rfl rfl (kP a5 (zdD Vec.len (show [.pointer (some ⟨k0_512.sp,0,none⟩),v0_513][1]?=some _ from rfl)))) ?_;refine dF ?_;refine dn rfl (Wt.none) rfl rfl (d3 [2,0,1] [] [.row g0_ 144 ((x0_.domains.1.map U)++([.pointer (some ⟨k0_512.sp,0,none⟩),v0_513]:List Value)), .sl v0_513 50 1 x0_.list.length c0_513.flatten] rfl rfl rfl rfl a6 (fun w hw hw2 hF=>zj9 hs0_512 tf0_512 (zf0_512 w hF) hF (htk hw))) ?_;rintro _ _ ⟨⟨k13_,v13_⟩,F2,le1_2,⟨hs13,tf13⟩,rfl,rfl⟩;refine em ?_; (try dsimp only at hs13 tf13);refine ⟨(fun w hw=>(hw.frLe (i:=1) rfl le1_2).pick (idx:=[2,3,1]) rfl a6),?_⟩;refine lN (fun w hw=>hw.freezeSt (i:=1) (j:=0) a6 rfl rfl) ?_;rintro F3 ⟨le2_3,zf3⟩;refine gU ?_;have le1_3:=le1_2.trans le2_3;refine dF ?_;refine dn rfl (Wt.none) rfl rfl (iT rfl rfl rfl (fun w hw=>(hw.bor (i:=0) (j:=2) rfl rfl).elim fun F9 b=>have le3_4:=b.1.le;have le1_4:=le1_3.trans le3_4;have le2_4:=le2_3.trans le3_4;zeU F9 w b.1.at_ x0_.list v0_513 c0_513 (b.2.toD (OwnD.mono (rep:=cG) (fun _ _ _ _=>R_List_GChoice.mono) h0_513 le1_4) rfl) g18)) ?_;rintro v18_ _ ⟨_,_,rfl,rfl⟩;refine em ?_;refine ⟨(fun w hw=>(hw.frLe (i:=1) rfl le1_3).pick (idx:=[2,3,1]) rfl a6),?_⟩;refine lX 0 rfl ?_;intro iv18_ hmv18_;refine cR rfl (Yv.bT rfl rfl (l0:=(((Vec.fill 512 (0#64)).1.map U)++[.pointer none,(.slice none 0 0)])) (l:=((x0_.domains.1.map U)++[.pointer (some ⟨k13_.sp,0,none⟩),v18_])) a8 (zdV (off:=0) a8 rfl Vec.len (zgq (Vec.len.trans Vec.len.symm)) (by simp only [Nat.zero_add,Vec.len];rw [(zc5 Vec.len (show List.length _=2 from rfl))];decide) (zdV (off:=512) a8 (OneC.cells inferInstance) rfl (ze2 (off:=512) (by rw [(zc5 Vec.len (show List.length _=2 from rfl))]; (try simp only [List.length_cons,List.length_nil]);decide) (zgd (by rfl) (zgv Vec.len (rfl:([.pointer none,(.slice none 0 0)]:List Value).set 0 _=_)))) (by rw [(zc5 Vec.len (show List.length _=2 from rfl))]; (try simp only [List.length_cons,List.length_nil]);decide) (zdV (off:=513) a8 (OneC.cells inferInstance) rfl (ze2 (off:=513) (by rw [(zc5 Vec.len (show List.length _=2 from rfl))]; (try simp only [List.length_cons,List.length_nil]);decide) (zgd (by rfl) (zgv Vec.len (rfl:([.pointer (some ⟨k13_.sp,0,none⟩),(.slice none 0 0)]:List Value).set 1 _=_)))) (by rw [(zc5 Vec.len (show List.length _=2 from rfl))]; (try simp only [List.length_cons,List.length_nil]);decide) rfl)))) ?_;refine dF ?_;refine dn rfl (Wt.none) rfl rfl (dv) ?_;rintro _ _ ⟨g20,rfl,rfl⟩;refine ⟨(fun w hw=>(hw.frLe (i:=2) rfl le1_3).pick (idx:=[3,4,2]) rfl a6),?_⟩;refine gR ?_
  refine TS.done ?_;refine K.seq (T.ret ?_);obtain rfl:=Option.some.inj hk;exact cU rfl rfl (fun w' hw=>⟨fun _=>⟨(g20,k13_,v13_,L0_512,v18_,c0_513),F3.toFrz,⟨hs13,(tf13.mono le2_3),zf3,(OwnD.mono (rep:=cG) (fun _ _ _ _=>R_List_GChoice.mono) h0_513 le1_3)⟩,rfl,cX (hw.pick (idx:=[3,4,0,1,2]) rfl a6) hS0 le1_3⟩,fun h=>(by cases h)⟩)
structure GSet where
 words:Vec 8 (BitVec 64)
deriving DecidableEq,Inhabited
abbrev lS (x:GSet):List Value:=(x.words.1.map U)
theorem GSet.len (x:GSet):(lS x).length=8:=Vec.len
def za2 (i:Int):Bool:=
 ((decide (0≤i))&&(decide (i<512)))
theorem zdK (F0:Frz)(w:World)(hF0:F0.At w)(i:Int):Calls Tryz.prog 78 #[.int .i64 i] w fun e w'=>e= .returned (.bool (za2 i))∧Below w.heap.size w w':=by
 obtain ⟨r,hk⟩:∃r,za2 i=r:=⟨_,rfl⟩;rw [hk];unfold za2 at hk;obtain ⟨S0,F1,rfl,hS0,hp0⟩:=fK hF0;refine dq Tryz.func78 rfl rfl rfl hp0 ?_;refine ei ?_;refine dj (ι:=Unit) (fun z=>[(2, .bool ((decide (0≤i))&&(decide (i<512))))]) (fun z=>[.fr F1]) (fun z=>True) ?_ ?_
 ·refine ed ?_;refine eM ?_;refine dQ rfl rfl rfl (fun h1=>?_) (fun h1=>?_)
  ·have p1:=of_decide_eq_true h1;refine q2R ?_;exact q4n
  ·have p1:=of_decide_eq_false h1;refine q2R ?_;exact q4o
 ·rintro _ _;refine T.ret ?_;subst hk;exact fw
def zbW (l:List Int):Option (GSet×Int):=
 dS (fun (s3:Vec 8 (BitVec 64)×Vec 8 (BitVec 64))=>
  some ((GSet.mk s3.2),0))
 (fun k3=>
  di (fun (i_7:Nat) (next6:(Vec 8 (BitVec 64)×Vec 8 (BitVec 64))→Option (GSet×Int)) (s6:Vec 8 (BitVec 64)×Vec 8 (BitVec 64))=>
   (bif !(za2 (cH l i_7)) then
    some ((GSet.mk (Vec.fill 8 (0#64))),2)
    else
    d4 (0≤(cH l i_7)∧(cH l i_7)≤9223372036854775807∧1≤(64:Int)) <|
    d4 (0≤((cH l i_7) / 64)∧((cH l i_7) / 64)<(8:Int)) <|
    d4 (0≤(cH l i_7)∧1≤(64:Int)) <|
    d4 (0≤((cH l i_7) % 64)∧((cH l i_7) % 64)<(64:Int)) <|
    next6 (s6.1,(Vec.put s6.2 (((cH l i_7) / 64).toNat) ((Vec.get s6.2 (((cH l i_7) / 64).toNat)) ||| ((1#64) <<< (((cH l i_7) % 64).toNat)))))))
  (fun (s6:Vec 8 (BitVec 64)×Vec 8 (BitVec 64))=>
   k3 (s6.1,s6.2)) (l.length - 0) 0 ((Vec.fill 8 (0#64)),(Vec.fill 8 (0#64))))
theorem zdE (F0:Frz)(w:World)(hF0:F0.At w)(l:List Int)(vl:Value)(hl:SlC F0 vl 1 (l.map eI))(r:GSet×Int)(hr:zbW l=some r):Calls Tryz.prog 41 #[vl] w fun e w'=>e= .returned (.tuple #[.agg (r.1.words.1.map U).toArray, .int .i64 r.2])∧Below w.heap.size w w':=by
 have hk:=hr;unfold zbW at hk;haveI:=hl.oneC;obtain ⟨S0,F1,rfl,hS0,hp0⟩:=fK hF0;refine dq Tryz.func41 rfl rfl rfl hp0 ?_;refine de ?_;refine q1G ?_;rintro _ _ ⟨g2,rfl,rfl⟩;refine f9 ?_;refine q1G ?_;rintro _ _ ⟨g4,rfl,rfl⟩;refine gX ?_;refine dd ?_;refine q3i ?_;have hm8:l.length≤9223372036854775807:=(List.length_map _)▸hl.max;refine dP ?_;have hq:=eP hk;clear hk;obtain ⟨k3,hk3,hk⟩:=hq; (try dsimp only at hk);refine dj (ι:=Vec 8 (BitVec 64)×Vec 8 (BitVec 64)) (fun z=>[(2, .pointer (some ⟨g2,0,none⟩)),(4, .pointer (some ⟨g4,0,none⟩))]) (fun z=>[.row g2 83 (z.1.1.map U), .row g4 83 (z.2.1.map U), .fr F1]) (fun z=>k3 (z.1,z.2)=some r) ?_ ?_
 ·have hq:=fS hk;clear hk;obtain ⟨f6,kk6,hf6,hkk6,hk⟩:=hq;refine q2l ?_;refine T.loop (ι:=Nat×Vec 8 (BitVec 64)×Vec 8 (BitVec 64)) (fun z=>[(2, .pointer (some ⟨g2,0,none⟩)),(4, .pointer (some ⟨g4,0,none⟩)),(7,vl),(8, .int .i64 (l.length:Int)),(9, .int .i64 (z.1:Int))]) (fun z=>[.row g2 83 (z.2.1.1.map U), .row g4 83 (z.2.2.1.map U), .fr F1]) (fun z=>di f6 kk6 (l.length - z.1) z.1 (z.2.1,z.2.2)=some r) (fun z=>l.length - z.1) (0,(Vec.fill 8 (0#64)),(Vec.fill 8 (0#64))) ?_ ?_ ?_ ?_
  ·exact hk
  ·exact ld
  ·exact fv
  ·rintro ⟨i_7,c_4,c_5⟩ hk; (try dsimp only at *);refine ei ?_;refine T.cond rfl (fun h8=>?_) (fun h8=>?_)
   ·have p8:=of_decide_eq_true h8;rw [fT a5] at hk;generalize hn6:di f6 kk6 (l.length - (i_7+1)) (i_7+1)=next6 at hk;rw [←hf6] at hk; (try dsimp only at hk);refine fq ?_;refine cI (dL (i:=i_7) rfl rfl rfl hl (List.length_map _) rfl a5) ?_;refine cI (hD 2 (i:=i_7) (j:=0) rfl rfl rfl hl a5) ?_;refine kL ?_;refine cN (cL rfl rfl rfl (fun w hw=>zdK _ w (hw.fr (i:=2) rfl) (cH l i_7))) ?_;refine ex ?_;refine dP ?_;refine T.cond rfl (fun h9=>?_) (fun h9=>?_)
    ·replace hk:=dy hk h9;refine de ?_;refine cI ((Yv.build).eq (v:= .agg ((Vec.fill 8 (0#64)).1.map U).toArray) a8) ?_;refine q1n ?_;refine dd ?_;refine q1h ?_;obtain rfl:=Option.some.inj hk;exact gz 0 rfl rfl rfl rfl Vec.len (fun w' hw=>⟨rfl,hw.isBelow⟩)
    ·replace hk:=dz hk h9;refine kl ?_;have hq:(0≤(cH l i_7)∧(cH l i_7)≤9223372036854775807∧1≤(64:Int))∧_:=eQ hk;clear hk;obtain ⟨g18,hk⟩:=hq;have hq:(0≤((cH l i_7) / 64)∧((cH l i_7) / 64)<(8:Int))∧_:=eQ hk;clear hk;obtain ⟨g20,hk⟩:=hq;have hq:(0≤(cH l i_7)∧1≤(64:Int))∧_:=eQ hk;clear hk;obtain ⟨g23,hk⟩:=hq;have hq:(0≤((cH l i_7) % 64)∧((cH l i_7) % 64)<(64:Int))∧_:=eQ hk;clear hk;obtain ⟨g24,hk⟩:=hq; (try dsimp only at hk);refine dT (sN 0 4 (sN 5 3 (.still 9 (.eff 4 (.still 8 (.still 10 (.eff 11 .done))))))) [.row g2 83 (c_4.1.map U), .fr F1] a8 Sx ?_;refine gR ?_;refine cR rfl (jm rfl rfl rfl g18) ?_;refine iq ?_;refine cR rfl (dX (i:=((cH l i_7) / 64).toNat) rfl rfl rfl a5 a5) ?_;refine gR ?_;refine cR rfl (i8 rfl rfl rfl g23) ?_;refine cR rfl (fW (a:=1#64) (((cH l i_7) % 64).toNat) rfl rfl rfl a5 a5) ?_;refine jc ?_;refine fI rfl (Wt.none) rfl rfl (cS 1 rfl rfl rfl (kP a5 (Vec.cell (i:=((cH l i_7) / 64).toNat) a5))) (fun w hw=>hw.sub Sx) ?_;refine cR rfl (fH (a:=(Vec.get c_5 (((cH l i_7) / 64).toNat))) (b:=((1#64) <<< (((cH l i_7) % 64).toNat)))) ?_;refine cR rfl (dX (i:=((cH l i_7) / 64).toNat) rfl rfl rfl a5 a5) ?_;refine dF ?_;refine fk rfl (Wt.none) rfl (gJ 1 ((Vec.put c_5 (((cH l i_7) / 64).toNat) ((Vec.get c_5 (((cH l i_7) / 64).toNat)) ||| ((1#64) <<< (((cH l i_7) % 64).toNat)))).1.map U) rfl rfl rfl rfl b3 (zgd a5 (Vec.upd (x:=c_5) (f:=U) (i:=((cH l i_7) / 64).toNat) (v:=((Vec.get c_5 (((cH l i_7) / 64).toNat)) ||| ((1#64) <<< (((cH l i_7) % 64).toNat)))) a5))) ?_;refine kI ?_;refine q1s ?_;rw [←hn6] at hk;exact K.next ((i_7+1),c_4,(Vec.put c_5 (((cH l i_7) / 64).toNat) ((Vec.get c_5 (((cH l i_7) / 64).toNat)) ||| ((1#64) <<< (((cH l i_7) % 64).toNat))))) hk a9 (.c (.c (.c (.c (.c .nil))))) (List.Sublist.refl _)
   ·have p8:=of_decide_eq_false h8;rw [fR a5,←hkk6] at hk; (try dsimp only at hk);refine ff ?_;exact c4 (c_4,c_5) hk (.c (.c .nil)) (List.Sublist.refl _)
 ·rintro ⟨c_1,c_2⟩ hk; (try dsimp only at *);rw [←hk3] at hk; (try dsimp only at hk);refine de ?_;refine cI (dJ 1 rfl rfl rfl Vec.len) ?_;refine q1n ?_;refine eU ?_;obtain rfl:=Option.some.inj hk;exact gz 0 rfl rfl rfl rfl Vec.len (fun w' hw=>⟨rfl,hw.isBelow⟩)
def kN (s:GSet)(i:Int):Option Bool:=
 dS (fun (x_1:Bool)=>
  some x_1)
 (fun k2=>
  (bif (za2 i) then
   d4 (0≤i∧i≤9223372036854775807∧1≤(64:Int)) <|
   d4 (0≤(i / 64)∧(i / 64)<(8:Int)) <|
   d4 (0≤i∧1≤(64:Int)) <|
   d4 (0≤(i % 64)∧(i % 64)<(64:Int)) <|
   k2 (decide (((((Vec.get s.words ((i / 64).toNat)) >>> ((i % 64).toNat)) &&& (1#64)).toNat:Int)=((1#64).toNat:Int)))
   else
   k2 false))
theorem zaB (F0:Frz)(w:World)(hF0:F0.At w)(s:GSet)(i:Int)(r:Bool)(hr:kN s i=some r):Calls Tryz.prog 43 #[.agg (s.words.1.map U).toArray, .int .i64 i] w fun e w'=>e= .returned (.bool r)∧Below w.heap.size w w':=by
 have hk:=hr;unfold kN at hk;obtain ⟨S0,F1,rfl,hS0,hp0⟩:=fK hF0;refine dq Tryz.func43 rfl rfl rfl hp0 ?_;refine kA ?_;rintro _ _ ⟨g2,rfl,rfl⟩;refine kx ?_; (try dsimp only at hk);have hq:=eP hk;clear hk;obtain ⟨k2,hk2,hk⟩:=hq; (try dsimp only at hk);refine dj (ι:=Bool) (fun z=>[(4, .bool z)]) (fun z=>[.fr F1]) (fun z=>k2 z=some r) ?_ ?_
 ·refine fo ?_;refine cN (cL rfl rfl rfl (fun w hw=>zdK _ w (hw.fr (i:=1) rfl) i)) ?_;refine lJ ?_;refine dQ rfl rfl rfl (fun h3=>?_) (fun h3=>?_)
  ·replace hk:=dy hk h3;refine dd ?_;have hq:(0≤i∧i≤9223372036854775807∧1≤(64:Int))∧_:=eQ hk;clear hk;obtain ⟨g9,hk⟩:=hq;refine cI (jm rfl rfl rfl g9) ?_;refine eZ ?_;have hq:(0≤(i / 64)∧(i / 64)<(8:Int))∧_:=eQ hk;clear hk;obtain ⟨g11,hk⟩:=hq;refine cI (dX (i:=(i / 64).toNat) rfl rfl rfl a5 a5) ?_;refine cI (cS 0 rfl rfl rfl (kP a5 (Vec.cell (i:=(i / 64).toNat) a5))) ?_;refine dd ?_;have hq:(0≤i∧1≤(64:Int))∧_:=eQ hk;clear hk;obtain ⟨g14,hk⟩:=hq;refine cI (i8 rfl rfl rfl g14) ?_;have hq:(0≤(i % 64)∧(i % 64)<(64:Int))∧_:=eQ hk;clear hk;obtain ⟨g15,hk⟩:=hq;refine cI (fD (a:=(Vec.get s.words ((i / 64).toNat))) ((i % 64).toNat) rfl rfl rfl a5 a5) ?_;refine cI (fL (a:=((Vec.get s.words ((i / 64).toNat)) >>> ((i % 64).toNat))) (b:=1#64)) ?_;refine lZ ?_;refine K.pick [1] rfl a6 ?_;exact c4 (decide (((((Vec.get s.words ((i / 64).toNat)) >>> ((i % 64).toNat)) &&& (1#64)).toNat:Int)=((1#64).toNat:Int))) hk (.c .nil) (List.Sublist.refl _)
  ·replace hk:=dz hk h3;refine TL.run 12 rfl ?_;refine TL.nil ?_;refine K.pick [1] rfl a6 ?_;exact q4y
 ·rintro x_1 hk;rw [←hk2] at hk; (try dsimp only at hk);refine T.ret ?_;obtain rfl:=Option.some.inj hk;exact fw
def zbp (x_:Int):Bool:=
 (decide (¬x_=x_))
theorem zdJ (F0:Frz)(w:World)(hF0:F0.At w)(x_:Int):Calls Tryz.prog 140 #[.int .i64 x_] w fun e w'=>e= .returned (.bool (zbp x_))∧Below w.heap.size w w':=by
 obtain ⟨r,hk⟩:∃r,zbp x_=r:=⟨_,rfl⟩;rw [hk];unfold zbp at hk;obtain ⟨S0,F1,rfl,hS0,hp0⟩:=fK hF0;refine dq Tryz.func140 rfl rfl rfl hp0 ?_;refine lr ?_;refine TL.run 4 rfl ?_;refine fJ ?_;subst hk;exact fw
def zbb (x_:Int)(y:Int):Int:=
 (bif (zbp x_) then
  (bif (zbp y) then
   0
   else
   (-1))
  else
  (bif (zbp y) then
   1
   else
   (bif decide (x_<y) then
    (-1)
    else
    (bif decide (y<x_) then
     1
     else
     0))))
theorem zeD (F0:Frz)(w:World)(hF0:F0.At w)(x_:Int)(y:Int):Calls Tryz.prog 107 #[.int .i64 x_, .int .i64 y] w fun e w'=>e= .returned (.int .i64 (zbb x_ y))∧Below w.heap.size w w':=by
 obtain ⟨r,hk⟩:∃r,zbb x_ y=r:=⟨_,rfl⟩;rw [hk];unfold zbb at hk;obtain ⟨S0,F1,rfl,hS0,hp0⟩:=fK hF0;refine dq Tryz.func107 rfl rfl rfl hp0 ?_;refine mh ?_;refine cN (cL rfl rfl rfl (fun w hw=>zdJ _ w (hw.fr (i:=0) rfl) x_)) ?_;refine ex ?_;refine kn ?_;refine cN (cL rfl rfl rfl (fun w hw=>zdJ _ w (hw.fr (i:=0) rfl) y)) ?_;refine ex ?_;refine jd ?_;refine dP ?_;refine T.cond rfl (fun h1=>?_) (fun h1=>?_)
 ·replace hk:=dy hk h1;refine iJ ?_;refine dP ?_;refine T.cond rfl (fun h2=>?_) (fun h2=>?_)
  ·replace hk:=dy hk h2;refine gy ?_;refine TL.ns (T.ret (cQ (cQ ?_)));subst hk;exact fw
  ·replace hk:=dz hk h2;refine gV ?_;refine dd ?_;refine jK ?_;subst hk;exact fw
 ·replace hk:=dz hk h1;refine jR ?_;refine dP ?_;refine T.cond rfl (fun h3=>?_) (fun h3=>?_)
  ·replace hk:=dy hk h3;refine gF ?_;subst hk;exact fw
  ·replace hk:=dz hk h3;refine jR ?_;refine eM ?_;refine TL.ns ?_;refine T.cond rfl (fun h4=>?_) (fun h4=>?_)
   ·have p4:=of_decide_eq_true h4;replace hk:=dy hk h4;refine gF ?_;subst hk;exact fw
   ·have p4:=of_decide_eq_false h4;replace hk:=dz hk h4;refine jR ?_;refine eM ?_;refine TL.ns ?_;refine T.cond rfl (fun h5=>?_) (fun h5=>?_)
    ·have p5:=of_decide_eq_true h5;replace hk:=dy hk h5;refine gF ?_;subst hk;exact fw
    ·have p5:=of_decide_eq_false h5;replace hk:=dz hk h5;refine gV ?_;refine eU ?_;subst hk;exact fw
def zaS (s:GSet)(o:GSet):Bool:=
 dS (fun (_:Unit)=>
  true)
 (fun k1=>
  di (fun (i_3:Nat) (next2:Unit→Bool) (_:Unit)=>
   (bif decide (¬(((Vec.get s.words i_3) &&& ~~~(Vec.get o.words i_3)).toNat:Int)=((0#64).toNat:Int)) then
    false
    else
    next2 ()))
  (fun (_:Unit)=>
   k1 ()) (8 - 0) 0 ())
theorem zch (F0:Frz)(w:World)(hF0:F0.At w)(s:GSet)(o:GSet):Calls Tryz.prog 116 #[.agg (s.words.1.map U).toArray, .agg (o.words.1.map U).toArray] w fun e w'=>e= .returned (.bool (zaS s o))∧Below w.heap.size w w':=by
 obtain ⟨r,hk⟩:∃r,zaS s o=r:=⟨_,rfl⟩;rw [hk];unfold zaS at hk;obtain ⟨S0,F1,rfl,hS0,hp0⟩:=fK hF0;refine dq Tryz.func116 rfl rfl rfl hp0 ?_;refine kA ?_;rintro _ _ ⟨g2,rfl,rfl⟩;refine q3Z ?_;rintro _ _ ⟨g3,rfl,rfl⟩;refine jd ?_;refine eZ ?_;refine cI (dJ 1 rfl rfl rfl Vec.len) ?_;refine dP ?_;have hq:=eP hk;clear hk;obtain ⟨k1,hk1,hk⟩:=hq; (try dsimp only at hk);refine dj (ι:=Unit) (fun z=>[]) (fun z=>[.fr F1]) (fun z=>k1 ()=r) ?_ ?_
 ·have hq:=fS hk;clear hk;obtain ⟨f2,kk2,hf2,hkk2,hk⟩:=hq;refine gg ?_;refine T.pick [0,2] rfl a6 ?_;refine T.loop (ι:=Nat) (fun z=>[(3, .pointer (some ⟨g3,0,none⟩)),(8, .agg (s.words.1.map U).toArray),(9, .int .i64 (z:Int))]) (fun z=>[.row g3 83 (o.words.1.map U), .fr F1]) (fun z=>di f2 kk2 (8 - z) z ()=r) (fun z=>8 - z) 0 ?_ ?_ ?_ ?_
  ·exact hk
  ·exact q4a
  ·exact fv
  ·rintro i_3 hk;refine ei ?_;refine T.cond rfl (fun h4=>?_) (fun h4=>?_)
   ·have p4:=of_decide_eq_true h4;rw [fT a5] at hk;generalize hn2:di f2 kk2 (8 - (i_3+1)) (i_3+1)=next2 at hk;rw [←hf2] at hk; (try dsimp only at hk);refine fq ?_;refine dd ?_;refine cI (mf (i:=i_3) rfl rfl rfl rfl a5 (Vec.cell a5)) ?_;refine d5 ?_;refine dG ?_;refine d5 ?_;refine eZ ?_;refine cI (dX (i:=i_3) rfl rfl rfl rfl a5) ?_;refine cI (cS 0 rfl rfl rfl (kP a5 (Vec.cell (i:=i_3) a5))) ?_;refine cI (kU rfl rfl rfl) ?_;refine dP ?_;refine T.cond rfl (fun h5=>?_) (fun h5=>?_)
    ·replace hk:=dy hk h5;refine jT ?_;subst hk;exact fw
    ·replace hk:=dz hk h5;refine gB ?_;rw [←hn2] at hk;exact K.next (i_3+1) hk a5 (.c (.c (.c .nil))) (List.Sublist.refl _)
   ·have p4:=of_decide_eq_false h4;rw [fR a5,←hkk2] at hk; (try dsimp only at hk);refine ff ?_;refine K.pick [1] rfl a6 ?_;exact q34
 ·rintro _ hk;rw [←hk1] at hk; (try dsimp only at hk);refine q3M ?_;subst hk;exact fw
end Go.Proofs.YtogbggmckmnlfaaGreatDoor
