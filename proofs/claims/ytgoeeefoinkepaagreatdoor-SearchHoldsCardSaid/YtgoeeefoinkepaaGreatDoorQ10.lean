/- Yn Sk: shortened and put together by squeeze.py. -/
import Derived.Test.YtgoeeefoinkepaaGreatDoorQ09
set_option maxRecDepth 100000
set_option maxHeartbeats 4000000
set_option linter.unusedVariables false
set_option linter.unusedSectionVars false
set_option linter.unusedSimpArgs false
namespace Go.Proofs.YtgoeeefoinkepaaGreatDoor
open Go.RowKit
def cJ (F:Frz)(c:List Value)(x:List GChoice):Prop:=∃(v0:Value),c=[v0]∧SlC F v0 2 (x.map cH)
theorem R_List_GChoice.mono {F G:Frz}{c:List Value}{x:List GChoice}(hle:F.Le G)(h:cJ F c x):cJ G c x:=by
 obtain ⟨v0,h0,h1⟩:=h;exact ⟨v0,h0,h1.mono hle⟩
theorem R_List_GChoice.len {F:Frz}{c:List Value}{x:List GChoice}(h:cJ F c x):c.length=1:=by
 obtain ⟨v0,h0,h1⟩:=h;subst h0;rfl
theorem R_List_GChoice.one {F:Frz}{c:List Value}{x:List GChoice}(h:cJ F c x):OneCs c:=by
 obtain ⟨v0,h0,h1⟩:=h;subst h0;haveI:=h1.oneC
 infer_instance
theorem R_List_GChoice.c0 {F:Frz}{c:List Value}{x:List GChoice}(h:cJ F c x):c[0]?=some (cI c 0)∧SlC F (cI c 0) 2 (x.map cH):=by
 obtain ⟨v0,h0,h1⟩:=h;subst h0;exact ⟨rfl,h1⟩
theorem kY {F:Frz}{c:List Value}{x:List GChoice}(h:cJ F c x):(c.drop 0).take 1=[cI c 0]:=by
 obtain ⟨v0,h0,h1⟩:=h;subst h0;rfl
def zcB (p:GProblem)(g_:List GChoice):Option Bool:=
 (zb0 p).bind fun r8=>
 (bif ((!r8)||(!(mr g_))) then
  some false
  else
  dQ (fun (_:Unit)=>
   some true)
  (fun k3=>
   dk (fun (i_5:Nat) (next4:Unit→Option Bool) (_:Unit)=>
    dQ (fun (x_7:Bool)=>
     (bif x_7 then
      some false
      else
      next4 ()))
    (fun k8=>
     (bif decide ((fH p ((cI g_ i_5).Station))<0) then
      k8 true
      else
      eG (0≤(fH p ((cI g_ i_5).Station))∧(fH p ((cI g_ i_5).Station))<(p.Domains.length:Int)) <|
      k8 (!(l6 ((cI p.Domains ((fH p ((cI g_ i_5).Station)).toNat)).Channels) ((cI g_ i_5).Channel))))))
   (fun (_:Unit)=>
    k3 ()) (g_.length - 0) 0 ()))
theorem zhl (F0:Frz)(w:World)(hF0:F0.At w)(p:GProblem)(vp_0:Value)(cp_0:List (List Value))(hp_0:SlD cK F0 vp_0 2 cp_0 p.Domains)(vp_1:Value)(hp_1:SlC F0 vp_1 5 (p.Rules.Pairs.map cX))(vp_2:Value)(hp_2:SlC F0 vp_2 5 (p.Rules.Loads.map c4))(vp_3:Value)(hp_3:SlC F0 vp_3 4 (p.Rules.Caps.map dg))(g_:List GChoice)(vg_:Value)(hg_:SlC F0 vg_ 2 (g_.map cH))(r:Bool)(hr:zcB p g_=some r):Calls Tryz.prog 20 #[.agg [vp_0,vp_1,vp_2,vp_3].toArray,vg_] w fun e w'=>e= .returned (.bool r)∧Below w.heap.size w w':=by
 have hk:=hr;unfold zcB at hk;haveI:=hp_0.1.oneC;haveI:=hp_1.oneC;haveI:=hp_2.oneC;haveI:=hp_3.oneC;haveI:=hg_.oneC;obtain ⟨S0,F1,rfl,hS0,hp0⟩:=fk hF0;refine dA Tryz.func20 rfl rfl rfl hp0 ?_;refine iL ?_;rintro _ _ ⟨g2,rfl,rfl⟩;refine q2o ?_;have hq:=fu hk;clear hk;obtain ⟨r8,hr8,hk⟩:=hq; (try dsimp only at hk);refine c6 (ι:=Unit) (fun z=>[(1,vg_),(2, .pointer (some ⟨g2,0,none⟩)),(14, .bool ((!r8)||(!(mr g_))))]) (fun z=>[.row g2 31 [vp_0,vp_1,vp_2,vp_3], .fr F1]) (fun z=>True) ?_ ?_
 ·refine fi ?_;refine iN ?_;refine c8 (cM rfl rfl rfl (fun w hw=>ze6 _ w (hw.fr (i:=1) rfl) p vp_0 cp_0 hp_0 vp_1 hp_1 vp_2 hp_2 vp_3 hp_3 r8 hr8)) ?_;refine mz ?_;refine dj rfl rfl rfl (fun h1=>?_) (fun h1=>?_)
  ·refine mn ?_;exact cP () trivial (.c (.c (.b (gk h1).symm .nil))) (List.Sublist.refl _)
  ·refine di ?_;refine c8 (cM rfl rfl rfl (fun w hw=>zcM _ w (hw.fr (i:=1) rfl) g_ vg_ hg_)) ?_;refine q4n ?_;exact cP () trivial (.c (.c (.b (f9 h1) .nil))) (List.Sublist.refl _)
 ·rintro _ _;refine T.cond rfl (fun h2=>?_) (fun h2=>?_)
  ·replace hk:=dy hk h2;refine jc ?_;obtain rfl:=Option.some.inj hk;exact eh
  ·replace hk:=dz hk h2;refine jT ?_;refine dM ?_;have hq:=eD hk;clear hk;obtain ⟨k3,hk3,hk⟩:=hq; (try dsimp only at hk);refine c6 (ι:=Unit) (fun z=>[]) (fun z=>[.fr F1]) (fun z=>k3 ()=some r) ?_ ?_
   ·have hq:=fJ hk;clear hk;obtain ⟨f4,kk4,hf4,hkk4,hk⟩:=hq;refine fe ?_;refine T.loop (ι:=Nat) (fun z=>[(1,vg_),(2, .pointer (some ⟨g2,0,none⟩)),(5, .int .i64 (z:Int))]) (fun z=>[.row g2 31 [vp_0,vp_1,vp_2,vp_3], .fr F1]) (fun z=>dk f4 kk4 (g_.length - z) z ()=some r) (fun z=>g_.length - z) 0 ?_ ?_ ?_ ?_
    ·exact hk
    ·exact mw
    ·exact eX
    ·rintro i_5 hk;refine iZ ?_;refine q3G ?_;have hm17:g_.length≤9223372036854775807:=(List.length_map _)▸hg_.max;refine dM ?_;refine T.cond rfl (fun h6=>?_) (fun h6=>?_)
     ·have p6:=of_decide_eq_true h6;rw [fK a6] at hk;generalize hn4:dk f4 kk4 (g_.length - (i_5+1)) (i_5+1)=next4 at hk;rw [←hf4] at hk; (try dsimp only at hk);refine q3V ?_;refine jf ?_;refine gG ?_;refine q1J ?_;refine cO rfl (dT 1 (i:=i_5) (j:=0) rfl rfl rfl hg_ a6) ?_;refine dw ?_;refine cR rfl (Wt.none) rfl rfl (cM rfl rfl rfl (fun w hw=>zcc _ w (hw.fr (i:=1) rfl) p vp_0 cp_0 hp_0 vp_1 hp_1 vp_2 hp_2 vp_3 hp_3 ((cI g_ i_5).Station))) ?_;refine gJ ?_;refine j9 ?_;refine K.seq (T.seq ?_); (try dsimp only at hk);have hq:=eD hk;clear hk;obtain ⟨k8,hk8,hk⟩:=hq; (try dsimp only at hk);refine c6 (ι:=Bool) (fun z=>[(1,vg_),(2, .pointer (some ⟨g2,0,none⟩)),(5, .int .i64 (i_5:Int)),(44, .bool z)]) (fun z=>[.row g2 31 [vp_0,vp_1,vp_2,vp_3], .fr F1]) (fun z=>k8 z=some r) ?_ ?_
      ·refine dF (sN 0 14 (.eff 14 (.still 15 (.still 16 .done)))) _ a8 (List.Sublist.refl _) ?_;refine ik ?_;refine dt rfl rfl rfl rfl (fun h9=>?_) (fun h9=>?_)
       ·have p9:=of_decide_eq_true h9;replace hk:=dy hk h9;refine TS.run 11 rfl ?_;refine gK ?_;refine jt ?_;exact q5e
       ·have p9:=of_decide_eq_false h9;replace hk:=dz hk h9;refine lB ?_;have hq:(0≤(fH p ((cI g_ i_5).Station))∧(fH p ((cI g_ i_5).Station))<(p.Domains.length:Int))∧_:=gQ hk;clear hk;obtain ⟨g34,hk⟩:=hq;refine cO rfl (dd (i:=(fH p ((cI g_ i_5).Station)).toNat) rfl rfl rfl hp_0.1 hp_0.2.1 a6 a6) ?_;refine cO rfl (em rfl rfl hp_0.1 hp_0.2.1 a6) ?_;refine cO rfl (dq 1 (i:=(fH p ((cI g_ i_5).Station)).toNat) (j:=1) rfl rfl rfl hp_0.1 hp_0.2.1 a6 rfl (GDomain.c1 (hp_0.2.2 ((fH p ((cI g_ i_5).Station)).toNat) a6)).1) ?_;have hd36_1:=(GDomain.c1 (hp_0.2.2 ((fH p ((cI g_ i_5).Station)).toNat) a6)).2;haveI:=hd36_1.oneC;refine gG ?_;refine q1J ?_;refine cO rfl (dT 1 (i:=i_5) (j:=1) rfl rfl rfl hg_ a6) ?_;refine dw ?_;refine cR rfl (Wt.some) rfl rfl (cM rfl rfl rfl (fun w hw=>zdM _ w (hw.fr (i:=1) rfl) ((cI p.Domains ((fH p ((cI g_ i_5).Station)).toNat)).Channels) (cI (cI cp_0 ((fH p ((cI g_ i_5).Station)).toNat)) 1) hd36_1 ((cI g_ i_5).Channel))) ?_;refine gJ ?_;refine jt ?_;exact cP (!(l6 ((cI p.Domains ((fH p ((cI g_ i_5).Station)).toNat)).Channels) ((cI g_ i_5).Channel))) hk (.c (.c (.c (.c .nil)))) (List.Sublist.refl _)
      ·rintro x_7 hk;rw [←hk8] at hk; (try dsimp only at hk);refine T.cond rfl (fun h10=>?_) (fun h10=>?_)
       ·replace hk:=dy hk h10;refine iT ?_;obtain rfl:=Option.some.inj hk;exact eh
       ·replace hk:=dz hk h10;refine gY ?_;rw [←hn4] at hk;exact K.next (i_5+1) hk a6 (.c (.c (.c .nil))) (List.Sublist.refl _)
     ·have p6:=of_decide_eq_false h6;rw [fL a6,←hkk4] at hk; (try dsimp only at hk);refine ni ?_;exact ks
   ·rintro _ hk;rw [←hk3] at hk; (try dsimp only at hk);refine kj ?_;obtain rfl:=Option.some.inj hk;exact eh
def zbl (d:List GDomain)(g_:List GChoice)(s:Int)(c:Int):Bool:=
 dQ (fun (has_1:Bool)=>
  has_1)
 (fun k2=>
  dk (fun (i_5:Nat) (next4:Bool→Bool) (has_3:Bool)=>
   (bif decide ((cI g_ i_5).Station=s) then
    next4 (decide ((cI g_ i_5).Channel=c))
    else
    (bif !(lG d ((cI g_ i_5).Station) ((cI g_ i_5).Channel)) then
     false
     else
     next4 has_3)))
  (fun (has_3:Bool)=>
   k2 has_3) (g_.length - 0) 0 false)
theorem zfS (F0:Frz)(w:World)(hF0:F0.At w)(d:List GDomain)(vd:Value)(cd:List (List Value))(hd:SlD cK F0 vd 2 cd d)(g_:List GChoice)(vg_:Value)(hg_:SlC F0 vg_ 2 (g_.map cH))(s:Int)(c:Int):Calls Tryz.prog 130 #[vd,vg_, .int .i64 s, .int .i64 c] w fun e w'=>e= .returned (.bool (zbl d g_ s c))∧Below w.heap.size w w':=by
 obtain ⟨r,hk⟩:∃r,zbl d g_ s c=r:=⟨_,rfl⟩;rw [hk];unfold zbl at hk;haveI:=hd.1.oneC;haveI:=hg_.oneC;obtain ⟨S0,F1,rfl,hS0,hp0⟩:=fk hF0;refine dA Tryz.func130 rfl rfl rfl hp0 ?_;refine kZ ?_;refine lZ ?_;have hq:=eD hk;clear hk;obtain ⟨k2,hk2,hk⟩:=hq; (try dsimp only at hk);refine c6 (ι:=Bool) (fun z=>[(9, .bool z)]) (fun z=>[.fr F1]) (fun z=>k2 z=r) ?_ ?_
 ·have hq:=fJ hk;clear hk;obtain ⟨f4,kk4,hf4,hkk4,hk⟩:=hq;refine fe ?_;refine T.loop (ι:=Nat×Bool) (fun z=>[(0,vd),(1,vg_),(2, .int .i64 s),(3, .int .i64 c),(9, .bool z.2),(10, .int .i64 (z.1:Int))]) (fun z=>[.fr F1]) (fun z=>dk f4 kk4 (g_.length - z.1) z.1 z.2=r) (fun z=>g_.length - z.1) (0,false) ?_ ?_ ?_ ?_
  ·exact hk
  ·exact q4Z
  ·exact eX
  ·rintro ⟨i_5,has_3⟩ hk; (try dsimp only at *);refine iZ ?_;refine q3G ?_;have hm13:g_.length≤9223372036854775807:=(List.length_map _)▸hg_.max;refine dM ?_;refine T.cond rfl (fun h6=>?_) (fun h6=>?_)
   ·have p6:=of_decide_eq_true h6;rw [fK a6] at hk;generalize hn4:dk f4 kk4 (g_.length - (i_5+1)) (i_5+1)=next4 at hk;rw [←hf4] at hk; (try dsimp only at hk);refine na ?_;refine q4d ?_;refine cL (dT 0 (i:=i_5) (j:=0) rfl rfl rfl hg_ a6) ?_;refine jm ?_;refine T.cond rfl (fun h7=>?_) (fun h7=>?_)
    ·have p7:=of_decide_eq_true h7;replace hk:=dy hk h7;refine ji ?_;refine q4d ?_;refine cL (dT 0 (i:=i_5) (j:=1) rfl rfl rfl hg_ a6) ?_;refine ft ?_;refine q38 ?_;rw [←hn4] at hk;exact K.next ((i_5+1),decide ((cI g_ i_5).Channel=c)) hk b3 (.c (.c (.c (.c (.c (.c .nil)))))) (List.Sublist.refl _)
    ·have p7:=of_decide_eq_false h7;replace hk:=dz hk h7;refine T.seq ?_;refine q20 ?_;refine q1J ?_;refine cO rfl (dT 0 (i:=i_5) (j:=0) rfl rfl rfl hg_ a6) ?_;refine gG ?_;refine q1J ?_;refine cO rfl (dT 0 (i:=i_5) (j:=1) rfl rfl rfl hg_ a6) ?_;refine dw ?_;refine cR rfl (Wt.none) rfl rfl (cM rfl rfl rfl (fun w hw=>zcW _ w (hw.fr (i:=0) rfl) d vd cd hd ((cI g_ i_5).Station) ((cI g_ i_5).Channel))) ?_;refine gJ ?_;refine kx ?_;refine T.cond rfl (fun h8=>?_) (fun h8=>?_)
     ·replace hk:=dy hk h8;refine iT ?_;subst hk;exact eh
     ·replace hk:=dz hk h8;refine gY ?_;rw [←hn4] at hk;exact K.next ((i_5+1),has_3) hk b3 (.c (.c (.c (.c (.c (.c .nil)))))) (List.Sublist.refl _)
   ·have p6:=of_decide_eq_false h6;rw [fL a6,←hkk4] at hk; (try dsimp only at hk);refine fx ?_;exact cP has_3 hk (.c .nil) (List.Sublist.refl _)
 ·rintro has_1 hk;rw [←hk2] at hk; (try dsimp only at hk);refine iv ?_;refine gj ?_;subst hk;exact eh
def zbR (p:GProblem)(store:List (List GChoice))(d:List GDomain)(s:Int)(c:Int):Bool:=
 dQ (fun (_:Unit)=>
  (zbh p d s c))
 (fun k1=>
  dk (fun (i_3:Nat) (next2:Unit→Bool) (_:Unit)=>
   (bif (zbl d (cI store i_3) s c) then
    true
    else
    next2 ()))
  (fun (_:Unit)=>
   k1 ()) (store.length - 0) 0 ())
theorem zgy (F0:Frz)(w:World)(hF0:F0.At w)(p:GProblem)(vp_0:Value)(cp_0:List (List Value))(hp_0:SlD cK F0 vp_0 2 cp_0 p.Domains)(vp_1:Value)(hp_1:SlC F0 vp_1 5 (p.Rules.Pairs.map cX))(vp_2:Value)(hp_2:SlC F0 vp_2 5 (p.Rules.Loads.map c4))(vp_3:Value)(hp_3:SlC F0 vp_3 4 (p.Rules.Caps.map dg))(store:List (List GChoice))(vstore:Value)(cstore:List (List Value))(hstore:SlD cJ F0 vstore 1 cstore store)(d:List GDomain)(vd:Value)(cd:List (List Value))(hd:SlD cK F0 vd 2 cd d)(s:Int)(c:Int):Calls Tryz.prog 107 #[.agg [vp_0,vp_1,vp_2,vp_3].toArray,vstore,vd, .int .i64 s, .int .i64 c] w fun e w'=>e= .returned (.bool (zbR p store d s c))∧Below w.heap.size w w':=by
 obtain ⟨r,hk⟩:∃r,zbR p store d s c=r:=⟨_,rfl⟩;rw [hk];unfold zbR at hk;haveI:=hp_0.1.oneC;haveI:=hp_1.oneC;haveI:=hp_2.oneC;haveI:=hp_3.oneC;haveI:=hstore.1.oneC;haveI:=hd.1.oneC;obtain ⟨S0,F1,rfl,hS0,hp0⟩:=fk hF0;refine dA Tryz.func107 rfl rfl rfl hp0 ?_;refine iL ?_;rintro _ _ ⟨g5,rfl,rfl⟩;refine q4l ?_;have hq:=eD hk;clear hk;obtain ⟨k1,hk1,hk⟩:=hq; (try dsimp only at hk);refine c6 (ι:=Unit) (fun z=>[(2,vd),(3, .int .i64 s),(4, .int .i64 c),(5, .pointer (some ⟨g5,0,none⟩))]) (fun z=>[.row g5 31 [vp_0,vp_1,vp_2,vp_3], .fr F1]) (fun z=>k1 ()=r) ?_ ?_
 ·have hq:=fJ hk;clear hk;obtain ⟨f2,kk2,hf2,hkk2,hk⟩:=hq;refine fe ?_;refine T.loop (ι:=Nat) (fun z=>[(1,vstore),(2,vd),(3, .int .i64 s),(4, .int .i64 c),(5, .pointer (some ⟨g5,0,none⟩)),(11, .int .i64 (z:Int))]) (fun z=>[.row g5 31 [vp_0,vp_1,vp_2,vp_3], .fr F1]) (fun z=>dk f2 kk2 (store.length - z) z ()=r) (fun z=>store.length - z) 0 ?_ ?_ ?_ ?_
  ·exact hk
  ·exact q4Z
  ·exact eX
  ·rintro i_3 hk;refine iZ ?_;refine cL (dp rfl rfl hstore.1 hstore.2.1) ?_;have hm14:store.length≤9223372036854775807:=hstore.2.1▸hstore.1.max;refine dM ?_;refine T.cond rfl (fun h4=>?_) (fun h4=>?_)
   ·have p4:=of_decide_eq_true h4;rw [fK a6] at hk;generalize hn2:dk f2 kk2 (store.length - (i_3+1)) (i_3+1)=next2 at hk;rw [←hf2] at hk; (try dsimp only at hk);refine fS ?_;refine ft ?_;refine cL (dd (i:=i_3) rfl rfl rfl hstore.1 hstore.2.1 rfl a6) ?_;refine cL (dq 1 (i:=i_3) (j:=0) rfl rfl rfl hstore.1 hstore.2.1 a6 rfl (R_List_GChoice.c0 (hstore.2.2 i_3 a6)).1) ?_;have hd22_0:=(R_List_GChoice.c0 (hstore.2.2 i_3 a6)).2;haveI:=hd22_0.oneC;refine ef ?_;refine c8 (cM rfl rfl rfl (fun w hw=>zfS _ w (hw.fr (i:=1) rfl) d vd cd hd (cI store i_3) (cI (cI cstore i_3) 0) hd22_0 s c)) ?_;refine fG ?_;refine cS ?_;refine T.cond rfl (fun h5=>?_) (fun h5=>?_)
    ·replace hk:=dy hk h5;refine iT ?_;subst hk;exact eh
    ·replace hk:=dz hk h5;refine gY ?_;rw [←hn2] at hk;exact K.next (i_3+1) hk a6 (.c (.c (.c (.c (.c (.c .nil)))))) (List.Sublist.refl _)
   ·have p4:=of_decide_eq_false h4;rw [fL a6,←hkk2] at hk; (try dsimp only at hk);refine fx ?_;exact q46
 ·rintro _ hk;rw [←hk1] at hk; (try dsimp only at hk);refine df ?_;refine iN ?_;refine ft ?_;refine c8 (cM rfl rfl rfl (fun w hw=>zgN _ w (hw.fr (i:=1) rfl) p vp_0 cp_0 hp_0 vp_1 hp_1 vp_2 hp_2 vp_3 hp_3 d vd cd hd s c)) ?_;refine fG ?_;refine fI ?_;subst hk;exact eh
def zbT (fuel:Nat)(p:GProblem)(store:List (List GChoice))(d:List GDomain):Option (List GDomain×Bool):=
 dQ (fun (d_1:List GDomain)=>
  dQ (fun (_:Unit)=>
   dQ (fun (_:Unit)=>
    some (d_1,true))
   (fun k25=>
    dk (fun (i_27:Nat) (next26:Unit→Option (List GDomain×Bool)) (_:Unit)=>
     (bif decide (((cI store i_27).length:Int)=0) then
      some ([],false)
      else
      next26 ()))
    (fun (_:Unit)=>
     k25 ()) (store.length - 0) 0 ()))
  (fun k20=>
   dk (fun (i_22:Nat) (next21:Unit→Option (List GDomain×Bool)) (_:Unit)=>
    (bif decide ((((cI d_1 i_22).Channels).length:Int)=0) then
     some ([],false)
     else
     next21 ()))
   (fun (_:Unit)=>
    k20 ()) (d_1.length - 0) 0 ()))
 (fun k2=>
  iC (fun (next5:(List GDomain×Bool)→Option (List GDomain×Bool)) (s5:List GDomain×Bool)=>
   (bif s5.2 then
    iC (fun (next11:(List GDomain×Bool×Int)→Option (List GDomain×Bool)) (s11:List GDomain×Bool×Int)=>
     (bif decide (s11.2.2<(s11.1.length:Int)) then
      eG (0≤s11.2.2∧s11.2.2<(s11.1.length:Int)) <|
      kh (fun (k_17:Nat) (next16:(List GDomain×Bool)→Option (List GDomain×Bool)) (s16:List GDomain×Bool)=>
       eG (0≤s11.2.2∧s11.2.2<(s16.1.length:Int)) <|
       eG (0≤(k_17:Int)∧(k_17:Int)<(((cI s16.1 s11.2.2.toNat).Channels).length:Int)) <|
       (bif (zbR p store s16.1 ((cI s16.1 s11.2.2.toNat).Station) (cI ((cI s16.1 s11.2.2.toNat).Channels) k_17)) then
        (mU s16.1 ((cI s16.1 s11.2.2.toNat).Station) (cI ((cI s16.1 s11.2.2.toNat).Channels) k_17)).bind fun r55=>
        next16 (r55,true)
        else
        next16 (s16.1,s16.2)))
      (fun (s16:List GDomain×Bool)=>
       next11 (s16.1,s16.2,(s11.2.2+1))) (((cI s11.1 s11.2.2.toNat).Channels).length) (s11.1,s11.2.1)
      else
      next5 (s11.1,s11.2.1))) fuel (s5.1,false,0)
    else
    k2 s5.1)) fuel (d,true))
theorem zfr (F0:Frz)(w:World)(hF0:F0.At w)(p:GProblem)(vp_0:Value)(cp_0:List (List Value))(hp_0:SlD cK F0 vp_0 2 cp_0 p.Domains)(vp_1:Value)(hp_1:SlC F0 vp_1 5 (p.Rules.Pairs.map cX))(vp_2:Value)(hp_2:SlC F0 vp_2 5 (p.Rules.Loads.map c4))(vp_3:Value)(hp_3:SlC F0 vp_3 4 (p.Rules.Caps.map dg))(store:List (List GChoice))(vstore:Value)(cstore:List (List Value))(hstore:SlD cJ F0 vstore 1 cstore store)(d:List GDomain)(vd:Value)(cd:List (List Value))(hd:SlD cK F0 vd 2 cd d)(fuel:Nat)(r:List GDomain×Bool)(hr:zbT fuel p store d=some r):Calls Tryz.prog 74 #[.agg [vp_0,vp_1,vp_2,vp_3].toArray,vstore,vd] w fun e w'=>∃(y:Value×List (List Value)) (G:Frz),(SlD cK G y.1 2 y.2 r.1)∧e= .returned (.tuple #[y.1, .bool r.2])∧Fx F0 w G w':=by
 have hk:=hr;unfold zbT at hk;haveI:=hp_0.1.oneC;haveI:=hp_1.oneC;haveI:=hp_2.oneC;haveI:=hp_3.oneC;haveI:=hstore.1.oneC;haveI:=hd.1.oneC;obtain ⟨S0,F1,rfl,hS0,hp0⟩:=fk hF0;refine dA Tryz.func74 rfl rfl rfl hp0 ?_;refine iL ?_;rintro _ _ ⟨g3,rfl,rfl⟩;refine ef ?_;refine lZ ?_;have hq:=eD hk;clear hk;obtain ⟨k2,hk2,hk⟩:=hq; (try dsimp only at hk);refine c6 (ι:=List GDomain×Value×List (List Value)×FzB w (fun _=>False) S0) (fun z=>[(1,vstore),(2,z.2.1)]) (fun z=>[.fr z.2.2.2]) (fun z=>k2 z.1=some r∧SlD cK z.2.2.2.toFrz z.2.1 2 z.2.2.1 z.1∧F1.toFrz.Le z.2.2.2.toFrz) ?_ ?_
 ·have hq:=zde hk;clear hk;obtain ⟨f5,hf5,hk⟩:=hq;refine fe ?_;refine T.loop (ι:=Nat×List GDomain×Value×List (List Value)×Bool×FzB w (fun _=>False) S0) (fun z=>[(1,vstore),(2,z.2.2.1),(3, .pointer (some ⟨g3,0,none⟩)),(8, .bool z.2.2.2.2.1)]) (fun z=>[.row g3 31 [vp_0,vp_1,vp_2,vp_3], .fr z.2.2.2.2.2]) (fun z=>iC f5 z.1 (z.2.1,z.2.2.2.2.1)=some r∧SlD cK z.2.2.2.2.2.toFrz z.2.2.1 2 z.2.2.2.1 z.2.1∧F1.toFrz.Le z.2.2.2.2.2.toFrz) (fun z=>z.1) (fuel,d,vd,cd,true,F1) ?_ ?_ ?_ ?_
  ·exact ⟨hk,hd,(Frz.Le.refl _)⟩
  ·exact mD
  ·exact eX
  ·rintro ⟨m_6,d_3,vd_3,cd_3,again_4,F3⟩ ⟨hk,hd_3,le1_3⟩; (try dsimp only at *);haveI:=hd_3.1.oneC;have hq:=zdH hk;clear hk;obtain ⟨m_6',rfl,hk⟩:=hq;generalize hn5:iC f5 m_6'=next5 at hk;rw [←hf5] at hk; (try dsimp only at hk);refine mm ?_;refine T.cond rfl (fun h7=>?_) (fun h7=>?_)
   ·replace hk:=dy hk h7;refine T.skip (K.seq (T.block (df ?_)));refine gn ?_;refine dM ?_;have hq:=zde hk;clear hk;obtain ⟨f11,hf11,hk⟩:=hq;refine fe ?_;refine T.loop (ι:=Nat×List GDomain×Value×List (List Value)×Bool×Int×FzB w (fun _=>False) S0) (fun z=>[(1,vstore),(2,z.2.2.1),(3, .pointer (some ⟨g3,0,none⟩)),(8, .bool z.2.2.2.2.1),(9, .int .i64 z.2.2.2.2.2.1)]) (fun z=>[.row g3 31 [vp_0,vp_1,vp_2,vp_3], .fr z.2.2.2.2.2.2]) (fun z=>iC f11 z.1 (z.2.1,z.2.2.2.2.1,z.2.2.2.2.2.1)=some r∧SlD cK z.2.2.2.2.2.2.toFrz z.2.2.1 2 z.2.2.2.1 z.2.1∧F3.toFrz.Le z.2.2.2.2.2.2.toFrz) (fun z=>z.1) (fuel,d_3,vd_3,cd_3,false,0,F3) ?_ ?_ ?_ ?_
    ·exact ⟨hk,hd_3,(Frz.Le.refl _)⟩
    ·exact mt
    ·exact eX
    ·rintro ⟨m_12,d_8,vd_8,cd_8,again_9,i_10,F4⟩ ⟨hk,hd_8,le3_4⟩; (try dsimp only at *);have le1_4:=le1_3.trans le3_4;haveI:=hd_8.1.oneC;have hq:=zdH hk;clear hk;obtain ⟨m_12',rfl,hk⟩:=hq;generalize hn11:iC f11 m_12'=next11 at hk;rw [←hf11] at hk; (try dsimp only at hk);refine iZ ?_;refine cL (dp rfl rfl hd_8.1 hd_8.2.1) ?_;have hm18:d_8.length≤9223372036854775807:=hd_8.2.1▸hd_8.1.max;refine dM ?_;refine T.cond rfl (fun h13=>?_) (fun h13=>?_)
     ·have p13:=of_decide_eq_true h13;replace hk:=dy hk h13;refine kB ?_;have hq:(0≤i_10∧i_10<(d_8.length:Int))∧_:=gQ hk;clear hk;obtain ⟨g24,hk⟩:=hq; (try dsimp only at hk);refine ji ?_;refine cL (dd (i:=i_10.toNat) rfl rfl rfl hd_8.1 hd_8.2.1 a6 a6) ?_;refine cL (em rfl rfl hd_8.1 hd_8.2.1 a6) ?_;refine cL (dq 1 (i:=i_10.toNat) (j:=1) rfl rfl rfl hd_8.1 hd_8.2.1 a6 rfl (GDomain.c1 (hd_8.2.2 i_10.toNat a6)).1) ?_;have hd26_1:=(GDomain.c1 (hd_8.2.2 i_10.toNat a6)).2;haveI:=hd26_1.oneC;refine cL (dp rfl rfl hd26_1 (List.length_map _)) ?_;have hm27:((cI d_8 i_10.toNat).Channels).length≤9223372036854775807:=(List.length_map _)▸hd26_1.max;refine q2m ?_;refine dM ?_;have hq:=zg8 hk;clear hk;obtain ⟨f16,kk16,hf16,hkk16,hk⟩:=hq;refine fe ?_;refine T.loop (ι:=Nat×List GDomain×Value×List (List Value)×Bool×FzB w (fun _=>False) S0) (fun z=>[(1,vstore),(2,z.2.2.1),(3, .pointer (some ⟨g3,0,none⟩)),(8, .bool z.2.2.2.2.1),(9, .int .i64 i_10),(10, .int .i64 ((z.1:Int) - 1))]) (fun z=>[.row g3 31 [vp_0,vp_1,vp_2,vp_3], .fr z.2.2.2.2.2]) (fun z=>kh f16 kk16 z.1 (z.2.1,z.2.2.2.2.1)=some r∧z.1≤((cI d_8 i_10.toNat).Channels).length∧SlD cK z.2.2.2.2.2.toFrz z.2.2.1 2 z.2.2.2.1 z.2.1∧F4.toFrz.Le z.2.2.2.2.2.toFrz) (fun z=>z.1) (((cI d_8 i_10.toNat).Channels).length,d_8,vd_8,cd_8,again_9,F4) ?_ ?_ ?_ ?_
      ·exact ⟨hk,(Nat.le_refl _),hd_8,(Frz.Le.refl _)⟩
      ·exact q4Z
      ·exact eX
      ·rintro ⟨k_17,d_14,vd_14,cd_14,again_15,F5⟩ ⟨hk,hle16,hd_14,le4_5⟩; (try dsimp only at *);have le1_5:=le1_4.trans le4_5;have le3_5:=le3_4.trans le4_5;haveI:=hd_14.1.oneC;refine iZ ?_;refine cS ?_;refine T.cond rfl (fun h18=>?_) (fun h18=>?_)
       ·have p18:=of_decide_eq_true h18;obtain ⟨k_17',rfl⟩:∃q,k_17=q+1:=⟨k_17 - 1,by omega⟩;replace hk:f16 k_17' (kh f16 kk16 k_17') (d_14,again_15)=some r:=hk;generalize hn16:kh f16 kk16 k_17'=next16 at hk;rw [←hf16] at hk; (try dsimp only at hk);refine T.aJ (gs:=[(1,vstore),(2,vd_14),(3, .pointer (some ⟨g3,0,none⟩)),(8, .bool again_15),(9, .int .i64 i_10),(10, .int .i64 (k_17':Int))]) (by repeat (first|exact Sub.nil|refine Sub.cons rfl ?_|refine dU rfl a6 ?_|refine gE rfl b7 ?_)) (List.Sublist.refl _) ?_;refine kB ?_;have hq:(0≤i_10∧i_10<(d_14.length:Int))∧_:=gQ hk;clear hk;obtain ⟨g35,hk⟩:=hq;have hq:(0≤(k_17':Int)∧(k_17':Int)<(((cI d_14 i_10.toNat).Channels).length:Int))∧_:=gQ hk;clear hk;obtain ⟨g44,hk⟩:=hq; (try dsimp only at hk);refine dF (sN 0 14 (.still 14 .done)) _ a8 (List.Sublist.refl _) ?_;refine q3M ?_;refine cO rfl (dq 1 (i:=i_10.toNat) (j:=0) rfl rfl rfl hd_14.1 hd_14.2.1 a6 rfl (GDomain.c0 (hd_14.2.2 i_10.toNat a6))) ?_;refine q3M ?_;refine cO rfl (dq 1 (i:=i_10.toNat) (j:=1) rfl rfl rfl hd_14.1 hd_14.2.1 a6 rfl (GDomain.c1 (hd_14.2.2 i_10.toNat a6)).1) ?_;have hd42_1:=(GDomain.c1 (hd_14.2.2 i_10.toNat a6)).2;haveI:=hd42_1.oneC;refine eY ?_;refine cO rfl (dd (i:=k_17') rfl rfl rfl hd42_1 (List.length_map _) rfl a6) ?_;refine cO rfl (dT 1 (i:=k_17') (j:=0) rfl rfl rfl hd42_1 a6) ?_;refine jt ?_;refine K.seq (df ?_);refine iN ?_;refine kV ?_;refine c8 (cM rfl rfl rfl (fun w hw=>zgy _ w (hw.fr (i:=1) rfl) p vp_0 cp_0 (SlD.mono (rep:=cK) (fun _ _ _ _=>GDomain.mono) hp_0 le1_5) vp_1 (SlC.mono hp_1 le1_5) vp_2 (SlC.mono hp_2 le1_5) vp_3 (SlC.mono hp_3 le1_5) store vstore cstore (SlD.mono (rep:=cJ) (fun _ _ _ _=>R_List_GChoice.mono) hstore le1_5) d_14 vd_14 cd_14 hd_14 ((cI d_14 i_10.toNat).Station) (cI ((cI d_14 i_10.toNat).Channels) k_17'))) ?_;refine fG ?_;refine cS ?_;refine T.cond rfl (fun h19=>?_) (fun h19=>?_)
        ·replace hk:=dy hk h19;have hq:=fu hk;clear hk;obtain ⟨r55,hr55,hk⟩:=hq; (try dsimp only at hk);refine nv ?_;refine c8 (eP 1 rfl rfl rfl rfl (fun w hw hF=>zih _ w hF d_14 vd_14 cd_14 hd_14 ((cI d_14 i_10.toNat).Station) (cI ((cI d_14 i_10.toNat).Channels) k_17') r55 hr55)) ?_;rintro _ _ ⟨⟨v55_0_0,cs55_0_0⟩,F6,le5_6,hf55_0_0,hq,rfl⟩;obtain rfl:=hq.symm;dsimp only at hf55_0_0 ⊢;have le4_6:=le4_5.trans le5_6;haveI:=hf55_0_0.1.oneC;refine ef ?_;refine q05 ?_;refine q4s ?_;rw [←hn16] at hk;exact K.next (k_17',r55,v55_0_0,cs55_0_0,true,F6) ⟨hk,b3,hf55_0_0,le4_6⟩ b3 (.c (.c (.c (.c (.c (.c .nil)))))) (List.Sublist.refl _)
        ·replace hk:=dz hk h19;refine q0q ?_;refine q4s ?_;rw [←hn16] at hk;exact K.next (k_17',d_14,vd_14,cd_14,again_15,F5) ⟨hk,b3,hd_14,le4_5⟩ b3 (.c (.c (.c (.c (.c (.c .nil)))))) (List.Sublist.refl _)
       ·have p18:=of_decide_eq_false h18;obtain rfl:k_17=0:=a6;replace hk:kk16 (d_14,again_15)=some r:=hk;rw [←hkk16] at hk; (try dsimp only at hk);refine T.exit (ec (ec (fU (fv (K.seq (T.region ?_))))));refine di ?_;refine jQ ?_;rw [←hn11] at hk;exact K.next (m_12',d_14,vd_14,cd_14,again_15,(i_10+1),F5) ⟨hk,hd_14,le3_5⟩ b3 (.c (.c (.c (.c (.c .nil))))) (List.Sublist.refl _)
     ·have p13:=of_decide_eq_false h13;replace hk:=dz hk h13;refine q3P ?_;rw [←hn5] at hk;exact K.next (m_6',d_8,vd_8,cd_8,again_9,F4) ⟨hk,hd_8,le1_4⟩ b3 (.c (.c (.c (.c .nil)))) (List.Sublist.refl _)
   ·replace hk:=dz hk h7;refine ni ?_;exact cP (d_3,vd_3,cd_3,F3) ⟨hk,hd_3,le1_3⟩ (.c (.c .nil)) (List.Sublist.refl _)
 ·rintro ⟨d_1,vd_1,cd_1,F2⟩ ⟨hk,hd_1,le1_2⟩; (try dsimp only at *);rw [←hk2] at hk; (try dsimp only at hk);haveI:=hd_1.1.oneC;refine mm ?_;have hq:=eD hk;clear hk;obtain ⟨k20,hk20,hk⟩:=hq; (try dsimp only at hk);refine c6 (ι:=Unit) (fun z=>[(1,vstore),(2,vd_1)]) (fun z=>[.fr F2]) (fun z=>k20 ()=some r) ?_ ?_
  ·have hq:=fJ hk;clear hk;obtain ⟨f21,kk21,hf21,hkk21,hk⟩:=hq;refine fe ?_;refine T.loop (ι:=Nat) (fun z=>[(1,vstore),(2,vd_1),(13, .int .i64 (z:Int))]) (fun z=>[.fr F2]) (fun z=>dk f21 kk21 (d_1.length - z) z ()=some r) (fun z=>d_1.length - z) 0 ?_ ?_ ?_ ?_
   ·exact hk
   ·exact mw
   ·exact eX
   ·rintro i_22 hk;refine iZ ?_;refine cL (dp rfl rfl hd_1.1 hd_1.2.1) ?_;have hm58:d_1.length≤9223372036854775807:=hd_1.2.1▸hd_1.1.max;refine dM ?_;refine T.cond rfl (fun h23=>?_) (fun h23=>?_)
    ·have p23:=of_decide_eq_true h23;rw [fK a6] at hk;generalize hn21:dk f21 kk21 (d_1.length - (i_22+1)) (i_22+1)=next21 at hk;rw [←hf21] at hk; (try dsimp only at hk);refine na ?_;refine cL (dd (i:=i_22) rfl rfl rfl hd_1.1 hd_1.2.1 rfl a6) ?_;refine cL (em rfl rfl hd_1.1 hd_1.2.1 a6) ?_;refine cL (dq 0 (i:=i_22) (j:=1) rfl rfl rfl hd_1.1 hd_1.2.1 a6 rfl (GDomain.c1 (hd_1.2.2 i_22 a6)).1) ?_;have hd66_1:=(GDomain.c1 (hd_1.2.2 i_22 a6)).2;haveI:=hd66_1.oneC;refine cL (dp rfl rfl hd66_1 (List.length_map _)) ?_;have hm67:((cI d_1 i_22).Channels).length≤9223372036854775807:=(List.length_map _)▸hd66_1.max;refine dM ?_;refine T.cond rfl (fun h24=>?_) (fun h24=>?_)
     ·have p24:=of_decide_eq_true h24;replace hk:=dy hk h24;refine iv ?_;refine mE ?_;obtain rfl:=Option.some.inj hk;exact q5r
     ·have p24:=of_decide_eq_false h24;replace hk:=dz hk h24;refine gY ?_;rw [←hn21] at hk;exact K.next (i_22+1) hk a6 (.c (.c (.c .nil))) (List.Sublist.refl _)
    ·have p23:=of_decide_eq_false h23;rw [fL a6,←hkk21] at hk; (try dsimp only at hk);refine fx ?_;exact cP () hk (.c (.c .nil)) (List.Sublist.refl _)
  ·rintro _ hk;rw [←hk20] at hk; (try dsimp only at hk);refine mm ?_;have hq:=eD hk;clear hk;obtain ⟨k25,hk25,hk⟩:=hq; (try dsimp only at hk);refine c6 (ι:=Unit) (fun z=>[(2,vd_1)]) (fun z=>[.fr F2]) (fun z=>k25 ()=some r) ?_ ?_
   ·have hq:=fJ hk;clear hk;obtain ⟨f26,kk26,hf26,hkk26,hk⟩:=hq;refine fe ?_;refine T.loop (ι:=Nat) (fun z=>[(1,vstore),(2,vd_1),(14, .int .i64 (z:Int))]) (fun z=>[.fr F2]) (fun z=>dk f26 kk26 (store.length - z) z ()=some r) (fun z=>store.length - z) 0 ?_ ?_ ?_ ?_
    ·exact hk
    ·exact mw
    ·exact eX
    ·rintro i_27 hk;refine iZ ?_;refine cL (dp rfl rfl (SlD.mono (rep:=cJ) (fun _ _ _ _=>R_List_GChoice.mono) hstore le1_2).1 (SlD.mono (rep:=cJ) (fun _ _ _ _=>R_List_GChoice.mono) hstore le1_2).2.1) ?_;have hm71:store.length≤9223372036854775807:=(SlD.mono (rep:=cJ) (fun _ _ _ _=>R_List_GChoice.mono) hstore le1_2).2.1▸(SlD.mono (rep:=cJ) (fun _ _ _ _=>R_List_GChoice.mono) hstore le1_2).1.max;refine dM ?_;refine T.cond rfl (fun h28=>?_) (fun h28=>?_)
     ·have p28:=of_decide_eq_true h28;rw [fK a6] at hk;generalize hn26:dk f26 kk26 (store.length - (i_27+1)) (i_27+1)=next26 at hk;rw [←hf26] at hk; (try dsimp only at hk);refine na ?_;refine cL (dd (i:=i_27) rfl rfl rfl (SlD.mono (rep:=cJ) (fun _ _ _ _=>R_List_GChoice.mono) hstore le1_2).1 (SlD.mono (rep:=cJ) (fun _ _ _ _=>R_List_GChoice.mono) hstore le1_2).2.1 rfl a6) ?_;refine cL (dq 0 (i:=i_27) (j:=0) rfl rfl rfl (SlD.mono (rep:=cJ) (fun _ _ _ _=>R_List_GChoice.mono) hstore le1_2).1 (SlD.mono (rep:=cJ) (fun _ _ _ _=>R_List_GChoice.mono) hstore le1_2).2.1 a6 rfl (R_List_GChoice.c0 ((SlD.mono (rep:=cJ) (fun _ _ _ _=>R_List_GChoice.mono) hstore le1_2).2.2 i_27 a6)).1) ?_;have hd78_0:=(R_List_GChoice.c0 ((SlD.mono (rep:=cJ) (fun _ _ _ _=>R_List_GChoice.mono) hstore le1_2).2.2 i_27 a6)).2;haveI:=hd78_0.oneC;refine cL (dp rfl rfl hd78_0 (List.length_map _)) ?_;have hm79:(cI store i_27).length≤9223372036854775807:=(List.length_map _)▸hd78_0.max;refine dM ?_;refine T.cond rfl (fun h29=>?_) (fun h29=>?_)
      ·have p29:=of_decide_eq_true h29;replace hk:=dy hk h29;refine iv ?_;refine mE ?_;obtain rfl:=Option.some.inj hk;exact q5r
      ·have p29:=of_decide_eq_false h29;replace hk:=dz hk h29;refine gY ?_;rw [←hn26] at hk;exact K.next (i_27+1) hk a6 (.c (.c (.c .nil))) (List.Sublist.refl _)
     ·have p28:=of_decide_eq_false h28;rw [fL a6,←hkk26] at hk; (try dsimp only at hk);refine fx ?_;exact q44
   ·rintro _ hk;rw [←hk25] at hk; (try dsimp only at hk);refine q4z ?_;refine gj ?_;obtain rfl:=Option.some.inj hk;exact fF rfl rfl rfl (fun w' hw=>⟨(vd_1,cd_1),F2.toFrz,hd_1,rfl,gZ hw (i:=0) rfl hS0 le1_2⟩)
def zbJ (fuel:Nat)(p:GProblem)(store:List (List GChoice))(l:List GChoice):Option (List GDomain×Bool):=
 dQ (fun (d_1:List GDomain)=>
  (zbT fuel p store d_1).bind fun r33=>
  some (r33.1,r33.2))
 (fun k2=>
  dk (fun (i_5:Nat) (next4:List GDomain→Option (List GDomain×Bool)) (d_3:List GDomain)=>
   (zbE d_3 ((cI l i_5).Station) ((cI l i_5).Channel)).bind fun r29=>
   next4 r29)
  (fun (d_3:List GDomain)=>
   k2 d_3) (l.length - 0) 0 p.Domains)
theorem zjm (F0:Frz)(w:World)(hF0:F0.At w)(p:GProblem)(vp_0:Value)(cp_0:List (List Value))(hp_0:SlD cK F0 vp_0 2 cp_0 p.Domains)(vp_1:Value)(hp_1:SlC F0 vp_1 5 (p.Rules.Pairs.map cX))(vp_2:Value)(hp_2:SlC F0 vp_2 5 (p.Rules.Loads.map c4))(vp_3:Value)(hp_3:SlC F0 vp_3 4 (p.Rules.Caps.map dg))(store:List (List GChoice))(vstore:Value)(cstore:List (List Value))(hstore:SlD cJ F0 vstore 1 cstore store)(l:List GChoice)(vl:Value)(hl:SlC F0 vl 2 (l.map cH))(fuel:Nat)(r:List GDomain×Bool)(hr:zbJ fuel p store l=some r):Calls Tryz.prog 38 #[.agg [vp_0,vp_1,vp_2,vp_3].toArray,vstore,vl] w fun e w'=>∃(y:Value×List (List Value)) (G:Frz),(SlD cK G y.1 2 y.2 r.1)∧e= .returned (.tuple #[y.1, .bool r.2])∧Fx F0 w G w':=by
 have hk:=hr;unfold zbJ at hk;haveI:=hp_0.1.oneC;haveI:=hp_1.oneC;haveI:=hp_2.oneC;haveI:=hp_3.oneC;haveI:=hstore.1.oneC;haveI:=hl.oneC;obtain ⟨S0,F1,rfl,hS0,hp0⟩:=fk hF0;refine dA Tryz.func38 rfl rfl rfl hp0 ?_;refine iL ?_;rintro _ _ ⟨g3,rfl,rfl⟩;refine ef ?_;refine du ?_;refine eB ?_;refine q4l ?_;have hq:=eD hk;clear hk;obtain ⟨k2,hk2,hk⟩:=hq; (try dsimp only at hk);refine c6 (ι:=List GDomain×Value×List (List Value)×FzB w (fun _=>False) S0) (fun z=>[(1,vstore),(3, .pointer (some ⟨g3,0,none⟩)),(8,z.2.1)]) (fun z=>[.row g3 31 [vp_0,vp_1,vp_2,vp_3], .fr z.2.2.2]) (fun z=>k2 z.1=some r∧SlD cK z.2.2.2.toFrz z.2.1 2 z.2.2.1 z.1∧F1.toFrz.Le z.2.2.2.toFrz) ?_ ?_
 ·have hq:=fJ hk;clear hk;obtain ⟨f4,kk4,hf4,hkk4,hk⟩:=hq;refine fe ?_;refine T.loop (ι:=Nat×List GDomain×Value×List (List Value)×FzB w (fun _=>False) S0) (fun z=>[(1,vstore),(2,vl),(3, .pointer (some ⟨g3,0,none⟩)),(8,z.2.2.1),(9, .int .i64 (z.1:Int))]) (fun z=>[.row g3 31 [vp_0,vp_1,vp_2,vp_3], .fr z.2.2.2.2]) (fun z=>dk f4 kk4 (l.length - z.1) z.1 z.2.1=some r∧SlD cK z.2.2.2.2.toFrz z.2.2.1 2 z.2.2.2.1 z.2.1∧F1.toFrz.Le z.2.2.2.2.toFrz) (fun z=>l.length - z.1) (0,p.Domains,vp_0,cp_0,F1) ?_ ?_ ?_ ?_
  ·exact ⟨hk,hp_0,(Frz.Le.refl _)⟩
  ·exact mt
  ·exact eX
  ·rintro ⟨i_5,d_3,vd_3,cd_3,F3⟩ ⟨hk,hd_3,le1_3⟩; (try dsimp only at *);haveI:=hd_3.1.oneC;refine iZ ?_;refine cL (dp rfl rfl (SlC.mono hl le1_3) (List.length_map _)) ?_;have hm14:l.length≤9223372036854775807:=(List.length_map _)▸(SlC.mono hl le1_3).max;refine dM ?_;refine T.cond rfl (fun h6=>?_) (fun h6=>?_)
   ·have p6:=of_decide_eq_true h6;rw [fK a6] at hk;generalize hn4:dk f4 kk4 (l.length - (i_5+1)) (i_5+1)=next4 at hk;rw [←hf4] at hk; (try dsimp only at hk);refine T.skip (K.seq (T.seq (T.block ?_)));have hq:=fu hk;clear hk;obtain ⟨r29,hr29,hk⟩:=hq; (try dsimp only at hk);refine q20 ?_;refine q3o ?_;refine cO rfl (dT 1 (i:=i_5) (j:=0) rfl rfl rfl (SlC.mono hl le1_3) a6) ?_;refine gG ?_;refine q3o ?_;refine cO rfl (dT 1 (i:=i_5) (j:=1) rfl rfl rfl (SlC.mono hl le1_3) a6) ?_;refine dw ?_;refine cR rfl (Wt.none) rfl rfl (eP 1 rfl rfl rfl rfl (fun w hw hF=>ziW _ w hF d_3 vd_3 cd_3 hd_3 ((cI l i_5).Station) ((cI l i_5).Channel) r29 hr29)) ?_;rintro _ _ ⟨⟨v29_0_0,cs29_0_0⟩,F4,le3_4,hf29_0_0,hq,rfl⟩;obtain rfl:=hq.symm;dsimp only at hf29_0_0 ⊢;have le1_4:=le1_3.trans le3_4;haveI:=hf29_0_0.1.oneC;refine ⟨(fun w hw=>(hw.frLe (i:=1) rfl le3_4).sub Sx),?_⟩;refine j9 ?_;refine fv (K.seq (T.region ?_));refine di ?_;refine jQ ?_;rw [←hn4] at hk;exact K.next ((i_5+1),r29,v29_0_0,cs29_0_0,F4) ⟨hk,hf29_0_0,le1_4⟩ b3 (.c (.c (.c (.c (.c .nil))))) (List.Sublist.refl _)
   ·have p6:=of_decide_eq_false h6;rw [fL a6,←hkk4] at hk; (try dsimp only at hk);refine fx ?_;exact cP (d_3,vd_3,cd_3,F3) ⟨hk,hd_3,le1_3⟩ (.c (.c (.c .nil))) (List.Sublist.refl _)
 ·rintro ⟨d_1,vd_1,cd_1,F2⟩ ⟨hk,hd_1,le1_2⟩; (try dsimp only at *);rw [←hk2] at hk; (try dsimp only at hk);haveI:=hd_1.1.oneC;refine T.seq ?_;have hq:=fu hk;clear hk;obtain ⟨r33,hr33,hk⟩:=hq; (try dsimp only at hk);refine fi ?_;refine iN ?_;refine ef ?_;refine c8 (eP 1 rfl rfl rfl rfl (fun w hw hF=>zfr _ w hF p vp_0 cp_0 (SlD.mono (rep:=cK) (fun _ _ _ _=>GDomain.mono) hp_0 le1_2) vp_1 (SlC.mono hp_1 le1_2) vp_2 (SlC.mono hp_2 le1_2) vp_3 (SlC.mono hp_3 le1_2) store vstore cstore (SlD.mono (rep:=cJ) (fun _ _ _ _=>R_List_GChoice.mono) hstore le1_2) d_1 vd_1 cd_1 hd_1 fuel r33 hr33)) ?_;rintro _ _ ⟨⟨v33_0_0,cs33_0_0⟩,F5,le2_5,hf33_0_0,rfl,rfl⟩;dsimp only at hf33_0_0 ⊢;have le1_5:=le1_2.trans le2_5;haveI:=hf33_0_0.1.oneC;refine kV ?_;refine gj ?_;obtain rfl:=Option.some.inj hk;exact fF rfl rfl rfl (fun w' hw=>⟨(v33_0_0,cs33_0_0),F5.toFrz,hf33_0_0,rfl,gZ hw (i:=1) rfl hS0 le1_5⟩)
def zbU (fuel:Nat)(p:GProblem)(store:List (List GChoice))(g_:List GChoice):Option Bool:=
 (zbJ fuel p store g_).bind fun r13=>
 some (!r13.2)
theorem zgI (F0:Frz)(w:World)(hF0:F0.At w)(p:GProblem)(vp_0:Value)(cp_0:List (List Value))(hp_0:SlD cK F0 vp_0 2 cp_0 p.Domains)(vp_1:Value)(hp_1:SlC F0 vp_1 5 (p.Rules.Pairs.map cX))(vp_2:Value)(hp_2:SlC F0 vp_2 5 (p.Rules.Loads.map c4))(vp_3:Value)(hp_3:SlC F0 vp_3 4 (p.Rules.Caps.map dg))(store:List (List GChoice))(vstore:Value)(cstore:List (List Value))(hstore:SlD cJ F0 vstore 1 cstore store)(g_:List GChoice)(vg_:Value)(hg_:SlC F0 vg_ 2 (g_.map cH))(fuel:Nat)(r:Bool)(hr:zbU fuel p store g_=some r):Calls Tryz.prog 21 #[.agg [vp_0,vp_1,vp_2,vp_3].toArray,vstore,vg_] w fun e w'=>e= .returned (.bool r)∧Below w.heap.size w w':=by
 have hk:=hr;unfold zbU at hk;haveI:=hp_0.1.oneC;haveI:=hp_1.oneC;haveI:=hp_2.oneC;haveI:=hp_3.oneC;haveI:=hstore.1.oneC;haveI:=hg_.oneC;obtain ⟨S0,F1,rfl,hS0,hp0⟩:=fk hF0;refine dA Tryz.func21 rfl rfl rfl hp0 ?_;refine iL ?_;rintro _ _ ⟨g3,rfl,rfl⟩;refine jr ?_;have hq:=fu hk;clear hk;obtain ⟨r13,hr13,hk⟩:=hq; (try dsimp only at hk);refine fi ?_;refine iN ?_;refine ef ?_;refine c8 (eP 1 rfl rfl rfl rfl (fun w hw hF=>zjm _ w hF p vp_0 cp_0 hp_0 vp_1 hp_1 vp_2 hp_2 vp_3 hp_3 store vstore cstore hstore g_ vg_ hg_ fuel r13 hr13)) ?_;rintro _ _ ⟨⟨v13_0_0,cs13_0_0⟩,F2,le1_2,hf13_0_0,rfl,rfl⟩;dsimp only at hf13_0_0 ⊢;haveI:=hf13_0_0.1.oneC;refine TL.run 5 rfl ?_;refine du ?_;refine ft ?_;refine gj ?_;obtain rfl:=Option.some.inj hk;exact eh
def zcZ (a:List (List GChoice))(b:List (List GChoice)):Bool:=
 (bif decide (¬(a.length:Int)=(b.length:Int)) then
  false
  else
  dQ (fun (_:Unit)=>
   true)
  (fun k2=>
   dk (fun (i_4:Nat) (next3:Unit→Bool) (_:Unit)=>
    (bif !(zbC (cI a i_4) (cI b i_4)) then
     false
     else
     next3 ()))
   (fun (_:Unit)=>
    k2 ()) (a.length - 0) 0 ()))
theorem ziw (F0:Frz)(w:World)(hF0:F0.At w)(a:List (List GChoice))(va:Value)(ca:List (List Value))(ha:SlD cJ F0 va 1 ca a)(b:List (List GChoice))(vb:Value)(cb:List (List Value))(hb:SlD cJ F0 vb 1 cb b):Calls Tryz.prog 37 #[va,vb] w fun e w'=>e= .returned (.bool (zcZ a b))∧Below w.heap.size w w':=by
 obtain ⟨r,hk⟩:∃r,zcZ a b=r:=⟨_,rfl⟩;rw [hk];unfold zcZ at hk;haveI:=ha.1.oneC;haveI:=hb.1.oneC;obtain ⟨S0,F1,rfl,hS0,hp0⟩:=fk hF0;refine dA Tryz.func37 rfl rfl rfl hp0 ?_;refine jD ?_;refine cL (dp rfl rfl ha.1 ha.2.1) ?_;have hm7:a.length≤9223372036854775807:=ha.2.1▸ha.1.max;refine di ?_;refine cL (dp rfl rfl hb.1 hb.2.1) ?_;have hm9:b.length≤9223372036854775807:=hb.2.1▸hb.1.max;refine dM ?_;refine T.cond rfl (fun h1=>?_) (fun h1=>?_)
 ·have p1:=of_decide_eq_true h1;replace hk:=dy hk h1;refine jc ?_;subst hk;exact eh
 ·have p1:=of_decide_eq_false h1;replace hk:=dz hk h1;refine jT ?_;refine dM ?_;have hq:=eD hk;clear hk;obtain ⟨k2,hk2,hk⟩:=hq; (try dsimp only at hk);refine c6 (ι:=Unit) (fun z=>[]) (fun z=>[.fr F1]) (fun z=>k2 ()=r) ?_ ?_
  ·have hq:=fJ hk;clear hk;obtain ⟨f3,kk3,hf3,hkk3,hk⟩:=hq;refine fe ?_;refine T.loop (ι:=Nat) (fun z=>[(0,va),(1,vb),(5, .int .i64 (z:Int))]) (fun z=>[.fr F1]) (fun z=>dk f3 kk3 (a.length - z) z ()=r) (fun z=>a.length - z) 0 ?_ ?_ ?_ ?_
   ·exact hk
   ·exact mw
   ·exact eX
   ·rintro i_4 hk;refine iZ ?_;refine cL (dp rfl rfl ha.1 ha.2.1) ?_;refine dM ?_;refine T.cond rfl (fun h5=>?_) (fun h5=>?_)
    ·have p5:=of_decide_eq_true h5;rw [fK a6] at hk;generalize hn3:dk f3 kk3 (a.length - (i_4+1)) (i_4+1)=next3 at hk;rw [←hf3] at hk; (try dsimp only at hk);refine q3v ?_;refine gG ?_;refine cO rfl (dd (i:=i_4) rfl rfl rfl ha.1 ha.2.1 rfl a6) ?_;refine cO rfl (dq 0 (i:=i_4) (j:=0) rfl rfl rfl ha.1 ha.2.1 a6 rfl (R_List_GChoice.c0 (ha.2.2 i_4 a6)).1) ?_;have hd20_0:=(R_List_GChoice.c0 (ha.2.2 i_4 a6)).2;haveI:=hd20_0.oneC;refine gG ?_;refine cO rfl (dd (i:=i_4) rfl rfl rfl hb.1 hb.2.1 rfl a6) ?_;refine cO rfl (dq 0 (i:=i_4) (j:=0) rfl rfl rfl hb.1 hb.2.1 a6 rfl (R_List_GChoice.c0 (hb.2.2 i_4 a6)).1) ?_;have hd24_0:=(R_List_GChoice.c0 (hb.2.2 i_4 a6)).2;haveI:=hd24_0.oneC;refine dw ?_;refine cR rfl (Wt.none) rfl rfl (cM rfl rfl rfl (fun w hw=>zdW _ w (hw.fr (i:=0) rfl) (cI a i_4) (cI (cI ca i_4) 0) hd20_0 (cI b i_4) (cI (cI cb i_4) 0) hd24_0)) ?_;refine gJ ?_;refine kx ?_;refine T.cond rfl (fun h6=>?_) (fun h6=>?_)
     ·replace hk:=dy hk h6;refine iT ?_;subst hk;exact eh
     ·replace hk:=dz hk h6;refine gY ?_;rw [←hn3] at hk;exact K.next (i_4+1) hk a6 (.c (.c (.c .nil))) (List.Sublist.refl _)
    ·have p5:=of_decide_eq_false h5;rw [fL a6,←hkk3] at hk; (try dsimp only at hk);refine fx ?_;exact ks
  ·rintro _ hk;rw [←hk2] at hk; (try dsimp only at hk);refine kj ?_;subst hk;exact eh
theorem zd7 (F0:Frz)(w:World)(hF0:F0.At w)(l:List GChoice)(vl:Value)(hl:SlC F0 vl 2 (l.map cH))(hr:dW l.length 16):Calls Tryz.prog 99 #[vl] w fun e w'=>∃v':Value,True∧e= .returned v'∧Hp w (fun _=>False) [.sl v' 34 2 l.length (l.flatMap cH)] w':=by
 haveI:=hl.oneC;have hl0:=hl;obtain ⟨A,cap,hv,hlc,hcm,hcl,hcs⟩:=hl0;have hlen:(l.map cH).length=l.length:=List.length_map _;obtain ⟨S0,F1,hF1,hS0,hp0⟩:=fk hF0
 cases hA:A with
 |none=>
  have h0:l=[]:=by
   cases l with
   |nil=>rfl
   |cons x r=>
    obtain ⟨g,off,h1,_⟩:=hcs b2;rw [hA] at h1;cases h1
  subst h0;refine dA (M:=fun _=>False) (hs:=[.fr F1]) Tryz.func99 rfl rfl rfl hp0 ?_;refine jD ?_;refine cL (lP (v:= .bool true) rfl rfl rfl (fun w=>by rw [hv,hA];kernel_rfl)) ?_;refine mA ?_;refine gM ?_;refine TL.slNil 34 2 ?_;refine kX ?_;exact cV rfl rfl (fun w' hw=>⟨.slice none 0 0,trivial,rfl,hw.sub Sx⟩)
 |some a=>
  rw [←hF1] at hl;refine dA (M:=fun _=>False) (hs:=[.fr F1]) Tryz.func99 rfl rfl rfl hp0 ?_;refine jD ?_;refine cL (lP (v:= .bool false) rfl rfl rfl (fun w=>by rw [hv,hA];kernel_rfl)) ?_;refine nu ?_;refine ja ?_;refine c8 (Ew.bC rfl) ?_;rintro _ _ ⟨g,rfl,rfl⟩;refine di ?_;refine c8 (lD 0 1 (k':=l.length) (l':=l.flatMap cH) (zhD (enc:=cH) (fun _=>inferInstance)) rfl rfl rfl rfl rfl hl cC (by rw [List.nil_append,←List.flatMap_def]) hr a7) ?_;rintro v' _ ⟨hv',rfl⟩;refine fI ?_;exact cV rfl rfl (fun w' hw=>⟨v',trivial,rfl,hw.sub Sx⟩)
theorem ziV (F0:Frz)(w:World)(hF0:F0.At w)(l:List GChoice)(vl:Value)(hl:SlC F0 vl 2 (l.map cH))(hr:dW l.length 16):Calls Tryz.prog 99 #[vl] w fun e w'=>∃(y:Value) (G:Frz),SlC G y 2 (l.map cH)∧e= .returned y∧Fx F0 w G w':=by
 refine (zd7 F0 w hF0 l vl hl hr).mono ?_;rintro e w' ⟨v',_,rfl,hw⟩;obtain ⟨G,h1,h2,h3⟩:=Fx.hp hF0 hw;have h4:=i1 (G:=G) (hw.own (.sl v' 34 2 l.length (l.flatMap cH)) b2) h2 (h3 _ b2);exact ⟨v',G,h4.toF rfl (fun _=>rfl),rfl,h1⟩
theorem zjG {F0 : Frz} {w : World} {vd vp vl vc : Value} {cd : List (List Value)} {p : GProblem} (hF0 : F0.At w) (h : PbF F0 vd cd vp vl vc p) :
    Calls Tryz.prog 25 #[.agg [vd, vp, vl, vc].toArray] w fun e w' => e = .returned (.bool (eN p)) ∧ Below w.heap.size w w' := by
  obtain ⟨P, rfl, hP⟩ := zi5 h hF0; rw [← znW]; exact zgt P vd vp vl vc w hP
end Go.Proofs.YtgoeeefoinkepaaGreatDoor
