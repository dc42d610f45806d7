/- Ye Wa Wn Wb Wc Yz Wd Dp Yj Df: shortened and put together by squeeze.py. -/
import Derived.Test.YtogbggmckmnlfaaGreatDoorQ10
import Derived.RecoverIn
set_option maxRecDepth 100000
set_option maxHeartbeats 4000000
set_option linter.unusedVariables false
set_option linter.unusedSectionVars false
set_option linter.unusedSimpArgs false
namespace Go.Proofs.YtogbggmckmnlfaaGreatDoor
open Go.RowKit
def zbE (x_:GProof):Bool:=
 (bif (((!(za5 x_.Stations))||(decide ((x_.Lemmas.length:Int)<1)))||(decide (4096<(x_.Lemmas.length:Int)))) then
  false
  else
  dN (fun (_:Unit)=>
   true)
  (fun k4=>
   di (fun (i_6:Nat) (next5:Unit→Bool) (_:Unit)=>
    (bif ((!(zbg (cQ x_.Lemmas i_6)))||(!((decide (((cQ x_.Lemmas i_6).length:Int)=0)) == (decide ((i_6:Int)=((x_.Lemmas.length:Int) - 1)))))) then
     false
     else
     di (fun (k_11:Nat) (next10:Unit→Bool) (_:Unit)=>
      (bif !(iE x_.Stations ((cQ (cQ x_.Lemmas i_6) k_11).Station)) then
       false
       else
       next10 ()))
     (fun (_:Unit)=>
      next5 ()) (((cQ x_.Lemmas i_6).length) - 0) 0 ()))
   (fun (_:Unit)=>
    k4 ()) (x_.Lemmas.length - 0) 0 ()))
theorem ze8 (F0:Frz)(w:World)(hF0:F0.At w)(x_:GProof)(vx__0:Value)(hx__0:SlC F0 vx__0 1 (x_.Stations.map eI))(vx__1:Value)(cx__1:List (List Value))(hx__1:SlD cP F0 vx__1 1 cx__1 x_.Lemmas):Calls Tryz.prog 14 #[.agg [vx__0,vx__1].toArray] w fun e w'=>e= .returned (.bool (zbE x_))∧Below w.heap.size w w':=by
 obtain ⟨r,hk⟩:∃r,zbE x_=r:=⟨_,rfl⟩;rw [hk];unfold zbE at hk;haveI:=hx__0.oneC;haveI:=hx__1.1.oneC;obtain ⟨S0,F1,rfl,hS0,hp0⟩:=fE hF0;refine dy Tryz.func14 rfl rfl rfl hp0 ?_;refine kg ?_;rintro _ _ ⟨g1,rfl,rfl⟩;refine dp ?_;refine iZ ?_;refine dk (ι:=Unit) (fun z=>[(1, .pointer (some ⟨g1,0,none⟩)),(21, .bool (((!(za5 x_.Stations))||(decide ((x_.Lemmas.length:Int)<1)))||(decide (4096<(x_.Lemmas.length:Int)))))]) (fun z=>[.row g1 33 [vx__0,vx__1], .fr F1]) (fun z=>True) ?_ ?_
 ·refine q3S ?_;refine cX (cS rfl rfl rfl (fun w hw=>zeo _ w (hw.fr (i:=1) rfl) x_.Stations vx__0 hx__0)) ?_;refine fb ?_;refine ez ?_;refine dO rfl rfl rfl (fun h1=>?_) (fun h1=>?_)
  ·refine TL.run 11 rfl ?_;refine TL.nil ?_;exact c4 () trivial (.c (.b (jA (jA h1)).symm .nil)) (List.Sublist.refl _)
  ·refine eX ?_;refine q2z ?_;have hm13:x_.Lemmas.length≤9223372036854775807:=hx__1.2.1▸hx__1.1.max;refine fF ?_;refine dO rfl rfl rfl (fun h2=>?_) (fun h2=>?_)
   ·have p2:=of_decide_eq_true h2;refine mi ?_;exact c4 () trivial (.c (.b (jA (mN h1 h2)).symm .nil)) (List.Sublist.refl _)
   ·have p2:=of_decide_eq_false h2;refine eX ?_;refine q2z ?_;refine q1W ?_;exact c4 () trivial (.c (.b (iC (mN h1 h2)) .nil)) (List.Sublist.refl _)
 ·rintro _ _;have hm13:x_.Lemmas.length≤9223372036854775807:=hx__1.2.1▸hx__1.1.max;refine T.cond rfl (fun h3=>?_) (fun h3=>?_)
  ·replace hk:=dC hk h3;refine hD ?_;subst hk;exact eY
  ·have p3:=h3; (try simp only [c7] at p3);replace hk:=dD hk h3;refine ke ?_;refine dL ?_;have hq:=eN hk;clear hk;obtain ⟨k4,hk4,hk⟩:=hq; (try dsimp only at hk);refine dk (ι:=Unit) (fun z=>[]) (fun z=>[.fr F1]) (fun z=>k4 ()=r) ?_ ?_
   ·have hq:=fS hk;clear hk;obtain ⟨f5,kk5,hf5,hkk5,hk⟩:=hq;refine fJ ?_;refine T.loop (ι:=Nat) (fun z=>[(1, .pointer (some ⟨g1,0,none⟩)),(3, .int .i64 (z:Int))]) (fun z=>[.row g1 33 [vx__0,vx__1], .fr F1]) (fun z=>di f5 kk5 (x_.Lemmas.length - z) z ()=r) (fun z=>x_.Lemmas.length - z) 0 ?_ ?_ ?_ ?_
    ·exact hk
    ·exact (.c (.c .nil))
    ·exact fx
    ·rintro i_6 hk;refine q3L ?_;refine eX ?_;refine q2z ?_;refine dL ?_;refine T.cond rfl (fun h7=>?_) (fun h7=>?_)
     ·have p7:=of_decide_eq_true h7;rw [fT a5] at hk;generalize hn5:di f5 kk5 (x_.Lemmas.length - (i_6+1)) (i_6+1)=next5 at hk;rw [←hf5] at hk; (try dsimp only at hk);refine fH ?_;refine eX ?_;refine dp ?_;refine cR (dH (i:=i_6) rfl rfl rfl hx__1.1 hx__1.2.1 rfl a5) ?_;refine cR (eo 1 (i:=i_6) (j:=0) rfl rfl rfl hx__1.1 hx__1.2.1 a5 rfl (R_List_GChoice.c0 (hx__1.2.2 i_6 a5)).1) ?_;have hd33_0:=(R_List_GChoice.c0 (hx__1.2.2 i_6 a5)).2;haveI:=hd33_0.oneC;refine dp ?_;refine iZ ?_;refine dk (ι:=Unit) (fun z=>[(1, .pointer (some ⟨g1,0,none⟩)),(3, .int .i64 (i_6:Int)),(4,(cQ (cQ cx__1 i_6) 0)),(48, .bool ((!(zbg (cQ x_.Lemmas i_6)))||(!((decide (((cQ x_.Lemmas i_6).length:Int)=0)) == (decide ((i_6:Int)=((x_.Lemmas.length:Int) - 1)))))))]) (fun z=>[.row g1 33 [vx__0,vx__1], .fr F1]) (fun z=>True) ?_ ?_
      ·refine fk ?_;refine cX (cS rfl rfl rfl (fun w hw=>zfw _ w (hw.fr (i:=1) rfl) (cQ x_.Lemmas i_6) (cQ (cQ cx__1 i_6) 0) hd33_0)) ?_;refine fb ?_;refine ez ?_;refine dO rfl rfl rfl (fun h8=>?_) (fun h8=>?_)
       ·refine TL.run 11 rfl ?_;refine TL.nil ?_;exact c4 () trivial (.c (.c (.c (.b (jA h8).symm .nil)))) (List.Sublist.refl _)
       ·refine dp ?_;refine cR (dA rfl rfl hd33_0 (List.length_map _)) ?_;have hm39:(cQ x_.Lemmas i_6).length≤9223372036854775807:=(List.length_map _)▸hd33_0.max;refine ez ?_;refine eX ?_;refine q2z ?_;refine q15 ?_;refine dp ?_;refine cR (Yv.cA a7 rfl rfl rfl) ?_;refine dp ?_;refine TL.nil ?_;exact c4 () trivial (.c (.c (.c (.b (iC h8) .nil)))) (List.Sublist.refl _)
      ·rintro _ _;have hm39:(cQ x_.Lemmas i_6).length≤9223372036854775807:=(List.length_map _)▸hd33_0.max;refine T.cond rfl (fun h9=>?_) (fun h9=>?_)
       ·replace hk:=dC hk h9;refine gh ?_;refine ml ?_;subst hk;exact eY
       ·replace hk:=dD hk h9;refine gW ?_;refine dL ?_;have hq:=fS hk;clear hk;obtain ⟨f10,kk10,hf10,hkk10,hk⟩:=hq;refine fJ ?_;refine T.loop (ι:=Nat) (fun z=>[(1, .pointer (some ⟨g1,0,none⟩)),(3, .int .i64 (i_6:Int)),(4,(cQ (cQ cx__1 i_6) 0)),(5, .int .i64 (z:Int))]) (fun z=>[.row g1 33 [vx__0,vx__1], .fr F1]) (fun z=>di f10 kk10 (((cQ x_.Lemmas i_6).length) - z) z ()=r) (fun z=>((cQ x_.Lemmas i_6).length) - z) 0 ?_ ?_ ?_ ?_
        ·exact hk
        ·exact q4a
        ·exact fx
        ·rintro k_11 hk;refine jS ?_;refine cR (dA rfl rfl hd33_0 (List.length_map _)) ?_;refine dL ?_;refine T.cond rfl (fun h12=>?_) (fun h12=>?_)
         ·have p12:=of_decide_eq_true h12;rw [fT a5] at hk;generalize hn10:di f10 kk10 (((cQ x_.Lemmas i_6).length) - (k_11+1)) (k_11+1)=next10 at hk;rw [←hf10] at hk; (try dsimp only at hk);refine kq ?_;refine d8 (sN 0 7 (.eff 7 (.still 8 .done))) _ a7 (List.Sublist.refl _) ?_;refine gD ?_;refine gJ ?_;refine cZ rfl (dH (i:=k_11) rfl rfl rfl hd33_0 (List.length_map _) rfl a5) ?_;refine cZ rfl (my rfl rfl hd33_0 (List.length_map _) a5) ?_;refine cZ rfl (ft 1 (i:=k_11) (j:=0) rfl rfl rfl hd33_0 a5) ?_;refine dQ ?_;refine dx rfl (Wt.none) rfl rfl (cS rfl rfl rfl (fun w hw=>zjg _ w (hw.fr (i:=1) rfl) x_.Stations vx__0 hx__0 ((cQ (cQ x_.Lemmas i_6) k_11).Station))) ?_;refine lT ?_;refine kQ ?_;refine T.cond rfl (fun h13=>?_) (fun h13=>?_)
          ·replace hk:=dC hk h13;refine gh ?_;refine TL.ns (T.ret (ff (cV (cV (ff (ff (cV (cV (ff (cV ?_))))))))));subst hk;exact eY
          ·replace hk:=dD hk h13;refine li ?_;rw [←hn10] at hk;exact K.next (k_11+1) hk a5 (.c (.c (.c (.c .nil)))) (List.Sublist.refl _)
         ·have p12:=of_decide_eq_false h12;rw [fR a5,←hkk10] at hk; (try dsimp only at hk);refine q2N ?_;refine dp ?_;refine ka ?_;rw [←hn5] at hk;exact K.next (i_6+1) hk a5 (.c (.c .nil)) (List.Sublist.refl _)
     ·have p7:=of_decide_eq_false h7;rw [fR a5,←hkk5] at hk; (try dsimp only at hk);refine fi ?_;refine ll ?_;exact lD
   ·rintro _ hk;rw [←hk4] at hk; (try dsimp only at hk);refine lC ?_;subst hk;exact eY
def zbH (a:GProof)(b:GProof):Bool:=
 ((zbD a.Stations b.Stations)&&(zca a.Lemmas b.Lemmas))
theorem zei (F0:Frz)(w:World)(hF0:F0.At w)(a:GProof)(va_0:Value)(ha_0:SlC F0 va_0 1 (a.Stations.map eI))(va_1:Value)(ca_1:List (List Value))(ha_1:SlD cP F0 va_1 1 ca_1 a.Lemmas)(b:GProof)(vb_0:Value)(hb_0:SlC F0 vb_0 1 (b.Stations.map eI))(vb_1:Value)(cb_1:List (List Value))(hb_1:SlD cP F0 vb_1 1 cb_1 b.Lemmas):Calls Tryz.prog 20 #[.agg [va_0,va_1].toArray, .agg [vb_0,vb_1].toArray] w fun e w'=>e= .returned (.bool (zbH a b))∧Below w.heap.size w w':=by
 obtain ⟨r,hk⟩:∃r,zbH a b=r:=⟨_,rfl⟩;rw [hk];unfold zbH at hk;haveI:=ha_0.oneC;haveI:=ha_1.1.oneC;haveI:=hb_0.oneC;haveI:=hb_1.1.oneC;obtain ⟨S0,F1,rfl,hS0,hp0⟩:=fE hF0;refine dy Tryz.func20 rfl rfl rfl hp0 ?_;refine kg ?_;rintro _ _ ⟨g2,rfl,rfl⟩;refine q31 ?_;rintro _ _ ⟨g3,rfl,rfl⟩;refine ki ?_;refine dk (ι:=Unit) (fun z=>[(4, .bool ((zbD a.Stations b.Stations)&&(zca a.Lemmas b.Lemmas)))]) (fun z=>[.row g3 33 [vb_0,vb_1], .row g2 33 [va_0,va_1], .fr F1]) (fun z=>True) ?_ ?_
 ·refine fg ?_;refine j5 ?_;refine eX ?_;refine cX (cS rfl rfl rfl (fun w hw=>zfZ _ w (hw.fr (i:=2) rfl) a.Stations va_0 ha_0 b.Stations vb_0 hb_0)) ?_;refine mr ?_;refine dO rfl rfl rfl (fun h1=>?_) (fun h1=>?_)
  ·refine j5 ?_;refine eX ?_;refine cX (cS rfl rfl rfl (fun w hw=>zib _ w (hw.fr (i:=2) rfl) a.Lemmas va_1 ca_1 ha_1 b.Lemmas vb_1 cb_1 hb_1)) ?_;refine mq ?_;exact q4f
  ·refine TL.run 7 rfl ?_;refine TL.nil ?_;exact q4g
 ·rintro _ _;refine T.ret ?_;subst hk;exact eY
def zct (fuel:Nat)(x_:GProof)(most:Int):Option Bool:=
 dN (fun (x_1:Bool)=>
  some x_1)
 (fun k2=>
  (bif decide ((x_.Stations.length:Int)≤20) then
   (zcu fuel x_.Lemmas most).bind fun r13=>
   k2 r13
   else
   k2 false))
theorem zhC (F0:Frz)(w:World)(hF0:F0.At w)(x_:GProof)(vx__0:Value)(hx__0:SlC F0 vx__0 1 (x_.Stations.map eI))(vx__1:Value)(cx__1:List (List Value))(hx__1:SlD cP F0 vx__1 1 cx__1 x_.Lemmas)(most:Int)(fuel:Nat)(r:Bool)(hr:zct fuel x_ most=some r):Calls Tryz.prog 27 #[.agg [vx__0,vx__1].toArray, .int .i64 most] w fun e w'=>e= .returned (.bool r)∧Below w.heap.size w w':=by
 have hk:=hr;unfold zct at hk;haveI:=hx__0.oneC;haveI:=hx__1.1.oneC;obtain ⟨S0,F1,rfl,hS0,hp0⟩:=fE hF0;refine dy Tryz.func27 rfl rfl rfl hp0 ?_;refine kg ?_;rintro _ _ ⟨g2,rfl,rfl⟩;refine ki ?_; (try dsimp only at hk);have hq:=eN hk;clear hk;obtain ⟨k2,hk2,hk⟩:=hq; (try dsimp only at hk);refine dk (ι:=Bool) (fun z=>[(4, .bool z)]) (fun z=>[.fr F1]) (fun z=>k2 z=some r) ?_ ?_
 ·refine q3S ?_;refine q3P ?_;have hm7:x_.Stations.length≤9223372036854775807:=(List.length_map _)▸hx__0.max;refine ez ?_;refine dO rfl rfl rfl (fun h3=>?_) (fun h3=>?_)
  ·have p3:=of_decide_eq_true h3;replace hk:=dC hk h3;refine eX ?_;refine dp ?_;have hq:=dV hk;clear hk;obtain ⟨r13,hr13,hk⟩:=hq;refine cX (cS rfl rfl rfl (fun w hw=>zhw _ w (hw.fr (i:=1) rfl) x_.Lemmas vx__1 cx__1 hx__1 most fuel r13 hr13)) ?_;refine mq ?_;refine ll ?_;exact c4 r13 hk (.c .nil) (List.Sublist.refl _)
  ·have p3:=of_decide_eq_false h3;replace hk:=dD hk h3;refine TL.run 6 rfl ?_;refine TL.nil ?_;refine ll ?_;exact q4r
 ·rintro x_1 hk;rw [←hk2] at hk; (try dsimp only at hk);refine T.ret ?_;obtain rfl:=Option.some.inj hk;exact eY
def okL (x:GProof)(i:Nat):Bool:=(kX (cQ x.Lemmas i)&&((decide (((cQ x.Lemmas i).length:Int)=0)) == (decide ((i:Int)=((x.Lemmas.length:Int) - 1)))))&&(cQ x.Lemmas i).all fun c=>iE x.Stations c.Station
def ju (x:GProof):Bool:=kS x.Stations&&(!((decide ((x.Lemmas.length:Int)<1))||(decide (4096<(x.Lemmas.length:Int))))&&(List.range x.Lemmas.length).all (okL x))
theorem zf4 (x:GProof):zbZ x=some (ju x):=by
 unfold zbZ ju
 have e:zb5 [] x.Stations=some (bif kS x.Stations then ([],0) else ([],2)):=by
  rw [zmW (l:=[]) (st:=x.Stations) a8]
  cases kS x.Stations <;> rfl
 rw [e,Option.bind_some]
 cases h2:kS x.Stations
 ·rfl
 rw [cond_true]
 show (bif decide (¬(0:Int)=0) then _ else _)=_
 rw [decide_eq_false a5,cond_false]
 cases h3:(decide ((x.Lemmas.length:Int)<1))||(decide (4096<(x.Lemmas.length:Int)))
 ·obtain ⟨s,h4,h5⟩:=of_x (l:=x.Stations) (zhX h2);rw [cond_false,h4,Option.bind_some];simp only [dN,Nat.sub_zero];refine (zeA (z:=some false) (fun i=>okL x i) (fun i next hi=>?_)).trans ?_
  ·have inner:di (fun (k:Nat) (nx:Unit→Option Bool) (_:Unit)=>(lu s ((cQ (cQ x.Lemmas i) k).Station)).bind fun r=>bif !r then some false else nx ()) (fun (_:Unit)=>next ()) (cQ x.Lemmas i).length 0 ()=bif ((cQ x.Lemmas i).all fun c=>iE x.Stations c.Station) then next () else some false:=
    (zeA (z:=some false) (fun k=>iE x.Stations (cQ (cQ x.Lemmas i) k).Station) (fun k nx hk=>by rw [zmD,zkF h5 h2,Option.bind_some];cases iE x.Stations (cQ (cQ x.Lemmas i) k).Station <;> rfl)).trans (by rw [zdO (q:=fun c:GChoice=>iE x.Stations c.Station)])
   rw [inner];unfold okL
   cases kX (cQ x.Lemmas i) <;> cases ((decide (((cQ x.Lemmas i).length:Int)=0)) == (decide ((i:Int)=((x.Lemmas.length:Int) - 1)))) <;> rfl
  ·cases (List.range x.Lemmas.length).all fun i=>okL x i <;> rfl
 ·rfl
theorem zft (x:GProof):zbE x=ju x:=by
 unfold zbE ju;rw [zhI]
 cases h2:kS x.Stations
 ·rfl
 cases h3:decide ((x.Lemmas.length:Int)<1)
 ·cases h4:decide (4096<(x.Lemmas.length:Int))
  ·simp only [dN,Nat.sub_zero,Bool.not_true,Bool.or_self,cond_false];refine (zeA (z:=false) (fun i=>okL x i) (fun i next hi=>?_)).trans ?_
   ·have inner:di (fun (k:Nat) (nx:Unit→Bool) (_:Unit)=>bif !(iE x.Stations ((cQ (cQ x.Lemmas i) k).Station)) then false else nx ()) (fun (_:Unit)=>next ()) (cQ x.Lemmas i).length 0 ()=bif ((cQ x.Lemmas i).all fun c=>iE x.Stations c.Station) then next () else false:=
     (zeA (z:=false) (fun k=>iE x.Stations (cQ (cQ x.Lemmas i) k).Station) (fun k nx hk=>by cases iE x.Stations (cQ (cQ x.Lemmas i) k).Station <;> rfl)).trans (by rw [zdO (q:=fun c:GChoice=>iE x.Stations c.Station)])
    rw [inner,zij,←zfR];unfold okL
    cases kX (cQ x.Lemmas i) <;> cases ((decide (((cQ x.Lemmas i).length:Int)=0)) == (decide ((i:Int)=((x.Lemmas.length:Int) - 1)))) <;> rfl
   ·cases (List.range x.Lemmas.length).all fun i=>okL x i <;> rfl
  ·rfl
 ·rfl
structure OkM (st:List Int) (M:List (List GChoice)):Prop where
 hS:kS st=true
 n:M.length<4096
 g:∀g∈M,kX g=true∧g≠[]∧(g.all fun c=>iE st c.Station)=true
theorem nthA {M:List (List GChoice)}{i:Nat}(hi:i<M.length):cQ (M++[[]]) i=cQ M i:=by rw [eh (show i<(M++[[]]).length by simp;omega),eh hi,List.getElem_append_left hi]
theorem OkM.sub {st:List Int}{M M':List (List GChoice)}(h:OkM st M)(hs:M'.Sublist M):OkM st M':=⟨h.hS,Nat.lt_of_le_of_lt hs.length_le h.n,fun g hg=>h.g g (hs.subset hg)⟩
theorem znN {x:GProof}(h:ju x=true):∃M,x.Lemmas=M++[[]]∧OkM x.Stations M:=by
 unfold ju at h;have h1:=zgY h;have h2:=zgY (zhQ h);have h3:=List.all_eq_true.1 (zhQ (zhQ h));rw [Bool.not_eq_true',Bool.or_eq_false_iff,decide_eq_false_iff_not,decide_eq_false_iff_not] at h2; (have hne:x.Lemmas≠[]:=fun e=>by rw [e] at h2;simp at h2);have hlast:=h3 (x.Lemmas.length - 1) (List.mem_range.2 a5)
 have hz:cQ x.Lemmas (x.Lemmas.length - 1)=[]:=by
  unfold okL at hlast;have:=zhQ (zgY hlast);rw [decide_eq_true (show ((x.Lemmas.length - 1:Nat):Int)=(x.Lemmas.length:Int) - 1 by omega),beq_iff_eq,decide_eq_true_eq] at this;exact List.eq_nil_of_length_eq_zero a5
 have he:x.Lemmas=x.Lemmas.dropLast++[[]]:=by
  have h4:=List.dropLast_concat_getLast hne;rw [List.getLast_eq_getElem,←eh (show x.Lemmas.length - 1<x.Lemmas.length by omega),hz] at h4;exact h4.symm
 refine ⟨x.Lemmas.dropLast,he,h1,by rw [List.length_dropLast];omega,fun g hg=>?_⟩;obtain ⟨i,hi,e⟩:=i7 hg;rw [List.length_dropLast] at hi;have h5:=h3 i (List.mem_range.2 a5)
 have e2:cQ x.Lemmas i=g:=by
  rw [←e];have:=nthA (M:=x.Lemmas.dropLast) (i:=i) (by rw [List.length_dropLast];omega);rw [←he] at this;exact this
 unfold okL at h5;rw [e2,decide_eq_false (show ¬(i:Int)=(x.Lemmas.length:Int) - 1 by omega)] at h5;refine ⟨zgY (zgY h5),fun h0=>?_,zhQ h5⟩;have:=zhQ (zgY h5);rw [h0] at this;cases this
structure SubP (p:GProblem) (d:List GDomain):Prop where
 sub:SubD d p.Domains
 ord:OrdD d p.Domains
section
variable {p:GProblem}{d:List GDomain}
theorem SubP.len (h:SubP p d):d.length=p.Domains.length:=h.sub.1
theorem SubP.inc (hG:GG p)(h:SubP p d){i j:Nat}(hi:i<d.length)(hj:j<d.length)(e:(cQ d i).Station=(cQ d j).Station):i=j:=by
 (have hi':i<p.Domains.length:=by rw [←h.len];exact hi); (have hj':j<p.Domains.length:=by rw [←h.len];exact hj);rw [(h.sub.2 i hi').1,(h.sub.2 j hj').1] at e;rcases Nat.lt_trichotomy i j with h1|h1|h1
 ·have:=hG.inc i j h1 hj';omega
 ·exact h1
 ·have:=hG.inc j i h1 hi';omega
theorem SubP.inj (hG:GG p)(h:SubP p d){x y:GDomain}(hx:x∈d)(hy:y∈d)(e:x.Station=y.Station):x=y:=by
 obtain ⟨i,hi,rfl⟩:=i7 hx;obtain ⟨j,hj,rfl⟩:=i7 hy;rw [h.inc hG hi hj e]
theorem SubP.st (hG:GG p)(h:SubP p d){x:GDomain}(hx:x∈d):0≤x.Station∧x.Station≤511:=by
 obtain ⟨i,hi,rfl⟩:=i7 hx; (have hi':i<p.Domains.length:=by rw [←h.len];exact hi);rw [(h.sub.2 i hi').1];exact hG.st _ (fX hi')
theorem SubP.ch (hG:GG p)(h:SubP p d){x:GDomain}(hx:x∈d){c:Int}(hc:c∈x.Channels):2≤c∧c≤51:=by
 obtain ⟨i,hi,rfl⟩:=i7 hx; (have hi':i<p.Domains.length:=by rw [←h.len];exact hi);exact (hG.chs _ (fX hi')).2 _ ((h.sub.2 i hi').2 c hc)
theorem SubP.has (h:SubP p d){s:Int}(hs:jz p s=true):∃x∈d,x.Station=s:=by
 obtain ⟨x,hx,rfl⟩:=jg.1 hs;obtain ⟨i,hi,rfl⟩:=i7 hx;exact ⟨_,fX (by rw [h.len];exact hi),(h.sub.2 i hi).1⟩
theorem zgJ {α:Type}[Inhabited α]{l:List α}{i:Nat}(hi:i<l.length):l.take (i+1)=l.take i++[cQ l i]:=by
 rw [List.take_succ_eq_append_getElem hi,eh hi]
end
def remN (d:List GDomain)(g:List GChoice)(s c:Int):Bool:=(g.any fun x=>decide (x.Station=s)&&decide (x.Channel=c))&&g.all fun x=>decide (x.Station=s)||jI d x.Station x.Channel
structure ClosedN (p:GProblem) (S:List (List GChoice)) (d:List GDomain):Prop where
 cl:ClosedD p d
 ne:∀g∈S,g≠[]
 calm:∀g∈S,∀x∈d,∀c∈x.Channels,remN d g x.Station c=false
section
variable {p:GProblem}{S:List (List GChoice)}{d e:List GDomain}{m:List GDomain×Bool}{v:Vec 512 Int}{g:List GChoice}
end
def dK (p:GProblem)(l:List GChoice):List GDomain:=l.foldl (fun d c=>d.map (actC true c)) p.Domains
section
variable {p:GProblem}{S:List (List GChoice)}{d e:List GDomain}{m:List GDomain×Bool}
end
structure StN (p:GProblem) (t:GStore):Prop where
 pr:t.start.1=p
 st:PropD p p.Domains t.start.2
 tb:TabN p t.domains
 ok:∀g∈t.list,okN p g=true
section
variable {p:GProblem}{t:GStore}{fuel:Nat}
theorem StN.add (h:StN p t){g:List GChoice}(hg:okN p g=true):StN p ⟨t.domains,(t.start.1,t.start.2),t.list++[g]⟩:=⟨h.pr,h.st,h.tb,fun x hx=>by
 rcases List.mem_append.1 hx with hx|hx
 ·exact h.ok x hx
 ·simp at hx;rw [hx];exact hg⟩
theorem zkq {l:List (List GChoice)}{most:Int}(hm:0≤most∧most≤1000)(hf:100000≤fuel):∃b,zcu fuel l most=some b∧(b=true→(l.length:Int)≤most∧∀g∈l,g.length≤20):=by
 unfold zcu;simp only [dN];refine zcA (σ:=Int) (I:=fun i=>0≤i∧i≤1001∧∀j:Nat,(j:Int)<i→j<l.length→(cQ l j).length≤20) (μ:=fun i=>(1001 - i).toNat) (post:=fun o=>∃b,o=some b∧(b=true→(l.length:Int)≤most∧∀g∈l,g.length≤20)) ⟨by omega,by omega,fun j h _=>by omega⟩ a5 ?_;rintro i next ⟨h1,h2,h3⟩ hn;by_cases h4:i<(l.length:Int)∧i≤most
 ·rw [decide_eq_true h4.1,decide_eq_true h4.2,Bool.and_true,cond_true,fL ⟨h1,h4.1⟩];by_cases h5:(20:Int)<((cQ l i.toNat).length:Int)
  ·rw [decide_eq_true h5,cond_true];exact ⟨false,rfl,fun h=>by cases h⟩
  ·rw [decide_eq_false h5,cond_false];refine hn _ ⟨by omega,by omega,fun j hj hl=>?_⟩ a5;by_cases h6:(j:Int)<i
   ·exact h3 j h6 hl
   ·(obtain rfl:j=i.toNat:=by omega);omega
 ·have e:(decide (i<(l.length:Int))&&decide (i≤most))=false:=by
   rw [Bool.and_eq_false_iff,decide_eq_false_iff_not,decide_eq_false_iff_not];omega
  rw [e,cond_false];refine ⟨_,rfl,fun h=>?_⟩;rw [decide_eq_true_eq] at h;refine ⟨h,fun g hg=>?_⟩;obtain ⟨j,hj,rfl⟩:=i7 hg;exact h3 j a5 hj
end
section
variable {p:GProblem}{a:List GChoice}
end
theorem zjQ {a b:List GChoice}:zbC a b=decide (a=b):=by
 unfold zbC;simp only [dN,Nat.sub_zero];by_cases hl:a.length=b.length
 ·rw [decide_eq_false (by simp [hl]),cond_false,zcT (fun i=>decide (cQ a i=cQ b i)) (fun i next _=>?_),Bool.and_true,Bool.eq_iff_iff,List.all_eq_true,decide_eq_true_eq]
  ·constructor
   ·intro h;exact ze3 hl fun i hi=>of_decide_eq_true (h i (List.mem_range.2 hi))
   ·rintro rfl i _;simp
  ·have e:(decide ((cQ a i).Station=(cQ b i).Station)&&decide ((cQ a i).Channel=(cQ b i).Channel))=decide (cQ a i=cQ b i):=by
    rw [Bool.eq_iff_iff]
    cases cQ a i;cases cQ b i
    simp
   rw [e]
   cases decide (cQ a i=cQ b i) <;> rfl
 ·rw [decide_eq_true a5,cond_true,decide_eq_false (fun e=>hl (by rw [e]))]
theorem zlQ {a:List (List GChoice)}:zca a a=true:=by
 unfold zca;simp only [dN,Nat.sub_zero,zjQ];rw [decide_eq_false a8,cond_false,zcT (fun _=>true) (fun i next _=>by simp),Bool.and_true];simp
section
variable {p:GProblem}{t:GStore}{fuel:Nat}{l S:List (List GChoice)}
end
def QN (p:GProblem)(S:List (List GChoice))(d:List GDomain)(r:List GDomain×Bool):Prop:=
 (r.2=true∧ClosedN p S r.1∧SubP p r.1∧SubD r.1 d∧∀e,ClosedN p S e→SubD e d→SubD e r.1)∨(r=([],false)∧∀e,ClosedN p S e→¬SubD e d)
def R21 (p:GProblem)(S:List (List GChoice))(d:List GDomain)(s c:Int):Bool:=(S.any fun g=>remN d g s c)||i9 p d s c
section
variable {p:GProblem}{S S':List (List GChoice)}{d a b:List GDomain}{t:GStore}{fuel:Nat}{l:List GChoice}
theorem zmL (hok:lE p=true)(ha:SubP p a)(hb:SubP p b)(h1:SubD a b)(h2:SubD b a):a=b:=by
 obtain ⟨_,hbd,_,_⟩:=zms hok;refine ze3 h1.1 fun i hi=>?_; (have hi':i<b.length:=by rw [←h1.1];exact hi); (have hp:i<p.Domains.length:=by rw [←ha.len];exact hi);have hch:(cQ a i).Channels=(cQ b i).Channels:=zdf (ha.ord i hp) (hb.ord i hp) (hbd.ch _ (fX hp)).2 (fun x=>⟨(h1.2 i hi').2 x,(h2.2 i hi).2 x⟩);have hst:=(h1.2 i hi').1
 cases hx:cQ a i;cases hy:cQ b i
 rw [hx,hy] at hch hst;simp only at hch hst;rw [hch,hst]
theorem QN.eq {r r':List GDomain×Bool}(hok:lE p=true)(h:QN p S d r)(h':QN p S d r'):r=r':=by
 rcases h with ⟨h1,h2,h3,h4,h5⟩|⟨h1,h2⟩
 ·rcases h' with ⟨g1,g2,g3,g4,g5⟩|⟨g1,g2⟩
  ·exact Prod.ext (zmL hok h3 g3 (g5 _ h2 h4) (h5 _ g2 g4)) (h1.trans g1.symm)
  ·exact absurd h4 (g2 _ h2)
 ·rcases h' with ⟨g1,g2,g3,g4,g5⟩|⟨g1,g2⟩
  ·exact absurd g4 (h2 _ g2)
  ·rw [h1,g1]
theorem ClosedN.mono (h:ClosedN p S d)(hs:∀g∈S',g∈S):ClosedN p S' d:=⟨h.cl,fun g hg=>h.ne g (hs g hg),fun g hg=>h.calm g (hs g hg)⟩
theorem QN.congr {r:List GDomain×Bool}(h:QN p S d r)(hs:∀g,g∈S↔g∈S'):QN p S' d r:=by
 have f:∀ {e},ClosedN p S' e→ClosedN p S e:=fun he=>he.mono fun g hg=>(hs g).1 hg;rcases h with ⟨h1,h2,h3,h4,h5⟩|⟨h1,h2⟩
 ·exact .inl ⟨h1,h2.mono fun g hg=>(hs g).2 hg,h3,h4,fun e he=>h5 e (f he)⟩
 ·exact .inr ⟨h1,fun e he=>h2 e (f he)⟩
theorem R21.mono (hok:lE p=true):MonoR (R21 p S):=fun a b s c h hr=>by
 unfold R21 at hr ⊢;rw [Bool.or_eq_true,List.any_eq_true] at hr ⊢;rcases hr with ⟨g,hg,hr⟩|hr
 ·refine .inl ⟨g,hg,?_⟩;unfold remN at hr ⊢;rw [Bool.and_eq_true,List.all_eq_true] at hr ⊢;refine ⟨hr.1,fun x hx=>?_⟩;have:=hr.2 x hx;rw [Bool.or_eq_true] at this ⊢;exact this.imp id (zdS h)
 ·exact .inr (zgq (zms hok).1 h hr)
theorem ValidL.take (h:ValidL l)(n:Nat):ValidL (l.take n):=by
 refine ⟨fun x hx=>h.good x (List.mem_of_mem_take hx),fun i j hij hj=>?_⟩;rw [List.length_take] at hj;rw [eh (by rw [List.length_take];omega),eh (by rw [List.length_take];omega),List.getElem_take,List.getElem_take];have:=h.inc i j hij a5
 rwa [eh a5,eh a5] at this
end
section
variable {p:GProblem}{fuel:Nat}
end
def HoldN (q:GProblem)(S:List (List GChoice))(g:List GChoice):Prop:=okN q g=true∧∀e,ClosedN q S e→¬SubD e (dK q g)
def AllN (q:GProblem):List (List GChoice)→List (List GChoice)→Prop
 |_,[]=>True
 |S,g :: l=>HoldN q S g∧AllN q (S++[g]) l
open Classical in
section
variable {q:GProblem}{fuel:Nat}{S S':List (List GChoice)}{g:List GChoice}
theorem ClosedN.less {d:List GDomain}(h:ClosedN q S d)(hs:∀g∈S',g∈S):ClosedN q S' d:=⟨h.cl,fun g hg=>h.ne g (hs g hg),fun g hg=>h.calm g (hs g hg)⟩
theorem HoldN.mono (h:HoldN q S g)(hs:∀x∈S,x∈S'):HoldN q S' g:=⟨h.1,fun e he=>h.2 e (he.less hs)⟩
theorem AllN.mono:∀ {l:List (List GChoice)} {S S':List (List GChoice)},(∀x∈S,x∈S')→AllN q S l→AllN q S' l
 | [],_,_,_,_=>trivial
 |g :: l,S,S',hs,h=>⟨h.1.mono hs,AllN.mono (fun x hx=>by
  rcases List.mem_append.1 hx with hx|hx
  ·exact List.mem_append_left _ (hs x hx)
  ·exact List.mem_append_right _ hx) h.2⟩
theorem AllN.ok:∀ {l:List (List GChoice)} {S:List (List GChoice)},AllN q S l→∀g∈l,okN q g=true
 | [],_,_,_,hg=>by cases hg
 |g :: l,S,h,x,hx=>by
  rcases List.mem_cons.1 hx with rfl|hx
  ·exact h.1.1
  ·exact AllN.ok h.2 x hx
end
section
variable {p:GProblem}{x:GProof}{fuel:Nat}
theorem okX_S (h:ju x=true):kS x.Stations=true:=by unfold ju at h;exact zgY h
theorem okX_n (h:ju x=true):x.Lemmas.length≤4096:=by
 obtain ⟨M,e,hM⟩:=znN h;have:=hM.n;rw [e,List.length_append,List.length_singleton];omega
end
def kG (a:Int)(b:Int):GPair:=
 (GPair.mk a b 0 14 51)
theorem zef (F0:Frz)(w:World)(hF0:F0.At w)(a:Int)(b:Int):Calls Tryz.prog 71 #[.int .i64 a, .int .i64 b] w fun e w'=>e= .returned (.agg [.int .i64 ((kG a b).A), .int .i64 ((kG a b).B), .int .i64 ((kG a b).Offset), .int .i64 ((kG a b).Low), .int .i64 ((kG a b).High)].toArray)∧Below w.heap.size w w':=by
 obtain ⟨r,hk⟩:∃r,kG a b=r:=⟨_,rfl⟩;rw [hk];unfold kG at hk;obtain ⟨S0,F1,rfl,hS0,hp0⟩:=fE hF0;refine dy Tryz.func71 rfl rfl rfl hp0 ?_;refine dm ?_;refine gw ?_;rintro _ _ ⟨g4,rfl,rfl⟩;refine dR ?_;refine ez ?_;refine jy ?_;refine iW ?_;refine fN ?_;subst hk;exact kB 0 rfl rfl rfl rfl (fun w' hw=>⟨rfl,hw.isBelow⟩)
def lv  : GProblem :=
 (GProblem.mk [(GDomain.mk 1 [14,15]),(GDomain.mk 2 [14,15]),(GDomain.mk 3 [14,15]),(GDomain.mk 4 [14])] (GRules.mk [(kG 1 2),(kG 1 3),(kG 2 3)] [] []))
theorem zcR (F0 : Frz)(w : World)(hF0 : F0.At w)  : Calls Tryz.prog 33 #[] w fun e w' => ∃ (y : Value × List (List Value) × Value × Value × Value) (G : Frz), (SlD cT G y.1 2 y.2.1 ((lv).Domains) ∧ SlC G y.2.2.1 5 (((lv).Rules.Pairs).map dh) ∧ SlC G y.2.2.2.1 5 (((lv).Rules.Loads).map dl) ∧ SlC G y.2.2.2.2 4 (((lv).Rules.Caps).map dv)) ∧ e = .returned (.agg [y.1, y.2.2.1, y.2.2.2.1, y.2.2.2.2].toArray) ∧ Fx F0 w G w' := by
 obtain ⟨r,hk⟩:∃r,lv=r:=⟨_,rfl⟩;rw [hk];unfold lv at hk;obtain ⟨S0,F1,rfl,hS0,hp0⟩:=fE hF0;refine dy Tryz.func33 rfl rfl rfl hp0 ?_;refine dm ?_;refine gw ?_;rintro _ _ ⟨g0,rfl,rfl⟩;refine dR ?_;refine jj ?_;rintro _ _ ⟨g2,rfl,rfl⟩;refine ki ?_;refine kY (fun w hw=>hw.freezeR (i:=2) (j:=0) a6 rfl rfl) ?_;rintro F2 ⟨le1_2,hz2⟩;refine gY ?_;have hf2:SlC F2.toFrz (.slice (some ⟨g2,0,none⟩) 2 2) 1 ([14,15].map eI):=(SlK.lit hz2 rfl (Nat.le_refl _) a6).toF (xs:=[14,15]) rfl (fun _=>rfl);refine fk ?_;refine jy ?_;refine dp ?_;refine jy ?_;refine dp ?_;refine jy ?_;refine jj ?_;rintro _ _ ⟨g9,rfl,rfl⟩;refine ji (fun w hw=>hw.freezeR (i:=2) (j:=0) a6 rfl rfl) ?_;rintro F3 ⟨le2_3,hz3⟩;refine gY ?_;have le1_3:=le1_2.trans le2_3;have hf3:SlC F3.toFrz (.slice (some ⟨g9,0,none⟩) 1 1) 1 ([14].map eI):=(SlK.lit hz3 rfl (Nat.le_refl _) a6).toF (xs:=[14]) rfl (fun _=>rfl);refine jy ?_;refine jj ?_;rintro _ _ ⟨g11,rfl,rfl⟩;have hl11:OwnD cT F3.toFrz 2 [[.int .i64 1,(.slice (some ⟨g2,0,none⟩) 2 2)],[.int .i64 2,(.slice (some ⟨g2,0,none⟩) 2 2)],[.int .i64 3,(.slice (some ⟨g2,0,none⟩) 2 2)],[.int .i64 4,(.slice (some ⟨g9,0,none⟩) 1 1)]] [(GDomain.mk 1 [14,15]),(GDomain.mk 2 [14,15]),(GDomain.mk 3 [14,15]),(GDomain.mk 4 [14])]:=(dn (dn (dn (dn (OwnD.nil _ _ 2) ⟨_,rfl,(SlC.mono hf2 le2_3)⟩) ⟨_,rfl,(SlC.mono hf2 le2_3)⟩) ⟨_,rfl,(SlC.mono hf2 le2_3)⟩) ⟨_,rfl,hf3⟩);refine cX (cS rfl rfl rfl (fun w hw=>zef _ w (hw.fr (i:=2) rfl) 1 2)) ?_;refine fb ?_;refine cX (cS rfl rfl rfl (fun w hw=>zef _ w (hw.fr (i:=2) rfl) 1 3)) ?_;refine fb ?_;refine cX (cS rfl rfl rfl (fun w hw=>zef _ w (hw.fr (i:=2) rfl) 2 3)) ?_;refine fb ?_;refine jj ?_;rintro _ _ ⟨g15,rfl,rfl⟩;refine jy ?_;refine jy ?_;refine eE (dF 2) ?_;refine fb ?_;refine fN ?_;refine kC (fun w hw=>hw.freezeR (i:=3) (j:=1) a6 rfl rfl) ?_;rintro F4 ⟨le3_4,hz4⟩;refine gY ?_;have le1_4:=le1_3.trans le3_4;have hf4:SlD cT F4.toFrz (.slice (some ⟨g11,0,none⟩) 4 4) 2 [[.int .i64 1,(.slice (some ⟨g2,0,none⟩) 2 2)],[.int .i64 2,(.slice (some ⟨g2,0,none⟩) 2 2)],[.int .i64 3,(.slice (some ⟨g2,0,none⟩) 2 2)],[.int .i64 4,(.slice (some ⟨g9,0,none⟩) 1 1)]] [(GDomain.mk 1 [14,15]),(GDomain.mk 2 [14,15]),(GDomain.mk 3 [14,15]),(GDomain.mk 4 [14])]:=(SlK.lit hz4 rfl (Nat.le_refl _) a6).toD (OwnD.mono (rep:=cT) (fun _ _ _ _=>GDomain.mono) hl11 le3_4) rfl;refine kC (fun w hw=>hw.freezeR (i:=2) (j:=0) a6 rfl rfl) ?_;rintro F5 ⟨le4_5,hz5⟩;refine gY ?_;have le1_5:=le1_4.trans le4_5;have hf5:SlC F5.toFrz (.slice (some ⟨g15,0,none⟩) 3 3) 5 ([(kG 1 2),(kG 1 3),(kG 2 3)].map dh):=(SlK.lit hz5 rfl (Nat.le_refl _) a6).toF (xs:=[(kG 1 2),(kG 1 3),(kG 2 3)]) rfl GPair.len;subst hk;exact kB 0 rfl rfl rfl rfl (fun w' hw=>⟨((.slice (some ⟨g11,0,none⟩) 4 4),[[.int .i64 1,(.slice (some ⟨g2,0,none⟩) 2 2)],[.int .i64 2,(.slice (some ⟨g2,0,none⟩) 2 2)],[.int .i64 3,(.slice (some ⟨g2,0,none⟩) 2 2)],[.int .i64 4,(.slice (some ⟨g9,0,none⟩) 1 1)]],(.slice (some ⟨g15,0,none⟩) 3 3),(.slice none 0 0),(.slice none 0 0)),F5.toFrz,⟨(SlD.mono (rep:=cT) (fun _ _ _ _=>GDomain.mono) hf4 le4_5),hf5,(SlC.nil _ 5),(SlC.nil _ 4)⟩,rfl,eD hw (i:=1) rfl hS0 le1_5⟩)
def zbk (stations:List Int)(lemmas:Int):Option GProof:=
 dN (fun (s3:List Int×List (List GChoice))=>
  dU (dd (s3.2++[[]]).length 24) <|
  some (GProof.mk s3.1 (s3.2++[[]])))
 (fun k3=>
  dU (lemmas≤9223372036854775807) <|
  di (fun (i_7:Nat) (next6:(List Int×List (List GChoice))→Option GProof) (s6:List Int×List (List GChoice))=>
   dU (dd (s6.2++[[(GChoice.mk (i_7:Int) 14)]]).length 24) <|
   next6 (s6.1,(s6.2++[[(GChoice.mk (i_7:Int) 14)]])))
  (fun (s6:List Int×List (List GChoice))=>
   k3 (s6.1,s6.2)) (lemmas.toNat - 1) 1 (stations,[]))
theorem zbF (F0:Frz)(w:World)(hF0:F0.At w)(stations:List Int)(vstations:Value)(hstations:SlC F0 vstations 1 (stations.map eI))(lemmas:Int)(r:GProof)(hr:zbk stations lemmas=some r):Calls Tryz.prog 34 #[vstations, .int .i64 lemmas] w fun e w'=>∃(y:Value×Value×List (List Value)) (G:Frz),(SlC G y.1 1 (r.Stations.map eI)∧SlD cP G y.2.1 1 y.2.2 r.Lemmas)∧e= .returned (.agg [y.1,y.2.1].toArray)∧Fx F0 w G w':=by
 have hk:=hr;unfold zbk at hk;haveI:=hstations.oneC;obtain ⟨S0,F1,rfl,hS0,hp0⟩:=fE hF0;refine dy Tryz.func34 rfl rfl rfl hp0 ?_;refine dm ?_;refine gw ?_;rintro _ _ ⟨g4,rfl,rfl⟩;refine l7 ?_;refine jy ?_;refine gw ?_;rintro _ _ ⟨g5,rfl,rfl⟩;refine TL.slNil 50 1 ?_;refine q1U ?_;refine TL.slNil 50 1 ?_;refine iM ?_;refine dL ?_;have hq:=eN hk;clear hk;obtain ⟨k3,hk3,hk⟩:=hq; (try dsimp only at hk);refine dk (ι:=List Int×Value×List (List GChoice)×Value×List (List Value)×FzB w (fun _=>False) S0) (fun z=>[(4, .pointer (some ⟨g4,0,none⟩)),(5, .pointer (some ⟨g5,0,none⟩))]) (fun z=>[.sl z.2.2.2.1 50 1 z.2.2.1.length z.2.2.2.2.1.flatten, .row g5 33 [z.2.1,z.2.2.2.1], .row g4 33 [(.slice none 0 0),(.slice none 0 0)], .fr z.2.2.2.2.2]) (fun z=>k3 (z.1,z.2.2.1)=some r∧SlC z.2.2.2.2.2.toFrz z.2.1 1 (z.1.map eI)∧OwnD cP z.2.2.2.2.2.toFrz 1 z.2.2.2.2.1 z.2.2.1∧OneC z.2.2.2.1∧F1.toFrz.Le z.2.2.2.2.2.toFrz) ?_ ?_
 ·have hq:(lemmas≤9223372036854775807)∧_:=eW hk;clear hk;obtain ⟨gl6,hk⟩:=hq; (try dsimp only at hk);have hq:=fS hk;clear hk;obtain ⟨f6,kk6,hf6,hkk6,hk⟩:=hq;refine fJ ?_;refine T.pick [0,2,3,4] rfl a6 ?_;refine T.loop (ι:=Nat×List Int×Value×List (List GChoice)×Value×List (List Value)×FzB w (fun _=>False) S0) (fun z=>[(1, .int .i64 lemmas),(4, .pointer (some ⟨g4,0,none⟩)),(5, .pointer (some ⟨g5,0,none⟩)),(6, .int .i64 (z.1:Int))]) (fun z=>[.sl z.2.2.2.2.1 50 1 z.2.2.2.1.length z.2.2.2.2.2.1.flatten, .row g5 33 [z.2.2.1,z.2.2.2.2.1], .row g4 33 [(.slice none 0 0),(.slice none 0 0)], .fr z.2.2.2.2.2.2]) (fun z=>di f6 kk6 (lemmas.toNat - z.1) z.1 (z.2.1,z.2.2.2.1)=some r∧SlC z.2.2.2.2.2.2.toFrz z.2.2.1 1 (z.2.1.map eI)∧OwnD cP z.2.2.2.2.2.2.toFrz 1 z.2.2.2.2.2.1 z.2.2.2.1∧OneC z.2.2.2.2.1∧F1.toFrz.Le z.2.2.2.2.2.2.toFrz) (fun z=>lemmas.toNat - z.1) (1,stations,vstations,[],(.slice none 0 0),[],F1) ?_ ?_ ?_ ?_
  ·exact ⟨hk,hstations,(OwnD.nil _ _ 1),inferInstance,(Frz.Le.refl _)⟩
  ·exact q4a
  ·exact fx
  ·rintro ⟨i_7,c_4,vc_4,c_5,vc_5,cc_5,F3⟩ ⟨hk,hc_4,hc_5,oc_5,le1_3⟩; (try dsimp only at *);haveI:=hc_4.oneC;refine q3q ?_;refine T.cond rfl (fun h8=>?_) (fun h8=>?_)
   ·have p8:=of_decide_eq_true h8;rw [fT a5] at hk;generalize hn6:di f6 kk6 (lemmas.toNat - (i_7+1)) (i_7+1)=next6 at hk;rw [←hf6] at hk; (try dsimp only at hk);refine T.skip (K.seq (T.seq (T.block ?_)));have hq:(dd (c_5++[[(GChoice.mk (i_7:Int) 14)]]).length 24)∧_:=eW hk;clear hk;obtain ⟨g20,hk⟩:=hq; (try dsimp only at hk);refine fg ?_;refine j5 ?_;refine dp ?_;refine jy ?_;refine jj ?_;rintro _ _ ⟨g18,rfl,rfl⟩;refine ji (fun w hw=>hw.freezeR (i:=4) (j:=0) a6 rfl rfl) ?_;rintro F4 ⟨le3_4,hz4⟩;refine gY ?_;have le1_4:=le1_3.trans le3_4;have hf4:SlC F4.toFrz (.slice (some ⟨g18,0,none⟩) 1 1) 2 ([(GChoice.mk (i_7:Int) 14)].map cW):=(SlK.lit hz4 rfl (Nat.le_refl _) a6).toF (xs:=[(GChoice.mk (i_7:Int) 14)]) rfl GChoice.len;refine jj ?_;rintro _ _ ⟨g19,rfl,rfl⟩;have hl19:OwnD cP F4.toFrz 1 [[(.slice (some ⟨g18,0,none⟩) 1 1)]] [[(GChoice.mk (i_7:Int) 14)]]:=(dn (OwnD.nil _ _ 1) ⟨_,rfl,hf4⟩);refine cX (fj 1 0 rfl rfl rfl rfl rfl rfl (j2 (ys:=[[(GChoice.mk (i_7:Int) 14)]])) (zb8 (cs:=cc_5) (ds:=[[(.slice (some ⟨g18,0,none⟩) 1 1)]])) g20 a6) ?_;rintro v20 _ ⟨hv20,rfl⟩;have ho20:OwnD cP F4.toFrz 1 (cc_5++[[(.slice (some ⟨g18,0,none⟩) 1 1)]]) (c_5++[[(GChoice.mk (i_7:Int) 14)]]):=(dn (OwnD.mono (rep:=cP) (fun _ _ _ _=>R_List_GChoice.mono) hc_5 le3_4) ⟨_,rfl,hf4⟩);refine fy ?_;refine eE (ey 2 rfl rfl rfl rfl a8) ?_;refine fb ?_;refine q18 ?_;rw [←hn6] at hk;refine K.pick [1,2,3,4] rfl a6 ?_;exact K.next ((i_7+1),c_4,vc_4,(c_5++[[(GChoice.mk (i_7:Int) 14)]]),v20,(cc_5++[[(.slice (some ⟨g18,0,none⟩) 1 1)]]),F4) ⟨hk,(SlC.mono hc_4 le3_4),ho20,inferInstance,le1_4⟩ a9 (.c (.c (.c (.c .nil)))) (List.Sublist.refl _)
   ·have p8:=of_decide_eq_false h8;rw [fR a5,←hkk6] at hk; (try dsimp only at hk);refine fi ?_;exact c4 (c_4,vc_4,c_5,vc_5,cc_5,F3) ⟨hk,hc_4,hc_5,inferInstance,le1_3⟩ (.c (.c .nil)) (List.Sublist.refl _)
 ·rintro ⟨c_1,vc_1,c_2,vc_2,cc_2,F2⟩ ⟨hk,hc_1,hc_2,oc_2,le1_2⟩; (try dsimp only at *);rw [←hk3] at hk; (try dsimp only at hk);haveI:=hc_1.oneC;refine T.seq ?_;have hq:(dd (c_2++[[]]).length 24)∧_:=eW hk;clear hk;obtain ⟨g25,hk⟩:=hq; (try dsimp only at hk);refine fg ?_;refine j5 ?_;refine jj ?_;rintro _ _ ⟨g24,rfl,rfl⟩;have hl24:OwnD cP F2.toFrz 1 [[(.slice none 0 0)]] [[]]:=(dn (OwnD.nil _ _ 1) ⟨_,rfl,(SlC.nil _ 2)⟩);refine cX (fj 1 0 rfl rfl rfl rfl rfl rfl (j2 (ys:=[[]])) (zb8 (cs:=cc_2) (ds:=[[(.slice none 0 0)]])) g25 a6) ?_;rintro v25 _ ⟨hv25,rfl⟩;have ho25:OwnD cP F2.toFrz 1 (cc_2++[[(.slice none 0 0)]]) (c_2++[[]]):=(dn hc_2 ⟨_,rfl,(SlC.nil _ 2)⟩);refine fy ?_;refine eE (ey 2 rfl rfl rfl rfl a8) ?_;refine fb ?_;refine dR ?_;refine cR (dY 2) ?_;refine eE (dF 3) ?_;refine fb ?_;refine fN ?_;refine kC (fun w hw=>hw.freezeS (i:=4) (j:=1) a6 rfl rfl) ?_;rintro F5 ⟨le2_5,hz5⟩;refine gY ?_;have le1_5:=le1_2.trans le2_5;have hf5:=hz5.toD (OwnD.mono (rep:=cP) (fun _ _ _ _=>R_List_GChoice.mono) ho25 le2_5) rfl;haveI:=hf5.1.oneC;obtain rfl:=Option.some.inj hk;exact kB 2 rfl rfl rfl rfl (fun w' hw=>⟨(vc_1,v25,(cc_2++[[(.slice none 0 0)]])),F5.toFrz,⟨(SlC.mono hc_1 le2_5),hf5⟩,rfl,eD hw (i:=3) rfl hS0 le1_5⟩)
def zcb (fuel:Nat)(x_:GProof)(want:Int)(e_:Int):Option Bool:=
 (zc0 fuel (lv) x_).bind fun r12=>
 some ((decide (r12.1=want))&&(decide (r12.2=e_)))
theorem zc6 (F0:Frz)(w:World)(hF0:F0.At w)(x_:GProof)(vx__0:Value)(hx__0:SlC F0 vx__0 1 (x_.Stations.map eI))(vx__1:Value)(cx__1:List (List Value))(hx__1:SlD cP F0 vx__1 1 cx__1 x_.Lemmas)(want:Int)(e_:Int)(htab:Tab w)(fuel:Nat)(hfu:100000≤fuel)(r:Bool)(hr:zcb fuel x_ want e_=some r):Calls Tryz.prog 35 #[.agg [vx__0,vx__1].toArray, .int .i64 want, .int .i64 e_] w fun e w'=>e= .returned (.bool r)∧Below w.heap.size w w':=by
 have hk:=hr;unfold zcb at hk;haveI:=hx__0.oneC;haveI:=hx__1.1.oneC;obtain ⟨S0,F1,rfl,hS0,hp0⟩:=fE hF0;have hM0:¬(fun _:Nat=>False) 0:=fun h=>h;have htk:∀ {hs:HS} {w':World},Hp w (fun _=>False) hs w'→Tab w':=fun hw=>htab.keptF hw;refine dy Tryz.func35 rfl rfl rfl hp0 ?_;refine kg ?_;rintro _ _ ⟨g3,rfl,rfl⟩;refine ki ?_;have hq:=dV hk;clear hk;obtain ⟨r12,hr12,hk⟩:=hq; (try dsimp only at hk);refine d8 (.still 1 (.eff 0 (.eff 2 (sN 3 4 (.still 7 .done))))) _ a7 (List.Sublist.refl _) ?_;refine q2n ?_;refine dQ ?_;refine dx rfl (Wt.none) rfl rfl (eg 1 rfl rfl rfl rfl (fun w hw hF=>zcR _ w hF )) ?_;rintro _ _ ⟨⟨v10_0_0,cs10_0_0,v10_0_1,v10_0_2,v10_0_3⟩,F2,le1_2,⟨hf10_0_0,hf10_0_1,hf10_0_2,hf10_0_3⟩,rfl,rfl⟩;dsimp only at hf10_0_0 hf10_0_1 hf10_0_2 hf10_0_3 ⊢;haveI:=hf10_0_0.1.oneC;haveI:=hf10_0_1.oneC;haveI:=hf10_0_2.oneC;haveI:=hf10_0_3.oneC;refine ⟨(fun w hw=>(hw.frLe (i:=1) rfl le1_2).sub Sx),?_⟩;refine dQ ?_;refine dx rfl (Wt.none) rfl rfl (cS rfl rfl rfl (fun w hw=>zfm _ w (hw.fr (i:=1) rfl) (lv) v10_0_0 cs10_0_0 hf10_0_0 v10_0_1 hf10_0_1 v10_0_2 hf10_0_2 v10_0_3 hf10_0_3 x_ vx__0 (SlC.mono hx__0 le1_2) vx__1 cx__1 (SlD.mono (rep:=cP) (fun _ _ _ _=>R_List_GChoice.mono) hx__1 le1_2) (htab.keptF hw) fuel hfu r12 hr12)) ?_;refine fb ?_;refine ⟨(fun w hw=>(hw.frLe (i:=1) rfl le1_2).sub Sx),?_⟩;refine TS.run 5 rfl ?_;refine ir ?_;refine K.seq (T.seq ?_);refine dk (ι:=Unit) (fun z=>[(6, .bool ((decide (r12.1=want))&&(decide (r12.2=e_))))]) (fun z=>[.row g3 33 [vx__0,vx__1], .fr F2]) (fun z=>True) ?_ ?_
 ·refine fg ?_;refine TL.run 4 rfl ?_;refine dO rfl rfl rfl (fun h1=>?_) (fun h1=>?_)
  ·have p1:=of_decide_eq_true h1;refine mi ?_;exact q4f
  ·have p1:=of_decide_eq_false h1;refine mi ?_;exact q4g
 ·rintro _ _;refine T.ret ?_;obtain rfl:=Option.some.inj hk;exact eY
def zbY (fuel : Nat)  : Option Bool :=
 (zbk [1,2,3] 3).bind fun r9=>
 (zc1 fuel (lv) r9).bind fun r10=>
 dN (fun (x_1:Bool)=>
  (bif x_1 then
   some false
   else
   (zbk [1,2] 3).bind fun r32=>
   (zcb fuel r32 0 0).bind fun r33=>
   dN (fun (x_7:Bool)=>
    (bif x_7 then
     some false
     else
     (zbk [1,2,3] 3).bind fun r44=>
     (zeq fuel (lv) r44).bind fun r45=>
     (zbv fuel r45.1).bind fun r50=>
     dN (fun (x_11:Bool)=>
      some x_11)
     (fun k12=>
      (bif decide (r45.2=0) then
       (bif decide (r50.2=0) then
        (zbk [1,2,3] 2).bind fun r62=>
        (bif (zbH r45.1 r62) then
         k12 ((jW r50.1) == ([3,1,2,3,2,1,1,14,0]:List UInt8))
         else
         k12 false)
        else
        k12 false)
       else
       k12 false))))
   (fun k8=>
    (bif !r33 then
     k8 true
     else
     (zbk [1,2,3,5] 3).bind fun r37=>
     (zcb fuel r37 0 9).bind fun r38=>
     k8 (!r38)))))
 (fun k2=>
  (bif decide (¬r10=0) then
   k2 true
   else
   (zbk [1,2,3] 3).bind fun r14=>
   (zcb fuel r14 3 0).bind fun r15=>
   (bif !r15 then
    k2 true
    else
    (zbk [1,2,3] 1).bind fun r20=>
    (zcb fuel r20 0 0).bind fun r21=>
    (bif !r21 then
     k2 true
     else
     (zbk [1,2,3] 1).bind fun r27=>
     (zc1 fuel (lv) r27).bind fun r28=>
     k2 (decide (¬r28=10))))))
theorem zdY (F0 : Frz)(w : World)(hF0 : F0.At w)  (htab : Tab w)(fuel : Nat)(hfu : 100000 ≤ fuel)(r : Bool)(hr : zbY fuel = some r) : Calls Tryz.prog 10 #[] w fun e w' => e = .returned (.bool r) ∧ Below w.heap.size w w' := by
 have hk:=hr;unfold zbY at hk;obtain ⟨S0,F1,rfl,hS0,hp0⟩:=fE hF0;have hM0:¬(fun _:Nat=>False) 0:=fun h=>h;have htk:∀ {hs:HS} {w':World},Hp w (fun _=>False) hs w'→Tab w':=fun hw=>htab.keptF hw;refine dy Tryz.func10 rfl rfl rfl hp0 ?_;refine mM ?_;refine jj ?_;rintro _ _ ⟨g6,rfl,rfl⟩;refine dp ?_;refine iZ ?_;refine kY (fun w hw=>hw.freezeR (i:=1) (j:=0) a6 rfl rfl) ?_;rintro F2 ⟨le1_2,hz2⟩;refine gY ?_;have hf2:SlC F2.toFrz (.slice (some ⟨g6,0,none⟩) 3 3) 1 ([1,2,3].map eI):=(SlK.lit hz2 rfl (Nat.le_refl _) a6).toF (xs:=[1,2,3]) rfl (fun _=>rfl);have hq:=dV hk;clear hk;obtain ⟨r9,hr9,hk⟩:=hq;have hq:=dV hk;clear hk;obtain ⟨r10,hr10,hk⟩:=hq; (try dsimp only at hk);have hq:=eN hk;clear hk;obtain ⟨k2,hk2,hk⟩:=hq; (try dsimp only at hk);refine dk (ι:=Bool×FzB w (fun _=>False) S0) (fun z=>[(1,(.slice (some ⟨g6,0,none⟩) 3 3)),(30, .bool z.1)]) (fun z=>[.fr z.2]) (fun z=>k2 z.1=some r∧F2.toFrz.Le z.2.toFrz) ?_ ?_
 ·refine fg ?_;refine cX (eg 0 rfl rfl rfl rfl (fun w hw hF=>zcR _ w hF )) ?_;rintro _ _ ⟨⟨v7_0_0,cs7_0_0,v7_0_1,v7_0_2,v7_0_3⟩,F4,le2_4,⟨hf7_0_0,hf7_0_1,hf7_0_2,hf7_0_3⟩,rfl,rfl⟩;dsimp only at hf7_0_0 hf7_0_1 hf7_0_2 hf7_0_3 ⊢;haveI:=hf7_0_0.1.oneC;haveI:=hf7_0_1.oneC;haveI:=hf7_0_2.oneC;haveI:=hf7_0_3.oneC;refine dp ?_;refine cX (eg 0 rfl rfl rfl rfl (fun w hw hF=>zbF _ w hF [1,2,3] (.slice (some ⟨g6,0,none⟩) 3 3) (SlC.mono hf2 le2_4) 3 r9 hr9)) ?_;rintro _ _ ⟨⟨v9_0_0,v9_0_1,cs9_0_1⟩,F5,le4_5,⟨hf9_0_0,hf9_0_1⟩,rfl,rfl⟩;dsimp only at hf9_0_0 hf9_0_1 ⊢;have le2_5:=le2_4.trans le4_5;haveI:=hf9_0_0.oneC;haveI:=hf9_0_1.1.oneC;refine cX (cS rfl rfl rfl (fun w hw=>zfq _ w (hw.fr (i:=0) rfl) (lv) v7_0_0 cs7_0_0 (SlD.mono (rep:=cT) (fun _ _ _ _=>GDomain.mono) hf7_0_0 le4_5) v7_0_1 (SlC.mono hf7_0_1 le4_5) v7_0_2 (SlC.mono hf7_0_2 le4_5) v7_0_3 (SlC.mono hf7_0_3 le4_5) r9 v9_0_0 hf9_0_0 v9_0_1 cs9_0_1 hf9_0_1 (htab.keptF hw) fuel hfu r10 hr10)) ?_;refine fb ?_;refine ez ?_;refine dO rfl rfl rfl (fun h3=>?_) (fun h3=>?_)
  ·have p3:=of_decide_eq_true h3;replace hk:=dC hk h3;refine TL.run 18 rfl ?_;refine TL.nil ?_;exact c4 (true,F5) ⟨hk,le2_5⟩ (.c (.c .nil)) (List.Sublist.refl _)
  ·have p3:=of_decide_eq_false h3;replace hk:=dD hk h3;refine dp ?_;have hq:=dV hk;clear hk;obtain ⟨r14,hr14,hk⟩:=hq;refine cX (eg 0 rfl rfl rfl rfl (fun w hw hF=>zbF _ w hF [1,2,3] (.slice (some ⟨g6,0,none⟩) 3 3) (SlC.mono hf2 le2_5) 3 r14 hr14)) ?_;rintro _ _ ⟨⟨v14_0_0,v14_0_1,cs14_0_1⟩,F6,le5_6,⟨hf14_0_0,hf14_0_1⟩,rfl,rfl⟩;dsimp only at hf14_0_0 hf14_0_1 ⊢;have le2_6:=le2_5.trans le5_6;haveI:=hf14_0_0.oneC;haveI:=hf14_0_1.1.oneC;have hq:=dV hk;clear hk;obtain ⟨r15,hr15,hk⟩:=hq;refine cX (cS rfl rfl rfl (fun w hw=>zc6 _ w (hw.fr (i:=0) rfl) r14 v14_0_0 hf14_0_0 v14_0_1 cs14_0_1 hf14_0_1 3 0 (htab.keptF hw) fuel hfu r15 hr15)) ?_;refine fb ?_;refine fF ?_;refine dO rfl rfl rfl (fun h4=>?_) (fun h4=>?_)
   ·replace hk:=dC hk h4;refine TL.run 12 rfl ?_;refine TL.nil ?_;exact c4 (true,F6) ⟨hk,le2_6⟩ (.c (.c .nil)) (List.Sublist.refl _)
   ·replace hk:=dD hk h4;refine dp ?_;have hq:=dV hk;clear hk;obtain ⟨r20,hr20,hk⟩:=hq;refine cX (eg 0 rfl rfl rfl rfl (fun w hw hF=>zbF _ w hF [1,2,3] (.slice (some ⟨g6,0,none⟩) 3 3) (SlC.mono hf2 le2_6) 1 r20 hr20)) ?_;rintro _ _ ⟨⟨v20_0_0,v20_0_1,cs20_0_1⟩,F7,le6_7,⟨hf20_0_0,hf20_0_1⟩,rfl,rfl⟩;dsimp only at hf20_0_0 hf20_0_1 ⊢;have le2_7:=le2_6.trans le6_7;haveI:=hf20_0_0.oneC;haveI:=hf20_0_1.1.oneC;have hq:=dV hk;clear hk;obtain ⟨r21,hr21,hk⟩:=hq;refine cX (cS rfl rfl rfl (fun w hw=>zc6 _ w (hw.fr (i:=0) rfl) r20 v20_0_0 hf20_0_0 v20_0_1 cs20_0_1 hf20_0_1 0 0 (htab.keptF hw) fuel hfu r21 hr21)) ?_;refine fb ?_;refine fF ?_;refine dO rfl rfl rfl (fun h5=>?_) (fun h5=>?_)
    ·replace hk:=dC hk h5;refine TL.run 6 rfl ?_;refine TL.nil ?_;exact c4 (true,F7) ⟨hk,le2_7⟩ (.c (.c .nil)) (List.Sublist.refl _)
    ·replace hk:=dD hk h5;refine cX (eg 0 rfl rfl rfl rfl (fun w hw hF=>zcR _ w hF )) ?_;rintro _ _ ⟨⟨v25_0_0,cs25_0_0,v25_0_1,v25_0_2,v25_0_3⟩,F8,le7_8,⟨hf25_0_0,hf25_0_1,hf25_0_2,hf25_0_3⟩,rfl,rfl⟩;dsimp only at hf25_0_0 hf25_0_1 hf25_0_2 hf25_0_3 ⊢;have le2_8:=le2_7.trans le7_8;haveI:=hf25_0_0.1.oneC;haveI:=hf25_0_1.oneC;haveI:=hf25_0_2.oneC;haveI:=hf25_0_3.oneC;refine dp ?_;have hq:=dV hk;clear hk;obtain ⟨r27,hr27,hk⟩:=hq;refine cX (eg 0 rfl rfl rfl rfl (fun w hw hF=>zbF _ w hF [1,2,3] (.slice (some ⟨g6,0,none⟩) 3 3) (SlC.mono hf2 le2_8) 1 r27 hr27)) ?_;rintro _ _ ⟨⟨v27_0_0,v27_0_1,cs27_0_1⟩,F9,le8_9,⟨hf27_0_0,hf27_0_1⟩,rfl,rfl⟩;dsimp only at hf27_0_0 hf27_0_1 ⊢;have le2_9:=le2_8.trans le8_9;haveI:=hf27_0_0.oneC;haveI:=hf27_0_1.1.oneC;have hq:=dV hk;clear hk;obtain ⟨r28,hr28,hk⟩:=hq;refine cX (cS rfl rfl rfl (fun w hw=>zfq _ w (hw.fr (i:=0) rfl) (lv) v25_0_0 cs25_0_0 (SlD.mono (rep:=cT) (fun _ _ _ _=>GDomain.mono) hf25_0_0 le8_9) v25_0_1 (SlC.mono hf25_0_1 le8_9) v25_0_2 (SlC.mono hf25_0_2 le8_9) v25_0_3 (SlC.mono hf25_0_3 le8_9) r27 v27_0_0 hf27_0_0 v27_0_1 cs27_0_1 hf27_0_1 (htab.keptF hw) fuel hfu r28 hr28)) ?_;refine mq ?_;exact c4 (decide (¬r28=10),F9) ⟨hk,le2_9⟩ (.c (.c .nil)) (List.Sublist.refl _)
 ·rintro ⟨x_1,F3⟩ ⟨hk,le2_3⟩; (try dsimp only at *);rw [←hk2] at hk; (try dsimp only at hk);refine T.cond rfl (fun h6=>?_) (fun h6=>?_)
  ·replace hk:=dC hk h6;refine hD ?_;obtain rfl:=Option.some.inj hk;exact eY
  ·replace hk:=dD hk h6;refine q3m ?_;have hq:=dV hk;clear hk;obtain ⟨r32,hr32,hk⟩:=hq;have hq:=dV hk;clear hk;obtain ⟨r33,hr33,hk⟩:=hq; (try dsimp only at hk);have hq:=eN hk;clear hk;obtain ⟨k8,hk8,hk⟩:=hq; (try dsimp only at hk);refine dk (ι:=Bool×FzB w (fun _=>False) S0) (fun z=>[(1,(.slice (some ⟨g6,0,none⟩) 3 3)),(40, .bool z.1)]) (fun z=>[.fr z.2]) (fun z=>k8 z.1=some r∧F3.toFrz.Le z.2.toFrz) ?_ ?_
   ·refine fg ?_;refine jj ?_;rintro _ _ ⟨g31,rfl,rfl⟩;refine ji (fun w hw=>hw.freezeR (i:=1) (j:=0) a6 rfl rfl) ?_;rintro F11 ⟨le3_11,hz11⟩;refine gY ?_;have hf11:SlC F11.toFrz (.slice (some ⟨g31,0,none⟩) 2 2) 1 ([1,2].map eI):=(SlK.lit hz11 rfl (Nat.le_refl _) a6).toF (xs:=[1,2]) rfl (fun _=>rfl);refine cX (eg 0 rfl rfl rfl rfl (fun w hw hF=>zbF _ w hF [1,2] (.slice (some ⟨g31,0,none⟩) 2 2) hf11 3 r32 hr32)) ?_;rintro _ _ ⟨⟨v32_0_0,v32_0_1,cs32_0_1⟩,F12,le11_12,⟨hf32_0_0,hf32_0_1⟩,rfl,rfl⟩;dsimp only at hf32_0_0 hf32_0_1 ⊢;have le3_12:=le3_11.trans le11_12;haveI:=hf32_0_0.oneC;haveI:=hf32_0_1.1.oneC;refine cX (cS rfl rfl rfl (fun w hw=>zc6 _ w (hw.fr (i:=0) rfl) r32 v32_0_0 hf32_0_0 v32_0_1 cs32_0_1 hf32_0_1 0 0 (htab.keptF hw) fuel hfu r33 hr33)) ?_;refine fb ?_;refine ez ?_;refine dO rfl rfl rfl (fun h9=>?_) (fun h9=>?_)
    ·replace hk:=dC hk h9;refine mi ?_;exact c4 (true,F12) ⟨hk,le3_12⟩ (.c (.c .nil)) (List.Sublist.refl _)
    ·replace hk:=dD hk h9;refine jj ?_;rintro _ _ ⟨g36,rfl,rfl⟩;refine ji (fun w hw=>hw.freezeR (i:=1) (j:=0) a6 rfl rfl) ?_;rintro F13 ⟨le12_13,hz13⟩;refine gY ?_;have le3_13:=le3_12.trans le12_13;have hf13:SlC F13.toFrz (.slice (some ⟨g36,0,none⟩) 4 4) 1 ([1,2,3,5].map eI):=(SlK.lit hz13 rfl (Nat.le_refl _) a6).toF (xs:=[1,2,3,5]) rfl (fun _=>rfl);have hq:=dV hk;clear hk;obtain ⟨r37,hr37,hk⟩:=hq;refine cX (eg 0 rfl rfl rfl rfl (fun w hw hF=>zbF _ w hF [1,2,3,5] (.slice (some ⟨g36,0,none⟩) 4 4) hf13 3 r37 hr37)) ?_;rintro _ _ ⟨⟨v37_0_0,v37_0_1,cs37_0_1⟩,F14,le13_14,⟨hf37_0_0,hf37_0_1⟩,rfl,rfl⟩;dsimp only at hf37_0_0 hf37_0_1 ⊢;have le3_14:=le3_13.trans le13_14;haveI:=hf37_0_0.oneC;haveI:=hf37_0_1.1.oneC;have hq:=dV hk;clear hk;obtain ⟨r38,hr38,hk⟩:=hq;refine cX (cS rfl rfl rfl (fun w hw=>zc6 _ w (hw.fr (i:=0) rfl) r37 v37_0_0 hf37_0_0 v37_0_1 cs37_0_1 hf37_0_1 0 9 (htab.keptF hw) fuel hfu r38 hr38)) ?_;refine mq ?_;exact c4 (!r38,F14) ⟨hk,le3_14⟩ (.c (.c .nil)) (List.Sublist.refl _)
   ·rintro ⟨x_7,F10⟩ ⟨hk,le3_10⟩; (try dsimp only at *);rw [←hk8] at hk; (try dsimp only at hk);have le2_10:=le2_3.trans le3_10;refine T.cond rfl (fun h10=>?_) (fun h10=>?_)
    ·replace hk:=dC hk h10;refine hD ?_;obtain rfl:=Option.some.inj hk;exact eY
    ·replace hk:=dD hk h10;refine iK ?_;have hq:=dV hk;clear hk;obtain ⟨r44,hr44,hk⟩:=hq;have hq:=dV hk;clear hk;obtain ⟨r45,hr45,hk⟩:=hq; (try dsimp only at hk);refine fg ?_;refine cX (eg 0 rfl rfl rfl rfl (fun w hw hF=>zcR _ w hF )) ?_;rintro _ _ ⟨⟨v42_0_0,cs42_0_0,v42_0_1,v42_0_2,v42_0_3⟩,F15,le10_15,⟨hf42_0_0,hf42_0_1,hf42_0_2,hf42_0_3⟩,rfl,rfl⟩;dsimp only at hf42_0_0 hf42_0_1 hf42_0_2 hf42_0_3 ⊢;have le2_15:=le2_10.trans le10_15;haveI:=hf42_0_0.1.oneC;haveI:=hf42_0_1.oneC;haveI:=hf42_0_2.oneC;haveI:=hf42_0_3.oneC;refine dp ?_;refine cX (eg 0 rfl rfl rfl rfl (fun w hw hF=>zbF _ w hF [1,2,3] (.slice (some ⟨g6,0,none⟩) 3 3) (SlC.mono hf2 le2_15) 3 r44 hr44)) ?_;rintro _ _ ⟨⟨v44_0_0,v44_0_1,cs44_0_1⟩,F16,le15_16,⟨hf44_0_0,hf44_0_1⟩,rfl,rfl⟩;dsimp only at hf44_0_0 hf44_0_1 ⊢;have le2_16:=le2_15.trans le15_16;haveI:=hf44_0_0.oneC;haveI:=hf44_0_1.1.oneC;refine cX (eg 0 rfl rfl rfl rfl (fun w hw hF=>zh6 _ w hF (lv) v42_0_0 cs42_0_0 (SlD.mono (rep:=cT) (fun _ _ _ _=>GDomain.mono) hf42_0_0 le15_16) v42_0_1 (SlC.mono hf42_0_1 le15_16) v42_0_2 (SlC.mono hf42_0_2 le15_16) v42_0_3 (SlC.mono hf42_0_3 le15_16) r44 v44_0_0 hf44_0_0 v44_0_1 cs44_0_1 hf44_0_1 (htab.keptF hw) fuel hfu r45 hr45)) ?_;rintro _ _ ⟨⟨v45_0_0,v45_0_1,cs45_0_1⟩,F17,le16_17,⟨hf45_0_0,hf45_0_1⟩,rfl,rfl⟩;dsimp only at hf45_0_0 hf45_0_1 ⊢;have le2_17:=le2_16.trans le16_17;haveI:=hf45_0_0.oneC;haveI:=hf45_0_1.1.oneC;refine fF ?_;refine gw ?_;rintro _ _ ⟨g2,rfl,rfl⟩;refine iW ?_;refine ki ?_;have hq:=dV hk;clear hk;obtain ⟨r50,hr50,hk⟩:=hq; (try dsimp only at hk);refine fg ?_;refine iu ?_;refine cX (dI [1,0] [] [.row g2 33 [v45_0_0,v45_0_1]] rfl rfl rfl rfl a6 (fun w hw hw2 hF=>zeM _ w hF r45.1 v45_0_0 hf45_0_0 v45_0_1 cs45_0_1 hf45_0_1 fuel r50 hr50)) ?_;rintro _ _ ⟨v50_0_0, -,rfl,rfl⟩;refine q23 ?_;intro iv50_0_0 hmv50_0_0;refine kb ?_;refine gU ?_;refine q3b ?_;rintro F18 ⟨le17_18,hz18⟩;refine gY ?_;have le2_18:=le2_17.trans le17_18;have hf18:=hz18.toF rfl (fun _=>rfl);haveI:=hf18.oneC; (try dsimp only at hk);have hq:=eN hk;clear hk;obtain ⟨k12,hk12,hk⟩:=hq; (try dsimp only at hk);refine dk (ι:=Bool×FzB w (fun _=>False) S0) (fun z=>[(0, .bool z.1)]) (fun z=>[.fr z.2]) (fun z=>k12 z.1=some r∧F18.toFrz.Le z.2.toFrz) ?_ ?_
     ·refine d8 (sN 0 9 (.eff 9 (.eff 10 (sN 11 6 (.still 17 .done))))) _ a7 (List.Sublist.refl _) ?_;refine kj ?_;refine fC rfl rfl rfl rfl (fun h13=>?_) (fun h13=>?_)
      ·have p13:=of_decide_eq_true h13;replace hk:=dC hk h13;refine TS.run 4 rfl ?_;refine fC rfl rfl rfl rfl (fun h14=>?_) (fun h14=>?_)
       ·have p14:=of_decide_eq_true h14;replace hk:=dC hk h14;refine cZ rfl (dY 1) ?_;refine gj ?_;refine dQ ?_;have hq:=dV hk;clear hk;obtain ⟨r62,hr62,hk⟩:=hq;refine dx rfl (Wt.some) rfl rfl (eg 0 rfl rfl rfl rfl (fun w hw hF=>zbF _ w hF [1,2,3] (.slice (some ⟨g6,0,none⟩) 3 3) (SlC.mono hf2 le2_18) 2 r62 hr62)) ?_;rintro _ _ ⟨⟨v62_0_0,v62_0_1,cs62_0_1⟩,F20,le18_20,⟨hf62_0_0,hf62_0_1⟩,rfl,rfl⟩;dsimp only at hf62_0_0 hf62_0_1 ⊢;have le17_20:=le17_18.trans le18_20;haveI:=hf62_0_0.oneC;haveI:=hf62_0_1.1.oneC;refine ⟨(fun w hw=>(hw.frLe (i:=0) rfl le18_20).sub Sx),?_⟩;refine dQ ?_;refine dx rfl (Wt.some) rfl rfl (cS rfl rfl rfl (fun w hw=>zei _ w (hw.fr (i:=0) rfl) r45.1 v45_0_0 (SlC.mono hf45_0_0 le17_20) v45_0_1 cs45_0_1 (SlD.mono (rep:=cP) (fun _ _ _ _=>R_List_GChoice.mono) hf45_0_1 le17_20) r62 v62_0_0 hf62_0_0 v62_0_1 cs62_0_1 hf62_0_1)) ?_;refine fb ?_;refine ⟨(fun w hw=>(hw.frLe (i:=0) rfl le18_20).sub Sx),?_⟩;refine gJ ?_;refine fC rfl rfl rfl rfl (fun h15=>?_) (fun h15=>?_)
        ·replace hk:=dC hk h15;refine gj ?_;refine cZ rfl (kv 0 (e:=5) a7 a7 a7 rfl rfl rfl hf18) ?_;refine cZ rfl (Yv.cf (a:=(jW r50.1)) (b:=([3,1,2,3,2,1,1,14,0]:List UInt8)) rfl rfl rfl) ?_;refine mA ?_;refine K.pick [0] rfl a6 ?_;exact c4 (((jW r50.1) == ([3,1,2,3,2,1,1,14,0]:List UInt8)),F20) ⟨hk,le18_20⟩ (.c .nil) (List.Sublist.refl _)
        ·replace hk:=dD hk h15;refine TS.run 5 rfl ?_;refine ir ?_;refine K.pick [0] rfl a6 ?_;exact c4 (false,F20) ⟨hk,le18_20⟩ (.c .nil) (List.Sublist.refl _)
       ·have p14:=of_decide_eq_false h14;replace hk:=dD hk h14;refine gJ ?_;refine jK ?_;refine jK ?_;refine TS.run 7 rfl ?_;refine ir ?_;refine K.pick [0] rfl a6 ?_;exact c4 (false,F18) ⟨hk,(Frz.Le.refl _)⟩ (.c .nil) (List.Sublist.refl _)
      ·have p13:=of_decide_eq_false h13;replace hk:=dD hk h13;refine TS.run 6 rfl ?_;refine jK ?_;refine jK ?_;refine TS.run 7 rfl ?_;refine ir ?_;refine K.pick [0] rfl a6 ?_;exact c4 (false,F18) ⟨hk,(Frz.Le.refl _)⟩ (.c .nil) (List.Sublist.refl _)
     ·rintro ⟨x_11,F19⟩ ⟨hk,le18_19⟩; (try dsimp only at *);rw [←hk12] at hk; (try dsimp only at hk);refine T.ret ?_;obtain rfl:=Option.some.inj hk;exact eY
theorem zlo (n:Nat):zbY (n+100000)=some true:=by kernel_rfl
theorem zkI {fuel:Nat}(hf:100000≤fuel):zbY fuel=some true:=by
 obtain ⟨n,rfl⟩:∃n,fuel=n+100000:=⟨fuel - 100000,by omega⟩;exact zlo n
section
variable {p:GProblem}{x:GProof}{fuel:Nat}
theorem zjm:zbH x x=true:=by
 unfold zbH;rw [zlQ,Bool.and_true,ziM];exact decide_eq_true rfl
end
inductive Dy (α β:Type) where
 |ok (x:α)
 |er (z:β)
instance {α β:Type} [Inhabited α]:Inhabited (Dy α β):=⟨.ok default⟩
def im {α β:Type}:Dy α β→Bool
 | .ok _=>true
 | .er _=>false
def et {α β:Type}[Inhabited α]:Dy α β→α
 | .ok x=>x
 | .er _=>default
def iw {α β:Type}[Inhabited β]:Dy α β→β
 | .ok _=>default
 | .er z=>z
abbrev dyE (t:TypeId)(k:Int):List PanicEntry:=[{ v:= .iface t (.int .i64 k),recovered:=false }]
def zku (P:Program)(fn:Func)(R:Ending→World→Prop):Exit→Act→World→Prop
 | .normal,a,w| .ret,a,w=>LeavesInM Fence.wide 0 P fn a.tmps R a.defers .returning w
 | .panic ch,a,w=>∀tmps,LeavesInM Fence.wide 0 P fn tmps R a.defers (.panicking ch) w
 |_,_,_=>False
instance (P:Program) (fn:Func) (R:Ending→World→Prop):NP (zku P fn R):=⟨fun c a d v w h=>by
 cases d <;> exact h⟩
section
variable {F:Fence}{P:Program}{n:Nat}{B D:World}{M:Nat→Prop}{Q:Exit→Act→World→Prop}{fs:dW}{hs:HS}{ops:Array Oper}{l rest:List Oper}{ch:List PanicEntry}{id:Nat}
theorem ze4 {f : FuncId} {fn : Func} {c : Code} {args : List Value} {w : World} {R : Ending → World → Prop} (hf : P.funcs[f]? = some fn) (hb : fn.body = some c) (hn : fn.ntmps = n) (hlen : Nat.ble args.length n = true)
    (hh : Hp w M hs w) (h : T Fence.wide P n w w M c (zku P fn R) (jC 0 args) hs) : Calls P f args.toArray w R := by
  (have hle : args.length ≤ n := by simpa using hlen); refine callsIn_wide.1 (callsIn_of_wp_marks (F := Fence.wide) (n := 0) hf hb trivial (wpIn_mono (h.out { tmps := args.toArray ++ Array.replicate (fn.ntmps - args.toArray.size) undef, defers := [] } w ⟨?_, ?_⟩ hh ⟨Kp.refl w, [], rfl, List.nodup_nil, fun _ h => by cases h⟩) ?_))
  · simp [hn]; omega
  · intro t v e; obtain ⟨_, h2⟩ := zee _ _ _ _ e; rw [Nat.sub_zero] at h2; have ht : t < args.length := (List.getElem?_eq_some_iff.1 h2).1; rw [Array.getElem?_append_left (by simpa using ht)]; simpa using h2
  · intro e a w hq
    cases e <;> first | exact hq | exact hq a.tmps | exact hq.elim
theorem K.pq {fn:Func}{R:Ending→World→Prop}(h:K n B D M (ku P fn R) .ret fs hs):K n B D M (zku P fn R) .ret fs hs:=⟨fun a w ha hw hm=>h.out a w ha hw hm⟩
theorem K.cI {fn:Func}{R:Ending→World→Prop}(h:K n B D M (ku P fn R) .normal fs hs):K n B D M (zku P fn R) .normal fs hs:=⟨fun a w ha hw hm=>h.out a w ha hw hm⟩
theorem eM {N:Act→World→Prop}(h:K n B D M Q (.panic ch) fs hs):K n B D M (Exit.then N Q) (.panic ch) fs hs:=⟨fun a w ha hw hm=>h.out a w ha hw hm⟩
theorem K.ba (h:K n B D M Q (.panic ch) fs hs):K n B D M (Exit.inBlock id Q) (.panic ch) fs hs:=⟨fun a w ha hw hm=>h.out a w ha hw hm⟩
theorem ze5 {fn : Func} {R : Ending → World → Prop} {tmps : Array Value} (hv : ∀ w, Hp B M hs w → R (.panicked ch) w) :
    ∀ (rs : List Nat) (w : World), Hp B M hs w → Kp D w → rs.Nodup → (∀ r ∈ rs, w.heap[r]? = some (.deferred (some [])) ∧ B.heap.size ≤ r ∧ D.heap.size ≤ r) → LeavesInM Fence.wide 0 P fn tmps R (rs.map me) (.panicking ch) w
  | [], w, h, hk, _, _ => hv w h
  | r :: rs, w, h, hk, hn, hr => by
    obtain ⟨h1, h2, h3⟩ := hr r a8; have hlt := (Array.getElem?_eq_some_iff.1 h1).1; have ho : Only (· = r) w (w.putObj r (.deferred none)) := ⟨rfl, rfl, rfl, by rw [World.putObj_size]; exact Nat.le_refl _, fun k hk hne => World.putObj_heap_other hne⟩; refine ⟨by simp, .inl ⟨r, w.putObj r (.deferred none), rfl, run_takeDeferred h1, ?_⟩⟩; rw [List.nodup_cons] at hn; refine ze5 hv rs _ (h.other ho h2 (h.notMark h1)) ⟨Nat.le_trans hk.size ho.size, fun q c hq => ?_⟩ hn.2 (fun q hq => ?_)
    · have hq' := (Array.getElem?_eq_some_iff.1 hq).1; exact (World.putObj_heap_other a5).trans (hk.keep q c hq)
    · have hq' := hr q (by simp [hq]); exact ⟨(World.putObj_heap_other (fun (e : q = r) => hn.1 (by rw [← e]; exact hq))).trans hq'.1, hq'.2⟩
theorem K.bk {fn:Func}{R:Ending→World→Prop}(h:∀w,Hp B M hs w→R (.panicked ch) w):K n B D M (zku P fn R) (.panic ch) fs hs:=
 ⟨fun a w ha hw ⟨h0,rs,h1,h2,h3⟩=>by
  intro tmps
  rw [h1];exact ze5 h rs w hw h0 h2 h3⟩
end
section
variable {Fe:Fence}[hFe:Calm Fe]{P:Program}{n:Nat}{B D:World}{M S0:Nat→Prop}{Q:Exit→Act→World→Prop}{fs:dW}{hs:HS}{ops:Array Oper}{rest:List Oper}{o:Oper}{v:Value}
def zjz (P:Program)(t:TypeId):Bool:=
 match P.underlying t with
 |some (.interface _)=>false
 |some _=>true
 |none=>false
theorem Yv.bX {t:TypeId}{x:Operand}(ho:o.op= .makeInterface t x)(hx:ev fs x=some v)(ht:zjz P t=true):Yv P n B M fs hs o (.iface t v):=fun a w ha _=>by
 have h1:(Instr.makeInterface t v).run P w= .ok (.iface t v) w:=by
  unfold zjz at ht
  cases hU:P.underlying t with
  |none=>rw [hU] at ht;cases ht
  |some d=>
   rw [hU] at ht
   cases d <;> first|(cases ht;done)|simp [Instr.makeInterface,underlying,hU]
 unfold execOp;simp only [ho,ha.ev hx];rw [Sem.run_bind,h1];rfl
theorem TL.bY {t:TypeId}{x:Operand}(hg:o.guard=none)(ho:o.op= .panic x)(hx:ev fs x=some (.iface t v))(k:K n B D M Q (.panic [{ v:= .iface t v,recovered:=false }]) fs hs):TL Fe P n B D M ops Q (o :: rest) fs hs:=
 ⟨fun a w ha hp hm=>wpListIn_step fun K hK=>by
  rw [if_pos (Wt.none hg a ha)]
  have hr:(execOp a.eval o).run P w= .halt (.panic (.iface t v)) w:=by
   unfold execOp;simp only [ho,ha.ev hx]
   rfl
  refine zgT (fun c e=>by rw [ho] at e;cases e) ?_;rw [hr]
  exact k.out a w ha hp hm⟩
theorem zjk {c : Operand} {xs : Array Operand} {ts : Array TypeId} {f : FuncId} {fst caps : Array Value} {vs : List Value} [hE : Enters P f] (ho : o.op = .call { callee := .value c, args := xs, argTypes := ts }) (hc : ev fs c = some (.func (.func f) fst caps)) (hv : evs fs xs.toList = some vs)
    {a : Act} {w : World} (ha : Fr n fs a) {R : Ending → World → Prop} (C : Calls P f (fst.toList ++ vs ++ caps.toList).toArray w R) {K : Act → World → Prop} (h1 : ∀ v w', R (.returned v) w' → K (a.put o.dst v) w') (h2 : ∀ ch w', R (.panicked ch) w' → Q (.panic ch) a w') (h3 : ∀ w', ¬ R .outgrown w') : o.wpIn Fe 0 P a w K Q := by
  (have h4 : xs.map a.eval = vs.toArray := by rw [← ha.evs hv]; apply Array.ext'; simp)
  have hrun : (execOp a.eval o).run P w = .ok (.enter f (fst.toList ++ vs ++ caps.toList).toArray) w := by
    unfold execOp; have := hE.run (fst.toList ++ vs ++ caps.toList).toArray w;simp only [ho, resolve, ha.ev hc, Deferred.ofValue, h4, invoke, Sem.run_bind, Sem.run_pure, Result.andThen_ok]; rw [← this]
    congr 2
    apply Array.ext'; simp
  refine zgT (zjN hrun) ?_; rw [hrun, Oper.uponIn_enter];refine ⟨(fun h => by rw [hFe.depth] at h; cases h), zfO C ?_⟩; intro e w' hR
  cases e with
  | returned v => exact h1 v w' hR
  | panicked ch => exact h2 ch w' hR
  | outgrown => exact absurd hR (h3 w')
theorem lB (idx : List Nat) (bs rs : HS) {ι : Type} {F : FzB B M S0} {φ : ι → Prop} {ch : List PanicEntry} {es : ι → HS} {c : Operand} {xs : Array Operand} {ts : Array TypeId} {f : FuncId} {fst caps : Array Value} {vs : List Value} [hE : Enters P f] (hg : o.guard = none)
    (ho : o.op = .call { callee := .value c, args := xs, argTypes := ts }) (hc : ev fs c = some (.func (.func f) fst caps)) (hv : evs fs xs.toList = some vs) (hp : mf hs idx = some (bs ++ .fr F :: rs)) (hn : idx.Nodup)
    (C : ∀ w, Hp B M hs w → Hp B M (bs ++ .fr F :: rs) w → F.toFrz.At w → Calls P f (fst.toList ++ vs ++ caps.toList).toArray w (fun e w' => ∃ y, φ y ∧ e = .panicked ch ∧ FxM F.toFrz w (dj bs) F.toFrz (es y) w'))
    (k : ∀ y, φ y → K n B D M Q (.panic ch) fs (es y ++ .fr F :: rs)) : TL Fe P n B D M ops Q (o :: rest) fs hs :=
  ⟨fun a w ha hw hm => wpListIn_step fun K hK => by
    rw [if_pos (Wt.none hg a ha)]; have hw2 := hw.pick hp hn; have hF : F.toFrz.At w := hw2.fr (i := bs.length) a8; refine zjk ho hc hv ha (C w hw hw2 hF) (fun v w' h => ?_) (fun ch2 w' h => ?_) (fun w' h => ?_)
    · obtain ⟨_, _, e, _⟩ := h; cases e
    · obtain ⟨y, hy, e, hx⟩ := h
      cases e
      refine (k y hy).out a w' ha ?_ (hm.next (Kp.only hx.hp.only fun g hg c => ?_))
      · exact q4K
      · obtain ⟨e, h1, h2⟩ := hg; exact e.nd (hw2.own e (List.mem_append_left _ h1)) g h2 c
    · obtain ⟨_, _, e, _⟩ := h; cases e⟩
end
structure GReader where
 fault:Gfault
 made:Bool
 in_:List Int
 at_:Int
deriving DecidableEq,Inhabited
def em (F:Frz)(c:List Value)(x:GReader):Prop:=∃(v2:Value),c=[.int .i64 x.fault.first, .bool x.made,v2, .int .i64 x.at_]∧SlC F v2 1 (x.in_.map (eK .u8))
theorem GReader.mono {F G:Frz}{c:List Value}{x:GReader}(hle:F.Le G)(h:em F c x):em G c x:=by
 obtain ⟨v2,h0,h3⟩:=h;exact ⟨v2,h0,h3.mono hle⟩
theorem GReader.len {F:Frz}{c:List Value}{x:GReader}(h:em F c x):c.length=4:=by
 obtain ⟨v2,h0,h3⟩:=h;subst h0;rfl
theorem GReader.one {F:Frz}{c:List Value}{x:GReader}(h:em F c x):OneCs c:=by
 obtain ⟨v2,h0,h3⟩:=h;subst h0;haveI:=h3.oneC
 infer_instance
theorem GReader.c0 {F:Frz}{c:List Value}{x:GReader}(h:em F c x):c[0]?=some (.int .i64 x.fault.first):=by
 obtain ⟨v2,h0,h3⟩:=h;subst h0;rfl
theorem GReader.c1 {F:Frz}{c:List Value}{x:GReader}(h:em F c x):c[1]?=some (.bool x.made):=by
 obtain ⟨v2,h0,h3⟩:=h;subst h0;rfl
theorem GReader.c2 {F:Frz}{c:List Value}{x:GReader}(h:em F c x):c[2]?=some (cQ c 2)∧SlC F (cQ c 2) 1 (x.in_.map (eK .u8)):=by
 obtain ⟨v2,h0,h3⟩:=h;subst h0;exact ⟨rfl,h3⟩
theorem GReader.c3 {F:Frz}{c:List Value}{x:GReader}(h:em F c x):c[3]?=some (.int .i64 x.at_):=by
 obtain ⟨v2,h0,h3⟩:=h;subst h0;rfl
theorem GReader.form {F:Frz}{c:List Value}{x:GReader}(h:em F c x):(c.drop 0).take 4=[.int .i64 x.fault.first, .bool x.made,cQ c 2, .int .i64 x.at_]:=by
 obtain ⟨v2,h0,h3⟩:=h;subst h0;rfl
def zaB (x0_:GReader):Bool:=
 x0_.made
theorem zbT (F0:Frz)(w:World)(hF0:F0.At w)(x0_:GReader)(g0_:Nat)(v0_2:Value)(hO:Hp w (dj [.row g0_ 155 [.int .i64 x0_.fault.first, .bool x0_.made,v0_2, .int .i64 x0_.at_], .sl v0_2 5 1 x0_.in_.length (x0_.in_.flatMap (eK .u8))]) [.row g0_ 155 [.int .i64 x0_.fault.first, .bool x0_.made,v0_2, .int .i64 x0_.at_], .sl v0_2 5 1 x0_.in_.length (x0_.in_.flatMap (eK .u8))] w)(hA:∀g,dj [.row g0_ 155 [.int .i64 x0_.fault.first, .bool x0_.made,v0_2, .int .i64 x0_.at_], .sl v0_2 5 1 x0_.in_.length (x0_.in_.flatMap (eK .u8))] g→¬F0.S g):Calls Tryz.prog 98 #[.pointer (some ⟨g0_,0,none⟩)] w fun e w'=>∃(y:Unit),(True)∧e= .returned (.bool (zaB x0_))∧FxM F0 w (dj [.row g0_ 155 [.int .i64 x0_.fault.first, .bool x0_.made,v0_2, .int .i64 x0_.at_], .sl v0_2 5 1 x0_.in_.length (x0_.in_.flatMap (eK .u8))]) F0 [.row g0_ 155 [.int .i64 x0_.fault.first, .bool x0_.made,v0_2, .int .i64 x0_.at_], .sl v0_2 5 1 x0_.in_.length (x0_.in_.flatMap (eK .u8))] w':=by
 obtain ⟨r,hk⟩:∃r,zaB x0_=r:=⟨_,rfl⟩;rw [hk];unfold zaB at hk;haveI:=iJ (hO.own (.sl v0_2 5 1 x0_.in_.length (x0_.in_.flatMap (eK .u8))) a8);have hmx0_2:=i3 (hO.own (.sl v0_2 5 1 x0_.in_.length (x0_.in_.flatMap (eK .u8))) a8);obtain ⟨S0,F1,rfl,hS0,hp0⟩:=ij hF0 hO hA;refine dy (hs:=[.row g0_ 155 [.int .i64 x0_.fault.first, .bool x0_.made,v0_2, .int .i64 x0_.at_], .sl v0_2 5 1 x0_.in_.length (x0_.in_.flatMap (eK .u8)), .fr F1]) Tryz.func98 rfl rfl rfl hp0 ?_;refine eR ?_;refine dk (ι:=Unit) (fun z=>[(2, .bool x0_.made)]) (fun z=>[.row g0_ 155 [.int .i64 x0_.fault.first, .bool x0_.made,v0_2, .int .i64 x0_.at_], .sl v0_2 5 1 x0_.in_.length (x0_.in_.flatMap (eK .u8)), .fr F1]) (fun z=>True) ?_ ?_
 ·refine fk ?_;refine cR (mZ (e:=155) a7 rfl rfl rfl) ?_;refine fF ?_;refine eX ?_;refine q1W ?_;exact q4t
 ·rintro _ _;refine T.ret ?_;subst hk;exact q38
def lS (x0_:GReader):Option (Dy (Int×Int) (Int×Int)):=
 dN (fun (_:Unit)=>
  dU (0≤x0_.at_∧x0_.at_<(x0_.in_.length:Int)) <|
  some (Dy.ok ((cQ x0_.in_ x0_.at_.toNat),(x0_.at_+1))))
 (fun k1=>
  (bif decide ((x0_.in_.length:Int)≤x0_.at_) then
   some (Dy.er (4,x0_.at_))
   else
   k1 ()))
theorem zbU (F0:Frz)(w:World)(hF0:F0.At w)(x0_:GReader)(g0_:Nat)(v0_2:Value)(hO:Hp w (dj [.row g0_ 155 [.int .i64 x0_.fault.first, .bool x0_.made,v0_2, .int .i64 x0_.at_], .sl v0_2 5 1 x0_.in_.length (x0_.in_.flatMap (eK .u8))]) [.row g0_ 155 [.int .i64 x0_.fault.first, .bool x0_.made,v0_2, .int .i64 x0_.at_], .sl v0_2 5 1 x0_.in_.length (x0_.in_.flatMap (eK .u8))] w)(hA:∀g,dj [.row g0_ 155 [.int .i64 x0_.fault.first, .bool x0_.made,v0_2, .int .i64 x0_.at_], .sl v0_2 5 1 x0_.in_.length (x0_.in_.flatMap (eK .u8))] g→¬F0.S g)(r:Dy (Int×Int) (Int×Int))(hr:lS x0_=some r):Calls Tryz.prog 129 #[.pointer (some ⟨g0_,0,none⟩)] w fun e w'=>((im r=true→∃(y:Unit),(True)∧e= .returned (.int .u8 ((et r).1))∧FxM F0 w (dj [.row g0_ 155 [.int .i64 x0_.fault.first, .bool x0_.made,v0_2, .int .i64 x0_.at_], .sl v0_2 5 1 x0_.in_.length (x0_.in_.flatMap (eK .u8))]) F0 [.row g0_ 155 [.int .i64 x0_.fault.first, .bool x0_.made,v0_2, .int .i64 ((et r).2)], .sl v0_2 5 1 x0_.in_.length (x0_.in_.flatMap (eK .u8))] w')∧(im r=false→∃(y:Unit),(True)∧e= .panicked (dyE 36 ((iw r).1))∧FxM F0 w (dj [.row g0_ 155 [.int .i64 x0_.fault.first, .bool x0_.made,v0_2, .int .i64 x0_.at_], .sl v0_2 5 1 x0_.in_.length (x0_.in_.flatMap (eK .u8))]) F0 [.row g0_ 155 [.int .i64 x0_.fault.first, .bool x0_.made,v0_2, .int .i64 ((iw r).2)], .sl v0_2 5 1 x0_.in_.length (x0_.in_.flatMap (eK .u8))] w')):=by
 have hk:=hr;unfold lS at hk;haveI:=iJ (hO.own (.sl v0_2 5 1 x0_.in_.length (x0_.in_.flatMap (eK .u8))) a8);have hmx0_2:=i3 (hO.own (.sl v0_2 5 1 x0_.in_.length (x0_.in_.flatMap (eK .u8))) a8);obtain ⟨S0,F1,rfl,hS0,hp0⟩:=ij hF0 hO hA;refine ze4 (hs:=[.row g0_ 155 [.int .i64 x0_.fault.first, .bool x0_.made,v0_2, .int .i64 x0_.at_], .sl v0_2 5 1 x0_.in_.length (x0_.in_.flatMap (eK .u8)), .fr F1]) Tryz.func129 rfl rfl rfl hp0 ?_;refine gh ?_;refine iZ ?_;refine d8 (sN 0 9 (.still 9 .done)) _ a7 (List.Sublist.refl _) ?_;refine gJ ?_;refine gD ?_;refine gJ ?_;refine gD ?_;refine cZ rfl (jt 1 rfl rfl rfl) ?_;refine kQ ?_;have hq:=eN hk;clear hk;obtain ⟨k1,hk1,hk⟩:=hq; (try dsimp only at hk);refine dk (ι:=Unit) (fun z=>[(0, .pointer (some ⟨g0_,0,none⟩))]) (fun z=>[.row g0_ 155 [.int .i64 x0_.fault.first, .bool x0_.made,v0_2, .int .i64 x0_.at_], .sl v0_2 5 1 x0_.in_.length (x0_.in_.flatMap (eK .u8)), .fr F1]) (fun z=>k1 ()=some r) ?_ ?_
 ·refine T.cond rfl (fun h2=>?_) (fun h2=>?_)
  ·have p2:=of_decide_eq_true h2;replace hk:=dC hk h2;refine q1I ?_;obtain rfl:=Option.some.inj hk;exact q4c
  ·have p2:=of_decide_eq_false h2;replace hk:=dD hk h2;refine T.skip ?_;exact c4 () hk (.c .nil) (List.Sublist.refl _)
 ·rintro _ hk;rw [←hk1] at hk; (try dsimp only at hk);refine T.seq ?_;have hq:(0≤x0_.at_∧x0_.at_<(x0_.in_.length:Int))∧_:=eW hk;clear hk;obtain ⟨g23,hk⟩:=hq; (try dsimp only at hk);refine d8 (sN 0 10 (.still 10 .done)) _ a7 (List.Sublist.refl _) ?_;refine gJ ?_;refine gD ?_;refine gJ ?_;refine gD ?_;refine cZ rfl (m4 1 (i:=x0_.at_.toNat) rfl rfl rfl rfl a5 a5) ?_;refine cZ rfl (Yv.bU 1 rfl rfl rfl a5 (zkE (enc:=(eK .u8)) (i:=x0_.at_.toNat) (j:=0) (fun _=>rfl) a5 a6 rfl)) ?_;refine q0N ?_;refine K.seq (dm ?_);refine ez ?_;refine eX ?_;refine mv ?_;refine dp ?_;refine fy ?_;refine q2C ?_;refine dR ?_;refine jP ?_;obtain rfl:=Option.some.inj hk;refine K.pq ?_;exact q4F
def zar (x0_:GReader)(most:Int):Option (Dy (BitVec 64×Int) (Int×Int)):=
 dU (most≤10) <|
 dN (fun (s3:BitVec 64×Int)=>
  some (Dy.er (6,s3.2)))
 (fun k3=>
  di (fun (i_8:Nat) (next7:(BitVec 64×BitVec 64×Int)→Option (Dy (BitVec 64×Int) (Int×Int))) (s7:BitVec 64×BitVec 64×Int)=>
   (lS (GReader.mk (Gfault.mk x0_.fault.first) x0_.made x0_.in_ s7.2.2)).bind fun r14=>
   (bif im r14 then
    dN (fun (_:Unit)=>
     (bif decide ((et r14).1<128) then
      dN (fun (_:Unit)=>
       some (Dy.ok ((s7.2.1 ||| ((BitVec.ofInt 64 (andK .u8 ((et r14).1) 127)) <<< ((7* (i_8:Int)).toNat))),((et r14).2))))
      (fun k16=>
       (bif ((decide ((et r14).1=0))&&(decide (0<(i_8:Int)))) then
        some (Dy.er (6,((et r14).2)))
        else
        k16 ()))
      else
      next7 (s7.1,(s7.2.1 ||| ((BitVec.ofInt 64 (andK .u8 ((et r14).1) 127)) <<< ((7* (i_8:Int)).toNat))),(et r14).2)))
    (fun k12=>
     (bif ((decide ((i_8:Int)=9))&&(decide (((1#64).toNat:Int)<((BitVec.ofInt 64 (andK .u8 ((et r14).1) 127)).toNat:Int)))) then
      some (Dy.er (6,((et r14).2)))
      else
      k12 ()))
    else
    some (Dy.er ((iw r14).1,((iw r14).2)))))
  (fun (s7:BitVec 64×BitVec 64×Int)=>
   k3 (s7.1,s7.2.2)) (most.toNat - 0) 0 (0#64,0#64,x0_.at_))
theorem zaU (F0:Frz)(w:World)(hF0:F0.At w)(x0_:GReader)(g0_:Nat)(v0_2:Value)(most:Int)(hO:Hp w (dj [.row g0_ 155 [.int .i64 x0_.fault.first, .bool x0_.made,v0_2, .int .i64 x0_.at_], .sl v0_2 5 1 x0_.in_.length (x0_.in_.flatMap (eK .u8))]) [.row g0_ 155 [.int .i64 x0_.fault.first, .bool x0_.made,v0_2, .int .i64 x0_.at_], .sl v0_2 5 1 x0_.in_.length (x0_.in_.flatMap (eK .u8))] w)(hA:∀g,dj [.row g0_ 155 [.int .i64 x0_.fault.first, .bool x0_.made,v0_2, .int .i64 x0_.at_], .sl v0_2 5 1 x0_.in_.length (x0_.in_.flatMap (eK .u8))] g→¬F0.S g)(r:Dy (BitVec 64×Int) (Int×Int))(hr:zar x0_ most=some r):Calls Tryz.prog 97 #[.pointer (some ⟨g0_,0,none⟩), .int .i64 most] w fun e w'=>((im r=true→∃(y:Unit),(True)∧e= .returned (U ((et r).1))∧FxM F0 w (dj [.row g0_ 155 [.int .i64 x0_.fault.first, .bool x0_.made,v0_2, .int .i64 x0_.at_], .sl v0_2 5 1 x0_.in_.length (x0_.in_.flatMap (eK .u8))]) F0 [.row g0_ 155 [.int .i64 x0_.fault.first, .bool x0_.made,v0_2, .int .i64 ((et r).2)], .sl v0_2 5 1 x0_.in_.length (x0_.in_.flatMap (eK .u8))] w')∧(im r=false→∃(y:Unit),(True)∧e= .panicked (dyE 36 ((iw r).1))∧FxM F0 w (dj [.row g0_ 155 [.int .i64 x0_.fault.first, .bool x0_.made,v0_2, .int .i64 x0_.at_], .sl v0_2 5 1 x0_.in_.length (x0_.in_.flatMap (eK .u8))]) F0 [.row g0_ 155 [.int .i64 x0_.fault.first, .bool x0_.made,v0_2, .int .i64 ((iw r).2)], .sl v0_2 5 1 x0_.in_.length (x0_.in_.flatMap (eK .u8))] w')):=by
 have hk:=hr;unfold zar at hk;haveI:=iJ (hO.own (.sl v0_2 5 1 x0_.in_.length (x0_.in_.flatMap (eK .u8))) a8);have hmx0_2:=i3 (hO.own (.sl v0_2 5 1 x0_.in_.length (x0_.in_.flatMap (eK .u8))) a8);obtain ⟨S0,F1,rfl,hS0,hp0⟩:=ij hF0 hO hA;refine ze4 (hs:=[.row g0_ 155 [.int .i64 x0_.fault.first, .bool x0_.made,v0_2, .int .i64 x0_.at_], .sl v0_2 5 1 x0_.in_.length (x0_.in_.flatMap (eK .u8)), .fr F1]) Tryz.func97 rfl rfl rfl hp0 ?_;have hq:(most≤10)∧_:=eW hk;clear hk;obtain ⟨gmost,hk⟩:=hq;refine mM ?_;refine i2 ?_;refine kz ?_;have hq:=eN hk;clear hk;obtain ⟨k3,hk3,hk⟩:=hq; (try dsimp only at hk);refine dk (ι:=BitVec 64×Int) (fun z=>[(4,U z.1)]) (fun z=>[.row g0_ 155 [.int .i64 x0_.fault.first, .bool x0_.made,v0_2, .int .i64 z.2], .sl v0_2 5 1 x0_.in_.length (x0_.in_.flatMap (eK .u8)), .fr F1]) (fun z=>k3 (z.1,z.2)=some r) ?_ ?_
 ·have hq:=fS hk;clear hk;obtain ⟨f7,kk7,hf7,hkk7,hk⟩:=hq;refine fJ ?_;refine T.loop (ι:=Nat×BitVec 64×BitVec 64×Int) (fun z=>[(0, .pointer (some ⟨g0_,0,none⟩)),(4,U z.2.1),(5,U z.2.2.1),(9, .int .i64 most),(10, .int .i64 (z.1:Int))]) (fun z=>[.row g0_ 155 [.int .i64 x0_.fault.first, .bool x0_.made,v0_2, .int .i64 z.2.2.2], .sl v0_2 5 1 x0_.in_.length (x0_.in_.flatMap (eK .u8)), .fr F1]) (fun z=>di f7 kk7 (most.toNat - z.1) z.1 (z.2.1,z.2.2.1,z.2.2.2)=some r) (fun z=>most.toNat - z.1) (0,0#64,0#64,x0_.at_) ?_ ?_ ?_ ?_
  ·exact hk
  ·exact l9
  ·exact fx
  ·rintro ⟨i_8,x_4,n_5,c_6⟩ hk; (try dsimp only at *);refine eR ?_;refine T.cond rfl (fun h9=>?_) (fun h9=>?_)
   ·have p9:=of_decide_eq_true h9;rw [fT a5] at hk;generalize hn7:di f7 kk7 (most.toNat - (i_8+1)) (i_8+1)=next7 at hk;rw [←hf7] at hk; (try dsimp only at hk);refine fH ?_;refine ez ?_;refine gU ?_;have hq:=dV hk;clear hk;obtain ⟨r14,hr14,hk⟩:=hq; (try dsimp only at hk);refine iH (im r14) (fun h10=>?_) (fun h10=>?_)
    ·replace hk:=dC hk h10;refine fk ?_;refine cX (dI [0,1,2] [.row g0_ 155 [.int .i64 x0_.fault.first, .bool x0_.made,v0_2, .int .i64 c_6], .sl v0_2 5 1 x0_.in_.length (x0_.in_.flatMap (eK .u8))] [] rfl rfl rfl rfl a6 (fun w hw hw2 hF=>(zbU _ w hF (GReader.mk (Gfault.mk x0_.fault.first) x0_.made x0_.in_ c_6) g0_ v0_2 hw2.takes.1 hw2.takes.2 r14 hr14).mono (fun e w' hp=>hp.1 h10))) ?_;rintro _ _ ⟨⟨⟩, -,rfl,rfl⟩;refine eS ?_;refine kH ?_;refine cR (Yv.andK (a:=(et r14).1) (b:=127) rfl rfl rfl) ?_;refine cR (Yv.bK (z:=(andK .u8 ((et r14).1) 127)) rfl rfl) ?_;refine dp ?_;refine iZ ?_;refine dk (ι:=Unit) (fun z=>[(0, .pointer (some ⟨g0_,0,none⟩)),(4,U x_4),(5,U n_5),(6, .int .i64 (i_8:Int)),(7, .int .u8 ((et r14).1)),(8,U (BitVec.ofInt 64 (andK .u8 ((et r14).1) 127))),(9, .int .i64 most),(10, .int .i64 (i_8:Int)),(23, .bool ((decide ((i_8:Int)=9))&&(decide (((1#64).toNat:Int)<((BitVec.ofInt 64 (andK .u8 ((et r14).1) 127)).toNat:Int)))))]) (fun z=>[.row g0_ 155 [.int .i64 x0_.fault.first, .bool x0_.made,v0_2, .int .i64 ((et r14).2)], .sl v0_2 5 1 x0_.in_.length (x0_.in_.flatMap (eK .u8)), .fr F1]) (fun z=>True) ?_ ?_
     ·refine lU ?_;refine dO rfl rfl rfl (fun h11=>?_) (fun h11=>?_)
      ·have p11:=of_decide_eq_true h11;refine kd ?_;exact c4 () trivial (.c (.c (.c (.c (.c (.c (.c (.c (.b (mH h11) .nil))))))))) (List.Sublist.refl _)
      ·have p11:=of_decide_eq_false h11;refine kd ?_;exact c4 () trivial (.c (.c (.c (.c (.c (.c (.c (.c (.b (mE h11).symm .nil))))))))) (List.Sublist.refl _)
     ·rintro _ _;have hq:=eN hk;clear hk;obtain ⟨k12,hk12,hk⟩:=hq; (try dsimp only at hk);refine dk (ι:=Unit) (fun z=>[(0, .pointer (some ⟨g0_,0,none⟩)),(4,U x_4),(5,U n_5),(6, .int .i64 (i_8:Int)),(7, .int .u8 ((et r14).1)),(8,U (BitVec.ofInt 64 (andK .u8 ((et r14).1) 127))),(9, .int .i64 most),(10, .int .i64 (i_8:Int))]) (fun z=>[.row g0_ 155 [.int .i64 x0_.fault.first, .bool x0_.made,v0_2, .int .i64 ((et r14).2)], .sl v0_2 5 1 x0_.in_.length (x0_.in_.flatMap (eK .u8)), .fr F1]) (fun z=>k12 ()=some r) ?_ ?_
      ·refine T.cond rfl (fun h13=>?_) (fun h13=>?_)
       ·have p13:=h13; (try simp only [c7] at p13);replace hk:=dC hk h13;refine q1I ?_;refine q3e ?_;obtain rfl:=Option.some.inj hk;exact q4c
       ·replace hk:=dD hk h13;refine T.skip ?_;exact c4 () hk (.c (.c (.c (.c (.c (.c (.c (.c .nil)))))))) (List.Sublist.refl _)
      ·rintro _ hk;rw [←hk12] at hk; (try dsimp only at hk);refine dm ?_;refine fF ?_;refine cR (jX rfl rfl rfl a5) ?_;refine cR (gG (a:=(BitVec.ofInt 64 (andK .u8 ((et r14).1) 127))) ((7* (i_8:Int)).toNat) rfl rfl rfl a5 a5) ?_;refine cR (gg) ?_;refine gz ?_;refine kz ?_;refine T.cond rfl (fun h14=>?_) (fun h14=>?_)
       ·have p14:=of_decide_eq_true h14;replace hk:=dC hk h14;refine T.seq (T.seq ?_);refine dk (ι:=Unit) (fun z=>[(5,U (n_5 ||| ((BitVec.ofInt 64 (andK .u8 ((et r14).1) 127)) <<< ((7* (i_8:Int)).toNat)))),(38, .bool ((decide ((et r14).1=0))&&(decide (0<(i_8:Int)))))]) (fun z=>[.row g0_ 155 [.int .i64 x0_.fault.first, .bool x0_.made,v0_2, .int .i64 ((et r14).2)], .sl v0_2 5 1 x0_.in_.length (x0_.in_.flatMap (eK .u8)), .fr F1]) (fun z=>True) ?_ ?_
        ·refine lU ?_;refine dO rfl rfl rfl (fun h15=>?_) (fun h15=>?_)
         ·have p15:=of_decide_eq_true h15;refine kd ?_;exact c4 () trivial (.c (.b (mH h15) .nil)) (List.Sublist.refl _)
         ·have p15:=of_decide_eq_false h15;refine kd ?_;exact c4 () trivial (.c (.b (mE h15).symm .nil)) (List.Sublist.refl _)
        ·rintro _ _;have hq:=eN hk;clear hk;obtain ⟨k16,hk16,hk⟩:=hq; (try dsimp only at hk);refine dk (ι:=Unit) (fun z=>[(5,U (n_5 ||| ((BitVec.ofInt 64 (andK .u8 ((et r14).1) 127)) <<< ((7* (i_8:Int)).toNat))))]) (fun z=>[.row g0_ 155 [.int .i64 x0_.fault.first, .bool x0_.made,v0_2, .int .i64 ((et r14).2)], .sl v0_2 5 1 x0_.in_.length (x0_.in_.flatMap (eK .u8)), .fr F1]) (fun z=>k16 ()=some r) ?_ ?_
         ·refine T.cond rfl (fun h17=>?_) (fun h17=>?_)
          ·have p17:=h17; (try simp only [c7] at p17);replace hk:=dC hk h17;refine q1I ?_;refine q3e ?_;obtain rfl:=Option.some.inj hk;exact q4c
          ·replace hk:=dD hk h17;refine T.skip ?_;exact c4 () hk (.c .nil) (List.Sublist.refl _)
         ·rintro _ hk;rw [←hk16] at hk; (try dsimp only at hk);refine iD ?_;refine q2X ?_;obtain rfl:=Option.some.inj hk;refine K.pq ?_;exact q4F
       ·have p14:=of_decide_eq_false h14;replace hk:=dD hk h14;refine gZ ?_;rw [←hn7] at hk;exact K.next ((i_8+1),x_4,(n_5 ||| ((BitVec.ofInt 64 (andK .u8 ((et r14).1) 127)) <<< ((7* (i_8:Int)).toNat))),(et r14).2) hk a9 (.c (.c (.c (.c (.c .nil))))) (List.Sublist.refl _)
    ·replace hk:=dD hk h10;refine fk ?_;refine lB [0,1,2] [.row g0_ 155 [.int .i64 x0_.fault.first, .bool x0_.made,v0_2, .int .i64 c_6], .sl v0_2 5 1 x0_.in_.length (x0_.in_.flatMap (eK .u8))] [] rfl rfl rfl rfl rfl a6 (fun w hw hw2 hF=>(zbU _ w hF (GReader.mk (Gfault.mk x0_.fault.first) x0_.made x0_.in_ c_6) g0_ v0_2 hw2.takes.1 hw2.takes.2 r14 hr14).mono (fun e w' hp=>hp.2 h10)) ?_;rintro ⟨⟩ -;refine eS ?_;refine eM ?_;refine q3e ?_;obtain rfl:=Option.some.inj hk;exact q4c
   ·have p9:=of_decide_eq_false h9;rw [fR a5,←hkk7] at hk; (try dsimp only at hk);refine fi ?_;exact c4 (x_4,c_6) hk (.c .nil) (List.Sublist.refl _)
 ·rintro ⟨x_1,c_2⟩ hk; (try dsimp only at *);rw [←hk3] at hk; (try dsimp only at hk);refine fg ?_;refine cR (Yv.bX rfl rfl a7) ?_;refine TL.bY rfl rfl rfl ?_;obtain rfl:=Option.some.inj hk;exact q4c
def zau (x0_:GReader)(limit:Int):Option (Dy (Int×Int) (Int×Int)):=
 (zar x0_ 9).bind fun r7=>
 (bif im r7 then
  dN (fun (_:Unit)=>
   dN (fun (_:Unit)=>
    some (Dy.ok ((wI (((et r7).1).toNat:Int)),((et r7).2))))
   (fun k4=>
    (bif decide (limit<(wI (((et r7).1).toNat:Int))) then
     some (Dy.er (7,((et r7).2)))
     else
     k4 ())))
  (fun k2=>
   (bif decide (limit<0) then
    some (Dy.er (2,((et r7).2)))
    else
    k2 ()))
  else
  some (Dy.er ((iw r7).1,((iw r7).2))))
theorem zbR (F0:Frz)(w:World)(hF0:F0.At w)(x0_:GReader)(g0_:Nat)(v0_2:Value)(limit:Int)(hO:Hp w (dj [.row g0_ 155 [.int .i64 x0_.fault.first, .bool x0_.made,v0_2, .int .i64 x0_.at_], .sl v0_2 5 1 x0_.in_.length (x0_.in_.flatMap (eK .u8))]) [.row g0_ 155 [.int .i64 x0_.fault.first, .bool x0_.made,v0_2, .int .i64 x0_.at_], .sl v0_2 5 1 x0_.in_.length (x0_.in_.flatMap (eK .u8))] w)(hA:∀g,dj [.row g0_ 155 [.int .i64 x0_.fault.first, .bool x0_.made,v0_2, .int .i64 x0_.at_], .sl v0_2 5 1 x0_.in_.length (x0_.in_.flatMap (eK .u8))] g→¬F0.S g)(r:Dy (Int×Int) (Int×Int))(hr:zau x0_ limit=some r):Calls Tryz.prog 127 #[.pointer (some ⟨g0_,0,none⟩), .int .i64 limit] w fun e w'=>((im r=true→∃(y:Unit),(True)∧e= .returned (.int .i64 ((et r).1))∧FxM F0 w (dj [.row g0_ 155 [.int .i64 x0_.fault.first, .bool x0_.made,v0_2, .int .i64 x0_.at_], .sl v0_2 5 1 x0_.in_.length (x0_.in_.flatMap (eK .u8))]) F0 [.row g0_ 155 [.int .i64 x0_.fault.first, .bool x0_.made,v0_2, .int .i64 ((et r).2)], .sl v0_2 5 1 x0_.in_.length (x0_.in_.flatMap (eK .u8))] w')∧(im r=false→∃(y:Unit),(True)∧e= .panicked (dyE 36 ((iw r).1))∧FxM F0 w (dj [.row g0_ 155 [.int .i64 x0_.fault.first, .bool x0_.made,v0_2, .int .i64 x0_.at_], .sl v0_2 5 1 x0_.in_.length (x0_.in_.flatMap (eK .u8))]) F0 [.row g0_ 155 [.int .i64 x0_.fault.first, .bool x0_.made,v0_2, .int .i64 ((iw r).2)], .sl v0_2 5 1 x0_.in_.length (x0_.in_.flatMap (eK .u8))] w')):=by
 have hk:=hr;unfold zau at hk;haveI:=iJ (hO.own (.sl v0_2 5 1 x0_.in_.length (x0_.in_.flatMap (eK .u8))) a8);have hmx0_2:=i3 (hO.own (.sl v0_2 5 1 x0_.in_.length (x0_.in_.flatMap (eK .u8))) a8);obtain ⟨S0,F1,rfl,hS0,hp0⟩:=ij hF0 hO hA;refine ze4 (hs:=[.row g0_ 155 [.int .i64 x0_.fault.first, .bool x0_.made,v0_2, .int .i64 x0_.at_], .sl v0_2 5 1 x0_.in_.length (x0_.in_.flatMap (eK .u8)), .fr F1]) Tryz.func127 rfl rfl rfl hp0 ?_;refine eR ?_;have hq:=dV hk;clear hk;obtain ⟨r7,hr7,hk⟩:=hq; (try dsimp only at hk);refine iH (im r7) (fun h1=>?_) (fun h1=>?_)
 ·replace hk:=dC hk h1;refine fk ?_;refine cX (dI [0,1,2] [.row g0_ 155 [.int .i64 x0_.fault.first, .bool x0_.made,v0_2, .int .i64 x0_.at_], .sl v0_2 5 1 x0_.in_.length (x0_.in_.flatMap (eK .u8))] [] rfl rfl rfl rfl a6 (fun w hw hw2 hF=>(zaU _ w hF x0_ g0_ v0_2 9 hw2.takes.1 hw2.takes.2 r7 hr7).mono (fun e w' hp=>hp.1 h1))) ?_;rintro _ _ ⟨⟨⟩, -,rfl,rfl⟩;refine eS ?_;refine cR (iY (z:=(((et r7).1).toNat:Int))) ?_;refine i2 ?_;refine kz ?_;have hq:=eN hk;clear hk;obtain ⟨k2,hk2,hk⟩:=hq; (try dsimp only at hk);refine dk (ι:=Unit) (fun z=>[(1, .int .i64 limit),(5, .int .i64 (wI (((et r7).1).toNat:Int)))]) (fun z=>[.row g0_ 155 [.int .i64 x0_.fault.first, .bool x0_.made,v0_2, .int .i64 ((et r7).2)], .sl v0_2 5 1 x0_.in_.length (x0_.in_.flatMap (eK .u8)), .fr F1]) (fun z=>k2 ()=some r) ?_ ?_
  ·refine T.cond rfl (fun h3=>?_) (fun h3=>?_)
   ·have p3:=of_decide_eq_true h3;replace hk:=dC hk h3;refine q1I ?_;obtain rfl:=Option.some.inj hk;exact q4c
   ·have p3:=of_decide_eq_false h3;replace hk:=dD hk h3;refine T.skip ?_;exact c4 () hk (.c (.c .nil)) (List.Sublist.refl _)
  ·rintro _ hk;rw [←hk2] at hk; (try dsimp only at hk);refine q3q ?_;have hq:=eN hk;clear hk;obtain ⟨k4,hk4,hk⟩:=hq; (try dsimp only at hk);refine dk (ι:=Unit) (fun z=>[(5, .int .i64 (wI (((et r7).1).toNat:Int)))]) (fun z=>[.row g0_ 155 [.int .i64 x0_.fault.first, .bool x0_.made,v0_2, .int .i64 ((et r7).2)], .sl v0_2 5 1 x0_.in_.length (x0_.in_.flatMap (eK .u8)), .fr F1]) (fun z=>k4 ()=some r) ?_ ?_
   ·refine T.cond rfl (fun h5=>?_) (fun h5=>?_)
    ·have p5:=of_decide_eq_true h5;replace hk:=dC hk h5;refine q1I ?_;obtain rfl:=Option.some.inj hk;exact q4c
    ·have p5:=of_decide_eq_false h5;replace hk:=dD hk h5;refine T.skip ?_;exact c4 () hk (.c .nil) (List.Sublist.refl _)
   ·rintro _ hk;rw [←hk4] at hk; (try dsimp only at hk);refine iD ?_;refine fN ?_;obtain rfl:=Option.some.inj hk;refine K.pq ?_;exact q4F
 ·replace hk:=dD hk h1;refine fk ?_;refine lB [0,1,2] [.row g0_ 155 [.int .i64 x0_.fault.first, .bool x0_.made,v0_2, .int .i64 x0_.at_], .sl v0_2 5 1 x0_.in_.length (x0_.in_.flatMap (eK .u8))] [] rfl rfl rfl rfl rfl a6 (fun w hw hw2 hF=>(zaU _ w hF x0_ g0_ v0_2 9 hw2.takes.1 hw2.takes.2 r7 hr7).mono (fun e w' hp=>hp.2 h1)) ?_;rintro ⟨⟩ -;refine eS ?_;refine eM ?_;obtain rfl:=Option.some.inj hk;exact q4c
section
variable (P:Program)(n:Nat)(B:World)(M:Nat→Prop)(ds:List Deferred)
structure DK (Q:Exit→Act→World→Prop) (e:Exit) (fs:dW) (hs:HS):Prop where
 out:∀a w,Fr n fs a→Hp B M hs w→a.defers=ds→Q e a w
structure DT (c:Code) (Q:Exit→Act→World→Prop) (fs:dW) (hs:HS):Prop where
 out:∀a w,Fr n fs a→Hp B M hs w→a.defers=ds→c.wpIn Fence.wide 0 P Q a w
structure DL (ops:Array Oper) (Q:Exit→Act→World→Prop) (l:List Oper) (fs:dW) (hs:HS):Prop where
 out:∀a w,Fr n fs a→Hp B M hs w→a.defers=ds→wpListIn Fence.wide 0 P ops Q l a w
end
theorem put_defers (a:Act)(d:Option Nat)(v:Value):(a.put d v).defers=a.defers:=by cases d <;> rfl
section
variable {P:Program}{n:Nat}{B:World}{M:Nat→Prop}{ds:List Deferred}{Q:Exit→Act→World→Prop}{fs fs':dW}{hs hs':HS}{ops:Array Oper}{l l' rest:List Oper}{c c1 c2:Code}{id:Nat}{o:Oper}{v:Value}
theorem DT.seq (h:DT P n B M ds c1 (Exit.then (c2.wpIn Fence.wide 0 P Q) Q) fs hs):DT P n B M ds (.seq c1 c2) Q fs hs:=⟨fun a w ha hw hm=>wpIn_seq (h.out a w ha hw hm)⟩
theorem DT.skip (h:DK n B M ds Q .normal fs hs):DT P n B M ds .skip Q fs hs:=⟨fun a w ha hw hm=>wpIn_skip (h.out a w ha hw hm)⟩
theorem DT.ret (h:DK n B M ds Q .ret fs hs):DT P n B M ds .ret Q fs hs:=⟨fun a w ha hw hm=>wpIn_ret (h.out a w ha hw hm)⟩
theorem DT.cond {o:Operand}{b:Bool}(hb:ev fs o=some (.bool b))(h1:b=true→DT P n B M ds c1 Q fs hs)(h2:b=false→DT P n B M ds c2 Q fs hs):DT P n B M ds (.cond o c1 c2) Q fs hs:=
 ⟨fun a w ha hw hm=>wpIn_cond_split (ha.ev hb) (fun h=>(h1 h).out a w ha hw hm) (fun h=>(h2 h).out a w ha hw hm)⟩
theorem DT.region {l:List Oper}(h:DL P n B M ds l.toArray Q l fs hs):DT P n B M ds (.region id l.toArray false) Q fs hs:=⟨fun a w ha hw hm=>wpIn_region_lit (h.out a w ha hw hm)⟩
theorem DL.nil (h:DK n B M ds Q .normal fs hs):DL P n B M ds ops Q [] fs hs:=⟨fun a w ha hw hm=>wpListIn_nil (h.out a w ha hw hm)⟩
theorem DK.seq (h:DT P n B M ds c Q fs hs):DK n B M ds (Exit.then (c.wpIn Fence.wide 0 P Q) Q) .normal fs hs:=⟨fun a w ha hw hm=>h.out a w ha hw hm⟩
theorem fD {N:Act→World→Prop}(h:DK n B M ds Q .ret fs hs):DK n B M ds (Exit.then N Q) .ret fs hs:=⟨fun a w ha hw hm=>h.out a w ha hw hm⟩
theorem DK.then_panic {N:Act→World→Prop}{ch:List PanicEntry}(h:DK n B M ds Q (.panic ch) fs hs):DK n B M ds (Exit.then N Q) (.panic ch) fs hs:=⟨fun a w ha hw hm=>h.out a w ha hw hm⟩
theorem jR {gs:dW}(h1:Sub fs gs)(h:DL P n B M ds ops Q l gs hs):DL P n B M ds ops Q l fs hs:=⟨fun a w ha hw hm=>h.out a w (ha.sub h1) hw hm⟩
theorem DL.yv {d:Nat}(hw:Wt n ops fs o true)(hd:o.dst=some d)(hb:Nat.blt d n=true)(h:Yv P n B M fs hs o v)(k:DL P n B M ds ops Q rest ((d,v) :: fs) hs):DL P n B M ds ops Q (o :: rest) fs hs:=
 ⟨fun a w ha hp hm=>wpListIn_step fun K hK=>by
  rw [if_pos (hw a ha)];refine zgT (zhz (h a w ha hp)) ?_;rw [h a w ha hp,Oper.uponIn_value,hd]
  exact hK _ _ (k.out _ w (ha.put hb v) hp (by rw [put_defers];exact hm))⟩
theorem DL.off {d:Nat}(hw:Wt n ops fs o false)(hd:o.dst=some d)(hb:Nat.blt d n=true)(k:DL P n B M ds ops Q rest ((d,undef) :: fs) hs):DL P n B M ds ops Q (o :: rest) fs hs:=
 ⟨fun a w ha hp hm=>wpListIn_step fun K hK=>by
  rw [if_neg (by rw [hw a ha];simp),hd]
  exact ⟨fun f _=>trivial,hK _ _ (k.out _ w (ha.put hb undef) hp (by rw [put_defers];exact hm))⟩⟩
theorem DL.run:∀(k:Nat) {fs fs':dW} {l l':List Oper},j9 n ops k fs l=some (fs',l')→DL P n B M ds ops Q l' fs' hs→DL P n B M ds ops Q l fs hs
 |0,fs,fs',l,l',h,t=>by simp only [j9,Option.some.injEq,Prod.mk.injEq] at h;rw [h.1,h.2];exact t
 |k+1,fs,fs',[],l',h,t=>by simp [j9] at h
 |k+1,fs,fs',o :: r,l',h,t=>by
  simp only [j9] at h
  split at h
  ·rename_i f1 h1;obtain ⟨d,v,hd,hb,rfl,h2⟩:=zgI h1;have ih:=DL.run k h t;rcases h2 with ⟨hg,hv⟩|⟨hg,rfl⟩
   ·exact DL.yv (lj hg) hd hb (mB hv) ih
   ·exact DL.off (lj hg) hd hb ih
  ·cases h
theorem DL.gs {d j:Nat}{want b:Bool}(hg:o.guard=some (j,want))(hd:(ops[j]?).bind (·.dst)=some d)(hl:eu fs d=some (.bool b))(h1:b=true→DL P n B M ds ops Q (o :: rest) ((d, .bool true) :: fs) hs)(h2:b=false→DL P n B M ds ops Q (o :: rest) ((d, .bool false) :: fs) hs):DL P n B M ds ops Q (o :: rest) fs hs:=by
 cases b with
 |true=>exact jR (Sub.cons hl Sub.refl) (h1 rfl)
 |false=>exact jR (Sub.cons hl Sub.refl) (h2 rfl)
theorem iB {d:Nat}(h:Yv P n B M fs hs o v)(k:DL P n B M ds ops Q rest ((d,v) :: fs) hs)(hw:lF ops fs o=some true:=by rfl)(hd:o.dst=some d:=by rfl)(hb:Nat.blt d n=true:=by rfl):DL P n B M ds ops Q (o :: rest) fs hs:=DL.yv (lj hw) hd hb h k
theorem DL.e {d:Nat}{Φ:Value→HS→Prop}(h:Ew P n B M fs hs o Φ)(k:∀v hs',Φ v hs'→DL P n B M ds ops Q rest ((d,v) :: fs) hs')(hw:lF ops fs o=some true:=by rfl)(hd:o.dst=some d:=by rfl)(hb:Nat.blt d n=true:=by rfl):DL P n B M ds ops Q (o :: rest) fs hs:=
 ⟨fun a w ha hp hm=>wpListIn_step fun K hK=>by
  rw [if_pos (lj hw a ha)]
  exact h Fence.wide inferInstance Q K a w ha hp fun v w' hs' hk hp' hΦ=>hK _ _ (by rw [hd];exact (k v hs' hΦ).out _ w' (ha.put hb v) hp' (by rw [put_defers];exact hm))⟩
theorem DL.e0 {Φ:Value→HS→Prop}(h:Ew P n B M fs hs o Φ)(k:∀v hs',Φ v hs'→DL P n B M ds ops Q rest fs hs')(hw:lF ops fs o=some true:=by rfl)(hd:o.dst=none:=by rfl):DL P n B M ds ops Q (o :: rest) fs hs:=
 ⟨fun a w ha hp hm=>wpListIn_step fun K hK=>by
  rw [if_pos (lj hw a ha)]
  exact h Fence.wide inferInstance Q K a w ha hp fun v w' hs' hk hp' hΦ=>hK _ _ (by rw [hd];exact (k v hs' hΦ).out _ w' (ha.put_none v) hp' (by rw [put_defers];exact hm))⟩
theorem mO {d : Nat} {c : Operand} {xs : Array Operand} {ts : Array TypeId} {f : FuncId} {fst caps : Array Value} {vs : List Value} {φ1 : Value → HS → Prop} {φ2 : List PanicEntry → HS → Prop} [hE : Enters P f] (ho : o.op = .call { callee := .value c, args := xs, argTypes := ts }) (hc : ev fs c = some (.func (.func f) fst caps)) (hv : evs fs xs.toList = some vs)
    (C : ∀ w, Hp B M hs w → Calls P f (fst.toList ++ vs ++ caps.toList).toArray w (fun e w' => (∃ v hs', e = .returned v ∧ Hp B M hs' w' ∧ φ1 v hs') ∨ ∃ ch hs', e = .panicked ch ∧ Hp B M hs' w' ∧ φ2 ch hs'))
    (k1 : ∀ v hs', φ1 v hs' → DL P n B M ds ops Q rest ((d, v) :: fs) hs') (k2 : ∀ ch hs', φ2 ch hs' → DK n B M ds Q (.panic ch) fs hs') (hw : lF ops fs o = some true := by rfl) (hd : o.dst = some d := by rfl) (hb : Nat.blt d n = true := by rfl) : DL P n B M ds ops Q (o :: rest) fs hs :=
  ⟨fun a w ha hp hm => wpListIn_step fun K hK => by
    rw [if_pos (lj hw a ha)]; refine zjk ho hc hv ha (C w hp) (fun v w' h => ?_) (fun ch w' h => ?_) (fun w' h => ?_)
    · rcases h with ⟨v', hs', e, h1, h2⟩ | ⟨ch, hs', e, h1, h2⟩
      · cases e
        exact hK _ _ (by rw [hd]; exact (k1 v hs' h2).out _ w' (ha.put hb v) h1 (by rw [put_defers]; exact hm))
      · cases e
    · rcases h with ⟨v', hs', e, h1, h2⟩ | ⟨ch, hs', e, h1, h2⟩
      · cases e
      · cases e
        exact (k2 _ hs' h2).out a w' ha h1 hm
    · rcases h with ⟨v', hs', e, h1, h2⟩ | ⟨ch, hs', e, h1, h2⟩ <;> cases e⟩
theorem DL.defer {c:Operand}{fn:Fn}{cap:Array Value}{ts:Array TypeId}(ho:o.op= .defer { callee:= .value c,args:= #[],argTypes:=ts })(hc:ev fs c=some (.func fn #[] cap))(k:DL P n B M ({ target:= .fn fn cap,args:= #[] } :: ds) ops Q rest fs hs)(hw:lF ops fs o=some true:=by rfl)(hd:o.dst=none:=by rfl):DL P n B M ds ops Q (o :: rest) fs hs:=
 ⟨fun a w ha hp hm=>wpListIn_step fun K hK=>by
  rw [if_pos (lj hw a ha)];refine ⟨fun f _=>trivial,?_⟩
  have hr:(execOp a.eval o).run P w= .ok (.defer { target:= .fn fn cap,args:= #[] }) w:=by
   unfold execOp;simp [ho,resolve,ha.ev hc,Deferred.ofValue]
  rw [show Fence.wide.round=none from rfl,Oper.semAt_none,hr,Oper.uponIn_defer];refine hK _ _ (k.out _ w ?_ hp ?_)
  ·rw [hd];exact ⟨ha.size,ha.get⟩
  ·rw [put_defers];show _ :: a.defers=_;rw [hm]⟩
theorem zjn {f : FuncId} {fn : Func} {c : Code} {args : List Value} {w : World} {R : Ending → World → Prop} (hf : P.funcs[f]? = some fn) (hb : fn.body = some c) (hn : fn.ntmps = n) (hlen : Nat.ble args.length n = true)
    (hh : Hp w M hs w) (h : DT P n w M [] c (bodyPostM Fence.wide 0 P fn R) (jC 0 args) hs) : Calls P f args.toArray w R := by
  (have hle : args.length ≤ n := by simpa using hlen); refine callsIn_wide.1 (callsIn_of_wp_marks (F := Fence.wide) (n := 0) hf hb trivial (h.out { tmps := args.toArray ++ Array.replicate (fn.ntmps - args.toArray.size) undef, defers := [] } w ⟨?_, ?_⟩ hh rfl))
  · simp [hn]; omega
  · intro t v e; obtain ⟨_, h2⟩ := zee _ _ _ _ e; rw [Nat.sub_zero] at h2; have ht : t < args.length := (List.getElem?_eq_some_iff.1 h2).1; rw [Array.getElem?_append_left (by simpa using ht)]; simpa using h2
theorem DK.end0 {fn:Func}{R:Ending→World→Prop}(hr:fn.results= #[])(h:∀w,Hp B M hs w→R (.returned (.tuple #[])) w):DK n B M [] (bodyPostM Fence.wide 0 P fn R) .normal fs hs:=
 ⟨fun a w ha hw hm=>by
  show LeavesInM Fence.wide 0 P fn a.tmps R a.defers .returning w
  rw [hm];exact ⟨_,results_none hr _ _ _,h w hw⟩⟩
theorem jd {fn:Func}{R:Ending→World→Prop}(hr:fn.results= #[])(h:∀w,Hp B M hs w→R (.returned (.tuple #[])) w):DK n B M [] (bodyPostM Fence.wide 0 P fn R) .ret fs hs:=
 ⟨fun a w ha hw hm=>(DK.end0 (n:=n) (fs:=fs) hr h).out a w ha hw hm⟩
theorem zmn {f : FuncId} {cap : Array Value} {fn : Func} {R : Ending → World → Prop} {u : FrameMode} {tmps : Array Value} {w : World} [hE : Enters P f] (hu : u ≠ .run) (hr : fn.results = #[])
    (C : CallsDIn Fence.wide 0 P f cap u w (fun e u' w' => e = .returned (.tuple #[]) ∧ settle u' = .returning ∧ R (.returned (.tuple #[])) w')) : LeavesInM Fence.wide 0 P fn tmps R [{ target := .fn (.func f) cap, args := #[] }] u w := by
  refine ⟨hu, .inr ⟨(fun h => by cases h), .func f, cap, f, cap, rfl, ?_, fun _ _ => trivial, ?_⟩⟩
  · have := hE.run cap w;simp only [invoke]; rw [show (#[] ++ cap : Array Value) = cap from by simp]; exact this
  · refine C.mono ?_; rintro e u' w' ⟨rfl, hs, hR⟩
    show LeavesIn Fence.wide 0 P fn tmps R [] (settle u') w'
    rw [hs]; exact ⟨_, results_none hr _ _ _, hR⟩
theorem DK.end1 {f : FuncId} {cap : Array Value} {fn : Func} {R : Ending → World → Prop} [hE : Enters P f] (hr : fn.results = #[])
    (C : ∀ w, Hp B M hs w → CallsDIn Fence.wide 0 P f cap .returning w (fun e u' w' => e = .returned (.tuple #[]) ∧ settle u' = .returning ∧ R (.returned (.tuple #[])) w')) : DK n B M [{ target := .fn (.func f) cap, args := #[] }] (bodyPostM Fence.wide 0 P fn R) .normal fs hs :=
  ⟨fun a w ha hw hm => by
    show LeavesInM Fence.wide 0 P fn a.tmps R a.defers .returning w
    rw [hm]; exact zmn a8 hr (C w hw)⟩
theorem DK.die1 {f : FuncId} {cap : Array Value} {fn : Func} {R : Ending → World → Prop} {ch : List PanicEntry} [hE : Enters P f] (hr : fn.results = #[])
    (C : ∀ w, Hp B M hs w → CallsDIn Fence.wide 0 P f cap (.panicking ch) w (fun e u' w' => e = .returned (.tuple #[]) ∧ settle u' = .returning ∧ R (.returned (.tuple #[])) w')) : DK n B M [{ target := .fn (.func f) cap, args := #[] }] (bodyPostM Fence.wide 0 P fn R) (.panic ch) fs hs :=
  ⟨fun a w ha hw hm => by
    show LeavesInM Fence.wide 0 P fn a.tmps R a.defers (.panicking ch) w
    rw [hm]; exact zmn a8 hr (C w hw)⟩
theorem zhh {f : FuncId} {fn : Func} {rest : Code} {args : List Value} {u u' : FrameMode} {w : World} {R : Ending → FrameMode → World → Prop} {id d1 d2 : Nat} {o1 o2 : Oper} {v : Value}
    (hf : P.funcs[f]? = some fn) (hb : fn.body = some (.seq (.region id #[o1, o2] false) rest)) (hn : fn.ntmps = n) (hlen : Nat.ble args.length n = true) (hres : fn.results = #[])
    (h1 : ∃ ts, o1.op = .call { callee := .builtin .recover, args := #[], argTypes := ts }) (g1 : o1.guard = none) (e1 : o1.dst = some d1) (h2 : o2.op = .assign (.tmp d1)) (g2 : o2.guard = none) (e2 : o2.dst = some d2) (l1 : Nat.blt d1 n = true) (l2 : Nat.blt d2 n = true)
    (hu : (u = .returning ∧ u' = .returning ∧ v = .nilIface) ∨ (u = .panicking [{ v := v, recovered := false }] ∧ u' = .panicking [{ v := v, recovered := true }]))
    (hh : Hp B M hs w) (h : DT P n B M [] rest (fun e a w' => (e = .normal ∨ e = .ret) ∧ a.defers = [] ∧ R (.returned (.tuple #[])) u' w') ((d2, v) :: (d1, v) :: jC 0 args) hs) : CallsDIn Fence.wide 0 P f args.toArray u w R := by
  (have hle : args.length ≤ n := by simpa using hlen); refine callsDIn_of_wpSIn hf hb trivial fun c₀ cs hc => ?_;refine wpSIn_seq (wpSIn_region ?_); obtain ⟨ts, h1⟩ := h1
  have ha : Fr n (jC 0 args) { tmps := args.toArray ++ Array.replicate (fn.ntmps - args.toArray.size) undef, defers := [] } := by
    refine ⟨?_, ?_⟩
    · simp [hn]; omega
    · intro t v e; obtain ⟨_, h2⟩ := zee _ _ _ _ e; rw [Nat.sub_zero] at h2; have ht : t < args.length := (List.getElem?_eq_some_iff.1 h2).1; rw [Array.getElem?_append_left (by simpa using ht)]; simpa using h2
  generalize hA : ({ tmps := args.toArray ++ Array.replicate (fn.ntmps - args.toArray.size) undef, defers := [] } : Act) = a at ha; (have had : a.defers = [] := by rw [← hA]); (have w1 : ∀ a : Act, Region.wanted o1 (yielded #[o1, o2] a.tmps) = true := fun a => by simp [Region.wanted, g1]); (have w2 : ∀ a : Act, Region.wanted o2 (yielded #[o1, o2] a.tmps) = true := fun a => by simp [Region.wanted, g2])
  have r1 : ∀ (ρ : Operand → Value) (w : World), (execOp ρ o1).run P w = .ok .recover w := fun ρ w => by
    unfold execOp; simp [h1, resolve, invoke, builtin]
  have r2 : ∀ (ρ : Operand → Value) (w : World), (execOp ρ o2).run P w = .ok (.value (ρ (.tmp d1))) w := fun ρ w => by
    unfold execOp; simp [h2]
  have fin : ∀ (c1 : Frame), c1 = { c₀ with mode := u' } → wpOpsSIn Fence.wide 0 P #[o1, o2] (Exit.thenS (rest.wpSIn Fence.wide 0 P (bodyPostS P fn c₀ cs R)) (bodyPostS P fn c₀ cs R)) [1] (a.put o1.dst v) (c1 :: cs) w := fun c1 hc1 => by
    subst hc1; have ha1 : Fr n ((d1, v) :: jC 0 args) (a.put (some d1) v) := ha.put l1 v;simp only [wpOpsSIn]; simp only [show (#[o1, o2] : Array Oper)[1]? = some o2 from rfl]; refine ⟨fun _ _ => trivial, ?_⟩; rw [if_pos (w2 _), r2];simp only []
    show rest.wpSIn Fence.wide 0 P _ _ _ _
    refine wpSIn_of_wpIn rfl ?_; rw [e1, e2]; have hv : (a.put (some d1) v).eval (.tmp d1) = v := ha1.ev (x := .tmp d1) (by show eu _ _ = _; simp [eu]); rw [hv];refine wpIn_mono (h.out _ w (ha1.put l2 v) hh (by rw [put_defers, put_defers]; exact had)) ?_; rintro e a' w' ⟨he, hd, hR⟩; rcases he with rfl | rfl
    · exact ⟨hd, u', rfl, _, results_none hres _ _ _, hR⟩
    · exact ⟨hd, u', rfl, _, results_none hres _ _ _, hR⟩
  show wpOpsSIn Fence.wide 0 P #[o1, o2] _ [0, 1] a (c₀ :: cs) w
  unfold wpOpsSIn; simp only [show (#[o1, o2] : Array Oper)[0]? = some o1 from rfl]; refine ⟨fun _ _ => trivial, ?_⟩; rw [if_pos (w1 _), r1];simp only []; rcases hu with ⟨rfl, rfl, rfl⟩ | ⟨rfl, rfl⟩
  · (have : recoverD (c₀ :: cs) = none := by simp [recoverD, hc]); rw [this]; exact fin c₀ (by rw [← hc])
  · (have : recoverD (c₀ :: cs) = some (v, { c₀ with mode := .panicking [{ v := v, recovered := true }] } :: cs) := by simp [recoverD, hc]); rw [this]; exact fin _ rfl
end
end Go.Proofs.YtogbggmckmnlfaaGreatDoor
