/- V3 V4 Y3 V5 Y2 J6 V6 Of Gp: shortened and put together by squeeze.py. -/
import Derived.Test.YtmnjbhkcfghebaaGreatDoorQ15
import Derived.Deep.Slices
import Derived.ChangeArms
import Derived.Test.YtmnjbhkcfghebaaGreatDoorRows
import Derived.LaidMore
import Derived.OpenShut
import Derived.Stop.Joined
import Derived.Lib.SmallJoins
set_option maxRecDepth 100000
set_option maxHeartbeats 4000000
set_option linter.unusedVariables false
set_option linter.unusedSectionVars false
set_option linter.unusedSimpArgs false
namespace Go.Proofs.YtmnjbhkcfghebaaGreatDoor
open Go.RowKit
theorem ziT {fuel:Nat}{a b:GInt}(hf:2000≤fuel)(ha:VI a)(hb:VI b)(da:Dig 256 a.Digits)(db:Dig 256 b.Digits)(na:a.Neg=false)(nb:b.Neg=false)(hB:0<dI b):∃Q R,zb9 fuel a b=some (⟨false,Q⟩,⟨false,R⟩,0)∧BigIs Q (dI a / dI b)∧BigIs R (dI a % dI b):=by
 have la:=ha.len;have lb:=hb.len;have va:=ha.lt da;have vb:=hb.lt db;have pb:=(hb.big db).pos.2 hB;obtain ⟨x,x1,x2⟩:=zgi (fuel:=fuel) a6 a6 da;obtain ⟨y,y1,y2⟩:=zgi (fuel:=fuel) a6 a6 db;change NatIs x (dI a) at x2;change NatIs y (dI b) at y2;obtain ⟨k16,h16k⟩:∃k,k=16:=⟨_,rfl⟩; (have h16:dm ^ k16=fR:=by rw [zhD,zfM (k:=32*k16) a6]);have l1:=x2.len (k:=k16) (by rw [h16];exact va);have l2:=y2.len (k:=k16) (by rw [h16];exact vb);unfold zb9;rw [mC ha,mC hb];refine q34 ?_;rw [decide_eq_false a6,cond_false,y1];refine fh ?_;rw [x1];refine fh ?_;obtain ⟨q,r,e1,e2,e3⟩:=ziM (fuel:=fuel) a6 a6 hf x2 y2 hB;rw [e1];refine fh ?_;rw [na,nb];simp only [beq_self_eq_true,Bool.not_true,Bool.false_and,cond_false];have hq:dI a / dI b<fR:=Nat.lt_of_le_of_lt (Nat.div_le_self _ _) va;have hr:dI a % dI b<fR:=Nat.lt_trans (Nat.mod_lt _ hB) vb;have l3:=e2.len (k:=k16) (by rw [h16];exact hq);have l4:=e3.len (k:=k16) (by rw [h16];exact hr);obtain ⟨Q,q1,q2⟩:=zgL (neg:=false) a6 e2 hq;obtain ⟨R,r1,r2⟩:=zgL (neg:=false) a6 e3 hr;rw [q1,r1];exact ⟨Q,R,rfl,q2,r2⟩
structure RatIs (p:GRatio) (N D:Nat):Prop where
 nn:p.Num.Neg=false
 nd:p.Den.Neg=false
 num:BigIs p.Num.Digits N
 den:BigIs p.Den.Digits D
theorem RatIs.uniq {p q:GRatio}{N D:Nat}(h:RatIs p N D)(k:RatIs q N D):p=q:=by
 obtain ⟨⟨n1,d1⟩,⟨n2,d2⟩⟩:=p;obtain ⟨⟨m1,e1⟩,⟨m2,e2⟩⟩:=q;have a1:=h.num.uniq k.num;have a2:=h.den.uniq k.den;have b1:=h.nn;have b2:=h.nd;have c1:=k.nn;have c2:=k.nd;dsimp only at a1 a2 b1 b2 c1 c2;rw [a1,a2,b1,b2,c1,c2]
theorem RatIs.absn {p:GRatio}{N D:Nat}(h:RatIs p N D):dI p.Num=N:=h.num.eq
theorem RatIs.absd {p:GRatio}{N D:Nat}(h:RatIs p N D):dI p.Den=D:=h.den.eq
theorem ln {n:Int}(h:0≤n∧n≤9223372036854775807):n.toNat<fR:=Nat.lt_of_lt_of_le (show n.toNat<2 ^ 64 by omega) (zg3 a6)
theorem zkS {fuel:Nat}{n d:Int}(hf:2000≤fuel)(hn:0≤n∧n≤9223372036854775807)(hd:0<d∧d≤9223372036854775807):∃p,zd3 fuel n d=some (p,0)∧RatIs p (n.toNat / Nat.gcd n.toNat d.toNat) (d.toNat / Nat.gcd n.toNat d.toNat):=by
 obtain ⟨A,a1,a2⟩:=ky (fuel:=fuel) (n:=n) hf a6;obtain ⟨B,b1,b2⟩:=ky (fuel:=fuel) (n:=d) hf a6;rw [decide_eq_false a6] at a1 b1;rw [show n.natAbs=n.toNat by omega] at a2;rw [show d.natAbs=d.toNat by omega] at b2;have va:VI ⟨false,A⟩:=fy a2 (ln hn);have vb:VI ⟨false,B⟩:=fy b2 (ln a6);have ea:dI ⟨false,A⟩=n.toNat:=a2.eq;have eb:dI ⟨false,B⟩=d.toNat:=b2.eq;obtain ⟨G,g1,g2⟩:=zlo (fuel:=fuel) hf va vb a2.dig b2.dig;rw [ea,eb] at g2;have hg0:0<Nat.gcd n.toNat d.toNat:=Nat.gcd_pos_of_pos_right _ a6;have vg:VI ⟨false,G⟩:=fy g2 (zjN (ln hn) (ln a6));have eg:dI ⟨false,G⟩=Nat.gcd n.toNat d.toNat:=g2.eq;obtain ⟨Q,R,q1,q2,q3⟩:=ziT (fuel:=fuel) hf va vg a2.dig g2.dig rfl rfl (by rw [eg];exact hg0);obtain ⟨Q',R',p1,p2,p3⟩:=ziT (fuel:=fuel) hf vb vg b2.dig g2.dig rfl rfl (by rw [eg];exact hg0);rw [ea,eg] at q2;rw [eb,eg] at p2;unfold zd3;rw [a1,b1];refine fh ?_;unfold zeo;rw [mC va,ziX vb b2.dig,eb,if_neg a6,if_neg b3];refine q34 ?_;rw [decide_eq_false a7,cond_false,g1];refine fh ?_;rw [decide_eq_true trivial,cond_true,decide_eq_false a7,cond_false];rw [decide_eq_false b3,cond_false,q1];refine fh ?_;rw [decide_eq_false b3,cond_false,p1];refine fh ?_;rw [decide_eq_false b3,cond_false];exact ⟨_,rfl,rfl,rfl,q2,p2⟩
theorem zk1 {fuel:Nat}{n:Int}(hf:2000≤fuel)(hn:0≤n∧n≤9223372036854775807):zd3 fuel n 0=some (⟨⟨false,[]⟩,⟨false,[]⟩⟩,2):=by
 obtain ⟨A,a1,a2⟩:=ky (fuel:=fuel) (n:=n) hf a6;obtain ⟨B,b1,b2⟩:=ky (fuel:=fuel) (n:=0) hf a6;rw [decide_eq_false a6] at a1 b1;rw [show n.natAbs=n.toNat by omega] at a2;have va:VI ⟨false,A⟩:=fy a2 (ln hn);have vb:VI ⟨false,B⟩:=fy b2 (ln (n:=0) a6);have eb:dI ⟨false,B⟩=0:=b2.eq;unfold zd3;rw [a1,b1];refine fh ?_;unfold zeo;rw [mC va,ziX vb b2.dig,eb,if_pos rfl]
 rfl
theorem iH {a b:Int}:(if a<b then (-1:Int) else if b<a then 1 else 0)=0↔a=b:=by
 split
 ·constructor
  ·intro h;cases h
  ·intro h;omega
 ·split
  ·constructor
   ·intro h;cases h
   ·intro h;omega
  ·constructor
   ·intro h;omega
   ·intro h;rfl
theorem zkx {fuel:Nat}{n d:Int}(hf:2000≤fuel)(hn:0≤n∧n≤9223372036854775807)(hd:0≤d∧d≤9223372036854775807):∃p ok,zcp fuel n d=some (p,ok)∧Dig 256 p.Num.Digits∧Dig 256 p.Den.Digits∧(ok=true↔0<d∧Nat.gcd n.toNat d.toNat=1)∧(ok=true→RatIs p n.toNat d.toNat):=by
 unfold zcp;by_cases h0:d=0
 ·subst h0;rw [zk1 hf hn];refine fh ?_;rw [decide_eq_true a7,cond_true];exact ⟨_,_,rfl,Dig.nil,Dig.nil,⟨fun h=>(by cases h),fun h=>a6⟩,fun h=>(by cases h)⟩
 ·obtain ⟨p,p1,p2⟩:=zkS (fuel:=fuel) hf hn (d:=d) a6;obtain ⟨A,a1,a2⟩:=ky (fuel:=fuel) (n:=n) hf a6;obtain ⟨B,b1,b2⟩:=ky (fuel:=fuel) (n:=d) hf a6;rw [decide_eq_false a6] at a1 b1;rw [show n.natAbs=n.toNat by omega] at a2;rw [show d.natAbs=d.toNat by omega] at b2;have va:VI ⟨false,A⟩:=fy a2 (ln hn);have vb:VI ⟨false,B⟩:=fy b2 (ln a6);have ea:dI ⟨false,A⟩=n.toNat:=a2.eq;have eb:dI ⟨false,B⟩=d.toNat:=b2.eq;obtain ⟨⟨n1,D1⟩,⟨n2,D2⟩⟩:=p;obtain ⟨r1,r2,r3,r4⟩:=p2;dsimp only at r1 r2 r3 r4;subst r1 r2;have vn:VI ⟨false,D1⟩:=fy r3 (Nat.lt_of_le_of_lt (Nat.div_le_self _ _) (ln hn));have vd:VI ⟨false,D2⟩:=fy r4 (Nat.lt_of_le_of_lt (Nat.div_le_self _ _) (ln a6));have en:dI ⟨false,D1⟩=_:=r3.eq;have ed:dI ⟨false,D2⟩=_:=r4.eq;rw [p1];refine fh ?_;rw [decide_eq_false b3,cond_false,a1];refine fh ?_;rw [zfz hf vn va r3.dig a2.dig];refine q3L ?_;rw [zgy rfl,zgy rfl,en,ea];have hg0:0<Nat.gcd n.toNat d.toNat:=Nat.gcd_pos_of_pos_right _ a6
  have hgd:d.toNat / Nat.gcd n.toNat d.toNat=d.toNat→Nat.gcd n.toNat d.toNat=1:=fun h=>by
   rcases Nat.lt_or_ge 1 (Nat.gcd n.toNat d.toNat) with h1|h1
   ·have:=Nat.div_lt_self (show 0<d.toNat by omega) h1;omega
   ·omega
  by_cases c1:n.toNat / Nat.gcd n.toNat d.toNat=n.toNat
  ·rw [decide_eq_true (iH.2 a6),cond_true,b1];refine fh ?_;rw [zfz hf vd vb r4.dig b2.dig];refine fh ?_;rw [zgy rfl,zgy rfl,ed,eb];refine ⟨_,_,rfl,r3.dig,r4.dig,?_,fun h=>?_⟩
   ·rw [decide_eq_true_eq,iH];constructor
    ·intro h;exact ⟨by omega,hgd a6⟩
    ·intro h;rw [h.2,Nat.div_one]
   ·rw [decide_eq_true_eq,iH] at h;have h2:=hgd a6;rw [h2,Nat.div_one] at r3 r4;exact ⟨rfl,rfl,r3,r4⟩
  ·rw [decide_eq_false (fun h=>c1 (by have:=iH.1 h;omega)),cond_false];refine ⟨_,_,rfl,r3.dig,r4.dig,⟨fun h=>(by cases h),fun h=>?_⟩,fun h=>(by cases h)⟩;exact absurd (by rw [h.2,Nat.div_one]) c1
theorem zid {fuel:Nat}{a b:GInt}(hf:2000≤fuel)(la:a.Digits.length≤64)(lb:b.Digits.length≤64)(ha:BigIs a.Digits (dI a))(hb:BigIs b.Digits (dI b))(na:a.Neg=false)(nb:b.Neg=false)(hB:0<dI b):∃Q R,zc9 fuel a b=some (⟨false,Q⟩,⟨false,R⟩)∧BigIs Q (dI a / dI b)∧BigIs R (dI a % dI b):=by
 obtain ⟨q,r,e1,e2,e3⟩:=zkJ (fuel:=fuel) ha.ls hb.ls hB (by rw [List.length_reverse];omega) (by rw [List.length_reverse];omega) hf;unfold zc9;rw [rAbs a6,rAbs a6];refine q3L ?_;rw [e1];refine fh ?_;rw [na,nb];simp only [beq_self_eq_true,Bool.not_true,Bool.and_false,cond_false];have h64:256 ^ 64=fR:=M512_64.symm
 have hA:dI a<fR:=by
  have:=ha.lt;exact Nat.lt_of_lt_of_le this (by rw [←h64];exact Nat.pow_le_pow_right a7 la)
 have hBl:dI b<fR:=by
  have:=hb.lt;exact Nat.lt_of_lt_of_le this (by rw [←h64];exact Nat.pow_le_pow_right a7 lb)
 have l1:q.length≤64:=e2.len (by rw [h64];exact Nat.lt_of_le_of_lt (Nat.div_le_self _ _) hA);have l2:r.length≤64:=e3.len (by rw [h64];exact Nat.lt_trans (Nat.mod_lt _ hB) hBl);obtain ⟨Q,q1,q2⟩:=zjk (fuel:=fuel) (neg:=false) e2.dig a6 a6;obtain ⟨R,r1,r2⟩:=zjk (fuel:=fuel) (neg:=false) e3.dig a6 a6;rw [e2.eq] at q2;rw [e3.eq] at r2;rw [q1,r1];exact ⟨Q,R,rfl,q2,r2⟩
theorem zkl {fuel:Nat}{n d:Int}(hf:2000≤fuel)(hn:0≤n∧n≤9223372036854775807)(hd:0<d∧d≤9223372036854775807):∃p,zd4 fuel n d=some p∧RatIs p (n.toNat / Nat.gcd n.toNat d.toNat) (d.toNat / Nat.gcd n.toNat d.toNat):=by
 obtain ⟨A,a1,a2⟩:=rOf (fuel:=fuel) (n:=n) hf a6;obtain ⟨B,b1,b2⟩:=rOf (fuel:=fuel) (n:=d) hf a6;have va:VI ⟨false,A⟩:=fy a2 (ln hn);have vb:VI ⟨false,B⟩:=fy b2 (ln a6);have ea:dI ⟨false,A⟩=n.toNat:=a2.eq;have eb:dI ⟨false,B⟩=d.toNat:=b2.eq;obtain ⟨G,g1,g2⟩:=zjr (fuel:=fuel) hf va vb a2.dig b2.dig;rw [ea,eb] at g2;have hg0:0<Nat.gcd n.toNat d.toNat:=Nat.gcd_pos_of_pos_right _ a6;have vg:VI ⟨false,G⟩:=fy g2 (zjN (ln hn) (ln a6));have eg:dI ⟨false,G⟩=Nat.gcd n.toNat d.toNat:=g2.eq;obtain ⟨Q,R,q1,q2,q3⟩:=zid (fuel:=fuel) hf va.len vg.len (va.big a2.dig) (vg.big g2.dig) rfl rfl (by rw [eg];exact hg0);obtain ⟨Q',R',p1,p2,p3⟩:=zid (fuel:=fuel) hf vb.len vg.len (vb.big b2.dig) (vg.big g2.dig) rfl rfl (by rw [eg];exact hg0);rw [ea,eg] at q2;rw [eb,eg] at p2;unfold zd4;rw [a1,b1];refine fh ?_;unfold zeg;rw [g1];simp only [Option.bind_some,dO,cond_false];rw [q1];refine fh ?_;rw [p1];exact ⟨_,rfl,rfl,rfl,q2,p2⟩
theorem zjX {fuel:Nat}{n d:Int}(hf:2000≤fuel)(hn:0≤n)(hd:0≤d):∃b,zc7 fuel n d=some b∧(b=true↔0<d∧d≤1000∧n≤d∧Nat.gcd n.toNat d.toNat=1):=by
 unfold zc7;have no:¬(0<d∧d≤1000∧n≤d∧Nat.gcd n.toNat d.toNat=1)→∃b,some false=some b∧(b=true↔0<d∧d≤1000∧n≤d∧Nat.gcd n.toNat d.toNat=1):=fun h=>⟨false,rfl,fun h=>(by cases h),fun h2=>absurd h2 h⟩;by_cases c1:d<1
 ·(rw [decide_eq_true c1];exact no fun h=>by omega)
 by_cases c2:1000<d
 ·(rw [decide_eq_false c1,decide_eq_true c2];exact no fun h=>by omega)
 by_cases c3:d<n
 ·(rw [decide_eq_false c1,decide_eq_false c2,decide_eq_false (show ¬n<0 by omega),decide_eq_true c3];exact no fun h=>by omega)
 rw [decide_eq_false c1,decide_eq_false c2,decide_eq_false (show ¬n<0 by omega),decide_eq_false c3];simp only [Bool.or_self,Bool.false_or];by_cases c4:n=0∧1<d
 ·rw [decide_eq_true c4.1,decide_eq_true c4.2];refine no fun h=>?_;have:=h.2.2.2;rw [c4.1,show (0:Int).toNat=0 from rfl,Nat.gcd_zero_left] at this;omega
 have hc4:(decide (n=0)&&decide (1<d))=false:=by
  by_cases h:n=0
  ·rw [decide_eq_false (show ¬1<d from fun h2=>c4 ⟨h,h2⟩),Bool.and_false]
  ·rw [decide_eq_false h,Bool.false_and]
 rw [hc4,cond_false];simp only [dO];refine ze3 (σ:=Int) (I:=fun k=>2≤k∧k≤1002∧∀j:Nat,2≤j→(j:Int)<k→¬(j ∣ n.toNat∧j ∣ d.toNat)) (μ:=fun k=>(1002 - k).toNat) (post:=fun o=>∃b,o=some b∧(b=true↔0<d∧d≤1000∧n≤d∧Nat.gcd n.toNat d.toNat=1)) ⟨by omega,by omega,fun j h1 h2=>by omega⟩ a6 (fun k next hI hnx=>?_);obtain ⟨i1,i2,i3⟩:=hI;by_cases hk:k≤n
 ·rw [decide_eq_true hk,cond_true,eN a6]
  have go:¬(k.toNat ∣ n.toNat∧k.toNat ∣ d.toNat)→∃b,next (wI (k+1))=some b∧(b=true↔0<d∧d≤1000∧n≤d∧Nat.gcd n.toNat d.toNat=1):=fun h=>by
   rw [gk a6];refine hnx _ ⟨by omega,by omega,fun j h1 h2=>?_⟩ a6;rcases Int.lt_or_le (j:Int) k with h3|h3
   ·exact i3 j h1 h3
   ·rw [show j=k.toNat by omega];exact h
  have hmod:∀z:Int,0≤z→(z % k=0↔k.toNat ∣ z.toNat):=fun z hz=>by
   rw [Nat.dvd_iff_mod_eq_zero]; (have:((z.toNat % k.toNat:Nat):Int)=z % k:=by rw [Int.natCast_emod,Int.toNat_of_nonneg hz,Int.toNat_of_nonneg a6]);omega
  by_cases m1:n % k=0
  ·rw [decide_eq_true m1,cond_true,eN a6];by_cases m2:d % k=0
   ·rw [decide_eq_true m2,cond_true];refine no fun h=>?_;have h1:=Nat.dvd_gcd ((hmod n hn).1 m1) ((hmod d hd).1 m2);rw [h.2.2.2] at h1;have:=Nat.le_of_dvd a7 h1;omega
   ·rw [decide_eq_false m2,cond_false];exact go fun h=>m2 ((hmod d hd).2 h.2)
  ·rw [decide_eq_false m1,cond_false,cond_false];exact go fun h=>m1 ((hmod n hn).2 h.1)
 ·rw [decide_eq_false hk,cond_false];refine ⟨true,rfl,fun _=>⟨by omega,by omega,by omega,?_⟩,fun _=>rfl⟩;have hg0:0<Nat.gcd n.toNat d.toNat:=Nat.gcd_pos_of_pos_right _ a6;rcases Nat.lt_or_ge 1 (Nat.gcd n.toNat d.toNat) with h1|h1
  ·exfalso;by_cases hn0:n=0
   ·have:d=1:=by
     have:¬1<d:=fun h=>c4 ⟨hn0,h⟩;omega
    rw [hn0,this] at h1;exact absurd h1 a7
   ·have h2:=Nat.le_of_dvd (show 0<n.toNat by omega) (Nat.gcd_dvd_left n.toNat d.toNat);exact i3 _ a6 a6 ⟨Nat.gcd_dvd_left _ _,Nat.gcd_dvd_right _ _⟩
  ·omega
theorem zjG {f:Int}{m:Bool}{l:List Int}{a:Int}(h:0≤a∧a<(l.length:Int)):mc ⟨⟨f⟩,m,l,a⟩=some (Dy.ok (nth l a.toNat,a+1)):=by
 unfold mc;simp only [dO];rw [decide_eq_false a6,cond_false,eN h]
theorem zjT {α β:Type}{x:α}:fS (Dy.ok x:Dy α β)=true:=rfl
theorem ziv {α β:Type}{x:β}:fS (Dy.er x:Dy α β)=false:=rfl
theorem zkM {α β:Type}[Inhabited α]{x:α}:eE (Dy.ok x:Dy α β)=x:=rfl
theorem zjK {α β:Type}[Inhabited β]{x:β}:gp (Dy.er x:Dy α β)=x:=rfl
def lU (b:List Int)(a:Int)(i:Nat)(next:BitVec 64→Option (Int×Int×Int))(n:BitVec 64):Option (Int×Int×Int):=
 (bif decide ((b.length:Int)≤wI (a+(i:Int))) then
 some (0,a,4)
 else
 dB (0≤wI (a+(i:Int))∧wI (a+(i:Int))<(b.length:Int)) <|
 (bif decide ((nth b ((wI (a+(i:Int))).toNat))<128) then
 (bif ((decide (0<(i:Int)))&&(decide ((nth b ((wI (a+(i:Int))).toNat))=0))) then
 some (0,a,6)
 else
 some ((wI ((n ||| ((BitVec.ofInt 64 (andK .u8 (nth b ((wI (a+(i:Int))).toNat)) 127)) <<< ((7* (i:Int)).toNat))).toNat:Int)),((wI (a+(i:Int)))+1),0))
 else
 next (n ||| ((BitVec.ofInt 64 (andK .u8 (nth b ((wI (a+(i:Int))).toNat)) 127)) <<< ((7* (i:Int)).toNat)))))
theorem zkG (b:List Int)(a:Int):kT b a=dN (lU b a) (fun _=>some (0,a,6)) 9 0 0#64:=rfl
def sgV (v:BitVec 64):Int:=bif decide (((v % (2#64)).toNat:Int)=((0#64).toNat:Int)) then wI ((v / (2#64)).toNat:Int) else wI ((wI (0 - (wI ((v / (2#64)).toNat:Int)))) - 1)
def lT (b:List Int)(a:Int)(i:Nat)(next:BitVec 64→Option (Int×Int×Int))(n:BitVec 64):Option (Int×Int×Int):=
 (bif decide ((b.length:Int)≤wI (a+(i:Int))) then
 some (0,a,4)
 else
 dB (0≤wI (a+(i:Int))∧wI (a+(i:Int))<(b.length:Int)) <|
 (bif ((decide ((i:Int)=9))&&(decide (1<(nth b ((wI (a+(i:Int))).toNat))))) then
 some (0,a,6)
 else
 (bif decide ((nth b ((wI (a+(i:Int))).toNat))<128) then
 (bif ((decide (0<(i:Int)))&&(decide ((nth b ((wI (a+(i:Int))).toNat))=0))) then
 some (0,a,6)
 else
 dB (¬2#64=0#64) <|
 (bif decide ((((n ||| ((BitVec.ofInt 64 (andK .u8 (nth b ((wI (a+(i:Int))).toNat)) 127)) <<< ((7* (i:Int)).toNat))) % (2#64)).toNat:Int)=((0#64).toNat:Int)) then
 dB (¬2#64=0#64) <|
 some ((wI (((n ||| ((BitVec.ofInt 64 (andK .u8 (nth b ((wI (a+(i:Int))).toNat)) 127)) <<< ((7* (i:Int)).toNat))) / (2#64)).toNat:Int)),((wI (a+(i:Int)))+1),0)
 else
 dB (¬2#64=0#64) <|
 some (wI ((wI (0 - (wI (((n ||| ((BitVec.ofInt 64 (andK .u8 (nth b ((wI (a+(i:Int))).toNat)) 127)) <<< ((7* (i:Int)).toNat))) / (2#64)).toNat:Int)))) - 1),((wI (a+(i:Int)))+1),0)))
 else
 next (n ||| ((BitVec.ofInt 64 (andK .u8 (nth b ((wI (a+(i:Int))).toNat)) 127)) <<< ((7* (i:Int)).toNat))))))
theorem zlF (b:List Int)(a:Int):zci b a=dN (lT b a) (fun _=>some (0,a,6)) 10 0 0#64:=rfl
theorem sg_eq (v:BitVec 64)(a:Int):sgF v a=some (Dy.ok (sgV v,a)):=by
 unfold sgF sgV; (have h1:(v &&& 1#64).toNat=v.toNat % 2:=by rw [BitVec.toNat_and,show (1#64).toNat=1 from rfl,Nat.and_one_is_mod]); (have h2:(v >>> 1).toNat=v.toNat / 2:=by rw [BitVec.toNat_ushiftRight,Nat.shiftRight_eq_div_pow]); (have h3:(v % 2#64).toNat=v.toNat % 2:=by rw [BitVec.toNat_umod];rfl); (have h4:(v / 2#64).toNat=v.toNat / 2:=by rw [BitVec.toNat_udiv];rfl);rw [h1,h2,h3,h4,show (((1#64).toNat:Nat):Int)=1 from rfl,show (((0#64).toNat:Nat):Int)=0 from rfl];by_cases h:v.toNat % 2=1
 ·rw [decide_eq_true a6,decide_eq_false a6];rfl
 ·rw [decide_eq_false a6,decide_eq_true a6];rfl
section
variable {b:List Int}{a:Int}
theorem zjB {f:Int}(hb:Byt b)(ha:0≤a∧a≤(b.length:Int))(hl:b.length≤100000):∀(m i:Nat) (z n:BitVec 64),i+m=9→∃r,dN (ii ⟨⟨f⟩,true,b,a⟩) (fun s=>some (Dy.er (6,s.2.2))) m i (z,n,a+(i:Int))=some r∧dN (lU b a) (fun _=>some (0,a,6)) m i n=some (bif fS r then (wI (((eE r).1).toNat:Int),(eE r).2,0) else (0,a,(gp r).1))∧(fS r=false→(gp r).1≠0):=by
 intro m
 induction m with
 |zero=>intro i z n e;exact q4Y
 |succ m ih=>
  intro i z n e;have ih':=fun n:BitVec 64=>ih (i+1) z n a6;rw [show a+((i+1:Nat):Int)=a+(i:Int)+1 by omega] at ih'
  show ∃r,ii ⟨⟨f⟩,true,b,a⟩ i (dN (ii ⟨⟨f⟩,true,b,a⟩) (fun s=>some (Dy.er (6,s.2.2))) m (i+1)) (z,n,a+(i:Int))=some r∧lU b a i (dN (lU b a) (fun _=>some (0,a,6)) m (i+1)) n=_∧_
  generalize hP:dN (ii ⟨⟨f⟩,true,b,a⟩) (fun s=>some (Dy.er (6,s.2.2))) m (i+1)=nP at *;generalize hR:dN (lU b a) (fun _=>some (0,a,6)) m (i+1)=nR at *;unfold ii lU;dsimp only;rw [gk (x:=a+(i:Int)) a6];by_cases hlt:a+(i:Int)<(b.length:Int)
  ·rw [zjG a6,decide_eq_false (show ¬(b.length:Int)≤a+(i:Int) by omega),cond_false,eN a6];generalize nth b (a+(i:Int)).toNat=y at*
   show ∃r,(bif (decide ((i:Int)=9)&&decide ((((1#64).toNat:Nat):Int)<((BitVec.ofInt 64 (andK .u8 y 127)).toNat:Int))) then some (Dy.er (6,a+(i:Int)+1)) else bif decide (y<128) then (bif decide (y=0)&&decide (0<(i:Int)) then some (Dy.er (6,a+(i:Int)+1)) else some (Dy.ok ((n ||| ((BitVec.ofInt 64 (andK .u8 y 127)) <<< ((7* (i:Int)).toNat))),a+(i:Int)+1))) else nP (z,(n ||| ((BitVec.ofInt 64 (andK .u8 y 127)) <<< ((7* (i:Int)).toNat))),a+(i:Int)+1))=some r∧_
   rw [decide_eq_false (show ¬(i:Int)=9 by omega),Bool.false_and,cond_false];by_cases c1:y<128
   ·rw [decide_eq_true c1,cond_true,cond_true,Bool.and_comm]
    cases hz:(decide (0<(i:Int))&&decide (y=0)) with
    |true=>exact ⟨_,rfl,rfl,fun _=>by show (6:Int)≠0;decide⟩
    |false=>exact ⟨_,rfl,rfl,fun h=>by cases h⟩
   ·rw [decide_eq_false c1,cond_false,cond_false];exact ih' _
  ·rw [zhx a6,decide_eq_true (show (b.length:Int)≤a+(i:Int) by omega),cond_true];exact ⟨_,rfl,rfl,fun _=>by show (4:Int)≠0;decide⟩
theorem zla {f:Int}(hb:Byt b)(ha:0≤a∧a≤(b.length:Int))(hl:b.length≤100000):∀(m i:Nat) (z n:BitVec 64),i+m=10→∃r,dN (ii ⟨⟨f⟩,true,b,a⟩) (fun s=>some (Dy.er (6,s.2.2))) m i (z,n,a+(i:Int))=some r∧dN (lT b a) (fun _=>some (0,a,6)) m i n=some (bif fS r then (sgV (eE r).1,(eE r).2,0) else (0,a,(gp r).1))∧(fS r=false→(gp r).1≠0):=by
 intro m
 induction m with
 |zero=>intro i z n e;exact q4Y
 |succ m ih=>
  intro i z n e;have ih':=fun n:BitVec 64=>ih (i+1) z n a6;rw [show a+((i+1:Nat):Int)=a+(i:Int)+1 by omega] at ih'
  show ∃r,ii ⟨⟨f⟩,true,b,a⟩ i (dN (ii ⟨⟨f⟩,true,b,a⟩) (fun s=>some (Dy.er (6,s.2.2))) m (i+1)) (z,n,a+(i:Int))=some r∧lT b a i (dN (lT b a) (fun _=>some (0,a,6)) m (i+1)) n=_∧_
  generalize hP:dN (ii ⟨⟨f⟩,true,b,a⟩) (fun s=>some (Dy.er (6,s.2.2))) m (i+1)=nP at *;generalize hR:dN (lT b a) (fun _=>some (0,a,6)) m (i+1)=nR at *;unfold ii lT;dsimp only;rw [gk (x:=a+(i:Int)) a6];by_cases hlt:a+(i:Int)<(b.length:Int)
  ·rw [zjG a6,decide_eq_false (show ¬(b.length:Int)≤a+(i:Int) by omega),cond_false,eN a6];have hby:=hb _ (zi2 (show (a+(i:Int)).toNat<b.length by omega))
   have hr:∀v:BitVec 64,(dB (¬2#64=0#64) <|
       (bif decide ((((v) % (2#64)).toNat:Int)=((0#64).toNat:Int)) then
        dB (¬2#64=0#64) <|
        some ((wI (((v) / (2#64)).toNat:Int)),((a+(i:Int))+1),(0:Int))
        else
        dB (¬2#64=0#64) <|
        some (wI ((wI (0 - (wI (((v) / (2#64)).toNat:Int)))) - 1),((a+(i:Int))+1),(0:Int))))=some (sgV v,a+(i:Int)+1,0):=fun v=>by
    (have h2:¬(2#64)=0#64:=by decide);rw [eN h2,eN h2,eN h2];unfold sgV
    cases decide ((((v) % (2#64)).toNat:Int)=((0#64).toNat:Int)) <;> rfl
   generalize hB:nth b (a+(i:Int)).toNat=y at *;rw [hr]
   show ∃r,(bif (decide ((i:Int)=9)&&decide ((((1#64).toNat:Nat):Int)<((BitVec.ofInt 64 (andK .u8 y 127)).toNat:Int))) then some (Dy.er (6,a+(i:Int)+1)) else bif decide (y<128) then (bif decide (y=0)&&decide (0<(i:Int)) then some (Dy.er (6,a+(i:Int)+1)) else some (Dy.ok ((n ||| ((BitVec.ofInt 64 (andK .u8 y 127)) <<< ((7* (i:Int)).toNat))),a+(i:Int)+1))) else nP (z,(n ||| ((BitVec.ofInt 64 (andK .u8 y 127)) <<< ((7* (i:Int)).toNat))),a+(i:Int)+1))=some r∧_
   have hand:((BitVec.ofInt 64 (andK .u8 y 127)).toNat:Int)=((y.toNat % 128:Nat):Int):=by
    have:=zkI y.toNat a6;rw [show ((y.toNat:Nat):Int)=y by omega] at this;rw [this,ofI a6];omega
   have h11:(((1#64).toNat:Nat):Int)=1:=rfl;by_cases c0:i=9∧1<y
   ·rw [decide_eq_true (show (i:Int)=9 by omega),decide_eq_true c0.2,Bool.true_and,Bool.and_self,cond_true];by_cases c2:1<y.toNat % 128
    ·rw [decide_eq_true (by rw [hand,h11];omega),cond_true];exact q4Y
    ·rw [decide_eq_false (by rw [hand,h11];omega),cond_false,decide_eq_false (show ¬y<128 by omega),cond_false]; (obtain rfl:m=0:=by omega);rw [←hP];exact q4Y
   ·have hp:(decide ((i:Int)=9)&&decide ((((1#64).toNat:Nat):Int)<((BitVec.ofInt 64 (andK .u8 y 127)).toNat:Int)))=false:=by
     by_cases h9:i=9
     ·rw [decide_eq_false (show ¬(((1#64).toNat:Nat):Int)<((BitVec.ofInt 64 (andK .u8 y 127)).toNat:Int) by rw [hand,h11];omega),Bool.and_false]
     ·rw [decide_eq_false a6,Bool.false_and]
    have hq:(decide ((i:Int)=9)&&decide ((1:Int)<y))=false:=by
     by_cases h9:i=9
     ·rw [decide_eq_false (show ¬(1:Int)<y by omega),Bool.and_false]
     ·rw [decide_eq_false a6,Bool.false_and]
    rw [hp,hq,cond_false,cond_false];by_cases c1:y<128
    ·rw [decide_eq_true c1,cond_true,cond_true,Bool.and_comm]
     cases hz:(decide (0<(i:Int))&&decide (y=0)) with
     |true=>exact ⟨_,rfl,rfl,fun _=>by show (6:Int)≠0;decide⟩
     |false=>exact ⟨_,rfl,rfl,fun h=>by cases h⟩
    ·rw [decide_eq_false c1,cond_false,cond_false];exact ih' _
  ·rw [zhx a6,decide_eq_true (show (b.length:Int)≤a+(i:Int) by omega),cond_true];exact ⟨_,rfl,rfl,fun _=>by show (4:Int)≠0;decide⟩
theorem j2 {e:Int}(hb:Byt b)(ha:0≤a∧a≤(b.length:Int)):RdO ⟨⟨e⟩,true,b,a⟩:=⟨rfl,hb,ha.1,ha.2⟩
theorem uR {e:Int}(hb:Byt b)(ha:0≤a∧a≤(b.length:Int))(hl:b.length≤100000):∃v e' a',j1 ⟨⟨e⟩,true,b,a⟩=some (v,(e',a'))∧(e=0→kT b a=some (v,a',e'))∧(e≠0→v=0∧e'=e∧a'=a)∧(0≤v∧v≤9223372036854775807)∧(0≤a'∧a'≤(b.length:Int))∧(e'=0→e=0∧∃rest,b.drop a.toNat=iN v++rest∧a'=a+((iN v).length:Int)):=by
 obtain ⟨v,k,q,h1,h2,h3,h4⟩:=zjz _ (j2 (e:=e) hb ha);refine ⟨v,k,q,h1,fun h0=>?_,fun h0=>?_,h3,h2,h4⟩
 ·subst h0;obtain ⟨r,s1,s2,s3⟩:=zjB (f:=0) hb ha hl 9 0 0#64 0#64 a6
  have hg:mP ⟨⟨0⟩,true,b,a⟩ 9=some r:=by
   rw [zgH,eN a7];rw [show a+((0:Nat):Int)=a by omega] at s1;exact s1
  unfold j1 at h1;rw [Bool.true_and,decide_eq_true rfl,cond_true,hg] at h1;simp only [Option.bind_some] at h1;rw [zkG,s2]
  cases hr:fS r with
  |true=>
   rw [hr,cond_true] at h1;simp only [Option.some.injEq,Prod.mk.injEq] at h1;rw [cond_true,h1.1,h1.2.2,←h1.2.1]
  |false=>
   rw [hr,cond_false] at h1;simp only [Option.some.injEq,Prod.mk.injEq] at h1;rw [cond_false,←h1.1,h1.2.1,h1.2.2]
 ·unfold j1 at h1;rw [Bool.true_and,decide_eq_false h0,cond_false] at h1;simp only [Option.some.injEq,Prod.mk.injEq] at h1;exact ⟨h1.1.symm,h1.2.1.symm,h1.2.2.symm⟩
theorem sR {e:Int}(hb:Byt b)(ha:0≤a∧a≤(b.length:Int))(hl:b.length≤100000):∃v e' a',zay ⟨⟨e⟩,true,b,a⟩=some (v,(e',a'))∧(e=0→zci b a=some (v,a',e'))∧(e≠0→v=0∧e'=e∧a'=a)∧(0≤a'∧a'≤(b.length:Int))∧(e'=0→e=0∧∃rest,b.drop a.toNat=eG (jJ v)++rest∧a'=a+((eG (jJ v)).length:Int)):=by
 obtain ⟨v,k,q,h1,h2,_,h4⟩:=zkc _ (j2 (e:=e) hb ha);refine ⟨v,k,q,h1,fun h0=>?_,fun h0=>?_,h2,h4⟩
 ·subst h0;obtain ⟨r,s1,s2,s3⟩:=zla (f:=0) hb ha hl 10 0 0#64 0#64 a6
  have hg:mP ⟨⟨0⟩,true,b,a⟩ 10=some r:=by
   rw [zgH,eN a7];rw [show a+((0:Nat):Int)=a by omega] at s1;exact s1
  have hs:zaF ⟨⟨0⟩,true,b,a⟩=bif fS r then some (Dy.ok (sgV (eE r).1,(eE r).2)) else some (Dy.er ((gp r).1,(gp r).2)):=by
   unfold zaF;rw [hg,←sg_eq];rfl
  unfold zay at h1;rw [Bool.true_and,decide_eq_true rfl,cond_true,hs] at h1;rw [zlF,s2]
  cases hr:fS r with
  |true=>
   rw [hr,cond_true] at h1;simp only [Option.bind_some,zjT,zkM,cond_true,Option.some.injEq,Prod.mk.injEq] at h1;rw [cond_true,h1.1,h1.2.2,←h1.2.1]
  |false=>
   rw [hr,cond_false] at h1;simp only [Option.bind_some,ziv,zjK,cond_false,Option.some.injEq,Prod.mk.injEq] at h1;rw [cond_false,←h1.1,←h1.2.1,h1.2.2]
 ·unfold zay at h1;rw [Bool.true_and,decide_eq_false h0,cond_false] at h1;simp only [Option.some.injEq,Prod.mk.injEq] at h1;exact ⟨h1.1.symm,h1.2.1.symm,h1.2.2.symm⟩
theorem cR {lim:Int}(h0:0≤lim)(hlim:lim≤1000000)(hb:Byt b)(ha:0≤a∧a≤(b.length:Int))(hl:b.length≤100000):∃v e' a',zaz ⟨⟨0⟩,true,b,a⟩ lim=some (v,(e',a'))∧zdg b a lim=some (v,a',e')∧(0≤v∧v≤lim)∧(0≤a'∧a'≤(b.length:Int))∧(e'=0→∃rest,b.drop a.toNat=iN v++rest∧a'=a+((iN v).length:Int)):=by
 obtain ⟨v,k,q,h1,h2,h3,h4⟩:=zi3 h0 hlim _ (j2 (e:=0) hb ha);refine ⟨v,k,q,h1,?_,h3,h2,fun h=>(h4 h).2⟩;obtain ⟨r,s1,s2,s3⟩:=zjB (f:=0) hb ha hl 9 0 0#64 0#64 a6
 have hg:mP ⟨⟨0⟩,true,b,a⟩ 9=some r:=by
  rw [zgH,eN a7];rw [show a+((0:Nat):Int)=a by omega] at s1;exact s1
 dsimp only at h1;unfold zaz zaO at h1;rw [Bool.true_and,decide_eq_true rfl,cond_true,hg] at h1;simp only [Option.bind_some,dO] at h1;unfold zdg;rw [zkG,s2];refine fh ?_;rw [decide_eq_false (show ¬lim<0 by omega),cond_false] at h1
 cases hr:fS r with
 |true=>
  rw [hr,cond_true] at h1;rw [cond_true];dsimp only;rw [decide_eq_true rfl,Bool.true_and];by_cases c:lim<wI (((eE r).1).toNat:Int)
  ·rw [decide_eq_true c,cond_true] at h1 ⊢;simp only [Option.bind_some,ziv,zjK,cond_false,Option.some.injEq,Prod.mk.injEq] at h1;rw [←h1.1,←h1.2.1,h1.2.2]
  ·rw [decide_eq_false c,cond_false] at h1 ⊢;simp only [Option.bind_some,zjT,zkM,cond_true,Option.some.injEq,Prod.mk.injEq] at h1;rw [←h1.1,←h1.2.2,←h1.2.1]
 |false=>
  rw [hr,cond_false] at h1;rw [cond_false];dsimp only;simp only [Option.bind_some,ziv,zjK,cond_false,Option.some.injEq,Prod.mk.injEq] at h1;rw [decide_eq_false (s3 hr),Bool.false_and,cond_false,←h1.1,h1.2.2,←h1.2.1]
end
def zcA (fuel:Nat)(b:List Int):Option Bool:=
 (bif decide (1500<(b.length:Int)) then
 (zcZ fuel).bind fun r12=>
 some r12
 else
 (zct fuel b).bind fun r15=>
 (zdw fuel b).bind fun r20=>
 (bif ((!(zcd r15.1 r20.1))||(decide (¬r15.2=r20.2))) then
 some false
 else
 (bif decide (¬r20.2=0) then
 (zcZ fuel).bind fun r34=>
 some r34
 else
 (zcu fuel r15.1).bind fun r37=>
 dO (fun (x_5:Bool)=>
 some x_5)
 (fun k6=>
 (bif decide (r37.2=0) then
 (bif ((i0 r37.1) == (i0 b)) then
 (zcZ fuel).bind fun r50=>
 k6 r50
 else
 k6 false)
 else
 k6 false)))))
theorem zfp (F0:Frz)(w:World)(hF0:F0.At w)(b:List Int)(vb:Value)(hb:SlC F0 vb 1 (b.map (eK .u8)))(hgl:GlF F0)(fuel:Nat)(r:Bool)(hr:zcA fuel b=some r):Calls Tryz.prog 10 #[vb] w fun e w'=>e= .returned (.bool r)∧Below w.heap.size w w':=by
 have hk:=hr;unfold zcA at hk;haveI:=hb.oneC;obtain ⟨S0,F1,rfl,hS0,hp0⟩:=eH hF0;refine dT Tryz.func10 rfl rfl rfl hp0 ?_;refine jy ?_;refine q17 ?_;have hm10:b.length≤9223372036854775807:=(List.length_map _)▸hb.max;refine ez ?_;refine T.cond rfl (fun h1=>?_) (fun h1=>?_)
 ·have p1:=of_decide_eq_true h1;replace hk:=dt hk h1;refine T.seq ?_;have hq:=dC hk;clear hk;obtain ⟨r12,hr12,hk⟩:=hq; (try dsimp only at hk);refine fu ?_;refine de (dj rfl rfl rfl (fun w hw=>zfd _ w (hw.fr (i:=0) rfl) hgl fuel r12 hr12)) ?_;refine eA ?_;refine iV ?_;obtain rfl:=Option.some.inj hk;exact eB
 ·have p1:=of_decide_eq_false h1;replace hk:=dw hk h1;refine fV ?_;have hq:=dC hk;clear hk;obtain ⟨r15,hr15,hk⟩:=hq; (try dsimp only at hk);refine eF ?_;refine de (dr 0 rfl rfl rfl rfl (fun w hw hF=>zgB _ w hF b vb hb fuel r15 hr15)) ?_;rintro _ _ ⟨⟨v15_0_0,cs15_0_0⟩,F2,le1_2,hf15_0_0,rfl,rfl⟩;dsimp only at hf15_0_0 ⊢;haveI:=hf15_0_0.1.oneC;refine i9 ?_;refine fv ?_;have hq:=dC hk;clear hk;obtain ⟨r20,hr20,hk⟩:=hq; (try dsimp only at hk);refine eF ?_;refine de (dr 0 rfl rfl rfl rfl (fun w hw hF=>zhf _ w hF b vb (SlC.mono hb le1_2) fuel r20 hr20)) ?_;rintro _ _ ⟨⟨v20_0_0,cs20_0_0⟩,F3,le2_3,hf20_0_0,rfl,rfl⟩;dsimp only at hf20_0_0 ⊢;have le1_3:=le1_2.trans le2_3;haveI:=hf20_0_0.1.oneC;refine i9 ?_;refine jv ?_;refine dk (ι:=Unit) (fun z=>[(0,vb),(3,v15_0_0),(6, .int .i64 r20.2),(31, .bool ((!(zcd r15.1 r20.1))||(decide (¬r15.2=r20.2))))]) (fun z=>[.fr F3]) (fun z=>True) ?_ ?_
  ·refine eZ ?_;refine de (dj rfl rfl rfl (fun w hw=>zgC _ w (hw.fr (i:=0) rfl) r15.1 v15_0_0 cs15_0_0 (SlD.mono (rep:=df) (fun _ _ _ _=>GBid.mono) hf15_0_0 le2_3) r20.1 v20_0_0 cs20_0_0 hf20_0_0)) ?_;refine jt ?_;refine dp rfl rfl rfl (fun h2=>?_) (fun h2=>?_)
   ·refine iK ?_;exact dg () trivial (.c (.c (.c (.b (fO h2).symm .nil)))) (List.Sublist.refl _)
   ·refine iK ?_;exact dg () trivial (.c (.c (.c (.b (gE h2) .nil)))) (List.Sublist.refl _)
  ·rintro _ _;refine T.cond rfl (fun h3=>?_) (fun h3=>?_)
   ·replace hk:=dt hk h3;refine iu ?_;obtain rfl:=Option.some.inj hk;exact eB
   ·have p3:=h3; (try simp only [iy] at p3);replace hk:=dw hk h3;refine jQ ?_;refine jG ?_;refine T.cond rfl (fun h4=>?_) (fun h4=>?_)
    ·have p4:=of_decide_eq_true h4;replace hk:=dt hk h4;refine T.seq ?_;have hq:=dC hk;clear hk;obtain ⟨r34,hr34,hk⟩:=hq; (try dsimp only at hk);refine fu ?_;refine de (dj rfl rfl rfl (fun w hw=>zfd _ w (hw.fr (i:=0) rfl) (hgl.mono le1_3) fuel r34 hr34)) ?_;refine eA ?_;refine iV ?_;obtain rfl:=Option.some.inj hk;exact eB
    ·have p4:=of_decide_eq_false h4;replace hk:=dw hk h4;refine fV ?_;have hq:=dC hk;clear hk;obtain ⟨r37,hr37,hk⟩:=hq; (try dsimp only at hk);refine eF ?_;refine de (dr 0 rfl rfl rfl rfl (fun w hw hF=>zfl _ w hF r15.1 v15_0_0 cs15_0_0 (SlD.mono (rep:=df) (fun _ _ _ _=>GBid.mono) hf15_0_0 le2_3) fuel r37 hr37)) ?_;rintro _ _ ⟨v37_0_0,F4,le3_4,hf37_0_0,rfl,rfl⟩;have le1_4:=le1_3.trans le3_4;haveI:=hf37_0_0.oneC;refine i9 ?_;refine fv ?_; (try dsimp only at hk);have hq:=ek hk;clear hk;obtain ⟨k6,hk6,hk⟩:=hq; (try dsimp only at hk);refine dk (ι:=Bool) (fun z=>[(2, .bool z)]) (fun z=>[.fr F4]) (fun z=>k6 z=some r) ?_ ?_
     ·refine gR ?_;refine dp rfl rfl rfl (fun h7=>?_) (fun h7=>?_)
      ·have p7:=of_decide_eq_true h7;replace hk:=dt hk h7;refine dH ?_;refine cY (ks 0 (e:=5) a8 a8 a8 rfl rfl rfl hf37_0_0) ?_;refine dH ?_;refine cY (ks 0 (e:=5) a8 a8 a8 rfl rfl rfl (SlC.mono hb le1_4)) ?_;refine cY (mJ (a:=(i0 r37.1)) (b:=(i0 b)) rfl rfl rfl) ?_;refine ep ?_;refine dp rfl rfl rfl (fun h8=>?_) (fun h8=>?_)
       ·replace hk:=dt hk h8;have hq:=dC hk;clear hk;obtain ⟨r50,hr50,hk⟩:=hq;refine de (dj rfl rfl rfl (fun w hw=>zfd _ w (hw.fr (i:=0) rfl) (hgl.mono le1_4) fuel r50 hr50)) ?_;refine jH ?_;exact dg r50 hk (.c .nil) (List.Sublist.refl _)
       ·replace hk:=dw hk h8;refine iU ?_;exact q40
      ·have p7:=of_decide_eq_false h7;replace hk:=dw hk h7;refine q3T ?_;exact q40
     ·rintro x_5 hk;rw [←hk6] at hk; (try dsimp only at hk);refine T.ret ?_;obtain rfl:=Option.some.inj hk;exact eB
def ziF (fuel:Nat)(b:List Int)(s6:List GBid×Bool×Int×Int):Option (List GBid×Int):=
 (bif decide (¬(mN (GReader.mk (Gfault.mk s6.2.2.1) true b s6.2.2.2))=0) then
 some ([],(mN (GReader.mk (Gfault.mk s6.2.2.1) true b s6.2.2.2)))
 else
 (bif !s6.2.1 then
 (bif true then some ([],6) else some (s6.1,0))
 else
 (zbr fuel s6.1).bind fun r63=>
 (bif !r63 then some ([],6) else some (s6.1,0))))
def dcF (fuel:Nat)(b:List Int)(n:Int)(next12:(List GBid×Bool×Int×Int×Int)→Option (List GBid×Int))(s12:List GBid×Bool×Int×Int×Int):Option (List GBid×Int):=
 (bif ((decide (s12.2.2.1<n))&&(decide ((zaK (GReader.mk (Gfault.mk s12.2.2.2.1) true b s12.2.2.2.2))=0))) then
 (j1 (GReader.mk (Gfault.mk s12.2.2.2.1) true b s12.2.2.2.2)).bind fun r29=>
 (j1 (GReader.mk (Gfault.mk r29.2.1) true b r29.2.2)).bind fun r31=>
 (zay (GReader.mk (Gfault.mk r31.2.1) true b r31.2.2)).bind fun r33=>
 (j1 (GReader.mk (Gfault.mk r33.2.1) true b r33.2.2)).bind fun r36=>
 (j1 (GReader.mk (Gfault.mk r36.2.1) true b r36.2.2)).bind fun r38=>
 (zcp fuel r36.1 r38.1).bind fun r42=>
 dB (dK (s12.1++[(GBid.mk r29.1 r31.1 r33.1 (GRatio.mk (GInt.mk r42.1.Num.Neg r42.1.Num.Digits) (GInt.mk r42.1.Den.Neg r42.1.Den.Digits)))]).length 88) <|
 next12 ((s12.1++[(GBid.mk r29.1 r31.1 r33.1 (GRatio.mk (GInt.mk r42.1.Num.Neg r42.1.Num.Digits) (GInt.mk r42.1.Den.Neg r42.1.Den.Digits)))]),(s12.2.1&&r42.2),wI (s12.2.2.1+1),r38.2.1,r38.2.2)
 else
 ziF fuel b (s12.1,s12.2.1,s12.2.2.2.1,s12.2.2.2.2))
theorem dc_eq (fuel:Nat)(b:List Int):zct fuel b=(zec b).bind fun r15=>bif r15.isSome then (zaz (r15.getD default) 128).bind fun r17=>
  dO (fun (s6:List GBid×Bool×Int×Int)=>
   (bif decide (¬(mN (GReader.mk (Gfault.mk s6.2.2.1) ((r15.getD default).made) ((r15.getD default).in_) s6.2.2.2))=0) then
    some ([],(mN (GReader.mk (Gfault.mk s6.2.2.1) ((r15.getD default).made) ((r15.getD default).in_) s6.2.2.2)))
    else
    dO (fun (x_18:Bool)=>
     (bif x_18 then
      some ([],6)
      else
      some (s6.1,0)))
    (fun k19=>
     (bif !s6.2.1 then
      k19 true
      else
      (zbr fuel s6.1).bind fun r63=>
      k19 (!r63)))))
  (fun k6=>
   eV (fun (next12:(List GBid×Bool×Int×Int×Int)→Option (List GBid×Int)) (s12:List GBid×Bool×Int×Int×Int)=>
    (bif ((decide (s12.2.2.1<r17.1))&&(decide ((zaK (GReader.mk (Gfault.mk s12.2.2.2.1) ((r15.getD default).made) ((r15.getD default).in_) s12.2.2.2.2))=0))) then
     (j1 (GReader.mk (Gfault.mk s12.2.2.2.1) ((r15.getD default).made) ((r15.getD default).in_) s12.2.2.2.2)).bind fun r29=>
     (j1 (GReader.mk (Gfault.mk r29.2.1) ((r15.getD default).made) ((r15.getD default).in_) r29.2.2)).bind fun r31=>
     (zay (GReader.mk (Gfault.mk r31.2.1) ((r15.getD default).made) ((r15.getD default).in_) r31.2.2)).bind fun r33=>
     (j1 (GReader.mk (Gfault.mk r33.2.1) ((r15.getD default).made) ((r15.getD default).in_) r33.2.2)).bind fun r36=>
     (j1 (GReader.mk (Gfault.mk r36.2.1) ((r15.getD default).made) ((r15.getD default).in_) r36.2.2)).bind fun r38=>
     (zcp fuel r36.1 r38.1).bind fun r42=>
     dB (dK (s12.1++[(GBid.mk r29.1 r31.1 r33.1 (GRatio.mk (GInt.mk r42.1.Num.Neg r42.1.Num.Digits) (GInt.mk r42.1.Den.Neg r42.1.Den.Digits)))]).length 88) <|
     next12 ((s12.1++[(GBid.mk r29.1 r31.1 r33.1 (GRatio.mk (GInt.mk r42.1.Num.Neg r42.1.Num.Digits) (GInt.mk r42.1.Den.Neg r42.1.Den.Digits)))]),(s12.2.1&&r42.2),wI (s12.2.2.1+1),r38.2.1,r38.2.2)
     else
     k6 (s12.1,s12.2.1,s12.2.2.2.1,s12.2.2.2.2))) fuel ([],true,0,r17.2.1,r17.2.2)) else none:=rfl
theorem zkT {fuel:Nat}{b:List Int}(hl:b.length≤100000):zct fuel b=(zaz ⟨⟨0⟩,true,b,0⟩ 128).bind fun r17=>eV (dcF fuel b r17.1) fuel ([],true,0,r17.2.1,r17.2.2):=by
 have hr:zec b=some (some ⟨⟨0⟩,true,b,0⟩):=by
  unfold zec;rw [List.nil_append,eN (by show _*_≤_;omega)]
 rw [dc_eq,hr]
 rfl
def zjx (fuel:Nat)(b:List Int)(s5:Int×Int×Bool×List GBid):Option (List GBid×Int):=
 (bif decide (¬s5.2.1=0) then
 some ([],s5.2.1)
 else
 (bif decide (s5.1<(b.length:Int)) then
 some ([],5)
 else
 (bif !s5.2.2.1 then
 (bif true then some ([],6) else some (s5.2.2.2,0))
 else
 (zc8 fuel s5.2.2.2).bind fun r97=>
 (bif !r97 then some ([],6) else some (s5.2.2.2,0)))))
def rdK (fuel:Nat)(next11:(Int×Int×Bool×List GBid×Int)→Option (List GBid×Int))(s11:Int×Int×Bool×List GBid×Int)(v1 v2 v3 v4:Int)(s33:Int×Int×Int):Option (List GBid×Int):=
 (zc7 fuel v4 s33.2.2).bind fun r76=>
 dO (fun (s40:Bool×Bool×List Int×Bool×List Int)=>
 dB (dK (s11.2.2.2.1++[(GBid.mk v1 v2 v3 (GRatio.mk (GInt.mk s40.2.1 s40.2.2.1) (GInt.mk s40.2.2.2.1 s40.2.2.2.2)))]).length 88) <|
 next11 (s33.1,s33.2.1,s40.1,(s11.2.2.2.1++[(GBid.mk v1 v2 v3 (GRatio.mk (GInt.mk s40.2.1 s40.2.2.1) (GInt.mk s40.2.2.2.1 s40.2.2.2.2)))]),wI (s11.2.2.2.2+1)))
 (fun k40=>
 (bif !r76 then
 k40 (false,false,[],false,[])
 else
 (zd4 fuel v4 s33.2.2).bind fun r80=>
 k40 (s11.2.2.1,r80.Num.Neg,r80.Num.Digits,r80.Den.Neg,r80.Den.Digits)))
def rdF (fuel:Nat)(b:List Int)(n:Int)(next11:(Int×Int×Bool×List GBid×Int)→Option (List GBid×Int))(s11:Int×Int×Bool×List GBid×Int):Option (List GBid×Int):=
 (bif ((decide (s11.2.2.2.2<n))&&(decide (s11.2.1=0))) then
 (kT b s11.1).bind fun r31=>
 dO (fun (s18:Int×Int×Int)=>
 dO (fun (s23:Int×Int×Int)=>
 dO (fun (s28:Int×Int×Int)=>
 dO (fun (s33:Int×Int×Int)=>
 rdK fuel next11 s11 r31.1 s18.2.2 s23.2.2 s28.2.2 s33)
 (fun k33=>
 (bif decide (s28.2.1=0) then
 (kT b s28.1).bind fun r70=>
 k33 (r70.2.1,r70.2.2,r70.1)
 else
 k33 (s28.1,s28.2.1,0))))
 (fun k28=>
 (bif decide (s23.2.1=0) then
 (kT b s23.1).bind fun r61=>
 k28 (r61.2.1,r61.2.2,r61.1)
 else
 k28 (s23.1,s23.2.1,0))))
 (fun k23=>
 (bif decide (s18.2.1=0) then
 (zci b s18.1).bind fun r51=>
 k23 (r51.2.1,r51.2.2,r51.1)
 else
 k23 (s18.1,s18.2.1,0))))
 (fun k18=>
 (bif decide (r31.2.2=0) then
 (kT b r31.2.1).bind fun r41=>
 k18 (r41.2.1,r41.2.2,r41.1)
 else
 k18 (r31.2.1,r31.2.2,0)))
 else
 zjx fuel b (s11.1,s11.2.1,s11.2.2.1,s11.2.2.2.1))
theorem zkX (fuel:Nat)(b:List Int):zdw fuel b=(zdg b 0 128).bind fun r15=>eV (rdF fuel b r15.1) fuel (r15.2.1,r15.2.2,true,[],0):=rfl
theorem zkB {b:List Int}{e a:Int}:mN ⟨⟨e⟩,true,b,a⟩=if e=0∧a<(b.length:Int) then 5 else e:=by
 unfold mN
 show (bif (decide (e=0)&&decide (a<(b.length:Int))) then (5:Int) else e)=_
 by_cases h:e=0∧a<(b.length:Int)
 ·rw [decide_eq_true h.1,decide_eq_true h.2,if_pos h];rfl
 ·rw [if_neg h];by_cases h1:e=0
  ·rw [decide_eq_false (show ¬a<(b.length:Int) from fun h2=>h ⟨h1,h2⟩),Bool.and_false];rfl
  ·rw [decide_eq_false h1];rfl
theorem zkK {b:List Int}{e a:Int}:zaK ⟨⟨e⟩,true,b,a⟩=e:=rfl
structure DI (l out:List GBid) (low good:Bool) (i:Nat):Prop where
 ll:l.length=i
 lo:out.length=i
 bl:∀k,k<l.length→BytB (nth l k)
 bo:∀k,k<out.length→BytB (nth out k)
 yes:good=true→low=true∧l=out
 no:good=false→low=false∨∃k,k<l.length∧¬PT (nth l k).Point
def DOut (b:List Int)(x y:Option (List GBid×Int)):Prop:=∃r,x=some r∧y=some r∧(r.2≠0→r.1=[])∧(r.2=0→LstP r.1∧(∀k,k<r.1.length→BytB (nth r.1 k))∧b=zjW r.1)
theorem zjS {fuel:Nat}{b:List Int}{l out:List GBid}{low good:Bool}{e a:Int}(he:e≠0):ziF fuel b (l,low,e,a)=some ([],e)∧zjx fuel b (a,e,good,out)=some ([],e):=by
 unfold ziF zjx;dsimp only;rw [zkB,if_neg (fun h=>he h.1),decide_eq_true he];exact ⟨rfl,rfl⟩
theorem zls {fuel:Nat}(hf:2000≤fuel){b:List Int}{l out:List GBid}{low good:Bool}{a:Int}{i:Nat}(hI:DI l out low good i)(ha:a≤(b.length:Int))(henc:good=true→∃pre rest,b=pre++rest∧pre.length=a.toNat∧0≤a∧pre=zjW out):DOut b (ziF fuel b (l,low,0,a)) (zjx fuel b (a,0,good,out)):=by
 unfold ziF zjx;dsimp only;rw [zkB];by_cases hlt:a<(b.length:Int)
 ·rw [if_pos ⟨rfl,hlt⟩,decide_eq_true a7,decide_eq_false b3,decide_eq_true hlt];exact ⟨([],5),rfl,rfl,fun _=>rfl,fun h=>(by cases h)⟩
 ·rw [if_neg (fun h=>hlt h.2),decide_eq_false b3,decide_eq_false hlt];simp only [cond_false];obtain ⟨bl,l1,l2⟩:=zgx (fuel:=fuel) hf hI.bl;obtain ⟨bo,o1,o2⟩:=zju (fuel:=fuel) hf hI.bo
  cases good with
  |true=>
   obtain ⟨rfl,rfl⟩:=hI.yes rfl;simp only [Bool.not_true,cond_false];rw [l1,o1]; (have e:bl=bo:=by rw [Bool.eq_iff_iff,l2,o2]);subst e;refine fh ?_
   cases bl with
   |false=>exact ⟨([],6),rfl,rfl,fun _=>rfl,fun h=>(by cases h)⟩
   |true=>
    obtain ⟨pre,rest,p1,p2,p3,p4⟩:=henc rfl;refine ⟨(l,0),rfl,rfl,fun h=>absurd rfl h,fun _=>⟨l2.1 rfl,hI.bl,?_⟩⟩
    have:rest=[]:=by
     have:=congrArg List.length p1;rw [List.length_append] at this;exact List.eq_nil_of_length_eq_zero a6
    rw [p1,this,List.append_nil,p4]
  |false=>
   have h6:ziF fuel b (l,low,0,a)=ziF fuel b (l,low,0,a):=rfl;simp only [Bool.not_false,cond_true];rcases hI.no rfl with h|⟨k,k1,k2⟩
   ·rw [h];exact ⟨([],6),rfl,rfl,fun _=>rfl,fun h=>(by cases h)⟩
   ·have:bl=false:=by
     cases hb:bl with
     |false=>rfl
     |true=>exact absurd ((l2.1 hb).each k k1).pt k2
    rw [l1,this];refine fh ?_
    cases low <;> exact ⟨([],6),rfl,rfl,fun _=>rfl,fun h=>(by cases h)⟩
theorem zld {α:Type}[Inhabited α]{l m:List α}{k:Nat}(h:k<l.length):nth (l++m) k=nth l k:=by
 unfold nth;rw [List.getD_eq_getElem?_getD,List.getD_eq_getElem?_getD,List.getElem?_append_left h]
theorem zlB {α:Type}[Inhabited α]{l:List α}{x:α}:nth (l++[x]) l.length=x:=by
 unfold nth;rw [List.getD_eq_getElem?_getD,List.getElem?_append_right (Nat.le_refl _),Nat.sub_self];rfl
theorem zih {α:Type}[Inhabited α]{l:List α}{x:α}{P:α→Prop}(hl:∀k,k<l.length→P (nth l k))(hx:P x):∀k,k<(l++[x]).length→P (nth (l++[x]) k):=fun k hk=>by
 rw [List.length_append,List.length_singleton] at hk;rcases Nat.lt_or_ge k l.length with h|h
 ·rw [zld h];exact hl k h
 ·rw [show k=l.length by omega,zlB];exact hx
theorem uJ {ρ:Type}{b:List Int}{a1 e1 v e' a':Int}(h1:e1=0→kT b a1=some (v,a',e'))(h2:e1≠0→v=0∧e'=e1∧a'=a1)(K:Int×Int×Int→Option ρ):dO K (fun k=>bif decide (e1=0) then (kT b a1).bind fun r=>k (r.2.1,r.2.2,r.1) else k (a1,e1,0))=K (a',e',v):=by
 simp only [dO];by_cases h:e1=0
 ·rw [decide_eq_true h,cond_true,h1 h];rfl
 ·obtain ⟨rfl,rfl,rfl⟩:=h2 h;rw [decide_eq_false h,cond_false]
theorem sJ {ρ:Type}{b:List Int}{a1 e1 v e' a':Int}(h1:e1=0→zci b a1=some (v,a',e'))(h2:e1≠0→v=0∧e'=e1∧a'=a1)(K:Int×Int×Int→Option ρ):dO K (fun k=>bif decide (e1=0) then (zci b a1).bind fun r=>k (r.2.1,r.2.2,r.1) else k (a1,e1,0))=K (a',e',v):=by
 simp only [dO];by_cases h:e1=0
 ·rw [decide_eq_true h,cond_true,h1 h];rfl
 ·obtain ⟨rfl,rfl,rfl⟩:=h2 h;rw [decide_eq_false h,cond_false]
theorem zjI {fuel F:Nat}{b:List Int}{n e a:Int}{l:List GBid}{low:Bool}{i:Int}(he:e≠0):eV (dcF fuel b n) (F+1) (l,low,i,e,a)=some ([],e):=by
 rw [mz];unfold dcF;dsimp only;rw [zkK,decide_eq_false he,Bool.and_false,cond_false];exact (zjS (out:=l) (good:=low) he).1
theorem zjv {fuel F:Nat}{b:List Int}{n e a:Int}{out:List GBid}{good:Bool}{i:Int}(he:e≠0):eV (rdF fuel b n) (F+1) (a,e,good,out,i)=some ([],e):=by
 rw [mz];unfold rdF;dsimp only;rw [decide_eq_false he,Bool.and_false,cond_false];exact (zjS (l:=out) (low:=good) he).2
theorem zjY {fuel:Nat}{b:List Int}{n:Int}(hf:2000≤fuel)(hb:Byt b)(hl:b.length≤100000)(hn:0≤n∧n≤128):∀(m i F G:Nat) (l out:List GBid) (low good:Bool) (a:Int),(i:Int)+m=n→m+2≤F→m+2≤G→DI l out low good i→0≤a∧a≤(b.length:Int)→(good=true→∃rest,b=(eG n.toNat++out.flatMap jk)++rest∧(eG n.toNat++out.flatMap jk).length=a.toNat)→DOut b (eV (dcF fuel b n) F (l,low,(i:Int),0,a)) (eV (rdF fuel b n) G (a,0,good,out,(i:Int))):=by
 intro m
 induction m with
 |zero=>
  intro i F G l out low good a hi hF hG hI ha henc;obtain ⟨F',rfl⟩:∃q,F=q+1:=⟨F - 1,by omega⟩;obtain ⟨G',rfl⟩:∃q,G=q+1:=⟨G - 1,by omega⟩;rw [mz,mz];unfold dcF rdF;dsimp only;rw [decide_eq_false (show ¬(i:Int)<n by omega),Bool.false_and,Bool.false_and,cond_false,cond_false];refine zls hf hI ha.2 (fun hg=>?_);obtain ⟨rest,h1,h2⟩:=henc hg;refine ⟨_,rest,h1,h2,ha.1,?_⟩;unfold zjW;rw [hI.lo,show n.toNat=i by omega]
 |succ m ih=>
  intro i F G l out low good a hi hF hG hI ha henc;obtain ⟨F',rfl⟩:∃q,F=q+1:=⟨F - 1,by omega⟩;obtain ⟨G',rfl⟩:∃q,G=q+1:=⟨G - 1,by omega⟩;rw [mz,mz];obtain ⟨v1,e1,a1,p1,q1,z1,b1,c1,d1⟩:=uR (e:=0) hb ha hl;obtain ⟨v2,e2,a2,p2,q2,z2,b2,c2,d2⟩:=uR (e:=e1) hb c1 hl;obtain ⟨v3,e3,a3,p3,q3,z3,c3,d3⟩:=sR (e:=e2) hb c2 hl;obtain ⟨v4,e4,a4,p4,q4,z4,b4,c4,d4⟩:=uR (e:=e3) hb c3 hl;obtain ⟨v5,e5,a5,p5,q5,z5,b5,c5,d5⟩:=uR (e:=e4) hb c4 hl;obtain ⟨p,ok,f1,f2,f3,f4,f5⟩:=zkx (fuel:=fuel) hf b4 b5;obtain ⟨lb,l1,l2⟩:=zjX (fuel:=fuel) hf b4.1 b5.1;have hll:=hI.ll;have hlo:=hI.lo;generalize hND:eV (dcF fuel b n) F'=ND at *;generalize hNR:eV (rdF fuel b n) G'=NR at*
  have hD:dcF fuel b n ND (l,low,(i:Int),0,a)=ND (l++[⟨v1,v2,v3,p⟩],(low&&ok),((i+1:Nat):Int),e5,a5):=by
   unfold dcF;dsimp only;rw [zkK,decide_eq_true (show (i:Int)<n by omega),decide_eq_true (show (0:Int)=0 from rfl),Bool.and_self,cond_true,p1];refine fh ?_;rw [p2];refine fh ?_;rw [p3];refine fh ?_;rw [p4];refine fh ?_;rw [p5];refine fh ?_;rw [f1];refine fh ?_;rw [eN (by show _*_≤_;rw [List.length_append,List.length_singleton];omega),gk a6]
   rfl
  have hR:∃q good',rdF fuel b n NR (a,0,good,out,(i:Int))=NR (a5,e5,good',out++[⟨v1,v2,v3,q⟩],((i+1:Nat):Int))∧Dig 256 q.Num.Digits∧Dig 256 q.Den.Digits∧(lb=true→good'=good∧q=p∧ok=true)∧(lb=false→good'=false):=by
   have hopen:rdF fuel b n NR (a,0,good,out,(i:Int))=rdK fuel NR (a,0,good,out,(i:Int)) v1 v2 v3 v4 (a5,e5,v5):=by
    unfold rdF;dsimp only;rw [decide_eq_true (show (i:Int)<n by omega),decide_eq_true (show (0:Int)=0 from rfl),Bool.and_self,cond_true,q1 rfl];refine fh ?_;rw [uJ q2 z2];dsimp only;rw [sJ q3 z3];dsimp only;rw [uJ q4 z4];dsimp only;rw [uJ q5 z5]
   rw [hopen];unfold rdK;dsimp only;rw [l1];refine q3L ?_
   cases lb with
   |false=>
    simp only [Bool.not_false,cond_true];rw [eN (by show _*_≤_;rw [List.length_append,List.length_singleton];omega),gk a6];exact ⟨_,false,rfl,Dig.nil,Dig.nil,fun h=>(by cases h),fun _=>rfl⟩
   |true=>
    obtain ⟨m1,m2,m3,m4⟩:=l2.1 rfl;obtain ⟨q,r1,r2⟩:=zkl (fuel:=fuel) hf b4 (d:=v5) a6;rw [m4,Nat.div_one,Nat.div_one] at r2;have hok:=f4.2 ⟨m1,m4⟩;have hqp:=r2.uniq (f5 hok);simp only [Bool.not_true,cond_false];rw [r1];refine fh ?_;rw [eN (by show _*_≤_;rw [List.length_append,List.length_singleton];omega),gk a6];exact ⟨q,good,rfl,r2.num.dig,r2.den.dig,fun _=>⟨rfl,hqp,hok⟩,fun h=>(by cases h)⟩
  obtain ⟨q,good',hR1,hR2,hR3,hR4,hR5⟩:=hR;rw [hD,hR1];by_cases h5:e5=0
  ·subst h5;obtain ⟨x4,y5,w5,u5⟩:=d5 rfl;obtain ⟨x3,y4,w4,u4⟩:=d4 x4;obtain ⟨x2,y3,w3,u3⟩:=d3 x3;obtain ⟨x1,y2,w2,u2⟩:=d2 x2;obtain ⟨-,y1,w1,u1⟩:=d1 x1;obtain ⟨s1,t1⟩:=seq_ ha.1 w1 u1 w2 u2;obtain ⟨s2,t2⟩:=seq_ ha.1 s1 t1 w3 u3;obtain ⟨s3,t3⟩:=seq_ ha.1 s2 t2 w4 u4;obtain ⟨s4,t4⟩:=seq_ ha.1 s3 t3 w5 u5;rw [←hND,←hNR];refine ih (i+1) F' G' _ _ _ _ a5 a6 a6 a6 ?_ c5 (fun hg=>?_)
   ·refine ⟨by rw [List.length_append,hll];rfl,by rw [List.length_append,hlo];rfl,zih hI.bl ⟨f2,f3⟩,zih hI.bo ⟨hR2,hR3⟩,fun hg=>?_,fun hg=>?_⟩
    ·cases hlb:lb with
     |false=>rw [hR5 hlb] at hg;cases hg
     |true=>
      obtain ⟨g1,g2,g3⟩:=hR4 hlb;rw [g1] at hg;obtain ⟨k1,k2⟩:=hI.yes hg;rw [k1,k2,g2,g3];exact ⟨rfl,rfl⟩
    ·cases hlb:lb with
     |true=>
      obtain ⟨g1,g2,g3⟩:=hR4 hlb;rw [g1] at hg;rcases hI.no hg with h|⟨k,k1,k2⟩
      ·exact .inl (by rw [h];rfl)
      ·exact .inr ⟨k,by rw [List.length_append];omega,by rw [zld k1];exact k2⟩
     |false=>
      cases hok:ok with
      |false=>exact .inl (Bool.and_false _)
      |true=>
       refine .inr ⟨l.length,by rw [List.length_append];simp,?_⟩;rw [zlB];intro hpt;have hr:=f5 hok;have hd:=hpt.den;have hm:=hpt.num;have ho:=f4.1 hok;dsimp only at hd hm;rw [hr.absd] at hd hm;rw [hr.absn] at hm;have:=l2.2 ⟨ho.1,by omega,by omega,ho.2⟩;rw [hlb] at this;cases this
   ·cases hlb:lb with
    |false=>rw [hR5 hlb] at hg;cases hg
    |true=>
     obtain ⟨g1,g2,g3⟩:=hR4 hlb;rw [g1] at hg;obtain ⟨rest,h1,h2⟩:=henc hg;have hr:=f5 g3
     have hx:jk ⟨v1,v2,v3,q⟩=iN v1++iN v2++eG (jJ v3)++iN v4++iN v5:=by
      unfold jk iN;dsimp only;rw [g2,hr.absn,hr.absd]
     have hdr:b.drop a.toNat=rest:=by
      rw [←h2,h1,List.drop_left]
     rw [hdr] at s4;refine ⟨y5,?_,?_⟩
     ·rw [List.flatMap_append,List.flatMap_cons,List.flatMap_nil,List.append_nil,hx,←List.append_assoc (eG n.toNat),List.append_assoc _ _ y5,←s4];exact h1
     ·rw [List.flatMap_append,List.flatMap_cons,List.flatMap_nil,List.append_nil,hx,←List.append_assoc (eG n.toNat),List.length_append,h2];rw [t4];omega
  ·obtain ⟨F2,rfl⟩:∃q,F'=q+1:=⟨F' - 1,by omega⟩;obtain ⟨G2,rfl⟩:∃q,G'=q+1:=⟨G' - 1,by omega⟩;rw [←hND,←hNR,zjI h5,zjv h5];exact ⟨([],e5),rfl,rfl,fun _=>rfl,fun h=>absurd h h5⟩
theorem zix {fuel:Nat}{b:List Int}(hf:2000≤fuel)(hb:Byt b)(hl:b.length≤100000):DOut b (zct fuel b) (zdw fuel b):=by
 obtain ⟨v,e,a,h1,h2,h3,h4,h5⟩:=cR (a:=0) (lim:=128) a6 a6 hb a6 hl;rw [zkT hl,zkX,h1,h2];refine fh ?_;by_cases he:e=0
 ·subst he;obtain ⟨rest,h6,h7⟩:=h5 rfl; (have h6':b=iN v++rest:=by simpa using h6);refine zjY hf hb hl h3 v.toNat 0 fuel fuel [] [] true true a a6 a6 a6 ⟨rfl,rfl,fun k hk=>absurd hk (Nat.not_lt_zero k),fun k hk=>absurd hk (Nat.not_lt_zero k),fun _=>⟨rfl,rfl⟩,fun h=>(by cases h)⟩ h4 (fun _=>⟨rest,?_,?_⟩)
  ·simp only [List.flatMap_nil,List.append_nil];exact h6'
  ·simp only [List.flatMap_nil,List.append_nil]
   show (iN v).length=_
   omega
 ·obtain ⟨F2,rfl⟩:∃q,fuel=q+1:=⟨fuel - 1,by omega⟩;rw [zjI he,zjv he];exact ⟨([],e),rfl,rfl,fun _=>rfl,fun h=>absurd h he⟩
theorem zi8 (p:GRatio):zdd p p=true:=by
 unfold zdd zel ml;simp
theorem zhC (l:List GBid):zcd l l=true:=by
 unfold zcd;rw [decide_eq_false b3,cond_false];simp only [dO];refine mf (n:=l.length) (fun _ (_:Unit)=>True) (fun x=>x=true) trivial (fun _ _=>rfl) (fun i s next hi _ hnx=>?_);simp only [zi8,not_true_eq_false,decide_false,Bool.or_self,Bool.not_true,cond_false];exact hnx () trivial
theorem zhY {F:Nat}(hF:100000≤F)(b:List Int)(hb:∀x∈b,0≤x∧x≤255):zcA F b=some true:=by
 unfold zcA;rw [zjJ a6];by_cases hl:1500<b.length
 ·rw [decide_eq_true a6];rfl
 ·rw [decide_eq_false a6,cond_false];obtain ⟨⟨l,e⟩,h1,h2,h3,h4⟩:=zix (fuel:=F) a6 hb a6;rw [h1,h2];refine q3L ?_;rw [zhC];by_cases he:e=0
  ·subst he;obtain ⟨k1,k2,k3⟩:=h4 rfl;rw [zjg a6 k2 k1,←k3];refine fh ?_;rw [beq_self_eq_true]
   rfl
  ·rw [decide_eq_false (show ¬ ¬True by simp),decide_eq_true he]
   rfl
end Go.Proofs.YtmnjbhkcfghebaaGreatDoor
namespace Go.Proofs.YtmnjbhkcfghebaaGreatDoor
open Go.RowKit Go.ChangeShapes Go.WideShapes Go.Deep
def Opens {H:Type}(enc:TypeId×Value→H)(w:World)(base:Nat)(spare:Nat→Bool)(held:Bool)(t:TypeId){α:Type}(R:List Value→α→Prop):Prop:=
 ∀fuel cs y,DataW.trod enc Tryz.prog w base spare held fuel t cs=some y→∃x,R cs x
section
variable {H:Type}{enc:TypeId×Value→H}{w:World}{base:Nat}{spare:Nat→Bool}{held:Bool}
theorem Opens.int {t:TypeId}(ht:Tryz.prog.underlying t=some (.int .i64)):Opens enc w base spare held t (fun cs (x:Int)=>cs=[.int .i64 x]):=fun fuel cs y h=>by
 obtain ⟨k,hk,_⟩:=DataW.trod_int ht h;exact ⟨k,hk⟩
theorem zk0 {a:Addr}{v:Value}(h:w.cell? a=some v):Cb w a.block:=by
 unfold World.cell? at h
 split at h
 all_goals (first|exact ⟨_,_,_,by assumption⟩|simp at h|skip)
theorem Opens.any {t e:TypeId}{k:Nat}{α:Type}[Inhabited α]{R:List Value→α→Prop}(ht:Tryz.prog.underlying t=some (.slice e))(hk:Tryz.prog.cellsOf e=k)(hpos:0<k)(ho:Opens enc w base spare held e R):
  Opens enc w base spare held t (fun cs (l:List α)=>∃v c,cs=[v]∧SlC (Frz.all w) v k c∧c.length=l.length∧∀i,i<l.length→R (nth c i) (nth l i)):=fun fuel cs y h=>by
 rcases open_slice ht h with ⟨h0,_⟩|⟨a,len,cap,m,n,D,Pl,hcs,hb,hl,hm,hmm,_,hx⟩
 ·exact ⟨[],_,[],h0,SlC.nil _ _,rfl,fun i hi=>absurd hi (Nat.not_lt_zero i)⟩
 ·subst hcs; (have hlm:len≤m:=by rw [hmm];split <;> omega)
  have each:∀i,i<m→∃x:List Value×α,x.1.length=k∧R x.1 x.2∧∀j,j<k→w.cell? (a.add (i*k+j))=x.1[j]?:=fun i hi=>by
   obtain ⟨cs',h1,h2⟩:=hx i hi;rw [hk] at h1;obtain ⟨_,hlen,hcell⟩:=World.cells?_some h1;obtain ⟨x,hR⟩:=ho _ _ _ h2;exact ⟨(cs',x),hlen,hR,fun j hj=>by rw [←hcell j hj,add_add]⟩
  obtain ⟨X,hX⟩:=choose_lt each
  have hn:∀i,i<len→nth ((List.range len).map fun i=>(X i).1) i=(X i).1:=fun i hi=>by
   rw [fT (by simpa using hi)];simp
  have hn2:∀i,i<len→nth ((List.range len).map fun i=>(X i).2) i=(X i).2:=fun i hi=>by
   rw [fT (by simpa using hi)];simp
  refine ⟨(List.range len).map fun i=>(X i).2,_,(List.range len).map fun i=>(X i).1,rfl,⟨some a,cap,by simp,by simpa using hl,by unfold maxLen at hm;omega,fun c hc=>?_,fun hp=>?_⟩,by simp,fun i hi=>?_⟩
  ·simp at hc;obtain ⟨i,hi,rfl⟩:=hc;exact (hX i a6).1
  ·(have hp':0<len:=by simpa using hp);have c0:=(hX 0 a6).2.2 0 hpos;have hx0:=(hX 0 a6).1;rw [List.getElem?_eq_getElem a6] at c0;have hcb:=zk0 c0;have hs:=World.cell?_spot c0;simp [Addr.add] at hs hcb;obtain ⟨b,off,sp⟩:=a;simp at hs hcb;subst hs;refine ⟨b,off,rfl,hcb,fun i hi j hj=>?_⟩;simp at hi;rw [hn i hi] at hj ⊢;have hxi:=hX i a6;have:=hxi.2.2 j a6;refine Eq.trans ?_ this
   show w.cell? _=_
   rw [kZ,Nat.add_assoc]
  ·simp at hi;rw [hn i hi,hn2 i hi];exact (hX i a6).2.1
theorem Opens.bytes {t e:TypeId}(ht:Tryz.prog.underlying t=some (.slice e))(he:Tryz.prog.underlying e=some (.int .u8))(hk:Tryz.prog.cellsOf e=1):
  Opens enc w base spare held t (fun cs (l:List Int)=>∃v,cs=[v]∧SlC (Frz.all w) v 1 (l.map (eK .u8))∧∀x∈l,0≤x∧x≤255):=fun fuel cs y h=>by
 have ho:Opens enc w base spare held e (fun cs (x:Int)=>cs=eK .u8 x∧(0≤x∧x≤255)):=fun fuel cs y h=>by
  obtain ⟨k,h1,_,h2⟩:=DataW.trod_int he h;refine ⟨k,h1,?_⟩; (have e1:IntKind.u8.min=0:=by decide); (have e2:IntKind.u8.max=255:=by decide);simp only [Lit.wf,e1,e2,Bool.and_eq_true,decide_eq_true_eq] at h2;exact h2
 obtain ⟨l,v,c,h1,h2,h3,h4⟩:=Opens.any ht hk a7 ho _ _ _ h;refine ⟨l,v,h1,?_,fun x hx=>?_⟩
 ·have:c=l.map (eK .u8):=by
   apply List.ext_getElem (by simpa using h3);intro i hi hi2;rw [←fT hi,(h4 i a6).1,List.getElem_map,fT a6]
  rw [←this];exact h2
 ·obtain ⟨i,hi,e⟩:=List.mem_iff_getElem.1 hx;have:=(h4 i hi).2;rw [fT hi,e] at this;exact this
end
end Go.Proofs.YtmnjbhkcfghebaaGreatDoor
namespace Go.Proofs.YtmnjbhkcfghebaaGreatDoor
open Go.ChangeShapes Go.WideShapes Go.ChangeAt Go.RowKit Go.Joins Go.Deep
abbrev lt36 : List (String × DataW Unit) := [("bandplan/blake.order", Rows.laid_bandplan_blake_order), ("bandplan/blake.initial", Rows.laid_bandplan_blake_initial)]
theorem g36a : Tryz.prog.globalNamed "bandplan/blake.order" = some 2 := by kernel_rfl
theorem g36b : Tryz.prog.globalNamed "bandplan/blake.initial" = some 1 := by kernel_rfl
theorem t36a:(Tryz.prog.globals[2]?).map (·.type)=some 301:=by kernel_rfl
theorem t36b:(Tryz.prog.globals[1]?).map (·.type)=some 292:=by kernel_rfl
theorem zll (os:Os)(args:Array Value):laidMetH Tryz.prog lt36 ((World.doorLaid Tryz.prog 400 os).forCall (fun _ _=>0) ⟨#[],args,[]⟩).memory:=
 laidMetH_of_parts3 (fuel:=8) (laidMet_of_run' 8 a8 a8) a8 a8
section
variable {P:Program}{H:Type}{enc:TypeId×Value→H}{w:World}{base:Nat}{spare:Nat→Bool}{held:Bool}
theorem ziO {t e n:Nat}{k:IntKind}{fuel:Nat}{cs:List Value}{zs:List Int}{pl:List MemPlace}(ht:P.underlying t=some (.array n e))(he:P.underlying e=some (.int k))(hc:P.cellsOf e=1)(hct:P.cellsOf t=n)(h:DataW.trod enc P w base spare held fuel t cs=some (.agg (zs.map fun z=> .lit (.int k z)),pl)):cs=zs.map (Value.int k):=by
 obtain ⟨xs,m,rfl,hx,hl,hn,hel⟩:=DataW.trod_array ht h;simp only [Prod.mk.injEq,DataW.agg.injEq] at hx; (have hzl:zs.length=n:=by have:=congrArg List.length hx.1;simp at this;omega);refine List.ext_getElem (by rw [hl,List.length_map,hct,hzl]) fun j h1 h2=>?_; (have hj:j<n:=by rw [List.length_map] at h2;omega);have h0:=hel j hj;rw [List.getElem?_eq_getElem a6] at h0;obtain ⟨q,e1,e2,_⟩:=DataW.trod_int he h0;have h3:=congrArg (fun l=>l[j]?) hx.1;simp only [List.getElem?_map] at h3;rw [List.getElem?_eq_getElem (show j<xs.length by omega),List.getElem?_eq_getElem (show j<zs.length by omega)] at h3;simp only [Option.map_some,Option.some.injEq] at h3;rw [e2] at h3;simp only [DataW.lit.injEq,Lit.int.injEq,true_and] at h3;subst h3;rw [hc,Nat.mul_one] at e1;have h4:=congrArg (fun l=>l[0]?) e1;simp only [List.getElem?_take,List.getElem?_drop] at h4;simp at h4;rw [List.getElem?_eq_getElem h1] at h4;simp only [Option.some.injEq] at h4;rw [h4];simp
end
theorem zli:(Rows.laid_bandplan_blake_initial:DataW Unit)= .agg (fA.1.map fun z=> .lit (.int .u32 z)):=rfl
theorem zle:(Rows.laid_bandplan_blake_order:DataW Unit)= .agg (blOrder.map fun x=> .agg (x.1.map fun z=> .lit (.int .u8 z))):=rfl
theorem zh0 {W:World}{n:String}{g:Nat}{cs:Array Value}(hg:Tryz.prog.globalNamed n=some g)(hv:W.var? Tryz.prog n=some cs):Cb W g:=by
 simp only [World.var?,hg,Option.bind_some] at hv
 split at hv
 ·exact ⟨_,_,_,by assumption⟩
 ·simp at hv
theorem gl_of {W:World}(h:laidMetH Tryz.prog lt36 W):GlF (Frz.all W):=by
 rw [MakeChecks.laidMetH_plain _ _ _ a8] at h;obtain ⟨ps,⟨g0,t0,cs0,f0,p0,q0,hg0,ht0,hv0,hd0,⟨g1,t1,cs1,f1,p1,q1,hg1,ht1,hv1,hd1,_,_⟩,_⟩,_,_⟩:=h;obtain rfl:=Option.some.inj (g36a.symm.trans hg0);obtain rfl:=Option.some.inj (t36a.symm.trans ht0);obtain rfl:=Option.some.inj (g36b.symm.trans hg1);obtain rfl:=Option.some.inj (t36b.symm.trans ht1); (have e5:Tryz.prog.cellsOf 5=1:=by kernel_rfl); (have e175:Tryz.prog.cellsOf 175=1:=by kernel_rfl); (have e292:Tryz.prog.cellsOf 292=8:=by kernel_rfl); (have e300:Tryz.prog.cellsOf 300=16:=by kernel_rfl);constructor
 ·rw [zli] at hd1;have hc:=ziO Tryz.underlying292 Tryz.underlying175 e175 e292 hd1;refine ⟨some ⟨1,0,none⟩,1,rfl,Nat.le_refl _,by decide,fun c hc=>?_,fun _=>⟨1,0,rfl,zh0 g36b hv1,fun i hi q hq=>?_⟩⟩
  ·simp at hc;subst hc;rfl
  ·(have hi:i=0:=by simpa using hi);subst hi
   show W.cell? _=_
   rw [Nat.zero_mul,Nat.zero_add,World.var?_cell hg1 hv1 q,←Array.getElem?_toList,hc];rfl
 ·rw [zle] at hd0;obtain ⟨xs,m,rfl,hx,hl,hn,hel⟩:=DataW.trod_array Tryz.underlying301 hd0;simp only [Prod.mk.injEq,DataW.agg.injEq] at hx;refine ⟨some ⟨2,0,none⟩,10,rfl,by decide,by decide,fun c hc=>?_,fun _=>⟨2,0,rfl,zh0 g36a hv0,fun i hi q hq=>?_⟩⟩
  ·obtain ⟨x,_,rfl⟩:=List.mem_map.1 hc;rw [List.length_map,x.2]
  ·(have hi:i<10:=by rw [List.length_map] at hi;exact hi);have hb:i<blOrder.length:=hi;have h0:=hel i hi;rw [List.getElem?_eq_getElem a6] at h0;have h3:=congrArg (fun l=>l[i]?) hx.1;simp only [List.getElem?_map] at h3;rw [List.getElem?_eq_getElem (show i<xs.length by omega),List.getElem?_eq_getElem hb] at h3;simp only [Option.map_some,Option.some.injEq] at h3;have h4:xs[i]=(.agg (blOrder[i].1.map fun z=> .lit (.int .u8 z)),xs[i].2):=Prod.ext h3.symm rfl;rw [h4] at h0;have hc:=ziO Tryz.underlying300 Tryz.underlying5 e5 e300 h0;rw [e300] at hc
   have e9:nth (blOrder.map fun x=>x.1.map (Value.int .u8)) i=blOrder[i].1.map (Value.int .u8):=by
    rw [fT (by rw [List.length_map];exact hb),List.getElem_map]
   rw [e9] at hq ⊢;rw [List.length_map,blOrder[i].2] at hq
   show W.cell? _=_
   rw [Nat.zero_add,World.var?_cell hg0 hv0 (i*16+q),←Array.getElem?_toList,←hc,List.getElem?_take_of_lt hq,List.getElem?_drop]
section
variable {H:Type}{enc:TypeId×Value→H}{w:World}{base:Nat}{spare:Nat→Bool}{held:Bool}
end
end Go.Proofs.YtmnjbhkcfghebaaGreatDoor
