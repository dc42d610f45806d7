/- J2 J3 J4 J5 Yl Ca P1 P2 P3 Yf Y1 P4 V1 V2: shortened and put together by squeeze.py. -/
import Derived.Test.YtmnjbhkcfghebaaGreatDoorQ14
set_option maxRecDepth 100000
set_option maxHeartbeats 4000000
set_option linter.unusedVariables false
set_option linter.unusedSectionVars false
set_option linter.unusedSimpArgs false
namespace Go.Proofs.YtmnjbhkcfghebaaGreatDoor
open Go.RowKit
theorem zhD (k:Nat):dm ^ k=2 ^ (32*k):=by rw [ja,Nat.pow_mul]
theorem ka (k:Nat):256 ^ k=2 ^ (8*k):=by rw [Nat.pow_mul]
@[irreducible] def fR:Nat:=256 ^ 64
theorem M512_64:fR=256 ^ 64:=by unfold fR;rfl
theorem zfM {k:Nat}(h:k=512):fR=2 ^ k:=by
 (have e:8*64=k:=by omega);rw [M512_64,ka,e]
theorem zk8 {k:Nat}(h:512≤k):fR≤2 ^ k:=by
 obtain ⟨e,he⟩:∃e,e=512:=⟨_,rfl⟩;rw [zfM he];exact Nat.pow_le_pow_right a6 a6
theorem zg3 {k:Nat}(h:k≤512):2 ^ k≤fR:=by
 obtain ⟨e,he⟩:∃e,e=512:=⟨_,rfl⟩;rw [zfM he];exact Nat.pow_le_pow_right a6 a6
structure BigIs (D:List Int) (N:Nat):Prop where
 dig:Dig 256 D
 lead:D=[]∨nth D 0≠0
 eq:val 256 D.reverse=N
theorem BigIs.trm {D:List Int}{N:Nat}(h:BigIs D N):mb D.reverse:=by
 rcases h.lead with e|e
 ·exact .inl (by rw [e];rfl)
 ·by_cases hn:D=[]
  ·exact .inl (by rw [hn];rfl)
  ·have:=List.length_pos_iff.2 hn;refine .inr ?_;rw [List.length_reverse,zgJ a6,show D.length - 1 - (D.length - 1)=0 by omega];exact e
theorem BigIs.uniq {D E:List Int}{N:Nat}(h:BigIs D N)(k:BigIs E N):D=E:=by
 have:=ziI h.dig.rev k.dig.rev h.trm k.trm (h.eq.trans k.eq.symm);exact List.reverse_inj.1 this
theorem BigIs.nil {D:List Int}{N:Nat}(h:BigIs D N):D=[]↔N=0:=by
 rw [←h.eq,zhH h.dig.rev h.trm a7,List.reverse_eq_nil_iff]
theorem BigIs.pos {D:List Int}{N:Nat}(h:BigIs D N):0<D.length↔0<N:=by
 have:=h.nil;rw [List.length_pos_iff];constructor
 ·intro e;rcases Nat.eq_zero_or_pos N with z|z
  ·exact absurd (this.2 z) e
  ·exact z
 ·intro e z;have:=this.1 z;omega
theorem BigIs.len {D:List Int}{N k:Nat}(h:BigIs D N)(hk:N<256 ^ k):D.length≤k:=by
 by_cases hn:D=[]
 ·rw [hn];exact Nat.zero_le _
 ·have:=zh2 h.dig.rev h.trm (by rw [ne_eq,List.reverse_eq_nil_iff];exact hn);rw [h.eq] at this;have h2:=Nat.lt_of_le_of_lt this hk;have:=(Nat.pow_lt_pow_iff_right (show 1<256 by decide)).1 h2;rw [List.length_reverse] at this;omega
theorem BigIs.lt {D:List Int}{N:Nat}(h:BigIs D N):N<256 ^ D.length:=by
 have:=j5 h.dig.rev;rw [h.eq,List.length_reverse] at this;exact this
theorem zkF {x:List Int}{X:Nat}(hl:x.length≤1000000)(hx:NatIs x X):∃s:Nat,za4 x=some (s:Int)∧(X=0→s=0)∧(0<X→1≤s∧2 ^ (s - 1)≤X)∧X<2 ^ s∧s≤32*x.length:=by
 unfold za4;by_cases hn:x=[]
 ·have h0:=hx.nil.1 hn;subst hn;exact ⟨0,rfl,fun _=>rfl,fun h=>by omega,by omega,Nat.zero_le _⟩
 ·have hp:=List.length_pos_iff.2 hn;have hX:=hx.pos.1 hp;have htd:=hx.dig.nth (i:=x.length - 1) a6;have htn:nth x (x.length - 1)≠0:=hx.trm.elim (fun e=>absurd e hn) id;have hB:=ja;obtain ⟨s,s1,s2,s3,s4,s5⟩:=zjM (x:=(nth x (x.length - 1)).toNat) a6 a6;rw [Int.toNat_of_nonneg htd.1] at s3;rw [decide_eq_false a6,cond_false,eN a6,show ((x.length:Int) - 1).toNat=x.length - 1 by omega,s3];refine fh ?_
  have eX:X=val dm (x.take (x.length - 1))+dm ^ (x.length - 1) * (nth x (x.length - 1)).toNat:=by
   have:=iM (B:=dm) (l:=x) (i:=x.length - 1) a6;rw [show x.length - 1+1=x.length by omega,List.take_length,hx.eq] at this;exact this
  have htk:=j5 (hx.dig.take (x.length - 1));rw [List.length_take,Nat.min_eq_left a6] at htk;refine ⟨32* (x.length - 1)+s,?_,fun h=>by omega,fun _=>⟨by omega,?_⟩,?_,by omega⟩
  ·rw [gk (x:=32* ((x.length:Int) - 1)) a6,gk a6];congr 1;omega
  ·rw [show 32* (x.length - 1)+s - 1=32* (x.length - 1)+(s - 1) by omega,Nat.pow_add,←zhD,eX];exact Nat.le_trans (Nat.mul_le_mul_left _ s4) (Nat.le_add_left _ _)
  ·rw [Nat.pow_add,←zhD,eX];have:=Nat.mul_le_mul_left (dm ^ (x.length - 1)) (show (nth x (x.length - 1)).toNat+1≤2 ^ s by omega);rw [Nat.mul_add,Nat.mul_one] at this;omega
theorem u8n (m:Nat):IntKind.u8.wrap (m:Int)=((m % 256:Nat):Int):=by
 refine q3z ?_;simp
theorem zkb {x:List Int}{X:Nat}(hl:x.length≤100000)(hx:NatIs x X):∃D,zbe x=some D∧BigIs D X:=by
 obtain ⟨s,h1,h2,h3,h4,h5⟩:=zkF a6 hx; (have hw7:wI ((s:Int)+7)=((s+7:Nat):Int):=by rw [gk a6];omega);unfold zbe;rw [h1];refine fh ?_;rw [hw7,eN a6];by_cases h0:X=0
 ·rw [h2 h0,decide_eq_true a7,cond_true];exact ⟨[],rfl,Dig.nil, .inl rfl,by rw [h0];rfl⟩
 ·obtain ⟨h6,h7⟩:=h3 a6;rw [decide_eq_false a6,cond_false,eN a6,show (((s+7:Nat):Int) / 8).toNat=(s+7) / 8 by omega,eN (by show _*_≤_;omega)];simp only [dO];rw [List.length_replicate,show ((s+7:Nat):Int) / 8=(((s+7) / 8:Nat):Int) by omega];generalize hn:(s+7) / 8=n at *; (have hw1:wI (((n:Nat):Int) - 1)=((n - 1:Nat):Int):=by rw [gk a6];omega);rw [hw1]; (have hXn:X<256 ^ n:=by rw [ka];exact Nat.lt_of_lt_of_le h4 (Nat.pow_le_pow_right a6 a6));refine mf (n:=n) (fun i (l:List Int)=>l.length=n∧Dig 256 l∧∀k,k<i→nth l (n - 1 - k)=((X / 256 ^ k % 256:Nat):Int)) (fun o=>∃D,o=some D∧BigIs D X) ?_ (fun l hI=>?_) (fun i l next hi hI hnx=>?_)
  ·exact ⟨by simp,gG a7 _,fun k hk=>absurd hk (Nat.not_lt_zero k)⟩
  ·obtain ⟨i1,i2,i3⟩:=hI;refine ⟨l,rfl,i2,?_,?_⟩
   ·by_cases he:l=[]
    ·exact .inl he
    ·refine .inr ?_;have h8:=i3 (n - 1) a6;rw [show n - 1 - (n - 1)=0 by omega] at h8;rw [h8]
     have h9:1≤X / 256 ^ (n - 1):=by
      rw [Nat.le_div_iff_mul_le (Nat.pow_pos a7),Nat.one_mul,ka];exact Nat.le_trans (Nat.pow_le_pow_right a6 a6) h7
     have h10:X / 256 ^ (n - 1)<256:=by
      rw [Nat.div_lt_iff_lt_mul (Nat.pow_pos a7),Nat.mul_comm,←Nat.pow_succ,show (n - 1).succ=n by omega];exact hXn
     rw [Nat.mod_eq_of_lt h10];omega
   ·refine zf3 a7 (fun k hk=>?_) (by rw [List.length_reverse,i1];exact hXn);rw [List.length_reverse] at hk;rw [zgJ hk,i1,i3 k a6,Int.toNat_natCast]
  ·obtain ⟨i1,i2,i3⟩:=hI
   have h4i:i / 4<x.length:=by
    omega
   (have hw2:wI (8* ((i:Int) % 4))=((8* (i % 4):Nat):Int):=by rw [gk a6];omega); (have hw3:wI (((n - 1:Nat):Int) - (i:Int))=((n - 1 - i:Nat):Int):=by rw [gk a6];omega);rw [hw2,hw3,eN a6,eN a6,eN a6,eN a6,eN a6,show ((i:Int) / 4).toNat=i / 4 by omega,Int.toNat_natCast];have hxd:=hx.dig.nth h4i;have hdg:=ze9 iL hx.dig (i / 4);rw [hx.eq] at hdg
   have esh:shrK .u32 (nth x (i / 4)) ((8* (i % 4):Nat):Int)=(((nth x (i / 4)).toNat / 2 ^ (8* (i % 4)):Nat):Int):=by
    have:=zkj (a:=(nth x (i / 4)).toNat) (b:=8* (i % 4)) a6;rw [Int.toNat_of_nonneg hxd.1] at this;exact this
   have e:(nth x (i / 4)).toNat / 2 ^ (8* (i % 4)) % 256=X / 256 ^ i % 256:=by
    rw [hdg,←ka]; (have e1:256 ^ i=dm ^ (i / 4) *256 ^ (i % 4):=by rw [zhK,←Nat.pow_mul,←Nat.pow_add,Nat.div_add_mod])
    have e2:dm=256 ^ (i % 4) * (256*256 ^ (3 - i % 4)):=by
     rw [zhK,Nat.mul_left_comm,←Nat.pow_add,show i % 4+(3 - i % 4)=3 by omega]
    rw [e1,←Nat.div_div_eq_div_mul];generalize X / dm ^ (i / 4)=Z;rw [e2,Nat.mod_mul_right_div_self,Nat.mod_mul_right_mod]
   rw [esh,u8n,e];have hm:=Nat.mod_lt (X / 256 ^ i) (show 0<256 by decide);refine hnx _ ⟨by rw [List.length_set];exact i1,i2.set ⟨Int.natCast_nonneg _,Int.ofNat_lt.2 hm⟩,fun k hk=>?_⟩;by_cases hki:k=i
   ·subst hki;rw [kS a6]
   ·rw [ze5 a6];exact i3 k a6
theorem zgL {x:List Int}{X:Nat}{neg:Bool}(hl:x.length≤100000)(hx:NatIs x X)(h:X<fR):∃D,zbP neg x=some (⟨neg&&decide (0<X),D⟩,0)∧BigIs D X:=by
 obtain ⟨s,h1,h2,h3,h4,h5⟩:=zkF a6 hx;obtain ⟨D,d1,d2⟩:=zkb hl hx;unfold zbP;rw [h1];refine fh ?_
 have hs:¬512<s:=fun hc=>by
  have h0:0<X:=by
   rcases Nat.eq_zero_or_pos X with z|z
   ·have:=h2 z;omega
   ·exact z
  have:=zk8 (k:=s - 1) a6;exact Nat.lt_irrefl _ (Nat.lt_of_lt_of_le h (Nat.le_trans this (h3 h0).2))
 rw [decide_eq_false a6,cond_false,d1];refine fh ?_;refine ⟨D,?_,d2⟩;have e:decide (0<(x.length:Int))=decide (0<X):=decide_eq_decide.2 (by rw [←hx.pos];omega);rw [e]
abbrev dI (g:GInt):Nat:=val 256 g.Digits.reverse
structure VI (g:GInt):Prop where
 len:g.Digits.length≤64
 lead:g.Digits=[]∨nth g.Digits 0≠0
 sgn:g.Digits=[]→g.Neg=false
theorem VI.big {g:GInt}(h:VI g)(hd:Dig 256 g.Digits):BigIs g.Digits (dI g):=⟨hd,h.lead,rfl⟩
theorem VI.lt {g:GInt}(h:VI g)(hd:Dig 256 g.Digits):dI g<fR:=by
 have:=(h.big hd).lt;rw [ka] at this;exact Nat.lt_of_lt_of_le this (zg3 (by have:=h.len;omega))
theorem fy {D:List Int}{N:Nat}(h:BigIs D N)(hN:N<fR):VI ⟨false,D⟩:=⟨h.len (by rw [←M512_64];exact hN),h.lead,fun _=>rfl⟩
theorem mC {g:GInt}(h:VI g):kF g=some true:=by
 unfold kF;by_cases h0:g.Digits=[]
 ·rw [h.sgn h0,h0];rfl
 ·have:=List.length_pos_iff.2 h0;have h1:=h.lead.elim (fun e=>absurd e h0) id;have h2:=h.len;rw [decide_eq_false a6,cond_false];simp only [dO];rw [decide_eq_true a6,cond_true,eN a6,decide_eq_true h1]
theorem ziD {g:GInt}(h:¬VI g):kF g=some false:=by
 unfold kF;by_cases h0:g.Digits=[]
 ·cases hn:g.Neg with
  |false=>exact absurd ⟨by rw [h0];decide, .inl h0,fun _=>hn⟩ h
  |true=>rw [h0];rfl
 ·have:=List.length_pos_iff.2 h0;rw [decide_eq_false a6,cond_false];simp only [dO];by_cases h1:g.Digits.length≤64
  ·rw [decide_eq_true a6,cond_true,eN a6];by_cases h2:nth g.Digits 0=0
   ·rw [h2];rfl
   ·exact absurd ⟨h1, .inr h2,fun e=>absurd e h0⟩ h
  ·rw [decide_eq_false a6,cond_false]
theorem zlp {g:GInt}(h:¬VI g):l5 g=some 0:=by
 unfold l5;rw [ziD h];rfl
theorem ziX {g:GInt}(h:VI g)(hd:Dig 256 g.Digits):l5 g=some (if dI g=0 then 0 else if g.Neg=true then -1 else 1):=by
 unfold l5;rw [mC h];have hn:=(h.big hd).nil;refine fh ?_;by_cases h0:g.Digits=[]
 ·rw [if_pos (hn.1 h0),h0];rfl
 ·have:=List.length_pos_iff.2 h0;rw [if_neg (fun e=>h0 (hn.2 e)),decide_eq_false a6]
  cases g.Neg <;> rfl
theorem mE {σ ρ:Type}{f:(σ→Option ρ)→σ→Option ρ}(I:σ→Nat→Nat→Prop)(post:Option ρ→Prop)(G:Nat)(hend:∀s next,I s G 0→post (f next s))(hstep:∀s next X Y,I s X Y→0<Y→(∀s',I s' Y (X % Y)→post (next s'))→post (f next s)):∀k m s X Y,I s X Y→X*Y<2 ^ k→Y≤X→Nat.gcd X Y=G→k+2≤m→post (eV f m s):=by
 intro k
 induction k with
 |zero=>
  intro m s X Y hI hk hle hG hm;obtain ⟨m',rfl⟩:∃q,m=q+1:=⟨m - 1,by omega⟩
  have h0:Y=0:=by
   rcases Nat.eq_zero_or_pos Y with z|z
   ·exact z
   ·have:=Nat.mul_le_mul (show 1≤X by omega) z;omega
  subst h0;rw [mz];rw [Nat.gcd_zero_right] at hG;subst hG;exact hend _ _ hI
 |succ k ih=>
  intro m s X Y hI hk hle hG hm;obtain ⟨m',rfl⟩:∃q,m=q+1:=⟨m - 1,by omega⟩;rw [mz];rcases Nat.eq_zero_or_pos Y with z|z
  ·subst z;rw [Nat.gcd_zero_right] at hG;subst hG;exact hend _ _ hI
  ·refine hstep _ _ X Y hI z (fun s' hI'=>ih m' s' Y (X % Y) hI' ?_ (Nat.le_of_lt (Nat.mod_lt _ z)) ?_ a6)
   ·have h1:=Nat.mod_lt X z
    have h2:X % Y+Y≤X:=by
     have h3:=Nat.div_add_mod X Y; (have h4:1≤X / Y:=by rw [Nat.le_div_iff_mul_le z];omega);have h5:=Nat.mul_le_mul_left Y h4;omega
    have h6:=Nat.mul_le_mul_right Y (show 2* (X % Y)≤X by omega);rw [Nat.mul_assoc,Nat.mul_comm (X % Y) Y] at h6;rw [Nat.pow_succ] at hk;omega
   ·rw [←hG,Nat.gcd_comm X Y,Nat.gcd_rec Y X,Nat.gcd_comm]
theorem lE {σ ρ:Type}{f:(σ→Option ρ)→σ→Option ρ}(I:σ→Nat→Nat→Prop)(post:Option ρ→Prop){k m:Nat}{s:σ}{X Y:Nat}(hI:I s X Y)(hk:X*Y<2 ^ k)(hm:k+3≤m)(hend:∀s next,I s (Nat.gcd X Y) 0→post (f next s))(hstep:∀s next X Y,I s X Y→0<Y→(∀s',I s' Y (X % Y)→post (next s'))→post (f next s)):post (eV f m s):=by
 by_cases hle:Y≤X
 ·exact mE I post (Nat.gcd X Y) hend hstep k m s X Y hI hk hle rfl a6
 ·obtain ⟨m',rfl⟩:∃q,m=q+1:=⟨m - 1,by omega⟩;rw [mz];refine hstep _ _ X Y hI a6 (fun s' hI'=>?_);rw [Nat.mod_eq_of_lt a6] at hI';exact mE I post (Nat.gcd X Y) hend hstep k m' s' Y X hI' (by rw [Nat.mul_comm];exact hk) a6 (Nat.gcd_comm _ _) a6
theorem zjN {X Y K:Nat}(hX:X<K)(hY:Y<K):Nat.gcd X Y<K:=by
 rcases Nat.eq_zero_or_pos X with z|z
 ·subst z;rw [Nat.gcd_zero_left];exact hY
 ·exact Nat.lt_of_le_of_lt (Nat.gcd_le_left Y z) hX
theorem zlo {fuel:Nat}{a b:GInt}(hf:2000≤fuel)(ha:VI a)(hb:VI b)(da:Dig 256 a.Digits)(db:Dig 256 b.Digits):∃D,zcU fuel a b=some (⟨false,D⟩,0)∧BigIs D (Nat.gcd (dI a) (dI b)):=by
 have la:=ha.len;have lb:=hb.len;have va:=ha.lt da;have vb:=hb.lt db;obtain ⟨x,x1,x2⟩:=zgi (fuel:=fuel) a6 a6 da;obtain ⟨y,y1,y2⟩:=zgi (fuel:=fuel) a6 a6 db;unfold zcU;rw [mC ha,mC hb];refine q34 ?_;rw [x1];refine fh ?_;rw [y1];refine fh ?_;obtain ⟨e,he⟩:∃e,e=512:=⟨_,rfl⟩;obtain ⟨k16,h16k⟩:∃k,k=16:=⟨_,rfl⟩; (have h16:dm ^ k16=fR:=by rw [zhD,zfM (k:=32*k16) a6]);refine lE (fun (s:List Int×List Int) X Y=>NatIs s.1 X∧NatIs s.2 Y∧X<fR∧Y<fR) (fun (o:Option (GInt×Int))=>∃D,o=some (GInt.mk false D,0)∧BigIs D (Nat.gcd (dI a) (dI b))) (k:=e+e) (X:=dI a) (Y:=dI b) (s:=(x,y)) (show NatIs x (dI a)∧NatIs y (dI b)∧dI a<fR∧dI b<fR from ⟨x2,y2,va,vb⟩) ?_ a6 (fun s next hI=>?_) (fun s next X Y hI hY hnx=>?_)
 ·have:=Nat.mul_lt_mul'' va vb;rw [zfM he,←Nat.pow_add] at this;exact this
 ·obtain ⟨i1,i2,i3,i4⟩:=hI;have e0:=i2.nil.2 rfl;rw [e0];rw [decide_eq_false a7,cond_false];have hl:=i1.len (k:=k16) (by rw [h16];exact i3);obtain ⟨D,d1,d2⟩:=zgL (neg:=false) a6 i1 i3;rw [d1];exact ⟨D,rfl,d2⟩
 ·obtain ⟨i1,i2,i3,i4⟩:=hI;have hp:=i2.pos.2 hY;have l1:=i1.len (k:=k16) (by rw [h16];exact i3);have l2:=i2.len (k:=k16) (by rw [h16];exact i4);rw [decide_eq_true a6,cond_true];obtain ⟨q,r,e1,e2,e3⟩:=ziM (fuel:=fuel) a6 a6 hf i1 i2 hY;rw [e1];refine fh ?_;exact hnx _ ⟨i2,e3,i4,Nat.lt_trans (Nat.mod_lt _ hY) i4⟩
theorem GCD_f {fuel:Nat}{a b:GInt}(h:¬(VI a∧VI b)):zcU fuel a b=some (⟨false,[]⟩,2):=by
 unfold zcU;by_cases ha:VI a
 ·rw [mC ha,ziD (fun hb=>h ⟨ha,hb⟩)];rfl
 ·rw [ziD ha];rfl
theorem ky {fuel:Nat}{n:Int}(hf:2000≤fuel)(hn: -9223372036854775808≤n∧n≤9223372036854775807):∃D,zcC fuel n=some ⟨decide (n<0),D⟩∧BigIs D n.natAbs:=by
 have hB:=ja
 have key:∀u:BitVec 64,u.toNat=n.natAbs→∃D,((km fuel [(IntKind.u32.wrap (u.toNat:Int)),(IntKind.u32.wrap ((u >>> 32).toNat:Int))]).bind fun r21=>
  (zbP (decide (n<0)) r21).bind fun r22=>
  some r22.1)=some ⟨decide (n<0),D⟩∧BigIs D n.natAbs:=fun u hu=>by
  have hlt:=u.isLt;rw [zim,jx,jx];obtain ⟨r,t1,t2⟩:=zjc (fuel:=fuel) (l:=[((u.toNat % dm:Nat):Int),((u.toNat / 2 ^ 32 % dm:Nat):Int)]) b9 ((Dig.nil.cons ⟨Int.natCast_nonneg _,Int.ofNat_lt.2 (Nat.mod_lt _ iL)⟩).cons ⟨Int.natCast_nonneg _,Int.ofNat_lt.2 (Nat.mod_lt _ iL)⟩)
  have ev:val dm [((u.toNat % dm:Nat):Int),((u.toNat / 2 ^ 32 % dm:Nat):Int)]=n.natAbs:=by
   rw [val,val,val,Int.toNat_natCast,Int.toNat_natCast,←hu,hB];omega
  rw [ev] at t2;rw [t1];refine fh ?_;have hl:=t2.len (k:=2) (by rw [hB];omega);have h512:n.natAbs<fR:=Nat.lt_of_lt_of_le (show n.natAbs<2 ^ 64 by omega) (zg3 a6);obtain ⟨D,d1,d2⟩:=zgL (neg:=decide (n<0)) a6 t2 h512;rw [d1];refine ⟨D,?_,d2⟩;refine fh ?_
  congr 2
  by_cases h:n<0
  ·rw [decide_eq_true h,decide_eq_true a6];rfl
  ·rw [decide_eq_false h];rfl
 unfold zcC;simp only [dO];by_cases h:n<0
 ·rw [decide_eq_true h,cond_true]
  have:=key (-(BitVec.ofInt 64 n)) (by
   rw [BitVec.toNat_neg,BitVec.toNat_ofInt];omega)
  rw [decide_eq_true h] at this;exact this
 ·rw [decide_eq_false h,cond_false];have:=key (BitVec.ofInt 64 n) (by rw [ofI a6];omega);rw [decide_eq_false h] at this;exact this
def zI (g:GInt):Int:=if g.Neg=true then -(dI g:Int) else (dI g:Int)
theorem zfz {fuel:Nat}{a b:GInt}(hf:2000≤fuel)(ha:VI a)(hb:VI b)(da:Dig 256 a.Digits)(db:Dig 256 b.Digits):zbt fuel a b=some (if zI a<zI b then -1 else if zI b<zI a then 1 else 0):=by
 have la:=ha.len;have lb:=hb.len;have na:a.Neg=true→0<dI a:=fun h=>(ha.big da).pos.1 (List.length_pos_iff.2 fun e=>by rw [ha.sgn e] at h;cases h);have nb:b.Neg=true→0<dI b:=fun h=>(hb.big db).pos.1 (List.length_pos_iff.2 fun e=>by rw [hb.sgn e] at h;cases h);obtain ⟨x,x1,x2⟩:=zgi (fuel:=fuel) a6 a6 da;obtain ⟨y,y1,y2⟩:=zgi (fuel:=fuel) a6 a6 db;unfold zbt;rw [mC ha,mC hb];refine q34 ?_;rw [x1];refine fh ?_;rw [y1];refine fh ?_;change NatIs x (dI a) at x2;change NatIs y (dI b) at y2;rw [ziP x2 y2];unfold zI;generalize dI a=A at *;generalize dI b=B at*
 cases hA:a.Neg <;> cases hC:b.Neg
 ·simp only [beq_self_eq_true,Bool.not_true,cond_false,Bool.false_eq_true,if_false]
  congr 1
  repeat' split
  all_goals omega
 ·have:=nb hC
  show some 1=some _
  simp only [Bool.false_eq_true,if_false,if_true];rw [if_neg a6,if_pos a6]
 ·have:=na hA
  show some (-1)=some _
  simp only [Bool.false_eq_true,if_false,if_true];rw [if_pos a6]
 ·simp only [beq_self_eq_true,Bool.not_true,cond_false,cond_true,if_true]
  congr 1
  repeat' split
  all_goals first|omega|(exfalso;omega)|rfl
structure VR (p:GRatio):Prop where
 num:VI p.Num
 den:VI p.Den
 neg:p.Den.Neg=false
 pos:0<dI p.Den
 gcd:Nat.gcd (dI p.Num) (dI p.Den)=1
theorem zj7 {fuel:Nat}{p:GRatio}(hf:2000≤fuel)(dn:Dig 256 p.Num.Digits)(dd:Dig 256 p.Den.Digits):∃b,zcz fuel p=some b∧(b=true↔VR p):=by
 unfold zcz;by_cases hd:VI p.Den
 ·rw [ziX hd dd];refine fh ?_;by_cases h0:dI p.Den=0
  ·rw [if_pos h0,decide_eq_true a7,cond_true];exact ⟨false,rfl,fun h=>(by cases h),fun h=>(by have:=h.pos;omega)⟩
  ·rw [if_neg h0]
   cases hn:p.Den.Neg with
   |true=>
    exact ⟨false,rfl,fun h=>(by cases h),fun h=>(by have:=h.neg;rw [hn] at this;cases this)⟩
   |false=>
    rw [if_neg b3,decide_eq_false a7,cond_false];by_cases hN:VI p.Num
    ·obtain ⟨D,d1,d2⟩:=zlo (fuel:=fuel) hf hN hd dn dd;obtain ⟨E,e1,e2⟩:=ky (fuel:=fuel) (n:=1) hf a6;have hG:=zjN (hN.lt dn) (hd.lt dd);rw [d1];refine q3L ?_;rw [decide_eq_true trivial,cond_true,e1];refine fh ?_;have h1:(1:Int).natAbs=1:=rfl;rw [h1] at e2
     rw [zfz hf (fy d2 hG) (by
      have:=fy e2 (Nat.lt_of_lt_of_le (show 1<2 ^ 1 by decide) (zg3 a6))
      exact this) d2.dig e2.dig]
     refine fh ?_;refine ⟨_,rfl,?_⟩
     have z1:zI ⟨false,D⟩=(Nat.gcd (dI p.Num) (dI p.Den):Int):=by
      unfold zI dI;rw [if_neg b3];rw [d2.eq]
     have z2:zI ⟨decide ((1:Int)<0),E⟩=1:=by
      unfold zI dI;rw [if_neg b3];rw [e2.eq];rfl
     rw [z1,z2,decide_eq_true_eq];constructor
     ·intro h;refine ⟨hN,hd,hn,by omega,?_⟩
      split at h
      ·cases h
      ·split at h
       ·cases h
       ·omega
     ·intro h;rw [h.gcd];rfl
    ·rw [GCD_f (fun h=>hN h.1)];exact ⟨false,rfl,fun h=>(by cases h),fun h=>absurd h.num hN⟩
 ·rw [zlp hd];exact ⟨false,rfl,fun h=>(by cases h),fun h=>absurd h.den hd⟩
structure LsIs (x:List Int) (X:Nat):Prop where
 dig:Dig 256 x
 trm:mb x
 eq:val 256 x=X
theorem LsIs.nil {x:List Int}{X:Nat}(h:LsIs x X):x=[]↔X=0:=by
 rw [←h.eq];exact (zhH h.dig h.trm a7).symm
theorem LsIs.pos {x:List Int}{X:Nat}(h:LsIs x X):0<x.length↔0<X:=by
 have:=h.nil;rw [List.length_pos_iff];constructor
 ·intro e;rcases Nat.eq_zero_or_pos X with z|z
  ·exact absurd (this.2 z) e
  ·exact z
 ·intro e z;have:=this.1 z;omega
theorem LsIs.zero:LsIs [] 0:=⟨Dig.nil, .inl rfl,rfl⟩
theorem LsIs.big {x:List Int}{X:Nat}(h:LsIs x X):BigIs x.reverse X:=by
 refine ⟨h.dig.rev,?_,by rw [List.reverse_reverse];exact h.eq⟩;rcases h.trm with e|e
 ·exact .inl (by rw [e];rfl)
 ·by_cases hn:x=[]
  ·exact .inl (by rw [hn];rfl)
  ·have:=List.length_pos_iff.2 hn;refine .inr ?_;rw [zgJ a6,Nat.sub_zero];exact e
theorem BigIs.ls {x:List Int}{X:Nat}(h:BigIs x X):LsIs x.reverse X:=⟨h.dig.rev,h.trm,h.eq⟩
theorem LsIs.len {x:List Int}{X k:Nat}(h:LsIs x X)(hk:X<256 ^ k):x.length≤k:=by
 have:=h.big.len hk;rw [List.length_reverse] at this;exact this
theorem zgc {B:Nat}(l:List Int)(i:Nat):val B (l.take (i+1))=val B (l.take i)+B ^ i* (nth l i).toNat:=by
 rcases Nat.lt_or_ge i l.length with h|h
 ·exact iM h
 ·rw [lG h,List.take_of_length_le h,List.take_of_length_le a6];simp
theorem zhI {B:Nat}(l:List Int)(x:Int):val B (l++[x])=val B l+B ^ l.length*x.toNat:=by
 rw [zip,val,val,Nat.mul_zero,Nat.add_zero]
theorem rAbs {g:GInt}(hl:g.Digits.length≤1000000):zcG g=some g.Digits.reverse:=by
 unfold zcG;simp only [dO];refine zfy (n:=g.Digits.length) (fun m (out:List Int)=>out=(g.Digits.drop m).reverse) (fun o=>o=some g.Digits.reverse) (by rw [List.drop_eq_nil_of_le (Nat.le_refl _)];rfl) (fun s hs=>by rw [hs];rfl) (fun i s next hi hs hnx=>?_)
 have e:s++[nth g.Digits i]=(g.Digits.drop i).reverse:=by
  rw [List.drop_eq_getElem_cons hi,List.reverse_cons,hs,fT hi]
 rw [e,eN (by show _*_≤_;rw [List.length_reverse,List.length_drop];omega)];exact hnx _ rfl
theorem zkd {fuel:Nat}{l:List Int}(hf:l.length+1≤fuel)(hd:Dig 256 l):∃r,zcW fuel l=some r∧LsIs r (val 256 l):=by
 unfold zcW;simp only [dO];refine ze3 (fun (s:List Int)=>val 256 s=val 256 l∧Dig 256 s) (fun s=>s.length) (fun o=>∃r,o=some r∧LsIs r (val 256 l)) ⟨rfl,hd⟩ a6 (fun s next hI hnx=>?_);obtain ⟨i1,i2⟩:=hI;by_cases h0:s=[]
 ·subst h0;exact ⟨[],rfl,i2, .inl rfl,i1⟩
 ·have hp:=List.length_pos_iff.2 h0;rw [decide_eq_true (show (0:Int)<(s.length:Int) by omega),Bool.true_and,show ((s.length:Int) - 1).toNat=s.length - 1 by omega];by_cases h1:nth s (s.length - 1)=0
  ·rw [decide_eq_true h1,cond_true];refine hnx _ ⟨?_,i2.take _⟩ cU;have h6:=iM (B:=256) (l:=s) (i:=s.length - 1) a6;rw [show s.length - 1+1=s.length by omega,List.take_length,h1] at h6;rw [←i1,h6];simp
  ·rw [decide_eq_false h1,cond_false];exact ⟨s,rfl,i2, .inr h1,i1⟩
theorem zlD {x y:List Int}{X Y:Nat}(hx:LsIs x X)(hy:LsIs y Y):zcY x y=if X<Y then -1 else if Y<X then 1 else 0:=by
 rw [←hx.eq,←hy.eq];have dx:=hx.dig;have dy:=hy.dig;unfold zcY;by_cases hl:x.length=y.length
 ·rw [decide_eq_false a6,cond_false];simp only [dO]
  have key:∀m,m≤x.length→gL (fun (i_5:Nat) (next4:Unit→Int) (_:Unit)=>
    (bif decide (¬(nth x i_5)=(nth y i_5)) then
     (bif decide ((nth x i_5)<(nth y i_5)) then
      (-1)
      else
      1)
     else
     next4 ())) (fun _=>(0:Int)) m ()=if val 256 (x.take m)<val 256 (y.take m) then -1 else if val 256 (y.take m)<val 256 (x.take m) then 1 else 0:=by
   intro m
   induction m with
   |zero=>intro _;rfl
   |succ m ih=>
    intro hm;have a1:=dx.nth (i:=m) a6;have a2:=dy.nth (i:=m) a6;have b1:=j5 (dx.take m);have b2:=j5 (dy.take m);rw [List.length_take,Nat.min_eq_left a6] at b1 b2;rw [zkD,iM a6,iM a6]; (try dsimp only)
    have mono:∀p q:Nat,p<q→256 ^ m*p+256 ^ m≤256 ^ m*q:=fun p q h=>by
     have:=Nat.mul_le_mul_left (256 ^ m) (show p+1≤q by omega);rw [Nat.mul_add,Nat.mul_one] at this;exact this
    by_cases h0:nth x m=nth y m
    ·rw [decide_eq_false (fun h=>h h0),cond_false,ih a6,h0];generalize 256 ^ m* (nth y m).toNat=z
     repeat' split
     all_goals (first|rfl|(exfalso;omega))
    ·rw [decide_eq_true h0,cond_true];by_cases h1:nth x m<nth y m
     ·have:=mono (nth x m).toNat (nth y m).toNat a6;rw [decide_eq_true h1,cond_true,if_pos a6]
     ·have:=mono (nth y m).toNat (nth x m).toNat a6;rw [decide_eq_false h1,cond_false,if_neg a6,if_pos a6]
  have:=key x.length (Nat.le_refl _);rw [List.take_length,hl,List.take_length] at this;rw [←hl] at this;exact this
 ·rw [decide_eq_true a6,cond_true];by_cases h:x.length<y.length
  ·rw [decide_eq_true a6,cond_true,if_pos (zdo dx dy hy.trm h)]
  ·have:=zdo dy dx hx.trm a6;rw [decide_eq_false a6,cond_false,if_neg a6,if_pos this]
theorem u8pos {m:Nat}:IntKind.u8.wrap ((m:Int) % 256)=((m % 256:Nat):Int):=by
 rw [u8w a6];omega
theorem zlz {fuel:Nat}{a b:List Int}(ha:Dig 256 a)(hb:Dig 256 b)(la:a.length≤100000)(lb:b.length≤100000)(hf:max a.length b.length+5≤fuel):∃r,zdb fuel a b=some r∧LsIs r (val 256 a+val 256 b):=by
 unfold zdb;simp only [dO];generalize hm:max a.length b.length=m at *;refine ze3 (fun (s:List Int×Int×Int)=>∃i c:Nat,s.2.2=(i:Int)∧s.2.1=(c:Int)∧i≤m+1∧c≤1∧(m<i→c=0)∧s.1.length=i∧Dig 256 s.1∧val 256 s.1+256 ^ i*c=val 256 (a.take i)+val 256 (b.take i)) (fun s=>m+2 - s.2.2.toNat) (fun o=>∃r,o=some r∧LsIs r (val 256 a+val 256 b)) ⟨0,0,rfl,rfl,by omega,by omega,fun _=>rfl,rfl,Dig.nil,by simp [val]⟩ a9 (fun s next hI hnx=>?_);obtain ⟨i,c,e1,e2,i3,i4,i5,i6,i7,i8⟩:=hI;by_cases hgo:i<a.length∨i<b.length∨0<c
 ·have hc:((decide (s.2.2<(a.length:Int))||decide (s.2.2<(b.length:Int)))||decide (0<s.2.1))=true:=by
   rw [e1,e2];rcases hgo with h|h|h
   ·rw [decide_eq_true (show (i:Int)<(a.length:Int) by omega)];simp
   ·rw [decide_eq_true (show (i:Int)<(b.length:Int) by omega)];simp
   ·rw [decide_eq_true (show (0:Int)<(c:Int) by omega)];simp
  rw [hc,cond_true];have hna:=zgI ha a7 i;have hnb:=zgI hb a7 i
  have fin:∀sum:Int,sum=((c+(nth a i).toNat+(nth b i).toNat:Nat):Int)→∃r,(dB (0≤sum∧1≤(256:Int)) <|
      dB (dK (s.1++[(IntKind.u8.wrap (sum % 256))]).length 1) <|
      dB (0≤sum∧sum≤9223372036854775807∧1≤(256:Int)) <|
      next ((s.1++[(IntKind.u8.wrap (sum % 256))]),(sum / 256),wI (s.2.2+1)))=some r∧LsIs r (val 256 a+val 256 b):=fun sum hs=>by
   subst hs;rw [eN a6,eN (by show _*_≤_;rw [List.length_append,i6];simp;omega),eN a6,u8pos,e1,gk a6];generalize hS:c+(nth a i).toNat+(nth b i).toNat=S at *;refine hnx _ ⟨i+1,S / 256,by dsimp only;omega,by dsimp only;omega,by omega,by omega,fun h=>?_,by dsimp only;rw [List.length_append,i6];rfl,i7.app (Dig.nil.cons a6),?_⟩ (by dsimp only;rw [e1];omega)
   ·rw [lG (l:=a) a6,lG (l:=b) a6] at hS; (have:S=c:=by simpa using hS.symm);omega
   ·dsimp only;rw [zhI,i6,zgc,zgc,Int.toNat_natCast]
    have h1:256 ^ (i+1) * (S / 256)+256 ^ i* (S % 256)=256 ^ i*S:=by
     rw [Nat.pow_succ,Nat.mul_assoc,←Nat.mul_add,Nat.div_add_mod]
    have h2:256 ^ i*S=256 ^ i*c+256 ^ i* (nth a i).toNat+256 ^ i* (nth b i).toNat:=by
     rw [←hS,Nat.mul_add,Nat.mul_add]
    omega
  have second:∀t:Int,t=((c+(nth a i).toNat:Nat):Int)→∃r,(bif decide (s.2.2<(b.length:Int)) then
       dB (0≤s.2.2∧s.2.2<(b.length:Int)) <|
       dB (0≤wI (t+(wI (nth b s.2.2.toNat)))∧1≤(256:Int)) <|
      dB (dK (s.1++[(IntKind.u8.wrap (wI (t+(wI (nth b s.2.2.toNat))) % 256))]).length 1) <|
      dB (0≤wI (t+(wI (nth b s.2.2.toNat)))∧wI (t+(wI (nth b s.2.2.toNat)))≤9223372036854775807∧1≤(256:Int)) <|
      next ((s.1++[(IntKind.u8.wrap (wI (t+(wI (nth b s.2.2.toNat))) % 256))]),(wI (t+(wI (nth b s.2.2.toNat))) / 256),wI (s.2.2+1))
       else
       dB (0≤t∧1≤(256:Int)) <|
      dB (dK (s.1++[(IntKind.u8.wrap (t % 256))]).length 1) <|
      dB (0≤t∧t≤9223372036854775807∧1≤(256:Int)) <|
      next ((s.1++[(IntKind.u8.wrap (t % 256))]),(t / 256),wI (s.2.2+1)))=some r∧LsIs r (val 256 a+val 256 b):=fun t ht=>by
   by_cases hb':i<b.length
   ·rw [decide_eq_true a6,cond_true,eN a6];refine fin _ ?_;rw [ht,e1,Int.toNat_natCast,gk (x:=nth b i) a6,gk a6];omega
   ·rw [decide_eq_false a6,cond_false];refine fin _ ?_;rw [ht,lG (l:=b) a6];simp
  by_cases ha':i<a.length
  ·rw [decide_eq_true (show s.2.2<(a.length:Int) by omega),cond_true,eN a6];refine second _ ?_;rw [e2,e1,Int.toNat_natCast,gk (x:=nth a i) a6,gk a6];omega
  ·rw [decide_eq_false (show ¬s.2.2<(a.length:Int) by omega),cond_false];refine second _ ?_;rw [e2,lG (l:=a) a6];simp
 ·have hc:((decide (s.2.2<(a.length:Int))||decide (s.2.2<(b.length:Int)))||decide (0<s.2.1))=false:=by
   rw [e1,e2,decide_eq_false a6,decide_eq_false a6,decide_eq_false a6];rfl
  rw [hc,cond_false];obtain ⟨r,t1,t2⟩:=zkd (fuel:=fuel) (l:=s.1) a6 i7;rw [t1]; (have hc0:c=0:=by omega);rw [hc0,List.take_of_length_le a6,List.take_of_length_le a6,Nat.mul_zero,Nat.add_zero] at i8;rw [i8] at t2;exact ⟨r,rfl,t2⟩
theorem zlw {fuel:Nat}{a b:List Int}{A B:Nat}(ha:LsIs a A)(hb:LsIs b B)(hle:B≤A)(la:a.length≤100000)(hf:a.length+5≤fuel):∃r,zcX fuel a b=some r∧LsIs r (A - B):=by
 have hlen:b.length≤a.length:=Nat.le_of_not_lt fun h=>by
  have:=zdo ha.dig hb.dig hb.trm h;rw [ha.eq,hb.eq] at this;omega
 unfold zcX;simp only [dO];refine mf (n:=a.length) (fun i (s:List Int×Int)=>∃c:Nat,s.2=(c:Int)∧c≤1∧s.1.length=i∧Dig 256 s.1∧val 256 (a.take i)+256 ^ i*c=val 256 s.1+val 256 (b.take i)) (fun o=>∃r,o=some r∧LsIs r (A - B)) ⟨0,rfl,by omega,rfl,Dig.nil,by simp [val]⟩ (fun s hI=>?_) (fun i s next hi hI hnx=>?_)
 ·obtain ⟨c,e1,e2,e3,e4,e5⟩:=hI;obtain ⟨r,t1,t2⟩:=zkd (fuel:=fuel) (l:=s.1) a6 e4;rw [t1];rw [List.take_length,List.take_of_length_le hlen,ha.eq,hb.eq] at e5;have hlt:=j5 e4;rw [e3] at hlt
  have hc:c=0:=by
   rcases Nat.eq_zero_or_pos c with z|z
   ·exact z
   ·rw [show c=1 by omega,Nat.mul_one] at e5;omega
  rw [hc,Nat.mul_zero] at e5;rw [show A - B=val 256 s.1 by omega];exact ⟨r,rfl,t2⟩
 ·obtain ⟨c,e1,e2,e3,e4,e5⟩:=hI;have hna:=ha.dig.nth hi;have hnb:=zgI hb.dig a7 i
  have key:∀(w:Nat) (c':Nat),w<256→c'≤1→(nth a i).toNat+256*c'=w+(nth b i).toNat+c→(dB (dK (s.1++[(IntKind.u8.wrap (w:Int))]).length 1) <| next ((s.1++[(IntKind.u8.wrap (w:Int))]),(c':Int)))=next ((s.1++[(w:Int)]),(c':Int))∧∃c2:Nat,((s.1++[(w:Int)]),(c':Int)).2=(c2:Int)∧c2≤1∧((s.1++[(w:Int)]),(c':Int)).1.length=i+1∧Dig 256 ((s.1++[(w:Int)]),(c':Int)).1∧val 256 (a.take (i+1))+256 ^ (i+1) *c2=val 256 ((s.1++[(w:Int)]),(c':Int)).1+val 256 (b.take (i+1)):=fun w c' hw hc' he=>by
   refine ⟨?_,c',rfl,hc',by rw [List.length_append,e3];rfl,e4.app (Dig.nil.cons a6),?_⟩
   ·rw [u8w a6,eN (by show _*_≤_;rw [List.length_append,e3];simp;omega)]
   ·dsimp only;rw [zhI,e3,zgc,zgc,Int.toNat_natCast]; (have h1:256 ^ i* ((nth a i).toNat+256*c')=256 ^ i* (w+(nth b i).toNat+c):=by rw [he]);rw [Nat.mul_add,Nat.mul_add,Nat.mul_add,←Nat.mul_assoc,←Nat.pow_succ] at h1
    show _+256 ^ i.succ*c'=_
    omega
  have fin:∀d:Int,d=nth a i - (nth b i) - (c:Int)→∃r,(bif decide (d<0) then
      (dB (dK (s.1++[(IntKind.u8.wrap (wI (d+256)))]).length 1) <|
     next ((s.1++[(IntKind.u8.wrap (wI (d+256)))]),1))
      else
      (dB (dK (s.1++[(IntKind.u8.wrap d)]).length 1) <|
     next ((s.1++[(IntKind.u8.wrap d)]),0)))=some r∧LsIs r (A - B):=fun d hd=>by
   by_cases hneg:d<0
   ·rw [decide_eq_true hneg,cond_true,gk a6,show d+256=(((d+256).toNat:Nat):Int) by omega];obtain ⟨k1,k2⟩:=key (d+256).toNat 1 a6 a6 a6;rw [show ((1:Nat):Int)=1 from rfl] at k1;rw [k1];exact hnx _ k2
   ·rw [decide_eq_false hneg,cond_false,show d=((d.toNat:Nat):Int) by omega];obtain ⟨k1,k2⟩:=key d.toNat 0 a6 a6 a6;rw [show ((0:Nat):Int)=0 from rfl] at k1;rw [k1];exact hnx _ k2
  by_cases hb':i<b.length
  ·rw [decide_eq_true a6,cond_true];refine fin _ ?_;rw [gk (x:=nth a i) a6,e1,gk (x:=nth a i - (c:Int)) a6,gk (x:=nth b i) a6,gk a6];omega
  ·rw [decide_eq_false a6,cond_false];refine fin _ ?_;rw [gk (x:=nth a i) a6,e1,gk a6,lG (l:=b) a6];omega
theorem orK8 {a b:Nat}(ha:a<256)(hb:b<256):orK .u8 (a:Int) (b:Int)=((a ||| b:Nat):Int):=by
 unfold orK; (have e1:(BitVec.ofInt 8 (a:Int)).toNat=a:=by rw [BitVec.toNat_ofInt];omega); (have e2:(BitVec.ofInt 8 (b:Int)).toNat=b:=by rw [BitVec.toNat_ofInt];omega);rw [show IntKind.u8.bits=8 from rfl,BitVec.toNat_or,e1,e2];have h:a ||| b<2 ^ 8:=Nat.or_lt_two_pow a6 a6;rw [u8w a6]
theorem andK8 {a:Nat}(ha:a<256):andK .u8 (a:Int) 1=((a % 2:Nat):Int):=by
 unfold andK; (have e1:(BitVec.ofInt 8 (a:Int)).toNat=a:=by rw [BitVec.toNat_ofInt];omega);rw [show IntKind.u8.bits=8 from rfl,BitVec.toNat_and,e1,show (BitVec.ofInt 8 (1:Int)).toNat=1 from rfl,Nat.and_one_is_mod,u8w a6]
theorem shr_8 {a b:Nat}(hb:b≤8):shrK .u8 (a:Int) (b:Int)=((a / 2 ^ b:Nat):Int):=by
 unfold shrK;rw [show IntKind.u8.bits=8 from rfl,Int.toNat_natCast,Nat.min_eq_left hb,Int.fdiv_eq_ediv_of_nonneg _ (by exact Int.le_of_lt (Int.pow_pos a6))];rw [Int.natCast_ediv,Int.natCast_pow];rfl
theorem shl_8 {b:Nat}(hb:b≤7):shlK .u8 1 (b:Int)=((2 ^ b:Nat):Int):=by
 have h:2 ^ b<2 ^ 8:=Nat.pow_lt_pow_right a6 a6;unfold shlK;rw [show IntKind.u8.bits=8 from rfl,Int.toNat_natCast,Nat.min_eq_left a6,Int.one_mul,show (2:Int) ^ b=((2 ^ b:Nat):Int) by rw [Int.natCast_pow];rfl,u8w ⟨Int.natCast_nonneg _,by have:=Int.ofNat_lt.2 h;rw [show ((2 ^ 8:Nat):Int)=256 from rfl] at this;exact this⟩]
theorem zlA {a:List Int}{A:Nat}(ha:LsIs a A)(i:Nat):(nth a (i / 8)).toNat / 2 ^ (i % 8) % 2=A / 2 ^ i % 2:=by
 have h:=ze9 (B:=256) a7 ha.dig (i / 8); (have e1:2 ^ i=256 ^ (i / 8) *2 ^ (i % 8):=by rw [ka,←Nat.pow_add,Nat.div_add_mod])
 have e2:256=2 ^ (i % 8) * (2*2 ^ (7 - i % 8)):=by
  rw [Nat.mul_left_comm,←Nat.pow_add,show i % 8+(7 - i % 8)=7 by omega]
 rw [h,ha.eq,e1,←Nat.div_div_eq_div_mul];generalize A / 256 ^ (i / 8)=Z;rw [e2,Nat.mod_mul_right_div_self,Nat.mod_mul_right_mod]
theorem zkQ {q:List Int}{i c n:Nat}(hq:Dig 256 q)(hl:q.length=n)(hi:i / 8<n)(hv:val 256 q=c*2 ^ (i+1)):∃w:Nat,orK .u8 (nth q (i / 8)) (shlK .u8 1 ((i % 8:Nat):Int))=(w:Int)∧w<256∧val 256 (q.set (i / 8) (w:Int))=(2*c+1) *2 ^ i:=by
 have hd:=hq.nth (i:=i / 8) a6;have h:=ze9 (B:=256) a7 hq (i / 8); (have e1:2 ^ (i+1)=256 ^ (i / 8) *2 ^ (i % 8+1):=by rw [ka,←Nat.pow_add];congr 1;omega); (have e2:256=2 ^ (i % 8+1) *2 ^ (7 - i % 8):=by rw [←Nat.pow_add,show i % 8+1+(7 - i % 8)=8 by omega])
 have hdig:(nth q (i / 8)).toNat=(c % 2 ^ (7 - i % 8)) *2 ^ (i % 8+1):=by
  rw [h,hv,e1,←Nat.mul_assoc,Nat.mul_right_comm,Nat.mul_comm (c*_),Nat.mul_div_cancel_left _ (Nat.pow_pos a7)];rw [Nat.mul_comm c]
  conv=>lhs;rw [e2]
  rw [Nat.mul_mod_mul_left,Nat.mul_comm]
 have hp8:2 ^ (i % 8)<2 ^ 8:=Nat.pow_lt_pow_right a6 a6;have hpp:2 ^ (i % 8)<2 ^ (i % 8+1):=Nat.pow_lt_pow_right a6 a6;have hor:=zgV (a:=2 ^ (i % 8)) (d:=c % 2 ^ (7 - i % 8)) (s:=i % 8+1) hpp;rw [←hdig] at hor
 have hlt:2 ^ (i % 8)+(nth q (i / 8)).toNat<256:=by
  have:2 ^ (i % 8) ||| (nth q (i / 8)).toNat<2 ^ 8:=Nat.or_lt_two_pow a6 a6;omega
 refine ⟨2 ^ (i % 8)+(nth q (i / 8)).toNat,?_,hlt,?_⟩
 ·rw [shl_8 a6];have:=orK8 (a:=(nth q (i / 8)).toNat) (b:=2 ^ (i % 8)) a6 a6;rw [Int.toNat_of_nonneg hd.1] at this;rw [this,Nat.or_comm,hor]
 ·have h1:=zjm (B:=256) (l:=q) (i:=i / 8) (x:=((2 ^ (i % 8)+(nth q (i / 8)).toNat:Nat):Int)) a6;rw [Int.toNat_natCast,Nat.mul_add,hv] at h1; (have e3:256 ^ (i / 8) *2 ^ (i % 8)=2 ^ i:=by rw [ka,←Nat.pow_add,Nat.div_add_mod]);rw [e3] at h1
  have e4:(2*c+1) *2 ^ i=c*2 ^ (i+1)+2 ^ i:=by
   rw [Nat.add_mul,Nat.one_mul,Nat.pow_succ,Nat.mul_comm 2 c,Nat.mul_assoc,Nat.mul_comm 2]
  omega
theorem zkJ {fuel:Nat}{a b:List Int}{A B:Nat}(ha:LsIs a A)(hb:LsIs b B)(hB:0<B)(la:a.length≤1000)(lb:b.length≤1000)(hf:2000≤fuel):∃q r,zdn fuel a b=some (q,r)∧LsIs q (A / B)∧LsIs r (A % B):=by
 unfold zdn;rw [eN (by show _*_≤_;omega)];simp only [dO]
 have hw:wI ((wI ((a.length:Int) *8)) - 1)=(a.length:Int) *8 - 1:=by
  rw [gk (x:=(a.length:Int) *8) a6,gk a6]
 rw [hw,eN a6,show ((a.length:Int) *8 - 1+1).toNat=8*a.length by omega];refine zfy (n:=8*a.length) (fun m (s:List Int×List Int)=>LsIs s.1 (A / 2 ^ m % B)∧s.2.length=a.length∧Dig 256 s.2∧val 256 s.2=A / 2 ^ m / B*2 ^ m) (fun o=>∃q r,o=some (q,r)∧LsIs q (A / B)∧LsIs r (A % B)) ?_ (fun s hI=>?_) (fun i s next hi hI hnx=>?_)
 ·have h0:A / 2 ^ (8*a.length)=0:=by
   rw [←ka];have:=j5 ha.dig;rw [ha.eq] at this;exact Nat.div_eq_of_lt this
  rw [h0,Nat.zero_mod,Nat.zero_div,Nat.zero_mul];exact ⟨.zero,by simp,gG a7 _,zis _⟩
 ·obtain ⟨i1,i2,i3,i4⟩:=hI;rw [Nat.pow_zero,Nat.div_one] at i1;rw [Nat.pow_zero,Nat.div_one,Nat.mul_one] at i4;obtain ⟨r,t1,t2⟩:=zkd (fuel:=fuel) (l:=s.2) a6 i3;rw [t1];rw [i4] at t2;exact ⟨r,s.1,rfl,t2,i1⟩
 ·obtain ⟨i1,i2,i3,i4⟩:=hI
  have hR:=Nat.mod_lt (A / 2 ^ (i+1)) hB
  have hhalf:A / 2 ^ i=2* (A / 2 ^ (i+1))+A / 2 ^ i % 2:=by
   have:=Nat.div_add_mod (A / 2 ^ i) 2;rw [Nat.div_div_eq_div_mul,←Nat.pow_succ] at this;exact this.symm
  have hdm:=Nat.div_add_mod (A / 2 ^ (i+1)) B;generalize hq1:A / 2 ^ (i+1) / B=q1 at *;generalize hRR:A / 2 ^ (i+1) % B=R at *;generalize A / 2 ^ (i+1)=A1 at *;have hlb:b.length≤1000:=lb;obtain ⟨k,hk⟩:∃k,k=1000:=⟨_,rfl⟩
  have hRb:R<256 ^ k:=by
   have h1:=j5 hb.dig;rw [hb.eq] at h1;exact Nat.lt_of_lt_of_le (Nat.lt_trans hR h1) (Nat.pow_le_pow_right a7 a6)
  have l1:=i1.len hRb;obtain ⟨t,p1,p2⟩:=zlz (fuel:=fuel) i1.dig i1.dig a6 a6 a6;rw [i1.eq] at p2
  have l2:t.length≤k+1:=p2.len (by
   rw [Nat.pow_succ];generalize 256 ^ k=z at*
   omega)
  rw [p1];refine fh ?_;rw [eN a6,eN a6,eN a6,eN a6,show ((i:Int) / 8).toNat=i / 8 by omega,show (i:Int) % 8=((i % 8:Nat):Int) by omega];have hda:=ha.dig.nth (i:=i / 8) a6
  have esh:andK .u8 (shrK .u8 (nth a (i / 8)) ((i % 8:Nat):Int)) 1=((A / 2 ^ i % 2:Nat):Int):=by
   have h1:=shr_8 (a:=(nth a (i / 8)).toNat) (b:=i % 8) a6;rw [Int.toNat_of_nonneg hda.1] at h1;have h2:(nth a (i / 8)).toNat / 2 ^ (i % 8)≤(nth a (i / 8)).toNat:=Nat.div_le_self _ _;rw [h1,andK8 a6,zlA ha]
  rw [esh];generalize hbit:A / 2 ^ i % 2=bt at *; (have hbt:bt<2:=by omega)
  have hT:A / 2 ^ i=B* (2*q1)+(2*R+bt):=by
   rw [hhalf,←hdm,Nat.mul_add,Nat.mul_left_comm];omega
  have fin:∀r9:List Int,LsIs r9 (2*R+bt)→r9.length≤k+1→∃q r,(bif decide (0≤(zcY r9 b)) then
     (zcX fuel r9 b).bind fun r42=>
     dB (0≤(i:Int)∧(i:Int)≤9223372036854775807∧1≤(8:Int)) <|
     dB (0≤(i:Int)∧(i:Int)≤9223372036854775807∧1≤(8:Int)) <|
     dB (0≤((i:Int) / 8)∧((i:Int) / 8)<(s.2.length:Int)) <|
     dB (0≤(i:Int)∧1≤(8:Int)) <|
     next (r42,(s.2.set (i / 8) (orK .u8 (nth s.2 (i / 8)) (shlK .u8 1 ((i % 8:Nat):Int)))))
     else
     next (r9,s.2))=some (q,r)∧LsIs q (A / B)∧LsIs r (A % B):=fun r9 h9 l9=>by
   rw [zlD h9 hb];by_cases hlt:2*R+bt<B
   ·rw [if_pos hlt,decide_eq_false a7,cond_false];refine hnx _ ⟨?_,i2,i3,?_⟩
    ·dsimp only;rw [hT,Nat.mul_add_mod,Nat.mod_eq_of_lt hlt];exact h9
    ·dsimp only;rw [hT,Nat.mul_add_div hB,Nat.div_eq_of_lt hlt,Nat.add_zero,i4,Nat.pow_succ,Nat.mul_comm 2 q1,Nat.mul_assoc,Nat.mul_comm 2]
   ·rw [if_neg hlt,decide_eq_true (by split <;> decide),cond_true];obtain ⟨r42,m1,m2⟩:=zlw (fuel:=fuel) h9 hb a6 a6 a6;rw [m1];refine fh ?_;rw [eN a6,eN a6,eN a6,eN a6];obtain ⟨w,w1,w2,w3⟩:=zkQ (i:=i) (c:=q1) (n:=a.length) i3 i2 a6 i4;rw [w1]; (have hT2:A / 2 ^ i=B* (2*q1+1)+(2*R+bt - B):=by rw [hT,Nat.mul_add,Nat.mul_one];omega);refine hnx _ ⟨?_,by dsimp only;rw [List.length_set];exact i2,i3.set a6,?_⟩
    ·dsimp only;rw [hT2,Nat.mul_add_mod,Nat.mod_eq_of_lt a6];exact m2
    ·dsimp only;rw [hT2,Nat.mul_add_div hB,Nat.div_eq_of_lt (show 2*R+bt - B<B by omega),Nat.add_zero,w3]
  by_cases hb1:bt=1
  ·rw [decide_eq_true a6,cond_true];obtain ⟨t2,e1,e2⟩:=zlz (fuel:=fuel) (b:=[1]) p2.dig (Dig.nil.cons a6) a6 b3 b9;rw [e1];refine fh ?_;rw [p2.eq,show val 256 [1]=1 from rfl] at e2;refine fin t2 (by rw [hb1,show 2*R+1=R+R+1 by omega];exact e2) (e2.len ?_);rw [Nat.pow_succ];generalize 256 ^ k=z at *;omega
  ·rw [decide_eq_false a6,cond_false];exact fin t (by rw [show 2*R+bt=R+R by omega];exact p2) l2
theorem zjk {fuel:Nat}{neg:Bool}{a:List Int}(ha:Dig 256 a)(la:a.length≤100000)(hf:a.length+1≤fuel):∃D,zch fuel neg a=some ⟨neg&&decide (0<val 256 a),D⟩∧BigIs D (val 256 a):=by
 unfold zch;obtain ⟨r,t1,t2⟩:=zkd (fuel:=fuel) hf ha;have hlr:r.length≤a.length:=t2.len (j5 ha);rw [t1];refine q3L ?_;refine zfy (n:=r.length) (fun m (out:List Int)=>out=(r.drop m).reverse) (fun (o:Option GInt)=>∃D,o=some (GInt.mk (neg&&decide (0<val 256 a)) D)∧BigIs D (val 256 a)) (by rw [List.drop_eq_nil_of_le (Nat.le_refl _)];rfl) (fun s hs=>?_) (fun i s next hi hs hnx=>?_)
 ·rw [List.drop_zero] at hs;subst hs;have e:decide (0<(r.length:Int))=decide (0<val 256 a):=decide_eq_decide.2 (by rw [←t2.pos];omega);rw [e];exact ⟨_,rfl,t2.big⟩
 ·have e:s++[nth r i]=(r.drop i).reverse:=by
   rw [List.drop_eq_getElem_cons hi,List.reverse_cons,hs,fT hi]
  rw [e,eN (by show _*_≤_;rw [List.length_reverse,List.length_drop];omega)];exact hnx _ rfl
theorem zjr {fuel:Nat}{a b:GInt}(hf:2000≤fuel)(ha:VI a)(hb:VI b)(da:Dig 256 a.Digits)(db:Dig 256 b.Digits):∃D,zc6 fuel a b=some ⟨false,D⟩∧BigIs D (Nat.gcd (dI a) (dI b)):=by
 have la:=ha.len;have lb:=hb.len;have va:=ha.lt da;have vb:=hb.lt db;unfold zc6;rw [rAbs a6,rAbs a6];refine q3L ?_;obtain ⟨e,he⟩:∃e,e=512:=⟨_,rfl⟩;obtain ⟨k64,h64k⟩:∃k,k=64:=⟨_,rfl⟩; (have h64:256 ^ k64=fR:=by rw [h64k,M512_64]);refine lE (fun (s:List Int×List Int) X Y=>LsIs s.1 X∧LsIs s.2 Y∧X<fR∧Y<fR) (fun (o:Option GInt)=>∃D,o=some (GInt.mk false D)∧BigIs D (Nat.gcd (dI a) (dI b))) (k:=e+e) (X:=dI a) (Y:=dI b) (s:=(a.Digits.reverse,b.Digits.reverse)) (show LsIs a.Digits.reverse (dI a)∧LsIs b.Digits.reverse (dI b)∧dI a<fR∧dI b<fR from ⟨(ha.big da).ls,(hb.big db).ls,va,vb⟩) ?_ a6 (fun s next hI=>?_) (fun s next X Y hI hY hnx=>?_)
 ·have:=Nat.mul_lt_mul'' va vb;rw [zfM he,←Nat.pow_add] at this;exact this
 ·obtain ⟨i1,i2,i3,i4⟩:=hI;have e0:=i2.nil.2 rfl;rw [e0,decide_eq_false a7,cond_false];have hl:=i1.len (k:=k64) (by rw [h64];exact i3);obtain ⟨D,d1,d2⟩:=zjk (fuel:=fuel) (neg:=false) i1.dig a6 a6;rw [d1];rw [i1.eq] at d2;exact ⟨D,rfl,d2⟩
 ·obtain ⟨i1,i2,i3,i4⟩:=hI;have hp:=i2.pos.2 hY;have l1:=i1.len (k:=k64) (by rw [h64];exact i3);have l2:=i2.len (k:=k64) (by rw [h64];exact i4);rw [decide_eq_true a6,cond_true];obtain ⟨q,r,e1,e2,e3⟩:=zkJ (fuel:=fuel) i1 i2 hY a6 a6 hf;rw [e1];refine fh ?_;exact hnx _ ⟨i2,e3,i4,Nat.lt_trans (Nat.mod_lt _ hY) i4⟩
theorem rOf {fuel:Nat}{n:Int}(hf:2000≤fuel)(hn:0≤n∧n≤9223372036854775807):∃D,zd6 fuel n=some ⟨false,D⟩∧BigIs D n.toNat:=by
 unfold zd6;simp only [dO];have hneg:decide (n<0)=false:=decide_eq_false a6;rw [hneg]
 have key:∀k m:Nat,∀s:List Int×Int,0≤s.2→s.2.toNat<256 ^ k→k+1≤m→s.1.length+k≤1000→Dig 256 s.1→val 256 s.1+256 ^ s.1.length*s.2.toNat=n.toNat→s.2≤9223372036854775807→∃D,eV (fun (next5:(List Int×Int)→Option GInt) (s5:List Int×Int)=>
   (bif decide (¬s5.2=0) then
    dB (0≤s5.2∧1≤(256:Int)) <|
     (bif decide ((s5.2 % 256)<0) then
      dB (dK (s5.1++[(IntKind.u8.wrap (wI (0 - (s5.2 % 256))))]).length 1) <|
     dB (0≤s5.2∧s5.2≤9223372036854775807∧1≤(256:Int)) <|
     next5 ((s5.1++[(IntKind.u8.wrap (wI (0 - (s5.2 % 256))))]),(s5.2 / 256))
      else
      dB (dK (s5.1++[(IntKind.u8.wrap (s5.2 % 256))]).length 1) <|
     dB (0≤s5.2∧s5.2≤9223372036854775807∧1≤(256:Int)) <|
     next5 ((s5.1++[(IntKind.u8.wrap (s5.2 % 256))]),(s5.2 / 256)))
    else
    (zch fuel false s5.1).bind fun r25=>some r25)) m s=some ⟨false,D⟩∧BigIs D n.toNat:=by
  intro k
  induction k with
  |zero=>
   intro m s h0 h1 h2 h3 h4 h5 h6;obtain ⟨m',rfl⟩:∃q,m=q+1:=⟨m - 1,by omega⟩;rw [Nat.pow_zero] at h1;rw [mz,decide_eq_false a6,cond_false];obtain ⟨D,d1,d2⟩:=zjk (fuel:=fuel) (neg:=false) h4 a6 a6;rw [d1];rw [show s.2.toNat=0 by omega,Nat.mul_zero,Nat.add_zero] at h5;rw [h5] at d2;exact ⟨D,rfl,d2⟩
  |succ k ih=>
   intro m s h0 h1 h2 h3 h4 h5 h6;obtain ⟨m',rfl⟩:∃q,m=q+1:=⟨m - 1,by omega⟩;rw [mz];by_cases hz:s.2=0
   ·rw [decide_eq_false a6,cond_false];obtain ⟨D,d1,d2⟩:=zjk (fuel:=fuel) (neg:=false) h4 a6 a6;rw [d1];rw [show s.2.toNat=0 by omega,Nat.mul_zero,Nat.add_zero] at h5;rw [h5] at d2;exact ⟨D,rfl,d2⟩
   ·rw [decide_eq_true hz,cond_true,eN a6,decide_eq_false a6,cond_false,eN (by show _*_≤_;rw [List.length_append];simp;omega),eN a6];rw [u8w a6];refine ih m' _ a9 ?_ a6 (by dsimp only;rw [List.length_append];simp;omega) (h4.app (Dig.nil.cons a6)) ?_ a9
    ·dsimp only;rw [Nat.pow_succ] at h1;generalize 256 ^ k=z at *;omega
    ·dsimp only;rw [zhI,List.length_append,show ([s.2 % 256]:List Int).length=1 from rfl,Nat.pow_succ,Nat.mul_assoc,Nat.add_assoc,←Nat.mul_add,←h5]
     congr 2
     omega
 exact key 8 fuel ([],n) a9 a9 a6 b3 Dig.nil (by simp [val]) a9
theorem ziW:∀ {a b:List Int},Dig 256 a→Dig 256 b→i0 a=i0 b→a=b
 | [],[],_,_,_=>rfl
 | [],_ :: _,_,_,h=>by cases h
 |_ :: _,[],_,_,h=>by cases h
 |x :: a,y :: b,ha,hb,h=>by
  unfold i0 at h;rw [List.map_cons,List.map_cons,List.cons.injEq] at h;have h1:=ha.head;have h2:=hb.head;have h3:=congrArg UInt8.toNat h.1;rw [UInt8.toNat_ofNat',UInt8.toNat_ofNat'] at h3;rw [ziW ha.tail hb.tail h.2,show x=y by omega]
theorem rSame {D E:List Int}{X Y:Nat}{n m:Bool}(hD:BigIs D X)(hE:BigIs E Y):ml ⟨n,D⟩ ⟨m,E⟩=(n == m&&decide (X=Y)):=by
 unfold ml;dsimp only;by_cases h:X=Y
 ·subst h;rw [hD.uniq hE,decide_eq_true rfl,beq_self_eq_true]
 ·have:(i0 D == i0 E)=false:=by
   rw [beq_eq_false_iff_ne];intro he;have:=ziW hD.dig hE.dig he;subst this;exact h (hD.eq.symm.trans hE.eq)
  rw [this,decide_eq_false h]
theorem zlg {g:GInt}(h:VI g):zcx g=some true:=by
 unfold zcx;have hl:=h.len;rw [decide_eq_false a6,cond_false];by_cases h0:g.Digits=[]
 ·rw [h.sgn h0,h0];rfl
 ·have:=List.length_pos_iff.2 h0;have h1:=h.lead.elim (fun e=>absurd e h0) id;rw [decide_eq_false a6,cond_false,eN a6,decide_eq_true h1]
theorem zlj {g:GInt}(h:¬VI g):zcx g=some false:=by
 unfold zcx;by_cases hl:g.Digits.length≤64
 ·rw [decide_eq_false a6,cond_false];by_cases h0:g.Digits=[]
  ·cases hn:g.Neg with
   |false=>exact absurd ⟨hl, .inl h0,fun _=>hn⟩ h
   |true=>rw [h0];rfl
  ·have:=List.length_pos_iff.2 h0;rw [decide_eq_false a6,cond_false,eN a6];by_cases h2:nth g.Digits 0=0
   ·rw [h2];rfl
   ·exact absurd ⟨hl, .inr h2,fun e=>absurd e h0⟩ h
 ·rw [decide_eq_true a6,cond_true]
theorem zj4 {fuel:Nat}{p:GRatio}(hf:2000≤fuel)(dn:Dig 256 p.Num.Digits)(dd:Dig 256 p.Den.Digits):∃b,zdL fuel p=some b∧(b=true↔VR p):=by
 unfold zdL;simp only [dO];by_cases hN:VI p.Num
 ·rw [zlg hN];simp only [Option.bind_some,cond_true];by_cases hD:VI p.Den
  ·rw [zlg hD];simp only [Option.bind_some,cond_true]
   cases hneg:p.Den.Neg with
   |true=>exact ⟨false,rfl,fun h=>(by cases h),fun h=>(by have:=h.neg;rw [hneg] at this;cases this)⟩
   |false=>
    simp only [Bool.not_false,cond_true];obtain ⟨C,c1,c2⟩:=zjr (fuel:=fuel) hf hN hD dn dd;obtain ⟨E,e1,e2⟩:=rOf (fuel:=fuel) (n:=1) hf a6;rw [c1,e1];refine fh ?_;rw [rSame c2 e2,beq_self_eq_true,Bool.true_and,show (1:Int).toNat=1 from rfl];have hp:=(hD.big dd).pos;by_cases hg:Nat.gcd (dI p.Num) (dI p.Den)=1
    ·rw [decide_eq_true hg,cond_true];refine ⟨_,rfl,?_⟩;rw [decide_eq_true_eq];exact ⟨fun h=>⟨hN,hD,hneg,hp.1 a6,hg⟩,fun h=>(by have:=hp.2 h.pos;omega)⟩
    ·rw [decide_eq_false hg,cond_false];exact ⟨false,rfl,fun h=>(by cases h),fun h=>absurd h.gcd hg⟩
  ·rw [zlj hD];exact ⟨false,rfl,fun h=>(by cases h),fun h=>absurd h.den hD⟩
 ·rw [zlj hN];exact ⟨false,rfl,fun h=>(by cases h),fun h=>absurd h.num hN⟩
theorem zjC {g:GInt}(hd:Dig 256 g.Digits):kY g=if g.Neg=true∨2<g.Digits.length then -1 else (dI g:Int):=by
 obtain ⟨neg,D⟩:=g;unfold kY;dsimp only at hd ⊢
 cases neg with
 |true=>rw [if_pos (.inl rfl)];rfl
 |false=>
  by_cases hl:2<D.length
  ·rw [if_pos (.inr hl),decide_eq_true a6];rfl
  ·rw [if_neg b9,decide_eq_false a6];simp only [Bool.or_self,cond_false,dO,dI]
   match D,hl,hd with
   | [],_,_=>rfl
   | [a],_,h=>
    have:=h.head
    show wI ((wI (0*256))+(wI a))=_
    rw [gk (x:=0*256) a6,gk (x:=a) a6,gk a6];simp [val];omega
   | [a,b],_,h=>
    have h1:=h.head;have h2:=h.tail.head
    show wI ((wI ((wI ((wI (0*256))+(wI a))) *256))+(wI b))=_
    rw [gk (x:=0*256) a6,gk (x:=a) a6,gk (x:=0*256+a) a6,gk (x:=(0*256+a) *256) a6,gk (x:=b) a6,gk a6];simp [val];omega
   |_ :: _ :: _ :: _,h,_=>exact absurd b3 h
structure PT (p:GRatio):Prop where
 r:VR p
 nn:p.Num.Neg=false
 den:dI p.Den≤1000
 num:dI p.Num≤dI p.Den
theorem zgy {g:GInt}(h:g.Neg=false):zI g=(dI g:Int):=by unfold zI;rw [h,if_neg b3]
theorem zk7 {fuel:Nat}{p:GRatio}(hf:2000≤fuel)(dn:Dig 256 p.Num.Digits)(dd:Dig 256 p.Den.Digits):∃b,zbV fuel p=some b∧(b=true↔PT p):=by
 obtain ⟨b,b1,b2⟩:=zj7 (fuel:=fuel) hf dn dd;unfold zbV zeO;rw [b1];refine q3L ?_
 cases b with
 |false=>exact ⟨false,rfl,fun h=>(by cases h),fun h=>b2.2 h.r⟩
 |true=>
  have hv:=b2.1 rfl;simp only [Bool.not_true,cond_false];rw [ziX hv.num dn];refine fh ?_;have hnz:=(hv.num.big dn).nil
  cases hn:p.Num.Neg with
  |true=>
   have h0:dI p.Num≠0:=fun e=>by
    have:=hv.num.sgn (hnz.2 e);rw [hn] at this;cases this
   rw [if_neg h0,if_pos rfl];exact ⟨false,rfl,fun h=>(by cases h),fun h=>(by have:=h.nn;rw [hn] at this;cases this)⟩
  |false=>
   have e:decide ((if dI p.Num=0 then (0:Int) else if false=true then -1 else 1)<0)=false:=by
    split <;> rfl
   rw [e,cond_false];obtain ⟨E,e1,e2⟩:=ky (fuel:=fuel) (n:=1000) hf a6;rw [e1];refine fh ?_;have h1:(1000:Int).natAbs=1000:=rfl;rw [h1] at e2;have hE:VI ⟨decide ((1000:Int)<0),E⟩:=fy e2 (Nat.lt_of_lt_of_le (show 1000<2 ^ 10 by decide) (zg3 a6))
   have zE:zI ⟨decide ((1000:Int)<0),E⟩=1000:=by
    rw [zgy rfl];unfold dI;rw [e2.eq];rfl
   rw [zfz hf hv.den hE dd e2.dig];refine fh ?_;rw [zE,zgy hv.neg];by_cases hd:dI p.Den≤1000
   ·have hle:(if ((dI p.Den:Nat):Int)<1000 then (-1:Int) else if (1000:Int)<((dI p.Den:Nat):Int) then 1 else 0)≤0:=by
     split
     ·decide
     ·rw [if_neg a6];decide
    rw [decide_eq_true hle,cond_true,zfz hf hv.num hv.den dn dd];refine fh ?_;rw [zgy hn,zgy hv.neg];refine ⟨_,rfl,?_⟩;rw [decide_eq_true_eq];constructor
    ·intro h;refine ⟨hv,hn,hd,?_⟩
     split at h
     ·omega
     ·split at h
      ·exact absurd h a7
      ·omega
    ·intro h;have:=h.num
     split
     ·decide
     ·rw [if_neg a6];decide
   ·rw [decide_eq_false (by rw [if_neg a6,if_pos a6];decide),cond_false];exact ⟨false,rfl,fun h=>(by cases h),fun h=>absurd h.den hd⟩
theorem zkm {fuel:Nat}{p:GRatio}(hf:2000≤fuel)(dn:Dig 256 p.Num.Digits)(dd:Dig 256 p.Den.Digits):∃b,zdU fuel p=some b∧(b=true↔PT p):=by
 obtain ⟨b,b1,b2⟩:=zj4 (fuel:=fuel) hf dn dd;unfold zdU;rw [b1];refine fh ?_
 cases b with
 |false=>exact ⟨false,rfl,fun h=>(by cases h),fun h=>b2.2 h.r⟩
 |true=>
  have hv:=b2.1 rfl;simp only [Bool.not_true,cond_false];rw [zjC dn,zjC dd];refine ⟨_,rfl,?_⟩;simp only [Bool.and_eq_true,decide_eq_true_eq]
  have long:∀ {g:GInt},VI g→Dig 256 g.Digits→2<g.Digits.length→65536≤dI g:=fun {g} h hd hl=>by
   have hb:=h.big hd;refine Nat.le_of_not_lt fun hc=>?_;have:=hb.len (k:=2) a6;omega
  constructor
  ·rintro ⟨⟨⟨h1,h2⟩,h3⟩,h4⟩
   split at h1
   ·omega
   ·rename_i hc
    split at h2
    ·omega
    ·have hn:p.Num.Neg=false:=by
      cases hh:p.Num.Neg with
      |false=>rfl
      |true=>exact absurd (.inl hh) hc
     rw [if_neg hc,if_neg cW] at h4;rw [if_neg cW] at h3;exact ⟨hv,hn,by omega,by omega⟩
  ·intro h;have hd:=h.den;have hm:=h.num;have hp:=hv.pos
   have c1:¬(p.Num.Neg=true∨2<p.Num.Digits.length):=by
    rintro (hc|hc)
    ·rw [h.nn] at hc;cases hc
    ·have:=long hv.num dn hc;omega
   have c2:¬(p.Den.Neg=true∨2<p.Den.Digits.length):=by
    rintro (hc|hc)
    ·rw [hv.neg] at hc;cases hc
    ·have:=long hv.den dd hc;omega
   rw [if_neg c1,if_neg c2];exact ⟨⟨⟨by omega,by omega⟩,by omega⟩,by omega⟩
def fw (F:Frz)(c:List Value)(x:List GBid):Prop:=∃(v0:Value) (cs0:List (List Value)),c=[v0]∧SlD df F v0 7 cs0 x
theorem R_List_GBid.mono {F G:Frz}{c:List Value}{x:List GBid}(hle:F.Le G)(h:fw F c x):fw G c x:=by
 obtain ⟨v0,cs0,h0,h1⟩:=h;exact ⟨v0,cs0,h0,SlD.mono (rep:=df) (fun _ _ _ _=>GBid.mono) h1 hle⟩
theorem R_List_GBid.len {F:Frz}{c:List Value}{x:List GBid}(h:fw F c x):c.length=1:=by
 obtain ⟨v0,cs0,h0,h1⟩:=h;subst h0;rfl
theorem R_List_GBid.one {F:Frz}{c:List Value}{x:List GBid}(h:fw F c x):OneCs c:=by
 obtain ⟨v0,cs0,h0,h1⟩:=h;subst h0;haveI:=h1.1.oneC
 infer_instance
def zcZ (fuel : Nat)  : Option Bool :=
 (zfg [(GProduct.mk 0 1 2 1 100)] [(GBidder.mk 0 2 0 [2]),(GBidder.mk 1 2 0 [1])] (GIncrement.mk 100 10) ([107,101,121]:List Int)).bind fun r25=>
 (bif (r25.1).isSome then
 dO (fun (x_2:Bool)=>
 (bif x_2 then
 some false
 else
 (zd4 fuel 1 2).bind fun r55=>
 (zbL fuel (r25.1.getD default) [(GBid.mk 0 0 (-2) (GRatio.mk (GInt.mk r55.Num.Neg r55.Num.Digits) (GInt.mk r55.Den.Neg r55.Den.Digits)))]).bind fun r61=>
 (zcu fuel [(GBid.mk 0 0 (-2) (GRatio.mk (GInt.mk r55.Num.Neg r55.Num.Digits) (GInt.mk r55.Den.Neg r55.Den.Digits)))]).bind fun r66=>
 (zbb (GAuction.mk ((r25.1.getD default).catalogue) r61.2.2.1 (GIncrement.mk ((r25.1.getD default).increment.Activity) ((r25.1.getD default).increment.Step)) ((r25.1.getD default).key) r61.2.2.2.1 r61.2.2.2.2) 0).bind fun r71=>
 (zbb (GAuction.mk ((r25.1.getD default).catalogue) r61.2.2.1 (GIncrement.mk ((r25.1.getD default).increment.Activity) ((r25.1.getD default).increment.Step)) ((r25.1.getD default).key) r61.2.2.2.1 r61.2.2.2.2) 1).bind fun r76=>
 dO (fun (x_8:Bool)=>
 some x_8)
 (fun k9=>
 (bif decide (r61.2.1=0) then
 (bif decide (r66.2=0) then
 (bif decide (r71.2=0) then
 (bif decide (r76.2=0) then
 (bif (zcw r61.1 [(-1)]) then
 (zbd (GAuction.mk ((r25.1.getD default).catalogue) r61.2.2.1 (GIncrement.mk ((r25.1.getD default).increment.Activity) ((r25.1.getD default).increment.Step)) ((r25.1.getD default).key) r61.2.2.2.1 r61.2.2.2.2)).bind fun r100=>
 (bif (zcw r100 [105]) then
 (zbm (GAuction.mk ((r25.1.getD default).catalogue) r61.2.2.1 (GIncrement.mk ((r25.1.getD default).increment.Activity) ((r25.1.getD default).increment.Step)) ((r25.1.getD default).key) r61.2.2.2.1 r61.2.2.2.2)).bind fun r106=>
 (bif r106 then
 (zbv (GAuction.mk ((r25.1.getD default).catalogue) r61.2.2.1 (GIncrement.mk ((r25.1.getD default).increment.Activity) ((r25.1.getD default).increment.Step)) ((r25.1.getD default).key) r61.2.2.2.1 r61.2.2.2.2)).bind fun r110=>
 (bif decide (r110=210) then
 (zbM (GAuction.mk ((r25.1.getD default).catalogue) r61.2.2.1 (GIncrement.mk ((r25.1.getD default).increment.Activity) ((r25.1.getD default).increment.Step)) ((r25.1.getD default).key) r61.2.2.2.1 r61.2.2.2.2)).bind fun r115=>
 (bif decide (r115=2) then
 (bif decide (r71.1.Eligibility=1) then
 (bif decide (r76.1.Eligibility=1) then
 k9 ((i0 r66.1) == ([1,0,0,3,1,2]:List UInt8))
 else
 k9 false)
 else
 k9 false)
 else
 k9 false)
 else
 k9 false)
 else
 k9 false)
 else
 k9 false)
 else
 k9 false)
 else
 k9 false)
 else
 k9 false)
 else
 k9 false)
 else
 k9 false))))
 (fun k3=>
 (bif decide (¬r25.2=0) then
 k3 true
 else
 (zaE (r25.1.getD default)).bind fun r36=>
 (bif !(zcw r36 [1]) then
 k3 true
 else
 (zbd (r25.1.getD default)).bind fun r43=>
 (bif !(zcw r43 [100]) then
 k3 true
 else
 (zba (r25.1.getD default)).bind fun r50=>
 k3 (!(zcw r50 [110]))))))
 else
 none)
theorem zfd (F0 : Frz)(w : World)(hF0 : F0.At w)  (hgl : GlF F0)(fuel : Nat)(r : Bool)(hr : zcZ fuel = some r) : Calls Tryz.prog 11 #[] w fun e w' => e = .returned (.bool r) ∧ Below w.heap.size w w' := by
 have hk:=hr;unfold zcZ at hk;obtain ⟨S0,F1,rfl,hS0,hp0⟩:=eH hF0;refine dT Tryz.func11 rfl rfl rfl hp0 ?_;refine jE ?_;refine jj ?_;refine iA ?_;rintro _ _ ⟨g14,rfl,rfl⟩;refine gj ?_;refine j9 (fun w hw=>hw.freezeR (i:=1) (j:=0) a7 rfl rfl) ?_;rintro F2 ⟨le1_2,hz2⟩;refine fQ ?_;have hfF2:SlC F2.toFrz (.slice (some ⟨g14,0,none⟩) 1 1) 5 ([(GProduct.mk 0 1 2 1 100)].map dh):=(SlK.lit hz2 rfl (Nat.le_refl _) a7).toF (xs:=[(GProduct.mk 0 1 2 1 100)]) rfl GProduct.len;have hq:=dC hk;clear hk;obtain ⟨r25,hr25,hk⟩:=hq; (try dsimp only at hk);refine jz ((r25.1).isSome) (fun h1=>?_) (fun h1=>?_)
 ·replace hk:=dt hk h1;refine eF ?_;refine iA ?_;rintro _ _ ⟨g17,rfl,rfl⟩;refine q1Z ?_;rintro F3 ⟨le2_3,hz3⟩;refine fQ ?_;have le1_3:=le1_2.trans le2_3;have hfF3:SlC F3.toFrz (.slice (some ⟨g17,0,none⟩) 1 1) 1 ([2].map eI):=(SlK.lit hz3 rfl (Nat.le_refl _) a7).toF (xs:=[2]) rfl (fun _=>rfl);refine jj ?_;refine iA ?_;rintro _ _ ⟨g19,rfl,rfl⟩;refine q1Z ?_;rintro F4 ⟨le3_4,hz4⟩;refine fQ ?_;have le1_4:=le1_3.trans le3_4;have le2_4:=le2_3.trans le3_4;have hfF4:SlC F4.toFrz (.slice (some ⟨g19,0,none⟩) 1 1) 1 ([1].map eI):=(SlK.lit hz4 rfl (Nat.le_refl _) a7).toF (xs:=[1]) rfl (fun _=>rfl);refine jj ?_;refine iA ?_;rintro _ _ ⟨g21,rfl,rfl⟩;have hl21:OwnD cZ F4.toFrz 4 [[.int .i64 0, .int .i64 2, .int .i64 0,(.slice (some ⟨g17,0,none⟩) 1 1)],[.int .i64 1, .int .i64 2, .int .i64 0,(.slice (some ⟨g19,0,none⟩) 1 1)]] [(GBidder.mk 0 2 0 [2]),(GBidder.mk 1 2 0 [1])]:=(eS (eS (OwnD.nil _ _ 4) ⟨_,rfl,(SlC.mono hfF3 le3_4)⟩) ⟨_,rfl,hfF4⟩);refine q1Z ?_;rintro F5 ⟨le4_5,hz5⟩;refine fQ ?_;have le1_5:=le1_4.trans le4_5;have le2_5:=le2_4.trans le4_5;have hfF5:SlD cZ F5.toFrz (.slice (some ⟨g21,0,none⟩) 2 2) 4 [[.int .i64 0, .int .i64 2, .int .i64 0,(.slice (some ⟨g17,0,none⟩) 1 1)],[.int .i64 1, .int .i64 2, .int .i64 0,(.slice (some ⟨g19,0,none⟩) 1 1)]] [(GBidder.mk 0 2 0 [2]),(GBidder.mk 1 2 0 [1])]:=(SlK.lit hz5 rfl (Nat.le_refl _) a7).toD (OwnD.mono (rep:=cZ) (fun _ _ _ _=>GBidder.mono) hl21 le4_5) rfl;refine jj ?_;refine iA ?_;rintro _ _ ⟨g23,rfl,rfl⟩;refine q4h ?_;rintro _ _ ⟨F6,⟨le5_6,hf24⟩,rfl,rfl⟩;refine fQ ?_;have le1_6:=le1_5.trans le5_6;have le2_6:=le2_5.trans le5_6;haveI:=hf24.oneC;refine de (eM [0] [] [] rfl rfl rfl rfl a7 (fun w hw hw2 hF=>(zf8 _ w hF [(GProduct.mk 0 1 2 1 100)] (.slice (some ⟨g14,0,none⟩) 1 1) (SlC.mono hfF2 le2_6) [(GBidder.mk 0 2 0 [2]),(GBidder.mk 1 2 0 [1])] (.slice (some ⟨g21,0,none⟩) 2 2) [[.int .i64 0, .int .i64 2, .int .i64 0,(.slice (some ⟨g17,0,none⟩) 1 1)],[.int .i64 1, .int .i64 2, .int .i64 0,(.slice (some ⟨g19,0,none⟩) 1 1)]] (SlD.mono (rep:=cZ) (fun _ _ _ _=>GBidder.mono) hfF5 le5_6) (GIncrement.mk 100 10) ([107,101,121]:List Int) (.slice (some ⟨g23,0,none⟩) 3 3) hf24 r25 hr25).mono (fun e w' hp=>hp.1 h1))) ?_;rintro _ _ ⟨⟨g25_n,v25_n_0,v25_n_1,c25_n_1,v25_n_4,v25_n_6⟩,F7,le6_7,⟨hf25_n_0,hf25_n_1,hf25_n_4,hf25_n_6⟩,rfl,rfl⟩;refine fe ?_; (try dsimp only at hf25_n_0 hf25_n_1 hf25_n_4 hf25_n_6);have le1_7:=le1_6.trans le6_7;refine i9 ?_;refine jv ?_; (try dsimp only at hk);have hq:=ek hk;clear hk;obtain ⟨k3,hk3,hk⟩:=hq; (try dsimp only at hk);refine dk (ι:=Bool×FzB w (fun _=>False) S0) (fun z=>[(2, .pointer (some ⟨g25_n,0,none⟩)),(54, .bool z.1)]) (fun z=>[.row g25_n 104 [v25_n_0,v25_n_1, .int .i64 ((r25.1.getD default).increment.Activity), .int .i64 ((r25.1.getD default).increment.Step),v25_n_4, .int .i64 ((r25.1.getD default).rounds),v25_n_6], .fr z.2]) (fun z=>k3 z.1=some r∧F7.toFrz.Le z.2.toFrz) ?_ ?_
  ·refine gR ?_;refine dp rfl rfl rfl (fun h4=>?_) (fun h4=>?_)
   ·have p4:=of_decide_eq_true h4;replace hk:=dt hk h4;refine TL.run 24 rfl ?_;refine fM ?_;exact dg (true,F7) ⟨hk,(Frz.Le.refl _)⟩ (.c (.c .nil)) (List.Sublist.refl _)
   ·have p4:=of_decide_eq_false h4;replace hk:=dw hk h4;refine dH ?_;refine cY (mD (e:=104) a8 rfl rfl rfl) ?_;refine fU ?_;have hq:=dC hk;clear hk;obtain ⟨r36,hr36,hk⟩:=hq;refine de (eM [0,1] [.row g25_n 104 [v25_n_0,v25_n_1, .int .i64 ((r25.1.getD default).increment.Activity), .int .i64 ((r25.1.getD default).increment.Step),v25_n_4, .int .i64 ((r25.1.getD default).rounds),v25_n_6]] [] rfl rfl rfl rfl a7 (fun w hw hw2 hF=>zaS _ w hF (r25.1.getD default) g25_n v25_n_0 hf25_n_0 v25_n_1 c25_n_1 hf25_n_1 v25_n_4 hf25_n_4 v25_n_6 hf25_n_6 hw2.takes.1 hw2.takes.2 r36 hr36)) ?_;rintro _ _ ⟨v36_0_0,F9,le7_9,hf36_0_0,hq,rfl⟩;obtain rfl:=hq.symm;refine fe ?_;haveI:=hf36_0_0.oneC;refine iA ?_;rintro _ _ ⟨g37,rfl,rfl⟩;refine q11 ?_;rintro F10 ⟨le9_10,hz10⟩;refine fQ ?_;have le7_10:=le7_9.trans le9_10;have hfF10:SlC F10.toFrz (.slice (some ⟨g37,0,none⟩) 1 1) 1 ([1].map eI):=(SlK.lit hz10 rfl (Nat.le_refl _) a7).toF (xs:=[1]) rfl (fun _=>rfl);refine de (dj rfl rfl rfl (fun w hw=>zen _ w (hw.fr (i:=1) rfl) r36 v36_0_0 (SlC.mono hf36_0_0 le9_10) [1] (.slice (some ⟨g37,0,none⟩) 1 1) hfF10)) ?_;refine eA ?_;refine fU ?_;refine dp rfl rfl rfl (fun h5=>?_) (fun h5=>?_)
    ·replace hk:=dt hk h5;refine TL.run 13 rfl ?_;refine fM ?_;exact dg (true,F10) ⟨hk,le7_10⟩ (.c (.c .nil)) (List.Sublist.refl _)
    ·replace hk:=dw hk h5;refine dH ?_;have hq:=dC hk;clear hk;obtain ⟨r43,hr43,hk⟩:=hq;refine de (eM [0,1] [.row g25_n 104 [v25_n_0,v25_n_1, .int .i64 ((r25.1.getD default).increment.Activity), .int .i64 ((r25.1.getD default).increment.Step),v25_n_4, .int .i64 ((r25.1.getD default).rounds),v25_n_6]] [] rfl rfl rfl rfl a7 (fun w hw hw2 hF=>zcj _ w hF (r25.1.getD default) g25_n v25_n_0 (SlC.mono hf25_n_0 le7_10) v25_n_1 c25_n_1 (SlD.mono (rep:=cZ) (fun _ _ _ _=>GBidder.mono) hf25_n_1 le7_10) v25_n_4 (SlC.mono hf25_n_4 le7_10) v25_n_6 (SlC.mono hf25_n_6 le7_10) hw2.takes.1 hw2.takes.2 r43 hr43)) ?_;rintro _ _ ⟨v43_0_0,F11,le10_11,hf43_0_0,hq,rfl⟩;obtain rfl:=hq.symm;refine fe ?_;have le7_11:=le7_10.trans le10_11;haveI:=hf43_0_0.oneC;refine iA ?_;rintro _ _ ⟨g44,rfl,rfl⟩;refine q11 ?_;rintro F12 ⟨le11_12,hz12⟩;refine fQ ?_;have le7_12:=le7_11.trans le11_12;have hfF12:SlC F12.toFrz (.slice (some ⟨g44,0,none⟩) 1 1) 1 ([100].map eI):=(SlK.lit hz12 rfl (Nat.le_refl _) a7).toF (xs:=[100]) rfl (fun _=>rfl);refine de (dj rfl rfl rfl (fun w hw=>zen _ w (hw.fr (i:=1) rfl) r43 v43_0_0 (SlC.mono hf43_0_0 le11_12) [100] (.slice (some ⟨g44,0,none⟩) 1 1) hfF12)) ?_;refine eA ?_;refine fU ?_;refine dp rfl rfl rfl (fun h6=>?_) (fun h6=>?_)
     ·replace hk:=dt hk h6;refine TL.run 6 rfl ?_;refine fM ?_;exact dg (true,F12) ⟨hk,le7_12⟩ (.c (.c .nil)) (List.Sublist.refl _)
     ·replace hk:=dw hk h6;refine dH ?_;have hq:=dC hk;clear hk;obtain ⟨r50,hr50,hk⟩:=hq;refine de (eM [0,1] [.row g25_n 104 [v25_n_0,v25_n_1, .int .i64 ((r25.1.getD default).increment.Activity), .int .i64 ((r25.1.getD default).increment.Step),v25_n_4, .int .i64 ((r25.1.getD default).rounds),v25_n_6]] [] rfl rfl rfl rfl a7 (fun w hw hw2 hF=>zck _ w hF (r25.1.getD default) g25_n v25_n_0 (SlC.mono hf25_n_0 le7_12) v25_n_1 c25_n_1 (SlD.mono (rep:=cZ) (fun _ _ _ _=>GBidder.mono) hf25_n_1 le7_12) v25_n_4 (SlC.mono hf25_n_4 le7_12) v25_n_6 (SlC.mono hf25_n_6 le7_12) hw2.takes.1 hw2.takes.2 r50 hr50)) ?_;rintro _ _ ⟨v50_0_0,F13,le12_13,hf50_0_0,hq,rfl⟩;obtain rfl:=hq.symm;refine fe ?_;have le7_13:=le7_12.trans le12_13;haveI:=hf50_0_0.oneC;refine iA ?_;rintro _ _ ⟨g51,rfl,rfl⟩;refine q11 ?_;rintro F14 ⟨le13_14,hz14⟩;refine fQ ?_;have le7_14:=le7_13.trans le13_14;have hfF14:SlC F14.toFrz (.slice (some ⟨g51,0,none⟩) 1 1) 1 ([110].map eI):=(SlK.lit hz14 rfl (Nat.le_refl _) a7).toF (xs:=[110]) rfl (fun _=>rfl);refine de (dj rfl rfl rfl (fun w hw=>zen _ w (hw.fr (i:=1) rfl) r50 v50_0_0 (SlC.mono hf50_0_0 le13_14) [110] (.slice (some ⟨g51,0,none⟩) 1 1) hfF14)) ?_;refine jH ?_;exact dg (!(zcw r50 [110]),F14) ⟨hk,le7_14⟩ (.c (.c .nil)) (List.Sublist.refl _)
  ·rintro ⟨x_2,F8⟩ ⟨hk,le7_8⟩; (try dsimp only at *);rw [←hk3] at hk; (try dsimp only at hk);have le1_8:=le1_7.trans le7_8;refine T.cond rfl (fun h7=>?_) (fun h7=>?_)
   ·replace hk:=dt hk h7;refine iu ?_;obtain rfl:=Option.some.inj hk;exact eB
   ·replace hk:=dw hk h7;refine fV ?_;have hq:=dC hk;clear hk;obtain ⟨r55,hr55,hk⟩:=hq; (try dsimp only at hk);refine fu ?_;refine de (dr 1 rfl rfl rfl rfl (fun w hw hF=>zhw _ w hF 1 2 fuel r55 hr55)) ?_;rintro _ _ ⟨⟨v55_0_1,v55_0_3⟩,F15,le8_15,⟨hf55_0_1,hf55_0_3⟩,rfl,rfl⟩;dsimp only at hf55_0_1 hf55_0_3 ⊢;have le1_15:=le1_8.trans le8_15;have le7_15:=le7_8.trans le8_15;haveI:=hf55_0_1.oneC;haveI:=hf55_0_3.oneC;refine jj ?_;refine iA ?_;rintro _ _ ⟨g57,rfl,rfl⟩;have hl57:OwnD df F15.toFrz 7 [[.int .i64 0, .int .i64 0, .int .i64 (-2), .bool r55.Num.Neg,v55_0_1, .bool r55.Den.Neg,v55_0_3]] [(GBid.mk 0 0 (-2) (GRatio.mk (GInt.mk r55.Num.Neg r55.Num.Digits) (GInt.mk r55.Den.Neg r55.Den.Digits)))]:=(eS (OwnD.nil _ _ 7) ⟨_,_,rfl,hf55_0_1,hf55_0_3⟩);refine gj ?_;refine j9 (fun w hw=>hw.freezeR (i:=2) (j:=0) a7 rfl rfl) ?_;rintro F16 ⟨le15_16,hz16⟩;refine fQ ?_;have le1_16:=le1_15.trans le15_16;have le7_16:=le7_15.trans le15_16;have hfF16:SlD df F16.toFrz (.slice (some ⟨g57,0,none⟩) 1 1) 7 [[.int .i64 0, .int .i64 0, .int .i64 (-2), .bool r55.Num.Neg,v55_0_1, .bool r55.Den.Neg,v55_0_3]] [(GBid.mk 0 0 (-2) (GRatio.mk (GInt.mk r55.Num.Neg r55.Num.Digits) (GInt.mk r55.Den.Neg r55.Den.Digits)))]:=(SlK.lit hz16 rfl (Nat.le_refl _) a7).toD (OwnD.mono (rep:=df) (fun _ _ _ _=>GBid.mono) hl57 le15_16) rfl;have hq:=dC hk;clear hk;obtain ⟨r61,hr61,hk⟩:=hq; (try dsimp only at hk);refine eZ ?_;refine de (eM [0,1] [.row g25_n 104 [v25_n_0,v25_n_1, .int .i64 ((r25.1.getD default).increment.Activity), .int .i64 ((r25.1.getD default).increment.Step),v25_n_4, .int .i64 ((r25.1.getD default).rounds),v25_n_6]] [] rfl rfl rfl rfl a7 (fun w hw hw2 hF=>zdD _ w hF (r25.1.getD default) g25_n v25_n_0 (SlC.mono hf25_n_0 le7_16) v25_n_1 c25_n_1 (SlD.mono (rep:=cZ) (fun _ _ _ _=>GBidder.mono) hf25_n_1 le7_16) v25_n_4 (SlC.mono hf25_n_4 le7_16) v25_n_6 (SlC.mono hf25_n_6 le7_16) [(GBid.mk 0 0 (-2) (GRatio.mk (GInt.mk r55.Num.Neg r55.Num.Digits) (GInt.mk r55.Den.Neg r55.Den.Digits)))] (.slice (some ⟨g57,0,none⟩) 1 1) [[.int .i64 0, .int .i64 0, .int .i64 (-2), .bool r55.Num.Neg,v55_0_1, .bool r55.Den.Neg,v55_0_3]] hfF16 (hgl.mono le1_16) hw2.takes.1 hw2.takes.2 fuel r61 hr61)) ?_;rintro _ _ ⟨⟨v61_0_0,v61_2_1,c61_2_1,v61_2_6⟩,F17,le16_17,⟨hf61_0_0,hf61_2_1,hf61_2_6⟩,rfl,rfl⟩;refine fe ?_; (try dsimp only at hf61_0_0 hf61_2_1 hf61_2_6);have le7_17:=le7_16.trans le16_17;haveI:=hf61_0_0.oneC;haveI:=hf61_2_1.1.oneC;haveI:=hf61_2_6.oneC;refine i9 ?_;refine fv ?_;have hq:=dC hk;clear hk;obtain ⟨r66,hr66,hk⟩:=hq; (try dsimp only at hk);refine eF ?_;refine de (dr 1 rfl rfl rfl rfl (fun w hw hF=>zfl _ w hF [(GBid.mk 0 0 (-2) (GRatio.mk (GInt.mk r55.Num.Neg r55.Num.Digits) (GInt.mk r55.Den.Neg r55.Den.Digits)))] (.slice (some ⟨g57,0,none⟩) 1 1) [[.int .i64 0, .int .i64 0, .int .i64 (-2), .bool r55.Num.Neg,v55_0_1, .bool r55.Den.Neg,v55_0_3]] (SlD.mono (rep:=df) (fun _ _ _ _=>GBid.mono) hfF16 le16_17) fuel r66 hr66)) ?_;rintro _ _ ⟨v66_0_0,F18,le17_18,hf66_0_0,rfl,rfl⟩;have le7_18:=le7_17.trans le17_18;haveI:=hf66_0_0.oneC;refine i9 ?_;refine fv ?_;have hq:=dC hk;clear hk;obtain ⟨r71,hr71,hk⟩:=hq; (try dsimp only at hk);refine eF ?_;refine de (eM [0,1] [.row g25_n 104 [v25_n_0,v61_2_1, .int .i64 ((r25.1.getD default).increment.Activity), .int .i64 ((r25.1.getD default).increment.Step),v25_n_4, .int .i64 r61.2.2.2.1,v61_2_6]] [] rfl rfl rfl rfl a7 (fun w hw hw2 hF=>zcl _ w hF (GAuction.mk ((r25.1.getD default).catalogue) r61.2.2.1 (GIncrement.mk ((r25.1.getD default).increment.Activity) ((r25.1.getD default).increment.Step)) ((r25.1.getD default).key) r61.2.2.2.1 r61.2.2.2.2) g25_n v25_n_0 (SlC.mono hf25_n_0 le7_18) v61_2_1 c61_2_1 (SlD.mono (rep:=cZ) (fun _ _ _ _=>GBidder.mono) hf61_2_1 le17_18) v25_n_4 (SlC.mono hf25_n_4 le7_18) v61_2_6 (SlC.mono hf61_2_6 le17_18) 0 hw2.takes.1 hw2.takes.2 r71 hr71)) ?_
    rintro _ _ ⟨v71_0_3,F19,le18_19,hf71_0_3,rfl,rfl⟩;refine fe ?_;have le7_19:=le7_18.trans le18_19;have le17_19:=le17_18.trans le18_19;haveI:=hf71_0_3.oneC;refine lP ?_;rintro _ _ ⟨g9,rfl,rfl⟩;refine ga ?_;refine gj ?_;have hq:=dC hk;clear hk;obtain ⟨r76,hr76,hk⟩:=hq; (try dsimp only at hk);refine eF ?_;refine de (eM [1,2,0] [.row g25_n 104 [v25_n_0,v61_2_1, .int .i64 ((r25.1.getD default).increment.Activity), .int .i64 ((r25.1.getD default).increment.Step),v25_n_4, .int .i64 r61.2.2.2.1,v61_2_6]] [.row g9 57 [.int .i64 r71.1.ID, .int .i64 r71.1.Eligibility, .int .i64 r71.1.Waivers,v71_0_3]] rfl rfl rfl rfl a7 (fun w hw hw2 hF=>zcl _ w hF (GAuction.mk ((r25.1.getD default).catalogue) r61.2.2.1 (GIncrement.mk ((r25.1.getD default).increment.Activity) ((r25.1.getD default).increment.Step)) ((r25.1.getD default).key) r61.2.2.2.1 r61.2.2.2.2) g25_n v25_n_0 (SlC.mono hf25_n_0 le7_19) v61_2_1 c61_2_1 (SlD.mono (rep:=cZ) (fun _ _ _ _=>GBidder.mono) hf61_2_1 le17_19) v25_n_4 (SlC.mono hf25_n_4 le7_19) v61_2_6 (SlC.mono hf61_2_6 le17_19) 1 hw2.takes.1 hw2.takes.2 r76 hr76)) ?_;rintro _ _ ⟨v76_0_3,F20,le19_20,hf76_0_3,rfl,rfl⟩;refine fe ?_;have le7_20:=le7_19.trans le19_20;have le17_20:=le17_19.trans le19_20;have le18_20:=le18_19.trans le19_20;haveI:=hf76_0_3.oneC;refine lP ?_;rintro _ _ ⟨g11,rfl,rfl⟩;refine ga ?_;refine gj ?_; (try dsimp only at hk);have hq:=ek hk;clear hk;obtain ⟨k9,hk9,hk⟩:=hq; (try dsimp only at hk);refine dk (ι:=Bool×FzB w (fun _=>False) S0) (fun z=>[(0, .bool z.1)]) (fun z=>[.fr z.2]) (fun z=>k9 z.1=some r∧F20.toFrz.Le z.2.toFrz) ?_ ?_
    ·refine gR ?_;refine dp rfl rfl rfl (fun h10=>?_) (fun h10=>?_)
     ·have p10:=of_decide_eq_true h10;replace hk:=dt hk h10;refine iv ?_;refine dp rfl rfl rfl (fun h11=>?_) (fun h11=>?_)
      ·have p11:=of_decide_eq_true h11;replace hk:=dt hk h11;refine iv ?_;refine dp rfl rfl rfl (fun h12=>?_) (fun h12=>?_)
       ·have p12:=of_decide_eq_true h12;replace hk:=dt hk h12;refine iv ?_;refine dp rfl rfl rfl (fun h13=>?_) (fun h13=>?_)
        ·have p13:=of_decide_eq_true h13;replace hk:=dt hk h13;refine dH ?_;refine iA ?_;rintro _ _ ⟨g95,rfl,rfl⟩;refine im (fun w hw=>hw.freezeR (i:=3) (j:=0) a7 rfl rfl) ?_;rintro F22 ⟨le20_22,hz22⟩;refine fQ ?_;have le7_22:=le7_20.trans le20_22;have le17_22:=le17_20.trans le20_22;have le18_22:=le18_20.trans le20_22;have hfF22:SlC F22.toFrz (.slice (some ⟨g95,0,none⟩) 1 1) 1 ([(-1)].map eI):=(SlK.lit hz22 rfl (Nat.le_refl _) a7).toF (xs:=[(-1)]) rfl (fun _=>rfl);refine de (dj rfl rfl rfl (fun w hw=>zen _ w (hw.fr (i:=2) rfl) r61.1 v61_0_0 (SlC.mono hf61_0_0 le17_22) [(-1)] (.slice (some ⟨g95,0,none⟩) 1 1) hfF22)) ?_;refine jt ?_;refine dp rfl rfl rfl (fun h14=>?_) (fun h14=>?_)
         ·replace hk:=dt hk h14;refine dH ?_;have hq:=dC hk;clear hk;obtain ⟨r100,hr100,hk⟩:=hq;refine de (eM [1,2,0,3] [.row g25_n 104 [v25_n_0,v61_2_1, .int .i64 ((r25.1.getD default).increment.Activity), .int .i64 ((r25.1.getD default).increment.Step),v25_n_4, .int .i64 r61.2.2.2.1,v61_2_6]] [.row g11 57 [.int .i64 r76.1.ID, .int .i64 r76.1.Eligibility, .int .i64 r76.1.Waivers,v76_0_3], .row g9 57 [.int .i64 r71.1.ID, .int .i64 r71.1.Eligibility, .int .i64 r71.1.Waivers,v71_0_3]] rfl rfl rfl rfl a7 (fun w hw hw2 hF=>zcj _ w hF (GAuction.mk ((r25.1.getD default).catalogue) r61.2.2.1 (GIncrement.mk ((r25.1.getD default).increment.Activity) ((r25.1.getD default).increment.Step)) ((r25.1.getD default).key) r61.2.2.2.1 r61.2.2.2.2) g25_n v25_n_0 (SlC.mono hf25_n_0 le7_22) v61_2_1 c61_2_1 (SlD.mono (rep:=cZ) (fun _ _ _ _=>GBidder.mono) hf61_2_1 le17_22) v25_n_4 (SlC.mono hf25_n_4 le7_22) v61_2_6 (SlC.mono hf61_2_6 le17_22) hw2.takes.1 hw2.takes.2 r100 hr100)) ?_;rintro _ _ ⟨v100_0_0,F23,le22_23,hf100_0_0,hq,rfl⟩;obtain rfl:=hq.symm;refine fe ?_;have le7_23:=le7_22.trans le22_23;have le17_23:=le17_22.trans le22_23;have le18_23:=le18_22.trans le22_23;have le20_23:=le20_22.trans le22_23;haveI:=hf100_0_0.oneC;refine iA ?_;rintro _ _ ⟨g101,rfl,rfl⟩;refine q11 ?_;rintro F24 ⟨le23_24,hz24⟩;refine fQ ?_;have le7_24:=le7_23.trans le23_24;have le17_24:=le17_23.trans le23_24;have le18_24:=le18_23.trans le23_24;have le20_24:=le20_23.trans le23_24;have hfF24:SlC F24.toFrz (.slice (some ⟨g101,0,none⟩) 1 1) 1 ([105].map eI):=(SlK.lit hz24 rfl (Nat.le_refl _) a7).toF (xs:=[105]) rfl (fun _=>rfl);refine de (dj rfl rfl rfl (fun w hw=>zen _ w (hw.fr (i:=1) rfl) r100 v100_0_0 (SlC.mono hf100_0_0 le23_24) [105] (.slice (some ⟨g101,0,none⟩) 1 1) hfF24)) ?_;refine jt ?_;refine dp rfl rfl rfl (fun h15=>?_) (fun h15=>?_)
          ·replace hk:=dt hk h15;refine dH ?_;have hq:=dC hk;clear hk;obtain ⟨r106,hr106,hk⟩:=hq;refine de (eM [0,1,2,3] [.row g25_n 104 [v25_n_0,v61_2_1, .int .i64 ((r25.1.getD default).increment.Activity), .int .i64 ((r25.1.getD default).increment.Step),v25_n_4, .int .i64 r61.2.2.2.1,v61_2_6]] [.row g11 57 [.int .i64 r76.1.ID, .int .i64 r76.1.Eligibility, .int .i64 r76.1.Waivers,v76_0_3], .row g9 57 [.int .i64 r71.1.ID, .int .i64 r71.1.Eligibility, .int .i64 r71.1.Waivers,v71_0_3]] rfl rfl rfl rfl a7 (fun w hw hw2 hF=>zcq _ w hF (GAuction.mk ((r25.1.getD default).catalogue) r61.2.2.1 (GIncrement.mk ((r25.1.getD default).increment.Activity) ((r25.1.getD default).increment.Step)) ((r25.1.getD default).key) r61.2.2.2.1 r61.2.2.2.2) g25_n v25_n_0 (SlC.mono hf25_n_0 le7_24) v61_2_1 c61_2_1 (SlD.mono (rep:=cZ) (fun _ _ _ _=>GBidder.mono) hf61_2_1 le17_24) v25_n_4 (SlC.mono hf25_n_4 le7_24) v61_2_6 (SlC.mono hf61_2_6 le17_24) hw2.takes.1 hw2.takes.2 r106 hr106)) ?_;rintro _ _ ⟨⟨⟩,F25,le24_25, -,rfl,rfl⟩;refine fe ?_;have le7_25:=le7_24.trans le24_25;have le17_25:=le17_24.trans le24_25;have le18_25:=le18_24.trans le24_25;have le20_25:=le20_24.trans le24_25;refine ep ?_;refine dp rfl rfl rfl (fun h16=>?_) (fun h16=>?_)
           ·replace hk:=dt hk h16;refine dH ?_;have hq:=dC hk;clear hk;obtain ⟨r110,hr110,hk⟩:=hq;refine de (dG [0,1,2,3] [.row g25_n 104 [v25_n_0,v61_2_1, .int .i64 ((r25.1.getD default).increment.Activity), .int .i64 ((r25.1.getD default).increment.Step),v25_n_4, .int .i64 r61.2.2.2.1,v61_2_6]] [.row g11 57 [.int .i64 r76.1.ID, .int .i64 r76.1.Eligibility, .int .i64 r76.1.Waivers,v76_0_3], .row g9 57 [.int .i64 r71.1.ID, .int .i64 r71.1.Eligibility, .int .i64 r71.1.Waivers,v71_0_3]] rfl rfl rfl rfl a7 (fun w hw hw2 hF=>zdm _ w hF (GAuction.mk ((r25.1.getD default).catalogue) r61.2.2.1 (GIncrement.mk ((r25.1.getD default).increment.Activity) ((r25.1.getD default).increment.Step)) ((r25.1.getD default).key) r61.2.2.2.1 r61.2.2.2.2) g25_n v25_n_0 (SlC.mono hf25_n_0 le7_25) v61_2_1 c61_2_1 (SlD.mono (rep:=cZ) (fun _ _ _ _=>GBidder.mono) hf61_2_1 le17_25) v25_n_4 (SlC.mono hf25_n_4 le7_25) v61_2_6 (SlC.mono hf61_2_6 le17_25) hw2.takes.1 hw2.takes.2 r110 hr110)) ?_;rintro _ _ ⟨⟨⟩, -,rfl,rfl⟩;refine fe ?_;refine fU ?_;refine dp rfl rfl rfl (fun h17=>?_) (fun h17=>?_)
            ·have p17:=of_decide_eq_true h17;replace hk:=dt hk h17;refine dH ?_;have hq:=dC hk;clear hk;obtain ⟨r115,hr115,hk⟩:=hq;refine de (dG [0,1,2,3] [.row g25_n 104 [v25_n_0,v61_2_1, .int .i64 ((r25.1.getD default).increment.Activity), .int .i64 ((r25.1.getD default).increment.Step),v25_n_4, .int .i64 r61.2.2.2.1,v61_2_6]] [.row g11 57 [.int .i64 r76.1.ID, .int .i64 r76.1.Eligibility, .int .i64 r76.1.Waivers,v76_0_3], .row g9 57 [.int .i64 r71.1.ID, .int .i64 r71.1.Eligibility, .int .i64 r71.1.Waivers,v71_0_3]] rfl rfl rfl rfl a7 (fun w hw hw2 hF=>zdI _ w hF (GAuction.mk ((r25.1.getD default).catalogue) r61.2.2.1 (GIncrement.mk ((r25.1.getD default).increment.Activity) ((r25.1.getD default).increment.Step)) ((r25.1.getD default).key) r61.2.2.2.1 r61.2.2.2.2) g25_n v25_n_0 (SlC.mono hf25_n_0 le7_25) v61_2_1 c61_2_1 (SlD.mono (rep:=cZ) (fun _ _ _ _=>GBidder.mono) hf61_2_1 le17_25) v25_n_4 (SlC.mono hf25_n_4 le7_25) v61_2_6 (SlC.mono hf61_2_6 le17_25) hw2.takes.1 hw2.takes.2 r115 hr115)) ?_;rintro _ _ ⟨⟨⟩, -,rfl,rfl⟩;refine fe ?_;refine fU ?_;refine dp rfl rfl rfl (fun h18=>?_) (fun h18=>?_)
             ·have p18:=of_decide_eq_true h18;replace hk:=dt hk h18;refine q1H ?_;refine fU ?_;refine dp rfl rfl rfl (fun h19=>?_) (fun h19=>?_)
              ·have p19:=of_decide_eq_true h19;replace hk:=dt hk h19;refine fK ?_;refine lu ?_;refine fU ?_;refine dp rfl rfl rfl (fun h20=>?_) (fun h20=>?_)
               ·have p20:=of_decide_eq_true h20;replace hk:=dt hk h20;refine dH ?_;refine cY (ks 1 (e:=5) a8 a8 a8 rfl rfl rfl (SlC.mono hf66_0_0 le18_25)) ?_;refine cY (mJ (a:=(i0 r66.1)) (b:=([1,0,0,3,1,2]:List UInt8)) rfl rfl rfl) ?_;refine jh ?_;refine jd ?_;exact dg (((i0 r66.1) == ([1,0,0,3,1,2]:List UInt8)),F25) ⟨hk,le20_25⟩ (.c .nil) (List.Sublist.refl _)
               ·have p20:=of_decide_eq_false h20;replace hk:=dw hk h20;refine kw ?_;refine jd ?_;exact q4P
              ·have p19:=of_decide_eq_false h19;replace hk:=dw hk h19;refine q3T ?_;refine jd ?_;exact q4P
             ·have p18:=of_decide_eq_false h18;replace hk:=dw hk h18;refine TL.run 15 rfl ?_;refine fM ?_;refine jd ?_;exact q4P
            ·have p17:=of_decide_eq_false h17;replace hk:=dw hk h17;refine TL.run 20 rfl ?_;refine fM ?_;refine jd ?_;exact q4P
           ·replace hk:=dw hk h16;refine TL.run 25 rfl ?_;refine fM ?_;refine jd ?_;exact q4P
          ·replace hk:=dw hk h15;refine TL.run 29 rfl ?_;refine fM ?_;refine jd ?_;exact dg (false,F24) ⟨hk,le20_24⟩ (.c .nil) (List.Sublist.refl _)
         ·replace hk:=dw hk h14;refine TL.run 35 rfl ?_;refine fM ?_;refine q3f ?_;exact dg (false,F22) ⟨hk,le20_22⟩ (.c .nil) (List.Sublist.refl _)
        ·have p13:=of_decide_eq_false h13;replace hk:=dw hk h13;refine TL.run 40 rfl ?_;refine fM ?_;refine q3f ?_;exact q4X
       ·have p12:=of_decide_eq_false h12;replace hk:=dw hk h12;refine TL.run 44 rfl ?_;refine fM ?_;refine q3f ?_;exact q4X
      ·have p11:=of_decide_eq_false h11;replace hk:=dw hk h11;refine TL.run 48 rfl ?_;refine fM ?_;refine q3f ?_;exact q4X
     ·have p10:=of_decide_eq_false h10;replace hk:=dw hk h10;refine TL.run 52 rfl ?_;refine fM ?_;refine q3f ?_;exact q4X
    ·rintro ⟨x_8,F21⟩ ⟨hk,le20_21⟩; (try dsimp only at *);rw [←hk9] at hk; (try dsimp only at hk);refine T.ret ?_;obtain rfl:=Option.some.inj hk;exact eB
 ·replace hk:=dw hk h1;refine eF ?_;refine iA ?_;rintro _ _ ⟨g17,rfl,rfl⟩;refine q1Z ?_;rintro F26 ⟨le2_26,hz26⟩;refine fQ ?_;have hfF26:SlC F26.toFrz (.slice (some ⟨g17,0,none⟩) 1 1) 1 ([2].map eI):=(SlK.lit hz26 rfl (Nat.le_refl _) a7).toF (xs:=[2]) rfl (fun _=>rfl);refine jj ?_;refine iA ?_;rintro _ _ ⟨g19,rfl,rfl⟩;refine q1Z ?_;rintro F27 ⟨le26_27,hz27⟩;refine fQ ?_;have le2_27:=le2_26.trans le26_27;have hfF27:SlC F27.toFrz (.slice (some ⟨g19,0,none⟩) 1 1) 1 ([1].map eI):=(SlK.lit hz27 rfl (Nat.le_refl _) a7).toF (xs:=[1]) rfl (fun _=>rfl);refine jj ?_;refine iA ?_;rintro _ _ ⟨g21,rfl,rfl⟩;have hl21:OwnD cZ F27.toFrz 4 [[.int .i64 0, .int .i64 2, .int .i64 0,(.slice (some ⟨g17,0,none⟩) 1 1)],[.int .i64 1, .int .i64 2, .int .i64 0,(.slice (some ⟨g19,0,none⟩) 1 1)]] [(GBidder.mk 0 2 0 [2]),(GBidder.mk 1 2 0 [1])]:=(eS (eS (OwnD.nil _ _ 4) ⟨_,rfl,(SlC.mono hfF26 le26_27)⟩) ⟨_,rfl,hfF27⟩);refine q1Z ?_;rintro F28 ⟨le27_28,hz28⟩;refine fQ ?_;have le2_28:=le2_27.trans le27_28;have hfF28:SlD cZ F28.toFrz (.slice (some ⟨g21,0,none⟩) 2 2) 4 [[.int .i64 0, .int .i64 2, .int .i64 0,(.slice (some ⟨g17,0,none⟩) 1 1)],[.int .i64 1, .int .i64 2, .int .i64 0,(.slice (some ⟨g19,0,none⟩) 1 1)]] [(GBidder.mk 0 2 0 [2]),(GBidder.mk 1 2 0 [1])]:=(SlK.lit hz28 rfl (Nat.le_refl _) a7).toD (OwnD.mono (rep:=cZ) (fun _ _ _ _=>GBidder.mono) hl21 le27_28) rfl;refine jj ?_;refine iA ?_;rintro _ _ ⟨g23,rfl,rfl⟩;refine q4h ?_;rintro _ _ ⟨F29,⟨le28_29,hf24⟩,rfl,rfl⟩;refine fQ ?_;have le2_29:=le2_28.trans le28_29;haveI:=hf24.oneC;refine de (eM [0] [] [] rfl rfl rfl rfl a7 (fun w hw hw2 hF=>(zf8 _ w hF [(GProduct.mk 0 1 2 1 100)] (.slice (some ⟨g14,0,none⟩) 1 1) (SlC.mono hfF2 le2_29) [(GBidder.mk 0 2 0 [2]),(GBidder.mk 1 2 0 [1])] (.slice (some ⟨g21,0,none⟩) 2 2) [[.int .i64 0, .int .i64 2, .int .i64 0,(.slice (some ⟨g17,0,none⟩) 1 1)],[.int .i64 1, .int .i64 2, .int .i64 0,(.slice (some ⟨g19,0,none⟩) 1 1)]] (SlD.mono (rep:=cZ) (fun _ _ _ _=>GBidder.mono) hfF28 le28_29) (GIncrement.mk 100 10) ([107,101,121]:List Int) (.slice (some ⟨g23,0,none⟩) 3 3) hf24 r25 hr25).mono (fun e w' hp=>hp.2 h1))) ?_;rintro _ _ ⟨⟨⟩,F30,le29_30, -,rfl,rfl⟩;refine fe ?_;refine i9 ?_;refine jv ?_;cases hk
section
variable {σ ρ α:Type}
theorem zh4 {x:Int}(h: -9223372036854775808≤x∧x≤9223372036854775807):wI x=x:=IntWalk.i64_in _ h
end
def wsum (f:Nat→Int):Nat→Int
 |0=>0
 |n+1=>wI (wsum f n+f n)
structure DemOk (l:List GProduct) (d:List Int):Prop where
 len:d.length=l.length
 bd:∀j,j<l.length→0≤nth d j∧nth d j≤(nth l j).Supply
def usum (l:List GProduct)(d:List Int):Int:=wsum (fun i=>wI (nth d i* (nth l i).Units)) l.length
structure BidOk (l:List GProduct) (b:GBidder):Prop where
 id:0≤b.ID∧b.ID≤31
 el:0≤b.Eligibility∧b.Eligibility≤76800000
 wa:0≤b.Waivers∧b.Waivers≤3
 dem:DemOk l b.Blocks
 un:usum l b.Blocks≤b.Eligibility
structure Val (l:List GProduct) (bs:List GBidder):Prop where
 n:l.length≤100
 m:bs.length≤32
 prods:zff l=true
 bids:∀j,j<bs.length→BidOk l (nth bs j)
 prog:zbq l bs=some true
 ref:∀fuel,200≤fuel→zg7 fuel l bs=some true
structure Good (a:GAuction):Prop where
 val:Val a.catalogue a.bidders
 key:1≤a.key.length
 plen:a.prices.length=a.catalogue.length
 pbd:∀j,j<a.catalogue.length→0≤nth a.prices j∧nth a.prices j≤1099511627776
 step:1≤a.increment.Step∧a.increment.Step≤50
 rm:mH a.bidders
section
variable {a:GAuction}(h:Good a)
end
def cutV:Value→Nat→Value
 | .slice none _ _,_=> .slice none 0 0
 | .slice (some A) _ _,m=> .slice (some A) m m
 |v,_=>v
instance {v:Value} {m:Nat} [h:OneC v]:OneC (cutV v m):=by
 unfold cutV
 split <;> first|exact inferInstance|exact h
section
variable {P:Program}{n:Nat}{B D:World}{M S0:Nat→Prop}{fs:eJ}{hs:HS}{o:Oper}{e ei:TypeId}{v:Value}{vs:List Value}{xs:List GBidder}
end
theorem zjt (n:Nat):zcZ (n+100)=some true:=by kernel_rfl
theorem zjJ {fuel:Nat}(hf:100≤fuel):zcZ fuel=some true:=by
 obtain ⟨n,rfl⟩:∃n,fuel=n+100:=⟨fuel - 100,by omega⟩;exact zjt n
def eG (n:Nat):List Int:=if h:n<128 then [(n:Int)] else ((n % 128+128:Nat):Int) :: eG (n / 128)
termination_by n
decreasing_by omega
theorem zgX {n:Nat}(h:n<128):eG n=[(n:Int)]:=by rw [eG];simp [h]
theorem zin {n:Nat}(h:¬n<128):eG n=((n % 128+128:Nat):Int) :: eG (n / 128):=by rw [eG];simp [h]
theorem zeT:∀(k n:Nat),n<2 ^ (7* (k+1))→(eG n).length≤k+1
 |0,n,h=>by rw [zgX (by simpa using h)];simp
 |k+1,n,h=>by
  by_cases h1:n<128
  ·rw [zgX h1];simp
  ·rw [zin h1,List.length_cons]
   have:=zeT k (n / 128) (by
    rw [Nat.div_lt_iff_lt_mul a7]
    calc n<2 ^ (7* (k+1+1)):=h
     _=2 ^ (7* (k+1)) *128:=by rw [show 7* (k+1+1)=7* (k+1)+7 by omega,Nat.pow_add])
   omega
theorem or128:∀k:Nat,k<256→orK .u8 (k:Int) 128=((k % 128+128:Nat):Int):=by
 (have h:∀k:_root_.Fin 256,orK .u8 ((k.1:Nat):Int) 128=((k.1 % 128+128:Nat):Int):=by decide);exact fun k hk=>h ⟨k,hk⟩
theorem zkI:∀k:Nat,k<256→andK .u8 (k:Int) 127=((k % 128:Nat):Int):=by
 (have h:∀k:_root_.Fin 256,andK .u8 ((k.1:Nat):Int) 127=((k.1 % 128:Nat):Int):=by decide);exact fun k hk=>h ⟨k,hk⟩
theorem zlv (n:Nat):IntKind.u8.wrap (n:Int)=((n % 256:Nat):Int):=by
 simp [IntKind.wrap,IntKind.signed,IntKind.bits]
theorem shr7 (n:BitVec 64):(n >>> 7).toNat=n.toNat / 128:=by rw [BitVec.toNat_ushiftRight,Nat.shiftRight_eq_div_pow]
theorem zhA {fuel:Nat}{l:List Int}{n:BitVec 64}(hf:20≤fuel)(hl:l.length≤100000):zcg fuel l n=some (l++eG n.toNat):=by
 unfold zcg;simp only [dO];have hb:∀m:BitVec 64,(eG m.toNat).length≤10:=fun m=>zeT 9 _ (Nat.lt_of_lt_of_le m.isLt a7);refine ze3 (σ:=List Int×BitVec 64) (I:=fun s=>s.1++eG s.2.toNat=l++eG n.toNat) (μ:=fun s=>(eG s.2.toNat).length) (post:=fun o=>o=some (l++eG n.toNat)) rfl (by have:=hb n;show (eG n.toNat).length<fuel;omega) ?_;rintro ⟨a,m⟩ next hI hn;dsimp only at hI hn ⊢
 have hlen:a.length≤100010:=by
  have h1:=congrArg List.length hI;rw [List.length_append,List.length_append] at h1;have:=hb n;omega
 by_cases h:m.toNat<128
 ·rw [decide_eq_false (by show ¬(127:Int)<_;omega),cond_false,eN (by unfold dK;simp;omega),zlv,Nat.mod_eq_of_lt a6,←zgX h,hI]
 ·rw [decide_eq_true (by show (127:Int)<_;omega),cond_true,eN (by unfold dK;simp;omega),zlv,or128 _ (Nat.mod_lt _ a7),Nat.mod_mod_of_dvd _ a7];have h2:=zin h;refine hn _ ?_ ?_
  ·show (a++[_])++eG (m >>> 7).toNat=_
   rw [shr7,List.append_assoc,List.singleton_append,←h2,hI]
  ·show (eG (m >>> 7).toNat).length<(eG m.toNat).length
   rw [shr7,h2,List.length_cons];omega
theorem zjZ {f:Int}{m:Bool}{l:List Int}{a b:Int}{rest:List Int}(hp:0≤a)(hd:l.drop a.toNat=b :: rest):mc ⟨⟨f⟩,m,l,a⟩=some (Dy.ok (b,a+1)):=by
 have hlt:a.toNat<l.length:=by
  rcases Nat.lt_or_ge a.toNat l.length with h|h
  ·exact h
  ·rw [List.drop_eq_nil_of_le h] at hd;cases hd
 have hb:nth l a.toNat=b:=by
  rw [List.drop_eq_getElem_cons hlt] at hd;rw [fT hlt];exact (List.cons.inj hd).1
 unfold mc;simp only [dO];rw [decide_eq_false a6,cond_false,eN ⟨hp,by omega⟩,hb]
theorem zkP {lo p i:Nat}(hlo:lo<2 ^ (7*i))(hi:7*i<64)(hp:p<2 ^ 64)(hs:p*2 ^ (7*i)<2 ^ 64):(BitVec.ofNat 64 lo ||| (BitVec.ofNat 64 p <<< (7*i)))=BitVec.ofNat 64 (lo+p*2 ^ (7*i)):=by
 apply BitVec.eq_of_toNat_eq;have h1:lo<2 ^ 64:=Nat.lt_trans hlo (Nat.pow_lt_pow_right a7 hi);rw [BitVec.toNat_or,BitVec.toNat_shiftLeft,BitVec.toNat_ofNat,BitVec.toNat_ofNat,BitVec.toNat_ofNat,Nat.mod_eq_of_lt h1,Nat.mod_eq_of_lt hp,Nat.shiftLeft_eq,Nat.mod_eq_of_lt hs,Nat.or_comm];have h2:=Nat.shiftLeft_add_eq_or_of_lt hlo p;rw [Nat.shiftLeft_eq] at h2
 have h3:p*2 ^ (7*i)+lo<2 ^ 64:=by
  rw [h2];exact Nat.or_lt_two_pow hs h1
 rw [←h2,Nat.add_comm lo,Nat.mod_eq_of_lt h3]
theorem zij {fuel:Nat}{out:List Int}{n:Int}(hf:20≤fuel)(hn:0≤n∧n≤9223372036854775807)(hl:(out++eG n.toNat).length≤65536):lS fuel ⟨⟨0⟩,out⟩ n=some (out++eG n.toNat):=by
 have hg:zcg fuel out (BitVec.ofInt 64 n)=some (out++eG n.toNat):=by
  rw [zhA hf (by rw [List.length_append] at hl;omega)];rw [show (BitVec.ofInt 64 n).toNat=n.toNat from by rw [BitVec.toNat_ofInt];omega]
 unfold lS
 show (bif decide (n<0) then none else (zcg fuel out (BitVec.ofInt 64 n)).bind _)=_
 rw [decide_eq_false a6,cond_false,hg]
 show (zaG _ _).bind _=_
 unfold zaG;rw [decide_eq_false a6];rfl
def jJ (n:Int):Nat:=if n<0 then (-(2*n) - 1).toNat else (2*n).toNat
def iN (n:Int):List Int:=eG n.toNat
def sgF (v:BitVec 64)(a:Int):Option (Dy (Int×Int) (Int×Int)):=bif decide ((((v &&& (1#64)).toNat:Nat):Int)=(((1#64).toNat:Nat):Int)) then some (Dy.ok (wI ((wI (0 - (wI (((v >>> 1).toNat:Nat):Int)))) - 1),a)) else some (Dy.ok ((wI (((v >>> 1).toNat:Nat):Int)),a))
theorem zi2 {α:Type}[Inhabited α]{l:List α}{i:Nat}(h:i<l.length):nth l i∈l:=by rw [fT h];exact List.getElem_mem h
def Byt (l:List Int):Prop:=∀x∈l,0≤x∧x≤255
structure RdO (x:GReader):Prop where
 made:x.made=true
 byt:Byt x.in_
 pos:0≤x.at_
 le:x.at_≤(x.in_.length:Int)
def ii (x:GReader)(i:Nat)(next:(BitVec 64×BitVec 64×Int)→Option (Dy (BitVec 64×Int) (Int×Int)))(s7:BitVec 64×BitVec 64×Int):Option (Dy (BitVec 64×Int) (Int×Int)):=
 (mc (GReader.mk (Gfault.mk x.fault.first) x.made x.in_ s7.2.2)).bind fun r14=>
 (bif fS r14 then
 (bif ((decide ((i:Int)=9))&&(decide (((1#64).toNat:Int)<((BitVec.ofInt 64 (andK .u8 ((eE r14).1) 127)).toNat:Int)))) then
 some (Dy.er (6,((eE r14).2)))
 else
 (bif decide ((eE r14).1<128) then
 (bif ((decide ((eE r14).1=0))&&(decide (0<(i:Int)))) then
 some (Dy.er (6,((eE r14).2)))
 else
 some (Dy.ok ((s7.2.1 ||| ((BitVec.ofInt 64 (andK .u8 ((eE r14).1) 127)) <<< ((7* (i:Int)).toNat))),((eE r14).2))))
 else
 next (s7.1,(s7.2.1 ||| ((BitVec.ofInt 64 (andK .u8 ((eE r14).1) 127)) <<< ((7* (i:Int)).toNat))),(eE r14).2)))
 else
 some (Dy.er ((gp r14).1,((gp r14).2))))
theorem zgH (x:GReader)(most:Int):mP x most=dB (most≤10) (dN (ii x) (fun s=>some (Dy.er (6,s.2.2))) (most.toNat - 0) 0 (0#64,0#64,x.at_)):=rfl
theorem zhx {f:Int}{m:Bool}{l:List Int}{a:Int}(h:(l.length:Int)≤a):mc ⟨⟨f⟩,m,l,a⟩=some (Dy.er (4,a)):=by
 unfold mc;simp only [dO];rw [decide_eq_true h,cond_true]
theorem zgr {x:GReader}{most:Nat}(hm:most≤10)(h:RdO x):∃r,mP x (most:Int)=some r∧(fS r=true→∃q rest,x.in_.drop x.at_.toNat=eG q++rest∧(eE r).1=BitVec.ofNat 64 q∧q<2 ^ 64∧q<2 ^ (7*most)∧(eE r).2=x.at_+((eG q).length:Int))∧(fS r=false→(gp r).1≠0):=by
 rw [zgH,eN a6]
 have key:∀(m i lo:Nat) (a:Int) (z:BitVec 64),i+m=most→0≤a→a≤(x.in_.length:Int)→lo<2 ^ (7*i)→∃r,dN (ii x) (fun s=>some (Dy.er (6,s.2.2))) m i (z,BitVec.ofNat 64 lo,a)=some r∧
   (fS r=true→∃q rest,x.in_.drop a.toNat=eG q++rest∧(eE r).1=BitVec.ofNat 64 (lo+q*2 ^ (7*i))∧lo+q*2 ^ (7*i)<2 ^ 64∧q<2 ^ (7*m)∧(eE r).2=a+((eG q).length:Int)∧(0<i→0<q))∧(fS r=false→(gp r).1≠0):=by
  intro m
  induction m with
  |zero=>intro i lo a z _ _ _ _;exact q47
  |succ m ih=>
   intro i lo a z e ha hal hlo
   show ∃r,ii x i (dN (ii x) _ m (i+1)) (z,BitVec.ofNat 64 lo,a)=some r∧_
   unfold ii;by_cases hlt:a<(x.in_.length:Int)
   ·have hd:x.in_.drop a.toNat=nth x.in_ a.toNat :: x.in_.drop (a+1).toNat:=by
     rw [List.drop_eq_getElem_cons (show a.toNat<x.in_.length by omega),←fT (show a.toNat<x.in_.length by omega),show (a+1).toNat=a.toNat+1 by omega]
    have hb:=h.byt _ (zi2 (show a.toNat<x.in_.length by omega));obtain ⟨k,hk⟩:∃k:Nat,nth x.in_ a.toNat=(k:Int):=⟨(nth x.in_ a.toNat).toNat,by omega⟩;rw [hk] at hd hb; (have hi7:7*i<64:=by omega)
    show ∃r,(mc ⟨⟨x.fault.first⟩,x.made,x.in_,a⟩).bind _=some r∧_
    rw [zjZ ha hd]
    show ∃r,(bif (decide ((i:Int)=9)&&decide (((1#64).toNat:Int)<((BitVec.ofInt 64 (andK .u8 (k:Int) 127)).toNat:Int))) then some (Dy.er (6,a+1)) else bif decide ((k:Int)<128) then (bif decide ((k:Int)=0)&&decide (0<(i:Int)) then some (Dy.er (6,a+1)) else some (Dy.ok ((BitVec.ofNat 64 lo ||| ((BitVec.ofInt 64 (andK .u8 (k:Int) 127)) <<< ((7* (i:Int)).toNat))),a+1))) else dN (ii x) _ m (i+1) (z,(BitVec.ofNat 64 lo ||| ((BitVec.ofInt 64 (andK .u8 (k:Int) 127)) <<< ((7* (i:Int)).toNat))),a+1))=some r∧_
    rw [show (7* (i:Int)).toNat=7*i by omega,zkI k a6,BitVec.ofInt_natCast]
    cases hbig:(decide ((i:Int)=9)&&decide (((1#64).toNat:Int)<((BitVec.ofNat 64 (k % 128)).toNat:Int)))
    ·rw [cond_false]
     have hp:k % 128*2 ^ (7*i)<2 ^ 64:=by
      rcases Nat.lt_or_ge i 9 with h8|h9
      ·have h1:k % 128*2 ^ (7*i)≤127*2 ^ (7*i):=Nat.mul_le_mul_right _ a6;have h2:2 ^ (7*i)≤2 ^ 56:=Nat.pow_le_pow_right a7 a6;omega
      ·(have h10:i=9:=by omega);subst h10;rw [Bool.and_eq_false_iff,decide_eq_false_iff_not,decide_eq_false_iff_not,BitVec.toNat_ofNat] at hbig
       have h1:k % 128≤1:=by
        rcases hbig with h1|h1
        ·exact absurd rfl h1
        ·have:¬(1:Int)<((k % 128 % 2 ^ 64:Nat):Int):=h1;omega
       have h3:k % 128*2 ^ (7*9)≤1*2 ^ (7*9):=Nat.mul_le_mul_right _ h1;omega
     have hacc:(BitVec.ofNat 64 lo ||| (BitVec.ofNat 64 (k % 128) <<< (7*i)))=BitVec.ofNat 64 (lo+k % 128*2 ^ (7*i)):=zkP hlo hi7 (Nat.lt_trans (Nat.mod_lt _ a7) a7) hp
     have hsum:lo+k % 128*2 ^ (7*i)<2 ^ 64:=by
      have h2:=Nat.shiftLeft_add_eq_or_of_lt hlo (k % 128);rw [Nat.shiftLeft_eq] at h2;rw [Nat.add_comm,h2];exact Nat.or_lt_two_pow hp (Nat.lt_trans hlo (Nat.pow_lt_pow_right a7 hi7))
     rw [hacc];by_cases h128:k<128
     ·rw [decide_eq_true (show (k:Int)<128 by omega),cond_true]
      cases hz:(decide ((k:Int)=0)&&decide (0<(i:Int)))
      ·rw [cond_false];refine ⟨_,rfl,fun _=>⟨k,_,by rw [zgX h128];exact hd,?_,?_,?_,?_,fun hi=>?_⟩,fun h=>by cases h⟩
       ·show BitVec.ofNat 64 _=_;rw [Nat.mod_eq_of_lt h128]
       ·rw [←Nat.mod_eq_of_lt h128];exact hsum
       ·have:2 ^ 7≤2 ^ (7* (m+1)):=Nat.pow_le_pow_right a7 a6;omega
       ·rw [zgX h128];rfl
       ·rw [Bool.and_eq_false_iff,decide_eq_false_iff_not,decide_eq_false_iff_not] at hz;omega
      ·rw [cond_true];exact q47
     ·rw [decide_eq_false (show ¬(k:Int)<128 by omega),cond_false]; (have e7:2 ^ (7* (i+1))=2 ^ (7*i) *128:=by rw [show 7* (i+1)=7*i+7 by omega,Nat.pow_add]); (have e8:2 ^ (7* (m+1))=2 ^ (7*m) *128:=by rw [show 7* (m+1)=7*m+7 by omega,Nat.pow_add])
      obtain ⟨r,er,h1,h2⟩:=ih (i+1) (lo+k % 128*2 ^ (7*i)) (a+1) z a6 a6 a6 (by
       rw [e7];have h3:k % 128*2 ^ (7*i)≤127*2 ^ (7*i):=Nat.mul_le_mul_right _ a6
       omega)
      refine ⟨r,er,fun hr=>?_,h2⟩;obtain ⟨q,rest,d1,d2,d3,d4,d5,d6⟩:=h1 hr;have hq:=d6 a6; (have hm1:(k % 128+128*q) % 128=k % 128:=by omega); (have hd1:(k % 128+128*q) / 128=q:=by omega)
      have hen:eG (k % 128+128*q)=(k:Int) :: eG q:=by
       rw [zin a6,hm1,hd1,show k % 128+128=k by omega]
      have hmul:lo+(k % 128+128*q) *2 ^ (7*i)=lo+k % 128*2 ^ (7*i)+q*2 ^ (7* (i+1)):=by
       rw [e7,Nat.add_mul,Nat.mul_comm 128 q,Nat.mul_assoc,Nat.mul_comm 128,Nat.add_assoc]
      refine ⟨k % 128+128*q,rest,?_,?_,?_,?_,?_,fun _=>by omega⟩
      ·rw [hen,hd,d1];rfl
      ·rw [d2,hmul]
      ·rw [hmul];exact d3
      ·rw [e8];omega
      ·rw [d5,hen,List.length_cons];omega
    ·rw [cond_true];exact q47
   ·show ∃r,(mc ⟨⟨x.fault.first⟩,x.made,x.in_,a⟩).bind _=some r∧_
    rw [zhx a6];exact ⟨_,rfl,fun h=>(by cases h),fun _=>(by show (4:Int)≠0;decide)⟩
 obtain ⟨r,e,h1,h2⟩:=key most 0 0 x.at_ 0#64 a6 h.pos h.le a7;refine ⟨r,by rw [show ((most:Int)).toNat - 0=most by omega];exact e,fun hr=>?_,h2⟩;obtain ⟨q,rest,d1,d2,d3,d4,d5,_⟩:=h1 hr;refine ⟨q,rest,d1,?_,?_,d4,d5⟩
 ·rw [d2];simp
 ·simpa using d3
def Back {α:Type}(f:GReader→Option (α×(Int×Int)))(en:α→List Int)(P:α→Prop):Prop:=
 ∀x,RdO x→∃v k a,f x=some (v,(k,a))∧(0≤a∧a≤(x.in_.length:Int))∧P v∧(k=0→x.fault.first=0∧∃rest,x.in_.drop x.at_.toNat=en v++rest∧a=x.at_+((en v).length:Int))
theorem RdO.end_ {x:GReader}(h:RdO x){e rest:List Int}(hd:x.in_.drop x.at_.toNat=e++rest):0≤x.at_+(e.length:Int)∧x.at_+(e.length:Int)≤(x.in_.length:Int):=by
 have h1:=congrArg List.length hd;rw [List.length_drop,List.length_append] at h1;have:=h.pos;have:=h.le;omega
theorem zjz:Back j1 iN (fun v=>0≤v∧v≤9223372036854775807):=fun x h=>by
 unfold j1;rw [h.made,Bool.true_and];by_cases hf:x.fault.first=0
 ·rw [decide_eq_true hf,cond_true];obtain ⟨r,e,h1,h2⟩:=zgr (most:=9) a7 h;rw [show (9:Int)=((9:Nat):Int) from rfl,e]
  show ∃v k a,(bif fS r then some (wI (((eE r).1).toNat:Int),(x.fault.first,(eE r).2)) else some (0,((gp r).1,x.at_)))=some (v,(k,a))∧_
  cases hr:fS r
  ·exact ⟨0,(gp r).1,x.at_,rfl,⟨h.pos,h.le⟩,by decide,fun hk=>absurd hk (h2 hr)⟩
  ·obtain ⟨q,rest,d1,d2,d3,d4,d5⟩:=h1 hr;have hq:q<9223372036854775808:=d4; (have hv:wI (((eE r).1).toNat:Int)=(q:Int):=by rw [d2,BitVec.toNat_ofNat,Nat.mod_eq_of_lt d3,zh4 a6]);refine ⟨(q:Int),x.fault.first,(eE r).2,by rw [cond_true,hv],by rw [d5];exact h.end_ d1,by omega,fun _=>⟨hf,rest,d1,d5⟩⟩
 ·rw [decide_eq_false hf,cond_false];exact ⟨0,x.fault.first,x.at_,rfl,⟨h.pos,h.le⟩,by decide,fun hk=>absurd hk hf⟩
theorem zkR (v:BitVec 64)(a:Int):∃n,sgF v a=some (Dy.ok (n,a))∧jJ n=v.toNat:=by
 unfold sgF
 have hb:(((v &&& (1#64)).toNat:Nat):Int)=((v.toNat % 2:Nat):Int):=by
  rw [BitVec.toNat_and]
  show ((v.toNat &&& 1:Nat):Int)=_
  rw [Nat.and_one_is_mod]
 (have hs:(v >>> 1).toNat=v.toNat / 2:=by rw [BitVec.toNat_ushiftRight,Nat.shiftRight_eq_div_pow]);rw [hb,hs,show (((1#64).toNat:Nat):Int)=1 from rfl];have hv:=v.isLt;generalize v.toNat=u at hv ⊢;by_cases h1:u % 2=1
 ·rw [decide_eq_true a6,cond_true,zh4 (x:=((u / 2:Nat):Int)) a6,show ((0:Nat):Int)=0 from rfl,zh4 (x:=0 - ((u / 2:Nat):Int)) a6,zh4 (x:=0 - ((u / 2:Nat):Int) - 1) a6];refine ⟨_,rfl,?_⟩;unfold jJ;rw [if_pos a6];omega
 ·rw [decide_eq_false a6,cond_false,zh4 a6];refine ⟨_,rfl,?_⟩;unfold jJ;rw [if_neg a6];omega
theorem zkc:Back zay (fun n=>eG (jJ n)) (fun _=>True):=fun x h=>by
 unfold zay;rw [h.made,Bool.true_and];by_cases hf:x.fault.first=0
 ·rw [decide_eq_true hf,cond_true];obtain ⟨r,e,h1,h2⟩:=zgr (most:=10) a7 h
  have hs:zaF x=bif fS r then sgF (eE r).1 (eE r).2 else some (Dy.er ((gp r).1,(gp r).2)):=by
   unfold zaF;rw [show (10:Int)=((10:Nat):Int) from rfl,e];rfl
  rw [hs]
  cases hr:fS r
  ·exact ⟨0,(gp r).1,x.at_,rfl,⟨h.pos,h.le⟩,trivial,fun hk=>absurd hk (h2 hr)⟩
  ·obtain ⟨q,rest,d1,d2,d3,d4,d5⟩:=h1 hr;obtain ⟨n,e1,e2⟩:=zkR (eE r).1 (eE r).2;rw [d2,BitVec.toNat_ofNat,Nat.mod_eq_of_lt d3] at e2;rw [cond_true,e1];exact ⟨n,x.fault.first,(eE r).2,rfl,by rw [d5];exact h.end_ d1,trivial,fun _=>⟨hf,rest,by show _=eG (jJ n)++rest;rw [e2];exact d1,by show _=x.at_+((eG (jJ n)).length:Int);rw [e2];exact d5⟩⟩
 ·rw [decide_eq_false hf,cond_false];exact ⟨0,x.fault.first,x.at_,rfl,⟨h.pos,h.le⟩,trivial,fun hk=>absurd hk hf⟩
theorem zi3 {lim:Int}(h0:0≤lim)(hl:lim≤1000000):Back (fun x=>zaz x lim) iN (fun v=>0≤v∧v≤lim):=fun x h=>by
 dsimp only;unfold zaz;rw [h.made,Bool.true_and];by_cases hf:x.fault.first=0
 ·rw [decide_eq_true hf,cond_true];obtain ⟨r,e,h1,h2⟩:=zgr (most:=9) a7 h
  have hs:zaO x lim=bif fS r then (bif decide (lim<wI (((eE r).1).toNat:Int)) then some (Dy.er (7,(eE r).2)) else some (Dy.ok (wI (((eE r).1).toNat:Int),(eE r).2))) else some (Dy.er ((gp r).1,(gp r).2)):=by
   unfold zaO;rw [show (9:Int)=((9:Nat):Int) from rfl,e];simp only [dO,Option.bind_some];rw [decide_eq_false (show ¬lim<0 by omega),cond_false]
  rw [hs]
  cases hr:fS r
  ·exact ⟨0,(gp r).1,x.at_,rfl,⟨h.pos,h.le⟩,⟨Int.le_refl _,h0⟩,fun hk=>absurd hk (h2 hr)⟩
  ·obtain ⟨q,rest,d1,d2,d3,d4,d5⟩:=h1 hr;have hq:q<9223372036854775808:=d4; (have hv:wI (((eE r).1).toNat:Int)=(q:Int):=by rw [d2,BitVec.toNat_ofNat,Nat.mod_eq_of_lt d3,zh4 a6]);rw [cond_true,hv];by_cases hlim:lim<(q:Int)
   ·rw [decide_eq_true hlim,cond_true];exact ⟨0,7,x.at_,rfl,⟨h.pos,h.le⟩,⟨Int.le_refl _,h0⟩,fun hk=>by cases hk⟩
   ·rw [decide_eq_false hlim,cond_false];exact ⟨(q:Int),x.fault.first,(eE r).2,rfl,by rw [d5];exact h.end_ d1,⟨by omega,by omega⟩,fun _=>⟨hf,rest,d1,d5⟩⟩
 ·rw [decide_eq_false hf,cond_false];exact ⟨0,x.fault.first,x.at_,rfl,⟨h.pos,h.le⟩,⟨Int.le_refl _,h0⟩,fun hk=>absurd hk hf⟩
theorem seq_ {l e1 r1 e2 r2:List Int}{a a1 a2:Int}(h0:0≤a)(d1:l.drop a.toNat=e1++r1)(q1:a1=a+(e1.length:Int))(d2:l.drop a1.toNat=e2++r2)(q2:a2=a1+(e2.length:Int)):l.drop a.toNat=(e1++e2)++r2∧a2=a+((e1++e2).length:Int):=by
 (have h1:l.drop a1.toNat=r1:=by rw [q1,show (a+(e1.length:Int)).toNat=a.toNat+e1.length by omega,←List.drop_drop,d1,List.drop_left]);rw [List.append_assoc,←d2,h1];exact ⟨d1,by rw [List.length_append];omega⟩
theorem zj0 {fuel:Nat}{l:List Int}{n:Int}(hf:20≤fuel)(hl:l.length≤100000)(hn: -1000000≤n∧n≤1000000):zdp fuel l n=some (l++eG (jJ n)):=by
 unfold zdp;by_cases h:n<0
 ·rw [decide_eq_true h,cond_true,zhA hf hl]
  have e:(((BitVec.ofInt 64 (wI (0 - (wI (n+1))))) <<< 1) ||| (1#64)).toNat=jJ n:=by
   rw [zh4 (x:=n+1) a6,zh4 a6,BitVec.toNat_or,BitVec.toNat_shiftLeft,Nat.shiftLeft_eq]; (have e1:(BitVec.ofInt 64 (0 - (n+1))).toNat=(0 - (n+1)).toNat:=by rw [BitVec.toNat_ofInt];omega);rw [e1,show (1#64).toNat=1 from rfl,Nat.mod_eq_of_lt a6];rw [Nat.or_comm,zgV (a:=1) (d:=(0 - (n+1)).toNat) (s:=1) a7];unfold jJ;rw [if_pos h];omega
  rw [e];rfl
 ·rw [decide_eq_false h,cond_false,zhA hf hl]
  have e:((BitVec.ofInt 64 n) <<< 1).toNat=jJ n:=by
   rw [BitVec.toNat_shiftLeft,Nat.shiftLeft_eq]; (have e1:(BitVec.ofInt 64 n).toNat=n.toNat:=by rw [BitVec.toNat_ofInt];omega);rw [e1,Nat.mod_eq_of_lt a6];unfold jJ;rw [if_neg h];omega
  rw [e];rfl
theorem int_w {fuel:Nat}{out:List Int}{n:Int}(hf:20≤fuel)(hn: -1000000≤n∧n≤1000000)(hl:(out++eG (jJ n)).length≤65536):zbl fuel ⟨⟨0⟩,out⟩ n=some (out++eG (jJ n)):=by
 unfold zbl
 show (zdp fuel out n).bind _=_
 rw [zj0 hf (by rw [List.length_append] at hl;omega) hn]
 show (zaG _ _).bind _=_
 unfold zaG;rw [decide_eq_false a6];rfl
structure BidP (x:GBid):Prop where
 b:0≤x.Bidder∧x.Bidder<32
 p:0≤x.Product∧x.Product<128
 c: -12≤x.Change∧x.Change≤12
 nz:x.Change≠0
 pt:PT x.Point
structure LstP (l:List GBid):Prop where
 len:l.length≤128
 each:∀i,i<l.length→BidP (nth l i)
 ord:∀i,i+1<l.length→(nth l i).Bidder≤(nth l (i+1)).Bidder
structure BytB (b:GBid):Prop where
 n:Dig 256 b.Point.Num.Digits
 d:Dig 256 b.Point.Den.Digits
theorem zgx {fuel:Nat}{l:List GBid}(hf:2000≤fuel)(hb:∀i,i<l.length→BytB (nth l i)):∃b,zbr fuel l=some b∧(b=true↔LstP l):=by
 unfold zbr;have no:¬LstP l→∃b,some false=some b∧(b=true↔LstP l):=fun h=>⟨false,rfl,fun h=>(by cases h),fun h2=>absurd h2 h⟩;by_cases hl:l.length≤128
 ·rw [decide_eq_false a6,cond_false];simp only [dO];refine mf (n:=l.length) (fun i (last:Int)=>(∀j,j<i→BidP (nth l j))∧(∀j,j+1<i→(nth l j).Bidder≤(nth l (j+1)).Bidder)∧last=if i=0 then 0 else (nth l (i - 1)).Bidder) (fun o=>∃b,o=some b∧(b=true↔LstP l)) ⟨fun j hj=>absurd hj (Nat.not_lt_zero j),fun j hj=>absurd hj a6,rfl⟩ (fun s hI=>⟨true,rfl,fun _=>⟨hl,hI.1,hI.2.1⟩,fun _=>rfl⟩) (fun i last next hi hI hnx=>?_);obtain ⟨i1,i2,i3⟩:=hI
  have hlast:LstP l→last≤(nth l i).Bidder:=fun h=>by
   rw [i3]
   split
   ·exact (h.each i hi).b.1
   ·have:=h.ord (i - 1) a6;rw [show i - 1+1=i by omega] at this;exact this
  by_cases c1:(nth l i).Bidder<last
  ·(rw [decide_eq_true c1];exact no fun h=>by have:=hlast h;omega)
  by_cases c2:32≤(nth l i).Bidder
  ·(rw [decide_eq_false c1,decide_eq_true c2];exact no fun h=>by have:=(h.each i hi).b;omega)
  by_cases c3:(nth l i).Product<0
  ·(rw [decide_eq_false c1,decide_eq_false c2,decide_eq_true c3];exact no fun h=>by have:=(h.each i hi).p;omega)
  by_cases c4:128≤(nth l i).Product
  ·(rw [decide_eq_false c1,decide_eq_false c2,decide_eq_false c3,decide_eq_true c4];exact no fun h=>by have:=(h.each i hi).p;omega)
  rw [decide_eq_false c1,decide_eq_false c2,decide_eq_false c3,decide_eq_false c4];simp only [Bool.or_self,cond_false];by_cases c5:(nth l i).Change< -12
  ·(rw [decide_eq_true c5];exact no fun h=>by have:=(h.each i hi).c;omega)
  by_cases c6:12<(nth l i).Change
  ·(rw [decide_eq_false c5,decide_eq_true c6];exact no fun h=>by have:=(h.each i hi).c;omega)
  by_cases c7:(nth l i).Change=0
  ·rw [decide_eq_false c5,decide_eq_false c6,decide_eq_true c7];exact no fun h=>(h.each i hi).nz c7
  rw [decide_eq_false c5,decide_eq_false c6,decide_eq_false c7];simp only [cond_false];obtain ⟨pb,p1,p2⟩:=zk7 (fuel:=fuel) hf (hb i hi).n (hb i hi).d;rw [p1];refine fh ?_
  cases pb with
  |false=>exact no fun h=>(by have:=p2.2 (h.each i hi).pt;cases this)
  |true=>
   have h0:0≤last:=by
    rw [i3];split
    ·exact Int.le_refl _
    ·exact (i1 (i - 1) a6).b.1
   have hB:BidP (nth l i):=⟨⟨by omega,by omega⟩,⟨by omega,by omega⟩,⟨by omega,by omega⟩,c7,p2.1 rfl⟩;refine hnx _ ⟨fun j hj=>?_,fun j hj=>?_,by rw [if_neg a6,Nat.add_sub_cancel]⟩
   ·rcases Nat.lt_or_ge j i with h|h
    ·exact i1 j h
    ·rw [show j=i by omega];exact hB
   ·rcases Nat.lt_or_ge (j+1) i with h|h
    ·exact i2 j h
    ·(obtain rfl:i=j+1:=by omega);rw [if_neg a6,Nat.add_sub_cancel] at i3;omega
 ·rw [decide_eq_true a6,cond_true];exact no fun h=>hl h.len
theorem zju {fuel:Nat}{l:List GBid}(hf:2000≤fuel)(hb:∀i,i<l.length→BytB (nth l i)):∃b,zc8 fuel l=some b∧(b=true↔LstP l):=by
 unfold zc8;simp only [dO];have no:¬LstP l→∃b,some false=some b∧(b=true↔LstP l):=fun h=>⟨false,rfl,fun h=>(by cases h),fun h2=>absurd h2 h⟩;refine mf (n:=l.length) (fun i (_:Unit)=>(∀j,j<i→BidP (nth l j))∧(∀j,j+1<i→(nth l j).Bidder≤(nth l (j+1)).Bidder)) (fun o=>∃b,o=some b∧(b=true↔LstP l)) ⟨fun j hj=>absurd hj (Nat.not_lt_zero j),fun j hj=>absurd hj a6⟩ (fun s hI=>⟨_,rfl,?_⟩) (fun i _ next hi hI hnx=>?_)
 ·rw [decide_eq_true_eq];exact ⟨fun h=>⟨by omega,hI.1,hI.2⟩,fun h=>(by have:=h.len;omega)⟩
 ·obtain ⟨i1,i2⟩:=hI;by_cases c1:(nth l i).Bidder<0
  ·(rw [decide_eq_true c1];exact no fun h=>by have:=(h.each i hi).b;omega)
  by_cases c2:31<(nth l i).Bidder
  ·(rw [decide_eq_false c1,decide_eq_true c2];exact no fun h=>by have:=(h.each i hi).b;omega)
  by_cases c3:(nth l i).Product<0
  ·(rw [decide_eq_false c1,decide_eq_false c2,decide_eq_true c3];exact no fun h=>by have:=(h.each i hi).p;omega)
  by_cases c4:127<(nth l i).Product
  ·(rw [decide_eq_false c1,decide_eq_false c2,decide_eq_false c3,decide_eq_true c4];exact no fun h=>by have:=(h.each i hi).p;omega)
  by_cases c5:(nth l i).Change< -12
  ·(rw [decide_eq_false c1,decide_eq_false c2,decide_eq_false c3,decide_eq_false c4,decide_eq_true c5];exact no fun h=>by have:=(h.each i hi).c;omega)
  by_cases c6:12<(nth l i).Change
  ·(rw [decide_eq_false c1,decide_eq_false c2,decide_eq_false c3,decide_eq_false c4,decide_eq_false c5,decide_eq_true c6];exact no fun h=>by have:=(h.each i hi).c;omega)
  by_cases c7:(nth l i).Change=0
  ·rw [decide_eq_false c1,decide_eq_false c2,decide_eq_false c3,decide_eq_false c4,decide_eq_false c5,decide_eq_false c6,decide_eq_true c7];exact no fun h=>(h.each i hi).nz c7
  rw [decide_eq_false c1,decide_eq_false c2,decide_eq_false c3,decide_eq_false c4,decide_eq_false c5,decide_eq_false c6,decide_eq_false c7];simp only [cond_false];obtain ⟨pb,p1,p2⟩:=zkm (fuel:=fuel) hf (hb i hi).n (hb i hi).d;rw [p1];refine fh ?_
  cases pb with
  |false=>exact no fun h=>(by have:=p2.2 (h.each i hi).pt;cases this)
  |true=>
   have hB:BidP (nth l i):=⟨⟨by omega,by omega⟩,⟨by omega,by omega⟩,⟨by omega,by omega⟩,c7,p2.1 rfl⟩
   have good:(0<i→(nth l (i - 1)).Bidder≤(nth l i).Bidder)→∃b,next ()=some b∧(b=true↔LstP l):=fun ho=>by
    refine hnx () ⟨fun j hj=>?_,fun j hj=>?_⟩
    ·rcases Nat.lt_or_ge j i with h|h
     ·exact i1 j h
     ·rw [show j=i by omega];exact hB
    ·rcases Nat.lt_or_ge (j+1) i with h|h
     ·exact i2 j h
     ·(obtain rfl:i=j+1:=by omega);have:=ho a6;rw [Nat.add_sub_cancel] at this;exact this
   simp only [Bool.not_true,cond_false];by_cases hi0:0<i
   ·rw [decide_eq_true (show (0:Int)<(i:Int) by omega),cond_true,show ((i:Int) - 1).toNat=i - 1 by omega];by_cases c8:(nth l i).Bidder<(nth l (i - 1)).Bidder
    ·rw [decide_eq_true c8]
     exact no fun h=>by
      have:=h.ord (i - 1) a6;rw [show i - 1+1=i by omega] at this;omega
    ·(rw [decide_eq_false c8];exact good fun _=>by omega)
   ·rw [decide_eq_false a6,cond_false];exact good fun h=>absurd h hi0
theorem join8 {u:BitVec 64}{d:Int}(hu:u.toNat<2 ^ 56)(hd:0≤d∧d<256):((u <<< 8) ||| BitVec.ofInt 64 d).toNat=u.toNat*256+d.toNat:=by
 rw [BitVec.toNat_or,BitVec.toNat_shiftLeft,Nat.shiftLeft_eq,Nat.mod_eq_of_lt a6];have e1:(BitVec.ofInt 64 d).toNat=d.toNat:=ofI a6;have:=zgV (a:=d.toNat) (d:=u.toNat) (s:=8) a6;rw [e1,Nat.or_comm,this];omega
theorem ziC {B:Nat}(l:List Int)(x:Int):val B (l++[x]).reverse=x.toNat+B*val B l.reverse:=by
 rw [List.reverse_append];rfl
theorem zjP {g:GInt}(h:VI g)(hd:Dig 256 g.Digits)(hn:g.Neg=false)(hv:dI g≤9223372036854775807):zbR g=some ((dI g:Int),0):=by
 have hl:g.Digits.length≤8:=(h.big hd).len a6;unfold zbR;rw [mC h];simp only [Option.bind_some,Bool.not_true,cond_false];rw [decide_eq_false a6,cond_false];simp only [dO];refine mf (n:=g.Digits.length) (fun i (u:BitVec 64)=>u.toNat=val 256 (g.Digits.take i).reverse) (fun o=>o=some ((dI g:Int),0)) (by simp [val]) (fun u hI=>?_) (fun i u next hi hI hnx=>?_)
 ·rw [List.take_length] at hI;have hI':u.toNat=dI g:=hI;rw [hn,cond_false,hI',show (((9223372036854775807#64).toNat:Nat):Int)=9223372036854775807 from rfl,decide_eq_false a6,cond_false,gk a6]
 ·have hb:=j5 (B:=256) (l:=(g.Digits.take i).reverse) (hd.take i).rev;rw [List.length_reverse,List.length_take,Nat.min_eq_left a6] at hb;have hp:256 ^ i≤256 ^ 7:=Nat.pow_le_pow_right a7 a6;have hx:=hd.nth hi;refine hnx _ ?_;rw [join8 a6 hx,hI,List.take_succ_eq_append_getElem hi,←fT hi,ziC];omega
def jk (b:GBid):List Int:=eG b.Bidder.toNat++eG b.Product.toNat++eG (jJ b.Change)++eG (dI b.Point.Num)++eG (dI b.Point.Den)
def zjW (l:List GBid):List Int:=eG l.length++l.flatMap jk
theorem ziS {b:GBid}(h:BidP b):(jk b).length≤7:=by
 have h1:=zeT 0 b.Bidder.toNat (by have:=h.b;omega);have h2:=zeT 0 b.Product.toNat (by have:=h.p;omega);have h3:=zeT 0 (jJ b.Change) (by have:=h.c;unfold jJ;split <;> omega);have hd:=h.pt.den;have hm:=h.pt.num;have h4:=zeT 1 (dI b.Point.Num) a6;have h5:=zeT 1 (dI b.Point.Den) a6;unfold jk;rw [List.length_append,List.length_append,List.length_append,List.length_append];omega
theorem zhn {α:Type}[Inhabited α]{l:List α}{i:Nat}(h:i<l.length):l.take (i+1)=l.take i++[nth l i]:=by
 rw [List.take_succ_eq_append_getElem h,fT h]
theorem zfY {l:List GBid}(h:∀i,i<l.length→BidP (nth l i)):∀i,i≤l.length→((l.take i).flatMap jk).length≤7*i:=by
 intro i
 induction i with
 |zero=>intro _;simp
 |succ i ih=>
  intro hi;have h1:=ih a6;have h2:=ziS (h i a6);rw [zhn a6,List.flatMap_append,List.length_append];simp only [List.flatMap_cons,List.flatMap_nil,List.append_nil];omega
theorem zku {p:GRatio}(h:PT p)(dn:Dig 256 p.Num.Digits)(dd:Dig 256 p.Den.Digits):zbR p.Num=some ((dI p.Num:Int),0)∧zbR p.Den=some ((dI p.Den:Int),0):=by
 have h1:=h.den;have h2:=h.num;exact ⟨zjP h.r.num dn h.nn a6,zjP h.r.den dd h.r.neg a6⟩
theorem zjg {fuel:Nat}{l:List GBid}(hf:2000≤fuel)(hb:∀i,i<l.length→BytB (nth l i))(h:LstP l):zcu fuel l=some (zjW l,0):=by
 have hl:=h.len;obtain ⟨b,b1,b2⟩:=zgx (fuel:=fuel) hf hb;obtain rfl:b=true:=b2.2 h;have hn2:=zeT 1 l.length a6;unfold zcu;rw [b1];simp only [Option.bind_some,Bool.not_true,cond_false];rw [zij a6 a6 (by rw [Int.toNat_natCast,List.nil_append];omega)];refine q3L ?_;rw [Int.toNat_natCast,List.nil_append];refine mf (n:=l.length) (fun i (c:List Int)=>c=eG l.length++(l.take i).flatMap jk) (fun o=>o=some (zjW l,0)) b3 (fun c hI=>?_) (fun i c next hi hI hnx=>?_)
 ·rw [List.take_length] at hI;have hfl:=zfY h.each l.length (Nat.le_refl _);rw [List.take_length] at hfl;subst hI;unfold zbk;rw [decide_eq_false b3,cond_false,eN (by unfold dK;rw [List.nil_append,List.length_append];omega)]
  rfl
 ·have hB:=h.each i hi;have hfl:=zfY h.each i a6;have hel:=ziS hB; (have hcl:c.length≤2+7*i:=by rw [hI,List.length_append];omega);obtain ⟨v1,v2⟩:=zku hB.pt (hb i hi).n (hb i hi).d;have hd:=hB.pt.den;have hm:=hB.pt.num;have k1:=hB.b;have k2:=hB.p;have k3:=hB.c;rw [v1,v2];refine fh ?_
  have hel':(eG (nth l i).Bidder.toNat).length+(eG (nth l i).Product.toNat).length+(eG (jJ (nth l i).Change)).length+(eG (dI (nth l i).Point.Num)).length+(eG (dI (nth l i).Point.Den)).length≤7:=by
   unfold jk at hel;rw [List.length_append,List.length_append,List.length_append,List.length_append] at hel;omega
  rw [zij a6 a6 (by rw [List.length_append];omega)];refine fh ?_;rw [zij a6 a6 (by rw [List.length_append,List.length_append];omega)];refine fh ?_;rw [int_w a6 a6 (by rw [List.length_append,List.length_append,List.length_append];omega)];refine fh ?_;rw [zij a6 a6 (by rw [Int.toNat_natCast,List.length_append,List.length_append,List.length_append,List.length_append];omega)];refine fh ?_;rw [Int.toNat_natCast,zij a6 a6 (by rw [Int.toNat_natCast,List.length_append,List.length_append,List.length_append,List.length_append,List.length_append];omega)];refine fh ?_;refine hnx _ ?_;rw [Int.toNat_natCast,zhn hi,List.flatMap_append,hI];simp only [List.flatMap_cons,List.flatMap_nil,List.append_nil,jk,List.append_assoc]
end Go.Proofs.YtmnjbhkcfghebaaGreatDoor
