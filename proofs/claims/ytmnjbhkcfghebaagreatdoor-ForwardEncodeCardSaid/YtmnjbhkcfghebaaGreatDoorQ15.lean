/- J4 J5 Yl Ca P1 P2 P3 Yf Y1 P4 V1 V2 V3 V4 Y3 V5 Y2 J6 V6 Of Gp: shortened and put together by squeeze.py. -/
import Derived.Test.YtmnjbhkcfghebaaGreatDoorQ14
import Derived.Deep.Slices
import Derived.ChangeArms
import Derived.Test.YtmnjbhkcfghebaaGreatDoorRows
import Derived.LaidMore
import Derived.OpenShut
import Derived.Stop.Joined
import Derived.Lib.SmallJoins
set_option maxRecDepth 100000
set_option maxHeartbeats 4000000
set_option linter.unusedVariables false
set_option linter.unusedSectionVars false
set_option linter.unusedSimpArgs false
namespace Go.Proofs.YtmnjbhkcfghebaaGreatDoor
open Go.RowKit
theorem orK8 {a b:Nat}(ha:a<256)(hb:b<256):orK .u8 (a:Int) (b:Int)=((a ||| b:Nat):Int):=by
 unfold orK; (have e1:(BitVec.ofInt 8 (a:Int)).toNat=a:=by rw [BitVec.toNat_ofInt];omega); (have e2:(BitVec.ofInt 8 (b:Int)).toNat=b:=by rw [BitVec.toNat_ofInt];omega);rw [show IntKind.u8.bits=8 from rfl,BitVec.toNat_or,e1,e2];have h:a ||| b<2 ^ 8:=Nat.or_lt_two_pow a7 a7;rw [u8w a7]
theorem andK8 {a:Nat}(ha:a<256):andK .u8 (a:Int) 1=((a % 2:Nat):Int):=by
 unfold andK; (have e1:(BitVec.ofInt 8 (a:Int)).toNat=a:=by rw [BitVec.toNat_ofInt];omega);rw [show IntKind.u8.bits=8 from rfl,BitVec.toNat_and,e1,show (BitVec.ofInt 8 (1:Int)).toNat=1 from rfl,Nat.and_one_is_mod,u8w a7]
theorem shr_8 {a b:Nat}(hb:b≤8):shrK .u8 (a:Int) (b:Int)=((a / 2 ^ b:Nat):Int):=by
 unfold shrK;rw [show IntKind.u8.bits=8 from rfl,Int.toNat_natCast,Nat.min_eq_left hb,Int.fdiv_eq_ediv_of_nonneg _ (by exact Int.le_of_lt (Int.pow_pos a7))];rw [Int.natCast_ediv,Int.natCast_pow];rfl
theorem shl_8 {b:Nat}(hb:b≤7):shlK .u8 1 (b:Int)=((2 ^ b:Nat):Int):=by
 have h:2 ^ b<2 ^ 8:=Nat.pow_lt_pow_right a7 a7;unfold shlK;rw [show IntKind.u8.bits=8 from rfl,Int.toNat_natCast,Nat.min_eq_left a7,Int.one_mul,show (2:Int) ^ b=((2 ^ b:Nat):Int) by rw [Int.natCast_pow];rfl,u8w ⟨Int.natCast_nonneg _,by have:=Int.ofNat_lt.2 h;rw [show ((2 ^ 8:Nat):Int)=256 from rfl] at this;exact this⟩]
theorem zle {a:List Int}{A:Nat}(ha:LsIs a A)(i:Nat):(nth a (i / 8)).toNat / 2 ^ (i % 8) % 2=A / 2 ^ i % 2:=by
 have h:=ze9 (B:=256) a8 ha.dig (i / 8); (have e1:2 ^ i=256 ^ (i / 8) *2 ^ (i % 8):=by rw [jO,←Nat.pow_add,Nat.div_add_mod])
 have e2:256=2 ^ (i % 8) * (2*2 ^ (7 - i % 8)):=by
  rw [Nat.mul_left_comm,←Nat.pow_add,show i % 8+(7 - i % 8)=7 by omega]
 rw [h,ha.eq,e1,←Nat.div_div_eq_div_mul];generalize A / 256 ^ (i / 8)=Z;rw [e2,Nat.mod_mul_right_div_self,Nat.mod_mul_right_mod]
theorem zkt {q:List Int}{i c n:Nat}(hq:Dig 256 q)(hl:q.length=n)(hi:i / 8<n)(hv:val 256 q=c*2 ^ (i+1)):∃w:Nat,orK .u8 (nth q (i / 8)) (shlK .u8 1 ((i % 8:Nat):Int))=(w:Int)∧w<256∧val 256 (q.set (i / 8) (w:Int))=(2*c+1) *2 ^ i:=by
 have hd:=hq.nth (i:=i / 8) a7;have h:=ze9 (B:=256) a8 hq (i / 8); (have e1:2 ^ (i+1)=256 ^ (i / 8) *2 ^ (i % 8+1):=by rw [jO,←Nat.pow_add];congr 1;omega); (have e2:256=2 ^ (i % 8+1) *2 ^ (7 - i % 8):=by rw [←Nat.pow_add,show i % 8+1+(7 - i % 8)=8 by omega])
 have hdig:(nth q (i / 8)).toNat=(c % 2 ^ (7 - i % 8)) *2 ^ (i % 8+1):=by
  rw [h,hv,e1,←Nat.mul_assoc,Nat.mul_right_comm,Nat.mul_comm (c*_),Nat.mul_div_cancel_left _ (Nat.pow_pos a8)];rw [Nat.mul_comm c]
  conv=>lhs;rw [e2]
  rw [Nat.mul_mod_mul_left,Nat.mul_comm]
 have hp8:2 ^ (i % 8)<2 ^ 8:=Nat.pow_lt_pow_right a7 a7;have hpp:2 ^ (i % 8)<2 ^ (i % 8+1):=Nat.pow_lt_pow_right a7 a7;have hor:=zgQ (a:=2 ^ (i % 8)) (d:=c % 2 ^ (7 - i % 8)) (s:=i % 8+1) hpp;rw [←hdig] at hor
 have hlt:2 ^ (i % 8)+(nth q (i / 8)).toNat<256:=by
  have:2 ^ (i % 8) ||| (nth q (i / 8)).toNat<2 ^ 8:=Nat.or_lt_two_pow a7 a7;omega
 refine ⟨2 ^ (i % 8)+(nth q (i / 8)).toNat,?_,hlt,?_⟩
 ·rw [shl_8 a7];have:=orK8 (a:=(nth q (i / 8)).toNat) (b:=2 ^ (i % 8)) a7 a7;rw [Int.toNat_of_nonneg hd.1] at this;rw [this,Nat.or_comm,hor]
 ·have h1:=zjj (B:=256) (l:=q) (i:=i / 8) (x:=((2 ^ (i % 8)+(nth q (i / 8)).toNat:Nat):Int)) a7;rw [Int.toNat_natCast,Nat.mul_add,hv] at h1; (have e3:256 ^ (i / 8) *2 ^ (i % 8)=2 ^ i:=by rw [jO,←Nat.pow_add,Nat.div_add_mod]);rw [e3] at h1
  have e4:(2*c+1) *2 ^ i=c*2 ^ (i+1)+2 ^ i:=by
   rw [Nat.add_mul,Nat.one_mul,Nat.pow_succ,Nat.mul_comm 2 c,Nat.mul_assoc,Nat.mul_comm 2]
  omega
theorem zkU {fuel:Nat}{a b:List Int}{A B:Nat}(ha:LsIs a A)(hb:LsIs b B)(hB:0<B)(la:a.length≤1000)(lb:b.length≤1000)(hf:2000≤fuel):∃q r,zdc fuel a b=some (q,r)∧LsIs q (A / B)∧LsIs r (A % B):=by
 unfold zdc;rw [eE (by show _*_≤_;omega)];simp only [dM]
 have hw:wI ((wI ((a.length:Int) *8)) - 1)=(a.length:Int) *8 - 1:=by
  rw [gq (x:=(a.length:Int) *8) a7,gq a7]
 rw [hw,eE a7,show ((a.length:Int) *8 - 1+1).toNat=8*a.length by omega];refine zfA (n:=8*a.length) (fun m (s:List Int×List Int)=>LsIs s.1 (A / 2 ^ m % B)∧s.2.length=a.length∧Dig 256 s.2∧val 256 s.2=A / 2 ^ m / B*2 ^ m) (fun o=>∃q r,o=some (q,r)∧LsIs q (A / B)∧LsIs r (A % B)) ?_ (fun s hI=>?_) (fun i s next hi hI hnx=>?_)
 ·have h0:A / 2 ^ (8*a.length)=0:=by
   rw [←jO];have:=jR ha.dig;rw [ha.eq] at this;exact Nat.div_eq_of_lt this
  rw [h0,Nat.zero_mod,Nat.zero_div,Nat.zero_mul];exact ⟨.zero,by simp,gB a8 _,zit _⟩
 ·obtain ⟨i1,i2,i3,i4⟩:=hI;rw [Nat.pow_zero,Nat.div_one] at i1;rw [Nat.pow_zero,Nat.div_one,Nat.mul_one] at i4;obtain ⟨r,t1,t2⟩:=zjH (fuel:=fuel) (l:=s.2) a7 i3;rw [t1];rw [i4] at t2;exact ⟨r,s.1,rfl,t2,i1⟩
 ·obtain ⟨i1,i2,i3,i4⟩:=hI
  have hR:=Nat.mod_lt (A / 2 ^ (i+1)) hB
  have hhalf:A / 2 ^ i=2* (A / 2 ^ (i+1))+A / 2 ^ i % 2:=by
   have:=Nat.div_add_mod (A / 2 ^ i) 2;rw [Nat.div_div_eq_div_mul,←Nat.pow_succ] at this;exact this.symm
  have hdm:=Nat.div_add_mod (A / 2 ^ (i+1)) B;generalize hq1:A / 2 ^ (i+1) / B=q1 at *;generalize hRR:A / 2 ^ (i+1) % B=R at *;generalize A / 2 ^ (i+1)=A1 at *;have hlb:b.length≤1000:=lb;obtain ⟨k,hk⟩:∃k,k=1000:=⟨_,rfl⟩
  have hRb:R<256 ^ k:=by
   have h1:=jR hb.dig;rw [hb.eq] at h1;exact Nat.lt_of_lt_of_le (Nat.lt_trans hR h1) (Nat.pow_le_pow_right a8 a7)
  have l1:=i1.len hRb;obtain ⟨t,p1,p2⟩:=zlf (fuel:=fuel) i1.dig i1.dig a7 a7 a7;rw [i1.eq] at p2
  have l2:t.length≤k+1:=p2.len (by
   rw [Nat.pow_succ];generalize 256 ^ k=z at*
   omega)
  rw [p1];refine fj ?_;rw [eE a7,eE a7,eE a7,eE a7,show ((i:Int) / 8).toNat=i / 8 by omega,show (i:Int) % 8=((i % 8:Nat):Int) by omega];have hda:=ha.dig.nth (i:=i / 8) a7
  have esh:andK .u8 (shrK .u8 (nth a (i / 8)) ((i % 8:Nat):Int)) 1=((A / 2 ^ i % 2:Nat):Int):=by
   have h1:=shr_8 (a:=(nth a (i / 8)).toNat) (b:=i % 8) a7;rw [Int.toNat_of_nonneg hda.1] at h1;have h2:(nth a (i / 8)).toNat / 2 ^ (i % 8)≤(nth a (i / 8)).toNat:=Nat.div_le_self _ _;rw [h1,andK8 a7,zle ha]
  rw [esh];generalize hbit:A / 2 ^ i % 2=bt at *; (have hbt:bt<2:=by omega)
  have hT:A / 2 ^ i=B* (2*q1)+(2*R+bt):=by
   rw [hhalf,←hdm,Nat.mul_add,Nat.mul_left_comm];omega
  have fin:∀r9:List Int,LsIs r9 (2*R+bt)→r9.length≤k+1→∃q r,(bif decide (0≤(zcY r9 b)) then
     (zcZ fuel r9 b).bind fun r42=>
     dz (0≤(i:Int)∧(i:Int)≤9223372036854775807∧1≤(8:Int)) <|
     dz (0≤(i:Int)∧(i:Int)≤9223372036854775807∧1≤(8:Int)) <|
     dz (0≤((i:Int) / 8)∧((i:Int) / 8)<(s.2.length:Int)) <|
     dz (0≤(i:Int)∧1≤(8:Int)) <|
     next (r42,(s.2.set (i / 8) (orK .u8 (nth s.2 (i / 8)) (shlK .u8 1 ((i % 8:Nat):Int)))))
     else
     next (r9,s.2))=some (q,r)∧LsIs q (A / B)∧LsIs r (A % B):=fun r9 h9 l9=>by
   rw [zkV h9 hb];by_cases hlt:2*R+bt<B
   ·rw [if_pos hlt,decide_eq_false a8,cond_false];refine hnx _ ⟨?_,i2,i3,?_⟩
    ·dsimp only;rw [hT,Nat.mul_add_mod,Nat.mod_eq_of_lt hlt];exact h9
    ·dsimp only;rw [hT,Nat.mul_add_div hB,Nat.div_eq_of_lt hlt,Nat.add_zero,i4,Nat.pow_succ,Nat.mul_comm 2 q1,Nat.mul_assoc,Nat.mul_comm 2]
   ·rw [if_neg hlt,decide_eq_true (by split <;> decide),cond_true];obtain ⟨r42,m1,m2⟩:=zk5 (fuel:=fuel) h9 hb a7 a7 a7;rw [m1];refine fj ?_;rw [eE a7,eE a7,eE a7,eE a7];obtain ⟨w,w1,w2,w3⟩:=zkt (i:=i) (c:=q1) (n:=a.length) i3 i2 a7 i4;rw [w1]; (have hT2:A / 2 ^ i=B* (2*q1+1)+(2*R+bt - B):=by rw [hT,Nat.mul_add,Nat.mul_one];omega);refine hnx _ ⟨?_,by dsimp only;rw [List.length_set];exact i2,i3.set a7,?_⟩
    ·dsimp only;rw [hT2,Nat.mul_add_mod,Nat.mod_eq_of_lt a7];exact m2
    ·dsimp only;rw [hT2,Nat.mul_add_div hB,Nat.div_eq_of_lt (show 2*R+bt - B<B by omega),Nat.add_zero,w3]
  by_cases hb1:bt=1
  ·rw [decide_eq_true a7,cond_true];obtain ⟨t2,e1,e2⟩:=zlf (fuel:=fuel) (b:=[1]) p2.dig (Dig.nil.cons a7) a7 b4 b8;rw [e1];refine fj ?_;rw [p2.eq,show val 256 [1]=1 from rfl] at e2;refine fin t2 (by rw [hb1,show 2*R+1=R+R+1 by omega];exact e2) (e2.len ?_);rw [Nat.pow_succ];generalize 256 ^ k=z at *;omega
  ·rw [decide_eq_false a7,cond_false];exact fin t (by rw [show 2*R+bt=R+R by omega];exact p2) l2
theorem zkQ {fuel:Nat}{neg:Bool}{a:List Int}(ha:Dig 256 a)(la:a.length≤100000)(hf:a.length+1≤fuel):∃D,zch fuel neg a=some ⟨neg&&decide (0<val 256 a),D⟩∧BigIs D (val 256 a):=by
 unfold zch;obtain ⟨r,t1,t2⟩:=zjH (fuel:=fuel) hf ha;have hlr:r.length≤a.length:=t2.len (jR ha);rw [t1];simp only [Option.bind_some,dM];refine zfA (n:=r.length) (fun m (out:List Int)=>out=(r.drop m).reverse) (fun (o:Option GInt)=>∃D,o=some (GInt.mk (neg&&decide (0<val 256 a)) D)∧BigIs D (val 256 a)) (by rw [List.drop_eq_nil_of_le (Nat.le_refl _)];rfl) (fun s hs=>?_) (fun i s next hi hs hnx=>?_)
 ·rw [List.drop_zero] at hs;subst hs;have e:decide (0<(r.length:Int))=decide (0<val 256 a):=decide_eq_decide.2 (by rw [←t2.pos];omega);rw [e];exact ⟨_,rfl,t2.big⟩
 ·have e:s++[nth r i]=(r.drop i).reverse:=by
   rw [List.drop_eq_getElem_cons hi,List.reverse_cons,hs,fK hi]
  rw [e,eE (by show _*_≤_;rw [List.length_reverse,List.length_drop];omega)];exact hnx _ rfl
theorem zkD {fuel:Nat}{a b:GInt}(hf:2000≤fuel)(ha:VI a)(hb:VI b)(da:Dig 256 a.Digits)(db:Dig 256 b.Digits):∃D,zc5 fuel a b=some ⟨false,D⟩∧BigIs D (Nat.gcd (dG a) (dG b)):=by
 have la:=ha.len;have lb:=hb.len;have va:=ha.lt da;have vb:=hb.lt db;unfold zc5;rw [rAbs a7,rAbs a7];simp only [Option.bind_some,dM];obtain ⟨e,he⟩:∃e,e=512:=⟨_,rfl⟩;obtain ⟨k64,h64k⟩:∃k,k=64:=⟨_,rfl⟩; (have h64:256 ^ k64=gd:=by rw [h64k,ziq]);refine lv (fun (s:List Int×List Int) X Y=>LsIs s.1 X∧LsIs s.2 Y∧X<gd∧Y<gd) (fun (o:Option GInt)=>∃D,o=some (GInt.mk false D)∧BigIs D (Nat.gcd (dG a) (dG b))) (k:=e+e) (X:=dG a) (Y:=dG b) (s:=(a.Digits.reverse,b.Digits.reverse)) (show LsIs a.Digits.reverse (dG a)∧LsIs b.Digits.reverse (dG b)∧dG a<gd∧dG b<gd from ⟨(ha.big da).ls,(hb.big db).ls,va,vb⟩) ?_ a7 (fun s next hI=>?_) (fun s next X Y hI hY hnx=>?_)
 ·have:=Nat.mul_lt_mul'' va vb;rw [zfI he,←Nat.pow_add] at this;exact this
 ·obtain ⟨i1,i2,i3,i4⟩:=hI;have e0:=i2.nil.2 rfl;rw [e0,decide_eq_false a8,cond_false];have hl:=i1.len (k:=k64) (by rw [h64];exact i3);obtain ⟨D,d1,d2⟩:=zkQ (fuel:=fuel) (neg:=false) i1.dig a7 a7;rw [d1];rw [i1.eq] at d2;exact ⟨D,rfl,d2⟩
 ·obtain ⟨i1,i2,i3,i4⟩:=hI;have hp:=i2.pos.2 hY;have l1:=i1.len (k:=k64) (by rw [h64];exact i3);have l2:=i2.len (k:=k64) (by rw [h64];exact i4);rw [decide_eq_true a7,cond_true];obtain ⟨q,r,e1,e2,e3⟩:=zkU (fuel:=fuel) i1 i2 hY a7 a7 hf;rw [e1];refine fj ?_;exact hnx _ ⟨i2,e3,i4,Nat.lt_trans (Nat.mod_lt _ hY) i4⟩
theorem rOf {fuel:Nat}{n:Int}(hf:2000≤fuel)(hn:0≤n∧n≤9223372036854775807):∃D,zd8 fuel n=some ⟨false,D⟩∧BigIs D n.toNat:=by
 unfold zd8;simp only [dM];have hneg:decide (n<0)=false:=decide_eq_false a7;rw [hneg]
 have key:∀k m:Nat,∀s:List Int×Int,0≤s.2→s.2.toNat<256 ^ k→k+1≤m→s.1.length+k≤1000→Dig 256 s.1→val 256 s.1+256 ^ s.1.length*s.2.toNat=n.toNat→s.2≤9223372036854775807→∃D,fi (fun (next5:(List Int×Int)→Option GInt) (s5:List Int×Int)=>
   (bif decide (¬s5.2=0) then
    dz (0≤s5.2∧1≤(256:Int)) <|
     (bif decide ((s5.2 % 256)<0) then
      dz (dA (s5.1++[(IntKind.u8.wrap (wI (0 - (s5.2 % 256))))]).length 1) <|
     dz (0≤s5.2∧s5.2≤9223372036854775807∧1≤(256:Int)) <|
     next5 ((s5.1++[(IntKind.u8.wrap (wI (0 - (s5.2 % 256))))]),(s5.2 / 256))
      else
      dz (dA (s5.1++[(IntKind.u8.wrap (s5.2 % 256))]).length 1) <|
     dz (0≤s5.2∧s5.2≤9223372036854775807∧1≤(256:Int)) <|
     next5 ((s5.1++[(IntKind.u8.wrap (s5.2 % 256))]),(s5.2 / 256)))
    else
    (zch fuel false s5.1).bind fun r25=>some r25)) m s=some ⟨false,D⟩∧BigIs D n.toNat:=by
  intro k
  induction k with
  |zero=>
   intro m s h0 h1 h2 h3 h4 h5 h6;obtain ⟨m',rfl⟩:∃q,m=q+1:=⟨m - 1,by omega⟩;rw [Nat.pow_zero] at h1;rw [zh3,decide_eq_false a7,cond_false];obtain ⟨D,d1,d2⟩:=zkQ (fuel:=fuel) (neg:=false) h4 a7 a7;rw [d1];rw [show s.2.toNat=0 by omega,Nat.mul_zero,Nat.add_zero] at h5;rw [h5] at d2;exact ⟨D,rfl,d2⟩
  |succ k ih=>
   intro m s h0 h1 h2 h3 h4 h5 h6;obtain ⟨m',rfl⟩:∃q,m=q+1:=⟨m - 1,by omega⟩;rw [zh3];by_cases hz:s.2=0
   ·rw [decide_eq_false a7,cond_false];obtain ⟨D,d1,d2⟩:=zkQ (fuel:=fuel) (neg:=false) h4 a7 a7;rw [d1];rw [show s.2.toNat=0 by omega,Nat.mul_zero,Nat.add_zero] at h5;rw [h5] at d2;exact ⟨D,rfl,d2⟩
   ·rw [decide_eq_true hz,cond_true,eE a7,decide_eq_false a7,cond_false,eE (by show _*_≤_;rw [List.length_append];simp;omega),eE a7];rw [u8w a7];refine ih m' _ b3 ?_ a7 (by dsimp only;rw [List.length_append];simp;omega) (h4.app (Dig.nil.cons a7)) ?_ b3
    ·dsimp only;rw [Nat.pow_succ] at h1;generalize 256 ^ k=z at *;omega
    ·dsimp only;rw [zhA,List.length_append,show ([s.2 % 256]:List Int).length=1 from rfl,Nat.pow_succ,Nat.mul_assoc,Nat.add_assoc,←Nat.mul_add,←h5]
     congr 2
     omega
 exact key 8 fuel ([],n) b3 b3 a7 b4 Dig.nil (by simp [val]) b3
theorem ziI:∀ {a b:List Int},Dig 256 a→Dig 256 b→iG a=iG b→a=b
 | [],[],_,_,_=>rfl
 | [],_ :: _,_,_,h=>by cases h
 |_ :: _,[],_,_,h=>by cases h
 |x :: a,y :: b,ha,hb,h=>by
  unfold iG at h;rw [List.map_cons,List.map_cons,List.cons.injEq] at h;have h1:=ha.head;have h2:=hb.head;have h3:=congrArg UInt8.toNat h.1;rw [UInt8.toNat_ofNat',UInt8.toNat_ofNat'] at h3;rw [ziI ha.tail hb.tail h.2,show x=y by omega]
theorem rSame {D E:List Int}{X Y:Nat}{n m:Bool}(hD:BigIs D X)(hE:BigIs E Y):mn ⟨n,D⟩ ⟨m,E⟩=(n == m&&decide (X=Y)):=by
 unfold mn;dsimp only;by_cases h:X=Y
 ·subst h;rw [hD.uniq hE,decide_eq_true rfl,beq_self_eq_true]
 ·have:(iG D == iG E)=false:=by
   rw [beq_eq_false_iff_ne];intro he;have:=ziI hD.dig hE.dig he;subst this;exact h (hD.eq.symm.trans hE.eq)
  rw [this,decide_eq_false h]
theorem zkY {g:GInt}(h:VI g):zcy g=some true:=by
 unfold zcy;have hl:=h.len;rw [decide_eq_false a7,cond_false];by_cases h0:g.Digits=[]
 ·rw [h.sgn h0,h0];rfl
 ·have:=List.length_pos_iff.2 h0;have h1:=h.lead.elim (fun e=>absurd e h0) id;rw [decide_eq_false a7,cond_false,eE a7,decide_eq_true h1]
theorem zla {g:GInt}(h:¬VI g):zcy g=some false:=by
 unfold zcy;by_cases hl:g.Digits.length≤64
 ·rw [decide_eq_false a7,cond_false];by_cases h0:g.Digits=[]
  ·cases hn:g.Neg with
   |false=>exact absurd ⟨hl, .inl h0,fun _=>hn⟩ h
   |true=>rw [h0];rfl
  ·have:=List.length_pos_iff.2 h0;rw [decide_eq_false a7,cond_false,eE a7];by_cases h2:nth g.Digits 0=0
   ·rw [h2];rfl
   ·exact absurd ⟨hl, .inr h2,fun e=>absurd e h0⟩ h
 ·rw [decide_eq_true a7,cond_true]
theorem zkc {fuel:Nat}{p:GRatio}(hf:2000≤fuel)(dn:Dig 256 p.Num.Digits)(dd:Dig 256 p.Den.Digits):∃b,zdI fuel p=some b∧(b=true↔VR p):=by
 unfold zdI;simp only [dM];by_cases hN:VI p.Num
 ·rw [zkY hN];simp only [Option.bind_some,cond_true];by_cases hD:VI p.Den
  ·rw [zkY hD];simp only [Option.bind_some,cond_true]
   cases hneg:p.Den.Neg with
   |true=>exact ⟨false,rfl,fun h=>(by cases h),fun h=>(by have:=h.neg;rw [hneg] at this;cases this)⟩
   |false=>
    simp only [Bool.not_false,cond_true];obtain ⟨C,c1,c2⟩:=zkD (fuel:=fuel) hf hN hD dn dd;obtain ⟨E,e1,e2⟩:=rOf (fuel:=fuel) (n:=1) hf a7;rw [c1,e1];refine fj ?_;rw [rSame c2 e2,beq_self_eq_true,Bool.true_and,show (1:Int).toNat=1 from rfl];have hp:=(hD.big dd).pos;by_cases hg:Nat.gcd (dG p.Num) (dG p.Den)=1
    ·rw [decide_eq_true hg,cond_true];refine ⟨_,rfl,?_⟩;rw [decide_eq_true_eq];exact ⟨fun h=>⟨hN,hD,hneg,hp.1 a7,hg⟩,fun h=>(by have:=hp.2 h.pos;omega)⟩
    ·rw [decide_eq_false hg,cond_false];exact ⟨false,rfl,fun h=>(by cases h),fun h=>absurd h.gcd hg⟩
  ·rw [zla hD];exact ⟨false,rfl,fun h=>(by cases h),fun h=>absurd h.den hD⟩
 ·rw [zla hN];exact ⟨false,rfl,fun h=>(by cases h),fun h=>absurd h.num hN⟩
theorem ziz {g:GInt}(hd:Dig 256 g.Digits):jJ g=if g.Neg=true∨2<g.Digits.length then -1 else (dG g:Int):=by
 obtain ⟨neg,D⟩:=g;unfold jJ;dsimp only at hd ⊢
 cases neg with
 |true=>rw [if_pos (.inl rfl)];rfl
 |false=>
  by_cases hl:2<D.length
  ·rw [if_pos (.inr hl),decide_eq_true a7];rfl
  ·rw [if_neg b8,decide_eq_false a7];simp only [Bool.or_self,cond_false,dM,dG]
   match D,hl,hd with
   | [],_,_=>rfl
   | [a],_,h=>
    have:=h.head
    show wI ((wI (0*256))+(wI a))=_
    rw [gq (x:=0*256) a7,gq (x:=a) a7,gq a7];simp [val];omega
   | [a,b],_,h=>
    have h1:=h.head;have h2:=h.tail.head
    show wI ((wI ((wI ((wI (0*256))+(wI a))) *256))+(wI b))=_
    rw [gq (x:=0*256) a7,gq (x:=a) a7,gq (x:=0*256+a) a7,gq (x:=(0*256+a) *256) a7,gq (x:=b) a7,gq a7];simp [val];omega
   |_ :: _ :: _ :: _,h,_=>exact absurd b4 h
structure PT (p:GRatio):Prop where
 r:VR p
 nn:p.Num.Neg=false
 den:dG p.Den≤1000
 num:dG p.Num≤dG p.Den
theorem zgz {g:GInt}(h:g.Neg=false):zI g=(dG g:Int):=by unfold zI;rw [h,if_neg b4]
theorem zkB {fuel:Nat}{p:GRatio}(hf:2000≤fuel)(dn:Dig 256 p.Num.Digits)(dd:Dig 256 p.Den.Digits):∃b,zbU fuel p=some b∧(b=true↔PT p):=by
 obtain ⟨b,b1,b2⟩:=zjT (fuel:=fuel) hf dn dd;unfold zbU zeU;rw [b1];simp only [Option.bind_some,dM]
 cases b with
 |false=>exact ⟨false,rfl,fun h=>(by cases h),fun h=>b2.2 h.r⟩
 |true=>
  have hv:=b2.1 rfl;simp only [Bool.not_true,cond_false];rw [ziV hv.num dn];refine fj ?_;have hnz:=(hv.num.big dn).nil
  cases hn:p.Num.Neg with
  |true=>
   have h0:dG p.Num≠0:=fun e=>by
    have:=hv.num.sgn (hnz.2 e);rw [hn] at this;cases this
   rw [if_neg h0,if_pos rfl];exact ⟨false,rfl,fun h=>(by cases h),fun h=>(by have:=h.nn;rw [hn] at this;cases this)⟩
  |false=>
   have e:decide ((if dG p.Num=0 then (0:Int) else if false=true then -1 else 1)<0)=false:=by
    split <;> rfl
   rw [e,cond_false];obtain ⟨E,e1,e2⟩:=ki (fuel:=fuel) (n:=1000) hf a7;rw [e1];refine fj ?_;have h1:(1000:Int).natAbs=1000:=rfl;rw [h1] at e2;have hE:VI ⟨decide ((1000:Int)<0),E⟩:=fM e2 (Nat.lt_of_lt_of_le (show 1000<2 ^ 10 by decide) (zg5 a7))
   have zE:zI ⟨decide ((1000:Int)<0),E⟩=1000:=by
    rw [zgz rfl];unfold dG;rw [e2.eq];rfl
   rw [zfu hf hv.den hE dd e2.dig];refine fj ?_;rw [zE,zgz hv.neg];by_cases hd:dG p.Den≤1000
   ·have hle:(if ((dG p.Den:Nat):Int)<1000 then (-1:Int) else if (1000:Int)<((dG p.Den:Nat):Int) then 1 else 0)≤0:=by
     split
     ·decide
     ·rw [if_neg a7];decide
    rw [decide_eq_true hle,cond_true,zfu hf hv.num hv.den dn dd];refine fj ?_;rw [zgz hn,zgz hv.neg];refine ⟨_,rfl,?_⟩;rw [decide_eq_true_eq];constructor
    ·intro h;refine ⟨hv,hn,hd,?_⟩
     split at h
     ·omega
     ·split at h
      ·exact absurd h a8
      ·omega
    ·intro h;have:=h.num
     split
     ·decide
     ·rw [if_neg a7];decide
   ·rw [decide_eq_false (by rw [if_neg a7,if_pos a7];decide),cond_false];exact ⟨false,rfl,fun h=>(by cases h),fun h=>absurd h.den hd⟩
theorem zjK {fuel:Nat}{p:GRatio}(hf:2000≤fuel)(dn:Dig 256 p.Num.Digits)(dd:Dig 256 p.Den.Digits):∃b,zdM fuel p=some b∧(b=true↔PT p):=by
 obtain ⟨b,b1,b2⟩:=zkc (fuel:=fuel) hf dn dd;unfold zdM;rw [b1];refine fj ?_
 cases b with
 |false=>exact ⟨false,rfl,fun h=>(by cases h),fun h=>b2.2 h.r⟩
 |true=>
  have hv:=b2.1 rfl;simp only [Bool.not_true,cond_false];rw [ziz dn,ziz dd];refine ⟨_,rfl,?_⟩;simp only [Bool.and_eq_true,decide_eq_true_eq]
  have long:∀ {g:GInt},VI g→Dig 256 g.Digits→2<g.Digits.length→65536≤dG g:=fun {g} h hd hl=>by
   have hb:=h.big hd;refine Nat.le_of_not_lt fun hc=>?_;have:=hb.len (k:=2) a7;omega
  constructor
  ·rintro ⟨⟨⟨h1,h2⟩,h3⟩,h4⟩
   split at h1
   ·omega
   ·rename_i hc
    split at h2
    ·omega
    ·have hn:p.Num.Neg=false:=by
      cases hh:p.Num.Neg with
      |false=>rfl
      |true=>exact absurd (.inl hh) hc
     rw [if_neg hc,if_neg cU] at h4;rw [if_neg cU] at h3;exact ⟨hv,hn,by omega,by omega⟩
  ·intro h;have hd:=h.den;have hm:=h.num;have hp:=hv.pos
   have c1:¬(p.Num.Neg=true∨2<p.Num.Digits.length):=by
    rintro (hc|hc)
    ·rw [h.nn] at hc;cases hc
    ·have:=long hv.num dn hc;omega
   have c2:¬(p.Den.Neg=true∨2<p.Den.Digits.length):=by
    rintro (hc|hc)
    ·rw [hv.neg] at hc;cases hc
    ·have:=long hv.den dd hc;omega
   rw [if_neg c1,if_neg c2];exact ⟨⟨⟨by omega,by omega⟩,by omega⟩,by omega⟩
def fm (F:Frz)(c:List Value)(x:List GBid):Prop:=∃(v0:Value) (cs0:List (List Value)),c=[v0]∧SlD cY F v0 7 cs0 x
theorem R_List_GBid.mono {F G:Frz}{c:List Value}{x:List GBid}(hle:F.Le G)(h:fm F c x):fm G c x:=by
 obtain ⟨v0,cs0,h0,h1⟩:=h;exact ⟨v0,cs0,h0,SlD.mono (rep:=cY) (fun _ _ _ _=>GBid.mono) h1 hle⟩
theorem R_List_GBid.len {F:Frz}{c:List Value}{x:List GBid}(h:fm F c x):c.length=1:=by
 obtain ⟨v0,cs0,h0,h1⟩:=h;subst h0;rfl
theorem R_List_GBid.one {F:Frz}{c:List Value}{x:List GBid}(h:fm F c x):OneCs c:=by
 obtain ⟨v0,cs0,h0,h1⟩:=h;subst h0;haveI:=h1.1.oneC
 infer_instance
def zcu (fuel : Nat)  : Option Bool :=
 (zfd [(GProduct.mk 0 1 2 1 100)] [(GBidder.mk 0 2 0 [2]),(GBidder.mk 1 2 0 [1])] (GIncrement.mk 100 10) ([107,101,121]:List Int)).bind fun r25=>
 (bif (r25.1).isSome then
 dM (fun (x_2:Bool)=>
 (bif x_2 then
 some false
 else
 (zgv fuel 1 2).bind fun r55=>
 (zbI fuel (r25.1.getD default) [(GBid.mk 0 0 (-2) (GRatio.mk (GInt.mk r55.Num.Neg r55.Num.Digits) (GInt.mk r55.Den.Neg r55.Den.Digits)))]).bind fun r61=>
 (zbV fuel [(GBid.mk 0 0 (-2) (GRatio.mk (GInt.mk r55.Num.Neg r55.Num.Digits) (GInt.mk r55.Den.Neg r55.Den.Digits)))]).bind fun r66=>
 (zba (GAuction.mk ((r25.1.getD default).catalogue) r61.2.2.1 (GIncrement.mk ((r25.1.getD default).increment.Activity) ((r25.1.getD default).increment.Step)) ((r25.1.getD default).key) r61.2.2.2.1 r61.2.2.2.2) 0).bind fun r71=>
 (zba (GAuction.mk ((r25.1.getD default).catalogue) r61.2.2.1 (GIncrement.mk ((r25.1.getD default).increment.Activity) ((r25.1.getD default).increment.Step)) ((r25.1.getD default).key) r61.2.2.2.1 r61.2.2.2.2) 1).bind fun r76=>
 dM (fun (x_8:Bool)=>
 some x_8)
 (fun k9=>
 (bif decide (r61.2.1=0) then
 (bif decide (r66.2=0) then
 (bif decide (r71.2=0) then
 (bif decide (r76.2=0) then
 (bif (zcz r61.1 [(-1)]) then
 (zbd (GAuction.mk ((r25.1.getD default).catalogue) r61.2.2.1 (GIncrement.mk ((r25.1.getD default).increment.Activity) ((r25.1.getD default).increment.Step)) ((r25.1.getD default).key) r61.2.2.2.1 r61.2.2.2.2)).bind fun r100=>
 (bif (zcz r100 [105]) then
 (zbl (GAuction.mk ((r25.1.getD default).catalogue) r61.2.2.1 (GIncrement.mk ((r25.1.getD default).increment.Activity) ((r25.1.getD default).increment.Step)) ((r25.1.getD default).key) r61.2.2.2.1 r61.2.2.2.2)).bind fun r106=>
 (bif r106 then
 (zbv (GAuction.mk ((r25.1.getD default).catalogue) r61.2.2.1 (GIncrement.mk ((r25.1.getD default).increment.Activity) ((r25.1.getD default).increment.Step)) ((r25.1.getD default).key) r61.2.2.2.1 r61.2.2.2.2)).bind fun r110=>
 (bif decide (r110=210) then
 (zbL (GAuction.mk ((r25.1.getD default).catalogue) r61.2.2.1 (GIncrement.mk ((r25.1.getD default).increment.Activity) ((r25.1.getD default).increment.Step)) ((r25.1.getD default).key) r61.2.2.2.1 r61.2.2.2.2)).bind fun r115=>
 (bif decide (r115=2) then
 (bif decide (r71.1.Eligibility=1) then
 (bif decide (r76.1.Eligibility=1) then
 k9 ((iG r66.1) == ([1,0,0,3,1,2]:List UInt8))
 else
 k9 false)
 else
 k9 false)
 else
 k9 false)
 else
 k9 false)
 else
 k9 false)
 else
 k9 false)
 else
 k9 false)
 else
 k9 false)
 else
 k9 false)
 else
 k9 false)
 else
 k9 false))))
 (fun k3=>
 (bif decide (¬r25.2=0) then
 k3 true
 else
 (zaB (r25.1.getD default)).bind fun r36=>
 (bif !(zcz r36 [1]) then
 k3 true
 else
 (zbd (r25.1.getD default)).bind fun r43=>
 (bif !(zcz r43 [100]) then
 k3 true
 else
 (zbb (r25.1.getD default)).bind fun r50=>
 k3 (!(zcz r50 [110]))))))
 else
 none)
theorem zes (F0 : Frz)(w : World)(hF0 : F0.At w)  (hgl : GlF F0)(fuel : Nat)(r : Bool)(hr : zcu fuel = some r) : Calls Tryz.prog 11 #[] w fun e w' => e = .returned (.bool r) ∧ Below w.heap.size w w' := by
 have hk:=hr;unfold zcu at hk;obtain ⟨S0,F1,rfl,hS0,hp0⟩:=eC hF0;refine dS Tryz.func11 rfl rfl rfl hp0 ?_;refine jm ?_;refine i9 ?_;refine ii ?_;rintro _ _ ⟨g14,rfl,rfl⟩;refine fV ?_;refine jY (fun w hw=>hw.freezeR (i:=1) (j:=0) a8 rfl rfl) ?_;rintro F2 ⟨le1_2,hz2⟩;refine fD ?_;have hfF2:SlC F2.toFrz (.slice (some ⟨g14,0,none⟩) 1 1) 5 ([(GProduct.mk 0 1 2 1 100)].map df):=(SlK.lit hz2 rfl (Nat.le_refl _) a8).toF (xs:=[(GProduct.mk 0 1 2 1 100)]) rfl GProduct.len;have hq:=dC hk;clear hk;obtain ⟨r25,hr25,hk⟩:=hq; (try dsimp only at hk);refine jv ((r25.1).isSome) (fun h1=>?_) (fun h1=>?_)
 ·replace hk:=dt hk h1;refine eA ?_;refine ii ?_;rintro _ _ ⟨g17,rfl,rfl⟩;refine q1V ?_;rintro F3 ⟨le2_3,hz3⟩;refine fD ?_;have le1_3:=le1_2.trans le2_3;have hfF3:SlC F3.toFrz (.slice (some ⟨g17,0,none⟩) 1 1) 1 ([2].map eI):=(SlK.lit hz3 rfl (Nat.le_refl _) a8).toF (xs:=[2]) rfl (fun _=>rfl);refine i9 ?_;refine ii ?_;rintro _ _ ⟨g19,rfl,rfl⟩;refine q1V ?_;rintro F4 ⟨le3_4,hz4⟩;refine fD ?_;have le1_4:=le1_3.trans le3_4;have le2_4:=le2_3.trans le3_4;have hfF4:SlC F4.toFrz (.slice (some ⟨g19,0,none⟩) 1 1) 1 ([1].map eI):=(SlK.lit hz4 rfl (Nat.le_refl _) a8).toF (xs:=[1]) rfl (fun _=>rfl);refine i9 ?_;refine ii ?_;rintro _ _ ⟨g21,rfl,rfl⟩;have hl21:OwnD cX F4.toFrz 4 [[.int .i64 0, .int .i64 2, .int .i64 0,(.slice (some ⟨g17,0,none⟩) 1 1)],[.int .i64 1, .int .i64 2, .int .i64 0,(.slice (some ⟨g19,0,none⟩) 1 1)]] [(GBidder.mk 0 2 0 [2]),(GBidder.mk 1 2 0 [1])]:=(fe (fe (OwnD.nil _ _ 4) ⟨_,rfl,(SlC.mono hfF3 le3_4)⟩) ⟨_,rfl,hfF4⟩);refine q1V ?_;rintro F5 ⟨le4_5,hz5⟩;refine fD ?_;have le1_5:=le1_4.trans le4_5;have le2_5:=le2_4.trans le4_5;have hfF5:SlD cX F5.toFrz (.slice (some ⟨g21,0,none⟩) 2 2) 4 [[.int .i64 0, .int .i64 2, .int .i64 0,(.slice (some ⟨g17,0,none⟩) 1 1)],[.int .i64 1, .int .i64 2, .int .i64 0,(.slice (some ⟨g19,0,none⟩) 1 1)]] [(GBidder.mk 0 2 0 [2]),(GBidder.mk 1 2 0 [1])]:=(SlK.lit hz5 rfl (Nat.le_refl _) a8).toD (OwnD.mono (rep:=cX) (fun _ _ _ _=>GBidder.mono) hl21 le4_5) rfl;refine i9 ?_;refine ii ?_;rintro _ _ ⟨g23,rfl,rfl⟩;refine q4h ?_;rintro _ _ ⟨F6,⟨le5_6,hf24⟩,rfl,rfl⟩;refine fD ?_;have le1_6:=le1_5.trans le5_6;have le2_6:=le2_5.trans le5_6;haveI:=hf24.oneC;refine dc (eD [0] [] [] rfl rfl rfl rfl a8 (fun w hw hw2 hF=>(zgh _ w hF [(GProduct.mk 0 1 2 1 100)] (.slice (some ⟨g14,0,none⟩) 1 1) (SlC.mono hfF2 le2_6) [(GBidder.mk 0 2 0 [2]),(GBidder.mk 1 2 0 [1])] (.slice (some ⟨g21,0,none⟩) 2 2) [[.int .i64 0, .int .i64 2, .int .i64 0,(.slice (some ⟨g17,0,none⟩) 1 1)],[.int .i64 1, .int .i64 2, .int .i64 0,(.slice (some ⟨g19,0,none⟩) 1 1)]] (SlD.mono (rep:=cX) (fun _ _ _ _=>GBidder.mono) hfF5 le5_6) (GIncrement.mk 100 10) ([107,101,121]:List Int) (.slice (some ⟨g23,0,none⟩) 3 3) hf24 r25 hr25).mono (fun e w' hp=>hp.1 h1))) ?_;rintro _ _ ⟨⟨g25_n,v25_n_0,v25_n_1,c25_n_1,v25_n_4,v25_n_6⟩,F7,le6_7,⟨hf25_n_0,hf25_n_1,hf25_n_4,hf25_n_6⟩,rfl,rfl⟩;refine eS ?_; (try dsimp only at hf25_n_0 hf25_n_1 hf25_n_4 hf25_n_6);have le1_7:=le1_6.trans le6_7;refine iV ?_;refine ju ?_; (try dsimp only at hk);have hq:=d7 hk;clear hk;obtain ⟨k3,hk3,hk⟩:=hq; (try dsimp only at hk);refine dk (ι:=Bool×FzB w (fun _=>False) S0) (fun z=>[(2, .pointer (some ⟨g25_n,0,none⟩)),(54, .bool z.1)]) (fun z=>[.row g25_n 104 [v25_n_0,v25_n_1, .int .i64 ((r25.1.getD default).increment.Activity), .int .i64 ((r25.1.getD default).increment.Step),v25_n_4, .int .i64 ((r25.1.getD default).rounds),v25_n_6], .fr z.2]) (fun z=>k3 z.1=some r∧F7.toFrz.Le z.2.toFrz) ?_ ?_
  ·refine gQ ?_;refine dm rfl rfl rfl (fun h4=>?_) (fun h4=>?_)
   ·have p4:=of_decide_eq_true h4;replace hk:=dt hk h4;refine TL.run 24 rfl ?_;refine fH ?_;exact de (true,F7) ⟨hk,(Frz.Le.refl _)⟩ (.c (.c .nil)) (List.Sublist.refl _)
   ·have p4:=of_decide_eq_false h4;replace hk:=dw hk h4;refine dJ ?_;refine cW (mx (e:=104) a9 rfl rfl rfl) ?_;refine gf ?_;have hq:=dC hk;clear hk;obtain ⟨r36,hr36,hk⟩:=hq;refine dc (eD [0,1] [.row g25_n 104 [v25_n_0,v25_n_1, .int .i64 ((r25.1.getD default).increment.Activity), .int .i64 ((r25.1.getD default).increment.Step),v25_n_4, .int .i64 ((r25.1.getD default).rounds),v25_n_6]] [] rfl rfl rfl rfl a8 (fun w hw hw2 hF=>zaT _ w hF (r25.1.getD default) g25_n v25_n_0 hf25_n_0 v25_n_1 c25_n_1 hf25_n_1 v25_n_4 hf25_n_4 v25_n_6 hf25_n_6 hw2.takes.1 hw2.takes.2 r36 hr36)) ?_;rintro _ _ ⟨v36_0_0,F9,le7_9,hf36_0_0,hq,rfl⟩;obtain rfl:=hq.symm;refine eS ?_;haveI:=hf36_0_0.oneC;refine ii ?_;rintro _ _ ⟨g37,rfl,rfl⟩;refine q1W ?_;rintro F10 ⟨le9_10,hz10⟩;refine fD ?_;have le7_10:=le7_9.trans le9_10;have hfF10:SlC F10.toFrz (.slice (some ⟨g37,0,none⟩) 1 1) 1 ([1].map eI):=(SlK.lit hz10 rfl (Nat.le_refl _) a8).toF (xs:=[1]) rfl (fun _=>rfl);refine dc (dh rfl rfl rfl (fun w hw=>zeh _ w (hw.fr (i:=1) rfl) r36 v36_0_0 (SlC.mono hf36_0_0 le9_10) [1] (.slice (some ⟨g37,0,none⟩) 1 1) hfF10)) ?_;refine ez ?_;refine gf ?_;refine dm rfl rfl rfl (fun h5=>?_) (fun h5=>?_)
    ·replace hk:=dt hk h5;refine TL.run 13 rfl ?_;refine fH ?_;exact de (true,F10) ⟨hk,le7_10⟩ (.c (.c .nil)) (List.Sublist.refl _)
    ·replace hk:=dw hk h5;refine dJ ?_;have hq:=dC hk;clear hk;obtain ⟨r43,hr43,hk⟩:=hq;refine dc (eD [0,1] [.row g25_n 104 [v25_n_0,v25_n_1, .int .i64 ((r25.1.getD default).increment.Activity), .int .i64 ((r25.1.getD default).increment.Step),v25_n_4, .int .i64 ((r25.1.getD default).rounds),v25_n_6]] [] rfl rfl rfl rfl a8 (fun w hw hw2 hF=>zcf _ w hF (r25.1.getD default) g25_n v25_n_0 (SlC.mono hf25_n_0 le7_10) v25_n_1 c25_n_1 (SlD.mono (rep:=cX) (fun _ _ _ _=>GBidder.mono) hf25_n_1 le7_10) v25_n_4 (SlC.mono hf25_n_4 le7_10) v25_n_6 (SlC.mono hf25_n_6 le7_10) hw2.takes.1 hw2.takes.2 r43 hr43)) ?_;rintro _ _ ⟨v43_0_0,F11,le10_11,hf43_0_0,hq,rfl⟩;obtain rfl:=hq.symm;refine eS ?_;have le7_11:=le7_10.trans le10_11;haveI:=hf43_0_0.oneC;refine ii ?_;rintro _ _ ⟨g44,rfl,rfl⟩;refine q1W ?_;rintro F12 ⟨le11_12,hz12⟩;refine fD ?_;have le7_12:=le7_11.trans le11_12;have hfF12:SlC F12.toFrz (.slice (some ⟨g44,0,none⟩) 1 1) 1 ([100].map eI):=(SlK.lit hz12 rfl (Nat.le_refl _) a8).toF (xs:=[100]) rfl (fun _=>rfl);refine dc (dh rfl rfl rfl (fun w hw=>zeh _ w (hw.fr (i:=1) rfl) r43 v43_0_0 (SlC.mono hf43_0_0 le11_12) [100] (.slice (some ⟨g44,0,none⟩) 1 1) hfF12)) ?_;refine ez ?_;refine gf ?_;refine dm rfl rfl rfl (fun h6=>?_) (fun h6=>?_)
     ·replace hk:=dt hk h6;refine TL.run 6 rfl ?_;refine fH ?_;exact de (true,F12) ⟨hk,le7_12⟩ (.c (.c .nil)) (List.Sublist.refl _)
     ·replace hk:=dw hk h6;refine dJ ?_;have hq:=dC hk;clear hk;obtain ⟨r50,hr50,hk⟩:=hq;refine dc (eD [0,1] [.row g25_n 104 [v25_n_0,v25_n_1, .int .i64 ((r25.1.getD default).increment.Activity), .int .i64 ((r25.1.getD default).increment.Step),v25_n_4, .int .i64 ((r25.1.getD default).rounds),v25_n_6]] [] rfl rfl rfl rfl a8 (fun w hw hw2 hF=>zci _ w hF (r25.1.getD default) g25_n v25_n_0 (SlC.mono hf25_n_0 le7_12) v25_n_1 c25_n_1 (SlD.mono (rep:=cX) (fun _ _ _ _=>GBidder.mono) hf25_n_1 le7_12) v25_n_4 (SlC.mono hf25_n_4 le7_12) v25_n_6 (SlC.mono hf25_n_6 le7_12) hw2.takes.1 hw2.takes.2 r50 hr50)) ?_;rintro _ _ ⟨v50_0_0,F13,le12_13,hf50_0_0,hq,rfl⟩;obtain rfl:=hq.symm;refine eS ?_;have le7_13:=le7_12.trans le12_13;haveI:=hf50_0_0.oneC;refine ii ?_;rintro _ _ ⟨g51,rfl,rfl⟩;refine q1W ?_;rintro F14 ⟨le13_14,hz14⟩;refine fD ?_;have le7_14:=le7_13.trans le13_14;have hfF14:SlC F14.toFrz (.slice (some ⟨g51,0,none⟩) 1 1) 1 ([110].map eI):=(SlK.lit hz14 rfl (Nat.le_refl _) a8).toF (xs:=[110]) rfl (fun _=>rfl);refine dc (dh rfl rfl rfl (fun w hw=>zeh _ w (hw.fr (i:=1) rfl) r50 v50_0_0 (SlC.mono hf50_0_0 le13_14) [110] (.slice (some ⟨g51,0,none⟩) 1 1) hfF14)) ?_;refine jV ?_;exact de (!(zcz r50 [110]),F14) ⟨hk,le7_14⟩ (.c (.c .nil)) (List.Sublist.refl _)
  ·rintro ⟨x_2,F8⟩ ⟨hk,le7_8⟩; (try dsimp only at *);rw [←hk3] at hk; (try dsimp only at hk);have le1_8:=le1_7.trans le7_8;refine T.cond rfl (fun h7=>?_) (fun h7=>?_)
   ·replace hk:=dt hk h7;refine il ?_;obtain rfl:=Option.some.inj hk;exact eo
   ·replace hk:=dw hk h7;refine fT ?_;have hq:=dC hk;clear hk;obtain ⟨r55,hr55,hk⟩:=hq; (try dsimp only at hk);refine fg ?_;refine dc (dp 1 rfl rfl rfl rfl (fun w hw hF=>zi7 _ w hF 1 2 fuel r55 hr55)) ?_;rintro _ _ ⟨⟨v55_0_1,v55_0_3⟩,F15,le8_15,⟨hf55_0_1,hf55_0_3⟩,rfl,rfl⟩;dsimp only at hf55_0_1 hf55_0_3 ⊢;have le1_15:=le1_8.trans le8_15;have le7_15:=le7_8.trans le8_15;haveI:=hf55_0_1.oneC;haveI:=hf55_0_3.oneC;refine i9 ?_;refine ii ?_;rintro _ _ ⟨g57,rfl,rfl⟩;have hl57:OwnD cY F15.toFrz 7 [[.int .i64 0, .int .i64 0, .int .i64 (-2), .bool r55.Num.Neg,v55_0_1, .bool r55.Den.Neg,v55_0_3]] [(GBid.mk 0 0 (-2) (GRatio.mk (GInt.mk r55.Num.Neg r55.Num.Digits) (GInt.mk r55.Den.Neg r55.Den.Digits)))]:=(fe (OwnD.nil _ _ 7) ⟨_,_,rfl,hf55_0_1,hf55_0_3⟩);refine fV ?_;refine jY (fun w hw=>hw.freezeR (i:=2) (j:=0) a8 rfl rfl) ?_;rintro F16 ⟨le15_16,hz16⟩;refine fD ?_;have le1_16:=le1_15.trans le15_16;have le7_16:=le7_15.trans le15_16;have hfF16:SlD cY F16.toFrz (.slice (some ⟨g57,0,none⟩) 1 1) 7 [[.int .i64 0, .int .i64 0, .int .i64 (-2), .bool r55.Num.Neg,v55_0_1, .bool r55.Den.Neg,v55_0_3]] [(GBid.mk 0 0 (-2) (GRatio.mk (GInt.mk r55.Num.Neg r55.Num.Digits) (GInt.mk r55.Den.Neg r55.Den.Digits)))]:=(SlK.lit hz16 rfl (Nat.le_refl _) a8).toD (OwnD.mono (rep:=cY) (fun _ _ _ _=>GBid.mono) hl57 le15_16) rfl;have hq:=dC hk;clear hk;obtain ⟨r61,hr61,hk⟩:=hq; (try dsimp only at hk);refine fa ?_;refine dc (eD [0,1] [.row g25_n 104 [v25_n_0,v25_n_1, .int .i64 ((r25.1.getD default).increment.Activity), .int .i64 ((r25.1.getD default).increment.Step),v25_n_4, .int .i64 ((r25.1.getD default).rounds),v25_n_6]] [] rfl rfl rfl rfl a8 (fun w hw hw2 hF=>zdx _ w hF (r25.1.getD default) g25_n v25_n_0 (SlC.mono hf25_n_0 le7_16) v25_n_1 c25_n_1 (SlD.mono (rep:=cX) (fun _ _ _ _=>GBidder.mono) hf25_n_1 le7_16) v25_n_4 (SlC.mono hf25_n_4 le7_16) v25_n_6 (SlC.mono hf25_n_6 le7_16) [(GBid.mk 0 0 (-2) (GRatio.mk (GInt.mk r55.Num.Neg r55.Num.Digits) (GInt.mk r55.Den.Neg r55.Den.Digits)))] (.slice (some ⟨g57,0,none⟩) 1 1) [[.int .i64 0, .int .i64 0, .int .i64 (-2), .bool r55.Num.Neg,v55_0_1, .bool r55.Den.Neg,v55_0_3]] hfF16 (hgl.mono le1_16) hw2.takes.1 hw2.takes.2 fuel r61 hr61)) ?_;rintro _ _ ⟨⟨v61_0_0,v61_2_1,c61_2_1,v61_2_6⟩,F17,le16_17,⟨hf61_0_0,hf61_2_1,hf61_2_6⟩,rfl,rfl⟩;refine eS ?_; (try dsimp only at hf61_0_0 hf61_2_1 hf61_2_6);have le7_17:=le7_16.trans le16_17;haveI:=hf61_0_0.oneC;haveI:=hf61_2_1.1.oneC;haveI:=hf61_2_6.oneC;refine iV ?_;refine ft ?_;have hq:=dC hk;clear hk;obtain ⟨r66,hr66,hk⟩:=hq; (try dsimp only at hk);refine eA ?_;refine dc (dp 1 rfl rfl rfl rfl (fun w hw hF=>zfo _ w hF [(GBid.mk 0 0 (-2) (GRatio.mk (GInt.mk r55.Num.Neg r55.Num.Digits) (GInt.mk r55.Den.Neg r55.Den.Digits)))] (.slice (some ⟨g57,0,none⟩) 1 1) [[.int .i64 0, .int .i64 0, .int .i64 (-2), .bool r55.Num.Neg,v55_0_1, .bool r55.Den.Neg,v55_0_3]] (SlD.mono (rep:=cY) (fun _ _ _ _=>GBid.mono) hfF16 le16_17) fuel r66 hr66)) ?_;rintro _ _ ⟨v66_0_0,F18,le17_18,hf66_0_0,rfl,rfl⟩;have le7_18:=le7_17.trans le17_18;haveI:=hf66_0_0.oneC;refine iV ?_;refine ft ?_;have hq:=dC hk;clear hk;obtain ⟨r71,hr71,hk⟩:=hq; (try dsimp only at hk);refine eA ?_;refine dc (eD [0,1] [.row g25_n 104 [v25_n_0,v61_2_1, .int .i64 ((r25.1.getD default).increment.Activity), .int .i64 ((r25.1.getD default).increment.Step),v25_n_4, .int .i64 r61.2.2.2.1,v61_2_6]] [] rfl rfl rfl rfl a8 (fun w hw hw2 hF=>zcg _ w hF (GAuction.mk ((r25.1.getD default).catalogue) r61.2.2.1 (GIncrement.mk ((r25.1.getD default).increment.Activity) ((r25.1.getD default).increment.Step)) ((r25.1.getD default).key) r61.2.2.2.1 r61.2.2.2.2) g25_n v25_n_0 (SlC.mono hf25_n_0 le7_18) v61_2_1 c61_2_1 (SlD.mono (rep:=cX) (fun _ _ _ _=>GBidder.mono) hf61_2_1 le17_18) v25_n_4 (SlC.mono hf25_n_4 le7_18) v61_2_6 (SlC.mono hf61_2_6 le17_18) 0 hw2.takes.1 hw2.takes.2 r71 hr71)) ?_
    rintro _ _ ⟨v71_0_3,F19,le18_19,hf71_0_3,rfl,rfl⟩;refine eS ?_;have le7_19:=le7_18.trans le18_19;have le17_19:=le17_18.trans le18_19;haveI:=hf71_0_3.oneC;refine lG ?_;rintro _ _ ⟨g9,rfl,rfl⟩;refine fS ?_;refine fV ?_;have hq:=dC hk;clear hk;obtain ⟨r76,hr76,hk⟩:=hq; (try dsimp only at hk);refine eA ?_;refine dc (eD [1,2,0] [.row g25_n 104 [v25_n_0,v61_2_1, .int .i64 ((r25.1.getD default).increment.Activity), .int .i64 ((r25.1.getD default).increment.Step),v25_n_4, .int .i64 r61.2.2.2.1,v61_2_6]] [.row g9 57 [.int .i64 r71.1.ID, .int .i64 r71.1.Eligibility, .int .i64 r71.1.Waivers,v71_0_3]] rfl rfl rfl rfl a8 (fun w hw hw2 hF=>zcg _ w hF (GAuction.mk ((r25.1.getD default).catalogue) r61.2.2.1 (GIncrement.mk ((r25.1.getD default).increment.Activity) ((r25.1.getD default).increment.Step)) ((r25.1.getD default).key) r61.2.2.2.1 r61.2.2.2.2) g25_n v25_n_0 (SlC.mono hf25_n_0 le7_19) v61_2_1 c61_2_1 (SlD.mono (rep:=cX) (fun _ _ _ _=>GBidder.mono) hf61_2_1 le17_19) v25_n_4 (SlC.mono hf25_n_4 le7_19) v61_2_6 (SlC.mono hf61_2_6 le17_19) 1 hw2.takes.1 hw2.takes.2 r76 hr76)) ?_;rintro _ _ ⟨v76_0_3,F20,le19_20,hf76_0_3,rfl,rfl⟩;refine eS ?_;have le7_20:=le7_19.trans le19_20;have le17_20:=le17_19.trans le19_20;have le18_20:=le18_19.trans le19_20;haveI:=hf76_0_3.oneC;refine lG ?_;rintro _ _ ⟨g11,rfl,rfl⟩;refine fS ?_;refine fV ?_; (try dsimp only at hk);have hq:=d7 hk;clear hk;obtain ⟨k9,hk9,hk⟩:=hq; (try dsimp only at hk);refine dk (ι:=Bool×FzB w (fun _=>False) S0) (fun z=>[(0, .bool z.1)]) (fun z=>[.fr z.2]) (fun z=>k9 z.1=some r∧F20.toFrz.Le z.2.toFrz) ?_ ?_
    ·refine gQ ?_;refine dm rfl rfl rfl (fun h10=>?_) (fun h10=>?_)
     ·have p10:=of_decide_eq_true h10;replace hk:=dt hk h10;refine ks ?_;refine dm rfl rfl rfl (fun h11=>?_) (fun h11=>?_)
      ·have p11:=of_decide_eq_true h11;replace hk:=dt hk h11;refine ks ?_;refine dm rfl rfl rfl (fun h12=>?_) (fun h12=>?_)
       ·have p12:=of_decide_eq_true h12;replace hk:=dt hk h12;refine ks ?_;refine dm rfl rfl rfl (fun h13=>?_) (fun h13=>?_)
        ·have p13:=of_decide_eq_true h13;replace hk:=dt hk h13;refine dJ ?_;refine ii ?_;rintro _ _ ⟨g95,rfl,rfl⟩;refine ib (fun w hw=>hw.freezeR (i:=3) (j:=0) a8 rfl rfl) ?_;rintro F22 ⟨le20_22,hz22⟩;refine fD ?_;have le7_22:=le7_20.trans le20_22;have le17_22:=le17_20.trans le20_22;have le18_22:=le18_20.trans le20_22;have hfF22:SlC F22.toFrz (.slice (some ⟨g95,0,none⟩) 1 1) 1 ([(-1)].map eI):=(SlK.lit hz22 rfl (Nat.le_refl _) a8).toF (xs:=[(-1)]) rfl (fun _=>rfl);refine dc (dh rfl rfl rfl (fun w hw=>zeh _ w (hw.fr (i:=2) rfl) r61.1 v61_0_0 (SlC.mono hf61_0_0 le17_22) [(-1)] (.slice (some ⟨g95,0,none⟩) 1 1) hfF22)) ?_;refine jl ?_;refine dm rfl rfl rfl (fun h14=>?_) (fun h14=>?_)
         ·replace hk:=dt hk h14;refine dJ ?_;have hq:=dC hk;clear hk;obtain ⟨r100,hr100,hk⟩:=hq;refine dc (eD [1,2,0,3] [.row g25_n 104 [v25_n_0,v61_2_1, .int .i64 ((r25.1.getD default).increment.Activity), .int .i64 ((r25.1.getD default).increment.Step),v25_n_4, .int .i64 r61.2.2.2.1,v61_2_6]] [.row g11 57 [.int .i64 r76.1.ID, .int .i64 r76.1.Eligibility, .int .i64 r76.1.Waivers,v76_0_3], .row g9 57 [.int .i64 r71.1.ID, .int .i64 r71.1.Eligibility, .int .i64 r71.1.Waivers,v71_0_3]] rfl rfl rfl rfl a8 (fun w hw hw2 hF=>zcf _ w hF (GAuction.mk ((r25.1.getD default).catalogue) r61.2.2.1 (GIncrement.mk ((r25.1.getD default).increment.Activity) ((r25.1.getD default).increment.Step)) ((r25.1.getD default).key) r61.2.2.2.1 r61.2.2.2.2) g25_n v25_n_0 (SlC.mono hf25_n_0 le7_22) v61_2_1 c61_2_1 (SlD.mono (rep:=cX) (fun _ _ _ _=>GBidder.mono) hf61_2_1 le17_22) v25_n_4 (SlC.mono hf25_n_4 le7_22) v61_2_6 (SlC.mono hf61_2_6 le17_22) hw2.takes.1 hw2.takes.2 r100 hr100)) ?_;rintro _ _ ⟨v100_0_0,F23,le22_23,hf100_0_0,hq,rfl⟩;obtain rfl:=hq.symm;refine eS ?_;have le7_23:=le7_22.trans le22_23;have le17_23:=le17_22.trans le22_23;have le18_23:=le18_22.trans le22_23;have le20_23:=le20_22.trans le22_23;haveI:=hf100_0_0.oneC;refine ii ?_;rintro _ _ ⟨g101,rfl,rfl⟩;refine q1W ?_;rintro F24 ⟨le23_24,hz24⟩;refine fD ?_;have le7_24:=le7_23.trans le23_24;have le17_24:=le17_23.trans le23_24;have le18_24:=le18_23.trans le23_24;have le20_24:=le20_23.trans le23_24;have hfF24:SlC F24.toFrz (.slice (some ⟨g101,0,none⟩) 1 1) 1 ([105].map eI):=(SlK.lit hz24 rfl (Nat.le_refl _) a8).toF (xs:=[105]) rfl (fun _=>rfl);refine dc (dh rfl rfl rfl (fun w hw=>zeh _ w (hw.fr (i:=1) rfl) r100 v100_0_0 (SlC.mono hf100_0_0 le23_24) [105] (.slice (some ⟨g101,0,none⟩) 1 1) hfF24)) ?_;refine jl ?_;refine dm rfl rfl rfl (fun h15=>?_) (fun h15=>?_)
          ·replace hk:=dt hk h15;refine dJ ?_;have hq:=dC hk;clear hk;obtain ⟨r106,hr106,hk⟩:=hq;refine dc (eD [0,1,2,3] [.row g25_n 104 [v25_n_0,v61_2_1, .int .i64 ((r25.1.getD default).increment.Activity), .int .i64 ((r25.1.getD default).increment.Step),v25_n_4, .int .i64 r61.2.2.2.1,v61_2_6]] [.row g11 57 [.int .i64 r76.1.ID, .int .i64 r76.1.Eligibility, .int .i64 r76.1.Waivers,v76_0_3], .row g9 57 [.int .i64 r71.1.ID, .int .i64 r71.1.Eligibility, .int .i64 r71.1.Waivers,v71_0_3]] rfl rfl rfl rfl a8 (fun w hw hw2 hF=>zcn _ w hF (GAuction.mk ((r25.1.getD default).catalogue) r61.2.2.1 (GIncrement.mk ((r25.1.getD default).increment.Activity) ((r25.1.getD default).increment.Step)) ((r25.1.getD default).key) r61.2.2.2.1 r61.2.2.2.2) g25_n v25_n_0 (SlC.mono hf25_n_0 le7_24) v61_2_1 c61_2_1 (SlD.mono (rep:=cX) (fun _ _ _ _=>GBidder.mono) hf61_2_1 le17_24) v25_n_4 (SlC.mono hf25_n_4 le7_24) v61_2_6 (SlC.mono hf61_2_6 le17_24) hw2.takes.1 hw2.takes.2 r106 hr106)) ?_;rintro _ _ ⟨⟨⟩,F25,le24_25, -,rfl,rfl⟩;refine eS ?_;have le7_25:=le7_24.trans le24_25;have le17_25:=le17_24.trans le24_25;have le18_25:=le18_24.trans le24_25;have le20_25:=le20_24.trans le24_25;refine ee ?_;refine dm rfl rfl rfl (fun h16=>?_) (fun h16=>?_)
           ·replace hk:=dt hk h16;refine dJ ?_;have hq:=dC hk;clear hk;obtain ⟨r110,hr110,hk⟩:=hq;refine dc (dD [0,1,2,3] [.row g25_n 104 [v25_n_0,v61_2_1, .int .i64 ((r25.1.getD default).increment.Activity), .int .i64 ((r25.1.getD default).increment.Step),v25_n_4, .int .i64 r61.2.2.2.1,v61_2_6]] [.row g11 57 [.int .i64 r76.1.ID, .int .i64 r76.1.Eligibility, .int .i64 r76.1.Waivers,v76_0_3], .row g9 57 [.int .i64 r71.1.ID, .int .i64 r71.1.Eligibility, .int .i64 r71.1.Waivers,v71_0_3]] rfl rfl rfl rfl a8 (fun w hw hw2 hF=>zdd _ w hF (GAuction.mk ((r25.1.getD default).catalogue) r61.2.2.1 (GIncrement.mk ((r25.1.getD default).increment.Activity) ((r25.1.getD default).increment.Step)) ((r25.1.getD default).key) r61.2.2.2.1 r61.2.2.2.2) g25_n v25_n_0 (SlC.mono hf25_n_0 le7_25) v61_2_1 c61_2_1 (SlD.mono (rep:=cX) (fun _ _ _ _=>GBidder.mono) hf61_2_1 le17_25) v25_n_4 (SlC.mono hf25_n_4 le7_25) v61_2_6 (SlC.mono hf61_2_6 le17_25) hw2.takes.1 hw2.takes.2 r110 hr110)) ?_;rintro _ _ ⟨⟨⟩, -,rfl,rfl⟩;refine eS ?_;refine gf ?_;refine dm rfl rfl rfl (fun h17=>?_) (fun h17=>?_)
            ·have p17:=of_decide_eq_true h17;replace hk:=dt hk h17;refine dJ ?_;have hq:=dC hk;clear hk;obtain ⟨r115,hr115,hk⟩:=hq;refine dc (dD [0,1,2,3] [.row g25_n 104 [v25_n_0,v61_2_1, .int .i64 ((r25.1.getD default).increment.Activity), .int .i64 ((r25.1.getD default).increment.Step),v25_n_4, .int .i64 r61.2.2.2.1,v61_2_6]] [.row g11 57 [.int .i64 r76.1.ID, .int .i64 r76.1.Eligibility, .int .i64 r76.1.Waivers,v76_0_3], .row g9 57 [.int .i64 r71.1.ID, .int .i64 r71.1.Eligibility, .int .i64 r71.1.Waivers,v71_0_3]] rfl rfl rfl rfl a8 (fun w hw hw2 hF=>zdD _ w hF (GAuction.mk ((r25.1.getD default).catalogue) r61.2.2.1 (GIncrement.mk ((r25.1.getD default).increment.Activity) ((r25.1.getD default).increment.Step)) ((r25.1.getD default).key) r61.2.2.2.1 r61.2.2.2.2) g25_n v25_n_0 (SlC.mono hf25_n_0 le7_25) v61_2_1 c61_2_1 (SlD.mono (rep:=cX) (fun _ _ _ _=>GBidder.mono) hf61_2_1 le17_25) v25_n_4 (SlC.mono hf25_n_4 le7_25) v61_2_6 (SlC.mono hf61_2_6 le17_25) hw2.takes.1 hw2.takes.2 r115 hr115)) ?_;rintro _ _ ⟨⟨⟩, -,rfl,rfl⟩;refine eS ?_;refine gf ?_;refine dm rfl rfl rfl (fun h18=>?_) (fun h18=>?_)
             ·have p18:=of_decide_eq_true h18;replace hk:=dt hk h18;refine q1F ?_;refine gf ?_;refine dm rfl rfl rfl (fun h19=>?_) (fun h19=>?_)
              ·have p19:=of_decide_eq_true h19;replace hk:=dt hk h19;refine fL ?_;refine lm ?_;refine gf ?_;refine dm rfl rfl rfl (fun h20=>?_) (fun h20=>?_)
               ·have p20:=of_decide_eq_true h20;replace hk:=dt hk h20;refine dJ ?_;refine cW (kx 1 (e:=5) a9 a9 a9 rfl rfl rfl (SlC.mono hf66_0_0 le18_25)) ?_;refine cW (Yv.ce (a:=(iG r66.1)) (b:=([1,0,0,3,1,2]:List UInt8)) rfl rfl rfl) ?_;refine jh ?_;refine iX ?_;exact de (((iG r66.1) == ([1,0,0,3,1,2]:List UInt8)),F25) ⟨hk,le20_25⟩ (.c .nil) (List.Sublist.refl _)
               ·have p20:=of_decide_eq_false h20;replace hk:=dw hk h20;refine kK ?_;refine iX ?_;exact q4M
              ·have p19:=of_decide_eq_false h19;replace hk:=dw hk h19;refine q3V ?_;refine iX ?_;exact q4M
             ·have p18:=of_decide_eq_false h18;replace hk:=dw hk h18;refine TL.run 15 rfl ?_;refine fH ?_;refine iX ?_;exact q4M
            ·have p17:=of_decide_eq_false h17;replace hk:=dw hk h17;refine TL.run 20 rfl ?_;refine fH ?_;refine iX ?_;exact q4M
           ·replace hk:=dw hk h16;refine TL.run 25 rfl ?_;refine fH ?_;refine iX ?_;exact q4M
          ·replace hk:=dw hk h15;refine TL.run 29 rfl ?_;refine fH ?_;refine iX ?_;exact de (false,F24) ⟨hk,le20_24⟩ (.c .nil) (List.Sublist.refl _)
         ·replace hk:=dw hk h14;refine TL.run 35 rfl ?_;refine fH ?_;refine q3f ?_;exact de (false,F22) ⟨hk,le20_22⟩ (.c .nil) (List.Sublist.refl _)
        ·have p13:=of_decide_eq_false h13;replace hk:=dw hk h13;refine TL.run 40 rfl ?_;refine fH ?_;refine q3f ?_;exact q4W
       ·have p12:=of_decide_eq_false h12;replace hk:=dw hk h12;refine TL.run 44 rfl ?_;refine fH ?_;refine q3f ?_;exact q4W
      ·have p11:=of_decide_eq_false h11;replace hk:=dw hk h11;refine TL.run 48 rfl ?_;refine fH ?_;refine q3f ?_;exact q4W
     ·have p10:=of_decide_eq_false h10;replace hk:=dw hk h10;refine TL.run 52 rfl ?_;refine fH ?_;refine q3f ?_;exact q4W
    ·rintro ⟨x_8,F21⟩ ⟨hk,le20_21⟩; (try dsimp only at *);rw [←hk9] at hk; (try dsimp only at hk);refine T.ret ?_;obtain rfl:=Option.some.inj hk;exact eo
 ·replace hk:=dw hk h1;refine eA ?_;refine ii ?_;rintro _ _ ⟨g17,rfl,rfl⟩;refine q1V ?_;rintro F26 ⟨le2_26,hz26⟩;refine fD ?_;have hfF26:SlC F26.toFrz (.slice (some ⟨g17,0,none⟩) 1 1) 1 ([2].map eI):=(SlK.lit hz26 rfl (Nat.le_refl _) a8).toF (xs:=[2]) rfl (fun _=>rfl);refine i9 ?_;refine ii ?_;rintro _ _ ⟨g19,rfl,rfl⟩;refine q1V ?_;rintro F27 ⟨le26_27,hz27⟩;refine fD ?_;have le2_27:=le2_26.trans le26_27;have hfF27:SlC F27.toFrz (.slice (some ⟨g19,0,none⟩) 1 1) 1 ([1].map eI):=(SlK.lit hz27 rfl (Nat.le_refl _) a8).toF (xs:=[1]) rfl (fun _=>rfl);refine i9 ?_;refine ii ?_;rintro _ _ ⟨g21,rfl,rfl⟩;have hl21:OwnD cX F27.toFrz 4 [[.int .i64 0, .int .i64 2, .int .i64 0,(.slice (some ⟨g17,0,none⟩) 1 1)],[.int .i64 1, .int .i64 2, .int .i64 0,(.slice (some ⟨g19,0,none⟩) 1 1)]] [(GBidder.mk 0 2 0 [2]),(GBidder.mk 1 2 0 [1])]:=(fe (fe (OwnD.nil _ _ 4) ⟨_,rfl,(SlC.mono hfF26 le26_27)⟩) ⟨_,rfl,hfF27⟩);refine q1V ?_;rintro F28 ⟨le27_28,hz28⟩;refine fD ?_;have le2_28:=le2_27.trans le27_28;have hfF28:SlD cX F28.toFrz (.slice (some ⟨g21,0,none⟩) 2 2) 4 [[.int .i64 0, .int .i64 2, .int .i64 0,(.slice (some ⟨g17,0,none⟩) 1 1)],[.int .i64 1, .int .i64 2, .int .i64 0,(.slice (some ⟨g19,0,none⟩) 1 1)]] [(GBidder.mk 0 2 0 [2]),(GBidder.mk 1 2 0 [1])]:=(SlK.lit hz28 rfl (Nat.le_refl _) a8).toD (OwnD.mono (rep:=cX) (fun _ _ _ _=>GBidder.mono) hl21 le27_28) rfl;refine i9 ?_;refine ii ?_;rintro _ _ ⟨g23,rfl,rfl⟩;refine q4h ?_;rintro _ _ ⟨F29,⟨le28_29,hf24⟩,rfl,rfl⟩;refine fD ?_;have le2_29:=le2_28.trans le28_29;haveI:=hf24.oneC;refine dc (eD [0] [] [] rfl rfl rfl rfl a8 (fun w hw hw2 hF=>(zgh _ w hF [(GProduct.mk 0 1 2 1 100)] (.slice (some ⟨g14,0,none⟩) 1 1) (SlC.mono hfF2 le2_29) [(GBidder.mk 0 2 0 [2]),(GBidder.mk 1 2 0 [1])] (.slice (some ⟨g21,0,none⟩) 2 2) [[.int .i64 0, .int .i64 2, .int .i64 0,(.slice (some ⟨g17,0,none⟩) 1 1)],[.int .i64 1, .int .i64 2, .int .i64 0,(.slice (some ⟨g19,0,none⟩) 1 1)]] (SlD.mono (rep:=cX) (fun _ _ _ _=>GBidder.mono) hfF28 le28_29) (GIncrement.mk 100 10) ([107,101,121]:List Int) (.slice (some ⟨g23,0,none⟩) 3 3) hf24 r25 hr25).mono (fun e w' hp=>hp.2 h1))) ?_;rintro _ _ ⟨⟨⟩,F30,le29_30, -,rfl,rfl⟩;refine eS ?_;refine iV ?_;refine ju ?_;cases hk
section
variable {σ ρ α:Type}
theorem zhW {x:Int}(h: -9223372036854775808≤x∧x≤9223372036854775807):wI x=x:=IntWalk.i64_in _ h
end
def wsum (f:Nat→Int):Nat→Int
 |0=>0
 |n+1=>wI (wsum f n+f n)
structure DemOk (l:List GProduct) (d:List Int):Prop where
 len:d.length=l.length
 bd:∀j,j<l.length→0≤nth d j∧nth d j≤(nth l j).Supply
def usum (l:List GProduct)(d:List Int):Int:=wsum (fun i=>wI (nth d i* (nth l i).Units)) l.length
structure BidOk (l:List GProduct) (b:GBidder):Prop where
 id:0≤b.ID∧b.ID≤31
 el:0≤b.Eligibility∧b.Eligibility≤76800000
 wa:0≤b.Waivers∧b.Waivers≤3
 dem:DemOk l b.Blocks
 un:usum l b.Blocks≤b.Eligibility
structure Val (l:List GProduct) (bs:List GBidder):Prop where
 n:l.length≤100
 m:bs.length≤32
 prods:zfh l=true
 bids:∀j,j<bs.length→BidOk l (nth bs j)
 prog:zbr l bs=some true
 ref:∀fuel,200≤fuel→zg3 fuel l bs=some true
structure Good (a:GAuction):Prop where
 val:Val a.catalogue a.bidders
 key:1≤a.key.length
 plen:a.prices.length=a.catalogue.length
 pbd:∀j,j<a.catalogue.length→0≤nth a.prices j∧nth a.prices j≤1099511627776
 step:1≤a.increment.Step∧a.increment.Step≤50
 rm:mC a.bidders
section
variable {a:GAuction}(h:Good a)
end
def cutV:Value→Nat→Value
 | .slice none _ _,_=> .slice none 0 0
 | .slice (some A) _ _,m=> .slice (some A) m m
 |v,_=>v
instance {v:Value} {m:Nat} [h:OneC v]:OneC (cutV v m):=by
 unfold cutV
 split <;> first|exact inferInstance|exact h
section
variable {P:Program}{n:Nat}{B D:World}{M S0:Nat→Prop}{fs:eB}{hs:HS}{o:Oper}{e ei:TypeId}{v:Value}{vs:List Value}{xs:List GBidder}
end
theorem zjx (n:Nat):zcu (n+100)=some true:=by kernel_rfl
theorem zji {fuel:Nat}(hf:100≤fuel):zcu fuel=some true:=by
 obtain ⟨n,rfl⟩:∃n,fuel=n+100:=⟨fuel - 100,by omega⟩;exact zjx n
def dR (n:Nat):List Int:=if h:n<128 then [(n:Int)] else ((n % 128+128:Nat):Int) :: dR (n / 128)
termination_by n
decreasing_by omega
theorem zg1 {n:Nat}(h:n<128):dR n=[(n:Int)]:=by rw [dR];simp [h]
theorem zhE {n:Nat}(h:¬n<128):dR n=((n % 128+128:Nat):Int) :: dR (n / 128):=by rw [dR];simp [h]
theorem my:∀(k n:Nat),n<2 ^ (7* (k+1))→(dR n).length≤k+1
 |0,n,h=>by rw [zg1 (by simpa using h)];simp
 |k+1,n,h=>by
  by_cases h1:n<128
  ·rw [zg1 h1];simp
  ·rw [zhE h1,List.length_cons]
   have:=my k (n / 128) (by
    rw [Nat.div_lt_iff_lt_mul a8]
    calc n<2 ^ (7* (k+1+1)):=h
     _=2 ^ (7* (k+1)) *128:=by rw [show 7* (k+1+1)=7* (k+1)+7 by omega,Nat.pow_add])
   omega
theorem or128:∀k:Nat,k<256→orK .u8 (k:Int) 128=((k % 128+128:Nat):Int):=by
 (have h:∀k:_root_.Fin 256,orK .u8 ((k.1:Nat):Int) 128=((k.1 % 128+128:Nat):Int):=by decide);exact fun k hk=>h ⟨k,hk⟩
theorem zkk:∀k:Nat,k<256→andK .u8 (k:Int) 127=((k % 128:Nat):Int):=by
 (have h:∀k:_root_.Fin 256,andK .u8 ((k.1:Nat):Int) 127=((k.1 % 128:Nat):Int):=by decide);exact fun k hk=>h ⟨k,hk⟩
theorem zjN (n:Nat):IntKind.u8.wrap (n:Int)=((n % 256:Nat):Int):=by
 simp [IntKind.wrap,IntKind.signed,IntKind.bits]
theorem shr7 (n:BitVec 64):(n >>> 7).toNat=n.toNat / 128:=by rw [BitVec.toNat_ushiftRight,Nat.shiftRight_eq_div_pow]
theorem zhS {fuel:Nat}{l:List Int}{n:BitVec 64}(hf:20≤fuel)(hl:l.length≤100000):zce fuel l n=some (l++dR n.toNat):=by
 unfold zce;simp only [dM];have hb:∀m:BitVec 64,(dR m.toNat).length≤10:=fun m=>my 9 _ (Nat.lt_of_lt_of_le m.isLt a8);refine zeA (σ:=List Int×BitVec 64) (I:=fun s=>s.1++dR s.2.toNat=l++dR n.toNat) (μ:=fun s=>(dR s.2.toNat).length) (post:=fun o=>o=some (l++dR n.toNat)) rfl (by have:=hb n;show (dR n.toNat).length<fuel;omega) ?_;rintro ⟨a,m⟩ next hI hn;dsimp only at hI hn ⊢
 have hlen:a.length≤100010:=by
  have h1:=congrArg List.length hI;rw [List.length_append,List.length_append] at h1;have:=hb n;omega
 by_cases h:m.toNat<128
 ·rw [decide_eq_false (by show ¬(127:Int)<_;omega),cond_false,eE (by unfold dA;simp;omega),zjN,Nat.mod_eq_of_lt a7,←zg1 h,hI]
 ·rw [decide_eq_true (by show (127:Int)<_;omega),cond_true,eE (by unfold dA;simp;omega),zjN,or128 _ (Nat.mod_lt _ a8),Nat.mod_mod_of_dvd _ a8];have h2:=zhE h;refine hn _ ?_ ?_
  ·show (a++[_])++dR (m >>> 7).toNat=_
   rw [shr7,List.append_assoc,List.singleton_append,←h2,hI]
  ·show (dR (m >>> 7).toNat).length<(dR m.toNat).length
   rw [shr7,h2,List.length_cons];omega
structure RdS (x:GReader) (rest:List Int):Prop where
 made:x.made=true
 ok:x.fault.first=0
 pos:0≤x.at_
 drop:x.in_.drop x.at_.toNat=rest
 len:x.at_.toNat+rest.length=x.in_.length
abbrev adv (x:GReader)(k:Nat):GReader:=⟨⟨0⟩,x.made,x.in_,x.at_+(k:Int)⟩
theorem RdS.adv {x:GReader}{a rest:List Int}(h:RdS x (a++rest)):RdS (adv x a.length) rest:=by
 have hl:=h.len;rw [List.length_append] at hl;have hp:=h.pos;refine ⟨h.made,rfl,by show 0≤x.at_+_;omega,?_,?_⟩
 ·show x.in_.drop (x.at_+(a.length:Int)).toNat=rest
  rw [show (x.at_+(a.length:Int)).toNat=x.at_.toNat+a.length by omega,←List.drop_drop,h.drop,List.drop_left]
 ·show (x.at_+(a.length:Int)).toNat+rest.length=x.in_.length
  omega
theorem ziJ {f:Int}{m:Bool}{l:List Int}{a b:Int}{rest:List Int}(hp:0≤a)(hd:l.drop a.toNat=b :: rest):zaF ⟨⟨f⟩,m,l,a⟩=some (Dy.ok (b,a+1)):=by
 have hlt:a.toNat<l.length:=by
  rcases Nat.lt_or_ge a.toNat l.length with h|h
  ·exact h
  ·rw [List.drop_eq_nil_of_le h] at hd;cases hd
 have hb:nth l a.toNat=b:=by
  rw [List.drop_eq_getElem_cons hlt] at hd;rw [fK hlt];exact (List.cons.inj hd).1
 unfold zaF;simp only [dM];rw [decide_eq_false a7,cond_false,eE ⟨hp,by omega⟩,hb]
theorem zkL {lo p i:Nat}(hlo:lo<2 ^ (7*i))(hi:7*i<64)(hp:p<2 ^ 64)(hs:p*2 ^ (7*i)<2 ^ 64):(BitVec.ofNat 64 lo ||| (BitVec.ofNat 64 p <<< (7*i)))=BitVec.ofNat 64 (lo+p*2 ^ (7*i)):=by
 apply BitVec.eq_of_toNat_eq;have h1:lo<2 ^ 64:=Nat.lt_trans hlo (Nat.pow_lt_pow_right a8 hi);rw [BitVec.toNat_or,BitVec.toNat_shiftLeft,BitVec.toNat_ofNat,BitVec.toNat_ofNat,BitVec.toNat_ofNat,Nat.mod_eq_of_lt h1,Nat.mod_eq_of_lt hp,Nat.shiftLeft_eq,Nat.mod_eq_of_lt hs,Nat.or_comm];have h2:=Nat.shiftLeft_add_eq_or_of_lt hlo p;rw [Nat.shiftLeft_eq] at h2
 have h3:p*2 ^ (7*i)+lo<2 ^ 64:=by
  rw [h2];exact Nat.or_lt_two_pow hs h1
 rw [←h2,Nat.add_comm lo,Nat.mod_eq_of_lt h3]
theorem zgM {x:GReader}{n most:Nat}{rest:List Int}(hm0:0<most)(hm:most≤10)(hn:n<2 ^ 64)(hn2:n<2 ^ (7*most))(h:RdS x (dR n++rest)):zaw x (most:Int)=some (Dy.ok (BitVec.ofNat 64 n,x.at_+((dR n).length:Int))):=by
 unfold zaw;rw [eE a7];simp only [dM]
 have key:∀(m i q lo:Nat) (a:Int) (z:BitVec 64),i+m=most→0≤a→x.in_.drop a.toNat=dR q++rest→n=lo+q*2 ^ (7*i)→lo<2 ^ (7*i)→(0<i→0<q)→q<2 ^ (7*m)→
   dN (fun (i_8:Nat) (next7:(BitVec 64×BitVec 64×Int)→Option (Dy (BitVec 64×Int) (Int×Int))) (s7:BitVec 64×BitVec 64×Int)=>
    (zaF (GReader.mk (Gfault.mk x.fault.first) x.made x.in_ s7.2.2)).bind fun r14=>
    (bif gY r14 then
     (bif ((decide ((i_8:Int)=9))&&(decide (((1#64).toNat:Int)<((BitVec.ofInt 64 (andK .u8 ((eO r14).1) 127)).toNat:Int)))) then
      some (Dy.er (6,((eO r14).2)))
      else
      (bif decide ((eO r14).1<128) then
       (bif ((decide ((eO r14).1=0))&&(decide (0<(i_8:Int)))) then
        some (Dy.er (6,((eO r14).2)))
        else
        some (Dy.ok ((s7.2.1 ||| ((BitVec.ofInt 64 (andK .u8 ((eO r14).1) 127)) <<< ((7* (i_8:Int)).toNat))),((eO r14).2))))
       else
       next7 (s7.1,(s7.2.1 ||| ((BitVec.ofInt 64 (andK .u8 ((eO r14).1) 127)) <<< ((7* (i_8:Int)).toNat))),(eO r14).2)))
     else
     some (Dy.er ((iF r14).1,((iF r14).2)))))
   (fun (s7:BitVec 64×BitVec 64×Int)=>some (Dy.er (6,s7.2.2))) m i (z,BitVec.ofNat 64 lo,a)=some (Dy.ok (BitVec.ofNat 64 n,a+((dR q).length:Int))):=by
  intro m
  induction m with
  |zero=>
   intro i q lo a z e ha hd hnq hlo hq hq2;have:=hq a7;simp at hq2;omega
  |succ m ih=>
   intro i q lo a z e ha hd hnq hlo hq hq2; (have hi7:7*i<64:=by omega);have hle:q % 128*2 ^ (7*i)≤q*2 ^ (7*i):=Nat.mul_le_mul_right _ (Nat.mod_le _ _);have hacc:(BitVec.ofNat 64 lo ||| (BitVec.ofNat 64 (q % 128) <<< (7*i)))=BitVec.ofNat 64 (lo+q % 128*2 ^ (7*i)):=zkL hlo hi7 (Nat.lt_trans (Nat.mod_lt _ a8) a8) a7
   have h9:¬(i=9∧1<q % 128):=fun ⟨h1,h2⟩=>by
    subst h1;have:2*2 ^ (7*9)≤q % 128*2 ^ (7*9):=Nat.mul_le_mul_right _ h2;omega
   have hbig:((decide ((i:Int)=9))&&(decide (((1#64).toNat:Int)<((BitVec.ofNat 64 (q % 128)).toNat:Int))))=false:=by
    rw [Bool.and_eq_false_iff,decide_eq_false_iff_not,decide_eq_false_iff_not];rw [show (BitVec.ofNat 64 (q % 128)).toNat=q % 128 from by rw [BitVec.toNat_ofNat];exact Nat.mod_eq_of_lt a7];rcases Nat.lt_or_ge 1 (q % 128) with h1|h1
    ·left;intro h2;exact h9 ⟨by omega,h1⟩
    ·right;show ¬(1:Int)<_;omega
   by_cases h1:q<128
   ·rw [zg1 h1] at hd ⊢;have hx:q % 128=q:=Nat.mod_eq_of_lt h1
    show (Option.bind (zaF _) _)=_
    rw [ziJ ha hd]
    show (bif (decide ((i:Int)=9)&&decide (((1#64).toNat:Int)<((BitVec.ofInt 64 (andK .u8 (q:Int) 127)).toNat:Int))) then _ else bif decide ((q:Int)<128) then (bif decide ((q:Int)=0)&&decide (0<(i:Int)) then _ else some (Dy.ok ((BitVec.ofNat 64 lo ||| ((BitVec.ofInt 64 (andK .u8 (q:Int) 127)) <<< ((7* (i:Int)).toNat))),a+1))) else _)=_
    rw [show (7* (i:Int)).toNat=7*i by omega,zkk q a7,BitVec.ofInt_natCast,hbig,cond_false,decide_eq_true a7,cond_true,show (decide ((q:Int)=0)&&decide (0<(i:Int)))=false from by
     rw [Bool.and_eq_false_iff,decide_eq_false_iff_not,decide_eq_false_iff_not];rcases Nat.eq_zero_or_pos i with h2|h2
     ·right;omega
     ·left;have:=hq h2;omega,cond_false,hacc,hx,←hnq]
    rfl
   ·rw [zhE h1] at hd ⊢
    show (Option.bind (zaF _) _)=_
    rw [List.cons_append] at hd;rw [ziJ ha hd]
    show (bif (decide ((i:Int)=9)&&decide (((1#64).toNat:Int)<((BitVec.ofInt 64 (andK .u8 ((q % 128+128:Nat):Int) 127)).toNat:Int))) then _ else bif decide (((q % 128+128:Nat):Int)<128) then _ else dN _ _ m (i+1) (z,(BitVec.ofNat 64 lo ||| ((BitVec.ofInt 64 (andK .u8 ((q % 128+128:Nat):Int) 127)) <<< ((7* (i:Int)).toNat))),a+1))=_
    (have hx:(q % 128+128) % 128=q % 128:=by omega);rw [show (7* (i:Int)).toNat=7*i by omega,zkk _ a7,BitVec.ofInt_natCast,hx,hbig,cond_false,decide_eq_false a7,cond_false,hacc]
    have hd2:x.in_.drop (a+1).toNat=dR (q / 128)++rest:=by
     rw [show (a+1).toNat=a.toNat+1 by omega,←List.drop_drop,hd];rfl
    (have e7:2 ^ (7* (i+1))=2 ^ (7*i) *128:=by rw [show 7* (i+1)=7*i+7 by omega,Nat.pow_add]); (have e8:2 ^ (7* (m+1))=2 ^ (7*m) *128:=by rw [show 7* (m+1)=7*m+7 by omega,Nat.pow_add]);have hdm:=Nat.div_add_mod q 128
    have:=ih (i+1) (q / 128) (lo+q % 128*2 ^ (7*i)) (a+1) z a7 a7 hd2 (by
     rw [e7,hnq]
     conv=>lhs;rw [←hdm]
     rw [Nat.add_mul]; (have:128* (q / 128) *2 ^ (7*i)=q / 128* (2 ^ (7*i) *128):=by rw [Nat.mul_comm 128,Nat.mul_assoc,Nat.mul_comm 128])
     omega) (by
     rw [e7];have h3:q % 128*2 ^ (7*i)≤127*2 ^ (7*i):=Nat.mul_le_mul_right _ a7
     omega) (fun _=>by omega) (by rw [e8] at hq2;omega)
    rw [List.length_cons,show a+(((dR (q / 128)).length+1:Nat):Int)=a+1+((dR (q / 128)).length:Int) by omega];exact this
 have hk:=key most 0 n 0 x.at_ 0#64 a7 h.pos h.drop a7 b4 a7 (by simpa using hn2);rw [show ((most:Int)).toNat - 0=most by omega];exact hk
theorem zia {fuel:Nat}{out:List Int}{n:Int}(hf:20≤fuel)(hn:0≤n∧n≤9223372036854775807)(hl:(out++dR n.toNat).length≤65536):lP fuel ⟨⟨0⟩,out⟩ n=some (out++dR n.toNat):=by
 have hg:zce fuel out (BitVec.ofInt 64 n)=some (out++dR n.toNat):=by
  rw [zhS hf (by rw [List.length_append] at hl;omega)];rw [show (BitVec.ofInt 64 n).toNat=n.toNat from by rw [BitVec.toNat_ofInt];omega]
 unfold lP
 show (bif decide (n<0) then none else (zce fuel out (BitVec.ofInt 64 n)).bind _)=_
 rw [decide_eq_false a7,cond_false,hg]
 show (zaC _ _).bind _=_
 unfold zaC;rw [decide_eq_false a7];rfl
def gR (n:Int):Nat:=if n<0 then (-(2*n) - 1).toNat else (2*n).toNat
def jc (n:Int):List Int:=dR n.toNat
theorem zjn {x:GReader}{n:Nat}{rest:List Int}(hn:n<2 ^ 63)(h:RdS x (dR n++rest)):kz x=some ((n:Int),(0,x.at_+((dR n).length:Int))):=by
 have hg:=zgM (most:=9) a8 a8 a7 hn h;unfold kz;rw [h.made,h.ok]
 show (zaw x 9).bind _=_
 rw [show (9:Int)=((9:Nat):Int) from rfl,hg]
 show some (wI (((BitVec.ofNat 64 n).toNat:Nat):Int),((0:Int),_))=_
 rw [BitVec.toNat_ofNat,Nat.mod_eq_of_lt a7,zhW a7];rfl
def sgF (v:BitVec 64)(a:Int):Option (Dy (Int×Int) (Int×Int)):=bif decide ((((v &&& (1#64)).toNat:Nat):Int)=(((1#64).toNat:Nat):Int)) then some (Dy.ok (wI ((wI (0 - (wI (((v >>> 1).toNat:Nat):Int)))) - 1),a)) else some (Dy.ok ((wI (((v >>> 1).toNat:Nat):Int)),a))
theorem zku {x:GReader}{n:Nat}{lim:Int}{rest:List Int}(hn:(n:Int)≤lim)(hl:lim≤1000000)(h:RdS x (dR n++rest)):zaM x lim=some ((n:Int),(0,x.at_+((dR n).length:Int))):=by
 have hg:=zgM (most:=9) a8 a8 a7 a7 h;unfold zaM;rw [h.made,h.ok]
 show (zaJ x lim).bind _=_
 have hs:zaJ x lim=some (Dy.ok ((n:Int),x.at_+((dR n).length:Int))):=by
  unfold zaJ;rw [show (9:Int)=((9:Nat):Int) from rfl,hg]
  show (bif decide (lim<0) then _ else bif decide (lim<wI (((BitVec.ofNat 64 n).toNat:Nat):Int)) then _ else some (Dy.ok (wI (((BitVec.ofNat 64 n).toNat:Nat):Int),_)))=_
  rw [BitVec.toNat_ofNat,Nat.mod_eq_of_lt a7,zhW a7,decide_eq_false a7,cond_false,decide_eq_false a7,cond_false];rfl
 rw [hs]
 rfl
theorem zkZ {x:GReader}{n:Int}{rest:List Int}(hn:0≤n∧n≤9223372036854775807)(h:RdS x (jc n++rest)):kz x=some (n,(0,x.at_+((jc n).length:Int))):=by
 have:=zjn (n:=n.toNat) a7 h;rw [show ((n.toNat:Nat):Int)=n by omega] at this;exact this
theorem zka {α:Type}[Inhabited α]{l:List α}{i:Nat}(h:i<l.length):nth l i∈l:=by rw [fK h];exact List.getElem_mem h
theorem zkM (v:BitVec 64)(a:Int):∃n,sgF v a=some (Dy.ok (n,a))∧gR n=v.toNat:=by
 unfold sgF
 have hb:(((v &&& (1#64)).toNat:Nat):Int)=((v.toNat % 2:Nat):Int):=by
  rw [BitVec.toNat_and]
  show ((v.toNat &&& 1:Nat):Int)=_
  rw [Nat.and_one_is_mod]
 (have hs:(v >>> 1).toNat=v.toNat / 2:=by rw [BitVec.toNat_ushiftRight,Nat.shiftRight_eq_div_pow]);rw [hb,hs,show (((1#64).toNat:Nat):Int)=1 from rfl];have hv:=v.isLt;generalize v.toNat=u at hv ⊢;by_cases h1:u % 2=1
 ·rw [decide_eq_true a7,cond_true,zhW (x:=((u / 2:Nat):Int)) a7,show ((0:Nat):Int)=0 from rfl,zhW (x:=0 - ((u / 2:Nat):Int)) a7,zhW (x:=0 - ((u / 2:Nat):Int) - 1) a7];refine ⟨_,rfl,?_⟩;unfold gR;rw [if_pos a7];omega
 ·rw [decide_eq_false a7,cond_false,zhW a7];refine ⟨_,rfl,?_⟩;unfold gR;rw [if_neg a7];omega
theorem zkJ {n:Int}(h: -4611686018427387904≤n∧n≤4611686018427387903):gR n<9223372036854775808:=by unfold gR;split <;> omega
theorem zkw {a b:Int}(h:gR a=gR b):a=b:=by
 unfold gR at h
 split at h <;> split at h <;> omega
theorem zjQ {fuel:Nat}{l:List Int}{n:Int}(hf:20≤fuel)(hl:l.length≤100000)(hn: -1000000≤n∧n≤1000000):zdh fuel l n=some (l++dR (gR n)):=by
 unfold zdh;by_cases h:n<0
 ·rw [decide_eq_true h,cond_true,zhS hf hl]
  have e:(((BitVec.ofInt 64 (wI (0 - (wI (n+1))))) <<< 1) ||| (1#64)).toNat=gR n:=by
   rw [zhW (x:=n+1) a7,zhW a7,BitVec.toNat_or,BitVec.toNat_shiftLeft,Nat.shiftLeft_eq]; (have e1:(BitVec.ofInt 64 (0 - (n+1))).toNat=(0 - (n+1)).toNat:=by rw [BitVec.toNat_ofInt];omega);rw [e1,show (1#64).toNat=1 from rfl,Nat.mod_eq_of_lt a7];rw [Nat.or_comm,zgQ (a:=1) (d:=(0 - (n+1)).toNat) (s:=1) a8];unfold gR;rw [if_pos h];omega
  rw [e];rfl
 ·rw [decide_eq_false h,cond_false,zhS hf hl]
  have e:((BitVec.ofInt 64 n) <<< 1).toNat=gR n:=by
   rw [BitVec.toNat_shiftLeft,Nat.shiftLeft_eq]; (have e1:(BitVec.ofInt 64 n).toNat=n.toNat:=by rw [BitVec.toNat_ofInt];omega);rw [e1,Nat.mod_eq_of_lt a7];unfold gR;rw [if_neg h];omega
  rw [e];rfl
theorem int_w {fuel:Nat}{out:List Int}{n:Int}(hf:20≤fuel)(hn: -1000000≤n∧n≤1000000)(hl:(out++dR (gR n)).length≤65536):zbj fuel ⟨⟨0⟩,out⟩ n=some (out++dR (gR n)):=by
 unfold zbj
 show (zdh fuel out n).bind _=_
 rw [zjQ hf (by rw [List.length_append] at hl;omega) hn]
 show (zaC _ _).bind _=_
 unfold zaC;rw [decide_eq_false a7];rfl
theorem int_r {x:GReader}{n:Int}{rest:List Int}(hn: -1000000≤n∧n≤1000000)(h:RdS x (dR (gR n)++rest)):zaQ x=some (n,(0,x.at_+((dR (gR n)).length:Int))):=by
 have hz:=zkJ (n:=n) a7;have hg:=zgM (most:=10) a8 a8 a7 a7 h;unfold zaQ;rw [h.made,h.ok]
 show (zaH x).bind _=_
 have hs:zaH x=some (Dy.ok (n,x.at_+((dR (gR n)).length:Int))):=by
  unfold zaH;rw [show (10:Int)=((10:Nat):Int) from rfl,hg]
  show sgF (BitVec.ofNat 64 (gR n)) (x.at_+((dR (gR n)).length:Int))=_
  obtain ⟨m,e1,e2⟩:=zkM (BitVec.ofNat 64 (gR n)) (x.at_+((dR (gR n)).length:Int));rw [BitVec.toNat_ofNat,Nat.mod_eq_of_lt a7] at e2;rw [e1,zkw e2]
 rw [hs]
 rfl
structure BidP (x:GBid):Prop where
 b:0≤x.Bidder∧x.Bidder<32
 p:0≤x.Product∧x.Product<128
 c: -12≤x.Change∧x.Change≤12
 nz:x.Change≠0
 pt:PT x.Point
structure LstP (l:List GBid):Prop where
 len:l.length≤128
 each:∀i,i<l.length→BidP (nth l i)
 ord:∀i,i+1<l.length→(nth l i).Bidder≤(nth l (i+1)).Bidder
structure BytB (b:GBid):Prop where
 n:Dig 256 b.Point.Num.Digits
 d:Dig 256 b.Point.Den.Digits
theorem zfF {fuel:Nat}{l:List GBid}(hf:2000≤fuel)(hb:∀i,i<l.length→BytB (nth l i)):∃b,zbq fuel l=some b∧(b=true↔LstP l):=by
 unfold zbq;have no:¬LstP l→∃b,some false=some b∧(b=true↔LstP l):=fun h=>⟨false,rfl,fun h=>(by cases h),fun h2=>absurd h2 h⟩;by_cases hl:l.length≤128
 ·rw [decide_eq_false a7,cond_false];simp only [dM];refine ly (n:=l.length) (fun i (last:Int)=>(∀j,j<i→BidP (nth l j))∧(∀j,j+1<i→(nth l j).Bidder≤(nth l (j+1)).Bidder)∧last=if i=0 then 0 else (nth l (i - 1)).Bidder) (fun o=>∃b,o=some b∧(b=true↔LstP l)) ⟨fun j hj=>absurd hj (Nat.not_lt_zero j),fun j hj=>absurd hj a7,rfl⟩ (fun s hI=>⟨true,rfl,fun _=>⟨hl,hI.1,hI.2.1⟩,fun _=>rfl⟩) (fun i last next hi hI hnx=>?_);obtain ⟨i1,i2,i3⟩:=hI
  have hlast:LstP l→last≤(nth l i).Bidder:=fun h=>by
   rw [i3]
   split
   ·exact (h.each i hi).b.1
   ·have:=h.ord (i - 1) a7;rw [show i - 1+1=i by omega] at this;exact this
  by_cases c1:(nth l i).Bidder<last
  ·(rw [decide_eq_true c1];exact no fun h=>by have:=hlast h;omega)
  by_cases c2:32≤(nth l i).Bidder
  ·(rw [decide_eq_false c1,decide_eq_true c2];exact no fun h=>by have:=(h.each i hi).b;omega)
  by_cases c3:(nth l i).Product<0
  ·(rw [decide_eq_false c1,decide_eq_false c2,decide_eq_true c3];exact no fun h=>by have:=(h.each i hi).p;omega)
  by_cases c4:128≤(nth l i).Product
  ·(rw [decide_eq_false c1,decide_eq_false c2,decide_eq_false c3,decide_eq_true c4];exact no fun h=>by have:=(h.each i hi).p;omega)
  rw [decide_eq_false c1,decide_eq_false c2,decide_eq_false c3,decide_eq_false c4];simp only [Bool.or_self,cond_false];by_cases c5:(nth l i).Change< -12
  ·(rw [decide_eq_true c5];exact no fun h=>by have:=(h.each i hi).c;omega)
  by_cases c6:12<(nth l i).Change
  ·(rw [decide_eq_false c5,decide_eq_true c6];exact no fun h=>by have:=(h.each i hi).c;omega)
  by_cases c7:(nth l i).Change=0
  ·rw [decide_eq_false c5,decide_eq_false c6,decide_eq_true c7];exact no fun h=>(h.each i hi).nz c7
  rw [decide_eq_false c5,decide_eq_false c6,decide_eq_false c7];simp only [cond_false];obtain ⟨pb,p1,p2⟩:=zkB (fuel:=fuel) hf (hb i hi).n (hb i hi).d;rw [p1];refine fj ?_
  cases pb with
  |false=>exact no fun h=>(by have:=p2.2 (h.each i hi).pt;cases this)
  |true=>
   have h0:0≤last:=by
    rw [i3];split
    ·exact Int.le_refl _
    ·exact (i1 (i - 1) a7).b.1
   have hB:BidP (nth l i):=⟨⟨by omega,by omega⟩,⟨by omega,by omega⟩,⟨by omega,by omega⟩,c7,p2.1 rfl⟩;refine hnx _ ⟨fun j hj=>?_,fun j hj=>?_,by rw [if_neg a7,Nat.add_sub_cancel]⟩
   ·rcases Nat.lt_or_ge j i with h|h
    ·exact i1 j h
    ·rw [show j=i by omega];exact hB
   ·rcases Nat.lt_or_ge (j+1) i with h|h
    ·exact i2 j h
    ·(obtain rfl:i=j+1:=by omega);rw [if_neg a7,Nat.add_sub_cancel] at i3;omega
 ·rw [decide_eq_true a7,cond_true];exact no fun h=>hl h.len
theorem zh7 {fuel:Nat}{l:List GBid}(hf:2000≤fuel)(hb:∀i,i<l.length→BytB (nth l i)):∃b,zdt fuel l=some b∧(b=true↔LstP l):=by
 unfold zdt;simp only [dM];have no:¬LstP l→∃b,some false=some b∧(b=true↔LstP l):=fun h=>⟨false,rfl,fun h=>(by cases h),fun h2=>absurd h2 h⟩;refine ly (n:=l.length) (fun i (_:Unit)=>(∀j,j<i→BidP (nth l j))∧(∀j,j+1<i→(nth l j).Bidder≤(nth l (j+1)).Bidder)) (fun o=>∃b,o=some b∧(b=true↔LstP l)) ⟨fun j hj=>absurd hj (Nat.not_lt_zero j),fun j hj=>absurd hj a7⟩ (fun s hI=>⟨_,rfl,?_⟩) (fun i _ next hi hI hnx=>?_)
 ·rw [decide_eq_true_eq];exact ⟨fun h=>⟨by omega,hI.1,hI.2⟩,fun h=>(by have:=h.len;omega)⟩
 ·obtain ⟨i1,i2⟩:=hI;by_cases c1:(nth l i).Bidder<0
  ·(rw [decide_eq_true c1];exact no fun h=>by have:=(h.each i hi).b;omega)
  by_cases c2:31<(nth l i).Bidder
  ·(rw [decide_eq_false c1,decide_eq_true c2];exact no fun h=>by have:=(h.each i hi).b;omega)
  by_cases c3:(nth l i).Product<0
  ·(rw [decide_eq_false c1,decide_eq_false c2,decide_eq_true c3];exact no fun h=>by have:=(h.each i hi).p;omega)
  by_cases c4:127<(nth l i).Product
  ·(rw [decide_eq_false c1,decide_eq_false c2,decide_eq_false c3,decide_eq_true c4];exact no fun h=>by have:=(h.each i hi).p;omega)
  by_cases c5:(nth l i).Change< -12
  ·(rw [decide_eq_false c1,decide_eq_false c2,decide_eq_false c3,decide_eq_false c4,decide_eq_true c5];exact no fun h=>by have:=(h.each i hi).c;omega)
  by_cases c6:12<(nth l i).Change
  ·(rw [decide_eq_false c1,decide_eq_false c2,decide_eq_false c3,decide_eq_false c4,decide_eq_false c5,decide_eq_true c6];exact no fun h=>by have:=(h.each i hi).c;omega)
  by_cases c7:(nth l i).Change=0
  ·rw [decide_eq_false c1,decide_eq_false c2,decide_eq_false c3,decide_eq_false c4,decide_eq_false c5,decide_eq_false c6,decide_eq_true c7];exact no fun h=>(h.each i hi).nz c7
  rw [decide_eq_false c1,decide_eq_false c2,decide_eq_false c3,decide_eq_false c4,decide_eq_false c5,decide_eq_false c6,decide_eq_false c7];simp only [cond_false];obtain ⟨pb,p1,p2⟩:=zjK (fuel:=fuel) hf (hb i hi).n (hb i hi).d;rw [p1];refine fj ?_
  cases pb with
  |false=>exact no fun h=>(by have:=p2.2 (h.each i hi).pt;cases this)
  |true=>
   have hB:BidP (nth l i):=⟨⟨by omega,by omega⟩,⟨by omega,by omega⟩,⟨by omega,by omega⟩,c7,p2.1 rfl⟩
   have good:(0<i→(nth l (i - 1)).Bidder≤(nth l i).Bidder)→∃b,next ()=some b∧(b=true↔LstP l):=fun ho=>by
    refine hnx () ⟨fun j hj=>?_,fun j hj=>?_⟩
    ·rcases Nat.lt_or_ge j i with h|h
     ·exact i1 j h
     ·rw [show j=i by omega];exact hB
    ·rcases Nat.lt_or_ge (j+1) i with h|h
     ·exact i2 j h
     ·(obtain rfl:i=j+1:=by omega);have:=ho a7;rw [Nat.add_sub_cancel] at this;exact this
   simp only [Bool.not_true,cond_false];by_cases hi0:0<i
   ·rw [decide_eq_true (show (0:Int)<(i:Int) by omega),cond_true,show ((i:Int) - 1).toNat=i - 1 by omega];by_cases c8:(nth l i).Bidder<(nth l (i - 1)).Bidder
    ·rw [decide_eq_true c8]
     exact no fun h=>by
      have:=h.ord (i - 1) a7;rw [show i - 1+1=i by omega] at this;omega
    ·(rw [decide_eq_false c8];exact good fun _=>by omega)
   ·rw [decide_eq_false a7,cond_false];exact good fun h=>absurd h hi0
theorem join8 {u:BitVec 64}{d:Int}(hu:u.toNat<2 ^ 56)(hd:0≤d∧d<256):((u <<< 8) ||| BitVec.ofInt 64 d).toNat=u.toNat*256+d.toNat:=by
 rw [BitVec.toNat_or,BitVec.toNat_shiftLeft,Nat.shiftLeft_eq,Nat.mod_eq_of_lt a7];have e1:(BitVec.ofInt 64 d).toNat=d.toNat:=ofI a7;have:=zgQ (a:=d.toNat) (d:=u.toNat) (s:=8) a7;rw [e1,Nat.or_comm,this];omega
theorem ziv {B:Nat}(l:List Int)(x:Int):val B (l++[x]).reverse=x.toNat+B*val B l.reverse:=by
 rw [List.reverse_append];rfl
theorem zjw {g:GInt}(h:VI g)(hd:Dig 256 g.Digits)(hn:g.Neg=false)(hv:dG g≤9223372036854775807):zbQ g=some ((dG g:Int),0):=by
 have hl:g.Digits.length≤8:=(h.big hd).len a7;unfold zbQ;rw [mA h];simp only [Option.bind_some,Bool.not_true,cond_false];rw [decide_eq_false a7,cond_false];simp only [dM];refine ly (n:=g.Digits.length) (fun i (u:BitVec 64)=>u.toNat=val 256 (g.Digits.take i).reverse) (fun o=>o=some ((dG g:Int),0)) (by simp [val]) (fun u hI=>?_) (fun i u next hi hI hnx=>?_)
 ·rw [List.take_length] at hI;have hI':u.toNat=dG g:=hI;rw [hn,cond_false,hI',show (((9223372036854775807#64).toNat:Nat):Int)=9223372036854775807 from rfl,decide_eq_false a7,cond_false,gq a7]
 ·have hb:=jR (B:=256) (l:=(g.Digits.take i).reverse) (hd.take i).rev;rw [List.length_reverse,List.length_take,Nat.min_eq_left a7] at hb;have hp:256 ^ i≤256 ^ 7:=Nat.pow_le_pow_right a8 a7;have hx:=hd.nth hi;refine hnx _ ?_;rw [join8 a7 hx,hI,List.take_succ_eq_append_getElem hi,←fK hi,ziv];omega
def iE (b:GBid):List Int:=dR b.Bidder.toNat++dR b.Product.toNat++dR (gR b.Change)++dR (dG b.Point.Num)++dR (dG b.Point.Den)
def kH (l:List GBid):List Int:=dR l.length++l.flatMap iE
theorem zhR {b:GBid}(h:BidP b):(iE b).length≤7:=by
 have h1:=my 0 b.Bidder.toNat (by have:=h.b;omega);have h2:=my 0 b.Product.toNat (by have:=h.p;omega);have h3:=my 0 (gR b.Change) (by have:=h.c;unfold gR;split <;> omega);have hd:=h.pt.den;have hm:=h.pt.num;have h4:=my 1 (dG b.Point.Num) a7;have h5:=my 1 (dG b.Point.Den) a7;unfold iE;rw [List.length_append,List.length_append,List.length_append,List.length_append];omega
theorem zfJ {α:Type}[Inhabited α]{l:List α}{i:Nat}(h:i<l.length):l.take (i+1)=l.take i++[nth l i]:=by
 rw [List.take_succ_eq_append_getElem h,fK h]
theorem zew {l:List GBid}(h:∀i,i<l.length→BidP (nth l i)):∀i,i≤l.length→((l.take i).flatMap iE).length≤7*i:=by
 intro i
 induction i with
 |zero=>intro _;simp
 |succ i ih=>
  intro hi;have h1:=ih a7;have h2:=zhR (h i a7);rw [zfJ a7,List.flatMap_append,List.length_append];simp only [List.flatMap_cons,List.flatMap_nil,List.append_nil];omega
theorem zj9 {p:GRatio}(h:PT p)(dn:Dig 256 p.Num.Digits)(dd:Dig 256 p.Den.Digits):zbQ p.Num=some ((dG p.Num:Int),0)∧zbQ p.Den=some ((dG p.Den:Int),0):=by
 have h1:=h.den;have h2:=h.num;exact ⟨zjw h.r.num dn h.nn a7,zjw h.r.den dd h.r.neg a7⟩
theorem zi3 {fuel:Nat}{l:List GBid}(hf:2000≤fuel)(hb:∀i,i<l.length→BytB (nth l i))(h:LstP l):zbV fuel l=some (kH l,0):=by
 have hl:=h.len;obtain ⟨b,b1,b2⟩:=zfF (fuel:=fuel) hf hb;obtain rfl:b=true:=b2.2 h;have hn2:=my 1 l.length a7;unfold zbV;rw [b1];simp only [Option.bind_some,Bool.not_true,cond_false];rw [zia a7 a7 (by rw [Int.toNat_natCast,List.nil_append];omega)];simp only [Option.bind_some,dM];rw [Int.toNat_natCast,List.nil_append];refine ly (n:=l.length) (fun i (c:List Int)=>c=dR l.length++(l.take i).flatMap iE) (fun o=>o=some (kH l,0)) b4 (fun c hI=>?_) (fun i c next hi hI hnx=>?_)
 ·rw [List.take_length] at hI;have hfl:=zew h.each l.length (Nat.le_refl _);rw [List.take_length] at hfl;subst hI;unfold zbk;rw [decide_eq_false b4,cond_false,eE (by unfold dA;rw [List.nil_append,List.length_append];omega)]
  rfl
 ·have hB:=h.each i hi;have hfl:=zew h.each i a7;have hel:=zhR hB; (have hcl:c.length≤2+7*i:=by rw [hI,List.length_append];omega);obtain ⟨v1,v2⟩:=zj9 hB.pt (hb i hi).n (hb i hi).d;have hd:=hB.pt.den;have hm:=hB.pt.num;have k1:=hB.b;have k2:=hB.p;have k3:=hB.c;rw [v1,v2];refine fj ?_
  have hel':(dR (nth l i).Bidder.toNat).length+(dR (nth l i).Product.toNat).length+(dR (gR (nth l i).Change)).length+(dR (dG (nth l i).Point.Num)).length+(dR (dG (nth l i).Point.Den)).length≤7:=by
   unfold iE at hel;rw [List.length_append,List.length_append,List.length_append,List.length_append] at hel;omega
  rw [zia a7 a7 (by rw [List.length_append];omega)];refine fj ?_;rw [zia a7 a7 (by rw [List.length_append,List.length_append];omega)];refine fj ?_;rw [int_w a7 a7 (by rw [List.length_append,List.length_append,List.length_append];omega)];refine fj ?_;rw [zia a7 a7 (by rw [Int.toNat_natCast,List.length_append,List.length_append,List.length_append,List.length_append];omega)];refine fj ?_;rw [Int.toNat_natCast,zia a7 a7 (by rw [Int.toNat_natCast,List.length_append,List.length_append,List.length_append,List.length_append,List.length_append];omega)];refine fj ?_;refine hnx _ ?_;rw [Int.toNat_natCast,zfJ hi,List.flatMap_append,hI];simp only [List.flatMap_cons,List.flatMap_nil,List.append_nil,iE,List.append_assoc]
theorem zgk {fuel:Nat}{n:Int}(hf:20≤fuel)(hn:0≤n∧n≤9223372036854775807):kX fuel n=some (dR n.toNat):=by
 unfold kX;simp only [dM];have hb:∀m:Int,m≤9223372036854775807→(dR m.toNat).length≤9:=fun m hm=>my 8 _ a7;have hb0:=hb n hn.2;refine zeA (σ:=Int×List Int) (I:=fun s=>(0≤s.1∧s.1≤9223372036854775807)∧s.2++dR s.1.toNat=dR n.toNat) (μ:=fun s=>(dR s.1.toNat).length) (post:=fun o=>o=some (dR n.toNat)) ⟨hn,rfl⟩ (by show (dR n.toNat).length<fuel;omega) ?_;rintro ⟨m,a⟩ next ⟨hm,hI⟩ hn2;dsimp only at hm hI hn2 ⊢
 have hlen:a.length≤20:=by
  have h1:=congrArg List.length hI;rw [List.length_append] at h1;omega
 by_cases h:m<128
 ·rw [decide_eq_false a7,cond_false,eE (by unfold dA;rw [List.length_append,List.length_singleton];omega),show m=((m.toNat:Nat):Int) by omega,zjN,Nat.mod_eq_of_lt a7,←zg1 a7];exact congrArg some hI
 ·have h2:=zhE (n:=m.toNat) a7;rw [decide_eq_true a7,cond_true,eE a7,eE (by unfold dA;rw [List.length_append,List.length_singleton];omega),eE a7,zhW a7,show m % 128+128=((m.toNat % 128+128:Nat):Int) by omega,zjN,Nat.mod_eq_of_lt a7];refine hn2 _ ⟨by dsimp only;omega,?_⟩ ?_
  ·dsimp only;rw [show (m / 128).toNat=m.toNat / 128 by omega,List.append_assoc,List.singleton_append,←h2];exact hI
  ·dsimp only;rw [show (m / 128).toNat=m.toNat / 128 by omega,h2,List.length_cons];omega
theorem zhK {fuel:Nat}{l:List GBid}(hf:2000≤fuel)(hb:∀i,i<l.length→BytB (nth l i))(h:LstP l):zcC fuel l=some (kH l,0):=by
 have hl:=h.len;obtain ⟨b,b1,b2⟩:=zh7 (fuel:=fuel) hf hb;obtain rfl:b=true:=b2.2 h;have hn2:=my 1 l.length a7;unfold zcC;rw [b1];simp only [Option.bind_some,Bool.not_true,cond_false];rw [zgk a7 a7];simp only [Option.bind_some,dM];rw [Int.toNat_natCast];refine ly (n:=l.length) (fun i (c:List Int)=>c=dR l.length++(l.take i).flatMap iE) (fun o=>o=some (kH l,0)) b4 (fun c hI=>?_) (fun i c next hi hI hnx=>?_)
 ·rw [List.take_length] at hI;rw [hI];rfl
 ·have hB:=h.each i hi;have hfl:=zew h.each i a7;have hel:=zhR hB; (have hcl:c.length≤2+7*i:=by rw [hI,List.length_append];omega);have hd:=hB.pt.den;have hm:=hB.pt.num;have k1:=hB.b;have k2:=hB.p;have k3:=hB.c
  have long:∀ {g:GInt},VI g→Dig 256 g.Digits→dG g≤1000→g.Neg=false→jJ g=(dG g:Int):=fun {g} hv hdg h1 h2=>by
   rw [ziz hdg,if_neg];rintro (hc|hc)
   ·rw [h2] at hc;cases hc
   ·have:=(hv.big hdg).len (k:=2) a7;omega
  rw [long hB.pt.r.num (hb i hi).n a7 hB.pt.nn,long hB.pt.r.den (hb i hi).d a7 hB.pt.r.neg]
  have hel':(dR (nth l i).Bidder.toNat).length+(dR (nth l i).Product.toNat).length+(dR (gR (nth l i).Change)).length+(dR (dG (nth l i).Point.Num)).length+(dR (dG (nth l i).Point.Den)).length≤7:=by
   unfold iE at hel;rw [List.length_append,List.length_append,List.length_append,List.length_append] at hel;omega
  have fin:∀sg:Int,0≤sg∧sg≤1000→sg.toNat=gR (nth l i).Change→((kX fuel ((nth l i).Bidder)).bind fun r36=>
     dz (dA (c++r36).length 1) <|
     (kX fuel ((nth l i).Product)).bind fun r44=>
     dz (dA ((c++r36)++r44).length 1) <|
     (kX fuel sg).bind fun r48=>
     dz (dA (((c++r36)++r44)++r48).length 1) <|
     (kX fuel (dG (nth l i).Point.Num:Int)).bind fun r58=>
     dz (dA ((((c++r36)++r44)++r48)++r58).length 1) <|
     (kX fuel (dG (nth l i).Point.Den:Int)).bind fun r68=>
     dz (dA (((((c++r36)++r44)++r48)++r58)++r68).length 1) <|
     next (((((c++r36)++r44)++r48)++r58)++r68))=some (kH l,0):=fun sg h1 h2=>by
   rw [zgk a7 a7,zgk a7 a7,zgk a7 a7,zgk a7 a7,zgk a7 a7,h2,Int.toNat_natCast,Int.toNat_natCast];refine fj ?_;rw [eE (by unfold dA;simp only [List.length_append];omega),eE (by unfold dA;simp only [List.length_append];omega),eE (by unfold dA;simp only [List.length_append];omega),eE (by unfold dA;simp only [List.length_append];omega),eE (by unfold dA;simp only [List.length_append];omega)];refine hnx _ ?_;rw [zfJ hi,List.flatMap_append,hI];simp only [List.flatMap_cons,List.flatMap_nil,List.append_nil,iE,List.append_assoc]
  rw [gq (x:=2* (nth l i).Change) a7];by_cases hneg:2* (nth l i).Change<0
  ·rw [decide_eq_true hneg,cond_true,gq (x:=0 - 2* (nth l i).Change) a7,gq a7];exact fin _ a7 (by unfold gR;rw [if_pos a7];omega)
  ·rw [decide_eq_false hneg,cond_false];exact fin _ a7 (by unfold gR;rw [if_neg a7])
theorem zij {fuel:Nat}{l:List GBid}(hf:2000≤fuel)(hb:∀i,i<l.length→BytB (nth l i))(h:¬LstP l):zbV fuel l=some ([],2)∧zcC fuel l=some ([],2):=by
 obtain ⟨b,b1,b2⟩:=zfF (fuel:=fuel) hf hb;obtain ⟨c,c1,c2⟩:=zh7 (fuel:=fuel) hf hb;unfold zbV zcC;rw [b1,c1]
 cases b with
 |true=>exact absurd (b2.1 rfl) h
 |false=>
  cases c with
  |true=>exact absurd (c2.1 rfl) h
  |false=>exact ⟨rfl,rfl⟩
theorem ziS {fuel:Nat}{a b:GInt}(hf:2000≤fuel)(ha:VI a)(hb:VI b)(da:Dig 256 a.Digits)(db:Dig 256 b.Digits)(na:a.Neg=false)(nb:b.Neg=false)(hB:0<dG b):∃Q R,zb7 fuel a b=some (⟨false,Q⟩,⟨false,R⟩,0)∧BigIs Q (dG a / dG b)∧BigIs R (dG a % dG b):=by
 have la:=ha.len;have lb:=hb.len;have va:=ha.lt da;have vb:=hb.lt db;have pb:=(hb.big db).pos.2 hB;obtain ⟨x,x1,x2⟩:=zgr (fuel:=fuel) a7 a7 da;obtain ⟨y,y1,y2⟩:=zgr (fuel:=fuel) a7 a7 db;change NatIs x (dG a) at x2;change NatIs y (dG b) at y2;obtain ⟨k16,h16k⟩:∃k,k=16:=⟨_,rfl⟩; (have h16:dj ^ k16=gd:=by rw [zhO,zfI (k:=32*k16) a7]);have l1:=x2.len (k:=k16) (by rw [h16];exact va);have l2:=y2.len (k:=k16) (by rw [h16];exact vb);unfold zb7;rw [mA ha,mA hb];refine q36 ?_;rw [decide_eq_false a7,cond_false,y1];refine fj ?_;rw [x1];refine fj ?_;obtain ⟨q,r,e1,e2,e3⟩:=ziU (fuel:=fuel) a7 a7 hf x2 y2 hB;rw [e1];refine fj ?_;rw [na,nb];simp only [beq_self_eq_true,Bool.not_true,Bool.false_and,cond_false];have hq:dG a / dG b<gd:=Nat.lt_of_le_of_lt (Nat.div_le_self _ _) va;have hr:dG a % dG b<gd:=Nat.lt_trans (Nat.mod_lt _ hB) vb;have l3:=e2.len (k:=k16) (by rw [h16];exact hq);have l4:=e3.len (k:=k16) (by rw [h16];exact hr);obtain ⟨Q,q1,q2⟩:=zgL (neg:=false) a7 e2 hq;obtain ⟨R,r1,r2⟩:=zgL (neg:=false) a7 e3 hr;rw [q1,r1];exact ⟨Q,R,rfl,q2,r2⟩
structure RatIs (p:GRatio) (N D:Nat):Prop where
 nn:p.Num.Neg=false
 nd:p.Den.Neg=false
 num:BigIs p.Num.Digits N
 den:BigIs p.Den.Digits D
theorem RatIs.uniq {p q:GRatio}{N D:Nat}(h:RatIs p N D)(k:RatIs q N D):p=q:=by
 obtain ⟨⟨n1,d1⟩,⟨n2,d2⟩⟩:=p;obtain ⟨⟨m1,e1⟩,⟨m2,e2⟩⟩:=q;have a1:=h.num.uniq k.num;have a2:=h.den.uniq k.den;have b1:=h.nn;have b2:=h.nd;have c1:=k.nn;have c2:=k.nd;dsimp only at a1 a2 b1 b2 c1 c2;rw [a1,a2,b1,b2,c1,c2]
theorem zhd {n:Int}(h:0≤n∧n≤9223372036854775807):n.toNat<gd:=Nat.lt_of_lt_of_le (show n.toNat<2 ^ 64 by omega) (zg5 a7)
theorem zkr {fuel:Nat}{n d:Int}(hf:2000≤fuel)(hn:0≤n∧n≤9223372036854775807)(hd:0<d∧d≤9223372036854775807):∃p,zd4 fuel n d=some (p,0)∧RatIs p (n.toNat / Nat.gcd n.toNat d.toNat) (d.toNat / Nat.gcd n.toNat d.toNat):=by
 obtain ⟨A,a1,a2⟩:=ki (fuel:=fuel) (n:=n) hf a7;obtain ⟨B,b1,b2⟩:=ki (fuel:=fuel) (n:=d) hf a7;rw [decide_eq_false a7] at a1 b1;rw [show n.natAbs=n.toNat by omega] at a2;rw [show d.natAbs=d.toNat by omega] at b2;have va:VI ⟨false,A⟩:=fM a2 (zhd hn);have vb:VI ⟨false,B⟩:=fM b2 (zhd a7);have ea:dG ⟨false,A⟩=n.toNat:=a2.eq;have eb:dG ⟨false,B⟩=d.toNat:=b2.eq;obtain ⟨G,g1,g2⟩:=zk3 (fuel:=fuel) hf va vb a2.dig b2.dig;rw [ea,eb] at g2;have hg0:0<Nat.gcd n.toNat d.toNat:=Nat.gcd_pos_of_pos_right _ a7;have vg:VI ⟨false,G⟩:=fM g2 (zkn (zhd hn) (zhd a7));have eg:dG ⟨false,G⟩=Nat.gcd n.toNat d.toNat:=g2.eq;obtain ⟨Q,R,q1,q2,q3⟩:=ziS (fuel:=fuel) hf va vg a2.dig g2.dig rfl rfl (by rw [eg];exact hg0);obtain ⟨Q',R',p1,p2,p3⟩:=ziS (fuel:=fuel) hf vb vg b2.dig g2.dig rfl rfl (by rw [eg];exact hg0);rw [ea,eg] at q2;rw [eb,eg] at p2;unfold zd4;rw [a1,b1];refine fj ?_;unfold zee;rw [mA va,ziV vb b2.dig,eb,if_neg a7,if_neg b4];refine q36 ?_;rw [decide_eq_false a8,cond_false,g1];refine fj ?_;rw [decide_eq_true trivial,cond_true,decide_eq_false a8,cond_false];rw [decide_eq_false b4,cond_false,q1];refine fj ?_;rw [decide_eq_false b4,cond_false,p1];refine fj ?_;rw [decide_eq_false b4,cond_false];exact ⟨_,rfl,rfl,rfl,q2,p2⟩
theorem zkO {fuel:Nat}{n:Int}(hf:2000≤fuel)(hn:0≤n∧n≤9223372036854775807):zd4 fuel n 0=some (⟨⟨false,[]⟩,⟨false,[]⟩⟩,2):=by
 obtain ⟨A,a1,a2⟩:=ki (fuel:=fuel) (n:=n) hf a7;obtain ⟨B,b1,b2⟩:=ki (fuel:=fuel) (n:=0) hf a7;rw [decide_eq_false a7] at a1 b1;rw [show n.natAbs=n.toNat by omega] at a2;have va:VI ⟨false,A⟩:=fM a2 (zhd hn);have vb:VI ⟨false,B⟩:=fM b2 (zhd (n:=0) a7);have eb:dG ⟨false,B⟩=0:=b2.eq;unfold zd4;rw [a1,b1];refine fj ?_;unfold zee;rw [mA va,ziV vb b2.dig,eb,if_pos rfl]
 rfl
theorem ip {a b:Int}:(if a<b then (-1:Int) else if b<a then 1 else 0)=0↔a=b:=by
 split
 ·constructor
  ·intro h;cases h
  ·intro h;omega
 ·split
  ·constructor
   ·intro h;cases h
   ·intro h;omega
  ·constructor
   ·intro h;omega
   ·intro h;rfl
theorem zjR {fuel:Nat}{n d:Int}(hf:2000≤fuel)(hn:0≤n∧n≤9223372036854775807)(hd:0≤d∧d≤9223372036854775807):∃p ok,zck fuel n d=some (p,ok)∧Dig 256 p.Num.Digits∧Dig 256 p.Den.Digits∧(ok=true↔0<d∧Nat.gcd n.toNat d.toNat=1)∧(ok=true→RatIs p n.toNat d.toNat):=by
 unfold zck;by_cases h0:d=0
 ·subst h0;rw [zkO hf hn];refine fj ?_;rw [decide_eq_true a8,cond_true];exact ⟨_,_,rfl,Dig.nil,Dig.nil,⟨fun h=>(by cases h),fun h=>a7⟩,fun h=>(by cases h)⟩
 ·obtain ⟨p,p1,p2⟩:=zkr (fuel:=fuel) hf hn (d:=d) a7;obtain ⟨A,a1,a2⟩:=ki (fuel:=fuel) (n:=n) hf a7;obtain ⟨B,b1,b2⟩:=ki (fuel:=fuel) (n:=d) hf a7;rw [decide_eq_false a7] at a1 b1;rw [show n.natAbs=n.toNat by omega] at a2;rw [show d.natAbs=d.toNat by omega] at b2;have va:VI ⟨false,A⟩:=fM a2 (zhd hn);have vb:VI ⟨false,B⟩:=fM b2 (zhd a7);have ea:dG ⟨false,A⟩=n.toNat:=a2.eq;have eb:dG ⟨false,B⟩=d.toNat:=b2.eq;obtain ⟨⟨n1,D1⟩,⟨n2,D2⟩⟩:=p;obtain ⟨r1,r2,r3,r4⟩:=p2;dsimp only at r1 r2 r3 r4;subst r1 r2;have vn:VI ⟨false,D1⟩:=fM r3 (Nat.lt_of_le_of_lt (Nat.div_le_self _ _) (zhd hn));have vd:VI ⟨false,D2⟩:=fM r4 (Nat.lt_of_le_of_lt (Nat.div_le_self _ _) (zhd a7));have en:dG ⟨false,D1⟩=_:=r3.eq;have ed:dG ⟨false,D2⟩=_:=r4.eq;rw [p1];refine fj ?_;rw [decide_eq_false b4,cond_false,a1];refine fj ?_;rw [zfu hf vn va r3.dig a2.dig];simp only [Option.bind_some,dM];rw [zgz rfl,zgz rfl,en,ea];have hg0:0<Nat.gcd n.toNat d.toNat:=Nat.gcd_pos_of_pos_right _ a7
  have hgd:d.toNat / Nat.gcd n.toNat d.toNat=d.toNat→Nat.gcd n.toNat d.toNat=1:=fun h=>by
   rcases Nat.lt_or_ge 1 (Nat.gcd n.toNat d.toNat) with h1|h1
   ·have:=Nat.div_lt_self (show 0<d.toNat by omega) h1;omega
   ·omega
  by_cases c1:n.toNat / Nat.gcd n.toNat d.toNat=n.toNat
  ·rw [decide_eq_true (ip.2 a7),cond_true,b1];refine fj ?_;rw [zfu hf vd vb r4.dig b2.dig];refine fj ?_;rw [zgz rfl,zgz rfl,ed,eb];refine ⟨_,_,rfl,r3.dig,r4.dig,?_,fun h=>?_⟩
   ·rw [decide_eq_true_eq,ip];constructor
    ·intro h;exact ⟨by omega,hgd a7⟩
    ·intro h;rw [h.2,Nat.div_one]
   ·rw [decide_eq_true_eq,ip] at h;have h2:=hgd a7;rw [h2,Nat.div_one] at r3 r4;exact ⟨rfl,rfl,r3,r4⟩
  ·rw [decide_eq_false (fun h=>c1 (by have:=ip.1 h;omega)),cond_false];refine ⟨_,_,rfl,r3.dig,r4.dig,⟨fun h=>(by cases h),fun h=>?_⟩,fun h=>(by cases h)⟩;exact absurd (by rw [h.2,Nat.div_one]) c1
section
variable {b:List Int}{a:Int}
end
def zcw (fuel:Nat)(l:List GBid):Option Bool:=
 (bif decide (140<(l.length:Int)) then
 (zcu fuel).bind fun r13=>
 some r13
 else
 dM (fun (_:Unit)=>
 (zbV fuel l).bind fun r43=>
 (zcC fuel l).bind fun r48=>
 (bif ((!((iG r43.1) == (iG r48.1)))||(decide (¬r43.2=r48.2))) then
 some false
 else
 (bif decide (¬r48.2=0) then
 (zcu fuel).bind fun r63=>
 some r63
 else
 (zcp fuel r43.1).bind fun r66=>
 dM (fun (x_11:Bool)=>
 some x_11)
 (fun k12=>
 (bif decide (r66.2=0) then
 (bif (zcq l r66.1) then
 (zcu fuel).bind fun r77=>
 k12 r77
 else
 k12 false)
 else
 k12 false)))))
 (fun k2=>
 dN (fun (i_4:Nat) (next3:Unit→Option Bool) (_:Unit)=>
 (bif ((decide (100<(((nth l i_4).Point.Num.Digits).length:Int)))||(decide (100<(((nth l i_4).Point.Den.Digits).length:Int)))) then
 (zcu fuel).bind fun r40=>
 some r40
 else
 next3 ()))
 (fun (_:Unit)=>
 k2 ()) (l.length - 0) 0 ()))
theorem zfr (F0:Frz)(w:World)(hF0:F0.At w)(l:List GBid)(vl:Value)(cl:List (List Value))(hl:SlD cY F0 vl 7 cl l)(hgl:GlF F0)(fuel:Nat)(r:Bool)(hr:zcw fuel l=some r):Calls Tryz.prog 9 #[vl] w fun e w'=>e= .returned (.bool r)∧Below w.heap.size w w':=by
 have hk:=hr;unfold zcw at hk;haveI:=hl.1.oneC;obtain ⟨S0,F1,rfl,hS0,hp0⟩:=eC hF0;refine dS Tryz.func9 rfl rfl rfl hp0 ?_;refine jn ?_;refine me ?_;have hm11:l.length≤9223372036854775807:=hl.2.1▸hl.1.max;refine d9 ?_;refine T.cond rfl (fun h1=>?_) (fun h1=>?_)
 ·have p1:=of_decide_eq_true h1;replace hk:=dt hk h1;refine T.seq ?_;have hq:=dC hk;clear hk;obtain ⟨r13,hr13,hk⟩:=hq; (try dsimp only at hk);refine fg ?_;refine dc (dh rfl rfl rfl (fun w hw=>zes _ w (hw.fr (i:=0) rfl) hgl fuel r13 hr13)) ?_;refine ez ?_;refine iI ?_;obtain rfl:=Option.some.inj hk;exact eo
 ·have p1:=of_decide_eq_false h1;replace hk:=dw hk h1;refine jP ?_;refine d9 ?_;have hq:=d7 hk;clear hk;obtain ⟨k2,hk2,hk⟩:=hq; (try dsimp only at hk);refine dk (ι:=Unit) (fun z=>[(0,vl)]) (fun z=>[.fr F1]) (fun z=>k2 ()=some r) ?_ ?_
  ·have hq:=fP hk;clear hk;obtain ⟨f3,kk3,hf3,hkk3,hk⟩:=hq;refine eW ?_;refine T.loop (ι:=Nat) (fun z=>[(0,vl),(3, .int .i64 (z:Int))]) (fun z=>[.fr F1]) (fun z=>dN f3 kk3 (l.length - z) z ()=some r) (fun z=>l.length - z) 0 ?_ ?_ ?_ ?_
   ·exact hk
   ·exact (.c (.c .nil))
   ·exact eT
   ·rintro i_4 hk;refine jj ?_;refine ee ?_;refine me ?_;refine d9 ?_;refine T.cond rfl (fun h5=>?_) (fun h5=>?_)
    ·have p5:=of_decide_eq_true h5;rw [fN a7] at hk;generalize hn3:dN f3 kk3 (l.length - (i_4+1)) (i_4+1)=next3 at hk;rw [←hf3] at hk; (try dsimp only at hk);refine q2F ?_;refine dk (ι:=Unit) (fun z=>[(0,vl),(3, .int .i64 (i_4:Int)),(39, .bool ((decide (100<(((nth l i_4).Point.Num.Digits).length:Int)))||(decide (100<(((nth l i_4).Point.Den.Digits).length:Int)))))]) (fun z=>[.fr F1]) (fun z=>True) ?_ ?_
     ·refine fa ?_;refine q4g ?_;refine cW (fC 0 (i:=i_4) (j:=4) rfl rfl rfl hl.1 hl.2.1 a7 rfl (eH (hl.2.2 i_4 a7)).1) ?_;have hd26_4:=(eH (hl.2.2 i_4 a7)).2;haveI:=hd26_4.oneC;refine cW (dE rfl rfl hd26_4 (List.length_map _)) ?_;have hm27:((nth l i_4).Point.Num.Digits).length≤9223372036854775807:=(List.length_map _)▸hd26_4.max;refine ee ?_;refine dm rfl rfl rfl (fun h6=>?_) (fun h6=>?_)
      ·have p6:=of_decide_eq_true h6;refine q3V ?_;exact de () trivial (.c (.c (.b (gg h6).symm .nil))) (List.Sublist.refl _)
      ·have p6:=of_decide_eq_false h6;refine ee ?_;refine q4g ?_;refine cW (fC 0 (i:=i_4) (j:=6) rfl rfl rfl hl.1 hl.2.1 a7 rfl (eJ (hl.2.2 i_4 a7)).1) ?_;have hd36_6:=(eJ (hl.2.2 i_4 a7)).2;haveI:=hd36_6.oneC;refine cW (dE rfl rfl hd36_6 (List.length_map _)) ?_;have hm37:((nth l i_4).Point.Den.Digits).length≤9223372036854775807:=(List.length_map _)▸hd36_6.max;refine jh ?_;exact de () trivial (.c (.c (.b (gx h6) .nil))) (List.Sublist.refl _)
     ·rintro _ _;refine T.cond rfl (fun h7=>?_) (fun h7=>?_)
      ·replace hk:=dt hk h7;refine T.seq ?_;have hq:=dC hk;clear hk;obtain ⟨r40,hr40,hk⟩:=hq; (try dsimp only at hk);refine fg ?_;refine dc (dh rfl rfl rfl (fun w hw=>zes _ w (hw.fr (i:=0) rfl) hgl fuel r40 hr40)) ?_;refine ez ?_;refine dJ ?_;refine kU ?_;obtain rfl:=Option.some.inj hk;exact eo
      ·have p7:=h7; (try simp only [iS] at p7);replace hk:=dw hk h7;refine q1r ?_;refine dJ ?_;refine kv ?_;rw [←hn3] at hk;exact K.next (i_4+1) hk a7 (.c (.c .nil)) (List.Sublist.refl _)
    ·have p5:=of_decide_eq_false h5;rw [fO a7,←hkk3] at hk; (try dsimp only at hk);refine fb ?_;exact q4E
  ·rintro _ hk;rw [←hk2] at hk; (try dsimp only at hk);refine T.seq ?_;have hq:=dC hk;clear hk;obtain ⟨r43,hr43,hk⟩:=hq; (try dsimp only at hk);refine eA ?_;refine dc (dp 0 rfl rfl rfl rfl (fun w hw hF=>zfo _ w hF l vl cl hl fuel r43 hr43)) ?_;rintro _ _ ⟨v43_0_0,F2,le1_2,hf43_0_0,rfl,rfl⟩;haveI:=hf43_0_0.oneC;refine iV ?_;refine ft ?_;have hq:=dC hk;clear hk;obtain ⟨r48,hr48,hk⟩:=hq; (try dsimp only at hk);refine eA ?_;refine dc (dp 0 rfl rfl rfl rfl (fun w hw hF=>zhh _ w hF l vl cl (SlD.mono (rep:=cY) (fun _ _ _ _=>GBid.mono) hl le1_2) fuel r48 hr48)) ?_;rintro _ _ ⟨v48_0_0,F3,le2_3,hf48_0_0,rfl,rfl⟩;have le1_3:=le1_2.trans le2_3;haveI:=hf48_0_0.oneC;refine iV ?_;refine ju ?_;refine dk (ι:=Unit) (fun z=>[(0,vl),(4,v43_0_0),(7, .int .i64 r48.2),(60, .bool ((!((iG r43.1) == (iG r48.1)))||(decide (¬r43.2=r48.2))))]) (fun z=>[.fr F3]) (fun z=>True) ?_ ?_
   ·refine eA ?_;refine cW (kx 0 (e:=5) a9 a9 a9 rfl rfl rfl (SlC.mono hf43_0_0 le2_3)) ?_;refine dJ ?_;refine cW (kx 0 (e:=5) a9 a9 a9 rfl rfl rfl hf48_0_0) ?_;refine cW (Yv.cE (a:=(iG r43.1)) (b:=(iG r48.1)) rfl rfl rfl) ?_;refine dJ ?_;refine dm rfl rfl rfl (fun h8=>?_) (fun h8=>?_)
    ·refine iZ ?_;exact de () trivial (.c (.c (.c (.b (gg h8).symm .nil)))) (List.Sublist.refl _)
    ·refine iZ ?_;exact de () trivial (.c (.c (.c (.b (gx h8) .nil)))) (List.Sublist.refl _)
   ·rintro _ _;refine T.cond rfl (fun h9=>?_) (fun h9=>?_)
    ·replace hk:=dt hk h9;refine il ?_;obtain rfl:=Option.some.inj hk;exact eo
    ·have p9:=h9; (try simp only [iS] at p9);replace hk:=dw hk h9;refine jP ?_;refine jA ?_;refine T.cond rfl (fun h10=>?_) (fun h10=>?_)
     ·have p10:=of_decide_eq_true h10;replace hk:=dt hk h10;refine T.seq ?_;have hq:=dC hk;clear hk;obtain ⟨r63,hr63,hk⟩:=hq; (try dsimp only at hk);refine fg ?_;refine dc (dh rfl rfl rfl (fun w hw=>zes _ w (hw.fr (i:=0) rfl) (hgl.mono le1_3) fuel r63 hr63)) ?_;refine ez ?_;refine iI ?_;obtain rfl:=Option.some.inj hk;exact eo
     ·have p10:=of_decide_eq_false h10;replace hk:=dw hk h10;refine fT ?_;have hq:=dC hk;clear hk;obtain ⟨r66,hr66,hk⟩:=hq; (try dsimp only at hk);refine eA ?_;refine dc (dp 0 rfl rfl rfl rfl (fun w hw hF=>zgC _ w hF r43.1 v43_0_0 (SlC.mono hf43_0_0 le2_3) fuel r66 hr66)) ?_;rintro _ _ ⟨⟨v66_0_0,cs66_0_0⟩,F4,le3_4,hf66_0_0,rfl,rfl⟩;dsimp only at hf66_0_0 ⊢;have le1_4:=le1_3.trans le3_4;haveI:=hf66_0_0.1.oneC;refine iV ?_;refine ft ?_; (try dsimp only at hk);have hq:=d7 hk;clear hk;obtain ⟨k12,hk12,hk⟩:=hq; (try dsimp only at hk);refine dk (ι:=Bool) (fun z=>[(2, .bool z)]) (fun z=>[.fr F4]) (fun z=>k12 z=some r) ?_ ?_
      ·refine gQ ?_;refine dm rfl rfl rfl (fun h13=>?_) (fun h13=>?_)
       ·have p13:=of_decide_eq_true h13;replace hk:=dt hk h13;refine ee ?_;refine dc (dh rfl rfl rfl (fun w hw=>zgD _ w (hw.fr (i:=0) rfl) l vl cl (SlD.mono (rep:=cY) (fun _ _ _ _=>GBid.mono) hl le1_4) r66.1 v66_0_0 cs66_0_0 hf66_0_0)) ?_;refine jl ?_;refine dm rfl rfl rfl (fun h14=>?_) (fun h14=>?_)
        ·replace hk:=dt hk h14;have hq:=dC hk;clear hk;obtain ⟨r77,hr77,hk⟩:=hq;refine dc (dh rfl rfl rfl (fun w hw=>zes _ w (hw.fr (i:=0) rfl) (hgl.mono le1_4) fuel r77 hr77)) ?_;refine jV ?_;exact de r77 hk (.c .nil) (List.Sublist.refl _)
        ·replace hk:=dw hk h14;refine j8 ?_;exact q4Y
       ·have p13:=of_decide_eq_false h13;replace hk:=dw hk h13;refine TL.run 8 rfl ?_;refine fH ?_;exact q4Y
      ·rintro x_11 hk;rw [←hk12] at hk; (try dsimp only at hk);refine T.ret ?_;obtain rfl:=Option.some.inj hk;exact eo
def zll (fuel:Nat)(b:List Int)(s6:List GBid×Bool×Int×Int):Option (List GBid×Int):=
 (bif decide (¬(mj (GReader.mk (Gfault.mk s6.2.2.1) true b s6.2.2.2))=0) then
 some ([],(mj (GReader.mk (Gfault.mk s6.2.2.1) true b s6.2.2.2)))
 else
 (bif !s6.2.1 then
 (bif true then some ([],6) else some (s6.1,0))
 else
 (zbq fuel s6.1).bind fun r63=>
 (bif !r63 then some ([],6) else some (s6.1,0))))
def dcF (fuel:Nat)(b:List Int)(n:Int)(next12:(List GBid×Bool×Int×Int×Int)→Option (List GBid×Int))(s12:List GBid×Bool×Int×Int×Int):Option (List GBid×Int):=
 (bif ((decide (s12.2.2.1<n))&&(decide ((zaG (GReader.mk (Gfault.mk s12.2.2.2.1) true b s12.2.2.2.2))=0))) then
 (kz (GReader.mk (Gfault.mk s12.2.2.2.1) true b s12.2.2.2.2)).bind fun r29=>
 (kz (GReader.mk (Gfault.mk r29.2.1) true b r29.2.2)).bind fun r31=>
 (zaQ (GReader.mk (Gfault.mk r31.2.1) true b r31.2.2)).bind fun r33=>
 (kz (GReader.mk (Gfault.mk r33.2.1) true b r33.2.2)).bind fun r36=>
 (kz (GReader.mk (Gfault.mk r36.2.1) true b r36.2.2)).bind fun r38=>
 (zck fuel r36.1 r38.1).bind fun r42=>
 dz (dA (s12.1++[(GBid.mk r29.1 r31.1 r33.1 (GRatio.mk (GInt.mk r42.1.Num.Neg r42.1.Num.Digits) (GInt.mk r42.1.Den.Neg r42.1.Den.Digits)))]).length 88) <|
 next12 ((s12.1++[(GBid.mk r29.1 r31.1 r33.1 (GRatio.mk (GInt.mk r42.1.Num.Neg r42.1.Num.Digits) (GInt.mk r42.1.Den.Neg r42.1.Den.Digits)))]),(s12.2.1&&r42.2),wI (s12.2.2.1+1),r38.2.1,r38.2.2)
 else
 zll fuel b (s12.1,s12.2.1,s12.2.2.2.1,s12.2.2.2.2))
theorem dc_eq (fuel:Nat)(b:List Int):zcp fuel b=(zdX b).bind fun r15=>bif r15.isSome then (zaM (r15.getD default) 128).bind fun r17=>
  dM (fun (s6:List GBid×Bool×Int×Int)=>
   (bif decide (¬(mj (GReader.mk (Gfault.mk s6.2.2.1) ((r15.getD default).made) ((r15.getD default).in_) s6.2.2.2))=0) then
    some ([],(mj (GReader.mk (Gfault.mk s6.2.2.1) ((r15.getD default).made) ((r15.getD default).in_) s6.2.2.2)))
    else
    dM (fun (x_18:Bool)=>
     (bif x_18 then
      some ([],6)
      else
      some (s6.1,0)))
    (fun k19=>
     (bif !s6.2.1 then
      k19 true
      else
      (zbq fuel s6.1).bind fun r63=>
      k19 (!r63)))))
  (fun k6=>
   fi (fun (next12:(List GBid×Bool×Int×Int×Int)→Option (List GBid×Int)) (s12:List GBid×Bool×Int×Int×Int)=>
    (bif ((decide (s12.2.2.1<r17.1))&&(decide ((zaG (GReader.mk (Gfault.mk s12.2.2.2.1) ((r15.getD default).made) ((r15.getD default).in_) s12.2.2.2.2))=0))) then
     (kz (GReader.mk (Gfault.mk s12.2.2.2.1) ((r15.getD default).made) ((r15.getD default).in_) s12.2.2.2.2)).bind fun r29=>
     (kz (GReader.mk (Gfault.mk r29.2.1) ((r15.getD default).made) ((r15.getD default).in_) r29.2.2)).bind fun r31=>
     (zaQ (GReader.mk (Gfault.mk r31.2.1) ((r15.getD default).made) ((r15.getD default).in_) r31.2.2)).bind fun r33=>
     (kz (GReader.mk (Gfault.mk r33.2.1) ((r15.getD default).made) ((r15.getD default).in_) r33.2.2)).bind fun r36=>
     (kz (GReader.mk (Gfault.mk r36.2.1) ((r15.getD default).made) ((r15.getD default).in_) r36.2.2)).bind fun r38=>
     (zck fuel r36.1 r38.1).bind fun r42=>
     dz (dA (s12.1++[(GBid.mk r29.1 r31.1 r33.1 (GRatio.mk (GInt.mk r42.1.Num.Neg r42.1.Num.Digits) (GInt.mk r42.1.Den.Neg r42.1.Den.Digits)))]).length 88) <|
     next12 ((s12.1++[(GBid.mk r29.1 r31.1 r33.1 (GRatio.mk (GInt.mk r42.1.Num.Neg r42.1.Num.Digits) (GInt.mk r42.1.Den.Neg r42.1.Den.Digits)))]),(s12.2.1&&r42.2),wI (s12.2.2.1+1),r38.2.1,r38.2.2)
     else
     k6 (s12.1,s12.2.1,s12.2.2.2.1,s12.2.2.2.2))) fuel ([],true,0,r17.2.1,r17.2.2)) else none:=rfl
theorem zkv {fuel:Nat}{b:List Int}(hl:b.length≤100000):zcp fuel b=(zaM ⟨⟨0⟩,true,b,0⟩ 128).bind fun r17=>fi (dcF fuel b r17.1) fuel ([],true,0,r17.2.1,r17.2.2):=by
 have hr:zdX b=some (some ⟨⟨0⟩,true,b,0⟩):=by
  unfold zdX;rw [List.nil_append,eE (by show _*_≤_;omega)]
 rw [dc_eq,hr]
 rfl
theorem zk4 {b:List Int}{e a:Int}:mj ⟨⟨e⟩,true,b,a⟩=if e=0∧a<(b.length:Int) then 5 else e:=by
 unfold mj
 show (bif (decide (e=0)&&decide (a<(b.length:Int))) then (5:Int) else e)=_
 by_cases h:e=0∧a<(b.length:Int)
 ·rw [decide_eq_true h.1,decide_eq_true h.2,if_pos h];rfl
 ·rw [if_neg h];by_cases h1:e=0
  ·rw [decide_eq_false (show ¬a<(b.length:Int) from fun h2=>h ⟨h1,h2⟩),Bool.and_false];rfl
  ·rw [decide_eq_false h1];rfl
theorem zk8 {b:List Int}{e a:Int}:zaG ⟨⟨e⟩,true,b,a⟩=e:=rfl
theorem zkj {l:List Int}(h:∀x∈l,0≤x∧x≤255):Dig 256 l:=fun x hx=>by
 have:=h x hx;omega
theorem zi9 {fuel:Nat}{l:List GBid}(hf:2000≤fuel)(hb:∀i,i<l.length→BytB (nth l i))(h:LstP l):zcp fuel (kH l)=some (l,0):=by
 have hl:=h.len;have hfl:=zew h.each l.length (Nat.le_refl _);rw [List.take_length] at hfl;have hn2:=my 1 l.length a7; (have hlen:(kH l).length≤1000:=by unfold kH;rw [List.length_append];omega);rw [zkv a7];have hS:RdS ⟨⟨0⟩,true,kH l,0⟩ (dR l.length++l.flatMap iE):=⟨rfl,rfl,Int.le_refl _,rfl,by show (0:Int).toNat+_=_;unfold kH;simp⟩;rw [zku (n:=l.length) a7 a7 hS];refine fj ?_;refine zeA (σ:=List GBid×Bool×Int×Int×Int) (fun s=>∃i:Nat,i≤l.length∧s.1=l.take i∧s.2.1=true∧s.2.2.1=(i:Int)∧s.2.2.2.1=0∧RdS ⟨⟨0⟩,true,kH l,s.2.2.2.2⟩ ((l.drop i).flatMap iE)) (fun s=>l.length - s.2.2.1.toNat) (fun o=>o=some (l,0)) ⟨0,Nat.zero_le _,rfl,rfl,rfl,rfl,by rw [List.drop_zero];exact hS.adv⟩ b3 (fun s next hI hnx=>?_);obtain ⟨l',low,k,e,a⟩:=s;obtain ⟨i,i1,i2,i3,i4,i5,i6⟩:=hI;dsimp only at i2 i3 i4 i5 i6 hnx;subst i2 i3 i4 i5;unfold dcF;dsimp only;rw [zk8];by_cases hi:i<l.length
 ·rw [decide_eq_true (show (i:Int)<(l.length:Int) by omega),decide_eq_true (show (0:Int)=0 from rfl),Bool.and_self,cond_true];have hB:=h.each i hi;have k1:=hB.b;have k2:=hB.p;have k3:=hB.c;have hd:=hB.pt.den;have hm:=hB.pt.num;have hdp:=hB.pt.r.pos; (have ed:l.drop i=nth l i :: l.drop (i+1):=by rw [fK hi];exact List.drop_eq_getElem_cons hi);rw [ed,List.flatMap_cons] at i6;rw [show iE (nth l i)=dR (nth l i).Bidder.toNat++dR (nth l i).Product.toNat++dR (gR (nth l i).Change)++dR (dG (nth l i).Point.Num)++dR (dG (nth l i).Point.Den) from rfl] at i6;simp only [List.append_assoc] at i6;rw [zkZ (n:=(nth l i).Bidder) a7 i6];refine fj ?_;have j1:RdS ⟨⟨0⟩,true,kH l,a+((jc (nth l i).Bidder).length:Int)⟩ _:=i6.adv;rw [zkZ (n:=(nth l i).Product) a7 j1];refine fj ?_;have j2:RdS ⟨⟨0⟩,true,kH l,a+((jc (nth l i).Bidder).length:Int)+((jc (nth l i).Product).length:Int)⟩ _:=j1.adv;rw [int_r (n:=(nth l i).Change) a7 j2];refine fj ?_;have j3:RdS ⟨⟨0⟩,true,kH l,a+((jc (nth l i).Bidder).length:Int)+((jc (nth l i).Product).length:Int)+((dR (gR (nth l i).Change)).length:Int)⟩ _:=j2.adv;rw [zjn (n:=dG (nth l i).Point.Num) a7 j3];refine fj ?_;have j4:RdS ⟨⟨0⟩,true,kH l,a+((jc (nth l i).Bidder).length:Int)+((jc (nth l i).Product).length:Int)+((dR (gR (nth l i).Change)).length:Int)+((dR (dG (nth l i).Point.Num)).length:Int)⟩ _:=j3.adv;rw [zjn (n:=dG (nth l i).Point.Den) a7 j4];refine fj ?_;have j5:RdS ⟨⟨0⟩,true,kH l,a+((jc (nth l i).Bidder).length:Int)+((jc (nth l i).Product).length:Int)+((dR (gR (nth l i).Change)).length:Int)+((dR (dG (nth l i).Point.Num)).length:Int)+((dR (dG (nth l i).Point.Den)).length:Int)⟩ _:=j4.adv;obtain ⟨p,ok,f1,f2,f3,f4,f5⟩:=zjR (fuel:=fuel) (n:=(dG (nth l i).Point.Num:Int)) (d:=(dG (nth l i).Point.Den:Int)) hf a7 a7;rw [Int.toNat_natCast,Int.toNat_natCast] at f4 f5;have hok:=f4.2 ⟨by omega,hB.pt.r.gcd⟩;have hp:p=(nth l i).Point:=(f5 hok).uniq ⟨hB.pt.nn,hB.pt.r.neg,hB.pt.r.num.big (hb i hi).n,hB.pt.r.den.big (hb i hi).d⟩;subst hok;rw [f1];refine fj ?_;rw [eE (by show _*_≤_;rw [List.length_append,List.length_singleton,List.length_take];omega),gq a7];refine hnx _ ⟨i+1,by omega,?_,rfl,by dsimp only;omega,rfl,j5⟩ b3;dsimp only;rw [zfJ hi,hp]
 ·rw [decide_eq_false (show ¬(i:Int)<(l.length:Int) by omega),Bool.false_and,cond_false]; (obtain rfl:i=l.length:=by omega);have hd0:l.drop l.length=[]:=List.drop_eq_nil_of_le (Nat.le_refl _);rw [hd0,List.flatMap_nil] at i6;have hal:=i6.len;have hap:=i6.pos;dsimp only at hal hap;rw [List.length_nil,Nat.add_zero] at hal;unfold zll;dsimp only;rw [zk4,if_neg a7,decide_eq_false b4,List.take_length];obtain ⟨bl,l1,l2⟩:=zfF (fuel:=fuel) hf hb;rw [l1,l2.2 h]
  rfl
theorem ziZ (p:GRatio):zda p p=true:=by
 unfold zda zeg mn;simp
theorem zhG (l:List GBid):zcq l l=true:=by
 unfold zcq;rw [decide_eq_false b4,cond_false];simp only [dM];refine ly (n:=l.length) (fun _ (_:Unit)=>True) (fun x=>x=true) trivial (fun _ _=>rfl) (fun i s next hi _ hnx=>?_);simp only [ziZ,not_true_eq_false,decide_false,Bool.or_self,Bool.not_true,cond_false];exact hnx () trivial
theorem zhx {F:Nat}(hF:100000≤F)(l:List GBid)(hb:∀x∈l,(∀y∈x.Point.Num.Digits,0≤y∧y≤255)∧(∀y∈x.Point.Den.Digits,0≤y∧y≤255)):zcw F l=some true:=by
 have hb':∀i,i<l.length→BytB (nth l i):=fun i hi=>by
  have:=hb _ (zka hi);exact ⟨zkj this.1,zkj this.2⟩
 unfold zcw;rw [zji a7];by_cases hl:140<l.length
 ·rw [decide_eq_true a7];rfl
 ·rw [decide_eq_false a7,cond_false];simp only [dM,Option.bind_some];refine ly (n:=l.length) (fun _ (_:Unit)=>True) (fun x=>x=some true) trivial (fun _ _=>?_) (fun i s next hi _ hnx=>?_)
  ·by_cases h:LstP l
   ·rw [zi3 a7 hb' h,zhK a7 hb' h];refine fj ?_;rw [beq_self_eq_true,decide_eq_false b4,zi9 a7 hb' h];refine fj ?_;rw [zhG]
    rfl
   ·obtain ⟨e1,e2⟩:=zij (fuel:=F) a7 hb' h;rw [e1,e2];refine fj ?_
    rfl
  ·cases (decide (100<(((nth l i).Point.Num.Digits).length:Int))||decide (100<(((nth l i).Point.Den.Digits).length:Int)))
   ·exact hnx () trivial
   ·rfl
end Go.Proofs.YtmnjbhkcfghebaaGreatDoor
namespace Go.Proofs.YtmnjbhkcfghebaaGreatDoor
open Go.RowKit Go.ChangeShapes Go.WideShapes Go.Deep
def Opens {H:Type}(enc:TypeId×Value→H)(w:World)(base:Nat)(spare:Nat→Bool)(held:Bool)(t:TypeId){α:Type}(R:List Value→α→Prop):Prop:=
 ∀fuel cs y,DataW.trod enc Tryz.prog w base spare held fuel t cs=some y→∃x,R cs x
section
variable {H:Type}{enc:TypeId×Value→H}{w:World}{base:Nat}{spare:Nat→Bool}{held:Bool}
theorem Opens.int {t:TypeId}(ht:Tryz.prog.underlying t=some (.int .i64)):Opens enc w base spare held t (fun cs (x:Int)=>cs=[.int .i64 x]):=fun fuel cs y h=>by
 obtain ⟨k,hk,_⟩:=DataW.trod_int ht h;exact ⟨k,hk⟩
theorem zkp {a:Addr}{v:Value}(h:w.cell? a=some v):Cb w a.block:=by
 unfold World.cell? at h
 split at h
 all_goals (first|exact ⟨_,_,_,by assumption⟩|simp at h|skip)
theorem Opens.any {t e:TypeId}{k:Nat}{α:Type}[Inhabited α]{R:List Value→α→Prop}(ht:Tryz.prog.underlying t=some (.slice e))(hk:Tryz.prog.cellsOf e=k)(hpos:0<k)(ho:Opens enc w base spare held e R):
  Opens enc w base spare held t (fun cs (l:List α)=>∃v c,cs=[v]∧SlC (Frz.all w) v k c∧c.length=l.length∧∀i,i<l.length→R (nth c i) (nth l i)):=fun fuel cs y h=>by
 rcases open_slice ht h with ⟨h0,_⟩|⟨a,len,cap,m,n,D,Pl,hcs,hb,hl,hm,hmm,_,hx⟩
 ·exact ⟨[],_,[],h0,SlC.nil _ _,rfl,fun i hi=>absurd hi (Nat.not_lt_zero i)⟩
 ·subst hcs; (have hlm:len≤m:=by rw [hmm];split <;> omega)
  have each:∀i,i<m→∃x:List Value×α,x.1.length=k∧R x.1 x.2∧∀j,j<k→w.cell? (a.add (i*k+j))=x.1[j]?:=fun i hi=>by
   obtain ⟨cs',h1,h2⟩:=hx i hi;rw [hk] at h1;obtain ⟨_,hlen,hcell⟩:=World.cells?_some h1;obtain ⟨x,hR⟩:=ho _ _ _ h2;exact ⟨(cs',x),hlen,hR,fun j hj=>by rw [←hcell j hj,add_add]⟩
  obtain ⟨X,hX⟩:=choose_lt each
  have hn:∀i,i<len→nth ((List.range len).map fun i=>(X i).1) i=(X i).1:=fun i hi=>by
   rw [fK (by simpa using hi)];simp
  have hn2:∀i,i<len→nth ((List.range len).map fun i=>(X i).2) i=(X i).2:=fun i hi=>by
   rw [fK (by simpa using hi)];simp
  refine ⟨(List.range len).map fun i=>(X i).2,_,(List.range len).map fun i=>(X i).1,rfl,⟨some a,cap,by simp,by simpa using hl,by unfold maxLen at hm;omega,fun c hc=>?_,fun hp=>?_⟩,by simp,fun i hi=>?_⟩
  ·simp at hc;obtain ⟨i,hi,rfl⟩:=hc;exact (hX i a7).1
  ·(have hp':0<len:=by simpa using hp);have c0:=(hX 0 a7).2.2 0 hpos;have hx0:=(hX 0 a7).1;rw [List.getElem?_eq_getElem a7] at c0;have hcb:=zkp c0;have hs:=World.cell?_spot c0;simp [Addr.add] at hs hcb;obtain ⟨b,off,sp⟩:=a;simp at hs hcb;subst hs;refine ⟨b,off,rfl,hcb,fun i hi j hj=>?_⟩;simp at hi;rw [hn i hi] at hj ⊢;have hxi:=hX i a7;have:=hxi.2.2 j a7;refine Eq.trans ?_ this
   show w.cell? _=_
   rw [kT,Nat.add_assoc]
  ·simp at hi;rw [hn i hi,hn2 i hi];exact (hX i a7).2.1
theorem Opens.bytes {t e:TypeId}(ht:Tryz.prog.underlying t=some (.slice e))(he:Tryz.prog.underlying e=some (.int .u8))(hk:Tryz.prog.cellsOf e=1):
  Opens enc w base spare held t (fun cs (l:List Int)=>∃v,cs=[v]∧SlC (Frz.all w) v 1 (l.map (eK .u8))∧∀x∈l,0≤x∧x≤255):=fun fuel cs y h=>by
 have ho:Opens enc w base spare held e (fun cs (x:Int)=>cs=eK .u8 x∧(0≤x∧x≤255)):=fun fuel cs y h=>by
  obtain ⟨k,h1,_,h2⟩:=DataW.trod_int he h;refine ⟨k,h1,?_⟩; (have e1:IntKind.u8.min=0:=by decide); (have e2:IntKind.u8.max=255:=by decide);simp only [Lit.wf,e1,e2,Bool.and_eq_true,decide_eq_true_eq] at h2;exact h2
 obtain ⟨l,v,c,h1,h2,h3,h4⟩:=Opens.any ht hk a8 ho _ _ _ h;refine ⟨l,v,h1,?_,fun x hx=>?_⟩
 ·have:c=l.map (eK .u8):=by
   apply List.ext_getElem (by simpa using h3);intro i hi hi2;rw [←fK hi,(h4 i a7).1,List.getElem_map,fK a7]
  rw [←this];exact h2
 ·obtain ⟨i,hi,e⟩:=List.mem_iff_getElem.1 hx;have:=(h4 i hi).2;rw [fK hi,e] at this;exact this
end
end Go.Proofs.YtmnjbhkcfghebaaGreatDoor
namespace Go.Proofs.YtmnjbhkcfghebaaGreatDoor
open Go.ChangeShapes Go.WideShapes Go.ChangeAt Go.RowKit Go.Joins Go.Deep
abbrev lt36 : List (String × DataW Unit) := [("bandplan/blake.order", Rows.laid_bandplan_blake_order), ("bandplan/blake.initial", Rows.laid_bandplan_blake_initial)]
theorem g36a : Tryz.prog.globalNamed "bandplan/blake.order" = some 2 := by kernel_rfl
theorem g36b : Tryz.prog.globalNamed "bandplan/blake.initial" = some 1 := by kernel_rfl
theorem t36a:(Tryz.prog.globals[2]?).map (·.type)=some 301:=by kernel_rfl
theorem t36b:(Tryz.prog.globals[1]?).map (·.type)=some 292:=by kernel_rfl
theorem zk2 (os:Os)(args:Array Value):laidMetH Tryz.prog lt36 ((World.doorLaid Tryz.prog 400 os).forCall (fun _ _=>0) ⟨#[],args,[]⟩).memory:=
 laidMetH_of_parts3 (fuel:=8) (laidMet_of_run' 8 a9 a9) a9 a9
section
variable {P:Program}{H:Type}{enc:TypeId×Value→H}{w:World}{base:Nat}{spare:Nat→Bool}{held:Bool}
theorem ziT {t e n:Nat}{k:IntKind}{fuel:Nat}{cs:List Value}{zs:List Int}{pl:List MemPlace}(ht:P.underlying t=some (.array n e))(he:P.underlying e=some (.int k))(hc:P.cellsOf e=1)(hct:P.cellsOf t=n)(h:DataW.trod enc P w base spare held fuel t cs=some (.agg (zs.map fun z=> .lit (.int k z)),pl)):cs=zs.map (Value.int k):=by
 obtain ⟨xs,m,rfl,hx,hl,hn,hel⟩:=DataW.trod_array ht h;simp only [Prod.mk.injEq,DataW.agg.injEq] at hx; (have hzl:zs.length=n:=by have:=congrArg List.length hx.1;simp at this;omega);refine List.ext_getElem (by rw [hl,List.length_map,hct,hzl]) fun j h1 h2=>?_; (have hj:j<n:=by rw [List.length_map] at h2;omega);have h0:=hel j hj;rw [List.getElem?_eq_getElem a7] at h0;obtain ⟨q,e1,e2,_⟩:=DataW.trod_int he h0;have h3:=congrArg (fun l=>l[j]?) hx.1;simp only [List.getElem?_map] at h3;rw [List.getElem?_eq_getElem (show j<xs.length by omega),List.getElem?_eq_getElem (show j<zs.length by omega)] at h3;simp only [Option.map_some,Option.some.injEq] at h3;rw [e2] at h3;simp only [DataW.lit.injEq,Lit.int.injEq,true_and] at h3;subst h3;rw [hc,Nat.mul_one] at e1;have h4:=congrArg (fun l=>l[0]?) e1;simp only [List.getElem?_take,List.getElem?_drop] at h4;simp at h4;rw [List.getElem?_eq_getElem h1] at h4;simp only [Option.some.injEq] at h4;rw [h4];simp
end
theorem zk7:(Rows.laid_bandplan_blake_initial:DataW Unit)= .agg (fq.1.map fun z=> .lit (.int .u32 z)):=rfl
theorem zlg:(Rows.laid_bandplan_blake_order:DataW Unit)= .agg (blOrder.map fun x=> .agg (x.1.map fun z=> .lit (.int .u8 z))):=rfl
theorem zh0 {W:World}{n:String}{g:Nat}{cs:Array Value}(hg:Tryz.prog.globalNamed n=some g)(hv:W.var? Tryz.prog n=some cs):Cb W g:=by
 simp only [World.var?,hg,Option.bind_some] at hv
 split at hv
 ·exact ⟨_,_,_,by assumption⟩
 ·simp at hv
theorem gl_of {W:World}(h:laidMetH Tryz.prog lt36 W):GlF (Frz.all W):=by
 rw [MakeChecks.laidMetH_plain _ _ _ a9] at h;obtain ⟨ps,⟨g0,t0,cs0,f0,p0,q0,hg0,ht0,hv0,hd0,⟨g1,t1,cs1,f1,p1,q1,hg1,ht1,hv1,hd1,_,_⟩,_⟩,_,_⟩:=h;obtain rfl:=Option.some.inj (g36a.symm.trans hg0);obtain rfl:=Option.some.inj (t36a.symm.trans ht0);obtain rfl:=Option.some.inj (g36b.symm.trans hg1);obtain rfl:=Option.some.inj (t36b.symm.trans ht1); (have e5:Tryz.prog.cellsOf 5=1:=by kernel_rfl); (have e175:Tryz.prog.cellsOf 175=1:=by kernel_rfl); (have e292:Tryz.prog.cellsOf 292=8:=by kernel_rfl); (have e300:Tryz.prog.cellsOf 300=16:=by kernel_rfl);constructor
 ·rw [zk7] at hd1;have hc:=ziT Tryz.underlying292 Tryz.underlying175 e175 e292 hd1;refine ⟨some ⟨1,0,none⟩,1,rfl,Nat.le_refl _,by decide,fun c hc=>?_,fun _=>⟨1,0,rfl,zh0 g36b hv1,fun i hi q hq=>?_⟩⟩
  ·simp at hc;subst hc;rfl
  ·(have hi:i=0:=by simpa using hi);subst hi
   show W.cell? _=_
   rw [Nat.zero_mul,Nat.zero_add,World.var?_cell hg1 hv1 q,←Array.getElem?_toList,hc];rfl
 ·rw [zlg] at hd0;obtain ⟨xs,m,rfl,hx,hl,hn,hel⟩:=DataW.trod_array Tryz.underlying301 hd0;simp only [Prod.mk.injEq,DataW.agg.injEq] at hx;refine ⟨some ⟨2,0,none⟩,10,rfl,by decide,by decide,fun c hc=>?_,fun _=>⟨2,0,rfl,zh0 g36a hv0,fun i hi q hq=>?_⟩⟩
  ·obtain ⟨x,_,rfl⟩:=List.mem_map.1 hc;rw [List.length_map,x.2]
  ·(have hi:i<10:=by rw [List.length_map] at hi;exact hi);have hb:i<blOrder.length:=hi;have h0:=hel i hi;rw [List.getElem?_eq_getElem a7] at h0;have h3:=congrArg (fun l=>l[i]?) hx.1;simp only [List.getElem?_map] at h3;rw [List.getElem?_eq_getElem (show i<xs.length by omega),List.getElem?_eq_getElem hb] at h3;simp only [Option.map_some,Option.some.injEq] at h3;have h4:xs[i]=(.agg (blOrder[i].1.map fun z=> .lit (.int .u8 z)),xs[i].2):=Prod.ext h3.symm rfl;rw [h4] at h0;have hc:=ziT Tryz.underlying300 Tryz.underlying5 e5 e300 h0;rw [e300] at hc
   have e9:nth (blOrder.map fun x=>x.1.map (Value.int .u8)) i=blOrder[i].1.map (Value.int .u8):=by
    rw [fK (by rw [List.length_map];exact hb),List.getElem_map]
   rw [e9] at hq ⊢;rw [List.length_map,blOrder[i].2] at hq
   show W.cell? _=_
   rw [Nat.zero_add,World.var?_cell hg0 hv0 (i*16+q),←Array.getElem?_toList,←hc,List.getElem?_take_of_lt hq,List.getElem?_drop]
section
variable {H:Type}{enc:TypeId×Value→H}{w:World}{base:Nat}{spare:Nat→Bool}{held:Bool}
end
end Go.Proofs.YtmnjbhkcfghebaaGreatDoor
