/- P7 P8 P9 J1 J2 J3 J4 J5 V1 V2 V3 Z3 Z4 Z5 Z6: shortened and put together by squeeze.py. -/
import Derived.Test.YtmnjbhkcfghebaaGreatDoorQ13
set_option maxRecDepth 100000
set_option maxHeartbeats 4000000
set_option linter.unusedVariables false
set_option linter.unusedSectionVars false
set_option linter.unusedSimpArgs false
namespace Go.Proofs.YtmnjbhkcfghebaaGreatDoor
open Go.RowKit
def zgx (u v_:List Int)(q_1:BitVec 64):Option (Int×List Int):=
 dq (fun (i_20:Nat) (next19:(BitVec 64×BitVec 64×List Int)→Option (Int×List Int)) (s19:BitVec 64×BitVec 64×List Int)=>
 dj (0≤(i_20:Int)∧(i_20:Int)<(s19.2.2.length:Int)) <|
 next19 (((((BitVec.ofInt 64 (nth s19.2.2 i_20)) - (BitVec.ofInt 64 (IntKind.u32.wrap ((s19.2.1+(q_1* (BitVec.ofInt 64 (nth v_ i_20)))).toNat:Int)))) - s19.1) >>> 63),((s19.2.1+(q_1* (BitVec.ofInt 64 (nth v_ i_20)))) >>> 32),(s19.2.2.set i_20 (IntKind.u32.wrap ((((BitVec.ofInt 64 (nth s19.2.2 i_20)) - (BitVec.ofInt 64 (IntKind.u32.wrap ((s19.2.1+(q_1* (BitVec.ofInt 64 (nth v_ i_20)))).toNat:Int)))) - s19.1).toNat:Int)))))
 (fun (s15:BitVec 64×BitVec 64×List Int)=>
 dj (0≤(v_.length:Int)∧(v_.length:Int)<(s15.2.2.length:Int)) <|
 (bif decide (¬(((((BitVec.ofInt 64 (nth s15.2.2 v_.length)) - s15.2.1) - s15.1) >>> 63).toNat:Int)=((0#64).toNat:Int)) then
 dq (fun (i_32:Nat) (next31:(BitVec 64×List Int)→Option (Int×List Int)) (s31:BitVec 64×List Int)=>
 dj (0≤(i_32:Int)∧(i_32:Int)<(s31.2.length:Int)) <|
 next31 (((s31.1+((BitVec.ofInt 64 (nth s31.2 i_32))+(BitVec.ofInt 64 (nth v_ i_32)))) >>> 32),(s31.2.set i_32 (IntKind.u32.wrap ((s31.1+((BitVec.ofInt 64 (nth s31.2 i_32))+(BitVec.ofInt 64 (nth v_ i_32)))).toNat:Int)))))
 (fun (s28:BitVec 64×List Int)=>
 dj (0≤(v_.length:Int)∧(v_.length:Int)<(s28.2.length:Int)) <|
 some ((IntKind.u32.wrap ((q_1 - (1#64)).toNat:Int)),(s28.2.set v_.length (IntKind.u32.wrap ((nth s28.2 v_.length)+(IntKind.u32.wrap (s28.1.toNat:Int))))))) (v_.length - 0) 0 (0#64,(s15.2.2.set v_.length (IntKind.u32.wrap ((((BitVec.ofInt 64 (nth s15.2.2 v_.length)) - s15.2.1) - s15.1).toNat:Int))))
 else
 some ((IntKind.u32.wrap (q_1.toNat:Int)),(s15.2.2.set v_.length (IntKind.u32.wrap ((((BitVec.ofInt 64 (nth s15.2.2 v_.length)) - s15.2.1) - s15.1).toNat:Int)))))) (v_.length - 0) 0 (0#64,0#64,u)
theorem zjb (a b:BitVec 64):(a - b).toNat=(18446744073709551616 - b.toNat+a.toNat) % 18446744073709551616:=BitVec.toNat_sub a b
theorem zkI {x:Int}{lo:Nat}{bb:BitVec 64}(hx:0≤x∧x<(c8:Int))(hlo:lo<c8)(hb:bb.toNat≤1):
  ∃b' w:Nat,(((BitVec.ofInt 64 x - BitVec.ofInt 64 (lo:Int)) - bb) >>> 63).toNat=b'∧IntKind.u32.wrap (((BitVec.ofInt 64 x - BitVec.ofInt 64 (lo:Int)) - bb).toNat:Int)=(w:Int)∧x.toNat+c8*b'=w+lo+bb.toNat∧w<c8∧b'≤1:=by
 have e1:(BitVec.ofInt 64 x).toNat=x.toNat:=kL hx; (have e2:(BitVec.ofInt 64 (lo:Int)).toNat=lo:=by rw [kL a7];omega);rw [iN] at*
 have ed:((BitVec.ofInt 64 x - BitVec.ofInt 64 (lo:Int)) - bb).toNat=if lo+bb.toNat≤x.toNat then x.toNat - lo - bb.toNat else 18446744073709551616+x.toNat - lo - bb.toNat:=by
  rw [zjb,zjb,e1,e2]
  split <;> omega
 refine ⟨_,(((BitVec.ofInt 64 x - BitVec.ofInt 64 (lo:Int)) - bb).toNat % 4294967296),rfl,?_,?_,?_,?_⟩
 ·rw [zia _ a7];omega
 ·rw [zh8,ed];split <;> omega
 ·omega
 ·rw [zh8,ed];split <;> omega
section
variable {u v:List Int}{n:Nat}
structure MI (u v:List Int) (n q i:Nat) (s:BitVec 64×BitVec 64×List Int):Prop where
 b:s.1.toNat≤1
 c:s.2.1.toNat<c8
 len:s.2.2.length=n+1
 dig:Dig c8 s.2.2
 rest:∀j,i≤j→j≤n→nth s.2.2 j=nth u j
 eq:val c8 (u.take i)+c8 ^ i* (s.1.toNat+s.2.1.toNat)=val c8 (s.2.2.take i)+q*val c8 (v.take i)
theorem zdL {l:List Int}{i:Nat}{x:Int}:(l.set i x).take i=l.take i:=by
 rw [List.take_set_of_le (Nat.le_refl i)]
theorem kS {l:List Int}{i:Nat}{x:Int}(h:i<l.length):nth (l.set i x) i=x:=by
 unfold nth;rw [List.getD_eq_getElem?_getD,List.getElem?_set_self h];rfl
theorem zeB {l:List Int}{i j:Nat}{x:Int}(h:i≠j):nth (l.set i x) j=nth l j:=by
 unfold nth;rw [List.getD_eq_getElem?_getD,List.getD_eq_getElem?_getD,List.getElem?_set_ne h]
theorem jn (m:Nat):IntKind.u32.wrap (m:Int)=((m % c8:Nat):Int):=by
 rw [zia _ a7,iN];omega
theorem MI.step (h:QIn u v n){q:BitVec 64}(hq:q.toNat<c8){i:Nat}(hi:i<n){s:BitVec 64×BitVec 64×List Int}(k:MI u v n q.toNat i s):
  MI u v n q.toNat (i+1) (((((BitVec.ofInt 64 (nth s.2.2 i)) - (BitVec.ofInt 64 (IntKind.u32.wrap ((s.2.1+(q* (BitVec.ofInt 64 (nth v i)))).toNat:Int)))) - s.1) >>> 63),((s.2.1+(q* (BitVec.ofInt 64 (nth v i)))) >>> 32),(s.2.2.set i (IntKind.u32.wrap ((((BitVec.ofInt 64 (nth s.2.2 i)) - (BitVec.ofInt 64 (IntKind.u32.wrap ((s.2.1+(q* (BitVec.ofInt 64 (nth v i)))).toNat:Int)))) - s.1).toNat:Int)))):=by
 obtain ⟨kb,kc,kl,kd,kr,ke⟩:=k;have dv:=h.dv.nth (i:=i) (by have:=h.vl;omega);have dx:=kd.nth (i:=i) a7;have ev:(BitVec.ofInt 64 (nth v i)).toNat=(nth v i).toNat:=kL dv
 have hmul:q.toNat* (nth v i).toNat≤18446744065119617025:=by
  have:=Nat.mul_le_mul (show q.toNat≤4294967295 by rw [iN] at hq;omega) (show (nth v i).toNat≤4294967295 by rw [iN] at dv;omega);omega
 have em:(s.2.1+(q* (BitVec.ofInt 64 (nth v i)))).toNat=s.2.1.toNat+q.toNat* (nth v i).toNat:=by
  (have e1:(q* (BitVec.ofInt 64 (nth v i))).toNat=q.toNat* (nth v i).toNat:=by rw [zlC (by rw [ev];omega),ev]);rw [zkl (by rw [e1];rw [iN] at kc;omega),e1]
 rw [em,jn];generalize hm:s.2.1.toNat+q.toNat* (nth v i).toNat=m at *;obtain ⟨b',w,h1,h2,h3,h4,h5⟩:=zkI (x:=nth s.2.2 i) (lo:=m % c8) (bb:=s.1) dx (Nat.mod_lt _ iB) kb; (have ec:((s.2.1+(q* (BitVec.ofInt 64 (nth v i)))) >>> 32).toNat=m / c8:=by rw [zh8,em,iN])
 have hm2:m / c8<c8:=by
  rw [Nat.div_lt_iff_lt_mul iB,iN];rw [iN] at kc;omega
 refine ⟨by dsimp only;rw [h1];exact h5,by dsimp only;rw [ec];exact hm2,by dsimp only;rw [List.length_set];exact kl,?_,fun j hj hjn=>?_,?_⟩
 ·dsimp only;rw [h2];exact kd.set a7
 ·dsimp only;rw [zeB a7];exact kr j a7 hjn
 ·dsimp only;rw [h1,ec,h2,jc (by have:=h.ul;omega),jc b9,zdL,kS a7,jc (by have:=h.vl;omega),←kr i (Nat.le_refl i) a7];have hdm:=Nat.div_add_mod m c8
  (have e1:c8 ^ i* ((nth s.2.2 i).toNat+c8*b')=c8 ^ i* (w+m % c8+s.1.toNat):=by rw [h3]); (have e2:c8 ^ i* (c8* (m / c8)+m % c8)=c8 ^ i*m:=by rw [hdm])
  have e3:c8 ^ i*m=c8 ^ i*s.2.1.toNat+q.toNat* (c8 ^ i* (nth v i).toNat):=by
   rw [←hm,Nat.mul_add,←Nat.mul_assoc,Nat.mul_comm (c8 ^ i) q.toNat,Nat.mul_assoc]
  have e4:c8 ^ (i+1) * (b'+m / c8)=c8 ^ i* (c8*b')+c8 ^ i* (c8* (m / c8)):=by
   rw [Nat.pow_succ,Nat.mul_add,Nat.mul_assoc,Nat.mul_assoc]
  (have e5:((w:Int)).toNat=w:=by omega);rw [e4,e5,Nat.mul_add q.toNat];rw [Nat.mul_add] at ke;rw [Nat.mul_add,Nat.mul_add,Nat.mul_add] at e1;rw [Nat.mul_add] at e2;omega
structure AI (u0 v:List Int) (n i:Nat) (s:BitVec 64×List Int):Prop where
 c:s.1.toNat≤1
 len:s.2.length=n+1
 dig:Dig c8 s.2
 rest:∀j,i≤j→j≤n→nth s.2 j=nth u0 j
 eq:val c8 (u0.take i)+val c8 (v.take i)=val c8 (s.2.take i)+c8 ^ i*s.1.toNat
theorem AI.step {u0:List Int}(hl:u0.length=n+1)(hv:v.length=n)(hdv:Dig c8 v){i:Nat}(hi:i<n){s:BitVec 64×List Int}(k:AI u0 v n i s):
  AI u0 v n (i+1) (((s.1+((BitVec.ofInt 64 (nth s.2 i))+(BitVec.ofInt 64 (nth v i)))) >>> 32),(s.2.set i (IntKind.u32.wrap ((s.1+((BitVec.ofInt 64 (nth s.2 i))+(BitVec.ofInt 64 (nth v i)))).toNat:Int)))):=by
 obtain ⟨kc,kl,kd,kr,ke⟩:=k;have dv:=hdv.nth (i:=i) a7;have dx:=kd.nth (i:=i) a7;have ev:(BitVec.ofInt 64 (nth v i)).toNat=(nth v i).toNat:=kL dv;have ex:(BitVec.ofInt 64 (nth s.2 i)).toNat=(nth s.2 i).toNat:=kL dx;have hB:=iN; (have e1:((BitVec.ofInt 64 (nth s.2 i))+(BitVec.ofInt 64 (nth v i))).toNat=(nth s.2 i).toNat+(nth v i).toNat:=by rw [zkl (by rw [ev,ex];omega),ev,ex]); (have em:(s.1+((BitVec.ofInt 64 (nth s.2 i))+(BitVec.ofInt 64 (nth v i)))).toNat=s.1.toNat+((nth s.2 i).toNat+(nth v i).toNat):=by rw [zkl (by rw [e1];omega),e1]);rw [em,jn];generalize hm:s.1.toNat+((nth s.2 i).toNat+(nth v i).toNat)=m at *; (have ec:((s.1+((BitVec.ofInt 64 (nth s.2 i))+(BitVec.ofInt 64 (nth v i)))) >>> 32).toNat=m / c8:=by rw [zh8,em,iN]);have hdm:=Nat.div_add_mod m c8;have hml:=Nat.mod_lt m iB
 have hm2:m / c8≤1:=by
  (have:m / c8<2:=by rw [Nat.div_lt_iff_lt_mul iB];omega);omega
 refine ⟨by dsimp only;rw [ec];exact hm2,by dsimp only;rw [List.length_set];exact kl,by dsimp only;exact kd.set a7,fun j hj hjn=>?_,?_⟩
 ·dsimp only;rw [zeB a7];exact kr j a7 hjn
 ·dsimp only;rw [ec,jc a7,jc a7,jc b9,zdL,kS a7,←kr i (Nat.le_refl i) a7]; (have e2:c8 ^ i* (c8* (m / c8)+m % c8)=c8 ^ i*m:=by rw [hdm]); (have e3:c8 ^ i*m=c8 ^ i*s.1.toNat+c8 ^ i* (nth s.2 i).toNat+c8 ^ i* (nth v i).toNat:=by rw [←hm,Nat.mul_add,Nat.mul_add];omega); (have e4:c8 ^ (i+1) * (m / c8)=c8 ^ i* (c8* (m / c8)):=by rw [Nat.pow_succ,Nat.mul_assoc]);rw [e4,show (((m % c8:Nat):Int)).toNat=m % c8 by omega];rw [Nat.mul_add] at e2;omega
def kK (u v:List Int)(n:Nat)(x:Option (Int×List Int)):Prop:=∃u',x=some (((val c8 u / val c8 v:Nat):Int),u')∧u'.length=n+1∧Dig c8 u'∧val c8 (u'.take n)=val c8 u % val c8 v∧nth u' n=0
theorem zlJ (h:QIn u v n){q:BitVec 64}(hq:q.toNat<c8)(h1:val c8 u / val c8 v≤q.toNat)(h2:q.toNat≤val c8 u / val c8 v+1):kK u v n (zgx u v q):=by
 have hB:=iN;have hn2:=h.n2;have hvl:=h.vl;have hul:=h.ul;have hVn:=lG h.dv
 have hV:0<val c8 v:=by
  have h1:=h.parts.2.1;have:=h.top;have h3:0<c8 ^ (n - 2):=Nat.pow_pos iB
  have h4:=Nat.mul_le_mul h3 (show 1≤(nth v (n - 1)).toNat*c8+(nth v (n - 2)).toNat by
   have:=Nat.mul_le_mul_right c8 (show 1≤(nth v (n - 1)).toNat by omega)
   omega)
  omega
 have hQV:=Nat.div_mul_le_self (val c8 u) (val c8 v);have hmod:=Nat.div_add_mod (val c8 u) (val c8 v);have hml:=Nat.mod_lt (val c8 u) hV;rw [hvl] at hVn; (have hQW:val c8 u / val c8 v<c8:=by rw [Nat.div_lt_iff_lt_mul hV];exact h.lt);unfold zgx;rw [hvl];refine mc (n:=n) (fun i s=>MI u v n q.toNat i s) (kK u v n) ⟨by simp,by simp [iB],hul,h.du,fun _ _ _=>rfl,by simp [val]⟩ (fun s k=>?_) (fun i s next hi k hn=>?_)
 ·obtain ⟨kb,kc,kl,kd,kr,ke⟩:=k
  have eu:val c8 u=val c8 (u.take n)+c8 ^ n* (nth u n).toNat:=by
   have:=jc (B:=c8) (l:=u) (i:=n) a7;rw [←hul,List.take_length] at this;exact this
  (have ev:v.take n=v:=by rw [←hvl,List.take_length]);rw [ev] at ke;have hwl:=lG (kd.take n);rw [List.length_take,Nat.min_eq_left a7] at hwl;have dn:=h.du.nth (i:=n) a7;rw [dJ a7,kr n (Nat.le_refl n) (Nat.le_refl n)];generalize hT:val c8 (s.2.2.take n)=T at *;generalize hP:c8 ^ n=b at *;generalize hUT:val c8 (u.take n)=X at *;generalize hU:val c8 u=U at *;generalize hVV:val c8 v=V at *;generalize hQ:U / V=Q at *;generalize hR:U % V=R at*
  have eun:(BitVec.ofInt 64 (nth u n)).toNat=(nth u n).toNat:=kL dn
  have ed:((BitVec.ofInt 64 (nth u n) - s.2.1) - s.1).toNat=if s.2.1.toNat+s.1.toNat≤(nth u n).toNat then (nth u n).toNat - s.2.1.toNat - s.1.toNat else 18446744073709551616+(nth u n).toNat - s.2.1.toNat - s.1.toNat:=by
   rw [zjb,zjb,eun]
   split <;> omega
  have e63:((((BitVec.ofInt 64 (nth u n) - s.2.1) - s.1) >>> 63).toNat:Int)=if s.2.1.toNat+s.1.toNat≤(nth u n).toNat then 0 else 1:=by
   rw [zh8,ed];split <;> omega
  rw [e63];generalize hc:s.2.1.toNat+s.1.toNat=c at *; (have hc':s.1.toNat+s.2.1.toNat=c:=by omega);rw [hc'] at ke;generalize hun:(nth u n).toNat=un at*
  by_cases hle:c≤un
  ·rw [if_pos hle,show (((0#64).toNat:Nat):Int)=0 from rfl,decide_eq_false b6,cond_false];rw [if_pos hle] at ed;obtain ⟨g,hg⟩:∃g,un=c+g:=⟨un - c,by omega⟩
   have hqQ:q.toNat=Q:=by
    rcases Nat.lt_or_ge Q q.toNat with hlt|hge
    ·exfalso; (have e1:q.toNat=Q+1:=by omega);rw [e1,Nat.add_mul,Nat.one_mul] at ke;rw [hg,Nat.mul_add] at eu;rw [Nat.mul_comm V Q] at hmod;omega
    ·omega
   rw [hqQ] at ke;rw [Nat.mul_comm V Q] at hmod;rw [hg,Nat.mul_add] at eu
   have hg0:g=0:=by
    rcases Nat.eq_zero_or_pos g with e|e
    ·exact e
    ·have:=Nat.mul_le_mul_left b e;omega
   subst hg0;rw [Nat.mul_zero] at eu; (have ew:IntKind.u32.wrap ((((BitVec.ofInt 64 (nth u n) - s.2.1) - s.1)).toNat:Int)=0:=by rw [ed,show un - s.2.1.toNat - s.1.toNat=0 by omega];rfl);rw [ew,hqQ,jn,Nat.mod_eq_of_lt a7];refine ⟨_,by rw [hU,hVV,hQ],by rw [List.length_set];exact kl,kd.set a7,?_,kS a7⟩;rw [zdL,hT,hU,hVV,hR];omega
  ·rw [if_neg hle,show (((0#64).toNat:Nat):Int)=0 from rfl,decide_eq_true b6,cond_true];rw [if_neg hle] at ed;obtain ⟨g,hg⟩:∃g,c=un+(g+1):=⟨c - un - 1,by omega⟩
   have hqQ:q.toNat=Q+1:=by
    rcases Nat.lt_or_ge Q q.toNat with hlt|hge
    ·omega
    ·exfalso; (have e1:q.toNat=Q:=by omega);rw [e1] at ke;rw [hg,Nat.mul_add,Nat.mul_add,Nat.mul_one] at ke;rw [Nat.mul_comm V Q] at hmod;omega
   rw [hqQ,Nat.add_mul,Nat.one_mul] at ke;rw [Nat.mul_comm V Q] at hmod;rw [hg,Nat.mul_add,Nat.mul_add,Nat.mul_one] at ke
   have hg0:g=0:=by
    rcases Nat.eq_zero_or_pos g with e|e
    ·exact e
    ·have:=Nat.mul_le_mul_left b e;omega
   subst hg0;rw [Nat.mul_zero,Nat.zero_add] at ke; (have ew:IntKind.u32.wrap ((((BitVec.ofInt 64 (nth u n) - s.2.1) - s.1)).toNat:Int)=((c8 - 1:Nat):Int):=by rw [ed,jn,hB,show 18446744073709551616+un - s.2.1.toNat - s.1.toNat=18446744073709551615 by omega]);rw [ew]; (have kl0:(s.2.2.set n ((c8 - 1:Nat):Int)).length=n+1:=by rw [List.length_set];exact kl);have hd0:Dig c8 (s.2.2.set n ((c8 - 1:Nat):Int)):=kd.set a7;refine mc (n:=n) (fun i s'=>AI (s.2.2.set n ((c8 - 1:Nat):Int)) v n i s') (kK u v n) ⟨by simp,kl0,hd0,fun _ _ _=>rfl,by simp [val]⟩ (fun s' k=>?_) (fun i s' next hi k hn=>?_)
   ·obtain ⟨ac,al,ad,ar,ae⟩:=k;rw [zdL,hT,ev,hVV] at ae;have hwl2:=lG (ad.take n);rw [List.length_take,Nat.min_eq_left a7,hP] at hwl2;rw [dJ a7,ar n (Nat.le_refl n) (Nat.le_refl n),kS a7,jn]
    have e1:s'.1.toNat=1:=by
     rcases Nat.eq_zero_or_pos s'.1.toNat with e|e
     ·rw [e,Nat.mul_zero] at ae;exfalso; (have z1:T+V=R+b:=by omega);omega
     ·omega
    rw [e1,Nat.mul_one] at ae; (have e2:IntKind.u32.wrap (((c8 - 1:Nat):Int)+IntKind.u32.wrap ((1:Nat):Int))=0:=by rw [hB];rfl); (have e3:(q - 1#64).toNat=Q:=by rw [zjb,hqQ,show (1#64).toNat=1 from rfl];omega);rw [e3,Nat.mod_eq_of_lt hQW,e1,e2];refine ⟨_,by rw [hU,hVV,hQ],by rw [List.length_set];exact al,ad.set a7,?_,kS a7⟩;rw [zdL,hU,hVV,hR];omega
   ·have:=k.len;rw [dJ a7];exact hn _ (AI.step kl0 hvl h.dv hi k)
 ·have:=k.len;rw [dJ a7];exact hn _ (MI.step h hq hi k)
theorem zf9 {fuel : Nat} (hf : 4 ≤ fuel) (h : QIn u v n) : kK u v n (zbA fuel u v) := by
  have hB := iN; have hn2 := h.n2; have hvl := h.vl; have hul := h.ul; have htop := h.top; have d1 := h.dv.nth (i := n - 1) a7; have d2 := h.dv.nth (i := n - 2) a7; have un := h.du.nth (i := n) a7; have u1 := h.du.nth (i := n - 1) a7; have u2 := h.du.nth (i := n - 2) a7; have ehi : (BitVec.ofInt 64 (nth v (n - 1))).toNat = (nth v (n - 1)).toNat := kL d1; have ev2 : (BitVec.ofInt 64 (nth v (n - 2))).toNat = (nth v (n - 2)).toNat := kL d2; have eun : (BitVec.ofInt 64 (nth u n)).toNat = (nth u n).toNat := kL un; have eu1 : (BitVec.ofInt 64 (nth u (n - 1))).toNat = (nth u (n - 1)).toNat := kL u1; have eu2 : (BitVec.ofInt 64 (nth u (n - 2))).toNat = (nth u (n - 2)).toNat := kL u2
  have hne : ¬ BitVec.ofInt 64 (nth v (n - 1)) = 0#64 := fun e => by
    have := congrArg BitVec.toNat e; rw [ehi, show (0#64).toNat = 0 from rfl] at this; omega
  have etop := zjh (a := BitVec.ofInt 64 (nth u n)) (b := BitVec.ofInt 64 (nth u (n - 1))) a7 a7; rw [eun, eu1] at etop; unfold zbA; rw [hvl, show ((n : Int) - 1).toNat = n - 1 by omega, show ((n : Int) - 2).toNat = n - 2 by omega]; rw [dJ a7, dJ a7, dJ hne, dJ hne];simp only [dF]
  have hV : 0 < val c8 v := by
    have h1 := h.parts.2.1; have h3 : 0 < c8 ^ (n - 2) := Nat.pow_pos iB
    have h4 := Nat.mul_le_mul h3 (show 1 ≤ (nth v (n - 1)).toNat * c8 + (nth v (n - 2)).toNat by
      have := Nat.mul_le_mul_right c8 (show 1 ≤ (nth v (n - 1)).toNat by omega)
      omega)
    omega
  (have hQW : val c8 u / val c8 v < c8 := by rw [Nat.div_lt_iff_lt_mul hV]; exact h.lt); have hlo := h.lo (Q := val c8 u / val c8 v) (Nat.div_mul_le_self _ _); have htu := h.topu; have hhi : ∀ q : Nat, q < c8 → q * ((nth v (n - 1)).toNat * c8 + (nth v (n - 2)).toNat) ≤ ((nth u n).toNat * c8 + (nth u (n - 1)).toNat) * c8 + (nth u (n - 2)).toNat → q ≤ val c8 u / val c8 v + 1 := fun q h1 h2 => h.hi h1 h2; have htail : ∀ q : BitVec 64, q.toNat < c8 → val c8 u / val c8 v ≤ q.toNat → q.toNat ≤ val c8 u / val c8 v + 1 → kK u v n (zgx u v q) := fun q h1 h2 h3 => zlJ h h1 h2 h3; unfold zgx at htail; rw [hvl] at htail; generalize val c8 u / val c8 v = Q at *; generalize hhv : (nth v (n - 1)).toNat = hi at *; generalize hv2' : (nth v (n - 2)).toNat = v2 at *; generalize hun' : (nth u n).toNat = a at *; generalize hu1' : (nth u (n - 1)).toNat = a1 at *; generalize hu2' : (nth u (n - 2)).toNat = a2 at *; rw [hB] at hlo hhi; refine zfY (fun s => s.1.toNat * hi + s.2.toNat = a * 4294967296 + a1 ∧ s.2.toNat < 4294967296 ∧ Q ≤ s.1.toNat ∧ s.1.toNat ≤ 4294967300) (fun s => if s.2.toNat < 2147483648 then 1 else 0) (kK u v n) ?_ (by split <;> omega) ?_
  · (have hq0 : ((((BitVec.ofInt 64 (nth u n)) <<< 32) ||| (BitVec.ofInt 64 (nth u (n - 1)))) / (BitVec.ofInt 64 (nth v (n - 1)))).toNat = (a * 4294967296 + a1) / hi := by rw [BitVec.toNat_udiv, etop, ehi]); (have hr0 : ((((BitVec.ofInt 64 (nth u n)) <<< 32) ||| (BitVec.ofInt 64 (nth u (n - 1)))) % (BitVec.ofInt 64 (nth v (n - 1)))).toNat = (a * 4294967296 + a1) % hi := by rw [BitVec.toNat_umod, etop, ehi]);dsimp only; rw [hq0, hr0]; have hdm := Nat.div_add_mod (a * 4294967296 + a1) hi; have hml := Nat.mod_lt (a * 4294967296 + a1) (show 0 < hi by omega); rw [Nat.mul_comm] at hdm; refine ⟨hdm, by omega, ?_, ?_⟩
    · -- the true word is at most the guess
      rw [Nat.le_div_iff_mul_le a7]; have h5 : Q * (hi * 4294967296) ≤ Q * (hi * 4294967296 + v2) := Nat.mul_le_mul_left _ (Nat.le_add_right _ _); (have h6 : Q * (hi * 4294967296) = Q * hi * 4294967296 := by rw [Nat.mul_assoc]); omega
    · refine Nat.le_of_lt_succ ?_; rw [Nat.div_lt_iff_lt_mul a7]; have : a * 4294967296 ≤ hi * 4294967296 := Nat.mul_le_mul_right _ htu; omega
  · rintro ⟨q, r⟩ next ⟨i1, i2, i3, i4⟩ hn; dsimp only at i1 i2 i3 i4 hn ⊢
    have step : Q + 1 ≤ q.toNat → kK u v n (bif decide (((4294967296#64).toNat : Int) ≤ ((r + (BitVec.ofInt 64 (nth v (n - 1)))).toNat : Int)) then
            zgx u v (q - 1#64)
            else
            next ((q - (1#64)), (r + (BitVec.ofInt 64 (nth v (n - 1)))))) := fun hgt => by
      (have er : (r + (BitVec.ofInt 64 (nth v (n - 1)))).toNat = r.toNat + hi := by rw [zkl (by rw [ehi]; omega), ehi]); (have eq : (q - 1#64).toNat = q.toNat - 1 := by rw [zjb, show (1#64).toNat = 1 from rfl]; omega); obtain ⟨p, hp⟩ : ∃ p, q.toNat = p + 1 := ⟨q.toNat - 1, by omega⟩; rw [hp, Nat.add_mul, Nat.one_mul] at i1; rw [er, show (((4294967296#64).toNat : Nat) : Int) = 4294967296 from rfl]; by_cases hbr : 4294967296 ≤ r.toNat + hi
      · rw [decide_eq_true a7, cond_true]
        have hpW : p < 4294967296 := by
          refine Nat.lt_of_mul_lt_mul_right (a := hi) ?_; have : a * 4294967296 ≤ hi * 4294967296 := Nat.mul_le_mul_right _ htu; rw [Nat.mul_comm 4294967296 hi]; omega
        have h2 : p * (hi * 4294967296 + v2) ≤ (a * 4294967296 + a1) * 4294967296 + a2 := by
          (have e1 : p * (hi * 4294967296 + v2) = p * hi * 4294967296 + p * v2 := by rw [Nat.mul_add, Nat.mul_assoc]); have e2 : p * v2 ≤ 4294967296 * 4294967296 := Nat.mul_le_mul a7 a7; omega
        have h3 := hhi p a7 h2; unfold zgx; rw [hvl]; exact htail _ a7 a7 a7
      · rw [decide_eq_false a7, cond_false]; refine hn _ ⟨?_, ?_, ?_, ?_⟩ ?_
        · dsimp only; rw [eq, er, hp]; show (p + 1 - 1) * hi + _ = _; rw [Nat.add_sub_cancel]; omega
        · dsimp only; omega
        · dsimp only; omega
        · dsimp only; omega
        · dsimp only; rw [er]; split <;> split <;> omega
    unfold zgx at step; rw [hvl] at step; rw [show (((4294967296#64).toNat : Nat) : Int) = 4294967296 from rfl] at step ⊢; by_cases hbig : 4294967296 ≤ q.toNat
    · rw [decide_eq_true (show (4294967296 : Int) ≤ (q.toNat : Int) by omega), cond_true, cond_true]; exact step a7
    · rw [decide_eq_false (show ¬ (4294967296 : Int) ≤ (q.toNat : Int) by omega), cond_false, dJ a7]; (have ej : ((r <<< 32) ||| (BitVec.ofInt 64 (nth u (n - 2)))).toNat = r.toNat * 4294967296 + a2 := by rw [zjh a7 a7, eu2]); have hmul : q.toNat * v2 ≤ 4294967296 * 4294967295 := Nat.mul_le_mul a7 a7; (have em : (q * (BitVec.ofInt 64 (nth v (n - 2)))).toNat = q.toNat * v2 := by rw [zlC (by rw [ev2]; omega), ev2]); rw [ej, em]; (have e1 : q.toNat * (hi * 4294967296 + v2) = q.toNat * hi * 4294967296 + q.toNat * v2 := by rw [Nat.mul_add, Nat.mul_assoc]); by_cases htest : r.toNat * 4294967296 + a2 < q.toNat * v2
      · rw [decide_eq_true a7, cond_true]; refine step (Nat.succ_le_of_lt (Nat.lt_of_not_le fun hle => ?_)); have := Nat.mul_le_mul_right (hi * 4294967296 + v2) hle; omega
      · rw [decide_eq_false a7, cond_false]; have h3 := hhi q.toNat a7 (by rw [e1]; omega); exact htail _ a7 i3 h3
end
theorem kB {x:Int}(h: -9223372036854775808≤x∧x≤9223372036854775807):wI x=x:=IntWalk.i64_in _ h
theorem zfp {l:List Int}{i:Nat}(h:l.length≤i):nth l i=0:=by
 unfold nth;rw [List.getD_eq_getElem?_getD,List.getElem?_eq_none h];rfl
section
variable {B:Nat}{l m:List Int}{i:Nat}
theorem zkH (h:Dig B l)(hB:0<B)(i:Nat):0≤nth l i∧nth l i<(B:Int):=by
 rcases Nat.lt_or_ge i l.length with hi|hi
 ·exact h.nth hi
 ·rw [zfp hi];omega
theorem zfM (hB:0<B):∀ {l:List Int},Dig B l→∀i,(nth l i).toNat=val B l / B ^ i % B
 | [],_,i=>by rw [zfp b6];simp [val]
 |x :: l,h,0=>by
  have:=h.head;rw [zfK,val,Nat.pow_zero,Nat.div_one,Nat.add_mul_mod_self_left,Nat.mod_eq_of_lt a7]
 |x :: l,h,i+1=>by
  have:=h.head;rw [zgw,zfM hB h.tail i,val,Nat.pow_succ,Nat.mul_comm (B ^ i) B,←Nat.div_div_eq_div_mul,Nat.add_mul_div_left _ _ hB,Nat.div_eq_of_lt (show x.toNat<B by omega),Nat.zero_add]
theorem zfH {N:Nat}(hB:0<B)(h:∀i,i<l.length→(nth l i).toNat=N / B ^ i % B)(hN:N<B ^ l.length):val B l=N:=by
 have key:∀i,i≤l.length→val B (l.take i)=N % B ^ i:=by
  intro i
  induction i with
  |zero=>intro _;simp [val,Nat.mod_one]
  |succ i ih=>
   intro hi;rw [jc a7,ih a7,h i a7,Nat.pow_succ,Nat.mod_mul]
 have:=key l.length (Nat.le_refl _);rw [List.take_length,Nat.mod_eq_of_lt hN] at this;exact this
theorem zhU (hB:0<B)(h:Dig B l)(hz:∀k,nth l k=0):val B l=0:=by
 have:=zfH (B:=B) (l:=l) (N:=0) hB (fun i _=>by rw [hz i];simp) (Nat.pow_pos hB);exact this
theorem ziB {l:List Int}{n k:Nat}(h:k<n):nth (l.take n) k=nth l k:=by
 unfold nth;rw [List.getD_eq_getElem?_getD,List.getD_eq_getElem?_getD,List.getElem?_take_of_lt h]
theorem zfD {l:List Int}{n k:Nat}:nth (l.drop n) k=nth l (n+k):=by
 unfold nth;rw [List.getD_eq_getElem?_getD,List.getD_eq_getElem?_getD,List.getElem?_drop]
theorem ziv {l m:List Int}{k:Nat}(h:k<l.length):nth (l++m) k=nth l k:=by
 unfold nth;rw [List.getD_eq_getElem?_getD,List.getD_eq_getElem?_getD,List.getElem?_append_left h]
theorem ziK {l m:List Int}{k:Nat}(h:l.length≤k):nth (l++m) k=nth m (k - l.length):=by
 unfold nth;rw [List.getD_eq_getElem?_getD,List.getD_eq_getElem?_getD,List.getElem?_append_right h]
theorem zgg {l:List Int}{k:Nat}(h:k<l.length):nth l.reverse k=nth l (l.length - 1 - k):=by
 unfold nth;rw [List.getD_eq_getElem?_getD,List.getD_eq_getElem?_getD,List.getElem?_reverse h]
theorem Dig.rev (h:Dig B l):Dig B l.reverse:=fun x hx=>h x (List.mem_reverse.1 hx)
end
structure NatIs (x:List Int) (X:Nat):Prop where
 dig:Dig c8 x
 trm:Trm x
 eq:val c8 x=X
theorem NatIs.nil {x:List Int}{X:Nat}(h:NatIs x X):x=[]↔X=0:=by
 rw [←h.eq];exact (zhs h.dig h.trm iB).symm
theorem NatIs.pos {x:List Int}{X:Nat}(h:NatIs x X):0<x.length↔0<X:=by
 have:=h.nil;rw [List.length_pos_iff];constructor
 ·intro e;rcases Nat.eq_zero_or_pos X with z|z
  ·exact absurd (this.2 z) e
  ·exact z
 ·intro e z;have:=this.1 z;omega
theorem NatIs.zero:NatIs [] 0:=⟨Dig.nil, .inl rfl,rfl⟩
theorem NatIs.len {x:List Int}{X k:Nat}(h:NatIs x X)(hk:X<c8 ^ k):x.length≤k:=by
 by_cases hn:x=[]
 ·rw [hn];exact Nat.zero_le _
 ·have:=zh3 h.dig h.trm hn;rw [h.eq] at this;have h2:=Nat.lt_of_le_of_lt this hk;have:=(Nat.pow_lt_pow_iff_right (show 1<c8 by rw [iN];decide)).1 h2;omega
theorem zjc {fuel:Nat}{l:List Int}(hf:l.length+1≤fuel)(hd:Dig c8 l):∃r,j5 fuel l=some r∧NatIs r (val c8 l):=by
 obtain ⟨r,h1,h2,h3,h4,h5⟩:=zlN c8 l.length fuel l rfl hf;exact ⟨r,h1,h4 hd,h3,h2⟩
theorem zg8:c8=256 ^ 4:=by rw [iN]
theorem u8w {x:Int}(h:0≤x∧x<256):IntKind.u8.wrap x=x:=by
 refine q29 ?_;simp;omega
theorem zk7 {a d s:Nat}(hs:s≤3)(ha:a<256 ^ s)(hd:d<256):orK .u32 (a:Int) (shlK .u32 (d:Int) ((8*s:Nat):Int))=((a+d*256 ^ s:Nat):Int):=by
 have e1:shlK .u32 (d:Int) ((8*s:Nat):Int)=((d*256 ^ s:Nat):Int):=by
  unfold shlK;rw [show IntKind.u32.bits=32 from rfl,Int.toNat_natCast,Nat.min_eq_left a7];rw [show (2:Int) ^ (8*s)=((256 ^ s:Nat):Int) by rw [Int.pow_mul,Int.natCast_pow];rfl];rw [←Int.natCast_mul,zed];refine ⟨by omega,?_⟩;have h1:d*256 ^ s≤255*256 ^ 3:=Nat.mul_le_mul a7 (Nat.pow_le_pow_right a7 hs);omega
 have h2:256 ^ s≤256 ^ 3:=Nat.pow_le_pow_right a7 hs;have h1:d*256 ^ s≤255*256 ^ 3:=Nat.mul_le_mul a7 h2;rw [e1,zlv a7 a7,Int.toNat_natCast,Int.toNat_natCast];have h3:=zhD (a:=a) (d:=d) (s:=8*s) (by rw [Nat.pow_mul];exact ha);rw [Nat.pow_mul] at h3;rw [h3]
theorem zfW {fuel:Nat}{D:List Int}(hl:D.length≤1000000)(hf:D.length+4≤fuel)(hd:Dig 256 D):∃r,zbL fuel D=some r∧NatIs r (val 256 D.reverse):=by
 (have hw:wI ((D.length:Int)+3)=((D.length+3:Nat):Int):=by rw [kB a7];omega);unfold zbL;rw [hw,dJ a7,dJ a7,dJ (by show _*_≤_;omega)];simp only [dF]; (have hL:(((D.length+3:Nat):Int) / 4).toNat=(D.length+3) / 4:=by omega);rw [hL];generalize hn:D.length=n at *;have hr:Dig 256 D.reverse:=hd.rev; (have hrl:D.reverse.length=n:=by rw [List.length_reverse,hn]);refine mc (n:=n) (fun i (l:List Int)=>l.length=(n+3) / 4∧Dig c8 l∧val c8 l=val 256 (D.reverse.take i)∧(nth l (i / 4)).toNat<256 ^ (i % 4)∧∀k,i / 4<k→nth l k=0) (fun x=>∃r,x=some r∧NatIs r (val 256 D.reverse)) ?_ (fun l hI=>?_) (fun i l next hi hI hnx=>?_)
 ·refine ⟨by simp,gQ iB _,by rw [zjw];simp [val],?_,fun k _=>?_⟩
  ·have:nth (List.replicate ((n+3) / 4) (0:Int)) (0 / 4)=0:=by
    by_cases h:0 / 4<(n+3) / 4
    ·rw [eZ (by rw [List.length_replicate];exact h),List.getElem_replicate]
    ·exact zfp cN
   rw [this];exact Nat.pow_pos a7
  ·by_cases h:k<(n+3) / 4
   ·rw [eZ (by rw [List.length_replicate];exact h),List.getElem_replicate]
   ·exact zfp cN
 ·obtain ⟨i1,i2,i3, -, -⟩:=hI;obtain ⟨r,h1,h2⟩:=zjc (fuel:=fuel) (l:=l) a7 i2;rw [h1];rw [←hrl,List.take_length] at i3;rw [i3] at h2;exact ⟨r,rfl,h2⟩
 ·obtain ⟨i1,i2,i3,i4,i5⟩:=hI;have hx:=hd.nth (i:=n - 1 - i) a7; (have hw2:wI (8* ((i:Int) % 4))=((8* (i % 4):Nat):Int):=by rw [kB a7];omega);rw [dJ a7,dJ a7,dJ a7,hw2,dJ a7];rw [show ((i:Int) / 4).toNat=i / 4 by omega,show (((n:Int) - 1) - (i:Int)).toNat=n - 1 - i by omega]; (have e32:IntKind.u32.wrap (nth D (n - 1 - i))=((nth D (n - 1 - i)).toNat:Int):=by rw [zed _ a7];omega);have hl0:=i2.nth (i:=i / 4) a7
  have eor:orK .u32 (nth l (i / 4)) (shlK .u32 (IntKind.u32.wrap (nth D (n - 1 - i))) ((8* (i % 4):Nat):Int))=(((nth l (i / 4)).toNat+(nth D (n - 1 - i)).toNat*256 ^ (i % 4):Nat):Int):=by
   rw [e32];have:=zk7 (a:=(nth l (i / 4)).toNat) (d:=(nth D (n - 1 - i)).toNat) (s:=i % 4) a7 i4 a7;rw [Int.toNat_of_nonneg hl0.1] at this;exact this
  rw [eor];generalize hd':(nth D (n - 1 - i)).toNat=d at *;generalize ha:(nth l (i / 4)).toNat=a at *; (have hd256:d<256:=by omega);have hp3:256 ^ (i % 4)≤256 ^ 3:=Nat.pow_le_pow_right a7 a7
  have hp:d*256 ^ (i % 4)+256 ^ (i % 4)≤256 ^ (i % 4+1):=by
   have:=Nat.mul_le_mul_right (256 ^ (i % 4)) (show d+1≤256 by omega);rw [Nat.add_mul,Nat.one_mul] at this;rw [Nat.pow_succ];omega
  (have hp4:256 ^ (i % 4+1)≤c8:=by rw [zg8];exact Nat.pow_le_pow_right a7 a7);refine hnx _ ⟨by rw [List.length_set];exact i1,i2.set a7,?_,?_,fun k hk=>?_⟩
  ·have h1:=zlp (B:=c8) (l:=l) (i:=i / 4) (x:=((a+d*256 ^ (i % 4):Nat):Int)) a7;rw [ha,Int.toNat_natCast,Nat.mul_add,i3] at h1;rw [jc a7,zgg a7,show D.length - 1 - i=n - 1 - i by omega,hd']
   have h2:c8 ^ (i / 4) * (d*256 ^ (i % 4))=256 ^ i*d:=by
    rw [zg8,←Nat.pow_mul,Nat.mul_comm d,←Nat.mul_assoc,←Nat.pow_add,Nat.div_add_mod]
   omega
  ·by_cases h4:i % 4=3
   ·rw [show (i+1) / 4=i / 4+1 by omega,zeB a7,i5 _ a7,show (i+1) % 4=0 by omega];decide
   ·rw [show (i+1) / 4=i / 4 by omega,kS a7,show (i+1) % 4=i % 4+1 by omega,Int.toNat_natCast];omega
  ·rw [zeB a7];exact i5 k a7
theorem zi5 {fuel:Nat}{x:List Int}{X d:Nat}(hl:x.length≤1000000)(hf:x.length+1≤fuel)(hx:NatIs x X)(hd:0<d)(hd2:d<c8):∃q,zcE fuel x (d:Int)=some (q,((X % d:Nat):Int))∧NatIs q (X / d):=by
 have hB:=iN;unfold zcE;rw [dJ (by show _*_≤_;omega)];simp only [dF]; (have ed:(BitVec.ofInt 64 (d:Int)).toNat=d:=by rw [ofI a7];omega)
 have hne:¬BitVec.ofInt 64 (d:Int)=0#64:=fun e=>by
  have:=congrArg BitVec.toNat e;rw [ed,show (0#64).toNat=0 from rfl] at this;omega
 refine zhC (n:=x.length) (fun m (s:BitVec 64×List Int)=>s.1.toNat<d∧s.2.length=x.length∧Dig c8 s.2∧val c8 (x.drop m)=val c8 (s.2.drop m) *d+s.1.toNat) (fun o=>∃q,o=some (q,((X % d:Nat):Int))∧NatIs q (X / d)) ?_ (fun s hI=>?_) (fun i s next hi hI hnx=>?_)
 ·refine ⟨by simpa using hd,by simp,gQ iB _,?_⟩;rw [List.drop_eq_nil_of_le (Nat.le_refl _),List.drop_eq_nil_of_le b6];simp [val]
 ·obtain ⟨i1,i2,i3,i4⟩:=hI;rw [List.drop_zero,List.drop_zero,hx.eq,Nat.mul_comm] at i4;obtain ⟨r,h1,h2⟩:=zjc (fuel:=fuel) (l:=s.2) a7 i3; (have e1:X / d=val c8 s.2:=by rw [i4,Nat.mul_add_div hd,Nat.div_eq_of_lt i1,Nat.add_zero]); (have e2:X % d=s.1.toNat:=by rw [i4,Nat.mul_add_mod,Nat.mod_eq_of_lt i1]);rw [h1,e1,e2];refine ⟨r,?_,h2⟩;refine gZ ?_;rw [zed _ a7]
 ·obtain ⟨i1,i2,i3,i4⟩:=hI;rw [dJ hne,dJ a7,dJ hne];have hxi:=hx.dig.nth hi
  have ej:((s.1 <<< 32) ||| (BitVec.ofInt 64 (nth x i))).toNat=s.1.toNat*4294967296+(nth x i).toNat:=by
   rw [zjh a7 (by rw [kL hxi];omega),kL hxi]
  generalize hT:s.1.toNat*4294967296+(nth x i).toNat=T at *; (have e1:(((s.1 <<< 32) ||| (BitVec.ofInt 64 (nth x i))) % (BitVec.ofInt 64 (d:Int))).toNat=T % d:=by rw [BitVec.toNat_umod,ej,ed]); (have e2:(((s.1 <<< 32) ||| (BitVec.ofInt 64 (nth x i))) / (BitVec.ofInt 64 (d:Int))).toNat=T / d:=by rw [BitVec.toNat_udiv,ej,ed])
  have hq:T / d<c8:=by
   rw [Nat.div_lt_iff_lt_mul hd,hB];have:=Nat.mul_le_mul_right 4294967296 (show s.1.toNat+1≤d by omega);rw [Nat.mul_comm d] at this;omega
  have hdm:=Nat.div_add_mod T d;refine hnx _ ⟨by dsimp only;rw [e1];exact Nat.mod_lt _ hd,by dsimp only;rw [List.length_set];exact i2,by dsimp only;rw [e2,zed _ a7];exact i3.set a7,?_⟩;dsimp only;rw [e1,e2,zed _ a7,zdP hi,zdP (l:=s.2.set i _) b9,kS a7,Int.toNat_natCast,i4,List.drop_set_of_lt a7];rw [Nat.add_mul,Nat.mul_add,Nat.mul_assoc,Nat.mul_comm (T / d) d,hB];omega
theorem zki:∀i:Fin 256,i.val≠0→0≤Lib.len8 (i.val:Int)∧1≤(Lib.len8 (i.val:Int)).toNat∧(Lib.len8 (i.val:Int)).toNat≤8∧2 ^ ((Lib.len8 (i.val:Int)).toNat - 1)≤i.val∧i.val<2 ^ (Lib.len8 (i.val:Int)).toNat:=by decide +kernel
theorem zlr {i:Nat}(h0:0<i)(h:i<256):∃s:Nat,1≤s∧s≤8∧Lib.len8 (i:Int)=(s:Int)∧2 ^ (s - 1)≤i∧i<2 ^ s:=by
 have h1:=zki ⟨i,h⟩ (by show i≠0;omega);refine ⟨(Lib.len8 (i:Int)).toNat,h1.2.1,h1.2.2.1,(Int.toNat_of_nonneg h1.1).symm,h1.2.2.2.1,h1.2.2.2.2⟩
theorem zkr {a b:Nat}(hb:b≤32):shrK .u32 (a:Int) (b:Int)=((a / 2 ^ b:Nat):Int):=by
 unfold shrK;rw [show IntKind.u32.bits=32 from rfl,Int.toNat_natCast,Nat.min_eq_left hb,Int.fdiv_eq_ediv_of_nonneg _ (by exact Int.le_of_lt (Int.pow_pos a7))];rw [Int.natCast_ediv,Int.natCast_pow];rfl
theorem zlk {x y t s:Nat}(hy:y=x / 2 ^ t)(h1:2 ^ (s - 1)≤y)(h2:y<2 ^ s)(hs:1≤s):2 ^ (s+t - 1)≤x∧x<2 ^ (s+t):=by
 subst hy;constructor
 ·rw [Nat.le_div_iff_mul_le (Nat.pow_pos a7),←Nat.pow_add] at h1;rw [show s+t - 1=s - 1+t by omega];exact h1
 ·rw [Nat.div_lt_iff_lt_mul (Nat.pow_pos a7),←Nat.pow_add] at h2;exact h2
theorem zjM {x:Nat}(h0:0<x)(h:x<4294967296):∃s:Nat,1≤s∧s≤32∧zce (x:Int)=some (s:Int)∧2 ^ (s - 1)≤x∧x<2 ^ s:=by
 unfold zce;simp only [dF]
 have fin:∀(y t:Nat),y=x / 2 ^ t→0<y→y<256→t≤24→∃s:Nat,1≤s∧s≤32∧(dj (0≤(IntKind.u8.wrap (y:Int))∧(IntKind.u8.wrap (y:Int))≤(255:Int)) <| some (wI ((t:Int)+(wI (Lib.len8 (IntKind.u8.wrap (y:Int)))))))=some (s:Int)∧2 ^ (s - 1)≤x∧x<2 ^ s:=fun y t hy h1 h2 h3=>by
  obtain ⟨s,s1,s2,s3,s4,s5⟩:=zlr h1 h2;obtain ⟨b1,b2⟩:=zlk hy s4 s5 s1;rw [u8w a7,dJ a7,s3,kB (x:=(s:Int)) a7,kB a7];exact ⟨s+t,by omega,by omega,by rw [Int.natCast_add,Int.add_comm],b1,b2⟩
 have e16:shrK .u32 (x:Int) (((16#64).toNat:Nat):Int)=((x / 2 ^ 16:Nat):Int):=zkr a8;have e8:∀a:Nat,shrK .u32 (a:Int) (((8#64).toNat:Nat):Int)=((a / 2 ^ 8:Nat):Int):=fun a=>zkr a8;by_cases hx:65536≤x
 ·rw [decide_eq_true (show (65536:Int)≤(x:Int) by omega),cond_true]; (try dsimp only);rw [e16];by_cases hy:256≤x / 2 ^ 16
  ·rw [decide_eq_true (show (256:Int)≤((x / 2 ^ 16:Nat):Int) by omega),cond_true];rw [e8];exact fin _ 24 (by rw [Nat.div_div_eq_div_mul,←Nat.pow_add]) a7 a7 a7
  ·rw [decide_eq_false (show ¬(256:Int)≤((x / 2 ^ 16:Nat):Int) by omega),cond_false];exact fin _ 16 rfl a7 a7 a7
 ·rw [decide_eq_false (show ¬(65536:Int)≤(x:Int) by omega),cond_false]; (try dsimp only);by_cases hy:256≤x
  ·rw [decide_eq_true (show (256:Int)≤(x:Int) by omega),cond_true];rw [e8];exact fin _ 8 rfl a7 a7 a7
  ·rw [decide_eq_false (show ¬(256:Int)≤(x:Int) by omega),cond_false];exact fin _ 0 b6 a7 a7 a7
theorem zlY {x:Nat}(h0:0<x)(h:x<4294967296):∃s:Nat,1≤s∧s≤32∧zbC (x:Int)=some ((32 - s:Nat):Int)∧2 ^ (s - 1)≤x∧x<2 ^ s:=by
 obtain ⟨s,h1,h2,h3,h4,h5⟩:=zjM h0 h;refine ⟨s,h1,h2,?_,h4,h5⟩;unfold zbC;rw [h3];refine gZ ?_;rw [kB a7];congr 1;omega
theorem zkn {s:Nat}(h:s≤32):2 ^ (32 - s) *2 ^ s=c8:=by
 rw [←Nat.pow_add,show 32 - s+s=32 by omega,iN]
theorem zlR {a:BitVec 64}{s:Nat}(ha:a.toNat<4294967296)(hs:s≤32):(a <<< s).toNat=a.toNat*2 ^ s:=by
 rw [BitVec.toNat_shiftLeft,Nat.shiftLeft_eq,Nat.mod_eq_of_lt];have h1:a.toNat*2 ^ s≤4294967295*2 ^ 32:=Nat.mul_le_mul a7 (Nat.pow_le_pow_right a7 hs);omega
theorem zif {x s:Nat}(hs:s≤32):x*2 ^ s % c8=(x % 2 ^ (32 - s)) *2 ^ s:=by
 rw [←zkn hs,Nat.mul_mod_mul_right]
theorem zgC {x:List Int}{s:Nat}(hl:x.length≤1000000)(hx:Dig c8 x)(hs:s<32):∃r,zb4 x (s:Int)=some r∧r.length=x.length+1∧Dig c8 r∧val c8 r=val c8 x*2 ^ s:=by
 have hB:=iN; (have hw:wI ((x.length:Int)+1)=((x.length+1:Nat):Int):=by rw [kB a7];omega);unfold zb4;rw [hw,dJ a7,Int.toNat_natCast,dJ (by show _*_≤_;omega)];simp only [dF];refine mc (n:=x.length) (fun i (l:List Int)=>l.length=x.length+1∧Dig c8 l∧val c8 (l.take (i+1))=val c8 (x.take i) *2 ^ s∧(nth l i).toNat<2 ^ s) (fun o=>∃r,o=some r∧r.length=x.length+1∧Dig c8 r∧val c8 r=val c8 x*2 ^ s) ?_ (fun l hI=>?_) (fun i l next hi hI hnx=>?_)
 ·refine ⟨by simp,gQ iB _,?_,?_⟩
  ·rw [List.take_replicate,zjw];simp [val]
  ·rw [eZ b6,List.getElem_replicate];exact Nat.pow_pos a7
 ·obtain ⟨i1,i2,i3,i4⟩:=hI;rw [←i1,List.take_length,List.take_length] at i3;exact ⟨l,rfl,i1,i2,i3⟩
 ·obtain ⟨i1,i2,i3,i4⟩:=hI;have hxi:=hx.nth hi;have hli:=i2.nth (i:=i) a7;have ex:(BitVec.ofInt 64 (nth x i)).toNat=(nth x i).toNat:=kL hxi; (have ew:((BitVec.ofInt 64 (nth x i)) <<< s).toNat=(nth x i).toNat*2 ^ s:=by rw [zlR a7 a7,ex]); (have ew2:(((BitVec.ofInt 64 (nth x i)) <<< s) >>> 32).toNat=(nth x i).toNat*2 ^ s / c8:=by rw [zh8,ew,hB])
  have eor:orK .u32 (nth l i) (IntKind.u32.wrap ((((BitVec.ofInt 64 (nth x i)) <<< s).toNat:Nat):Int))=(((nth l i).toNat+(nth x i).toNat*2 ^ s % c8:Nat):Int):=by
   have hlow:=zif (x:=(nth x i).toNat) (s:=s) a7;have hml:=Nat.mod_lt ((nth x i).toNat*2 ^ s) iB;rw [ew,jn,zlv a7 a7,Int.toNat_natCast,hlow,zhD i4]
  rw [dJ a7,dJ a7,dJ b9,Int.toNat_natCast,eor,ew2];have hml:=Nat.mod_lt ((nth x i).toNat*2 ^ s) iB;have hdm:=Nat.div_add_mod ((nth x i).toNat*2 ^ s) c8;have hlow:=zif (x:=(nth x i).toNat) (s:=s) a7
  have hsum:(nth l i).toNat+(nth x i).toNat*2 ^ s % c8<c8:=by
   have h1:=Nat.mod_lt (nth x i).toNat (show 0<2 ^ (32 - s) from Nat.pow_pos a7);have h2:=Nat.mul_le_mul_right (2 ^ s) (show (nth x i).toNat % 2 ^ (32 - s)+1≤2 ^ (32 - s) by omega);rw [zkn a7,Nat.add_mul,Nat.one_mul] at h2;omega
  have hhi:(nth x i).toNat*2 ^ s / c8<2 ^ s:=by
   rw [Nat.div_lt_iff_lt_mul iB,Nat.mul_comm];exact Nat.mul_lt_mul_of_pos_left a7 (Nat.pow_pos a7)
  have hs32:2 ^ s≤2147483648:=by
   have:=Nat.pow_le_pow_right (n:=2) a7 (show s≤31 by omega);omega
  generalize hwd:(nth x i).toNat*2 ^ s=wide at *;rw [jn,Nat.mod_eq_of_lt (show wide / c8<c8 by omega)];refine hnx _ ⟨by rw [List.length_set,List.length_set];exact i1,(i2.set a7).set a7,?_,?_⟩
  ·rw [jc (by rw [List.length_set,List.length_set];omega),kS b9,Int.toNat_natCast,zdL,jc b9,kS a7,Int.toNat_natCast,zdL,jc hi,Nat.add_mul,←i3,jc a7,Nat.mul_assoc,hwd]; (have e1:c8 ^ (i+1) * (wide / c8)=c8 ^ i* (c8* (wide / c8)):=by rw [Nat.pow_succ,Nat.mul_assoc]); (have e2:c8 ^ i*wide=c8 ^ i* (c8* (wide / c8))+c8 ^ i* (wide % c8):=by rw [←Nat.mul_add,hdm]);rw [e1,e2,Nat.mul_add];omega
  ·rw [kS b9,Int.toNat_natCast];exact hhi
theorem zhI {x:List Int}{s:Nat}(hl:x.length≤1000000)(hx:Dig c8 x)(hs:s<32):∃r,zb0 x (s:Int)=some r∧r.length=x.length∧Dig c8 r∧val c8 r=val c8 x / 2 ^ s:=by
 have hB:=iN;have hp:0<2 ^ s:=Nat.pow_pos a7;have hp2:2 ^ (32 - s) *2 ^ s=c8:=zkn a7;unfold zb0;rw [dJ (by show _*_≤_;omega)];simp only [dF];refine mc (n:=x.length) (fun i (l:List Int)=>l.length=x.length∧Dig c8 l∧2 ^ s*val c8 (l.take i)+(nth x 0).toNat % 2 ^ s=val c8 (x.take i)+c8 ^ i* ((nth x i).toNat % 2 ^ s)) (fun o=>∃r,o=some r∧r.length=x.length∧Dig c8 r∧val c8 r=val c8 x / 2 ^ s) ?_ (fun l hI=>?_) (fun i l next hi hI hnx=>?_)
 ·refine ⟨by simp,gQ iB _,by simp [val]⟩
 ·obtain ⟨i1,i2,i3⟩:=hI;rw [zfp (Nat.le_refl x.length),show l.take x.length=l by rw [←i1,List.take_length],List.take_length] at i3;refine ⟨l,rfl,i1,i2,?_⟩; (have e:val c8 x=2 ^ s*val c8 l+(nth x 0).toNat % 2 ^ s:=by simpa using i3.symm);rw [e,Nat.mul_add_div hp,Nat.div_eq_of_lt (Nat.mod_lt _ hp),Nat.add_zero]
 ·obtain ⟨i1,i2,i3⟩:=hI;have hxi:=hx.nth hi;have hx1:=zkH hx iB (i+1)
  have eh:shrK .u32 (nth x i) (s:Int)=(((nth x i).toNat / 2 ^ s:Nat):Int):=by
   have:=zkr (a:=(nth x i).toNat) (b:=s) a7;rw [Int.toNat_of_nonneg hxi.1] at this;exact this
  have hm1:=Nat.mod_lt (nth x (i+1)).toNat hp;have q1:(0:Int)≤(((nth x i).toNat / 2 ^ s:Nat):Int):=Int.natCast_nonneg _
  have hh:(nth x i).toNat / 2 ^ s<2 ^ (32 - s):=by
   rw [Nat.div_lt_iff_lt_mul hp,hp2];omega
  have hnew:(nth x i).toNat / 2 ^ s+(nth x (i+1)).toNat % 2 ^ s*2 ^ (32 - s)<c8:=by
   have h2:=Nat.mul_le_mul_right (2 ^ (32 - s)) (show (nth x (i+1)).toNat % 2 ^ s+1≤2 ^ s by omega);rw [Nat.mul_comm (2 ^ s),hp2,Nat.add_mul,Nat.one_mul] at h2;omega
  have hin:∀l':List Int,l'.length=x.length→Dig c8 l'→l'.take i=l.take i→nth l' i=(((nth x i).toNat / 2 ^ s+(nth x (i+1)).toNat % 2 ^ s*2 ^ (32 - s):Nat):Int)→l'.length=x.length∧Dig c8 l'∧2 ^ s*val c8 (l'.take (i+1))+(nth x 0).toNat % 2 ^ s=val c8 (x.take (i+1))+c8 ^ (i+1) * ((nth x (i+1)).toNat % 2 ^ s):=fun l' h1 h2 h3 h4=>by
   refine ⟨h1,h2,?_⟩;rw [jc a7,h3,h4,Int.toNat_natCast,jc hi];have hdm:=Nat.div_add_mod (nth x i).toNat (2 ^ s);generalize (nth x (i+1)).toNat % 2 ^ s=m1 at *;generalize hmi:(nth x i).toNat % 2 ^ s=mi at *;generalize (nth x i).toNat / 2 ^ s=h at*
   have e1:2 ^ s* (c8 ^ i* (h+m1*2 ^ (32 - s)))=c8 ^ i* (2 ^ s*h)+c8 ^ (i+1) *m1:=by
    (have e3:c8*m1=2 ^ s* (m1*2 ^ (32 - s)):=by rw [←hp2,Nat.mul_comm (2 ^ (32 - s)),Nat.mul_assoc,Nat.mul_comm m1]);rw [Nat.pow_succ,Nat.mul_assoc (c8 ^ i) c8 m1,e3,←Nat.mul_add,Nat.mul_left_comm (2 ^ s) (c8 ^ i),Nat.mul_add (2 ^ s) h]
   (have e2:c8 ^ i* (nth x i).toNat=c8 ^ i* (2 ^ s*h)+c8 ^ i*mi:=by rw [←Nat.mul_add,hdm]);rw [Nat.mul_add,e1,e2];omega
  rw [dJ a7,dJ a7,eh];by_cases h1:i+1<x.length
  ·(have hw:wI (32 - (s:Int))=((32 - s:Nat):Int):=by rw [kB a7];omega);rw [decide_eq_true a7,cond_true,dJ b9,hw,dJ a7,Int.toNat_natCast,kS a7];have ex:(BitVec.ofInt 64 (nth x (i+1))).toNat=(nth x (i+1)).toNat:=kL hx1; (have ew:((BitVec.ofInt 64 (nth x (i+1))) <<< (32 - s)).toNat=(nth x (i+1)).toNat*2 ^ (32 - s):=by rw [zlR a7 a7,ex]);have hlow:=zif (x:=(nth x (i+1)).toNat) (s:=32 - s) a7;rw [show 32 - (32 - s)=s by omega] at hlow; (have hp32:2 ^ (32 - s)≤c8:=by rw [←hp2];exact Nat.le_mul_of_pos_right _ hp)
   have eor:orK .u32 (((nth x i).toNat / 2 ^ s:Nat):Int) (IntKind.u32.wrap ((((BitVec.ofInt 64 (nth x (i+1))) <<< (32 - s)).toNat:Nat):Int))=(((nth x i).toNat / 2 ^ s+(nth x (i+1)).toNat % 2 ^ s*2 ^ (32 - s):Nat):Int):=by
    rw [ew,jn,hlow,zlv a7 a7,Int.toNat_natCast,Int.toNat_natCast,zhD hh]
   rw [eor];exact hnx _ (hin _ (by rw [List.length_set,List.length_set];exact i1) ((i2.set a7).set a7) (by rw [zdL,zdL]) (kS b9))
  ·rw [decide_eq_false a7,cond_false];have hz:nth x (i+1)=0:=zfp a7;exact hnx _ (hin _ (by rw [List.length_set];exact i1) (i2.set a7) zdL (by rw [kS a7,hz];simp))
theorem ziC {x y:List Int}{X Y:Nat}(hx:NatIs x X)(hy:NatIs y Y):zby x y=if X<Y then -1 else if Y<X then 1 else 0:=by
 have:=zkM hx.dig hy.dig hx.trm hy.trm;rw [hx.eq,hy.eq] at this;exact this
theorem zlw {fuel:Nat}{x y:List Int}{X Y:Nat}(hlx:x.length≤1000)(hly:y.length≤1000)(hf:2000≤fuel)(hx:NatIs x X)(hy:NatIs y Y)(hge:Y≤X)(hn2:2≤y.length){post:Option (List Int×List Int)→Prop}(h:∀q r,NatIs q (X / Y)→NatIs r (X % Y)→post (some (q,r))){sh:Nat}(hsh:sh<32)(v0 u0:List Int)(hv0:v0.length=y.length+1)(hu0:u0.length=x.length+1)(dv0:Dig c8 v0)(du0:Dig c8 u0)(ev0:val c8 v0=Y*2 ^ sh)(eu0:val c8 u0=X*2 ^ sh)(htop:2147483648≤nth v0 (y.length - 1))(hz:nth v0 y.length=0):post (gz (fun (j_9:Nat) (next8:(List Int×List Int)→Option (List Int×List Int)) (s8:List Int×List Int)=>
     dj (0≤wI ((wI ((j_9:Int)+(y.length:Int)))+1)∧wI ((wI ((j_9:Int)+(y.length:Int)))+1)≤(s8.1.length:Int)) <|
     dj (0≤(j_9:Int)∧(j_9:Int)≤(wI ((wI ((j_9:Int)+(y.length:Int)))+1):Int)) <|
     dj (j_9<((wI ((wI ((j_9:Int)+(y.length:Int)))+1)).toNat)) <|
     (zbA fuel ((s8.1.drop j_9).take (((wI ((wI ((j_9:Int)+(y.length:Int)))+1)).toNat) - j_9)) (v0.take y.length)).bind fun r73=>
     dj (0≤(j_9:Int)∧(j_9:Int)<(s8.2.length:Int)) <|
     next8 ((s8.1.take j_9++r73.2++s8.1.drop (j_9+(((wI ((wI ((j_9:Int)+(y.length:Int)))+1)).toNat) - j_9))),(s8.2.set j_9 r73.1)))
    (fun (s8:List Int×List Int)=>
    (j5 fuel s8.2).bind fun r76=>
    dj (0≤(y.length:Int)∧(y.length:Int)≤(s8.1.length:Int)) <|
    (zb0 (s8.1.take y.length) (sh:Int)).bind fun r81=>
    (j5 fuel r81).bind fun r82=>
    some (r76,r82)) ((List.replicate ((((x.length:Int) - (y.length:Int))+1).toNat) (0:Int)).length) (u0,(List.replicate ((((x.length:Int) - (y.length:Int))+1).toNat) (0:Int)))):=by
 have hB:=iN
 have hnx:y.length≤x.length:=Nat.le_of_not_lt fun hlt=>by
  have:=ze5 hx.dig hy.dig hy.trm hlt;rw [hx.eq,hy.eq] at this;omega
 have hp:0<2 ^ sh:=Nat.pow_pos a7
 have hYge:c8 ^ (y.length - 1)≤Y:=by
  have:=zh3 hy.dig hy.trm (fun e=>by rw [e] at hn2;simp at hn2);rw [hy.eq] at this;exact this
 have hY0:0<Y:=Nat.lt_of_lt_of_le (Nat.pow_pos iB) hYge
 have hXlt:X<c8 ^ x.length:=by
  have:=lG hx.dig;rw [hx.eq] at this;exact this
 generalize hn:y.length=n at *;rw [show (((x.length:Int) - (n:Int))+1).toNat=x.length - n+1 by omega,List.length_replicate]
 have hv:val c8 (v0.take n)=Y*2 ^ sh:=by
  have:=jc (B:=c8) (l:=v0) (i:=n) a7;rw [←hv0,List.take_length,ev0,hz] at this;simpa using this.symm
 (have hvl:(v0.take n).length=n:=by rw [List.length_take];omega);generalize hV:Y*2 ^ sh=V at *; (have hV0:0<V:=by rw [←hV];exact Nat.mul_pos hY0 hp)
 have hstart:val c8 (u0.drop (x.length - n+1))<V:=by
  have h1:=ze3 (B:=c8) (l:=u0) (x.length - n+1) a7
  have h2:c8 ^ (x.length - n+1) *val c8 (u0.drop (x.length - n+1))<c8 ^ (x.length - n+1) *V:=by
   refine Nat.lt_of_le_of_lt (show _≤X*2 ^ sh by omega) ?_;refine Nat.lt_of_lt_of_le (Nat.mul_lt_mul_of_pos_right hXlt hp) ?_;rw [←hV,←Nat.mul_assoc];refine Nat.mul_le_mul_right _ ?_;refine Nat.le_trans ?_ (Nat.mul_le_mul_left _ hYge);rw [←Nat.pow_add,show x.length - n+1+(n - 1)=x.length by omega];exact Nat.le_refl _
  exact Nat.lt_of_mul_lt_mul_left h2
 refine zhC (n:=x.length - n+1) (fun m (s:List Int×List Int)=>s.1.length=x.length+1∧Dig c8 s.1∧s.2.length=x.length - n+1∧Dig c8 s.2∧(∀k,k<m→nth s.1 k=nth u0 k)∧(∀k,m+n≤k→nth s.1 k=0)∧val c8 (s.1.drop m)<V∧val c8 (u0.drop m)=val c8 (s.2.drop m) *V+val c8 (s.1.drop m)) post ?_ (fun s hI=>?_) (fun j s next hj hI hnx2=>?_)
 ·refine ⟨hu0,du0,by simp,gQ iB _,fun _ _=>rfl,fun k hk=>zfp b5,hstart,?_⟩;have e0:(List.replicate (x.length - n+1) (0:Int)).drop (x.length - n+1)=[]:=List.drop_eq_nil_of_le b6;dsimp only;rw [e0];simp [val]
 ·obtain ⟨i1,i2,i3,i4,i5,i6,i7,i8⟩:=hI;rw [List.drop_zero] at i7;rw [List.drop_zero,List.drop_zero,List.drop_zero,eu0] at i8;obtain ⟨rq,q1,q2⟩:=zjc (fuel:=fuel) (l:=s.2) a7 i4
  have eu:val c8 (s.1.take n)=val c8 s.1:=by
   have h1:=ze3 (B:=c8) (l:=s.1) n a7;rw [zhU iB (i2.drop n) (fun k=>by rw [zfD];exact i6 _ a7),Nat.mul_zero,Nat.add_zero] at h1;exact h1.symm
  obtain ⟨r1,e1,e2,e3,e4⟩:=zhI (x:=s.1.take n) (s:=sh) cP (i2.take n) hsh;obtain ⟨rr,t1,t2⟩:=zjc (fuel:=fuel) (l:=r1) (by rw [e2,List.length_take];omega) e3;rw [q1];refine gZ ?_;rw [dJ a7,e1];refine gZ ?_;rw [t1];refine gZ ?_;rw [e4,eu] at t2;generalize val c8 s.2=q at *;generalize val c8 s.1=u at*
  rw [←hV] at i8 i7; (have hR:u / 2 ^ sh<Y:=by rw [Nat.div_lt_iff_lt_mul hp];exact i7)
  have hu:u=2 ^ sh* (u / 2 ^ sh):=by
   have h1:=Nat.div_add_mod u (2 ^ sh)
   have h2:u % 2 ^ sh=0:=by
    (have h3:(q* (Y*2 ^ sh)+u) % 2 ^ sh=0:=by rw [←i8];exact Nat.mul_mod_left _ _);rw [←Nat.mul_assoc,Nat.add_mod,Nat.mul_mod_left,Nat.zero_add,Nat.mod_mod] at h3;exact h3
   omega
  generalize u / 2 ^ sh=R at*
  have hX:X=Y*q+R:=by
   refine Nat.eq_of_mul_eq_mul_right hp ?_;rw [i8,hu,Nat.add_mul,Nat.mul_comm q,Nat.mul_comm (2 ^ sh) R,Nat.mul_assoc Y,Nat.mul_assoc Y,Nat.mul_comm (2 ^ sh) q]
  (have eq:X / Y=q:=by rw [hX,Nat.mul_add_div hY0,Nat.div_eq_of_lt hR,Nat.add_zero]); (have er:X % Y=R:=by rw [hX,Nat.mul_add_mod,Nat.mod_eq_of_lt hR]);exact h _ _ (by rw [eq];exact q2) (by rw [er];exact t2)
 ·obtain ⟨i1,i2,i3,i4,i5,i6,i7,i8⟩:=hI
  have hw:wI ((wI ((j:Int)+(n:Int)))+1)=((j+n+1:Nat):Int):=by
   rw [kB (x:=(j:Int)+(n:Int)) a7,kB a7];omega
  rw [hw,dJ a7,dJ a7,Int.toNat_natCast,dJ a7,show j+n+1 - j=n+1 by omega]; (have hwl:((s.1.drop j).take (n+1)).length=n+1:=by rw [List.length_take,List.length_drop];omega);have hrest:val c8 ((s.1.drop j).drop (n+1))=0:=zhU iB ((i2.drop j).drop _) (fun k=>by rw [zfD,zfD];exact i6 _ a7)
  have ew:val c8 ((s.1.drop j).take (n+1))=(nth u0 j).toNat+c8*val c8 (s.1.drop (j+1)):=by
   have h1:=ze3 (B:=c8) (l:=s.1.drop j) (n+1) (by rw [List.length_drop];omega);rw [hrest,Nat.mul_zero,Nat.add_zero,zdP a7,i5 j a7] at h1;exact h1.symm
  have hu0j:=du0.nth (i:=j) a7
  have hq:QIn ((s.1.drop j).take (n+1)) (v0.take n) n:=by
   refine ⟨by omega,hvl,hwl,(i2.drop j).take _,dv0.take n,by rw [ziB a7];exact htop,?_⟩;rw [ew,hv];have:=Nat.mul_le_mul_left c8 (show val c8 (s.1.drop (j+1))+1≤V by omega);rw [Nat.mul_add,Nat.mul_one] at this;omega
  obtain ⟨u',e1,e2,e3,e4,e5⟩:=zf9 (fuel:=fuel) a7 hq;rw [e1];refine gZ ?_;rw [dJ a7];rw [hv] at e4 ⊢
  have eu':val c8 u'=val c8 ((s.1.drop j).take (n+1)) % V:=by
   have h1:=jc (B:=c8) (l:=u') (i:=n) a7;rw [←e2,List.take_length,e5,e4] at h1;simpa using h1
  generalize hWv:val c8 ((s.1.drop j).take (n+1))=Wv at*
  have hWlt:Wv / V<c8:=by
   have:=hq.lt;rw [hv,hWv] at this;rw [Nat.div_lt_iff_lt_mul hV0];exact this
  have hdm:=Nat.div_add_mod Wv V; (have htl:(s.1.take j).length=j:=by rw [List.length_take];omega)
  have hdrop:(s.1.take j++u'++s.1.drop (j+(n+1))).drop j=u'++s.1.drop (j+(n+1)):=by
   rw [List.append_assoc,List.drop_append_of_le_length a7,List.drop_eq_nil_of_le a7,List.nil_append]
  have hvd:val c8 ((s.1.take j++u'++s.1.drop (j+(n+1))).drop j)=Wv % V:=by
   rw [List.drop_drop] at hrest;rw [hdrop,zjf,hrest,Nat.mul_zero,Nat.add_zero,eu']
  refine hnx2 _ ⟨by dsimp only;rw [List.length_append,List.length_append,htl,e2,List.length_drop];omega,((i2.take j).app e3).app (i2.drop _),by dsimp only;rw [List.length_set];exact i3,by dsimp only;exact i4.set ⟨Int.natCast_nonneg _,Int.ofNat_lt.2 hWlt⟩,fun k hk=>?_,fun k hk=>?_,by dsimp only;rw [hvd];exact Nat.mod_lt _ hV0,?_⟩
  ·dsimp only;rw [List.append_assoc,ziv a7,ziB hk];exact i5 k a7
  ·dsimp only;rw [List.append_assoc,ziK a7,htl];by_cases hkn:k=j+n
   ·rw [ziv a7,show k - j=n by omega];exact e5
   ·rw [ziK a7,zfD,e2];exact i6 _ a7
  ·dsimp only;rw [hvd,zdP (l:=s.2.set j _) b9,kS a7,Int.toNat_natCast,List.drop_set_of_lt a7,zdP (l:=u0) a7,i8]; (have h1:c8* (val c8 (s.2.drop (j+1)) *V+val c8 (s.1.drop (j+1)))=c8*val c8 (s.2.drop (j+1)) *V+c8*val c8 (s.1.drop (j+1)):=by rw [Nat.mul_add,Nat.mul_assoc]);have h2:Wv / V*V=V* (Wv / V):=Nat.mul_comm _ _;rw [h1,Nat.add_mul,h2];omega
theorem ziA {fuel:Nat}{x y:List Int}{X Y:Nat}(hlx:x.length≤1000)(hly:y.length≤1000)(hf:2000≤fuel)(hx:NatIs x X)(hy:NatIs y Y)(hY:0<Y):∃q r,zcz fuel x y=some (q,r)∧NatIs q (X / Y)∧NatIs r (X % Y):=by
 have hB:=iN;unfold zcz;rw [ziC hx hy];by_cases hlt:X<Y
 ·rw [if_pos hlt,decide_eq_true a8,cond_true];exact ⟨[],x,rfl,by rw [Nat.div_eq_of_lt hlt];exact .zero,by rw [Nat.mod_eq_of_lt hlt];exact hx⟩
 ·rw [if_neg hlt,decide_eq_false (by split <;> decide),cond_false];have hp:0<y.length:=hy.pos.2 hY;by_cases h1:y.length=1
  ·rw [decide_eq_true a7,cond_true];obtain ⟨d,rfl⟩:∃d,y=[d]:=List.length_eq_one_iff.1 h1;have hd:=hy.dig.head
   have ed:Y=d.toNat:=by
    have:=hy.eq;simpa [val] using this.symm
   obtain ⟨q,e1,e2⟩:=zi5 (fuel:=fuel) (d:=d.toNat) a7 a7 hx a7 a7;rw [Int.toNat_of_nonneg hd.1] at e1;rw [zfK,e1];refine gZ ?_;have hml:=Nat.mod_lt X hY;rw [←ed] at e2 ⊢;obtain ⟨r,t1,t2⟩:=zjc (fuel:=fuel) (l:=[((X % Y:Nat):Int)]) cM (Dig.nil.cons a7);rw [t1]; (have e9:val c8 [((X % Y:Nat):Int)]=X % Y:=by rw [val,val,Nat.mul_zero,Nat.add_zero,Int.toNat_natCast]);rw [e9] at t2;exact ⟨q,r,rfl,e2,t2⟩
  ·rw [decide_eq_false a7,cond_false,dJ a7,show ((y.length:Int) - 1).toNat=y.length - 1 by omega];have htn:nth y (y.length - 1)≠0:=hy.trm.elim (fun e=>by rw [e] at hp;cases hp) id;have htd:=hy.dig.nth (i:=y.length - 1) a7;obtain ⟨s,s1,s2,s3,s4,s5⟩:=zlY (x:=(nth y (y.length - 1)).toNat) a7 a7;rw [Int.toNat_of_nonneg htd.1] at s3;rw [s3];refine gZ ?_;obtain ⟨v0,v1,v2,v3,v4⟩:=zgC (x:=y) (s:=32 - s) a7 hy.dig a7;obtain ⟨u0,u1,u2,u3,u4⟩:=zgC (x:=x) (s:=32 - s) a7 hx.dig a7;rw [v1];refine gZ ?_;rw [dJ a7,u1];refine gZ ?_
   have hnx:y.length≤x.length:=Nat.le_of_not_lt fun hlt=>by
    have:=ze5 hx.dig hy.dig hy.trm hlt;rw [hx.eq,hy.eq] at this;omega
   rw [dJ a7,dJ (by show _*_≤_;omega)];simp only [dF];rw [hy.eq] at v4;rw [hx.eq] at u4
   have eY:Y=val c8 (y.take (y.length - 1))+c8 ^ (y.length - 1) * (nth y (y.length - 1)).toNat:=by
    have:=jc (B:=c8) (l:=y) (i:=y.length - 1) a7;rw [show y.length - 1+1=y.length by omega,List.take_length,hy.eq] at this;exact this
   have htk:=lG (hy.dig.take (y.length - 1));rw [List.length_take,Nat.min_eq_left a7] at htk; (have hps:2 ^ s*2 ^ (32 - s)=c8:=by rw [Nat.mul_comm];exact zkn s2); (have hps1:2 ^ (s - 1) *2 ^ (32 - s)=2147483648:=by rw [←Nat.pow_add,show s - 1+(32 - s)=31 by omega])
   have hlo:c8 ^ (y.length - 1) *2147483648≤Y*2 ^ (32 - s):=by
    rw [←hps1,←Nat.mul_assoc];refine Nat.mul_le_mul_right _ ?_;rw [eY];exact Nat.le_trans (Nat.mul_le_mul_left _ s4) (Nat.le_add_left _ _)
   have hhi:Y*2 ^ (32 - s)<c8 ^ y.length:=by
    have h5:Y<c8 ^ (y.length - 1) *2 ^ s:=by
     have:=Nat.mul_le_mul_left (c8 ^ (y.length - 1)) (show (nth y (y.length - 1)).toNat+1≤2 ^ s by omega);rw [Nat.mul_add,Nat.mul_one] at this;rw [eY];omega
    have h6:=Nat.mul_lt_mul_of_pos_right h5 (show 0<2 ^ (32 - s) from Nat.pow_pos a7);rw [Nat.mul_assoc,hps,←Nat.pow_succ,show (y.length - 1).succ=y.length by omega] at h6;exact h6
   have hz:nth v0 y.length=0:=by
    have h7:=zfM iB v3 y.length;rw [v4,Nat.div_eq_of_lt hhi,Nat.zero_mod] at h7;have:=v3.nth (i:=y.length) a7;omega
   have htop:2147483648≤nth v0 (y.length - 1):=by
    have h7:=zfM iB v3 (y.length - 1)
    have h8:val c8 v0 / c8 ^ (y.length - 1)<c8:=by
     rw [Nat.div_lt_iff_lt_mul (Nat.pow_pos iB),v4,Nat.mul_comm c8,←Nat.pow_succ,show (y.length - 1).succ=y.length by omega];exact hhi
    rw [Nat.mod_eq_of_lt h8,v4] at h7
    have h9:2147483648≤Y*2 ^ (32 - s) / c8 ^ (y.length - 1):=by
     rw [Nat.le_div_iff_mul_le (Nat.pow_pos iB),Nat.mul_comm];exact hlo
    have:=v3.nth (i:=y.length - 1) a7;omega
   exact zlw (post:=fun o=>∃q r,o=some (q,r)∧NatIs q (X / Y)∧NatIs r (X % Y)) hlx hly hf hx hy a7 a7 (fun q r h1 h2=>⟨q,r,rfl,h1,h2⟩) (sh:=32 - s) a7 v0 u0 v2 u2 v3 u3 v4 u4 htop hz
theorem zhc (k:Nat):c8 ^ k=2 ^ (32*k):=by rw [iN,Nat.pow_mul]
theorem mD (k:Nat):256 ^ k=2 ^ (8*k):=by rw [Nat.pow_mul]
@[irreducible] def gr:Nat:=256 ^ 64
theorem zjo:gr=256 ^ 64:=by unfold gr;rfl
theorem zfR {k:Nat}(h:k=512):gr=2 ^ k:=by
 (have e:8*64=k:=by omega);rw [zjo,mD,e]
theorem zlc {k:Nat}(h:512≤k):gr≤2 ^ k:=by
 obtain ⟨e,he⟩:∃e,e=512:=⟨_,rfl⟩;rw [zfR he];exact Nat.pow_le_pow_right a7 a7
theorem zhh {k:Nat}(h:k≤512):2 ^ k≤gr:=by
 obtain ⟨e,he⟩:∃e,e=512:=⟨_,rfl⟩;rw [zfR he];exact Nat.pow_le_pow_right a7 a7
structure BigIs (D:List Int) (N:Nat):Prop where
 dig:Dig 256 D
 lead:D=[]∨nth D 0≠0
 eq:val 256 D.reverse=N
theorem BigIs.trm {D:List Int}{N:Nat}(h:BigIs D N):Trm D.reverse:=by
 rcases h.lead with e|e
 ·exact .inl (by rw [e];rfl)
 ·by_cases hn:D=[]
  ·exact .inl (by rw [hn];rfl)
  ·have:=List.length_pos_iff.2 hn;refine .inr ?_;rw [List.length_reverse,zgg a7,show D.length - 1 - (D.length - 1)=0 by omega];exact e
theorem BigIs.nil {D:List Int}{N:Nat}(h:BigIs D N):D=[]↔N=0:=by
 rw [←h.eq,zhs h.dig.rev h.trm a8,List.reverse_eq_nil_iff]
theorem BigIs.pos {D:List Int}{N:Nat}(h:BigIs D N):0<D.length↔0<N:=by
 have:=h.nil;rw [List.length_pos_iff];constructor
 ·intro e;rcases Nat.eq_zero_or_pos N with z|z
  ·exact absurd (this.2 z) e
  ·exact z
 ·intro e z;have:=this.1 z;omega
theorem BigIs.len {D:List Int}{N k:Nat}(h:BigIs D N)(hk:N<256 ^ k):D.length≤k:=by
 by_cases hn:D=[]
 ·rw [hn];exact Nat.zero_le _
 ·have:=zh3 h.dig.rev h.trm (by rw [ne_eq,List.reverse_eq_nil_iff];exact hn);rw [h.eq] at this;have h2:=Nat.lt_of_le_of_lt this hk;have:=(Nat.pow_lt_pow_iff_right (show 1<256 by decide)).1 h2;rw [List.length_reverse] at this;omega
theorem BigIs.lt {D:List Int}{N:Nat}(h:BigIs D N):N<256 ^ D.length:=by
 have:=lG h.dig.rev;rw [h.eq,List.length_reverse] at this;exact this
theorem zk2 {x:List Int}{X:Nat}(hl:x.length≤1000000)(hx:NatIs x X):∃s:Nat,zbi x=some (s:Int)∧(X=0→s=0)∧(0<X→1≤s∧2 ^ (s - 1)≤X)∧X<2 ^ s∧s≤32*x.length:=by
 unfold zbi;by_cases hn:x=[]
 ·have h0:=hx.nil.1 hn;subst hn;exact ⟨0,rfl,fun _=>rfl,fun h=>by omega,by omega,Nat.zero_le _⟩
 ·have hp:=List.length_pos_iff.2 hn;have hX:=hx.pos.1 hp;have htd:=hx.dig.nth (i:=x.length - 1) a7;have htn:nth x (x.length - 1)≠0:=hx.trm.elim (fun e=>absurd e hn) id;have hB:=iN;obtain ⟨s,s1,s2,s3,s4,s5⟩:=zjM (x:=(nth x (x.length - 1)).toNat) a7 a7;rw [Int.toNat_of_nonneg htd.1] at s3;rw [decide_eq_false a7,cond_false,dJ a7,show ((x.length:Int) - 1).toNat=x.length - 1 by omega,s3];refine gZ ?_
  have eX:X=val c8 (x.take (x.length - 1))+c8 ^ (x.length - 1) * (nth x (x.length - 1)).toNat:=by
   have:=jc (B:=c8) (l:=x) (i:=x.length - 1) a7;rw [show x.length - 1+1=x.length by omega,List.take_length,hx.eq] at this;exact this
  have htk:=lG (hx.dig.take (x.length - 1));rw [List.length_take,Nat.min_eq_left a7] at htk;refine ⟨32* (x.length - 1)+s,?_,fun h=>by omega,fun _=>⟨by omega,?_⟩,?_,by omega⟩
  ·rw [kB (x:=32* ((x.length:Int) - 1)) a7,kB a7];congr 1;omega
  ·rw [show 32* (x.length - 1)+s - 1=32* (x.length - 1)+(s - 1) by omega,Nat.pow_add,←zhc,eX];exact Nat.le_trans (Nat.mul_le_mul_left _ s4) (Nat.le_add_left _ _)
  ·rw [Nat.pow_add,←zhc,eX];have:=Nat.mul_le_mul_left (c8 ^ (x.length - 1)) (show (nth x (x.length - 1)).toNat+1≤2 ^ s by omega);rw [Nat.mul_add,Nat.mul_one] at this;omega
theorem u8n (m:Nat):IntKind.u8.wrap (m:Int)=((m % 256:Nat):Int):=by
 refine q29 ?_;simp
theorem zkp {x:List Int}{X:Nat}(hl:x.length≤100000)(hx:NatIs x X):∃D,zbw x=some D∧BigIs D X:=by
 obtain ⟨s,h1,h2,h3,h4,h5⟩:=zk2 a7 hx; (have hw7:wI ((s:Int)+7)=((s+7:Nat):Int):=by rw [kB a7];omega);unfold zbw;rw [h1];refine gZ ?_;rw [hw7,dJ a7];by_cases h0:X=0
 ·rw [h2 h0,decide_eq_true a8,cond_true];exact ⟨[],rfl,Dig.nil, .inl rfl,by rw [h0];rfl⟩
 ·obtain ⟨h6,h7⟩:=h3 a7;rw [decide_eq_false a7,cond_false,dJ a7,show (((s+7:Nat):Int) / 8).toNat=(s+7) / 8 by omega,dJ (by show _*_≤_;omega)];simp only [dF];rw [List.length_replicate,show ((s+7:Nat):Int) / 8=(((s+7) / 8:Nat):Int) by omega];generalize hn:(s+7) / 8=n at *; (have hw1:wI (((n:Nat):Int) - 1)=((n - 1:Nat):Int):=by rw [kB a7];omega);rw [hw1]; (have hXn:X<256 ^ n:=by rw [mD];exact Nat.lt_of_lt_of_le h4 (Nat.pow_le_pow_right a7 a7));refine mc (n:=n) (fun i (l:List Int)=>l.length=n∧Dig 256 l∧∀k,k<i→nth l (n - 1 - k)=((X / 256 ^ k % 256:Nat):Int)) (fun o=>∃D,o=some D∧BigIs D X) ?_ (fun l hI=>?_) (fun i l next hi hI hnx=>?_)
  ·exact ⟨by simp,gQ a8 _,fun k hk=>absurd hk (Nat.not_lt_zero k)⟩
  ·obtain ⟨i1,i2,i3⟩:=hI;refine ⟨l,rfl,i2,?_,?_⟩
   ·by_cases he:l=[]
    ·exact .inl he
    ·refine .inr ?_;have h8:=i3 (n - 1) a7;rw [show n - 1 - (n - 1)=0 by omega] at h8;rw [h8]
     have h9:1≤X / 256 ^ (n - 1):=by
      rw [Nat.le_div_iff_mul_le (Nat.pow_pos a8),Nat.one_mul,mD];exact Nat.le_trans (Nat.pow_le_pow_right a7 a7) h7
     have h10:X / 256 ^ (n - 1)<256:=by
      rw [Nat.div_lt_iff_lt_mul (Nat.pow_pos a8),Nat.mul_comm,←Nat.pow_succ,show (n - 1).succ=n by omega];exact hXn
     rw [Nat.mod_eq_of_lt h10];omega
   ·refine zfH a8 (fun k hk=>?_) (by rw [List.length_reverse,i1];exact hXn);rw [List.length_reverse] at hk;rw [zgg hk,i1,i3 k a7,Int.toNat_natCast]
  ·obtain ⟨i1,i2,i3⟩:=hI
   have h4i:i / 4<x.length:=by
    omega
   (have hw2:wI (8* ((i:Int) % 4))=((8* (i % 4):Nat):Int):=by rw [kB a7];omega); (have hw3:wI (((n - 1:Nat):Int) - (i:Int))=((n - 1 - i:Nat):Int):=by rw [kB a7];omega);rw [hw2,hw3,dJ a7,dJ a7,dJ a7,dJ a7,dJ a7,show ((i:Int) / 4).toNat=i / 4 by omega,Int.toNat_natCast];have hxd:=hx.dig.nth h4i;have hdg:=zfM iB hx.dig (i / 4);rw [hx.eq] at hdg
   have esh:shrK .u32 (nth x (i / 4)) ((8* (i % 4):Nat):Int)=(((nth x (i / 4)).toNat / 2 ^ (8* (i % 4)):Nat):Int):=by
    have:=zkr (a:=(nth x (i / 4)).toNat) (b:=8* (i % 4)) a7;rw [Int.toNat_of_nonneg hxd.1] at this;exact this
   have e:(nth x (i / 4)).toNat / 2 ^ (8* (i % 4)) % 256=X / 256 ^ i % 256:=by
    rw [hdg,←mD]; (have e1:256 ^ i=c8 ^ (i / 4) *256 ^ (i % 4):=by rw [zg8,←Nat.pow_mul,←Nat.pow_add,Nat.div_add_mod])
    have e2:c8=256 ^ (i % 4) * (256*256 ^ (3 - i % 4)):=by
     rw [zg8,Nat.mul_left_comm,←Nat.pow_add,show i % 4+(3 - i % 4)=3 by omega]
    rw [e1,←Nat.div_div_eq_div_mul];generalize X / c8 ^ (i / 4)=Z;rw [e2,Nat.mod_mul_right_div_self,Nat.mod_mul_right_mod]
   rw [esh,u8n,e];have hm:=Nat.mod_lt (X / 256 ^ i) (show 0<256 by decide);refine hnx _ ⟨by rw [List.length_set];exact i1,i2.set ⟨Int.natCast_nonneg _,Int.ofNat_lt.2 hm⟩,fun k hk=>?_⟩;by_cases hki:k=i
   ·subst hki;rw [kS a7]
   ·rw [zeB a7];exact i3 k a7
theorem zgj {x:List Int}{X:Nat}{neg:Bool}(hl:x.length≤100000)(hx:NatIs x X)(h:X<gr):∃D,zb1 neg x=some (⟨neg&&decide (0<X),D⟩,0)∧BigIs D X:=by
 obtain ⟨s,h1,h2,h3,h4,h5⟩:=zk2 a7 hx;obtain ⟨D,d1,d2⟩:=zkp hl hx;unfold zb1;rw [h1];refine gZ ?_
 have hs:¬512<s:=fun hc=>by
  have h0:0<X:=by
   rcases Nat.eq_zero_or_pos X with z|z
   ·have:=h2 z;omega
   ·exact z
  have:=zlc (k:=s - 1) a7;exact Nat.lt_irrefl _ (Nat.lt_of_lt_of_le h (Nat.le_trans this (h3 h0).2))
 rw [decide_eq_false a7,cond_false,d1];refine gZ ?_;refine ⟨D,?_,d2⟩;have e:decide (0<(x.length:Int))=decide (0<X):=decide_eq_decide.2 (by rw [←hx.pos];omega);rw [e]
abbrev dE (g:GInt):Nat:=val 256 g.Digits.reverse
structure VI (g:GInt):Prop where
 len:g.Digits.length≤64
 lead:g.Digits=[]∨nth g.Digits 0≠0
 sgn:g.Digits=[]→g.Neg=false
theorem VI.big {g:GInt}(h:VI g)(hd:Dig 256 g.Digits):BigIs g.Digits (dE g):=⟨hd,h.lead,rfl⟩
theorem VI.lt {g:GInt}(h:VI g)(hd:Dig 256 g.Digits):dE g<gr:=by
 have:=(h.big hd).lt;rw [mD] at this;exact Nat.lt_of_lt_of_le this (zhh (by have:=h.len;omega))
theorem ib {D:List Int}{N:Nat}(h:BigIs D N)(hN:N<gr):VI ⟨false,D⟩:=⟨h.len (by rw [←zjo];exact hN),h.lead,fun _=>rfl⟩
theorem zeP {g:GInt}(h:VI g):lk g=some true:=by
 unfold lk;by_cases h0:g.Digits=[]
 ·rw [h.sgn h0,h0];rfl
 ·have:=List.length_pos_iff.2 h0;have h1:=h.lead.elim (fun e=>absurd e h0) id;have h2:=h.len;rw [decide_eq_false a7,cond_false];simp only [dF];rw [decide_eq_true a7,cond_true,dJ a7,decide_eq_true h1]
theorem zid {g:GInt}(h:¬VI g):lk g=some false:=by
 unfold lk;by_cases h0:g.Digits=[]
 ·cases hn:g.Neg with
  |false=>exact absurd ⟨by rw [h0];decide, .inl h0,fun _=>hn⟩ h
  |true=>rw [h0];rfl
 ·have:=List.length_pos_iff.2 h0;rw [decide_eq_false a7,cond_false];simp only [dF];by_cases h1:g.Digits.length≤64
  ·rw [decide_eq_true a7,cond_true,dJ a7];by_cases h2:nth g.Digits 0=0
   ·rw [h2];rfl
   ·exact absurd ⟨h1, .inr h2,fun e=>absurd e h0⟩ h
  ·rw [decide_eq_false a7,cond_false]
theorem zlQ {g:GInt}(h:¬VI g):mj g=some 0:=by
 unfold mj;rw [zid h];rfl
theorem zjD {g:GInt}(h:VI g)(hd:Dig 256 g.Digits):mj g=some (if dE g=0 then 0 else if g.Neg=true then -1 else 1):=by
 unfold mj;rw [zeP h];have hn:=(h.big hd).nil;refine gZ ?_;by_cases h0:g.Digits=[]
 ·rw [if_pos (hn.1 h0),h0];rfl
 ·have:=List.length_pos_iff.2 h0;rw [if_neg (fun e=>h0 (hn.2 e)),decide_eq_false a7]
  cases g.Neg <;> rfl
theorem mC {σ ρ:Type}{f:(σ→Option ρ)→σ→Option ρ}(I:σ→Nat→Nat→Prop)(post:Option ρ→Prop)(G:Nat)(hend:∀s next,I s G 0→post (f next s))(hstep:∀s next X Y,I s X Y→0<Y→(∀s',I s' Y (X % Y)→post (next s'))→post (f next s)):∀k m s X Y,I s X Y→X*Y<2 ^ k→Y≤X→Nat.gcd X Y=G→k+2≤m→post (eS f m s):=by
 intro k
 induction k with
 |zero=>
  intro m s X Y hI hk hle hG hm;obtain ⟨m',rfl⟩:∃q,m=q+1:=⟨m - 1,by omega⟩
  have h0:Y=0:=by
   rcases Nat.eq_zero_or_pos Y with z|z
   ·exact z
   ·have:=Nat.mul_le_mul (show 1≤X by omega) z;omega
  subst h0;rw [zjp];rw [Nat.gcd_zero_right] at hG;subst hG;exact hend _ _ hI
 |succ k ih=>
  intro m s X Y hI hk hle hG hm;obtain ⟨m',rfl⟩:∃q,m=q+1:=⟨m - 1,by omega⟩;rw [zjp];rcases Nat.eq_zero_or_pos Y with z|z
  ·subst z;rw [Nat.gcd_zero_right] at hG;subst hG;exact hend _ _ hI
  ·refine hstep _ _ X Y hI z (fun s' hI'=>ih m' s' Y (X % Y) hI' ?_ (Nat.le_of_lt (Nat.mod_lt _ z)) ?_ a7)
   ·have h1:=Nat.mod_lt X z
    have h2:X % Y+Y≤X:=by
     have h3:=Nat.div_add_mod X Y; (have h4:1≤X / Y:=by rw [Nat.le_div_iff_mul_le z];omega);have h5:=Nat.mul_le_mul_left Y h4;omega
    have h6:=Nat.mul_le_mul_right Y (show 2* (X % Y)≤X by omega);rw [Nat.mul_assoc,Nat.mul_comm (X % Y) Y] at h6;rw [Nat.pow_succ] at hk;omega
   ·rw [←hG,Nat.gcd_comm X Y,Nat.gcd_rec Y X,Nat.gcd_comm]
theorem euclid' {σ ρ:Type}{f:(σ→Option ρ)→σ→Option ρ}(I:σ→Nat→Nat→Prop)(post:Option ρ→Prop){k m:Nat}{s:σ}{X Y:Nat}(hI:I s X Y)(hk:X*Y<2 ^ k)(hm:k+3≤m)(hend:∀s next,I s (Nat.gcd X Y) 0→post (f next s))(hstep:∀s next X Y,I s X Y→0<Y→(∀s',I s' Y (X % Y)→post (next s'))→post (f next s)):post (eS f m s):=by
 by_cases hle:Y≤X
 ·exact mC I post (Nat.gcd X Y) hend hstep k m s X Y hI hk hle rfl a7
 ·obtain ⟨m',rfl⟩:∃q,m=q+1:=⟨m - 1,by omega⟩;rw [zjp];refine hstep _ _ X Y hI a7 (fun s' hI'=>?_);rw [Nat.mod_eq_of_lt a7] at hI';exact mC I post (Nat.gcd X Y) hend hstep k m' s' Y X hI' (by rw [Nat.mul_comm];exact hk) a7 (Nat.gcd_comm _ _) a7
theorem zlM {X Y K:Nat}(hX:X<K)(hY:Y<K):Nat.gcd X Y<K:=by
 rcases Nat.eq_zero_or_pos X with z|z
 ·subst z;rw [Nat.gcd_zero_left];exact hY
 ·exact Nat.lt_of_le_of_lt (Nat.gcd_le_left Y z) hX
theorem GCD_x {fuel:Nat}{a b:GInt}(hf:2000≤fuel)(ha:VI a)(hb:VI b)(da:Dig 256 a.Digits)(db:Dig 256 b.Digits):∃D,zcW fuel a b=some (⟨false,D⟩,0)∧BigIs D (Nat.gcd (dE a) (dE b)):=by
 have la:=ha.len;have lb:=hb.len;have va:=ha.lt da;have vb:=hb.lt db;obtain ⟨x,x1,x2⟩:=zfW (fuel:=fuel) a7 a7 da;obtain ⟨y,y1,y2⟩:=zfW (fuel:=fuel) a7 a7 db;unfold zcW;rw [zeP ha,zeP hb];simp only [Option.bind_some,dF,Bool.not_true,cond_false];rw [x1];refine gZ ?_;rw [y1];refine gZ ?_;obtain ⟨e,he⟩:∃e,e=512:=⟨_,rfl⟩;obtain ⟨k16,h16k⟩:∃k,k=16:=⟨_,rfl⟩; (have h16:c8 ^ k16=gr:=by rw [zhc,zfR (k:=32*k16) a7]);refine euclid' (fun (s:List Int×List Int) X Y=>NatIs s.1 X∧NatIs s.2 Y∧X<gr∧Y<gr) (fun (o:Option (GInt×Int))=>∃D,o=some (GInt.mk false D,0)∧BigIs D (Nat.gcd (dE a) (dE b))) (k:=e+e) (X:=dE a) (Y:=dE b) (s:=(x,y)) (show NatIs x (dE a)∧NatIs y (dE b)∧dE a<gr∧dE b<gr from ⟨x2,y2,va,vb⟩) ?_ a7 (fun s next hI=>?_) (fun s next X Y hI hY hnx=>?_)
 ·have:=Nat.mul_lt_mul'' va vb;rw [zfR he,←Nat.pow_add] at this;exact this
 ·obtain ⟨i1,i2,i3,i4⟩:=hI;have e0:=i2.nil.2 rfl;rw [e0];rw [decide_eq_false a8,cond_false];have hl:=i1.len (k:=k16) (by rw [h16];exact i3);obtain ⟨D,d1,d2⟩:=zgj (neg:=false) a7 i1 i3;rw [d1];exact ⟨D,rfl,d2⟩
 ·obtain ⟨i1,i2,i3,i4⟩:=hI;have hp:=i2.pos.2 hY;have l1:=i1.len (k:=k16) (by rw [h16];exact i3);have l2:=i2.len (k:=k16) (by rw [h16];exact i4);rw [decide_eq_true a7,cond_true];obtain ⟨q,r,e1,e2,e3⟩:=ziA (fuel:=fuel) a7 a7 hf i1 i2 hY;rw [e1];refine gZ ?_;exact hnx _ ⟨i2,e3,i4,Nat.lt_trans (Nat.mod_lt _ hY) i4⟩
theorem GCD_f {fuel:Nat}{a b:GInt}(h:¬(VI a∧VI b)):zcW fuel a b=some (⟨false,[]⟩,2):=by
 unfold zcW;by_cases ha:VI a
 ·rw [zeP ha,zid (fun hb=>h ⟨ha,hb⟩)];rfl
 ·rw [zid ha];rfl
theorem Of_x {fuel:Nat}{n:Int}(hf:2000≤fuel)(hn: -9223372036854775808≤n∧n≤9223372036854775807):∃D,zdG fuel n=some ⟨decide (n<0),D⟩∧BigIs D n.natAbs:=by
 have hB:=iN
 have key:∀u:BitVec 64,u.toNat=n.natAbs→∃D,((j5 fuel [(IntKind.u32.wrap (u.toNat:Int)),(IntKind.u32.wrap ((u >>> 32).toNat:Int))]).bind fun r21=>
  (zb1 (decide (n<0)) r21).bind fun r22=>
  some r22.1)=some ⟨decide (n<0),D⟩∧BigIs D n.natAbs:=fun u hu=>by
  have hlt:=u.isLt;rw [zh8,jn,jn];obtain ⟨r,t1,t2⟩:=zjc (fuel:=fuel) (l:=[((u.toNat % c8:Nat):Int),((u.toNat / 2 ^ 32 % c8:Nat):Int)]) cM ((Dig.nil.cons ⟨Int.natCast_nonneg _,Int.ofNat_lt.2 (Nat.mod_lt _ iB)⟩).cons ⟨Int.natCast_nonneg _,Int.ofNat_lt.2 (Nat.mod_lt _ iB)⟩)
  have ev:val c8 [((u.toNat % c8:Nat):Int),((u.toNat / 2 ^ 32 % c8:Nat):Int)]=n.natAbs:=by
   rw [val,val,val,Int.toNat_natCast,Int.toNat_natCast,←hu,hB];omega
  rw [ev] at t2;rw [t1];refine gZ ?_;have hl:=t2.len (k:=2) (by rw [hB];omega);have h512:n.natAbs<gr:=Nat.lt_of_lt_of_le (show n.natAbs<2 ^ 64 by omega) (zhh a7);obtain ⟨D,d1,d2⟩:=zgj (neg:=decide (n<0)) a7 t2 h512;rw [d1];refine ⟨D,?_,d2⟩;refine gZ ?_
  congr 2
  by_cases h:n<0
  ·rw [decide_eq_true h,decide_eq_true a7];rfl
  ·rw [decide_eq_false h];rfl
 unfold zdG;simp only [dF];by_cases h:n<0
 ·rw [decide_eq_true h,cond_true]
  have:=key (-(BitVec.ofInt 64 n)) (by
   rw [BitVec.toNat_neg,BitVec.toNat_ofInt];omega)
  rw [decide_eq_true h] at this;exact this
 ·rw [decide_eq_false h,cond_false];have:=key (BitVec.ofInt 64 n) (by rw [ofI a7];omega);rw [decide_eq_false h] at this;exact this
def zI (g:GInt):Int:=if g.Neg=true then -(dE g:Int) else (dE g:Int)
theorem zfI {fuel:Nat}{a b:GInt}(hf:2000≤fuel)(ha:VI a)(hb:VI b)(da:Dig 256 a.Digits)(db:Dig 256 b.Digits):zbU fuel a b=some (if zI a<zI b then -1 else if zI b<zI a then 1 else 0):=by
 have la:=ha.len;have lb:=hb.len;have na:a.Neg=true→0<dE a:=fun h=>(ha.big da).pos.1 (List.length_pos_iff.2 fun e=>by rw [ha.sgn e] at h;cases h);have nb:b.Neg=true→0<dE b:=fun h=>(hb.big db).pos.1 (List.length_pos_iff.2 fun e=>by rw [hb.sgn e] at h;cases h);obtain ⟨x,x1,x2⟩:=zfW (fuel:=fuel) a7 a7 da;obtain ⟨y,y1,y2⟩:=zfW (fuel:=fuel) a7 a7 db;unfold zbU;rw [zeP ha,zeP hb];simp only [Option.bind_some,dF,Bool.not_true,cond_false];rw [x1];refine gZ ?_;rw [y1];refine gZ ?_;change NatIs x (dE a) at x2;change NatIs y (dE b) at y2;rw [ziC x2 y2];unfold zI;generalize dE a=A at *;generalize dE b=B at*
 cases hA:a.Neg <;> cases hC:b.Neg
 ·simp only [beq_self_eq_true,Bool.not_true,cond_false,Bool.false_eq_true,if_false]
  congr 1
  repeat' split
  all_goals omega
 ·have:=nb hC
  show some 1=some _
  simp only [Bool.false_eq_true,if_false,if_true];rw [if_neg a7,if_pos a7]
 ·have:=na hA
  show some (-1)=some _
  simp only [Bool.false_eq_true,if_false,if_true];rw [if_pos a7]
 ·simp only [beq_self_eq_true,Bool.not_true,cond_false,cond_true,if_true]
  congr 1
  repeat' split
  all_goals first|omega|(exfalso;omega)|rfl
structure VR (p:GRatio):Prop where
 num:VI p.Num
 den:VI p.Den
 neg:p.Den.Neg=false
 pos:0<dE p.Den
 gcd:Nat.gcd (dE p.Num) (dE p.Den)=1
theorem zhg {fuel:Nat}{p:GRatio}(hf:2000≤fuel)(dn:Dig 256 p.Num.Digits)(dd:Dig 256 p.Den.Digits):∃b,zcp fuel p=some b∧(b=true↔VR p):=by
 unfold zcp;by_cases hd:VI p.Den
 ·rw [zjD hd dd];refine gZ ?_;by_cases h0:dE p.Den=0
  ·rw [if_pos h0,decide_eq_true a8,cond_true];exact ⟨false,rfl,fun h=>(by cases h),fun h=>(by have:=h.pos;omega)⟩
  ·rw [if_neg h0]
   cases hn:p.Den.Neg with
   |true=>
    exact ⟨false,rfl,fun h=>(by cases h),fun h=>(by have:=h.neg;rw [hn] at this;cases this)⟩
   |false=>
    rw [if_neg b6,decide_eq_false a8,cond_false];by_cases hN:VI p.Num
    ·obtain ⟨D,d1,d2⟩:=GCD_x (fuel:=fuel) hf hN hd dn dd;obtain ⟨E,e1,e2⟩:=Of_x (fuel:=fuel) (n:=1) hf a7;have hG:=zlM (hN.lt dn) (hd.lt dd);rw [d1];simp only [Option.bind_some,dF];rw [decide_eq_true trivial,cond_true,e1];refine gZ ?_;have h1:(1:Int).natAbs=1:=rfl;rw [h1] at e2
     rw [zfI hf (ib d2 hG) (by
      have:=ib e2 (Nat.lt_of_lt_of_le (show 1<2 ^ 1 by decide) (zhh a7))
      exact this) d2.dig e2.dig]
     refine gZ ?_;refine ⟨_,rfl,?_⟩
     have z1:zI ⟨false,D⟩=(Nat.gcd (dE p.Num) (dE p.Den):Int):=by
      unfold zI dE;rw [if_neg b6];rw [d2.eq]
     have z2:zI ⟨decide ((1:Int)<0),E⟩=1:=by
      unfold zI dE;rw [if_neg b6];rw [e2.eq];rfl
     rw [z1,z2,decide_eq_true_eq];constructor
     ·intro h;refine ⟨hN,hd,hn,by omega,?_⟩
      split at h
      ·cases h
      ·split at h
       ·cases h
       ·omega
     ·intro h;rw [h.gcd];rfl
    ·rw [GCD_f (fun h=>hN h.1)];exact ⟨false,rfl,fun h=>(by cases h),fun h=>absurd h.num hN⟩
 ·rw [zlQ hd];exact ⟨false,rfl,fun h=>(by cases h),fun h=>absurd h.den hd⟩
structure LsIs (x:List Int) (X:Nat):Prop where
 dig:Dig 256 x
 trm:Trm x
 eq:val 256 x=X
theorem LsIs.nil {x:List Int}{X:Nat}(h:LsIs x X):x=[]↔X=0:=by
 rw [←h.eq];exact (zhs h.dig h.trm a8).symm
theorem LsIs.pos {x:List Int}{X:Nat}(h:LsIs x X):0<x.length↔0<X:=by
 have:=h.nil;rw [List.length_pos_iff];constructor
 ·intro e;rcases Nat.eq_zero_or_pos X with z|z
  ·exact absurd (this.2 z) e
  ·exact z
 ·intro e z;have:=this.1 z;omega
theorem LsIs.zero:LsIs [] 0:=⟨Dig.nil, .inl rfl,rfl⟩
theorem LsIs.big {x:List Int}{X:Nat}(h:LsIs x X):BigIs x.reverse X:=by
 refine ⟨h.dig.rev,?_,by rw [List.reverse_reverse];exact h.eq⟩;rcases h.trm with e|e
 ·exact .inl (by rw [e];rfl)
 ·by_cases hn:x=[]
  ·exact .inl (by rw [hn];rfl)
  ·have:=List.length_pos_iff.2 hn;refine .inr ?_;rw [zgg a7,Nat.sub_zero];exact e
theorem LsIs.len {x:List Int}{X k:Nat}(h:LsIs x X)(hk:X<256 ^ k):x.length≤k:=by
 have:=h.big.len hk;rw [List.length_reverse] at this;exact this
structure PT (p:GRatio):Prop where
 r:VR p
 nn:p.Num.Neg=false
 den:dE p.Den≤1000
 num:dE p.Num≤dE p.Den
theorem ziF {g:GInt}(h:g.Neg=false):zI g=(dE g:Int):=by unfold zI;rw [h,if_neg b6]
theorem zjK {fuel:Nat}{p:GRatio}(hf:2000≤fuel)(dn:Dig 256 p.Num.Digits)(dd:Dig 256 p.Den.Digits):∃b,zbd fuel p=some b∧(b=true↔PT p):=by
 obtain ⟨b,b1,b2⟩:=zhg (fuel:=fuel) hf dn dd;unfold zbd zen;rw [b1];simp only [Option.bind_some,dF]
 cases b with
 |false=>exact ⟨false,rfl,fun h=>(by cases h),fun h=>b2.2 h.r⟩
 |true=>
  have hv:=b2.1 rfl;simp only [Bool.not_true,cond_false];rw [zjD hv.num dn];refine gZ ?_;have hnz:=(hv.num.big dn).nil
  cases hn:p.Num.Neg with
  |true=>
   have h0:dE p.Num≠0:=fun e=>by
    have:=hv.num.sgn (hnz.2 e);rw [hn] at this;cases this
   rw [if_neg h0,if_pos rfl];exact ⟨false,rfl,fun h=>(by cases h),fun h=>(by have:=h.nn;rw [hn] at this;cases this)⟩
  |false=>
   have e:decide ((if dE p.Num=0 then (0:Int) else if false=true then -1 else 1)<0)=false:=by
    split <;> rfl
   rw [e,cond_false];obtain ⟨E,e1,e2⟩:=Of_x (fuel:=fuel) (n:=1000) hf a7;rw [e1];refine gZ ?_;have h1:(1000:Int).natAbs=1000:=rfl;rw [h1] at e2;have hE:VI ⟨decide ((1000:Int)<0),E⟩:=ib e2 (Nat.lt_of_lt_of_le (show 1000<2 ^ 10 by decide) (zhh a7))
   have zE:zI ⟨decide ((1000:Int)<0),E⟩=1000:=by
    rw [ziF rfl];unfold dE;rw [e2.eq];rfl
   rw [zfI hf hv.den hE dd e2.dig];refine gZ ?_;rw [zE,ziF hv.neg];by_cases hd:dE p.Den≤1000
   ·have hle:(if ((dE p.Den:Nat):Int)<1000 then (-1:Int) else if (1000:Int)<((dE p.Den:Nat):Int) then 1 else 0)≤0:=by
     split
     ·decide
     ·rw [if_neg a7];decide
    rw [decide_eq_true hle,cond_true,zfI hf hv.num hv.den dn dd];refine gZ ?_;rw [ziF hn,ziF hv.neg];refine ⟨_,rfl,?_⟩;rw [decide_eq_true_eq];constructor
    ·intro h;refine ⟨hv,hn,hd,?_⟩
     split at h
     ·omega
     ·split at h
      ·exact absurd h a8
      ·omega
    ·intro h;have:=h.num
     split
     ·decide
     ·rw [if_neg a7];decide
   ·rw [decide_eq_false (by rw [if_neg a7,if_pos a7];decide),cond_false];exact ⟨false,rfl,fun h=>(by cases h),fun h=>absurd h.den hd⟩
def fV (n:Nat):List Int:=if h:n<128 then [(n:Int)] else ((n % 128+128:Nat):Int) :: fV (n / 128)
termination_by n
decreasing_by omega
theorem zha {n:Nat}(h:n<128):fV n=[(n:Int)]:=by rw [fV];simp [h]
theorem zic {n:Nat}(h:¬n<128):fV n=((n % 128+128:Nat):Int) :: fV (n / 128):=by rw [fV];simp [h]
theorem zkv (n:Nat):0<(fV n).length:=by
 by_cases h:n<128
 ·rw [zha h];simp
 ·rw [zic h];simp
theorem zhw:∀(k n:Nat),n<2 ^ (7* (k+1))→(fV n).length≤k+1
 |0,n,h=>by rw [zha (by simpa using h)];simp
 |k+1,n,h=>by
  by_cases h1:n<128
  ·rw [zha h1];simp
  ·rw [zic h1,List.length_cons]
   have:=zhw k (n / 128) (by
    rw [Nat.div_lt_iff_lt_mul a8]
    calc n<2 ^ (7* (k+1+1)):=h
     _=2 ^ (7* (k+1)) *128:=by rw [show 7* (k+1+1)=7* (k+1)+7 by omega,Nat.pow_add])
   omega
theorem or128:∀k:Nat,k<256→orK .u8 (k:Int) 128=((k % 128+128:Nat):Int):=by
 (have h:∀k:_root_.Fin 256,orK .u8 ((k.1:Nat):Int) 128=((k.1 % 128+128:Nat):Int):=by decide);exact fun k hk=>h ⟨k,hk⟩
theorem zlD (n:Nat):IntKind.u8.wrap (n:Int)=((n % 256:Nat):Int):=by
 simp [IntKind.wrap,IntKind.signed,IntKind.bits]
theorem shr7 (n:BitVec 64):(n >>> 7).toNat=n.toNat / 128:=by rw [BitVec.toNat_ushiftRight,Nat.shiftRight_eq_div_pow]
theorem zkj {fuel:Nat}{l:List Int}{n:BitVec 64}(hf:20≤fuel)(hl:l.length≤100000):zb9 fuel l n=some (l++fV n.toNat):=by
 unfold zb9;simp only [dF];have hb:∀m:BitVec 64,(fV m.toNat).length≤10:=fun m=>zhw 9 _ (Nat.lt_of_lt_of_le m.isLt a8);refine zfY (σ:=List Int×BitVec 64) (I:=fun s=>s.1++fV s.2.toNat=l++fV n.toNat) (μ:=fun s=>(fV s.2.toNat).length) (post:=fun o=>o=some (l++fV n.toNat)) rfl (by have:=hb n;show (fV n.toNat).length<fuel;omega) ?_;rintro ⟨a,m⟩ next hI hn;dsimp only at hI hn ⊢
 have hlen:a.length≤100010:=by
  have h1:=congrArg List.length hI;rw [List.length_append,List.length_append] at h1;have:=hb n;omega
 by_cases h:m.toNat<128
 ·rw [decide_eq_false (by show ¬(127:Int)<_;omega),cond_false,dJ (by unfold dm;simp;omega),zlD,Nat.mod_eq_of_lt a7,←zha h,hI]
 ·rw [decide_eq_true (by show (127:Int)<_;omega),cond_true,dJ (by unfold dm;simp;omega),zlD,or128 _ (Nat.mod_lt _ a8),Nat.mod_mod_of_dvd _ a8];have h2:=zic h;refine hn _ ?_ ?_
  ·show (a++[_])++fV (m >>> 7).toNat=_
   rw [shr7,List.append_assoc,List.singleton_append,←h2,hI]
  ·show (fV (m >>> 7).toNat).length<(fV m.toNat).length
   rw [shr7,h2,List.length_cons];omega
theorem ziJ {fuel:Nat}{out:List Int}{n:Int}(hf:20≤fuel)(hn:0≤n∧n≤9223372036854775807)(hl:(out++fV n.toNat).length≤65536):j4 fuel ⟨⟨0⟩,out⟩ n=some (out++fV n.toNat):=by
 have hg:zb9 fuel out (BitVec.ofInt 64 n)=some (out++fV n.toNat):=by
  rw [zkj hf (by rw [List.length_append] at hl;omega)];rw [show (BitVec.ofInt 64 n).toNat=n.toNat from by rw [BitVec.toNat_ofInt];omega]
 unfold j4
 show (bif decide (n<0) then none else (zb9 fuel out (BitVec.ofInt 64 n)).bind _)=_
 rw [decide_eq_false a7,cond_false,hg]
 show (za2 _ _).bind _=_
 unfold za2;rw [decide_eq_false a7];rfl
def gf (n:Int):List Int:=fV n.toNat
theorem ziO {α:Type}[Inhabited α]{l:List α}{i:Nat}(h:i<l.length):nth l i∈l:=by rw [eZ h];exact List.getElem_mem h
theorem join8 {u:BitVec 64}{d:Int}(hu:u.toNat<2 ^ 56)(hd:0≤d∧d<256):((u <<< 8) ||| BitVec.ofInt 64 d).toNat=u.toNat*256+d.toNat:=by
 rw [BitVec.toNat_or,BitVec.toNat_shiftLeft,Nat.shiftLeft_eq,Nat.mod_eq_of_lt a7];have e1:(BitVec.ofInt 64 d).toNat=d.toNat:=ofI a7;have:=zhD (a:=d.toNat) (d:=u.toNat) (s:=8) a7;rw [e1,Nat.or_comm,this];omega
theorem zin {B:Nat}(l:List Int)(x:Int):val B (l++[x]).reverse=x.toNat+B*val B l.reverse:=by
 rw [List.reverse_append];rfl
theorem zjx {g:GInt}(h:VI g)(hd:Dig 256 g.Digits)(hn:g.Neg=false)(hv:dE g≤9223372036854775807):zbM g=some ((dE g:Int),0):=by
 have hl:g.Digits.length≤8:=(h.big hd).len a7;unfold zbM;rw [zeP h];simp only [Option.bind_some,Bool.not_true,cond_false];rw [decide_eq_false a7,cond_false];simp only [dF];refine mc (n:=g.Digits.length) (fun i (u:BitVec 64)=>u.toNat=val 256 (g.Digits.take i).reverse) (fun o=>o=some ((dE g:Int),0)) (by simp [val]) (fun u hI=>?_) (fun i u next hi hI hnx=>?_)
 ·rw [List.take_length] at hI;have hI':u.toNat=dE g:=hI;rw [hn,cond_false,hI',show (((9223372036854775807#64).toNat:Nat):Int)=9223372036854775807 from rfl,decide_eq_false a7,cond_false,kB a7]
 ·have hb:=lG (B:=256) (l:=(g.Digits.take i).reverse) (hd.take i).rev;rw [List.length_reverse,List.length_take,Nat.min_eq_left a7] at hb;have hp:256 ^ i≤256 ^ 7:=Nat.pow_le_pow_right a8 a7;have hx:=hd.nth hi;refine hnx _ ?_;rw [join8 a7 hx,hI,List.take_succ_eq_append_getElem hi,←eZ hi,zin];omega
theorem zj7 {p:GRatio}(h:PT p)(dn:Dig 256 p.Num.Digits)(dd:Dig 256 p.Den.Digits):zbM p.Num=some ((dE p.Num:Int),0)∧zbM p.Den=some ((dE p.Den:Int),0):=by
 have h1:=h.den;have h2:=h.num;exact ⟨zjx h.r.num dn h.nn a7,zjx h.r.den dd h.r.neg a7⟩
theorem ziN {fuel:Nat}{a b:GInt}(hf:2000≤fuel)(ha:VI a)(hb:VI b)(da:Dig 256 a.Digits)(db:Dig 256 b.Digits)(na:a.Neg=false)(nb:b.Neg=false)(hB:0<dE b):∃Q R,zcC fuel a b=some (⟨false,Q⟩,⟨false,R⟩,0)∧BigIs Q (dE a / dE b)∧BigIs R (dE a % dE b):=by
 have la:=ha.len;have lb:=hb.len;have va:=ha.lt da;have vb:=hb.lt db;have pb:=(hb.big db).pos.2 hB;obtain ⟨x,x1,x2⟩:=zfW (fuel:=fuel) a7 a7 da;obtain ⟨y,y1,y2⟩:=zfW (fuel:=fuel) a7 a7 db;change NatIs x (dE a) at x2;change NatIs y (dE b) at y2;obtain ⟨k16,h16k⟩:∃k,k=16:=⟨_,rfl⟩; (have h16:c8 ^ k16=gr:=by rw [zhc,zfR (k:=32*k16) a7]);have l1:=x2.len (k:=k16) (by rw [h16];exact va);have l2:=y2.len (k:=k16) (by rw [h16];exact vb);unfold zcC;rw [zeP ha,zeP hb];simp only [Option.bind_some,dF,Bool.not_true,cond_false];rw [decide_eq_false a7,cond_false,y1];refine gZ ?_;rw [x1];refine gZ ?_;obtain ⟨q,r,e1,e2,e3⟩:=ziA (fuel:=fuel) a7 a7 hf x2 y2 hB;rw [e1];refine gZ ?_;rw [na,nb];simp only [beq_self_eq_true,Bool.not_true,Bool.false_and,cond_false];have hq:dE a / dE b<gr:=Nat.lt_of_le_of_lt (Nat.div_le_self _ _) va;have hr:dE a % dE b<gr:=Nat.lt_trans (Nat.mod_lt _ hB) vb;have l3:=e2.len (k:=k16) (by rw [h16];exact hq);have l4:=e3.len (k:=k16) (by rw [h16];exact hr);obtain ⟨Q,q1,q2⟩:=zgj (neg:=false) a7 e2 hq;obtain ⟨R,r1,r2⟩:=zgj (neg:=false) a7 e3 hr;rw [q1,r1];exact ⟨Q,R,rfl,q2,r2⟩
def gj (x y:Nat):Int:=if x<y then -1 else if y<x then 1 else 0
theorem zjS (x y:Nat):gj y x= -gj x y:=by
 unfold gj
 repeat' split
 all_goals omega
theorem zkh (x y k:Nat):gj (k+x) (k+y)=gj x y:=by
 unfold gj
 repeat' split
 all_goals omega
theorem zkV {X Y Z W:Nat}(hY:0<Y)(hW:0<W)(h:X / Y<Z / W):X*W<Z*Y:=by
 have h1:=Nat.lt_mul_div_succ X hY;have h2:=Nat.mul_div_le Z W;have h3:X*W<Y* (X / Y+1) *W:=Nat.mul_lt_mul_of_pos_right h1 hW;have h4:Y* (X / Y+1) *W≤Y* (Z / W) *W:=Nat.mul_le_mul_right _ (Nat.mul_le_mul_left _ h); (have h5:Y* (Z / W) *W=W* (Z / W) *Y:=by rw [Nat.mul_comm Y,Nat.mul_assoc,Nat.mul_comm Y W,←Nat.mul_assoc,Nat.mul_comm (Z / W) W]);have h6:W* (Z / W) *Y≤Z*Y:=Nat.mul_le_mul_right _ h2;omega
theorem cmp_eq {X Y Z W:Nat}(h:X / Y=Z / W):gj (X*W) (Z*Y)=gj (X % Y*W) (Z % W*Y):=by
 have h1:=Nat.div_add_mod X Y;have h2:=Nat.div_add_mod Z W; (have e1:X*W=Y* (X / Y) *W+X % Y*W:=by rw [←Nat.add_mul,h1])
 have e2:Z*Y=Y* (X / Y) *W+Z % W*Y:=by
  rw [h,show Y* (Z / W) *W=W* (Z / W) *Y by rw [Nat.mul_comm Y,Nat.mul_assoc,Nat.mul_comm Y W,←Nat.mul_assoc,Nat.mul_comm (Z / W) W],←Nat.add_mul,h2]
 rw [e1,e2,zkh]
theorem ziQ {D:List Int}:zI ⟨false,D⟩=(dE ⟨false,D⟩:Int):=by unfold zI;rw [if_neg b6]
theorem zeK {D:List Int}{n:Nat}{b:Bool}(h:BigIs D n):dE ⟨b,D⟩=n:=h.eq
theorem ziM {x y:Nat}(h:x<gr)(h2:y≤x):y<gr:=Nat.lt_of_le_of_lt h2 h
theorem wsgn {o c:Int}(ho:o=1∨o= -1)(hc: -1≤c∧c≤1):wI (o*c)=o*c:=by
 rcases ho with rfl|rfl <;> exact gx a7
theorem zjN {D:List Int}(h:VI ⟨false,D⟩)(hd:Dig 256 D):mj ⟨false,D⟩=some (if dE ⟨false,D⟩=0 then 0 else 1):=by
 rw [zjD h hd];rfl
theorem zkK {fuel:Nat}{a b:GRatio}(hf:2000≤fuel)(ha:PT a)(hb:PT b)(dna:Dig 256 a.Num.Digits)(dda:Dig 256 a.Den.Digits)(dnb:Dig 256 b.Num.Digits)(ddb:Dig 256 b.Den.Digits):zcZ fuel a b=some (gj (dE a.Num*dE b.Den) (dE b.Num*dE a.Den)):=by
 obtain ⟨v1,e1,i1⟩:=zhg (fuel:=fuel) hf dna dda;obtain ⟨v2,e2,i2⟩:=zhg (fuel:=fuel) hf dnb ddb;rw [i1.2 ha.r] at e1;rw [i2.2 hb.r] at e2;unfold zcZ;rw [e1,Option.bind_some];simp only [dF];rw [Bool.not_true,cond_false,e2,Option.bind_some,Bool.not_true,cond_false];generalize hC:gj (dE a.Num*dE b.Den) (dE b.Num*dE a.Den)=C;have h0:=ha.den;refine zfY (fun (s:Int×Bool×List Int×Bool×List Int×Bool×List Int×Bool×List Int)=>∃A1 A2 B1 B2:List Int,s.2=(false,A1,false,A2,false,B1,false,B2)∧(s.1=1∨s.1= -1)∧VI ⟨false,A1⟩∧VI ⟨false,A2⟩∧VI ⟨false,B1⟩∧VI ⟨false,B2⟩∧Dig 256 A1∧Dig 256 A2∧Dig 256 B1∧Dig 256 B2∧0<dE ⟨false,A2⟩∧0<dE ⟨false,B2⟩∧s.1*gj (dE ⟨false,A1⟩ *dE ⟨false,B2⟩) (dE ⟨false,B1⟩ *dE ⟨false,A2⟩)=C) (fun s=>dE ⟨false,s.2.2.2.2.1⟩) (fun o=>o=some C) ?_ ?_ (fun s next hI hnx=>?_)
 ·obtain ⟨⟨n1,A1⟩,⟨n2,A2⟩⟩:=a;obtain ⟨⟨n3,B1⟩,⟨n4,B2⟩⟩:=b;have q1:=ha.nn;have q2:=ha.r.neg;have q3:=hb.nn;have q4:=hb.r.neg;dsimp only at q1 q2 q3 q4;subst q1 q2 q3 q4;exact ⟨A1,A2,B1,B2,rfl, .inl rfl,ha.r.num,ha.r.den,hb.r.num,hb.r.den,dna,dda,dnb,ddb,ha.r.pos,hb.r.pos,by rw [Int.one_mul];exact hC⟩
 ·have:dE ⟨false,a.Den.Digits⟩=dE a.Den:=rfl;dsimp only;omega
 ·obtain ⟨o,t⟩:=s;obtain ⟨A1,A2,B1,B2,he,ho,vA1,vA2,vB1,vB2,dA1,dA2,dB1,dB2,pA,pB,hcmp⟩:=hI;dsimp only at he ho hcmp;subst he;dsimp only;obtain ⟨Q,R,k1,bQ,bR⟩:=ziN hf vA1 vA2 dA1 dA2 rfl rfl pA;obtain ⟨Q2,R2,k2,bQ2,bR2⟩:=ziN hf vB1 vB2 dB1 dB2 rfl rfl pB;rw [k1,Option.bind_some,k2,Option.bind_some];dsimp only;have lA:=vA1.lt dA1;have lA2:=vA2.lt dA2;have lB:=vB1.lt dB1;have lB2:=vB2.lt dB2;generalize dE ⟨false,A1⟩=X at *;generalize hY:dE ⟨false,A2⟩=Y at *;generalize dE ⟨false,B1⟩=Z at *;generalize hW:dE ⟨false,B2⟩=W at *;have mR:=Nat.mod_lt X pA;have mR2:=Nat.mod_lt Z pB;have vQ:VI ⟨false,Q⟩:=ib bQ (ziM lA (Nat.div_le_self _ _));have vQ2:VI ⟨false,Q2⟩:=ib bQ2 (ziM lB (Nat.div_le_self _ _));have vR:VI ⟨false,R⟩:=ib bR (ziM lA2 a7);have vR2:VI ⟨false,R2⟩:=ib bR2 (ziM lB2 a7);rw [zfI hf vQ vQ2 bQ.dig bQ2.dig,Option.bind_some,zjN vR bR.dig,Option.bind_some,zjN vR2 bR2.dig,Option.bind_some];rw [ziQ,ziQ,zeK bQ,zeK bQ2,zeK bR,zeK bR2];rcases Nat.lt_trichotomy (X / Y) (Z / W) with hq|hq|hq
  ·have h1:=zkV pA pB hq;rw [if_pos (show ((X / Y:Nat):Int)<((Z / W:Nat):Int) by omega),decide_eq_true a8,cond_true,wsgn ho a7,←hcmp];unfold gj;rw [if_pos h1]
  ·rw [if_neg (show ¬((X / Y:Nat):Int)<((Z / W:Nat):Int) by omega),if_neg (show ¬((Z / W:Nat):Int)<((X / Y:Nat):Int) by omega),decide_eq_false b6,cond_false];rw [cmp_eq hq] at hcmp;by_cases r1:X % Y=0
   ·rw [if_pos r1];by_cases r2:Z % W=0
    ·rw [if_pos r2,decide_eq_true rfl,Bool.and_self,cond_true,←hcmp,r1,r2,Nat.zero_mul,Nat.zero_mul];unfold gj;simp
    ·have hp:0<Z % W*Y:=Nat.mul_pos a7 pA;rw [if_neg r2,decide_eq_true rfl,decide_eq_false a8,Bool.and_false,cond_false,cond_true,←hcmp,r1,Nat.zero_mul];unfold gj;rw [if_pos hp];rcases ho with rfl|rfl <;> rfl
   ·have hp1:0<X % Y*W:=Nat.mul_pos a7 pB;rw [if_neg r1,decide_eq_false a8,Bool.false_and,cond_false,cond_false];by_cases r2:Z % W=0
    ·rw [if_pos r2,decide_eq_true rfl,cond_true,←hcmp,r2,Nat.zero_mul];unfold gj;rw [if_neg a7,if_pos hp1,Int.mul_one]
    ·rw [if_neg r2,decide_eq_false a8,cond_false]; (have hw:wI (0 - o)= -o:=by rcases ho with rfl|rfl <;> rfl);rw [hw];refine hnx _ ⟨A2,R,B2,R2,rfl,?_,vA2,vR,vB2,vR2,dA2,bR.dig,dB2,bR2.dig,?_,?_,?_⟩ ?_
     ·rcases ho with rfl|rfl
      ·exact .inr rfl
      ·exact .inl rfl
     ·rw [zeK bR];omega
     ·rw [zeK bR2];omega
     ·dsimp only;rw [zeK bR,zeK bR2,hY,hW,←hcmp];rw [show ∀k,gj (Y* (Z % W)) (k* (X % Y))= -gj (X % Y*k) (Z % W*Y) from fun k=>by rw [Nat.mul_comm k,Nat.mul_comm Y];exact zjS _ _,Int.neg_mul_neg]
     ·dsimp only;rw [zeK bR];exact mR
  ·have h1:=zkV pB pA hq;rw [if_neg (show ¬((X / Y:Nat):Int)<((Z / W:Nat):Int) by omega),if_pos (show ((Z / W:Nat):Int)<((X / Y:Nat):Int) by omega),decide_eq_true a8,cond_true,wsgn ho a7,←hcmp];unfold gj;rw [if_neg a7,if_pos h1]
theorem zfT {β ρ:Type}[Inhabited β](g:Nat→β){f:Nat→(List β→ρ)→List β→ρ}{k:List β→ρ}{n:Nat}{s0:List β}(hs:s0.length=n)(hf:∀i next s,i<n→s.length=n→f i next s=next (s.set i (g i))):dq f k (n - 0) 0 s0=k ((List.range n).map g):=by
 have key:∀m i s,i+m=n→s.length=n→(∀j,j<i→nth s j=g j)→dq f k m i s=k ((List.range n).map g):=by
  intro m
  induction m with
  |zero=>
   intro i s e hl h;refine congrArg k (zhb (by simp [hl]) fun j hj=>?_);rw [h j a7,gJ a7]
  |succ m ih=>
   intro i s e hl h;rw [jM,hf i _ _ a7 hl];refine ih (i+1) _ a7 (by rw [List.length_set];exact hl) fun j hj=>?_;rw [iW a7];by_cases e2:i=j
   ·subst e2;rw [if_pos rfl]
   ·rw [if_neg e2];exact h j a7
 exact key (n - 0) 0 s0 a7 hs (fun j hj=>by omega)
def zhV (rounds:Int)(b:GBid)(i:Nat):List Int:=((gf rounds++gf b.Bidder)++gf b.Product)++gf (i:Int)
def tagM (a:GAuction)(b:GBid)(i:Nat):Vec 32 Int:=tagV a.key (zhV a.rounds b i)
theorem zgi {n:Int}(h:n≤16000):1≤(gf n).length∧(gf n).length≤2:=⟨zkv _,zhw 1 _ a7⟩
structure BidsOk (l:List GProduct) (bs:List GBidder) (bids:List GBid):Prop where
 m:bids.length≤128
 pr:∀i,i<bids.length→0≤(nth bids i).Product∧(nth bids i).Product<(l.length:Int)
 ch:∀i,i<bids.length→ -12≤(nth bids i).Change∧(nth bids i).Change≤12∧(nth bids i).Change≠0
 ix:∀i,i<bids.length→0≤ff bs (nth bids i).Bidder
theorem ziI {bs:List GBidder}{id:Int}(h:0≤ff bs id):(nth bs (ff bs id).toNat).ID=id:=by
 unfold ff at h ⊢;simp only [dF] at h ⊢
 have key:∀m i,i+m=bs.length→0≤dq (fun (i_3:Nat) (next2:Unit→Int) (_:Unit)=>(bif decide ((nth bs i_3).ID=id) then (i_3:Int) else next2 ())) (fun _=>(-1)) m i ()→(nth bs (dq (fun (i_3:Nat) (next2:Unit→Int) (_:Unit)=>(bif decide ((nth bs i_3).ID=id) then (i_3:Int) else next2 ())) (fun _=>(-1)) m i ()).toNat).ID=id:=by
  intro m
  induction m with
  |zero=>intro i _ h;exact absurd h (show ¬(0:Int)≤ -1 by decide)
  |succ m ih=>
   intro i e;rw [jM]; (try dsimp only);by_cases hc:(nth bs i).ID=id
   ·rw [decide_eq_true hc,cond_true];intro _;rw [Int.toNat_natCast];exact hc
   ·rw [decide_eq_false hc,cond_false];exact q4e
 exact key (bs.length - 0) 0 a7 h
theorem BidsOk.bd {l:List GProduct}{bs:List GBidder}{bids:List GBid}(hv:Val l bs)(h:BidsOk l bs bids){i:Nat}(hi:i<bids.length):0≤(nth bids i).Bidder∧(nth bids i).Bidder≤31:=by
 have h1:=h.ix i hi;have h2:=ziI h1;rcases zht bs (nth bids i).Bidder with h3|⟨_,h3⟩
 ·omega
 ·have:=(hv.bids (ff bs (nth bids i).Bidder).toNat a7).id;rw [h2] at this;exact this
theorem end_x (out:List Int)(h:dm out.length 1):zbf ⟨⟨0⟩,out⟩=some (out,0):=by
 unfold zbf;dsimp only;rw [decide_eq_false b6,cond_false,List.nil_append,dJ h]
theorem zlK {fuel:Nat}{a:GAuction}{bids:List GBid}(hf:2000≤fuel)(h:Good a)(hk:a.key.length≤32)(hr:0≤a.rounds∧a.rounds≤16000)(hb:BidsOk a.catalogue a.bidders bids):zbe fuel a bids=some ((List.range bids.length).map fun i=>(tagM a (nth bids i) i).1,0):=by
 unfold zbe;rw [dJ (by have:=hb.m;unfold dm;omega)];simp only [dF]
 rw [zfT (n:=bids.length) (fun i=>(tagM a (nth bids i) i).1) b6 (fun i next s hi hs=>by
  have h1:=hb.bd h.val hi;have h2:=hb.pr i hi;have h3:=h.val.n;have h4:=hb.m;have e0:=zgi (n:=a.rounds) a7;have e1:=zgi (n:=(nth bids i).Bidder) a7;have e2:=zgi (n:=(nth bids i).Product) a7;have e3:=zgi (n:=(i:Int)) a7;have w1:j4 fuel ⟨⟨0⟩,[]⟩ a.rounds=some (gf a.rounds):=ziJ (out:=[]) a7 a7 (by rw [List.nil_append];exact Nat.le_trans e0.2 a8);have w2:j4 fuel ⟨⟨0⟩,gf a.rounds⟩ (nth bids i).Bidder=some (gf a.rounds++gf (nth bids i).Bidder):=ziJ a7 a7 (by rw [List.length_append];unfold gf at e0 e1 ⊢;omega);have w3:j4 fuel ⟨⟨0⟩,gf a.rounds++gf (nth bids i).Bidder⟩ (nth bids i).Product=some ((gf a.rounds++gf (nth bids i).Bidder)++gf (nth bids i).Product):=ziJ a7 a7 (by rw [List.length_append,List.length_append];unfold gf at e0 e1 e2 ⊢;omega);have w4:j4 fuel ⟨⟨0⟩,(gf a.rounds++gf (nth bids i).Bidder)++gf (nth bids i).Product⟩ (i:Int)=some (zhV a.rounds (nth bids i) i):=ziJ a7 a7 (by rw [List.length_append,List.length_append,List.length_append];unfold gf at e0 e1 e2 e3 ⊢;omega)
  have hl:1≤(zhV a.rounds (nth bids i) i).length∧(zhV a.rounds (nth bids i) i).length≤64:=by
   unfold zhV;rw [List.length_append,List.length_append,List.length_append];omega
  rw [w1,Option.bind_some,w2,Option.bind_some,w3,Option.bind_some,w4,Option.bind_some,end_x _ (by unfold dm;omega),Option.bind_some];dsimp only;rw [decide_eq_false b6,cond_false,zk5 a7 ⟨h.key,hk⟩ hl,Option.bind_some];dsimp only;rw [decide_eq_false b6,cond_false,dJ a7]
  rfl)]
def iP (lt:Int→Int→Bool)(x:Int):List Int→List Int→List Int
 | [],B=>x :: B
 |y :: A,B=>bif lt x y then iP lt x A (y :: B) else (y :: A).reverse++x :: B
def gh (lt:Int→Int→Bool):Nat→List Int
 |0=>[]
 |n+1=>iP lt (n:Int) (gh lt n).reverse []
theorem ziH {lt:Int→Int→Bool}{x:Int}:∀(A B C:List Int),iP lt x A (B++C)=iP lt x A B++C
 | [],B,C=>rfl
 |y :: A,B,C=>by
  rw [iP,iP]
  cases lt x y with
  |true=>rw [cond_true,cond_true];exact ziH A (y :: B) C
  |false=>rw [cond_false,cond_false];simp
theorem zhE {lt:Int→Int→Bool}{x:Int}:∀(A B:List Int),(iP lt x A B).Perm (x :: (A++B))
 | [],B=>List.Perm.refl _
 |y :: A,B=>by
  rw [iP]
  cases lt x y with
  |true=>
   rw [cond_true];refine (zhE A (y :: B)).trans (List.Perm.cons _ ?_);exact List.perm_middle
  |false=>
   rw [cond_false];exact List.perm_middle.trans (List.Perm.cons _ ((List.reverse_perm _).append_right _))
theorem zgF {lt:Int→Int→Bool}:∀n,(gh lt n).Perm ((List.range n).map fun (i:Nat)=>(i:Int))
 |0=>List.Perm.refl _
 |n+1=>by
  rw [gh,List.range_succ,List.map_append];refine (zhE _ _).trans ?_;rw [List.append_nil];refine (List.Perm.cons _ ((List.reverse_perm _).trans (zgF n))).trans ?_;exact (List.perm_append_singleton _ _).symm
theorem zep {lt:Int→Int→Bool}(n:Nat):(gh lt n).length=n:=by rw [(zgF n).length_eq];simp
theorem iY {lt:Int→Int→Bool}{n:Nat}{z:Int}:z∈gh lt n↔0≤z∧z<(n:Int):=by
 rw [(zgF n).mem_iff];constructor
 ·intro h;obtain ⟨i,hi,rfl⟩:=List.mem_map.1 h;have:=List.mem_range.1 hi;omega
 ·rintro ⟨h1,h2⟩;exact List.mem_map.2 ⟨z.toNat,List.mem_range.2 a7,by omega⟩
theorem zkD {lt:Int→Int→Bool}{n k:Nat}(h:k<n):0≤nth (gh lt n) k∧nth (gh lt n) k<(n:Int):=by
 (have hk:k<(gh lt n).length:=by rw [zep];exact h);exact iY.1 (by rw [eZ hk];exact List.getElem_mem hk)
theorem zj6 {lt:Int→Int→Bool}{n i:Nat}(h:i<n):∃k,k<n∧nth (gh lt n) k=(i:Int):=by
 obtain ⟨k,hk,e⟩:=List.mem_iff_getElem.1 (iY (lt:=lt) (n:=n) (z:=(i:Int)).2 a7);exact ⟨k,by rw [zep] at hk;exact hk,by rw [eZ hk];exact e⟩
theorem zj3 {P Q:List Int}{x:Int}{k:Nat}(h:k=P.length):nth (P++x :: Q) k=x:=by
 subst h;rw [eZ b6];simp
theorem zjt {P Q:List Int}{x v:Int}{k:Nat}(h:k=P.length):(P++x :: Q).set k v=P++v :: Q:=by
 subst h;rw [List.set_append_right _ _ (Nat.le_refl _)];simp
section
variable {fuel:Nat}{bids:List GBid}{tags:List (List Int)}{lt:Int→Int→Bool}{n:Nat}
def zkE (fuel:Nat)(bids:List GBid)(tags:List (List Int))(lt:Int→Int→Bool)(n:Nat):Prop:=∀i j:Int,0≤i∧i<n→0≤j∧j<n→∃c,zaE fuel i j bids tags=some c∧decide (c<0)=lt i j
theorem zje (hc:zkE fuel bids tags lt n){K:List Int→Option (List Int)}{x:Int}(hx:0≤x∧x<n):∀(A B:List Int) (fu:Nat),(∀z∈A,0≤z∧z<(n:Int))→(A.reverse++x :: B).length≤1000→A.length+1≤fu→
  eS (fun (next8:(Int×List Int)→Option (List Int)) (s8:Int×List Int)=>
    dF (fun (x_10:Bool)=>
     (bif x_10 then
      dj (0≤wI (s8.1 - 1)∧wI (s8.1 - 1)<(s8.2.length:Int)) <|
      dj (0≤s8.1∧s8.1<(s8.2.length:Int)) <|
      dj (0≤wI (s8.1 - 1)∧wI (s8.1 - 1)<((s8.2.set s8.1.toNat (nth s8.2 ((wI (s8.1 - 1)).toNat))).length:Int)) <|
      next8 (wI (s8.1 - 1),((s8.2.set s8.1.toNat (nth s8.2 ((wI (s8.1 - 1)).toNat))).set ((wI (s8.1 - 1)).toNat) (nth s8.2 s8.1.toNat)))
      else
      K s8.2))
    (fun k11=>
     (bif decide (0<s8.1) then
      dj (0≤s8.1∧s8.1<(s8.2.length:Int)) <|
      dj (0≤wI (s8.1 - 1)∧wI (s8.1 - 1)<(s8.2.length:Int)) <|
      (zaE fuel (nth s8.2 s8.1.toNat) (nth s8.2 ((wI (s8.1 - 1)).toNat)) bids tags).bind fun r32=>
      k11 (decide (r32<0))
      else
      k11 false))) fu ((A.length:Int),A.reverse++x :: B)=K (iP lt x A B)
 | [],B,fu,hA,hl,hfu=>by
  obtain ⟨fu,rfl⟩:∃q,fu=q+1:=⟨fu - 1,by omega⟩;rw [lW];simp only [dF];rw [decide_eq_false b6,cond_false]
  rfl
 |y :: A,B,fu,hA,hl,hfu=>by
  obtain ⟨fu,rfl⟩:∃q,fu=q+1:=⟨fu - 1,by omega⟩;have hy:=hA y b6;rw [List.length_append,List.length_reverse,List.length_cons,List.length_cons] at hl; (have hl2:((y :: A).reverse++x :: B).length=A.length+1+(B.length+1):=by simp;omega); (have hw:wI (((y :: A).length:Int) - 1)=(A.length:Int):=by rw [List.length_cons,gx a7];omega);have e1:nth ((y :: A).reverse++x :: B) (y :: A).length=x:=zj3 b6
  have e2:nth ((y :: A).reverse++x :: B) A.length=y:=by
   rw [List.reverse_cons,List.append_assoc];exact zj3 b6
  have e3:((y :: A).reverse++x :: B).set (y :: A).length y=A.reverse++y :: (y :: B):=by
   rw [zjt b6,List.reverse_cons,List.append_assoc];rfl
  have e4:(A.reverse++y :: (y :: B)).set A.length x=A.reverse++x :: (y :: B):=zjt b6;rw [lW];simp only [dF];rw [hw,Int.toNat_natCast,Int.toNat_natCast,e1,e2,e3,e4];obtain ⟨c,c1,c2⟩:=hc x y hx hy;rw [decide_eq_true (by rw [List.length_cons];omega),cond_true,dJ (by rw [hl2,List.length_cons];omega),dJ (by rw [hl2];omega),c1,Option.bind_some,c2,iP]
  cases lt x y with
  |false=>rw [cond_false,cond_false]
  |true=>
   rw [cond_true,cond_true,dJ (by rw [hl2];omega),dJ (by rw [hl2,List.length_cons];omega),dJ (by rw [List.length_append,List.length_reverse];simp only [List.length_cons];omega)];exact zje hc hx A (y :: B) fu (fun z hz=>hA z (by simp [hz])) (by rw [List.length_append,List.length_reverse];simp only [List.length_cons];omega) (by rw [List.length_cons] at hfu;omega)
def ms (n i:Nat):List Int:=(List.range' i (n - i)).map fun (i:Nat)=>(i:Int)
theorem zhB {n i:Nat}(h:i<n):ms n i=(i:Int) :: ms n (i+1):=by
 unfold ms;rw [show n - i=(n - (i+1))+1 by omega,List.range'_succ];rfl
theorem zli (hc:zkE fuel bids tags lt n)(hn:n≤100)(hf:n+2≤fuel):∀(m i fu:Nat),i+m=n→m+1≤fu→
  eS (fun (next3:(Int×List Int)→Option (List Int)) (s3:Int×List Int)=>
  (bif decide (s3.1<(n:Int)) then
   eS (fun (next8:(Int×List Int)→Option (List Int)) (s8:Int×List Int)=>
    dF (fun (x_10:Bool)=>
     (bif x_10 then
      dj (0≤wI (s8.1 - 1)∧wI (s8.1 - 1)<(s8.2.length:Int)) <|
      dj (0≤s8.1∧s8.1<(s8.2.length:Int)) <|
      dj (0≤wI (s8.1 - 1)∧wI (s8.1 - 1)<((s8.2.set s8.1.toNat (nth s8.2 ((wI (s8.1 - 1)).toNat))).length:Int)) <|
      next8 (wI (s8.1 - 1),((s8.2.set s8.1.toNat (nth s8.2 ((wI (s8.1 - 1)).toNat))).set ((wI (s8.1 - 1)).toNat) (nth s8.2 s8.1.toNat)))
      else
      next3 (wI (s3.1+1),s8.2)))
    (fun k11=>
     (bif decide (0<s8.1) then
      dj (0≤s8.1∧s8.1<(s8.2.length:Int)) <|
      dj (0≤wI (s8.1 - 1)∧wI (s8.1 - 1)<(s8.2.length:Int)) <|
      (zaE fuel (nth s8.2 s8.1.toNat) (nth s8.2 ((wI (s8.1 - 1)).toNat)) bids tags).bind fun r32=>
      k11 (decide (r32<0))
      else
      k11 false))) fuel (s3.1,s3.2)
   else
   some s3.2)) fu ((i:Int),gh lt i++ms n i)=some (gh lt n):=by
 intro m
 induction m with
 |zero=>
  intro i fu e hfu;obtain ⟨fu,rfl⟩:∃q,fu=q+1:=⟨fu - 1,by omega⟩;rw [lW];dsimp only;rw [decide_eq_false a7,cond_false,show i=n by omega];unfold ms;rw [Nat.sub_self];simp
 |succ m ih=>
  intro i fu e hfu;obtain ⟨fu,rfl⟩:∃q,fu=q+1:=⟨fu - 1,by omega⟩;rw [lW];dsimp only;rw [decide_eq_true a7,cond_true,gx (x:=(i:Int)+1) a7];generalize hW:eS _ fu=W
  have h9:=zje hc (x:=(i:Int)) a7 (K:=fun s=>W ((i:Int)+1,s)) (gh lt i).reverse (ms n (i+1)) fuel (fun z hz=>by
   have:=iY.1 (List.mem_reverse.1 hz)
   omega) (by
   rw [List.length_append,List.length_reverse,List.length_reverse,zep,List.length_cons];unfold ms
   simp;omega) (by rw [List.length_reverse,zep];omega)
  rw [List.reverse_reverse,List.length_reverse,zep,←zhB a7] at h9;rw [h9];have h8:=ih (i+1) fu a7 a7;rw [gh] at h8;rw [show iP lt (i:Int) (gh lt i).reverse (ms n (i+1))=iP lt (i:Int) (gh lt i).reverse []++ms n (i+1) from ziH _ [] _,←hW];exact h8
theorem zlF (hc:zkE fuel bids tags lt n)(hn:n<20)(hf:200≤fuel):za0 fuel ((List.range n).map fun (i:Nat)=>(i:Int)) bids tags=some (gh lt n):=by
 (have h0:((List.range n).map fun (i:Nat)=>(i:Int)).length=n:=by simp)
 have hins:zaM fuel ((List.range n).map fun (i:Nat)=>(i:Int)) 0 (n:Int) bids tags=some (gh lt n):=by
  unfold zaM;rw [gx a7];by_cases hz:n=0
  ·subst hz;obtain ⟨fu,rfl⟩:∃q,fuel=q+1:=⟨fuel - 1,by omega⟩;rw [lW];dsimp only;rw [decide_eq_false a7,cond_false]
   rfl
  ·have h1:=zli hc a7 a7 (n - 1) 1 fuel a7 a7
   have e:gh lt 1++ms n 1=(List.range n).map fun (i:Nat)=>(i:Int):=by
    rw [show gh lt 1=[(0:Int)] from rfl,List.range_eq_range'];have:=zhB (n:=n) (i:=0) a7;unfold ms at this;rw [Nat.sub_zero] at this;rw [this];rfl
   rw [e] at h1;exact h1
 unfold za0 zbE;rw [h0];simp only [dF];obtain ⟨fu,rfl⟩:∃q,fuel=q+1:=⟨fuel - 1,by omega⟩;rw [lW];dsimp only;rw [decide_eq_false (show ¬(20:Int)≤(n:Int) by omega),cond_false,hins,Option.bind_some,lW,decide_eq_false (show ¬(20:Int)<(n:Int) by omega),cond_false]
 rfl
end
structure PtsOk (bids:List GBid):Prop where
 pt:∀i,i<bids.length→PT (nth bids i).Point
 dn:∀i,i<bids.length→Dig 256 (nth bids i).Point.Num.Digits
 dd:∀i,i<bids.length→Dig 256 (nth bids i).Point.Den.Digits
def ptN (bids:List GBid)(i:Int):Nat:=dE (nth bids i.toNat).Point.Num
def ptD (bids:List GBid)(i:Int):Nat:=max 1 (dE (nth bids i.toNat).Point.Den)
def ltB (bids:List GBid)(tags:List (List Int))(i j:Int):Bool:=decide ((if gj (ptN bids i*ptD bids j) (ptN bids j*ptD bids i)=0 then zcd (nth tags i.toNat) (nth tags j.toNat) else gj (ptN bids i*ptD bids j) (ptN bids j*ptD bids i))<0)
theorem zk3 {bids:List GBid}(h:PtsOk bids){i:Int}(hi:i.toNat<bids.length):ptD bids i=dE (nth bids i.toNat).Point.Den:=by
 have:=(h.pt _ hi).r.pos;unfold ptD;omega
theorem zl7 {fuel:Nat}{bids:List GBid}{tags:List (List Int)}(hf:2000≤fuel)(h:PtsOk bids)(ht:tags.length=bids.length):zkE fuel bids tags (ltB bids tags) bids.length:=by
 intro i j hi hj;unfold zaE; (have hi2:i.toNat<bids.length:=by omega); (have hj2:j.toNat<bids.length:=by omega);rw [dJ hi,dJ hj,zkK hf (h.pt _ hi2) (h.pt _ hj2) (h.dn _ hi2) (h.dd _ hi2) (h.dn _ hj2) (h.dd _ hj2),Option.bind_some,dJ a7,dJ a7,zjP];refine ⟨_,rfl,?_⟩;unfold ltB;rw [zk3 h hi2,zk3 h hj2]
 rfl
theorem zij {β γ ρ:Type}(g:Nat→β)(g2:Nat→γ){f:Nat→(List β×List γ→ρ)→List β×List γ→ρ}{k:List β×List γ→ρ}{n:Nat}(hf:∀i next s,i<n→s.1.length=i→s.2.length=i→f i next s=next (s.1++[g i],s.2++[g2 i])):dq f k (n - 0) 0 ([],[])=k ((List.range n).map g,(List.range n).map g2):=by
 have key:∀m i,i+m=n→dq f k m i ((List.range i).map g,(List.range i).map g2)=k ((List.range n).map g,(List.range n).map g2):=by
  intro m
  induction m with
  |zero=>intro i e;rw [show i=n by omega];rfl
  |succ m ih=>
   intro i e;rw [jM,hf i _ _ a7 b6 b6];rw [show ((List.range i).map g++[g i],(List.range i).map g2++[g2 i])=((List.range (i+1)).map g,(List.range (i+1)).map g2) by rw [List.range_succ,List.map_append,List.map_append];rfl];exact q4e
 exact key (n - 0) 0 a7
def zk0 (a:GAuction)(bids:List GBid):List (List Int):=(List.range bids.length).map fun i=>(tagM a (nth bids i) i).1
def zhu (a:GAuction)(bids:List GBid):List Int:=gh (ltB bids (zk0 a bids)) bids.length
theorem zlf {fuel:Nat}{a:GAuction}{bids:List GBid}(hf:2000≤fuel)(h:Good a)(hk:a.key.length≤32)(hr:0≤a.rounds∧a.rounds≤16000)(hb:BidsOk a.catalogue a.bidders bids)(hp:PtsOk bids)(hn:bids.length<20):
  zbb fuel a bids=some (some ⟨a.catalogue,bids,zhu a bids,a.bidders,(List.range a.catalogue.length).map (fT a.bidders),(List.range bids.length).map (fun i=>(nth bids i).Change),List.replicate a.catalogue.length 0⟩,0):=by
 unfold zbb;rw [zlK hf h hk hr hb,Option.bind_some];dsimp only;rw [decide_eq_false b6,cond_false,dJ h.rm,zlV h,Option.bind_some,dJ (by have:=h.val.n;unfold dm;omega)];simp only [dF]
 rw [zij (n:=bids.length) (fun i=>(i:Int)) (fun i=>(nth bids i).Change) (fun i next s hi h1 h2=>by
  rw [dJ (by unfold dm;rw [List.length_append,h1];simp;omega),dJ (by unfold dm;rw [List.length_append,h2];simp;omega)])]
 dsimp only;rw [zlF (zl7 hf hp b6) hn a7,Option.bind_some]
 rfl
theorem zlW {bs:List GBidder}(hid:∀j,j+1<bs.length→(nth bs j).ID<(nth bs (j+1)).ID):∀j k,j<k→k<bs.length→(nth bs j).ID<(nth bs k).ID:=by
 intro j k
 induction k with
 |zero=>intro h;omega
 |succ k ih=>
  intro h1 h2;have h3:=hid k h2;by_cases e:j=k
  ·subst e;exact h3
  ·have:=ih a7 a7;omega
theorem zkf {bs:List GBidder}{ρ:Type}{K:(Int→Option Int)→ρ}(hid:∀j,j+1<bs.length→(nth bs j).ID<(nth bs (j+1)).ID):∃f:Int→Option Int,(∀id,0≤ff bs id→(f id).getD 0=ff bs id)∧
  dq (fun (i_5:Nat) (next4:(Int→Option Int)→ρ) (l_3:(Int→Option Int))=>next4 (jm l_3 ((nth bs i_5).ID) (i_5:Int))) K (bs.length - 0) 0 (fun (_:Int)=>(none:Option Int))=K f:=by
 have inc:=zlW hid
 have h:=mc (n:=bs.length) (s:=fun (_:Int)=>(none:Option Int)) (k:=K) (f:=fun (i_5:Nat) (next4:(Int→Option Int)→ρ) (l_3:(Int→Option Int))=>next4 (jm l_3 ((nth bs i_5).ID) (i_5:Int)))
  (fun i f=>∀j,j<i→f (nth bs j).ID=some (j:Int)) (fun o=>∃f:Int→Option Int,(∀j,j<bs.length→f (nth bs j).ID=some (j:Int))∧o=K f) (fun j hj=>by omega) (fun s hs=>⟨s,hs,rfl⟩) (fun i s next hi hs hnx=>hnx _ (fun j hj=>by
   by_cases e:j=i
   ·subst e;exact zgm _ _ _
   ·rw [zeE _ _ (by have:=inc j i a7 hi;omega)]
    exact hs j a7))
 obtain ⟨f,h1,h2⟩:=h;refine ⟨f,fun id hi=>?_,h2⟩;have h3:=ziI hi;rcases zht bs id with h4|⟨_,h4⟩
 ·omega
 ·have h5:=h1 (ff bs id).toNat a7;rw [h3] at h5;rw [h5]
  show ((ff bs id).toNat:Int)=_
  omega
def lu (l:List GProduct)(bs:List GBidder)(h p:Nat)(n:Int):Int:=
 if 0<n then min n (ld l (nth bs h) p) else if n<0 then -(max (min (min (-n) (nth (nth bs h).Blocks p)) (fT bs p - (nth l p).Supply)) 0) else 0
theorem zlU {l:List GProduct}{bids:List GBid}{ord:List Int}{bs:List GBidder}{rest mom:List Int}{i h p:Nat}(hv:Val l bs)(hh:h<bs.length)(hi:i<rest.length)(hi2:i<bids.length)(hp:(nth bids i).Product=(p:Int))(hp2:p<l.length)(hr: -12≤nth rest i∧nth rest i≤12):
  za3 ⟨l,bids,ord,bs,(List.range l.length).map (fT bs),rest,mom⟩ (i:Int) (h:Int)=some (lu l bs h p (nth rest i)):=by
 have hb:=hv.bids h hh;have h1:=hb.dem.len;have h2:=hv.blk hh hp2;have h3:=hv.tot_bd hp2;have h4:=lK hv.prods hp2;unfold za3 lu;dsimp only;rw [dJ a7,dJ a7,dJ a7,Int.toNat_natCast,Int.toNat_natCast,hp];by_cases c1:0<nth rest i
 ·rw [decide_eq_true c1,cond_true,if_pos c1,zln hv.n hv.prods hb hp2 c1];rfl
 ·rw [decide_eq_false c1,cond_false,if_neg c1];by_cases c2:nth rest i<0
  ·rw [decide_eq_true c2,cond_true,if_pos c2,dJ a7,dJ cM,dJ a7,Int.toNat_natCast,gJ hp2,gx (x:=0 - nth rest i) a7,gx (x:=fT bs p - (nth l p).Supply) a7,gx a7];rw [Int.zero_sub,Int.zero_sub]
  ·rw [decide_eq_false c2,cond_false,if_neg c2]
theorem ziu {l:List GProduct}{bs:List GBidder}{h p:Nat}{n:Int}(hv:Val l bs)(hh:h<bs.length)(hp2:p<l.length):(0<n→0≤lu l bs h p n∧lu l bs h p n≤n∧lu l bs h p n≤ld l (nth bs h) p)∧(n<0→n≤lu l bs h p n∧lu l bs h p n≤0∧ -(lu l bs h p n)≤nth (nth bs h).Blocks p∧(lu l bs h p n<0→(nth l p).Supply≤fT bs p+lu l bs h p n))∧(n=0→lu l bs h p n=0):=by
 have h1:=ziR hv.n hv.prods (hv.bids h hh) hp2;have h2:=hv.blk hh hp2;unfold lu;refine ⟨fun h=>?_,fun h=>?_,fun h=>?_⟩
 ·rw [if_pos h];omega
 ·rw [if_neg a7,if_pos h];omega
 ·rw [if_neg a7,if_neg a7]
def addB (b:GBidder)(p:Nat)(q:Int):GBidder:={ b with Blocks:=b.Blocks.set p (nth b.Blocks p+q) }
theorem zle {l:List GProduct}{b:GBidder}{p:Nat}{q:Int}(hn:l.length≤100)(hpv:it l=true)(h:BidOk l b)(hp:p<l.length)(hq:(0≤q∧q≤ld l b p)∨(q≤0∧ -q≤nth b.Blocks p)):BidOk l (addB b p q):=by
 have h1:=h.dem.bd p hp;have hU:=ziz hpv hp; (have hR:ld l b p≤(nth l p).Supply - nth b.Blocks p∧ld l b p≤(b.Eligibility - fy l b.Blocks) / (nth l p).Units:=by unfold ld;omega)
 have hd:DemOk l (addB b p q).Blocks:=by
  refine ⟨by unfold addB;rw [List.length_set];exact h.dem.len,fun j hj=>?_⟩;unfold addB;dsimp only;rw [iW (by rw [h.dem.len];exact hj)];by_cases e:p=j
  ·subst e;rw [if_pos rfl];omega
  ·rw [if_neg e];exact h.dem.bd j hj
 refine ⟨h.id,h.el,h.wa,hd,?_⟩;have hu:=zku hn hpv h.dem hp (v:=nth b.Blocks p+q) hd
 show fy l (b.Blocks.set p (nth b.Blocks p+q))≤b.Eligibility
 rw [hu,show nth b.Blocks p+q - nth b.Blocks p=q by omega];have hun:=h.un;rcases hq with ⟨q1,q2⟩|⟨q1,q2⟩
 ·have:=(Int.le_ediv_iff_mul_le (a:=q) (b:=b.Eligibility - fy l b.Blocks) (by omega:0<(nth l p).Units)).1 a7;omega
 ·have:=Int.mul_le_mul_of_nonneg_right q1 (by omega:0≤(nth l p).Units);omega
theorem zkG {l:List GProduct}{bs:List GBidder}{h:Nat}{b:GBidder}(hv:Val l bs)(hh:h<bs.length)(hb:BidOk l b)(hid:b.ID=(nth bs h).ID):Val l (bs.set h b):=by
 have h0:=zj0 hv.prog;refine zjT hv.n (by rw [List.length_set];exact hv.m) hv.prods (fun j hj=>?_) (fun j hj=>?_)
 ·rw [List.length_set] at hj;rw [iW hj]
  split
  ·exact hb
  ·exact hv.bids j hj
 ·rw [List.length_set] at hj;have:=h0 j hj
  have e:∀k,k<bs.length→(nth (bs.set h b) k).ID=(nth bs k).ID:=fun k hk=>by
   rw [iW hk];by_cases e:h=k
   ·subst e;rw [if_pos rfl];exact hid
   ·rw [if_neg e]
  rw [e _ a7,e _ hj];exact this
theorem zjV {l:List GProduct}{bs:List GBidder}{h p:Nat}{q:Int}(hv:Val l bs)(hh:h<bs.length)(hp:p<l.length)(hv2:Val l (bs.set h (addB (nth bs h) p q))):∀j,j<l.length→fT (bs.set h (addB (nth bs h) p q)) j=if p=j then fT bs j+q else fT bs j:=by
 intro j hj;have hx:∀ {bs:List GBidder},Val l bs→fT bs j=eT (fun k=>nth (nth bs k).Blocks j) bs.length:=fun {bs} hv=>zj5 (c:=12) (fun k hk=>hv.blk hk hj) a7 (by have:=hv.m;omega)
 rw [hx hv2,hx hv,List.length_set,zfC (p:=h) (f:=fun k=>nth (nth bs k).Blocks j) (fun i hi hne=>by
  rw [iW hi,if_neg (Ne.symm hne)]) hh]
 rw [iW hh,if_pos rfl];unfold addB;dsimp only;rw [iW (by rw [(hv.bids h hh).dem.len];exact hj)];by_cases e:p=j
 ·subst e;rw [if_pos rfl,if_pos rfl];omega
 ·rw [if_neg e,if_neg e];omega
structure RS where
 top:Nat
 at_:Nat
 bs:List GBidder
 rest:List Int
 mom:List Int
def fE (bs0:List GBidder)(bids:List GBid)(i:Nat):Nat:=(ff bs0 (nth bids i).Bidder).toNat
def eU (bids:List GBid)(i:Nat):Nat:=(nth bids i).Product.toNat
def fm (l:List GProduct)(bids:List GBid)(bs0 bs:List GBidder)(rest:List Int)(i:Nat):Int:=lu l bs (fE bs0 bids i) (eU bids i) (nth rest i)
def dX (ord:List Int)(s:RS):Nat:=(nth ord s.at_).toNat
def goM (s:RS):RS:=⟨max s.top s.at_,s.at_+1,s.bs,s.rest,s.mom⟩
def lM (bids:List GBid)(ord:List Int)(bs0:List GBidder)(s:RS)(q:Int):RS:=
 ⟨max s.top s.at_,0,s.bs.set (fE bs0 bids (dX ord s)) (addB (nth s.bs (fE bs0 bids (dX ord s))) (eU bids (dX ord s)) q),s.rest.set (dX ord s) (nth s.rest (dX ord s) - q),if q<0 then s.mom.set (eU bids (dX ord s)) (nth ord (max s.top s.at_)) else s.mom⟩
def mB (l:List GProduct)(bids:List GBid)(ord:List Int)(bs0:List GBidder)(s:RS):RS:=
 if fm l bids bs0 s.bs s.rest (dX ord s)=0 then goM s else lM bids ord bs0 s (fm l bids bs0 s.bs s.rest (dX ord s))
def im (l:List GProduct)(bids:List GBid)(ord:List Int)(bs0:List GBidder):Nat→RS→RS
 |0,s=>s
 |k+1,s=>if s.at_<ord.length then im l bids ord bs0 k (mB l bids ord bs0 s) else s
structure Ctx (l:List GProduct) (bids:List GBid) (ord:List Int) (bs0:List GBidder):Prop where
 val:Val l bs0
 ok:BidsOk l bs0 bids
 few:bids.length<20
 ol:ord.length=bids.length
 ob:∀k,k<ord.length→0≤nth ord k∧nth ord k<(bids.length:Int)
 all:∀i,i<bids.length→∃k,k<ord.length∧nth ord k=(i:Int)
def lF (bids:List GBid)(rest:List Int)(p:Nat):Int:=eT (fun i=>if eU bids i=p then (nth bids i).Change - nth rest i else 0) bids.length
def ja (z:Int):Int:=max z (-z)
def kQ (bids:List GBid)(rest:List Int):Int:=eT (fun i=>ja (nth rest i)) bids.length
def l8 (bids:List GBid)(s:RS):Nat:=(kQ bids s.rest).toNat*20+(bids.length - s.at_)
structure InvR (l:List GProduct) (bids:List GBid) (ord:List Int) (bs0:List GBidder) (s:RS):Prop where
 val:Val l s.bs
 len:s.bs.length=bs0.length
 same:∀j,j<bs0.length→(nth s.bs j).ID=(nth bs0 j).ID∧(nth s.bs j).Eligibility=(nth bs0 j).Eligibility∧(nth s.bs j).Waivers=(nth bs0 j).Waivers
 rl:s.rest.length=bids.length
 rb:∀i,i<bids.length→(0<(nth bids i).Change→0≤nth s.rest i∧nth s.rest i≤(nth bids i).Change)∧((nth bids i).Change<0→(nth bids i).Change≤nth s.rest i∧nth s.rest i≤0)
 ml:s.mom.length=l.length
 mb:0<bids.length→∀p,p<l.length→0≤nth s.mom p∧nth s.mom p<(bids.length:Int)
 att:s.at_≤ord.length
 top:s.top=0∨s.top<ord.length
 zero:∀k,k<s.at_→fm l bids bs0 s.bs s.rest (nth ord k).toNat=0
 tt:∀p,p<l.length→fT s.bs p=fT bs0 p+lF bids s.rest p
 keep:∀p,p<l.length→(nth l p).Supply≤fT bs0 p→(nth l p).Supply≤fT s.bs p
section
variable {l:List GProduct}{bids:List GBid}{ord:List Int}{bs0:List GBidder}{s:RS}
theorem Ctx.hix (c:Ctx l bids ord bs0){i:Nat}(hi:i<bids.length):fE bs0 bids i<bs0.length∧ff bs0 (nth bids i).Bidder=(fE bs0 bids i:Int):=by
 have h1:=c.ok.ix i hi;unfold fE;rcases zht bs0 (nth bids i).Bidder with h2|⟨_,h2⟩ <;> omega
theorem Ctx.prd (c:Ctx l bids ord bs0){i:Nat}(hi:i<bids.length):eU bids i<l.length∧(nth bids i).Product=(eU bids i:Int):=by
 have h1:=c.ok.pr i hi;unfold eU;omega
theorem Ctx.vis (c:Ctx l bids ord bs0)(h:s.at_<ord.length):dX ord s<bids.length∧nth ord s.at_=(dX ord s:Int):=by
 have h1:=c.ob _ h;unfold dX;omega
theorem zjm {rest:List Int}(h:∀i,i<bids.length→ -12≤nth rest i∧nth rest i≤12):∀n,n≤bids.length→0≤eT (fun i=>ja (nth rest i)) n∧eT (fun i=>ja (nth rest i)) n≤n*12
 |0,_=>by simp [eT]
 |n+1,hn=>by
  have h1:=zjm h n a7;have h2:=h n a7;rw [eT];unfold ja at h1 ⊢;omega
theorem InvR.r12 (c:Ctx l bids ord bs0)(h:InvR l bids ord bs0 s):∀i,i<bids.length→ -12≤nth s.rest i∧nth s.rest i≤12:=fun i hi=>by
 have h1:=h.rb i hi;have h2:=c.ok.ch i hi;omega
theorem InvR.go (c:Ctx l bids ord bs0)(h:InvR l bids ord bs0 s)(ha:s.at_<ord.length)(hz:fm l bids bs0 s.bs s.rest (dX ord s)=0):InvR l bids ord bs0 (goM s)∧l8 bids (goM s)<l8 bids s:=by
 have h0:=h.top;refine ⟨⟨h.val,h.len,h.same,h.rl,h.rb,h.ml,h.mb,?_,?_,?_,h.tt,h.keep⟩,?_⟩
 ·show s.at_+1≤ord.length;omega
 ·show max s.top s.at_=0∨max s.top s.at_<ord.length;omega
 ·intro k hk;change k<s.at_+1 at hk;by_cases e:k=s.at_
  ·subst e;exact hz
  ·exact h.zero k a7
 ·have h1:=c.ol;unfold l8 goM;dsimp only;omega
theorem InvR.put (c:Ctx l bids ord bs0)(h:InvR l bids ord bs0 s)(ha:s.at_<ord.length)(hz:¬fm l bids bs0 s.bs s.rest (dX ord s)=0):InvR l bids ord bs0 (lM bids ord bs0 s (fm l bids bs0 s.bs s.rest (dX ord s)))∧l8 bids (lM bids ord bs0 s (fm l bids bs0 s.bs s.rest (dX ord s)))<l8 bids s:=by
 obtain ⟨hv1,hv2⟩:=c.vis ha;obtain ⟨hp1,hp2⟩:=c.prd hv1;obtain ⟨hh1,hh2⟩:=c.hix hv1;have hb:=ziu (n:=nth s.rest (dX ord s)) h.val (by rw [h.len];exact hh1) hp1;have hr:=h.rb _ hv1;have hc:=c.ok.ch _ hv1;have h12:=h.r12 c;change (0<nth s.rest (dX ord s)→0≤fm l bids bs0 s.bs s.rest (dX ord s)∧fm l bids bs0 s.bs s.rest (dX ord s)≤nth s.rest (dX ord s)∧fm l bids bs0 s.bs s.rest (dX ord s)≤_)∧(nth s.rest (dX ord s)<0→nth s.rest (dX ord s)≤fm l bids bs0 s.bs s.rest (dX ord s)∧fm l bids bs0 s.bs s.rest (dX ord s)≤0∧ -fm l bids bs0 s.bs s.rest (dX ord s)≤_∧(fm l bids bs0 s.bs s.rest (dX ord s)<0→_≤_+fm l bids bs0 s.bs s.rest (dX ord s)))∧(nth s.rest (dX ord s)=0→fm l bids bs0 s.bs s.rest (dX ord s)=0) at hb;unfold lM;generalize fm l bids bs0 s.bs s.rest (dX ord s)=q at *;generalize dX ord s=i at *;generalize hH:fE bs0 bids i=H at *;generalize hP:eU bids i=p at *; (have hHb:H<s.bs.length:=by rw [h.len];exact hh1);have hbo:BidOk l (addB (nth s.bs H) p q):=zle h.val.n h.val.prods (h.val.bids H hHb) hp1 a7;have hv':=zkG h.val hHb hbo rfl;have ht:=zjV h.val hHb hp1 hv';have htop:=h.top; (have hrl:i<s.rest.length:=by rw [h.rl];exact hv1)
 have hrest:∀j,j<bids.length→nth (s.rest.set i (nth s.rest i - q)) j=if i=j then nth s.rest j - q else nth s.rest j:=fun j hj=>by
  rw [iW (by rw [h.rl];exact hj)];by_cases e:i=j
  ·subst e;rw [if_pos rfl]
  ·rw [if_neg e,if_neg e]
 have hord:=c.ob (max s.top s.at_) a7;refine ⟨⟨hv',by rw [List.length_set];exact h.len,fun j hj=>?_,by rw [List.length_set];exact h.rl,fun j hj=>?_,?_,fun hn P hP=>?_,Nat.zero_le _,?_,fun k hk=>(by cases hk),fun P hPl=>?_,fun P hPl h0=>?_⟩,?_⟩
 ·dsimp only;rw [iW (by rw [h.len];exact hj)];by_cases e:H=j
  ·subst e;rw [if_pos rfl];exact h.same H hh1
  ·rw [if_neg e];exact h.same j hj
 ·dsimp only;rw [hrest j hj];have h1:=h.rb j hj;by_cases e:i=j
  ·subst e;rw [if_pos rfl];omega
  ·rw [if_neg e];exact h1
 ·dsimp only
  split
  ·rw [List.length_set];exact h.ml
  ·exact h.ml
 ·dsimp only
  split
  ·rw [iW (by rw [h.ml];exact hP)]
   split
   ·exact hord
   ·exact h.mb hn P hP
  ·exact h.mb hn P hP
 ·dsimp only;omega
 ·dsimp only;rw [ht P hPl,h.tt P hPl];unfold lF
  rw [zfC (p:=i) (f:=fun i=>if eU bids i=P then (nth bids i).Change - nth s.rest i else 0) (g:=fun i_1=>if eU bids i_1=P then (nth bids i_1).Change - nth (s.rest.set i (nth s.rest i - q)) i_1 else 0) (fun j hj hne=>by
   (try dsimp only)
   rw [hrest j hj,if_neg (Ne.symm hne)]) hv1]
  (try dsimp only);rw [hrest i hv1,if_pos rfl,hP];by_cases e:p=P
  ·rw [if_pos e,if_pos e,if_pos e];omega
  ·rw [if_neg e,if_neg e,if_neg e];omega
 ·dsimp only;rw [ht P hPl];have h1:=h.keep P hPl h0;by_cases e:p=P
  ·subst e;rw [if_pos rfl];omega
  ·rw [if_neg e];exact h1
 ·unfold l8; (try dsimp only)
  have hw:kQ bids (s.rest.set i (nth s.rest i - q))=kQ bids s.rest+(ja (nth s.rest i - q) - ja (nth s.rest i)):=by
   unfold kQ
   rw [zfC (p:=i) (f:=fun i=>ja (nth s.rest i)) (g:=fun j=>ja (nth (s.rest.set i (nth s.rest i - q)) j)) (fun j hj hne=>by
    (try dsimp only)
    rw [hrest j hj,if_neg (Ne.symm hne)]) hv1]
   (try dsimp only);rw [hrest i hv1,if_pos rfl]
  have hw0:=zjm (rest:=s.rest.set i (nth s.rest i - q)) (fun j hj=>by
   rw [hrest j hj];have:=h12 j hj;by_cases e:i=j
   ·subst e;rw [if_pos rfl];omega
   ·rw [if_neg e];exact this) bids.length (Nat.le_refl _)
  change 0≤kQ bids (s.rest.set i (nth s.rest i - q))∧_ at hw0;have hf:=c.few; (have ha2:ja (nth s.rest i - q)<ja (nth s.rest i):=by unfold ja;omega);omega
theorem InvR.step (c:Ctx l bids ord bs0)(h:InvR l bids ord bs0 s)(ha:s.at_<ord.length):InvR l bids ord bs0 (mB l bids ord bs0 s)∧l8 bids (mB l bids ord bs0 s)<l8 bids s:=by
 unfold mB;by_cases e:fm l bids bs0 s.bs s.rest (dX ord s)=0
 ·rw [if_pos e];exact h.go c ha e
 ·rw [if_neg e];exact h.put c ha e
theorem InvR.run (c:Ctx l bids ord bs0):∀(k:Nat) (s:RS),InvR l bids ord bs0 s→l8 bids s<k→InvR l bids ord bs0 (im l bids ord bs0 k s)∧(im l bids ord bs0 k s).at_=ord.length
 |0,s,h,hk=>by omega
 |k+1,s,h,hk=>by
  rw [im];by_cases ha:s.at_<ord.length
  ·rw [if_pos ha];have h1:=h.step c ha;exact InvR.run c k _ h1.1 a7
  ·rw [if_neg ha];exact ⟨h,by have:=h.att;omega⟩
end
end Go.Proofs.YtmnjbhkcfghebaaGreatDoor
