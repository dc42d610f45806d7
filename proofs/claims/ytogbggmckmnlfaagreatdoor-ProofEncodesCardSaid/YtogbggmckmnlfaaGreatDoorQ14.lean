/- Wk Of: shortened and put together by squeeze.py. -/
import Derived.Test.YtogbggmckmnlfaaGreatDoorQ13
import Derived.Deep.Slices
import Derived.ChangeArms
set_option maxRecDepth 100000
set_option maxHeartbeats 4000000
set_option linter.unusedVariables false
set_option linter.unusedSectionVars false
set_option linter.unusedSimpArgs false
namespace Go.Proofs.YtogbggmckmnlfaaGreatDoor
open Go.RowKit
def j0 (c:GChoice):List Int:=d7 c.Station++d7 c.Channel
def ex (g:List GChoice):List Int:=dq g.length++g.flatMap j0
def dZ (x:GProof):List Int:=(dq x.Stations.length++x.Stations.flatMap d7)++(dq x.Lemmas.length++x.Lemmas.flatMap ex)
theorem zdE {g:List GChoice}(h:ValidL g):g.length≤512:=by
 have key:∀i,i<g.length→(i:Int)≤(cQ g i).Station:=by
  intro i
  induction i with
  |zero=>intro hi;exact (h.good _ (fX hi)).1
  |succ i ih=>intro hi;have:=ih a5;have:=h.inc i (i+1) a5 hi;omega
 rcases Nat.eq_zero_or_pos g.length with h0|h0
 ·omega
 ·have a:=key (g.length - 1) a5;have b:=(h.good _ (fX (show g.length - 1<g.length by omega))).2.1;omega
theorem okS_n {l:List Int}(h:kS l=true):l.length≤512:=by
 have hp:=(zi7 (lt:=fun a b:Int=>decide (a<b)) (fun a b c x y=>by rw [decide_eq_true_eq] at *;omega)).1 (zhQ h);have hin:=zhX h
 have key:∀i,i<l.length→(i:Int)≤cQ l i:=by
  intro i
  induction i with
  |zero=>intro hi;exact (hin _ (fX hi)).1
  |succ i ih=>
   intro hi;have h1:=ih a5
   have h2:cQ l i<cQ l (i+1):=by
    rw [eh (show i<l.length by omega),eh hi];exact of_decide_eq_true (List.pairwise_iff_getElem.1 hp i (i+1) a5 hi a5)
   omega
 rcases Nat.eq_zero_or_pos l.length with h0|h0
 ·omega
 ·have a:=key (l.length - 1) a5;have b:=(hin _ (fX (show l.length - 1<l.length by omega))).2;omega
structure InX (x:GProof):Prop where
 st:∀n∈x.Stations,0≤n∧n≤511
 ns:x.Stations.length≤512
 nl:x.Lemmas.length≤4096
 g:∀g∈x.Lemmas,ValidL g
theorem zg4 {x:GProof}(h:ju x=true):InX x:=by
 have hS:=okX_S h;refine ⟨fun n hn=>by have:=zhX hS n hn;omega,okS_n hS,okX_n h,fun g hg=>?_⟩;obtain ⟨i,hi,rfl⟩:=i7 hg;unfold ju at h;have h3:=List.all_eq_true.1 (zhQ (zhQ h)) i (List.mem_range.2 hi);unfold okL at h3;have h4:=zgY (zgY h3);rw [zfR] at h4;exact lg.1 h4
theorem ch_n {c:GChoice}(h:0≤c.Station∧c.Station≤511∧2≤c.Channel∧c.Channel≤51):(j0 c).length≤4:=by
 have h1:=zhr (n:=c.Station) 1 a5;have h2:=zhr (n:=c.Channel) 1 a5;unfold j0;rw [List.length_append];omega
theorem g_n {g:List GChoice}(h:ValidL g):(ex g).length≤2+4*g.length:=by
 have h1:=zdE h;have h2:=zd2 1 g.length a5;have h3:=ziU (l:=g) (g:=j0) (k:=4) fun c hc=>ch_n (h.good c hc);unfold ex;rw [List.length_append];omega
theorem x_n {x:GProof}(h:InX x){m:Nat}(hm:∀g∈x.Lemmas,g.length≤m):(dZ x).length≤4+2*x.Stations.length+(2+4*m) *x.Lemmas.length:=by
 have a:=h.ns;have b:=h.nl;have h1:=zd2 1 x.Stations.length a5;have h2:=zd2 1 x.Lemmas.length a5;have h3:=ziU (l:=x.Stations) (g:=d7) (k:=2) fun n hn=>zhr 1 (by have:=h.st n hn;omega); (have h4:=ziU (l:=x.Lemmas) (g:=ex) (k:=2+4*m) fun g hg=>by have:=g_n (h.g g hg);have:=hm g hg;omega);unfold dZ;simp only [List.length_append];omega
theorem x_n0 {x:GProof}(h:InX x):(dZ x).length≤10000000:=by
 have:=x_n h (m:=512) fun g hg=>zdE (h.g g hg);have a:=h.ns;have b:=h.nl;have:(2+4*512) *x.Lemmas.length≤2050*4096:=Nat.mul_le_mul a5 b;omega
theorem zmR (x:GProof):gX (dZ x):=lP (lP (kU _) (zdw fun n _=>kU _)) (lP (kU _) (zdw fun g _=>lP (kU _) (zdw fun c _=>lP (kU _) (kU _))))
theorem byt_G (g:List GChoice):gX (ex g):=lP (kU _) (zdw fun c _=>lP (kU _) (kU _))
theorem ch_r {c:GChoice}(hc:0≤c.Station∧c.Station≤511∧2≤c.Channel∧c.Channel≤51)(x:GReader)(rest:List Int)(h:RdS x (j0 c++rest)):zaZ x=some (c,(0,x.at_+((j0 c).length:Int))):=by
 unfold j0 at h;rw [List.append_assoc] at h;have h1:=zm8 a5 h;have h2:=zm8 a5 h.adv;unfold zaZ;rw [h1]
 show (mb ⟨⟨0⟩,x.made,x.in_,_⟩).bind _=_
 rw [h2];unfold j0;rw [List.length_append]
 show some (c,((0:Int),x.at_+((d7 c.Station).length:Int)+((d7 c.Channel).length:Int)))=_
 congr 3
 omega
theorem g_r {g:List GChoice}(hg:ValidL g)(x:GReader)(rest:List Int)(h:RdS x (ex g++rest)):zbe x=some (g,(0,x.at_+((ex g).length:Int))):=by
 unfold ex at h;rw [List.append_assoc] at h;have h1:=zdE hg;have e:=ziT (sz:=16) (read:=zaZ) (enc:=j0) (lim:=512) a6 (fun c hc=>ch_r (hg.good c hc)) a5 a6 h;unfold zbe;have e:zaG x 512=_:=e;rw [e];rfl
theorem zfP {x:GProof}(hok:ju x=true)(hl:(dZ x).length≤65536):zbj (dZ x)=some (x,0):=by
 have hx:=zg4 hok;have a:=hx.ns;have b:=hx.nl;unfold zbj;rw [decide_eq_false a5,cond_false]
 have hr:zck (dZ x)=some (some ⟨⟨0⟩,true,dZ x,0⟩):=by
  unfold zck;rw [List.nil_append,fL (by unfold dd;omega)]
 rw [hr];simp only [Option.bind_some,Option.isSome_some,cond_true,Option.getD_some]
 have h:RdS ⟨⟨0⟩,true,dZ x,0⟩ ((dq x.Stations.length++(x.Stations.flatMap d7++(dq x.Lemmas.length++(x.Lemmas.flatMap ex++[]))))):=by
  refine ⟨rfl,rfl,Int.le_refl _,?_,?_⟩
  ·show (dZ x).drop 0=_
   unfold dZ;simp only [List.drop_zero,List.append_assoc,List.append_nil]
  ·show 0+_=(dZ x).length
   unfold dZ;simp only [List.append_assoc,List.append_nil,Nat.zero_add]
 have e1:=ziT (sz:=8) (read:=mb) (enc:=d7) (lim:=512) a6 (fun n hn y rest hy=>zm8 (by have:=hx.st n hn;omega) hy) a5 a6 h
 have h2:RdS ⟨⟨0⟩,true,dZ x,0+((dq x.Stations.length++x.Stations.flatMap d7).length:Int)⟩ (dq x.Lemmas.length++(x.Lemmas.flatMap ex++[])):=by
  rw [←List.append_assoc] at h;exact h.adv
 have e2:=ziT (sz:=24) (read:=zbe) (enc:=ex) (lim:=4096) a6 (fun g hg=>g_r (hx.g g hg)) a5 a6 h2;have e1:za3 ⟨⟨0⟩,true,dZ x,0⟩ 512=_:=e1;have e2:zas ⟨⟨0⟩,true,dZ x,0+((dq x.Stations.length++x.Stations.flatMap d7).length:Int)⟩ 4096=_:=e2;rw [e1]
 show (zas ⟨⟨0⟩,true,dZ x,0+((dq x.Stations.length++x.Stations.flatMap d7).length:Int)⟩ 4096).bind _=_
 rw [e2]
 have he:zaK ⟨⟨0⟩,true,dZ x,0+((dq x.Stations.length++x.Stations.flatMap d7).length:Int)+((dq x.Lemmas.length++x.Lemmas.flatMap ex).length:Int)⟩=0:=by
  have hn:(0:Int)+((dq x.Stations.length++x.Stations.flatMap d7).length:Int)+((dq x.Lemmas.length++x.Lemmas.flatMap ex).length:Int)=((dZ x).length:Int):=by
   unfold dZ;simp only [List.length_append];omega
  rw [hn]
  show (bif decide ((0:Int)=0)&&decide (((dZ x).length:Int)<((dZ x).length:Int)) then (5:Int) else 0)=0
  rw [decide_eq_false (show ¬((dZ x).length:Int)<((dZ x).length:Int) by omega)];rfl
 simp only [dN,Option.bind_some];rw [decide_eq_false (fun hn=>hn he),cond_false,zf4,Option.bind_some,hok]
 rfl
theorem znp:lV zaZ j0 (fun _=>True):=fun x h=>by
 obtain ⟨v1,k1,a1,e1,b1, -,c1⟩:=zgK x h;obtain ⟨v2,k2,a2,e2,b2, -,c2⟩:=zgK _ (h.to (k:=k1) b1);refine ⟨⟨v1,v2⟩,k2,a2,?_,b2,trivial,fun hk=>?_⟩
 ·unfold zaZ;rw [e1]
  show (mb ⟨⟨k1⟩,x.made,x.in_,a1⟩).bind _=_
  rw [e2];rfl
 ·obtain ⟨f2,r2,d2,q2⟩:=c2 hk;obtain ⟨f1,r1,d1,q1⟩:=c1 f2;obtain ⟨d,q⟩:=seq_ h.pos d1 q1 d2 q2;exact ⟨f1,r2,d,q⟩
theorem znQ:lV zbe ex (fun _=>True):=fun x h=>by
 obtain ⟨v,k,a,e,b, -,c⟩:=zfK (sz:=16) a6 znp (lim:=512) a6 a6 x h;have e:zaG x 512=_:=e;refine ⟨v,k,a,?_,b,trivial,c⟩;unfold zbe;rw [e];rfl
theorem zhO {b:List Int}(hb:gX b)(hl:b.length≤65536):∃r,zbj b=some r∧((r.2=0∧ju r.1=true∧dZ r.1=b)∨r=(⟨[],[]⟩,6)):=by
 unfold zbj;rw [decide_eq_false a5,cond_false]
 have hr:zck b=some (some ⟨⟨0⟩,true,b,0⟩):=by
  unfold zck;rw [List.nil_append,fL (by unfold dd;omega)]
 rw [hr];simp only [Option.bind_some,Option.isSome_some,cond_true,Option.getD_some];have h:RdO ⟨⟨0⟩,true,b,0⟩:=⟨rfl,hb,Int.le_refl _,by show (0:Int)≤(b.length:Int);omega⟩;obtain ⟨v1,k1,a1,e1,b1, -,c1⟩:=zfK (sz:=8) a6 zgK (lim:=512) a6 a6 _ h;obtain ⟨v2,k2,a2,e2,b2, -,c2⟩:=zfK (sz:=24) a6 znQ (lim:=4096) a6 a6 _ (h.to (k:=k1) b1);have e1:za3 ⟨⟨0⟩,true,b,0⟩ 512=_:=e1;have e2:zas ⟨⟨k1⟩,true,b,a1⟩ 4096=_:=e2;rw [e1,Option.bind_some]
 show ∃r,(zas ⟨⟨k1⟩,true,b,a1⟩ 4096).bind _=some r∧_
 rw [e2,Option.bind_some];simp only [dN];by_cases he:zaK ⟨⟨k2⟩,true,b,a2⟩=0
 ·rw [decide_eq_false (fun hn=>hn he),cond_false,zf4,Option.bind_some]
  cases hp:ju ⟨v1,v2⟩
  ·exact q4d
  refine ⟨_,rfl, .inl ⟨rfl,hp,?_⟩⟩;have he:(bif decide (k2=0)&&decide (a2<(b.length:Int)) then (5:Int) else k2)=0:=he
  have hk:k2=0:=by
   by_cases hk:k2=0
   ·exact hk
   ·rw [decide_eq_false hk] at he;exact he
  (have ha:¬a2<(b.length:Int):=fun ha=>by rw [decide_eq_true hk,decide_eq_true ha] at he;cases he);obtain ⟨f2,r2,d2,q2⟩:=c2 hk;obtain ⟨f1,r1,d1,q1⟩:=c1 f2;obtain ⟨d,q⟩:=seq_ h.pos d1 q1 d2 q2;have e:dZ ⟨v1,v2⟩=(dq v1.length++v1.flatMap d7)++(dq v2.length++v2.flatMap ex):=rfl;have d:b.drop (0:Int).toNat=_:=d;rw [←e,show (0:Int).toNat=0 from rfl,List.drop_zero] at d;have hlen:=congrArg List.length d;rw [List.length_append] at hlen;rw [←e] at q;have q:a2=0+((dZ ⟨v1,v2⟩).length:Int):=q;have:r2=[]:=List.eq_nil_of_length_eq_zero a5;rw [this,List.append_nil] at d;exact d.symm
 ·rw [decide_eq_true he,cond_true];exact q4d
theorem zjT {fuel:Nat}{x:GProof}(hf:20≤fuel)(hok:ju x=true)(hl:(dZ x).length≤65536):zbv fuel x=some (dZ x,0):=by
 have hx:=zg4 hok;have a:=hx.ns;have b:=hx.nl
 have pf:∀ {a b:List Int},dZ x=a++b→a.length≤65536:=fun {a b} e=>by
  rw [e,List.length_append] at hl;omega
 have hw:∀(out:List Int) (n:Nat),n≤5000→(out++dq n).length≤65536→ms fuel ⟨⟨0⟩,out⟩ (n:Int)=some (out++dq n):=fun out n h1 h2=>by
  rw [zjs hf a5 h2];rfl
 have w1:=pf (a:=dq x.Stations.length) (b:=x.Stations.flatMap d7++(dq x.Lemmas.length++x.Lemmas.flatMap ex)) (by unfold dZ;simp only [List.append_assoc]);have w2:=pf (a:=dq x.Stations.length++x.Stations.flatMap d7) (b:=dq x.Lemmas.length++x.Lemmas.flatMap ex) rfl;have w3:=pf (a:=(dq x.Stations.length++x.Stations.flatMap d7)++dq x.Lemmas.length) (b:=x.Lemmas.flatMap ex) (by unfold dZ;simp only [List.append_assoc]);unfold zbv;rw [zf4,Option.bind_some,hok,Bool.not_true,cond_false,hw [] x.Stations.length a5 (by rw [List.nil_append];exact w1),Option.bind_some,List.nil_append];simp only [dN];refine (zmP (l:=x.Stations) (g:=d7) w2 (fun i next s hi hs=>?_)).trans ?_
 ·rw [zjs hf (by have:=hx.st _ (fX hi);omega) hs];rfl
 rw [hw _ x.Lemmas.length a5 w3,Option.bind_some];refine (zmP (l:=x.Lemmas) (g:=ex) (by rw [List.append_assoc];exact hl) (fun i next s hi hs=>?_)).trans ?_
 ·have hg:=hx.g _ (fX hi);have hn:=zdE hg; (have e:s++ex (cQ x.Lemmas i)=(s++dq (cQ x.Lemmas i).length)++(cQ x.Lemmas i).flatMap j0:=by unfold ex;rw [List.append_assoc]);rw [e] at hs ⊢;rw [hw s (cQ x.Lemmas i).length a5 (by rw [List.length_append] at hs;omega),Option.bind_some];refine zmP (l:=cQ x.Lemmas i) (g:=j0) hs (fun k nx s hk hs=>?_);have hc:=hg.good _ (fX hk); (have e:s++j0 (cQ (cQ x.Lemmas i) k)=(s++d7 (cQ (cQ x.Lemmas i) k).Station)++d7 (cQ (cQ x.Lemmas i) k).Channel:=by unfold j0;rw [List.append_assoc]);rw [e] at hs ⊢; (have hs2:(s++d7 (cQ (cQ x.Lemmas i) k).Station).length≤65536:=by rw [List.length_append] at hs;omega);rw [zjs hf a5 hs2,Option.bind_some]
  show (ms fuel ⟨⟨0⟩,s++d7 (cQ (cQ x.Lemmas i) k).Station⟩ _).bind _=_
  rw [zjs hf a5 hs];rfl
 unfold za2;rw [decide_eq_false (fun h=>h rfl),cond_false]; (have e:((dq x.Stations.length++x.Stations.flatMap d7)++dq x.Lemmas.length)++x.Lemmas.flatMap ex=dZ x:=by unfold dZ;simp only [List.append_assoc]);dsimp only;rw [e,List.nil_append,fL (by unfold dd;omega)];rfl
theorem zmJ {ρ α:Type}[Inhabited α]{l:List α}{g:α→List Int}{f:Nat→(List Int→ρ)→List Int→ρ}{k:List Int→ρ}{s0:List Int}{M:Nat}(hl:(s0++l.flatMap g).length≤M)(hf:∀i next s,i<l.length→(s++g (cQ l i)).length≤M→f i next s=next (s++g (cQ l i))):di f k (l.length - 0) 0 s0=k (s0++l.flatMap g):=by
 have key:∀m i s,i+m=l.length→(s++(l.drop i).flatMap g).length≤M→di f k m i s=k (s++(l.drop i).flatMap g):=by
  intro m
  induction m with
  |zero=>intro i s e _;rw [List.drop_eq_nil_of_le a5,List.flatMap_nil,List.append_nil];rfl
  |succ m ih=>
   intro i s e hs;rw [List.drop_eq_getElem_cons (show i<l.length by omega),List.flatMap_cons,←eh (show i<l.length by omega),←List.append_assoc] at hs ⊢;rw [←ih (i+1) (s++g (cQ l i)) a5 hs];exact hf i _ s a5 (by rw [List.length_append] at hs;omega)
 have:=key (l.length - 0) 0 s0 a5 (by rw [List.drop_zero];exact hl)
 rwa [List.drop_zero] at this
theorem zdU {fuel:Nat}{x:GProof}(hf:20≤fuel)(hx:InX x):zbK fuel x=some (dZ x):=by
 have a:=hx.ns;have b:=hx.nl;have hl:=x_n0 hx
 have pf:∀ {a b:List Int},dZ x=a++b→a.length≤10000000:=fun {a b} e=>by
  rw [e,List.length_append] at hl;omega
 have hw:∀(n:Nat),n≤5000→mK fuel (n:Int)=some (dq n):=fun n h1=>by
  rw [zfi hf a5];rfl
 have w2:=pf (a:=dq x.Stations.length++x.Stations.flatMap d7) (b:=dq x.Lemmas.length++x.Lemmas.flatMap ex) rfl;have w3:=pf (a:=(dq x.Stations.length++x.Stations.flatMap d7)++dq x.Lemmas.length) (b:=x.Lemmas.flatMap ex) (by unfold dZ;simp only [List.append_assoc]);unfold zbK;rw [hw x.Stations.length a5,Option.bind_some];simp only [dN];refine (zmJ (l:=x.Stations) (g:=d7) w2 (fun i next s hi hs=>?_)).trans ?_
 ·rw [zfi hf (by have:=hx.st _ (fX hi);omega),Option.bind_some,fL (by unfold dd;omega)]
 rw [hw x.Lemmas.length a5,Option.bind_some,fL (by unfold dd;omega)];refine (zmJ (l:=x.Lemmas) (g:=ex) (M:=10000000) (by rw [List.append_assoc];exact hl) (fun i next s hi hs=>?_)).trans ?_
 ·have hg:=hx.g _ (fX hi);have hn:=zdE hg; (have e:s++ex (cQ x.Lemmas i)=(s++dq (cQ x.Lemmas i).length)++(cQ x.Lemmas i).flatMap j0:=by unfold ex;rw [List.append_assoc]);rw [e] at hs ⊢; (have hs1:(s++dq (cQ x.Lemmas i).length).length≤10000000:=by rw [List.length_append] at hs;omega);rw [hw (cQ x.Lemmas i).length a5,Option.bind_some,fL (by unfold dd;omega)];refine zmJ (l:=cQ x.Lemmas i) (g:=j0) hs (fun k nx s hk hs=>?_);have hc:=hg.good _ (fX hk); (have e:s++j0 (cQ (cQ x.Lemmas i) k)=(s++d7 (cQ (cQ x.Lemmas i) k).Station)++d7 (cQ (cQ x.Lemmas i) k).Channel:=by unfold j0;rw [List.append_assoc]);rw [e] at hs ⊢; (have hs2:(s++d7 (cQ (cQ x.Lemmas i) k).Station).length≤10000000:=by rw [List.length_append] at hs;omega);rw [zfi hf a5,Option.bind_some,fL (by unfold dd;omega),zfi hf a5,Option.bind_some,fL (by unfold dd;omega)]
 (have e:((dq x.Stations.length++x.Stations.flatMap d7)++dq x.Lemmas.length)++x.Lemmas.flatMap ex=dZ x:=by unfold dZ;simp only [List.append_assoc])
 show some _=_
 rw [e]
def nmQ (s3:List Int×List Int):Option (Option (List Int)×List Int):=some (some s3.2,s3.1)
theorem zgl (fuel:Nat)(b:List Int)(many:Int):za0 fuel b many=dU (many≤9223372036854775807) (di (nmF fuel) nmQ (many.toNat - 0) 0 (b,[])):=rfl
theorem zfS {fuel m:Nat}{b:List Int}(hf:20≤fuel)(hb:gX b)(hm:m≤2000):∃o rest,za0 fuel b (m:Int)=some (o,rest)∧gX rest∧∀l,o=some l→l.length=m∧In56 l:=by
 rw [zgl,fL a5,show ((m:Int)).toNat - 0=m by omega]
 have key:∀d i (b acc:List Int),acc.length+d=m→gX b→In56 acc→∃o rest,di (nmF fuel) nmQ d i (b,acc)=some (o,rest)∧gX rest∧∀l,o=some l→l.length=m∧In56 l:=by
  intro d
  induction d with
  |zero=>
   intro i b acc e hb ha;refine ⟨some acc,b,rfl,hb,fun l hl=>?_⟩;obtain rfl:=Option.some.inj hl;exact ⟨by omega,ha⟩
  |succ d ih=>
   intro i b acc e hb ha;obtain ⟨v,rest,e1,b1,h1⟩:=zf9 hf hb
   show ∃o rest,(jb fuel b).bind _=some (o,rest)∧_
   rw [e1,Option.bind_some];dsimp only;by_cases hv:v<0
   ·rw [decide_eq_true hv,cond_true];exact ⟨none,[],rfl,fun x hx=>(by cases hx),fun l hl=>(by cases hl)⟩
   ·rw [decide_eq_false hv,cond_false,fL (by unfold dd;rw [List.length_append,List.length_singleton];omega)];refine ih (i+1) rest (acc++[v]) (by rw [List.length_append,List.length_singleton];omega) b1 (fun x hx=>?_);rcases List.mem_append.1 hx with h|h
    ·exact ha x h
    ·rw [List.mem_singleton] at h;omega
 exact key m 0 b [] a8 hb (fun x hx=>(by cases hx))
theorem zhd {fuel:Nat}{l rest:List Int}(hf:20≤fuel)(hb:gX rest)(hm:l.length≤2000)(hl:In56 l):za0 fuel (l.flatMap d7++rest) (l.length:Int)=some (some l,rest):=by
 rw [zgl,fL a5,show ((l.length:Int)).toNat - 0=l.length by omega]
 have key:∀d i,i+d=l.length→di (nmF fuel) nmQ d i ((l.drop i).flatMap d7++rest,l.take i)=some (some l,rest):=by
  intro d
  induction d with
  |zero=>
   intro i e;rw [List.drop_eq_nil_of_le a5,List.take_of_length_le a5];rfl
  |succ d ih=>
   intro i e; (have hi:i<l.length:=by omega);have hB:gX ((l.drop (i+1)).flatMap d7++rest):=lP (zdw fun x _=>kU _) hb;rw [List.drop_eq_getElem_cons hi,List.flatMap_cons,←eh hi,List.append_assoc]
   show (jb fuel _).bind _=_
   rw [zm1 hf hB (hl _ (fX hi)),Option.bind_some];dsimp only;rw [decide_eq_false (by have:=hl _ (fX hi);omega),cond_false,←zgJ hi,fL (by unfold dd;rw [List.length_take];omega)];exact ih (i+1) a5
 have:=key l.length 0 a5;rw [List.drop_zero,List.take_zero] at this;exact this
def jo (l:List Int)(n:Nat):List GChoice:=(List.range n).map fun k=>⟨cQ l (2*k),cQ l (2*k+1)⟩
theorem zla {ρ : Type} {l : List Int} {n : Nat} (hl : l.length = 2 * n) (hn : n ≤ 1000) (K : List GChoice → Option ρ) : di (fun (k_28 : Nat) (next27 : List GChoice → Option ρ) (g_26 : List GChoice) =>
      dU (0 ≤ (2 * (k_28 : Int)) ∧ (2 * (k_28 : Int)) < (l.length : Int)) <|
      dU (0 ≤ ((2 * (k_28 : Int)) + 1) ∧ ((2 * (k_28 : Int)) + 1) < (l.length : Int)) <|
      dU (dd (g_26 ++ [(GChoice.mk (cQ l ((2 * (k_28 : Int)).toNat)) (cQ l (((2 * (k_28 : Int)) + 1).toNat)))]).length 16) <|
      next27 (g_26 ++ [(GChoice.mk (cQ l ((2 * (k_28 : Int)).toNat)) (cQ l (((2 * (k_28 : Int)) + 1).toNat)))])) K (n - 0) 0 [] = K (jo l n) := by
  have key : ∀ d i, i + d = n → di (fun (k_28 : Nat) (next27 : List GChoice → Option ρ) (g_26 : List GChoice) =>
      dU (0 ≤ (2 * (k_28 : Int)) ∧ (2 * (k_28 : Int)) < (l.length : Int)) <|
      dU (0 ≤ ((2 * (k_28 : Int)) + 1) ∧ ((2 * (k_28 : Int)) + 1) < (l.length : Int)) <|
      dU (dd (g_26 ++ [(GChoice.mk (cQ l ((2 * (k_28 : Int)).toNat)) (cQ l (((2 * (k_28 : Int)) + 1).toNat)))]).length 16) <|
      next27 (g_26 ++ [(GChoice.mk (cQ l ((2 * (k_28 : Int)).toNat)) (cQ l (((2 * (k_28 : Int)) + 1).toNat)))])) K d i (jo l i) = K (jo l n) := by
    intro d
    induction d with
    | zero => intro i e; obtain rfl : i = n := by omega
              rfl
    | succ d ih =>
      intro i e; (have hlen : (jo l i).length = i := by unfold jo; simp)
      show dU _ _ = _
      rw [fL a5, fL a5, fL (by unfold dd; rw [List.length_append, List.length_singleton, hlen]; omega), show (2 * (i : Int)).toNat = 2 * i by omega, show (2 * (i : Int) + 1).toNat = 2 * i + 1 by omega]; (have e2 : jo l i ++ [⟨cQ l (2 * i), cQ l (2 * i + 1)⟩] = jo l (i + 1) := by unfold jo; rw [List.range_succ, List.map_append]; rfl); rw [e2]; exact ih (i + 1) a5
  rw [Nat.sub_zero]; exact key n 0 a5
def fl (g:List GChoice):List Int:=g.flatMap fun c=>[c.Station,c.Channel]
theorem zkk (g:List GChoice):(fl g).length=2*g.length:=by
 induction g with
 |nil=>rfl
 |cons c r ih=>show (c.Station :: c.Channel :: fl r).length=_;simp only [List.length_cons];omega
theorem zmF:∀(g:List GChoice) (k:Nat),k<g.length→cQ (fl g) (2*k)=(cQ g k).Station∧cQ (fl g) (2*k+1)=(cQ g k).Channel
 | [],k,h=>by simp at h
 |c :: r,0,h=>⟨rfl,rfl⟩
 |c :: r,k+1,h=>zmF r k (by rw [List.length_cons] at h;omega)
theorem znx (g:List GChoice):jo (fl g) g.length=g:=by
 unfold jo;refine List.ext_getElem a8 fun i h1 h2=>?_;rw [List.getElem_map,List.getElem_range];obtain ⟨a,b⟩:=zmF g i h2;rw [a,b,eh h2]
theorem zn2 (g:List GChoice):(fl g).flatMap d7=g.flatMap j0:=by
 induction g with
 |nil=>rfl
 |cons c r ih=>show (c.Station :: c.Channel :: fl r).flatMap d7=_;rw [List.flatMap_cons,List.flatMap_cons,List.flatMap_cons,ih,←List.append_assoc];rfl
def mJ (fuel:Nat)(i_19:Nat)(next18:(List Int×List Int×List (List GChoice)×List Int×List (List GChoice))→Option (GProof×Int))(s18:List Int×List Int×List (List GChoice)×List Int×List (List GChoice)):Option (GProof×Int):=
 (jb fuel s18.1).bind fun r59=>
 (bif ((decide (r59.1<0))||(decide (512<r59.1))) then
  some ((GProof.mk [] []),6)
  else
  (za0 fuel r59.2 (2*r59.1)).bind fun r73=>
  (bif (r73.1).isSome then
   dN (fun (g_24:List GChoice)=>
    dU (dd (s18.2.2.2.2++[g_24]).length 24) <|
    next18 (r73.2,s18.2.1,s18.2.2.1,s18.2.2.2.1,(s18.2.2.2.2++[g_24])))
   (fun k25=>
    di (fun (k_28:Nat) (next27:List GChoice→Option (GProof×Int)) (g_26:List GChoice)=>
     dU (0≤(2* (k_28:Int))∧(2* (k_28:Int))<((r73.1.getD default).length:Int)) <|
     dU (0≤((2* (k_28:Int))+1)∧((2* (k_28:Int))+1)<((r73.1.getD default).length:Int)) <|
     dU (dd (g_26++[(GChoice.mk (cQ (r73.1.getD default) ((2* (k_28:Int)).toNat)) (cQ (r73.1.getD default) (((2* (k_28:Int))+1).toNat)))]).length 16) <|
     next27 (g_26++[(GChoice.mk (cQ (r73.1.getD default) ((2* (k_28:Int)).toNat)) (cQ (r73.1.getD default) (((2* (k_28:Int))+1).toNat)))]))
    (fun (g_26:List GChoice)=>
     k25 g_26) (r59.1.toNat - 0) 0 [])
   else
   some ((GProof.mk [] []),6)))
def deK (fuel:Nat)(b:List Int)(s12:List Int×List Int×List (List GChoice)×List Int×List (List GChoice)):Option (GProof×Int):=
 dN (fun (x_30:Bool)=>
  (bif x_30 then
   some ((GProof.mk [] []),6)
   else
   some ((GProof.mk s12.2.2.2.1 s12.2.2.2.2),0)))
 (fun k31=>
  (bif decide (¬(s12.1.length:Int)=0) then
   k31 true
   else
   (bif !(zbE (GProof.mk s12.2.2.2.1 s12.2.2.2.2)) then
    k31 true
    else
    (zbK fuel (GProof.mk s12.2.2.2.1 s12.2.2.2.2)).bind fun r115=>
    k31 (!((jW r115) == (jW b))))))
theorem zeQ (fuel : Nat) (b : List Int) : zbN fuel b = (bif decide (65536 < (b.length : Int)) then some ((GProof.mk [] []), 5) else
    (jb fuel b).bind fun r18 => (bif ((decide (r18.1 < 0)) || (decide (512 < r18.1))) then some ((GProof.mk [] []), 6) else
      (za0 fuel r18.2 r18.1).bind fun r31 => (bif (r31.1).isSome then
        (jb fuel r31.2).bind fun r36 => (bif ((decide (r36.1 < 0)) || (decide (4096 < r36.1))) then some ((GProof.mk [] []), 6) else
          di (mJ fuel) (deK fuel b) (r36.1.toNat - 0) 0 (r36.2, [], [], (r31.1.getD default), []))
        else (jb fuel r31.2).bind fun r36 => some ((GProof.mk [] []), 6)))) := rfl
theorem zkh {fuel n : Nat} {i : Nat} {next : (List Int × List Int × List (List GChoice) × List Int × List (List GChoice)) → Option (GProof × Int)} {b r1 r2 l u st : List Int} {v acc : List (List GChoice)} (hn : n ≤ 512) (h1 : jb fuel b = some ((n : Int), r1)) (h2 : za0 fuel r1 ((2 * n : Nat) : Int) = some (some l, r2)) (hl : l.length = 2 * n) (ha : acc.length ≤ 5000) :
    mJ fuel i next (b, u, v, st, acc) = next (r2, u, v, st, acc ++ [jo l n]) := by
  unfold mJ;dsimp only; rw [h1, Option.bind_some];dsimp only; rw [decide_eq_false a5, decide_eq_false a5, Bool.or_self, cond_false, show (2 * (n : Int)) = ((2 * n : Nat) : Int) by omega, h2, Option.bind_some];simp only [Option.isSome_some, cond_true, Option.getD_some, dN, Int.toNat_natCast]; rw [zla hl a5, fL (by unfold dd; rw [List.length_append, List.length_singleton]; omega)]
theorem zmM {fuel:Nat}{b:List Int}(hf:20≤fuel)(hb:gX b)(s:List Int×List Int×List (List GChoice)×List Int×List (List GChoice)):∃r,deK fuel b s=some r∧((r.2=0∧ju r.1=true∧dZ r.1=b)∨r=(⟨[],[]⟩,6)):=by
 unfold deK;simp only [dN];by_cases h0:(s.1.length:Int)=0
 ·rw [decide_eq_false (fun h=>h h0),cond_false,zft]
  cases hok:ju ⟨s.2.2.2.1,s.2.2.2.2⟩
  ·exact q4d
  ·rw [Bool.not_true,cond_false,zdU hf (zg4 hok),Option.bind_some,zmp (zmR _) hb];by_cases he:dZ ⟨s.2.2.2.1,s.2.2.2.2⟩=b
   ·rw [decide_eq_true he];exact ⟨_,rfl, .inl ⟨rfl,hok,he⟩⟩
   ·rw [decide_eq_false he];exact q4d
 ·rw [decide_eq_true h0,cond_true];exact q4d
theorem zgs {fuel:Nat}{b:List Int}(hf:20≤fuel)(hb:gX b)(hl:b.length≤65536):∃r,zbN fuel b=some r∧((r.2=0∧ju r.1=true∧dZ r.1=b)∨r=(⟨[],[]⟩,6)):=by
 rw [zeQ,decide_eq_false a5,cond_false];obtain ⟨v1,r1,e1,b1,h1⟩:=zf9 hf hb;rw [e1,Option.bind_some];dsimp only
 cases hc:(decide (v1<0)||decide (512<v1))
 ·rw [Bool.or_eq_false_iff,decide_eq_false_iff_not,decide_eq_false_iff_not] at hc;obtain ⟨o,r2,e2,b2,h2⟩:=zfS (m:=v1.toNat) hf b1 a5;rw [show ((v1.toNat:Nat):Int)=v1 by omega] at e2;rw [cond_false,e2,Option.bind_some];obtain ⟨v3,r3,e3,b3,h3⟩:=zf9 hf b2
  cases o with
  |none=>
   show ∃r,(jb fuel r2).bind _=some r∧_
   rw [e3];exact q4d
  |some st=>
   show ∃r,(jb fuel r2).bind _=some r∧_
   rw [e3,Option.bind_some];dsimp only
   cases hc3:(decide (v3<0)||decide (4096<v3))
   ·rw [Bool.or_eq_false_iff,decide_eq_false_iff_not,decide_eq_false_iff_not] at hc3;rw [cond_false]
    have key:∀d i (b':List Int) (acc:List (List GChoice)),acc.length+d≤4096→gX b'→∃r,di (mJ fuel) (deK fuel b) d i (b',[],[],st,acc)=some r∧((r.2=0∧ju r.1=true∧dZ r.1=b)∨r=(⟨[],[]⟩,6)):=by
     intro d
     induction d with
     |zero=>intro i b' acc _ _;exact zmM hf hb _
     |succ d ih=>
      intro i b' acc ha hb';obtain ⟨v4,r4,e4,b4,h4⟩:=zf9 hf hb';by_cases hv:v4<0∨512<v4
      ·refine ⟨(⟨[],[]⟩,6),?_, .inr rfl⟩
       show mJ fuel i _ (b',[],[],st,acc)=_
       unfold mJ;dsimp only;rw [e4,Option.bind_some];dsimp only; (have:(decide (v4<0)||decide (512<v4))=true:=by rw [Bool.or_eq_true,decide_eq_true_eq,decide_eq_true_eq];exact hv);rw [this,cond_true]
      ·obtain ⟨o5,r5,e5,b5,h5⟩:=zfS (m:=2*v4.toNat) hf b4 a5
       cases o5 with
       |none=>
        refine ⟨(⟨[],[]⟩,6),?_, .inr rfl⟩
        show mJ fuel i _ (b',[],[],st,acc)=_
        unfold mJ;dsimp only;rw [e4,Option.bind_some];dsimp only; (have:(decide (v4<0)||decide (512<v4))=false:=by rw [Bool.or_eq_false_iff,decide_eq_false_iff_not,decide_eq_false_iff_not];omega);rw [this,cond_false,show 2*v4=((2*v4.toNat:Nat):Int) by omega,e5];rfl
       |some l=>
        show ∃r,mJ fuel i _ (b',[],[],st,acc)=some r∧_
        rw [zkh (n:=v4.toNat) a5 (by rw [show ((v4.toNat:Nat):Int)=v4 by omega];exact e4) e5 (h5 l rfl).1 a5];exact ih (i+1) r5 _ (by rw [List.length_append,List.length_singleton];omega) b5
    exact key _ 0 r3 [] cN b3
   ·rw [cond_true];exact q4d
 ·rw [cond_true];exact q4d
theorem zgf {fuel:Nat}{x:GProof}(hf:20≤fuel)(hok:ju x=true)(hl:(dZ x).length≤65536):zbN fuel (dZ x)=some (x,0):=by
 have hx:=zg4 hok;have a:=hx.ns;have b:=hx.nl;have bL:∀L:List (List GChoice),gX (L.flatMap ex):=fun L=>zdw fun g _=>byt_G g;have bR:gX (dq x.Lemmas.length++x.Lemmas.flatMap ex):=lP (kU _) (bL _); (have e0:dZ x=dq x.Stations.length++(x.Stations.flatMap d7++(dq x.Lemmas.length++x.Lemmas.flatMap ex)):=by unfold dZ;simp only [List.append_assoc])
 have e1:jb fuel (dZ x)=some ((x.Stations.length:Int),x.Stations.flatMap d7++(dq x.Lemmas.length++x.Lemmas.flatMap ex)):=by
  rw [e0];exact zjq hf (lP (zdw fun n _=>kU _) bR) a5
 have e2:=zhd (l:=x.Stations) (rest:=dq x.Lemmas.length++x.Lemmas.flatMap ex) hf bR a5 (fun n hn=>by have:=hx.st n hn;omega);have e3:=zjq (n:=x.Lemmas.length) (rest:=x.Lemmas.flatMap ex) hf (bL _) a5;rw [zeQ,decide_eq_false a5,cond_false,e1,Option.bind_some];dsimp only;rw [decide_eq_false a5,decide_eq_false a5,Bool.or_self,cond_false,e2,Option.bind_some]
 show (jb fuel _).bind _=_
 rw [e3,Option.bind_some];dsimp only;rw [decide_eq_false a5,decide_eq_false a5,Bool.or_self,cond_false,show ((x.Lemmas.length:Int)).toNat - 0=x.Lemmas.length by omega]
 have key:∀d i,i+d=x.Lemmas.length→di (mJ fuel) (deK fuel (dZ x)) d i ((x.Lemmas.drop i).flatMap ex,[],[],x.Stations,x.Lemmas.take i)=some (x,0):=by
  intro d
  induction d with
  |zero=>
   intro i e;rw [List.drop_eq_nil_of_le a5,List.take_of_length_le a5]
   show deK fuel (dZ x) ([],[],[],x.Stations,x.Lemmas)=_
   unfold deK;simp only [dN]; (have h0:decide (¬((([]:List Int).length:Nat):Int)=0)=false:=by decide);rw [h0,cond_false,zft];have hok2:ju ⟨x.Stations,x.Lemmas⟩=true:=hok;rw [hok2,Bool.not_true,cond_false,zdU hf (zg4 hok2),Option.bind_some,zmp (zmR _) (zmR _),decide_eq_true rfl]
   rfl
  |succ d ih=>
   intro i e; (have hi:i<x.Lemmas.length:=by omega);have hg:=hx.g _ (fX hi);have hn:=zdE hg;rw [List.drop_eq_getElem_cons hi,List.flatMap_cons,←eh hi]
   have f1:jb fuel (ex (cQ x.Lemmas i)++(x.Lemmas.drop (i+1)).flatMap ex)=some (((cQ x.Lemmas i).length:Int),(fl (cQ x.Lemmas i)).flatMap d7++(x.Lemmas.drop (i+1)).flatMap ex):=by
    unfold ex;rw [List.append_assoc,zn2];exact zjq hf (lP (zdw fun c _=>lP (kU _) (kU _)) (bL _)) a5
   have f2:=zhd (l:=fl (cQ x.Lemmas i)) (rest:=(x.Lemmas.drop (i+1)).flatMap ex) hf (bL _) (by rw [zkk];omega) (fun y hy=>by
    obtain ⟨c,hc,hy⟩:=List.mem_flatMap.1 hy;have:=hg.good c hc;simp only [List.mem_cons,List.not_mem_nil,or_false] at hy
    omega)
   rw [zkk] at f2
   show mJ fuel i _ _=_
   rw [zkh hn f1 f2 (zkk _) (by rw [List.length_take];omega),znx,←zgJ hi];exact ih (i+1) a5
 have:=key x.Lemmas.length 0 a5;rw [List.drop_zero,List.take_zero] at this;exact this
theorem znk {fuel:Nat}(hf:100000≤fuel)(x:GProof):∃b,zct fuel x 30=some b∧(b=true→x.Stations.length≤20∧x.Lemmas.length≤30∧∀g∈x.Lemmas,g.length≤20):=by
 unfold zct;obtain ⟨b2,hb2,hb3⟩:=zkq (fuel:=fuel) (l:=x.Lemmas) (most:=30) a5 hf;simp only [dN,Option.bind_some,hb2];by_cases h1:(x.Stations.length:Int)≤20
 ·rw [decide_eq_true h1];refine ⟨b2,rfl,fun h=>?_⟩;have:=hb3 h;exact ⟨by omega,by omega,this.2⟩
 ·rw [decide_eq_false h1];exact ⟨false,rfl,fun h=>by cases h⟩
theorem zhT {fuel:Nat}{b:List Int}(hf:20≤fuel)(hb:gX b)(hl:b.length≤65536):∃r,zbj b=some r∧zbN fuel b=some r:=by
 obtain ⟨r,e,h⟩:=zhO hb hl;obtain ⟨q,e2,h2⟩:=zgs hf hb hl;refine ⟨r,e,?_⟩;rcases h with ⟨a1,a2,a3⟩|h
 ·have:=zgf hf a2 (by rw [a3];exact hl);rw [a3] at this;rw [this];obtain ⟨r1,r2⟩:=r
  cases a1;rfl
 ·rcases h2 with ⟨a1,a2,a3⟩|h2
  ·have:=zfP a2 (by rw [a3];exact hl);rw [a3,e,h] at this;have h6:(6:Int)=0:=congrArg Prod.snd (Option.some.inj this);omega
  ·rw [h];rw [h2] at e2;exact e2
theorem zgZ {fuel:Nat}(hf:100000≤fuel)(x:GProof)(b:List Int)(hb:∀z∈b,0≤z∧z≤255):zbQ fuel x b=some true:=by
 have hkn:=zkI hf;unfold zbQ;obtain ⟨s,hs,hsz⟩:=znk hf x;rw [hs,Option.bind_some]
 cases hc:(!s||decide (1000<(b.length:Int)))
 ·rw [Bool.or_eq_false_iff,Bool.not_eq_false',decide_eq_false_iff_not] at hc;obtain ⟨z1,z2,z3⟩:=hsz hc.1;obtain ⟨r,e1,e2⟩:=zhT (fuel:=fuel) a5 hb a5;rw [cond_false,e1,Option.bind_some,e2,Option.bind_some,decide_eq_false (fun h=>h rfl),zjm,Bool.not_true,Bool.or_self,cond_false,zft]
  cases hok:ju x
  ·have e3:zbv fuel x=some ([],2):=by
    unfold zbv;rw [zf4,Option.bind_some,hok];rfl
   rw [e3,Option.bind_some];simp only [dN,hkn,Option.bind_some]
   rfl
  ·have hx:=zg4 hok
   have hl:(dZ x).length≤65536:=by
    have:=x_n hx (m:=20) z3;have h4:(2+4*20) *x.Lemmas.length≤82*30:=Nat.mul_le_mul a5 z2;omega
   rw [zjT a5 hok hl,Option.bind_some,Bool.not_true,cond_false];dsimp only;rw [zfP hok hl,Option.bind_some];simp only [dN];rw [zdU a5 hx];simp only [Option.bind_some,zjm,hkn,decide_true,cond_true,beq_self_eq_true]
 ·rw [cond_true,hkn];rfl
end Go.Proofs.YtogbggmckmnlfaaGreatDoor
namespace Go.Proofs.YtogbggmckmnlfaaGreatDoor
open Go.RowKit Go.ChangeShapes Go.WideShapes Go.Deep
def Opens {H:Type}(enc:TypeId×Value→H)(w:World)(base:Nat)(spare:Nat→Bool)(held:Bool)(t:TypeId){α:Type}(R:List Value→α→Prop):Prop:=
 ∀fuel cs y,DataW.trod enc Tryz.prog w base spare held fuel t cs=some y→∃x,R cs x
section
variable {H:Type}{enc:TypeId×Value→H}{w:World}{base:Nat}{spare:Nat→Bool}{held:Bool}
theorem Opens.int {t:TypeId}(ht:Tryz.prog.underlying t=some (.int .i64)):Opens enc w base spare held t (fun cs (x:Int)=>cs=[.int .i64 x]):=fun fuel cs y h=>by
 obtain ⟨k,hk,_⟩:=DataW.trod_int ht h;exact ⟨k,hk⟩
theorem zmN {a:Addr}{v:Value}(h:w.cell? a=some v):Cb w a.block:=by
 unfold World.cell? at h
 split at h
 all_goals (first|exact ⟨_,_,_,by assumption⟩|simp at h|skip)
theorem Opens.any {t e : TypeId} {k : Nat} {α : Type} [Inhabited α] {R : List Value → α → Prop} (ht : Tryz.prog.underlying t = some (.slice e)) (hk : Tryz.prog.cellsOf e = k) (hpos : 0 < k) (ho : Opens enc w base spare held e R) :
    Opens enc w base spare held t (fun cs (l : List α) => ∃ v c, cs = [v] ∧ SlC (Frz.all w) v k c ∧ c.length = l.length ∧ ∀ i, i < l.length → R (cQ c i) (cQ l i)) := fun fuel cs y h => by
  rcases open_slice ht h with ⟨h0, _⟩ | ⟨a, len, cap, m, n, D, Pl, hcs, hb, hl, hm, hmm, _, hx⟩
  · exact ⟨[], _, [], h0, SlC.nil _ _, rfl, fun i hi => absurd hi (Nat.not_lt_zero i)⟩
  · subst hcs; (have hlm : len ≤ m := by rw [hmm]; split <;> omega)
    have each : ∀ i, i < m → ∃ x : List Value × α, x.1.length = k ∧ R x.1 x.2 ∧ ∀ j, j < k → w.cell? (a.add (i * k + j)) = x.1[j]? := fun i hi => by
      obtain ⟨cs', h1, h2⟩ := hx i hi; rw [hk] at h1; obtain ⟨_, hlen, hcell⟩ := World.cells?_some h1; obtain ⟨x, hR⟩ := ho _ _ _ h2; exact ⟨(cs', x), hlen, hR, fun j hj => by rw [← hcell j hj, add_add]⟩
    obtain ⟨X, hX⟩ := choose_lt each
    have hn : ∀ i, i < len → cQ ((List.range len).map fun i => (X i).1) i = (X i).1 := fun i hi => by
      rw [eh (by simpa using hi)]; simp
    have hn2 : ∀ i, i < len → cQ ((List.range len).map fun i => (X i).2) i = (X i).2 := fun i hi => by
      rw [eh (by simpa using hi)]; simp
    refine ⟨(List.range len).map fun i => (X i).2, _, (List.range len).map fun i => (X i).1, rfl, ⟨some a, cap, by simp, by simpa using hl, by unfold maxLen at hm; omega, fun c hc => ?_, fun hp => ?_⟩, by simp, fun i hi => ?_⟩
    · simp at hc; obtain ⟨i, hi, rfl⟩ := hc; exact (hX i a5).1
    · (have hp' : 0 < len := by simpa using hp); have c0 := (hX 0 a5).2.2 0 hpos; have hx0 := (hX 0 a5).1; rw [List.getElem?_eq_getElem a5] at c0; have hcb := zmN c0; have hs := World.cell?_spot c0; simp [Addr.add] at hs hcb; obtain ⟨b, off, sp⟩ := a; simp at hs hcb; subst hs; refine ⟨b, off, rfl, hcb, fun i hi j hj => ?_⟩; simp at hi; rw [hn i hi] at hj ⊢; have hxi := hX i a5; have := hxi.2.2 j a5;refine Eq.trans ?_ this
      show w.cell? _ = _
      rw [zd0, Nat.add_assoc]
    · simp at hi; rw [hn i hi, hn2 i hi]; exact (hX i a5).2.1
theorem jF {t e : TypeId} {k : Nat} {α : Type} [Inhabited α] {en : α → List Value} (ht : Tryz.prog.underlying t = some (.slice e)) (hk : Tryz.prog.cellsOf e = k) (hpos : 0 < k) (ho : Opens enc w base spare held e (fun cs (x : α) => cs = en x)) :
    Opens enc w base spare held t (fun cs (l : List α) => ∃ v, cs = [v] ∧ SlC (Frz.all w) v k (l.map en)) := fun fuel cs y h => by
  obtain ⟨l, v, c, h1, h2, h3, h4⟩ := Opens.any ht hk hpos ho _ _ _ h;refine ⟨l, v, h1, ?_⟩
  have : c = l.map en := by
    apply List.ext_getElem (by simpa using h3); intro i hi hi2; rw [← eh hi, h4 i a5, List.getElem_map, eh a5]
  rw [← this]; exact h2
theorem Opens.bytes {t e : TypeId} (ht : Tryz.prog.underlying t = some (.slice e)) (he : Tryz.prog.underlying e = some (.int .u8)) (hk : Tryz.prog.cellsOf e = 1) :
    Opens enc w base spare held t (fun cs (l : List Int) => ∃ v, cs = [v] ∧ SlC (Frz.all w) v 1 (l.map (eK .u8)) ∧ ∀ x ∈ l, 0 ≤ x ∧ x ≤ 255) := fun fuel cs y h => by
  have ho : Opens enc w base spare held e (fun cs (x : Int) => cs = eK .u8 x ∧ (0 ≤ x ∧ x ≤ 255)) := fun fuel cs y h => by
    obtain ⟨k, h1, _, h2⟩ := DataW.trod_int he h;refine ⟨k, h1, ?_⟩; (have e1 : IntKind.u8.min = 0 := by decide); (have e2 : IntKind.u8.max = 255 := by decide); simp only [Lit.wf, e1, e2, Bool.and_eq_true, decide_eq_true_eq] at h2; exact h2
  obtain ⟨l, v, c, h1, h2, h3, h4⟩ := Opens.any ht hk a6 ho _ _ _ h; refine ⟨l, v, h1, ?_, fun x hx => ?_⟩
  · have : c = l.map (eK .u8) := by
      apply List.ext_getElem (by simpa using h3); intro i hi hi2; rw [← eh hi, (h4 i a5).1, List.getElem_map, eh a5]
    rw [← this]; exact h2
  · obtain ⟨i, hi, e⟩ := List.mem_iff_getElem.1 hx; have := (h4 i hi).2; rw [eh hi, e] at this; exact this
theorem lK {t e : TypeId} {k : Nat} {α : Type} [Inhabited α] {rep : Frz → List Value → α → Prop} (ht : Tryz.prog.underlying t = some (.slice e)) (hk : Tryz.prog.cellsOf e = k) (hpos : 0 < k) (ho : Opens enc w base spare held e (rep (Frz.all w))) :
    Opens enc w base spare held t (fun cs (l : List α) => ∃ v c, cs = [v] ∧ SlD rep (Frz.all w) v k c l) := fun fuel cs y h => by
  obtain ⟨l, v, c, h1, h2, h3, h4⟩ := Opens.any ht hk hpos ho _ _ _ h; exact ⟨l, v, c, h1, h2, h3, h4⟩
end
end Go.Proofs.YtogbggmckmnlfaaGreatDoor
