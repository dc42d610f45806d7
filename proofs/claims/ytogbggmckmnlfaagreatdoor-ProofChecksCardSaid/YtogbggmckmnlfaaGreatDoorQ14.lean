/- Wa Wn Wb Wc Yz Wd Y1 We Of: shortened and put together by squeeze.py. -/
import Derived.Test.YtogbggmckmnlfaaGreatDoorQ13
import Derived.Deep.Slices
import Derived.ChangeArms
set_option maxRecDepth 100000
set_option maxHeartbeats 4000000
set_option linter.unusedVariables false
set_option linter.unusedSectionVars false
set_option linter.unusedSimpArgs false
namespace Go.Proofs.YtogbggmckmnlfaaGreatDoor
open Go.RowKit
theorem zgx (p:GProblem):okP p=gB p:=Option.some.inj ((zhw p).symm.trans zhQ)
theorem zhD (p:GProblem)(st:List Int):zbI p st=some (zjD p st):=by
 unfold zbI zjD;rw [zew,←zgx]
 cases h1:okP p
 ·rfl
 cases h2:kl st
 ·rfl
 have hD:=fy h1;have hg:=zd0 (fy (fR h1));have hi:=fy (fR (fR h1));have hl:=zjx hD hi;have g1:=hg.np;have g2:=hg.nl;have g3:=hg.nc;obtain ⟨s,h3,h4⟩:=of_x (l:=st) (zjq h2);obtain ⟨o,m3,m4⟩:=zli (p:=p) (by unfold dr;omega) (fun d hd=>zlR hD hd)
 show (zbR st).bind _=_
 rw [h3]
 show (zby p).bind _=_
 rw [m3]
 show (bif !(zaq s o) then _ else _)=_
 rw [zkF h4 h2 m4]
 cases st.all (dQ p)
 ·rfl
 refine (zoB (st:=st) a5 (fun i next s hin hr=>?_)).1.trans ?_
 ·rw [zf4,zey h4 h2,Option.bind_some];unfold gD
  cases d8 st (cJ p.Domains i).Station
  ·rfl
  ·rw [cond_true,cond_true,gb (by have:=zox (List.all_eq_true.1 hD _ (fo hin));unfold dr;omega),gb (hr _)]
 refine (znQ (st:=st) (s0:=iY (gD p st) (p.Domains.length - 0) ([],[],[],[])) (ms a5) a5 (fun i next s hin hr=>?_)).1.trans ?_
 ·rw [zf4,zf4,zey h4 h2,zey h4 h2,Option.bind_some];unfold gP
  show (bif d8 st (cJ p.Rules.Pairs i).A then _ else _)=_
  cases d8 st (cJ p.Rules.Pairs i).A
  ·rfl
  ·cases d8 st (cJ p.Rules.Pairs i).B
   ·rfl
   ·show ep _ _=_
    rw [gb (hr _)];rfl
 refine (znT (st:=st) (s0:=iY (gP p st) (p.Rules.Pairs.length - 0) (iY (gD p st) (p.Domains.length - 0) ([],[],[],[]))) (inv2 (ms a5) a5) a5 (fun i next s hin hr=>?_)).1.trans ?_
 ·rw [zf4,zf4,zey h4 h2,zey h4 h2,Option.bind_some];unfold gL
  show (bif d8 st (cJ p.Rules.Loads i).To then _ else _)=_
  cases d8 st (cJ p.Rules.Loads i).To
  ·rfl
  ·cases d8 st (cJ p.Rules.Loads i).From
   ·rfl
   ·show ep _ _=_
    rw [gb (hr _)];rfl
 refine (zo6 (st:=st) (s0:=iY (gL p st) (p.Rules.Loads.length - 0) (iY (gP p st) (p.Rules.Pairs.length - 0) (iY (gD p st) (p.Domains.length - 0) ([],[],[],[])))) (inv3 (inv2 (ms a5) a5) a5) a5 (fun i next s hin hr=>?_)).trans ?_
 ·rw [zf4,zey h4 h2,Option.bind_some];unfold gC
  cases d8 st (cJ p.Rules.Caps i).Station
  ·rfl
  ·rw [cond_true,cond_true,gb (hr _)]
 rfl
def okL (x:GProof)(i:Nat):Bool:=(lK (cJ x.Lemmas i)&&((decide (((cJ x.Lemmas i).length:Int)=0)) == (decide ((i:Int)=((x.Lemmas.length:Int) - 1)))))&&(cJ x.Lemmas i).all fun c=>d8 x.Stations c.Station
def lv (x:GProof):Bool:=kl x.Stations&&(!((decide ((x.Lemmas.length:Int)<1))||(decide (4096<(x.Lemmas.length:Int))))&&(List.range x.Lemmas.length).all (okL x))
theorem zgv (x:GProof):zb6 x=some (lv x):=by
 unfold zb6 lv
 have e:zcg [] x.Stations=some (bif kl x.Stations then ([],0) else ([],2)):=by
  rw [zou (l:=[]) (st:=x.Stations) a9]
  cases kl x.Stations <;> rfl
 rw [e,Option.bind_some]
 cases h2:kl x.Stations
 ·rfl
 rw [cond_true]
 show (bif decide (¬(0:Int)=0) then _ else _)=_
 rw [decide_eq_false a5,cond_false]
 cases h3:(decide ((x.Lemmas.length:Int)<1))||(decide (4096<(x.Lemmas.length:Int)))
 ·obtain ⟨s,h4,h5⟩:=of_x (l:=x.Stations) (zjq h2);rw [cond_false,h4,Option.bind_some];refine lI ?_;refine (zdM (z:=some false) (fun i=>okL x i) (fun i next hi=>?_)).trans ?_
  ·have inner:c8 (fun (k:Nat) (nx:Unit→Option Bool) (_:Unit)=>(lY s ((cJ (cJ x.Lemmas i) k).Station)).bind fun r=>bif !r then some false else nx ()) (fun (_:Unit)=>next ()) (cJ x.Lemmas i).length 0 ()=bif ((cJ x.Lemmas i).all fun c=>d8 x.Stations c.Station) then next () else some false:=
    (zdM (z:=some false) (fun k=>d8 x.Stations (cJ (cJ x.Lemmas i) k).Station) (fun k nx hk=>by rw [zf4,zey h5 h2,Option.bind_some];cases d8 x.Stations (cJ (cJ x.Lemmas i) k).Station <;> rfl)).trans (by rw [zcw (q:=fun c:GChoice=>d8 x.Stations c.Station)])
   rw [inner];unfold okL
   cases lK (cJ x.Lemmas i) <;> cases ((decide (((cJ x.Lemmas i).length:Int)=0)) == (decide ((i:Int)=((x.Lemmas.length:Int) - 1)))) <;> rfl
  ·cases (List.range x.Lemmas.length).all fun i=>okL x i <;> rfl
 ·rfl
theorem zhu (x:GProof):zbL x=lv x:=by
 unfold zbL lv;rw [zfu]
 cases h2:kl x.Stations
 ·rfl
 cases h3:decide ((x.Lemmas.length:Int)<1)
 ·cases h4:decide (4096<(x.Lemmas.length:Int))
  ·simp only [dI,Nat.sub_zero,Bool.not_true,Bool.or_self,cond_false];refine (zdM (z:=false) (fun i=>okL x i) (fun i next hi=>?_)).trans ?_
   ·have inner:c8 (fun (k:Nat) (nx:Unit→Bool) (_:Unit)=>bif !(d8 x.Stations ((cJ (cJ x.Lemmas i) k).Station)) then false else nx ()) (fun (_:Unit)=>next ()) (cJ x.Lemmas i).length 0 ()=bif ((cJ x.Lemmas i).all fun c=>d8 x.Stations c.Station) then next () else false:=
     (zdM (z:=false) (fun k=>d8 x.Stations (cJ (cJ x.Lemmas i) k).Station) (fun k nx hk=>by cases d8 x.Stations (cJ (cJ x.Lemmas i) k).Station <;> rfl)).trans (by rw [zcw (q:=fun c:GChoice=>d8 x.Stations c.Station)])
    rw [inner,zf1,←zfZ];unfold okL
    cases lK (cJ x.Lemmas i) <;> cases ((decide (((cJ x.Lemmas i).length:Int)=0)) == (decide ((i:Int)=((x.Lemmas.length:Int) - 1)))) <;> rfl
   ·cases (List.range x.Lemmas.length).all fun i=>okL x i <;> rfl
  ·rfl
 ·rfl
structure OkM (st:List Int) (M:List (List GChoice)):Prop where
 hS:kl st=true
 n:M.length<4096
 g:∀g∈M,lK g=true∧g≠[]∧(g.all fun c=>d8 st c.Station)=true
theorem nthA {M:List (List GChoice)}{i:Nat}(hi:i<M.length):cJ (M++[[]]) i=cJ M i:=by rw [dW (show i<(M++[[]]).length by simp;omega),dW hi,List.getElem_append_left hi]
theorem OkM.sub {st:List Int}{M M':List (List GChoice)}(h:OkM st M)(hs:M'.Sublist M):OkM st M':=⟨h.hS,Nat.lt_of_le_of_lt hs.length_le h.n,fun g hg=>h.g g (hs.subset hg)⟩
theorem zo9 {x:GProof}(h:lv x=true):∃M,x.Lemmas=M++[[]]∧OkM x.Stations M:=by
 unfold lv at h;have h1:=fy h;have h2:=fy (fR h);have h3:=List.all_eq_true.1 (fR (fR h));rw [Bool.not_eq_true',Bool.or_eq_false_iff,decide_eq_false_iff_not,decide_eq_false_iff_not] at h2; (have hne:x.Lemmas≠[]:=fun e=>by rw [e] at h2;simp at h2);have hlast:=h3 (x.Lemmas.length - 1) (List.mem_range.2 a5)
 have hz:cJ x.Lemmas (x.Lemmas.length - 1)=[]:=by
  unfold okL at hlast;have:=fR (fy hlast);rw [decide_eq_true (show ((x.Lemmas.length - 1:Nat):Int)=(x.Lemmas.length:Int) - 1 by omega),beq_iff_eq,decide_eq_true_eq] at this;exact List.eq_nil_of_length_eq_zero a5
 have he:x.Lemmas=x.Lemmas.dropLast++[[]]:=by
  have h4:=List.dropLast_concat_getLast hne;rw [List.getLast_eq_getElem,←dW (show x.Lemmas.length - 1<x.Lemmas.length by omega),hz] at h4;exact h4.symm
 refine ⟨x.Lemmas.dropLast,he,h1,by rw [List.length_dropLast];omega,fun g hg=>?_⟩;obtain ⟨i,hi,e⟩:=im hg;rw [List.length_dropLast] at hi;have h5:=h3 i (List.mem_range.2 a5)
 have e2:cJ x.Lemmas i=g:=by
  rw [←e];have:=nthA (M:=x.Lemmas.dropLast) (i:=i) (by rw [List.length_dropLast];omega);rw [←he] at this;exact this
 unfold okL at h5;rw [e2,decide_eq_false (show ¬(i:Int)=(x.Lemmas.length:Int) - 1 by omega)] at h5;refine ⟨fy (fy h5),fun h0=>?_,fR h5⟩;have:=fR (fy h5);rw [h0] at this;cases this
structure SubP (p:GProblem) (d:List GDomain):Prop where
 sub:SubD d p.Domains
 ord:OrdD d p.Domains
section
variable {p:GProblem}{d:List GDomain}
theorem SubP.len (h:SubP p d):d.length=p.Domains.length:=h.sub.1
theorem SubP.inc (hG:GG p)(h:SubP p d){i j:Nat}(hi:i<d.length)(hj:j<d.length)(e:(cJ d i).Station=(cJ d j).Station):i=j:=by
 (have hi':i<p.Domains.length:=by rw [←h.len];exact hi); (have hj':j<p.Domains.length:=by rw [←h.len];exact hj);rw [(h.sub.2 i hi').1,(h.sub.2 j hj').1] at e;rcases Nat.lt_trichotomy i j with h1|h1|h1
 ·have:=hG.inc i j h1 hj';omega
 ·exact h1
 ·have:=hG.inc j i h1 hi';omega
theorem SubP.inj (hG:GG p)(h:SubP p d){x y:GDomain}(hx:x∈d)(hy:y∈d)(e:x.Station=y.Station):x=y:=by
 obtain ⟨i,hi,rfl⟩:=im hx;obtain ⟨j,hj,rfl⟩:=im hy;rw [h.inc hG hi hj e]
theorem SubP.st (hG:GG p)(h:SubP p d){x:GDomain}(hx:x∈d):0≤x.Station∧x.Station≤511:=by
 obtain ⟨i,hi,rfl⟩:=im hx; (have hi':i<p.Domains.length:=by rw [←h.len];exact hi);rw [(h.sub.2 i hi').1];exact hG.st _ (fo hi')
theorem SubP.ch (hG:GG p)(h:SubP p d){x:GDomain}(hx:x∈d){c:Int}(hc:c∈x.Channels):2≤c∧c≤51:=by
 obtain ⟨i,hi,rfl⟩:=im hx; (have hi':i<p.Domains.length:=by rw [←h.len];exact hi);exact (hG.chs _ (fo hi')).2 _ ((h.sub.2 i hi').2 c hc)
theorem SubP.has (h:SubP p d){s:Int}(hs:iX p s=true):∃x∈d,x.Station=s:=by
 obtain ⟨x,hx,rfl⟩:=gJ.1 hs;obtain ⟨i,hi,rfl⟩:=im hx;exact ⟨_,fo (by rw [h.len];exact hi),(h.sub.2 i hi).1⟩
theorem zhL {s c:Int}(h:kG p s c=true):iX p s=true:=by
 obtain ⟨x,hx,e,_⟩:=iT.1 h;exact gJ.2 ⟨x,hx,e⟩
def lA (d:List GDomain)(v:Vec 512 Int):Prop:=∀x∈d,Vec.get v x.Station.toNat=bif decide (x.Channels.length=1) then cJ x.Channels 0 else 0
theorem gM {c:GChoice}:c∈ik d↔∃x∈d,x.Channels.length=1∧c=⟨x.Station,cJ x.Channels 0⟩:=by
 unfold ik;rw [List.mem_map];constructor
 ·rintro ⟨x,hx,rfl⟩;rw [List.mem_filter,decide_eq_true_eq] at hx;exact ⟨x,hx.1,hx.2,rfl⟩
 ·rintro ⟨x,hx,h1,rfl⟩;exact ⟨x,List.mem_filter.2 ⟨hx,decide_eq_true h1⟩,rfl⟩
theorem ml {α:Type}[Inhabited α]{l:List α}{i:Nat}(hi:i<l.length):l.take (i+1)=l.take i++[cJ l i]:=by
 rw [List.take_succ_eq_append_getElem hi,dW hi]
theorem zlv {m:List GDomain×Bool}(hG:GG p)(h:SubP p m.1)(h2:m.2=true):∃v,zbG p m=some v∧lA m.1 v:=by
 (have e1:i7 m=ik m.1:=by unfold i7;rw [h2];rfl)
 have hin:∀c∈ik m.1,∀c'∈ik m.1,c.Station=c'.Station→c=c':=fun c hc c' hc' e=>by
  obtain ⟨x,hx,_,rfl⟩:=gM.1 hc;obtain ⟨y,hy,_,rfl⟩:=gM.1 hc';rw [h.inj hG hx hy e]
 have hst:∀c∈ik m.1,0≤c.Station∧c.Station≤511:=fun c hc=>by
  obtain ⟨x,hx,_,rfl⟩:=gM.1 hc;exact h.st hG hx
 unfold zbG;simp only [dI,Nat.sub_zero,e1];refine kO (fun k (v:Vec 512 Int)=>(∀c∈(ik m.1).take k,Vec.get v c.Station.toNat=c.Channel)∧∀n:Nat,n<512→(∀c∈(ik m.1).take k,c.Station≠(n:Int))→Vec.get v n=0) (fun o=>∃v:Vec 512 Int,o=some v∧lA m.1 v) ⟨fun c hc=>by simp at hc,fun n hn _=>gn hn⟩ (fun v hv=>⟨v,rfl,fun x hx=>?_⟩) (fun i v next hi hI hn=>?_)
 ·rw [List.take_of_length_le (Nat.le_refl _)] at hv;have hs:=h.st hG hx;by_cases hl:x.Channels.length=1
  ·rw [decide_eq_true hl,cond_true];exact hv.1 ⟨x.Station,cJ x.Channels 0⟩ (gM.2 ⟨x,hx,hl,rfl⟩)
  ·rw [decide_eq_false hl,cond_false];refine hv.2 _ a5 fun c hc e=>?_;obtain ⟨y,hy,h3,rfl⟩:=gM.1 hc;have:y=x:=h.inj hG hy hx (by dsimp only at e;omega);rw [this] at h3;exact hl h3
 ·have hm:=fo hi;have hs:=hst _ hm;rw [gb a5];refine hn _ ⟨fun c hc=>?_,fun n h1 hc=>?_⟩
  ·rw [fv a5];rw [ml hi,List.mem_append,List.mem_singleton] at hc;rcases hc with hc|rfl
   ·have h3:=hst c (List.mem_of_mem_take hc);by_cases e:c.Station.toNat=(cJ (ik m.1) i).Station.toNat
    ·rw [if_pos e,hin c (List.mem_of_mem_take hc) _ hm a5]
    ·rw [if_neg e];exact hI.1 c hc
   ·rw [if_pos rfl]
  ·rw [fv a5];rw [ml hi] at hc;have h3:=hc (cJ (ik m.1) i) (List.mem_append.2 (.inr (List.mem_singleton.2 rfl)));rw [if_neg a5];exact hI.2 n h1 fun c h4=>hc c (List.mem_append.2 (.inl h4))
def jh (v:Vec 512 Int)(g:List GChoice):List GChoice:=g.filter fun c=> !decide (Vec.get v c.Station.toNat=c.Channel)
def km (m:List GDomain×Bool)(v:Vec 512 Int)(g:List GChoice):GChoice×Bool:=match jh v g with
 | []=>(bif decide (0<(g.length:Int)) then cJ g 0 else ⟨0,0⟩,true)
 | [c]=>(c,zhj m c)
 |_=>(⟨0,0⟩,false)
theorem zhC {v:Vec 512 Int}{g:List GChoice}{c:GChoice}:jh v (g++[c])=jh v g++bif decide (¬Vec.get v c.Station.toNat=c.Channel) then [c] else []:=by
 unfold jh;rw [List.filter_append];by_cases h:Vec.get v c.Station.toNat=c.Channel
 ·simp [h]
 ·simp [h]
theorem zmV {m:List GDomain×Bool}{v:Vec 512 Int}{g:List GChoice}(hg:ValidL g):zcm p m v g=some (km m v g):=by
 unfold zcm;refine lI ?_;refine kO (fun i (s:Int×Int×Int×Int×Int)=>(jh v (g.take i)=[]∧s.1=0∧s.2.2.2.1=0∧s.2.2.2.2=0)∨(jh v (g.take i)=[⟨s.2.2.2.1,s.2.2.2.2⟩]∧s.1=1)) (fun o=>o=some (km m v g)) (.inl ⟨by simp [jh],rfl,rfl,rfl⟩) (fun s hs=>?_) (fun i s next hi hI hn=>?_)
 ·rw [List.take_of_length_le (Nat.le_refl _)] at hs;unfold km;rcases hs with ⟨h1,h2,h3,h4⟩|⟨h1,h2⟩
  ·rw [h1]; (try dsimp only);rw [h2,h3,h4,decide_eq_true rfl,Bool.true_and,Bool.true_or]
   cases decide (0<(g.length:Int)) <;> rfl
  ·rw [h1]; (try dsimp only);rw [h2,show decide ((1:Int)=0)=false from rfl,Bool.false_and,Bool.false_or];rfl
 ·have h1:=hg.good _ (fo hi);rw [gb a5];by_cases e:Vec.get v (cJ g i).Station.toNat=(cJ g i).Channel
  ·(have e2:jh v (g.take (i+1))=jh v (g.take i):=by rw [ml hi,zhC,decide_eq_false (by simpa using e),cond_false,List.append_nil]);rw [decide_eq_false (by simpa using e),cond_false]; (try dsimp only);rw [decide_eq_false (by rcases hI with h|h <;> omega),cond_false];exact hn _ (by rw [e2];exact hI)
  ·(have e2:jh v (g.take (i+1))=jh v (g.take i)++[cJ g i]:=by rw [ml hi,zhC,decide_eq_true e,cond_true]);rw [decide_eq_true e,cond_true]; (try dsimp only);rcases hI with ⟨h2,h3,h4,h5⟩|⟨h2,h3⟩
   ·rw [h3,show wI (0+1)=1 from rfl,show decide ((1:Int)<1)=false from rfl,cond_false];exact hn _ (.inr ⟨by rw [e2,h2];rfl,rfl⟩)
   ·rw [h3,show wI (1+1)=2 from rfl,show decide ((1:Int)<2)=true from rfl,cond_true];have h6:(jh v (g.take (i+1))).Sublist (jh v g):=(List.take_sublist _ _).filter _;rw [e2,h2] at h6;have h7:=h6.length_le;unfold km
    match h8:jh v g with
    | []=>rw [h8] at h7;simp at h7
    | [c]=>rw [h8] at h7;simp at h7
    |_ :: _ :: _=>rfl
end
def ii (d:List GDomain)(g:List GChoice)(s c:Int):Bool:=(g.any fun x=>decide (x.Station=s)&&decide (x.Channel=c))&&g.all fun x=>decide (x.Station=s)||ja d x.Station x.Channel
structure ClosedN (p:GProblem) (S:List (List GChoice)) (d:List GDomain):Prop where
 cl:ClosedD p d
 ne:∀g∈S,g≠[]
 calm:∀g∈S,∀x∈d,∀c∈x.Channels,ii d g x.Station c=false
section
variable {p:GProblem}{S:List (List GChoice)}{d e:List GDomain}{m:List GDomain×Bool}{v:Vec 512 Int}{g:List GChoice}
theorem zlK {s c:Int}(hG:GG p)(hd:SubP p d){x:GDomain}(hx:x∈d)(hs:x.Station=s)(hl:x.Channels.length=1)(h0:cJ x.Channels 0=c):ja d s c=true:=by
 rw [gW];intro y hy e k hk;have:y=x:=hd.inj hG hy hx (by rw [e,hs]);subst this;obtain ⟨z,hz⟩:=List.length_eq_one_iff.1 hl;rw [hz] at hk h0;simp [cJ] at hk h0;rw [hk,h0]
theorem ziA (hG:GG p)(hd:SubP p d)(hv:lA d v)(hg:iv p g=true){c:GChoice}(hc:c∈g)(h:Vec.get v c.Station.toNat=c.Channel):∃x∈d,x.Station=c.Station∧x.Channels.length=1∧cJ x.Channels 0=c.Channel:=by
 obtain ⟨hl,hh⟩:=gp.1 hg;obtain ⟨x,hx,e⟩:=hd.has (zhL (hh c hc));have h1:=hv x hx;have h2:=hl.good c hc;rw [e,h] at h1;by_cases h3:x.Channels.length=1
 ·rw [decide_eq_true h3,cond_true] at h1;exact ⟨x,hx,e,h3,h1.symm⟩
 ·rw [decide_eq_false h3,cond_false] at h1;omega
theorem zkw {c:GChoice}(hc:c∈g)(h:c∉jh v g):Vec.get v c.Station.toNat=c.Channel:=by
 refine Decidable.byContradiction fun e=>h ?_;unfold jh;rw [List.mem_filter];exact ⟨hc,by simp [e]⟩
theorem ln {c:GChoice}:zhj m c=true↔m.2=true∧∃x∈m.1,x.Station=c.Station∧c.Channel∈x.Channels:=by
 unfold zhj;simp only [Bool.and_eq_true,List.any_eq_true,decide_eq_true_eq];constructor
 ·rintro ⟨h,x,hx,h1,k,hk,rfl⟩;exact ⟨h,x,hx,h1,hk⟩
 ·rintro ⟨h,x,hx,h1,hk⟩;exact ⟨h,x,hx,h1,_,hk,rfl⟩
theorem zis (hG:GG p)(hd:SubP p m.1)(h2:m.2=true)(hv:lA m.1 v)(hg:iv p g=true)(h0:g≠[])(h:(km m v g).2=true):(km m v g).1∈g∧zhj m (km m v g).1=true∧∀x∈g,x≠(km m v g).1→ja m.1 x.Station x.Channel=true:=by
 have hpos:0<g.length:=List.length_pos_iff.2 h0
 have only:∀x∈g,x∉jh v g→ja m.1 x.Station x.Channel=true:=fun x hx hn=>by
  obtain ⟨y,hy,h3,h4,h5⟩:=ziA hG hd hv hg hx (zkw hx hn);exact zlK hG hd hy h3 h4 h5
 unfold km at h ⊢
 match h8:jh v g with
 | []=>
  rw [h8] at h;dsimp only at h ⊢;rw [decide_eq_true a5,cond_true];refine ⟨fo hpos,?_,fun x hx _=>only x hx (by rw [h8];simp)⟩;obtain ⟨y,hy,h3,h4,h5⟩:=ziA hG hd hv hg (fo hpos) (zkw (fo hpos) (by rw [h8];simp));obtain ⟨z,hz⟩:=List.length_eq_one_iff.1 h4;refine ln.2 ⟨h2,y,hy,h3,?_⟩;rw [←h5,hz];simp [cJ]
 | [c]=>
  rw [h8] at h;dsimp only at h ⊢; (have hc:c∈jh v g:=by rw [h8];simp);refine ⟨(List.mem_filter.1 hc).1,h,fun x hx hne=>only x hx (by rw [h8];simpa using hne)⟩
 |_ :: _ :: _=>rw [h8] at h;cases h
theorem zlm (hG:GG p)(hd:SubP p m.1)(h2:m.2=true)(hv:lA m.1 v)(hg:iv p g=true)(h0:g≠[])(hS:g∈S)(h:(km m v g).2=true)(he:ClosedN p S e)(hs:SubD e m.1):SubD e (m.1.map (i6 (km m v g).1.Station (km m v g).1.Channel)):=by
 obtain ⟨h3,h4,h5⟩:=zis hG hd h2 hv hg h0 h;generalize (km m v g).1=c at h3 h4 h5 ⊢;obtain ⟨hl,_⟩:=gp.1 hg;refine ⟨by rw [List.length_map];exact hs.1,fun i hi=>?_⟩;rw [List.length_map] at hi;rw [iV hi];have h6:=hs.2 i hi;refine ⟨h6.1,fun k hk=>?_⟩;unfold i6;dsimp only;rw [List.mem_filter];refine ⟨h6.2 k hk,?_⟩;rw [Bool.or_eq_true,decide_eq_true_eq,decide_eq_true_eq];by_cases e1:(cJ m.1 i).Station=c.Station
 ·refine .inr fun e2=>?_; (have hi':i<e.length:=by rw [hs.1];exact hi);have h7:=he.calm g hS _ (fo hi') k hk
  have h8:ii e g (cJ e i).Station k=true:=by
   unfold ii;rw [Bool.and_eq_true,List.any_eq_true,List.all_eq_true];refine ⟨⟨c,h3,by rw [h6.1,e1,e2];simp⟩,fun x hx=>?_⟩;by_cases e3:x=c
   ·rw [e3,h6.1,e1];simp
   ·rw [zdm hs (h5 x hx e3)];simp
  rw [h8] at h7;cases h7
 ·exact .inl e1
theorem zkN (hG : GG p) (hB : ∀ x ∈ m.1, x.Channels.Nodup) (hd : SubP p m.1) (h2 : m.2 = true) (hc : ClosedD p m.1) (hv : lA m.1 v) (hg : iv p g = true) (h : (km m v g).2 = false) : g ≠ [] ∧ ∀ x ∈ m.1, ∀ c ∈ x.Channels, ii m.1 g x.Station c = false := by
  obtain ⟨hl, hh⟩ := gp.1 hg; refine ⟨fun e => ?_, fun x hx c hcx => ?_⟩
  · subst e; cases h
  · cases hr : ii m.1 g x.Station c with
    | false => rfl
    | true =>
      unfold ii at hr; rw [Bool.and_eq_true, List.any_eq_true, List.all_eq_true] at hr; obtain ⟨⟨y, hy, h3⟩, h4⟩ := hr; rw [Bool.and_eq_true, decide_eq_true_eq, decide_eq_true_eq] at h3
      -- the others are made
      have ho : ∀ z ∈ jh v g, z = y := fun z hz => by
        have hzg := (List.mem_filter.1 hz); have h5 := h4 z hzg.1; rw [Bool.or_eq_true, decide_eq_true_eq] at h5; rcases h5 with h5 | h5
        · exact hl.inj hzg.1 hy (by rw [h5, h3.1])
        · exfalso; obtain ⟨u, hu, e⟩ := hd.has (zhL (hh z hzg.1)); have h6 := gW.1 h5 u hu e
          have h7 : u.Channels = [z.Channel] := by
            have hne := hc.ne u hu; have hnd := hB u hu
            match hq : u.Channels with
            | [] => exact absurd hq hne
            | [a] => rw [hq] at h6; rw [h6 a a9]
            | a :: b :: r =>
              rw [hq] at h6 hnd; have h8 := h6 a a9; have h9 := h6 b a9; rw [h8, h9] at hnd; simp at hnd
          have h8 := hv u hu; rw [h7] at h8; have h9 := hzg.2; rw [← e, h8] at h9; simp [cJ] at h9
      have hyo : zhj m y = true := ln.2 ⟨h2, x, hx, h3.1.symm, by rw [h3.2]; exact hcx⟩
      have hnd : (jh v g).length ≤ 1 := by
        match h8 : jh v g with
        | [] => simp
        | [_] => simp
        | a :: b :: r =>
          exfalso; have hsub : (jh v g).Sublist g := List.filter_sublist
          have hgn : g.Nodup := by
            rw [List.Nodup, List.pairwise_iff_getElem]; intro i j hi hj hij e; have := hl.inc i j hij hj; rw [dW hi, dW hj, e] at this; omega
          have := hgn.sublist hsub; rw [h8] at this ho; rw [ho a a9, ho b a9] at this; simp at this
      unfold km at h
      match h8 : jh v g with
      | [] => rw [h8] at h; cases h
      | [a] => rw [h8] at h ho; rw [ho a a9] at h; dsimp only at h; rw [hyo] at h; cases h
      | a :: b :: r => rw [h8] at hnd; simp at hnd
end
def dK (p:GProblem)(l:List GChoice):List GDomain:=l.foldl (fun d c=>d.map (ig true c)) p.Domains
def RunN (p:GProblem)(S:List (List GChoice))(d:List GDomain)(r:Option (GProblem×(List GDomain×Bool))×Bool):Prop:=
 (∃m:List GDomain×Bool,r=(some (p,m),false)∧m.2=true∧ClosedN p S m.1∧SubP p m.1∧SubD m.1 d∧∀e,ClosedN p S e→SubD e d→SubD e m.1)∨(r=(none,true)∧∀e,ClosedN p S e→¬SubD e d)
section
variable {p:GProblem}{S:List (List GChoice)}{d e:List GDomain}{m:List GDomain×Bool}
theorem zlt {l:List GChoice}{i:Nat}(hi:i<l.length):dK p (l.take (i+1))=(dK p (l.take i)).map (ig true (cJ l i)):=by
 unfold dK;rw [ml hi,List.foldl_append];rfl
theorem zjd:∀l:List GChoice,SubP p (dK p l):=fun l=>by
 have key:∀(l:List GChoice) (d:List GDomain),SubP p d→SubP p (l.foldl (fun d c=>d.map (ig true c)) d):=by
  intro l
  induction l with
  |nil=>exact fun d h=>h
  |cons c r ih=>
   intro d h;have h2:=(zfk true c).subD (d:=d);exact ih _ ⟨h2.1.trans h.sub,h2.2.trans h.ord h.sub.1⟩
 exact key l _ ⟨.refl _,fun _ _=>List.Sublist.refl _⟩
structure MidN (p:GProblem) (S:List (List GChoice)) (d:List GDomain) (m:List GDomain×Bool):Prop where
 ok:m.2=true
 sp:SubP p m.1
 cl:ClosedD p m.1
 sd:SubD m.1 d
 all:∀e,ClosedN p S e→SubD e d→SubD e m.1
theorem MidN.prop (h:MidN p S d m):PropD p m.1 m:= .inl ⟨h.ok,h.cl,⟨.refl _,fun _ _=>List.Sublist.refl _⟩,fun _ _ h=>h⟩
theorem znE {d':List GDomain}(hd:SubP p d')(hs:SubD d' d)(hm:PropD p d' m)(hall:∀e,ClosedN p S e→SubD e d→SubD e d'):(m.2=true∧MidN p S d m)∨(m.2=false∧∀e,ClosedN p S e→¬SubD e d):=by
 rcases hm with ⟨h1,h2,h3,h4⟩|⟨h1,h2⟩
 ·exact .inl ⟨h1,h1,⟨h3.1.trans hd.sub,h3.2.trans hd.ord hd.sub.1⟩,h2,h3.1.trans hs,fun e he hh=>h4 e he.cl (hall e he hh)⟩
 ·exact .inr ⟨by rw [h1],fun e he hh=>h2 e he.cl (hall e he hh)⟩
theorem zm0 {fuel:Nat}(hf:100000≤fuel)(hok:gB p=true){t:GStore}(ht:t.start.1=p)(hm:PropD p p.Domains t.start.2)(hS:∀g∈t.list,iv p g=true)(l:List GChoice):∃r,zaI fuel t l=some r∧RunN p t.list (dK p l) r:=by
 obtain ⟨hw,hbd,htot,hn⟩:=zgW hok;have hG:=zlc hok;have nodup:∀ {m:List GDomain×Bool},SubP p m.1→∀x∈m.1,x.Channels.Nodup:=fun h x hx=>((hbd.ord h.sub.1 h.ord).ch x hx).2;unfold zaI;simp only [dI,Nat.sub_zero,ht];refine kO (fun i (m:List GDomain×Bool)=>PropD p (dK p (l.take i)) m) (fun o=>∃r,o=some r∧RunN p t.list (dK p l) r) (by simpa [dK] using hm) (fun m hI=>?_) (fun i m next hi hI hnx=>?_)
 ·rw [List.take_of_length_le (Nat.le_refl _)] at hI;have hst:=znE (S:=t.list) (zjd l) (.refl _) hI (fun _ _ h=>h);refine zdS (σ:=Bool×(List GDomain×Bool)) (I:=fun s=>(s.2.2=true∧MidN p t.list (dK p l) s.2∧(s.1=false→ClosedN p t.list s.2.1))∨(s.2.2=false∧s.1=true∧∀e,ClosedN p t.list e→¬SubD e (dK p l))) (μ:=fun s=>ey s.2.1+(bif s.1 then 1 else 0)) (post:=fun o=>∃r,o=some r∧RunN p t.list (dK p l) r) ?_ ?_ ?_
  ·rcases hst with ⟨h1,h2⟩|⟨h1,h2⟩
   ·exact .inl ⟨h1,h2,fun h=>by cases h⟩
   ·exact .inr ⟨h1,rfl,h2⟩
  ·have h1:ey m.1≤30000:=by
    rcases hI with ⟨_,_,h3,_⟩|⟨h1,_⟩
    ·have hk:=zjd (p:=p) l;have:=zd3 h3.1.1 h3.2;have:=zd3 hk.sub.1 hk.ord;omega
    ·rw [h1];simp [ey]
   dsimp only;rw [cond_true];omega
  ·rintro ⟨again,m⟩ next hJ hnx;dsimp only at hJ hnx ⊢
   cases again with
   |false=>
    rcases hJ with ⟨h1,h2,h3⟩|⟨_,h2,_⟩
    ·exact ⟨_,rfl, .inl ⟨m,rfl,h1,h3 rfl,h2.sp,h2.sd,h2.all⟩⟩
    ·cases h2
   |true=>
    rw [cond_true];rcases hJ with ⟨h1,h2,_⟩|⟨h1,_,h2⟩
    ·rw [h1,Bool.not_true,cond_false];obtain ⟨v,hv1,hv2⟩:=zlv hG h2.sp h1;rw [hv1,Option.bind_some];refine kO (fun i (s:Bool×(List GDomain×Bool)×Vec 512 Int)=>MidN p t.list (dK p l) s.2.1∧lA s.2.1.1 s.2.2∧((s.1=true∧ey s.2.1.1<ey m.1)∨(s.1=false∧s.2.1=m∧∀j,j<i→(km s.2.1 s.2.2 (cJ t.list j)).2=false))) (fun o=>∃r,o=some r∧RunN p t.list (dK p l) r) ⟨h2,hv2, .inr ⟨rfl,rfl,fun j hj=>by omega⟩⟩ ?_ ?_
     ·rintro ⟨ch,m',v'⟩ ⟨g1,g2,g3⟩;dsimp only at g1 g2 g3 ⊢;refine hnx _ (.inl ⟨g1.ok,g1,fun e=>?_⟩) ?_
      ·dsimp only at e;rcases g3 with ⟨g3,_⟩|⟨_,g3,g4⟩
       ·rw [e] at g3;cases g3
       ·have key:∀g∈t.list,g≠[]∧∀x∈m'.1,∀c∈x.Channels,ii m'.1 g x.Station c=false:=fun g hg=>by
         obtain ⟨j,hj,rfl⟩:=im hg;exact zkN hG (nodup g1.sp) g1.sp g1.ok g1.cl g2 (hS _ (fo hj)) (g4 j hj)
        exact ⟨g1.cl,fun g hg=>(key g hg).1,fun g hg=>(key g hg).2⟩
      ·dsimp only;rcases g3 with ⟨g3,g4⟩|⟨g3,g4,_⟩
       ·rw [g3,cond_true];omega
       ·rw [g3,g4,cond_false,cond_true];omega
     ·rintro i ⟨ch,m',v'⟩ nx hi ⟨g1,g2,g3⟩ hk;dsimp only at g1 g2 g3 ⊢;have hg:=hS _ (fo hi);rw [zmV (gp.1 hg).1,Option.bind_some]
      cases hfo:(km m' v' (cJ t.list i)).2 with
      |false=>
       rw [Bool.not_false,cond_true];refine hk _ ⟨g1,g2,g3.imp id fun h=>⟨h.1,h.2.1,fun j hj=>?_⟩⟩;rcases Nat.lt_or_ge j i with h3|h3
       ·exact h.2.2 j h3
       ·(obtain rfl:j=i:=by omega);exact hfo
      |true=>
       rw [Bool.not_true,cond_false];by_cases h0:cJ t.list i=[]
       ·rw [h0];exact ⟨_,rfl, .inr ⟨rfl,fun e he _=>he.ne _ (fo hi) h0⟩⟩
       ·have hlen:0<(cJ t.list i).length:=List.length_pos_iff.2 h0;rw [decide_eq_false a5,cond_false];obtain ⟨q1,q2,q3⟩:=zis hG g1.sp g1.ok g2 hg h0 hfo;have q4:=fun e he hs=>zlm (e:=e) hG g1.sp g1.ok g2 hg h0 (fo hi) hfo he hs;generalize (km m' v' (cJ t.list i)).1=c at q1 q2 q3 q4
        have hgc:lX c=true:=by
         have:=(gp.1 hg).1.good c q1;unfold lX;exact decide_eq_true a5
        (have eact:ig false c=i6 c.Station c.Channel:=by unfold ig;rw [hgc];rfl);obtain ⟨r,q5,q6⟩:=zl3 hf hok ⟨g1.sp.sub,g1.sp.ord⟩ g1.prop false c;rw [q5,Option.bind_some];rw [eact] at q6;have hsub:=(FiltD.drop c.Station c.Channel).subD (d:=m'.1);have hsp:SubP p (m'.1.map (i6 c.Station c.Channel)):=⟨hsub.1.trans g1.sp.sub,hsub.2.trans g1.sp.ord g1.sp.sub.1⟩;have hmid:=znE (S:=t.list) hsp (hsub.1.trans g1.sd) q6 (fun e he hh=>q4 e he (g1.all e he hh));dsimp only;rcases hmid with ⟨q7,q8⟩|⟨q7,q8⟩
        ·rw [q7,Bool.not_true,cond_false];obtain ⟨v2,w1,w2⟩:=zlv hG q8.sp q7;rw [w1,Option.bind_some];refine hk _ ⟨q8,w2, .inl ⟨rfl,?_⟩⟩;dsimp only;obtain ⟨_,x,hx,hx1,hx2⟩:=ln.1 q2;obtain ⟨ix,hix,rfl⟩:=im hx;have h7:=zk4 hix hx1 hx2
         have h8:ey r.1≤ey (m'.1.map (i6 c.Station c.Channel)):=by
          rcases q6 with ⟨_,_,h9,_⟩|⟨h9,_⟩
          ·exact zd3 h9.1.1 h9.2
          ·rw [h9] at q7;cases q7
         have h9:ey m'.1≤ey m.1:=by
          rcases g3 with ⟨_,h⟩|⟨_,h,_⟩
          ·omega
          ·rw [h];exact Nat.le_refl _
         omega
        ·rw [q7,Bool.not_false,cond_true];exact ⟨_,rfl, .inr ⟨rfl,q8⟩⟩
    ·rw [h1,Bool.not_false,cond_true];exact ⟨_,rfl, .inr ⟨rfl,h2⟩⟩
 ·cases h2:m.2 with
  |false=>
   rw [Bool.not_false,cond_true];refine ⟨_,rfl, .inr ⟨rfl,fun e he hs=>?_⟩⟩;rcases hI with ⟨h3,_⟩|⟨_,h4⟩
   ·rw [h2] at h3;cases h3
   ·refine h4 e he.cl (hs.trans ?_)
    have key:∀(r:List GChoice) (d:List GDomain),SubD (r.foldl (fun d c=>d.map (ig true c)) d) d:=by
     intro r
     induction r with
     |nil=>exact fun d=> .refl _
     |cons c r ih=>exact fun d=>(ih _).trans (zfk true c).subD.1
    have:=key (l.drop i) (dK p (l.take i));unfold dK at this ⊢;rw [←List.foldl_append,List.take_append_drop] at this;exact this
  |true=>
   rw [Bool.not_true,cond_false];have hk:=zjd (p:=p) (l.take i);obtain ⟨r,g1,g2⟩:=zl3 hf hok ⟨hk.sub,hk.ord⟩ hI true (cJ l i);rw [g1,Option.bind_some];exact hnx _ (by rw [zlt hi];exact g2)
end
structure StN (p:GProblem) (t:GStore):Prop where
 pr:t.start.1=p
 st:PropD p p.Domains t.start.2
 tb:TabN p t.domains
 ok:∀g∈t.list,iv p g=true
section
variable {p:GProblem}{t:GStore}{fuel:Nat}
theorem new_x (hf:100000≤fuel)(hok:gB p=true):∃t,zc8 fuel p=some (some t,0)∧StN p t∧t.list=[]:=by
 obtain ⟨hw,hbd,ht,hn⟩:=zgW hok;obtain ⟨m,g1,g2⟩:=zfb (fuel:=fuel) hw hbd a5 a5;obtain ⟨v,h1,h2⟩:=zlk (zlc hok);unfold zc8;rw [hok,cond_true,g1,Option.bind_some,h1,Option.bind_some];exact ⟨_,rfl,⟨rfl,g2,h2,fun g hg=>by cases hg⟩,rfl⟩
theorem RunN.conf {S:List (List GChoice)}{d:List GDomain}{r:Option (GProblem×(List GDomain×Bool))×Bool}(h:RunN p S d r):r.2=true↔∀e,ClosedN p S e→¬SubD e d:=by
 rcases h with ⟨m,rfl,h1,h2,h3,h4,h5⟩|⟨rfl,h⟩
 ·exact ⟨fun h=>(by cases h),fun h=>absurd h4 (h _ h2)⟩
 ·exact ⟨fun _=>h,fun _=>rfl⟩
theorem zln (hf:100000≤fuel)(hok:gB p=true)(h:StN p t){g:List GChoice}:∃b,zaH fuel t g=some (b,bif iv p g then 0 else 2)∧(iv p g=false→b=false)∧(iv p g=true→(b=true↔∀e,ClosedN p t.list e→¬SubD e (dK p g))):=by
 unfold zaH zar;rw [cond_false,zkg h.tb,Option.bind_some]
 cases hg:iv p g with
 |false=>exact ⟨false,rfl,fun _=>rfl,fun h=>by cases h⟩
 |true=>
  obtain ⟨r,h1,h2⟩:=zm0 hf hok h.pr h.st h.ok g;rw [Bool.not_true,cond_false,h1,Option.bind_some];refine ⟨r.2,?_,fun h=>(by cases h),fun _=>h2.conf⟩
  cases r.1.isSome <;> rfl
theorem add_x (h:StN p t){g:List GChoice}(hl:t.list.length<4096)(hg:g.length≤1000):zaD t g=some (bif iv p g then (0,t.list++[g]) else (2,t.list)):=by
 unfold zaD zar;rw [cond_false,zkg h.tb,Option.bind_some]
 cases hn:iv p g with
 |false=>rfl
 |true=>
  rw [Bool.not_true,cond_false,decide_eq_false a5,cond_false,gb (by simp only [dr];omega),gb b6];rfl
theorem StN.add (h:StN p t){g:List GChoice}(hg:iv p g=true):StN p ⟨t.domains,(t.start.1,t.start.2),t.list++[g]⟩:=⟨h.pr,h.st,h.tb,fun x hx=>by
 rcases List.mem_append.1 hx with hx|hx
 ·exact h.ok x hx
 ·simp at hx;rw [hx];exact hg⟩
theorem zlV {l:List (List GChoice)}{most:Int}(hm:0≤most∧most≤1000)(hf:100000≤fuel):∃b,zcD fuel l most=some b∧(b=true→(l.length:Int)≤most∧∀g∈l,g.length≤20):=by
 unfold zcD;simp only [dI];refine zdS (σ:=Int) (I:=fun i=>0≤i∧i≤1001∧∀j:Nat,(j:Int)<i→j<l.length→(cJ l j).length≤20) (μ:=fun i=>(1001 - i).toNat) (post:=fun o=>∃b,o=some b∧(b=true→(l.length:Int)≤most∧∀g∈l,g.length≤20)) ⟨by omega,by omega,fun j h _=>by omega⟩ a5 ?_;rintro i next ⟨h1,h2,h3⟩ hn;by_cases h4:i<(l.length:Int)∧i≤most
 ·rw [decide_eq_true h4.1,decide_eq_true h4.2,Bool.and_true,cond_true,gb ⟨h1,h4.1⟩];by_cases h5:(20:Int)<((cJ l i.toNat).length:Int)
  ·rw [decide_eq_true h5,cond_true];exact ⟨false,rfl,fun h=>by cases h⟩
  ·rw [decide_eq_false h5,cond_false];refine hn _ ⟨by omega,by omega,fun j hj hl=>?_⟩ a5;by_cases h6:(j:Int)<i
   ·exact h3 j h6 hl
   ·(obtain rfl:j=i.toNat:=by omega);omega
 ·have e:(decide (i<(l.length:Int))&&decide (i≤most))=false:=by
   rw [Bool.and_eq_false_iff,decide_eq_false_iff_not,decide_eq_false_iff_not];omega
  rw [e,cond_false];refine ⟨_,rfl,fun h=>?_⟩;rw [decide_eq_true_eq] at h;refine ⟨h,fun g hg=>?_⟩;obtain ⟨j,hj,rfl⟩:=im hg;exact h3 j a5 hj
end
section
variable {p:GProblem}{a:List GChoice}
end
section
variable {p:GProblem}{t:GStore}{fuel:Nat}{l S:List (List GChoice)}
theorem znY {s:Int}(hG:GG p)(h:¬fB p s<0):0≤fB p s∧fB p s<(p.Domains.length:Int)∧(cJ p.Domains (fB p s).toNat).Station=s:=by
 revert h
 unfold fB;refine lI ?_;refine kO (fun _ _=>True) (fun r=>¬r<0→0≤r∧r<(p.Domains.length:Int)∧(cJ p.Domains r.toNat).Station=s) trivial (fun _ _ h=>by omega) (fun i _ next hi _ hn=>?_);by_cases e:(cJ p.Domains i).Station=s
 ·rw [decide_eq_true e,cond_true];exact fun _=>⟨by omega,by omega,by simpa using e⟩
 ·rw [decide_eq_false e,cond_false];exact hn () trivial
theorem zkJ {g:List GChoice}(hok:gB p=true):zb3 p g=some (iv p g):=by
 have hG:=zlc hok;unfold zb3 iv;rw [zhQ,Option.bind_some,hok,zf1]
 cases hv:(List.range g.length).all (mJ g) with
 |false=>rfl
 |true=>
  simp only [dI,Nat.sub_zero,Bool.not_true,Bool.or_self,cond_false,Bool.true_and];refine (kO (fun i _=>(List.range i).all (fun i=>kG p (cJ g i).Station (cJ g i).Channel)=true) (fun o=>o=some ((List.range g.length).all fun i=>kG p (cJ g i).Station (cJ g i).Channel)) rfl (fun _ h=>by rw [h]) (fun i _ next hi hI hn=>?_))
  have bad:kG p (cJ g i).Station (cJ g i).Channel=false→((List.range g.length).all fun i=>kG p (cJ g i).Station (cJ g i).Channel)=false:=fun h=>by
   rw [List.all_eq_false];exact ⟨i,List.mem_range.2 hi,by rw [h];simp⟩
  by_cases hfi:fB p (cJ g i).Station<0
  ·rw [decide_eq_true hfi,cond_true];rw [cond_true,bad]
   cases hc:kG p (cJ g i).Station (cJ g i).Channel with
   |false=>rfl
   |true=>have:=zhL hc;rw [lj.1 hfi] at this;cases this
  ·obtain ⟨h1,h2,h3⟩:=znY hG hfi
   have e:d8 (cJ p.Domains (fB p (cJ g i).Station).toNat).Channels (cJ g i).Channel=kG p (cJ g i).Station (cJ g i).Channel:=by
    (have hj:(fB p (cJ g i).Station).toNat<p.Domains.length:=by omega);rw [zoC,Bool.eq_iff_iff,iT,List.any_eq_true];constructor
    ·rintro ⟨k,hk,e⟩;exact ⟨_,fo hj,h3,by rw [←of_decide_eq_true e];exact hk⟩
    ·rintro ⟨x,hx,e1,e2⟩;obtain ⟨q,hq,rfl⟩:=im hx
     have:q=(fB p (cJ g i).Station).toNat:=by
      rcases Nat.lt_trichotomy q (fB p (cJ g i).Station).toNat with h|h|h
      ·have:=hG.inc _ _ h hj;omega
      ·exact h
      ·have:=hG.inc _ _ h hq;omega
     exact ⟨_,by rw [←this];exact e2,by simp⟩
   rw [decide_eq_false hfi,cond_false,gb ⟨h1,h2⟩,e]
   cases hc:kG p (cJ g i).Station (cJ g i).Channel with
   |false=>rw [Bool.not_false,cond_true,bad hc]
   |true=>
    rw [Bool.not_true,cond_false];refine hn () ?_;rw [List.range_succ,List.all_append,hI];simp [hc]
end
def QN (p:GProblem)(S:List (List GChoice))(d:List GDomain)(r:List GDomain×Bool):Prop:=
 (r.2=true∧ClosedN p S r.1∧SubP p r.1∧SubD r.1 d∧∀e,ClosedN p S e→SubD e d→SubD e r.1)∨(r=([],false)∧∀e,ClosedN p S e→¬SubD e d)
def R21 (p:GProblem)(S:List (List GChoice))(d:List GDomain)(s c:Int):Bool:=(S.any fun g=>ii d g s c)||jf p d s c
section
variable {p:GProblem}{S S':List (List GChoice)}{d a b:List GDomain}{t:GStore}{fuel:Nat}{l:List GChoice}
theorem znX (hok:gB p=true)(ha:SubP p a)(hb:SubP p b)(h1:SubD a b)(h2:SubD b a):a=b:=by
 obtain ⟨_,hbd,_,_⟩:=zgW hok;refine zfJ h1.1 fun i hi=>?_; (have hi':i<b.length:=by rw [←h1.1];exact hi); (have hp:i<p.Domains.length:=by rw [←ha.len];exact hi);have hch:(cJ a i).Channels=(cJ b i).Channels:=zdv (ha.ord i hp) (hb.ord i hp) (hbd.ch _ (fo hp)).2 (fun x=>⟨(h1.2 i hi').2 x,(h2.2 i hi).2 x⟩);have hst:=(h1.2 i hi').1
 cases hx:cJ a i;cases hy:cJ b i
 rw [hx,hy] at hch hst;simp only at hch hst;rw [hch,hst]
theorem QN.eq {r r':List GDomain×Bool}(hok:gB p=true)(h:QN p S d r)(h':QN p S d r'):r=r':=by
 rcases h with ⟨h1,h2,h3,h4,h5⟩|⟨h1,h2⟩
 ·rcases h' with ⟨g1,g2,g3,g4,g5⟩|⟨g1,g2⟩
  ·exact Prod.ext (znX hok h3 g3 (g5 _ h2 h4) (h5 _ g2 g4)) (h1.trans g1.symm)
  ·exact absurd h4 (g2 _ h2)
 ·rcases h' with ⟨g1,g2,g3,g4,g5⟩|⟨g1,g2⟩
  ·exact absurd g4 (h2 _ g2)
  ·rw [h1,g1]
theorem ClosedN.mono (h:ClosedN p S d)(hs:∀g∈S',g∈S):ClosedN p S' d:=⟨h.cl,fun g hg=>h.ne g (hs g hg),fun g hg=>h.calm g (hs g hg)⟩
theorem QN.congr {r:List GDomain×Bool}(h:QN p S d r)(hs:∀g,g∈S↔g∈S'):QN p S' d r:=by
 have f:∀ {e},ClosedN p S' e→ClosedN p S e:=fun he=>he.mono fun g hg=>(hs g).1 hg;rcases h with ⟨h1,h2,h3,h4,h5⟩|⟨h1,h2⟩
 ·exact .inl ⟨h1,h2.mono fun g hg=>(hs g).2 hg,h3,h4,fun e he=>h5 e (f he)⟩
 ·exact .inr ⟨h1,fun e he=>h2 e (f he)⟩
theorem byN_x {g:List GChoice}(hg:ValidL g){s c:Int}:zbH d g s c=ii d g s c:=by
 unfold zbH;simp only [dI,Nat.sub_zero,zkv];refine kO (fun i (b:Bool)=>b=((g.take i).any fun x=>decide (x.Station=s)&&decide (x.Channel=c))∧((g.take i).all fun x=>decide (x.Station=s)||ja d x.Station x.Channel)=true) (fun r=>r=ii d g s c) ⟨rfl,rfl⟩ (fun b hb=>?_) (fun i b next hi hb hn=>?_)
 ·rw [List.take_length] at hb;unfold ii;rw [hb.1,hb.2,Bool.and_true]
 ·by_cases hs:(cJ g i).Station=s
  ·rw [decide_eq_true hs,cond_true];refine hn _ ⟨?_,?_⟩
   ·have h0:((g.take i).any fun x=>decide (x.Station=s)&&decide (x.Channel=c))=false:=by
     rw [List.any_eq_false];intro x hx;obtain ⟨j,hj,rfl⟩:=List.mem_iff_getElem.1 hx;rw [List.length_take] at hj;rw [List.getElem_take];have:=hg.inc j i a5 hi;rw [dW a5] at this;simp;intro e;omega
    rw [ml hi,List.any_append,h0];simp [hs]
   ·rw [ml hi,List.all_append,hb.2];simp [hs]
  ·rw [decide_eq_false hs,cond_false]
   cases ho:ja d (cJ g i).Station (cJ g i).Channel with
   |false=>
    rw [Bool.not_false,cond_true];unfold ii
    have:(g.all fun x=>decide (x.Station=s)||ja d x.Station x.Channel)=false:=by
     rw [List.all_eq_false];exact ⟨cJ g i,fo hi,by simp [hs,ho]⟩
    rw [this,Bool.and_false]
   |true=>
    rw [Bool.not_true,cond_false];refine hn _ ⟨?_,?_⟩
    ·rw [ml hi,List.any_append,←hb.1];simp [hs]
    ·rw [ml hi,List.all_append,hb.2];simp [ho]
theorem zjW (hS:∀g∈S,iv p g=true){s c:Int}:zbW p S d s c=R21 p S d s c:=by
 unfold zbW R21;simp only [dI,Nat.sub_zero,zik];rw [zdW (fun i=>ii d (cJ S i) s c) (fun i next hi=>by rw [byN_x (gp.1 (hS _ (fo hi))).1];cases ii d (cJ S i) s c <;> rfl),zdz (q:=fun g=>ii d g s c)]
theorem R21.mono (hok:gB p=true):MonoR (R21 p S):=fun a b s c h hr=>by
 unfold R21 at hr ⊢;rw [Bool.or_eq_true,List.any_eq_true] at hr ⊢;rcases hr with ⟨g,hg,hr⟩|hr
 ·refine .inl ⟨g,hg,?_⟩;unfold ii at hr ⊢;rw [Bool.and_eq_true,List.all_eq_true] at hr ⊢;refine ⟨hr.1,fun x hx=>?_⟩;have:=hr.2 x hx;rw [Bool.or_eq_true] at this ⊢;exact this.imp id (zdm h)
 ·exact .inr (zgO (zgW hok).1 h hr)
theorem ClosedN.calmR (h:ClosedN p S d):zle (R21 p S) d:=fun x hx c hc=>by
 unfold R21;rw [Bool.or_eq_false_iff,List.any_eq_false];exact ⟨fun g hg=>by rw [h.calm g hg x hx c hc];simp,h.cl.calm x hx c hc⟩
theorem zk7 (hf:100000≤fuel)(hok:gB p=true)(hS:∀g∈S,iv p g=true)(hd:SubP p d):∃r,zbZ fuel p S d=some r∧QN p S d r:=by
 obtain ⟨hw,hbd,htot,hn⟩:=zgW hok;have hb:Bd d:=hbd.ord hd.len hd.ord;have ht:=zd3 hd.len hd.ord;unfold zbZ;simp only [dI,Nat.sub_zero,zjW hS];refine zl5 (R:=R21 p S) (k2:=fun d=>c8 (fun (i:Nat) (next:Unit→Option (List GDomain×Bool)) (_:Unit)=>bif decide ((((cJ d i).Channels).length:Int)=0) then some ([],false) else next ()) (fun (_:Unit)=>c8 (fun (i:Nat) (next:Unit→Option (List GDomain×Bool)) (_:Unit)=>bif decide (((cJ S i).length:Int)=0) then some ([],false) else next ()) (fun (_:Unit)=>some (d,true)) S.length 0 ()) d.length 0 ()) (fun o=>∃r,o=some r∧QN p S d r) (R21.mono hok) hb (by rw [hd.len];omega) a5 fun d' hI hA=>?_;refine kO (σ:=Unit) (I:=fun i _=>∀j,j<i→(cJ d' j).Channels≠[]) (post:=fun o=>∃r,o=some r∧QN p S d r) (fun j hj=>absurd hj (Nat.not_lt_zero j)) (fun _ hne=>?_) (fun i _ next hi h hnx=>?_)
 ·refine kO (σ:=Unit) (I:=fun i _=>∀j,j<i→cJ S j≠[]) (post:=fun o=>∃r,o=some r∧QN p S d r) (fun j hj=>absurd hj (Nat.not_lt_zero j)) (fun _ h=>?_) (fun i _ next hi h hnx=>?_)
  ·refine ⟨_,rfl, .inl ⟨rfl,⟨⟨fun x hx=>?_,fun x hx c hc=>?_⟩,fun g hg=>?_,fun g hg x hx c hc=>?_⟩,⟨hI.sub.trans hd.sub,hI.ord.trans hd.ord hd.len⟩,hI.sub,fun e he hs=>hI.sup e he.calmR hs⟩⟩
   ·obtain ⟨j,hj,rfl⟩:=im hx;exact hne j hj
   ·have:=hA x hx c hc;unfold R21 at this;exact (Bool.or_eq_false_iff.1 this).2
   ·obtain ⟨j,hj,rfl⟩:=im hg;exact h j hj
   ·have:=hA x hx c hc;unfold R21 at this;have:=List.any_eq_false.1 (Bool.or_eq_false_iff.1 this).1 g hg;simpa using this
  ·by_cases he:cJ S i=[]
   ·rw [he];exact ⟨_,rfl, .inr ⟨rfl,fun e hc _=>hc.ne _ (fo hi) he⟩⟩
   ·have:¬((cJ S i).length:Int)=0:=fun h0=>he (List.eq_nil_of_length_eq_zero a5);rw [decide_eq_false this,cond_false];refine hnx () (fun j hj=>?_);rcases Nat.lt_or_ge j i with h1|h1
    ·exact h j h1
    ·rw [show j=i by omega];exact he
 ·by_cases he:(cJ d' i).Channels=[]
  ·rw [he];refine ⟨_,rfl, .inr ⟨rfl,fun e hc hs=>?_⟩⟩;have h2:=hI.sup e hc.calmR hs;have h3:=(h2.2 i hi).2;rw [he] at h3;apply hc.cl.ne _ (fo (show i<e.length by rw [h2.1];exact hi))
   cases hch:(cJ e i).Channels with
   |nil=>rfl
   |cons c r=>exact absurd (h3 c (by rw [hch];simp)) a9
  ·have:¬((cJ d' i).Channels.length:Int)=0:=fun h0=>he (List.eq_nil_of_length_eq_zero a5);rw [decide_eq_false this,cond_false];refine hnx () (fun j hj=>?_);rcases Nat.lt_or_ge j i with h1|h1
   ·exact h j h1
   ·rw [show j=i by omega];exact he
theorem zm8 (hf:100000≤fuel)(hok:gB p=true)(hS:∀g∈S,iv p g=true)(hl:ValidL l):∃r,zdD fuel p S l=some r∧QN p S (dK p l) r:=by
 obtain ⟨hw,hbd,htot,hn⟩:=zgW hok;unfold zdD;refine lI ?_;refine kO (σ:=List GDomain) (fun i d=>d=dK p (l.take i)) (fun o=>∃r,o=some r∧QN p S (dK p l) r) rfl (fun d hd=>?_) (fun i d next hi hd hnx=>?_)
 ·rw [List.take_length] at hd;subst hd;obtain ⟨r,h1,h2⟩:=zk7 (fuel:=fuel) hf hok hS (zjd l);exact ⟨r,by rw [h1];rfl,h2⟩
 ·subst hd;have hs:=zjd (p:=p) (l.take i);have hb:Bd (dK p (l.take i)):=hbd.ord hs.len hs.ord;rw [zmp hb.len (fun x hx=>(hb.ch x hx).1),Option.bind_some];refine hnx _ ?_;have hg:=hl.good _ (fo hi); (have hgc:lX (cJ l i)=true:=by unfold lX;exact decide_eq_true a5);rw [zlt hi]
  congr 1
  unfold ig;rw [hgc];rfl
theorem ValidL.take (h:ValidL l)(n:Nat):ValidL (l.take n):=by
 refine ⟨fun x hx=>h.good x (List.mem_of_mem_take hx),fun i j hij hj=>?_⟩;rw [List.length_take] at hj;rw [dW (by rw [List.length_take];omega),dW (by rw [List.length_take];omega),List.getElem_take,List.getElem_take];have:=h.inc i j hij a5
 rwa [dW a5,dW a5] at this
end
section
variable {p:GProblem}{fuel:Nat}
theorem ziW {g:List GChoice}:zb3 p g=some (gB p&&iv p g):=by
 cases hok:gB p with
 |false=>
  unfold zb3;rw [zhQ,Option.bind_some,hok];rfl
 |true=>rw [zkJ hok];rfl
end
def HoldN (q:GProblem)(S:List (List GChoice))(g:List GChoice):Prop:=iv q g=true∧∀e,ClosedN q S e→¬SubD e (dK q g)
def AllN (q:GProblem):List (List GChoice)→List (List GChoice)→Prop
 |_,[]=>True
 |S,g :: l=>HoldN q S g∧AllN q (S++[g]) l
open Classical in
noncomputable def ee (q:GProblem):List (List GChoice)→List (List GChoice)→Nat
 |_,[]=>0
 |S,g :: l=>if HoldN q S g then ee q (S++[g]) l+1 else 0
section
variable {q:GProblem}{fuel:Nat}{S S':List (List GChoice)}{g:List GChoice}
theorem ClosedN.less {d:List GDomain}(h:ClosedN q S d)(hs:∀g∈S',g∈S):ClosedN q S' d:=⟨h.cl,fun g hg=>h.ne g (hs g hg),fun g hg=>h.calm g (hs g hg)⟩
theorem HoldN.mono (h:HoldN q S g)(hs:∀x∈S,x∈S'):HoldN q S' g:=⟨h.1,fun e he=>h.2 e (he.less hs)⟩
theorem AllN.mono:∀ {l:List (List GChoice)} {S S':List (List GChoice)},(∀x∈S,x∈S')→AllN q S l→AllN q S' l
 | [],_,_,_,_=>trivial
 |g :: l,S,S',hs,h=>⟨h.1.mono hs,AllN.mono (fun x hx=>by
  rcases List.mem_append.1 hx with hx|hx
  ·exact List.mem_append_left _ (hs x hx)
  ·exact List.mem_append_right _ hx) h.2⟩
theorem AllN.ok:∀ {l:List (List GChoice)} {S:List (List GChoice)},AllN q S l→∀g∈l,iv q g=true
 | [],_,_,_,hg=>by cases hg
 |g :: l,S,h,x,hx=>by
  rcases List.mem_cons.1 hx with rfl|hx
  ·exact h.1.1
  ·exact AllN.ok h.2 x hx
theorem zky {l:List (List GChoice)}(h:HoldN q S g):ee q S (g :: l)=ee q (S++[g]) l+1:=if_pos h
theorem zlL {l:List (List GChoice)}(h:¬HoldN q S g):ee q S (g :: l)=0:=if_neg h
theorem zhE {l:List (List GChoice)}{i:Nat}(hi:i<l.length):l.drop i=cJ l i :: l.drop (i+1):=by
 rw [List.drop_eq_getElem_cons hi,dW hi]
theorem zg4 {l:List (List GChoice)}{i:Nat}(hi:i<l.length)(h:HoldN q (S++l.take i) (cJ l i)):ee q (S++l.take i) (l.drop i)=ee q (S++l.take (i+1)) (l.drop (i+1))+1:=by
 rw [zhE hi,zky h,List.append_assoc,←ml hi]
theorem ze7 {l:List (List GChoice)}{i:Nat}(hi:i<l.length)(h:¬HoldN q (S++l.take i) (cJ l i)):ee q (S++l.take i) (l.drop i)=0:=by
 rw [zhE hi,zlL h]
theorem zlE (hf:100000≤fuel)(hok:gB q=true){t:GStore}(h:StN q t){l:List (List GChoice)}(hn:t.list.length+l.length≤4096)(hs:∀g∈l,g.length≤1000):∃c,zbk fuel t l=some ((ee q t.list l:Int),c):=by
 unfold zbk;refine lI ?_;refine kO (σ:=List (List GChoice)) (fun i c=>(∀g∈l.take i,iv q g=true)∧(i<l.length→c=t.list++l.take i)∧ee q t.list l=i+ee q (t.list++l.take i) (l.drop i)) (fun o=>∃c,o=some ((ee q t.list l:Int),c)) ⟨fun g hg=>(by simp at hg),fun _=>a9,by simp⟩ (fun c hc=>?_) (fun i c next hi hc hnx=>?_)
 ·refine ⟨c,?_⟩;have:=hc.2.2;rw [List.drop_length] at this;have h0:ee q (t.list++l.take l.length) []=0:=rfl;rw [h0] at this;rw [this];rfl
 ·obtain ⟨h1,h2,h3⟩:=hc;have h2:=h2 hi;subst h2
  have hst:StN q ⟨t.domains,(t.start.1,t.start.2),t.list++l.take i⟩:=⟨h.pr,h.st,h.tb,fun g hg=>by
   rcases List.mem_append.1 hg with hg|hg
   ·exact h.ok g hg
   ·exact h1 g hg⟩
  (have hlt:(t.list++l.take i).length<4096:=by rw [List.length_append,List.length_take];omega);obtain ⟨b,f1,f2,f3⟩:=zln hf hok hst (g:=cJ l i);rw [f1,Option.bind_some]
  cases hg:iv q (cJ l i) with
  |false=>
   (have hno:¬HoldN q (t.list++l.take i) (cJ l i):=fun hh=>by rw [hh.1] at hg;cases hg);rw [ze7 hi hno,Nat.add_zero] at h3;refine ⟨t.list++l.take i,?_⟩;rw [h3];rfl
  |true=>
   cases b with
   |false=>
    (have hno:¬HoldN q (t.list++l.take i) (cJ l i):=fun hh=>by have:=(f3 hg).2 hh.2;cases this);rw [ze7 hi hno,Nat.add_zero] at h3;refine ⟨t.list++l.take i,?_⟩;rw [h3];rfl
   |true=>
    have hho:HoldN q (t.list++l.take i) (cJ l i):=⟨hg,(f3 hg).1 rfl⟩;rw [zg4 hi hho] at h3
    have h1':∀g∈l.take (i+1),iv q g=true:=fun g hgm=>by
     rw [ml hi] at hgm;rcases List.mem_append.1 hgm with hgm|hgm
     ·exact h1 g hgm
     ·simp at hgm;rw [hgm];exact hg
    show ∃c,(bif (decide (¬(0:Int)=0))||(!true) then _ else _)=_
    rw [decide_eq_false a5,Bool.not_true,Bool.or_self,cond_false];by_cases hl:(i:Int)<(l.length:Int) - 1
    ·rw [decide_eq_true hl,cond_true,add_x hst hlt (hs _ (fo hi)),hg,cond_true,Option.bind_some]
     show ∃c,(bif decide (¬(0:Int)=0) then _ else _)=_
     rw [decide_eq_false a5,cond_false];refine hnx _ ⟨h1',fun _=>?_,by omega⟩
     show t.list++l.take i++[cJ l i]=_
     rw [List.append_assoc,←ml hi]
    ·rw [decide_eq_false hl,cond_false,cond_false];exact hnx _ ⟨h1',fun h4=>by omega,by omega⟩
end
section
variable {p:GProblem}{x:GProof}{fuel:Nat}
theorem zh3 {st:List Int}(h:gB p=true):gB (kr p st)=true:=by
 rw [←zgx] at h ⊢;exact znb h
noncomputable def fM (p:GProblem) (x:GProof):Int×Int:=bif gB p&&lv x then (bif x.Stations.all (dQ p) then ((ee (kr p x.Stations) [] x.Lemmas:Int),0) else (0,9)) else (0,2)
theorem znL (h:lv x=true):kl x.Stations=true:=by unfold lv at h;exact fy h
theorem okX_n (h:lv x=true):x.Lemmas.length≤4096:=by
 obtain ⟨M,e,hM⟩:=zo9 h;have:=hM.n;rw [e,List.length_append,List.length_singleton];omega
theorem zne (h:(gB p&&lv x)=false):zbh fuel p x=some (none,2):=by
 unfold zbh;simp only [dI,zgv,Option.bind_some]
 cases h1:gB p with
 |false=>rfl
 |true=>
  rw [h1,Bool.true_and] at h;rw [h];rfl
theorem zkZ (hok:gB p=true)(hx:lv x=true)(h:x.Stations.all (dQ p)=false):zbh fuel p x=some (none,9):=by
 unfold zbh;simp only [dI,zgv,Option.bind_some,hok,hx,zhD,zjD,zgx,znL hx,h]
 rfl
theorem zoc (hf:100000≤fuel)(hok:gB p=true)(hx:lv x=true)(h:x.Stations.all (dQ p)=true):∃t,zbh fuel p x=some (some t,0)∧StN (kr p x.Stations) t∧t.list=[]:=by
 obtain ⟨t,h1,h2,h3⟩:=new_x (fuel:=fuel) hf (zh3 (st:=x.Stations) hok);refine ⟨t,?_,h2,h3⟩;unfold zbh;simp only [dI,zgv,Option.bind_some,hok,hx,zhD,zjD,zgx,znL hx,h,Bool.and_self,cond_true,Bool.not_true,cond_false,h1]
 rfl
theorem zin (hf:100000≤fuel)(hs:∀g∈x.Lemmas,g.length≤1000):zb2 fuel p x=some (fM p x):=by
 unfold zb2 fM
 cases h:gB p&&lv x with
 |false=>rw [zne h];rfl
 |true=>
  have hok:=fy h;have hx:=fR h
  cases ha:x.Stations.all (dQ p) with
  |false=>rw [zkZ hok hx ha];rfl
  |true=>
   obtain ⟨t,h1,h2,h3⟩:=zoc hf hok hx ha;have hn:=okX_n hx;obtain ⟨c,h4⟩:=zlE hf (zh3 (st:=x.Stations) hok) h2 (l:=x.Lemmas) (by rw [h3];simpa using hn) hs;rw [h1,Option.bind_some]
   show (zbk fuel t x.Lemmas).bind _=_
   rw [h4,h3];rfl
theorem zi7 {q:GProblem}(hf:100000≤fuel)(hok:gB q=true){S:List (List GChoice)}(hS:∀g∈S,iv q g=true){g:List GChoice}(hg:iv q g=true):∃b,zcn fuel q S g=some b∧(b=true↔HoldN q S g):=by
 obtain ⟨r,h1,h2⟩:=zm8 hf hok hS (gp.1 hg).1;refine ⟨!r.2,by unfold zcn;rw [h1];rfl,?_⟩;rcases h2 with ⟨a,b,_,c,_⟩|⟨a,b⟩
 ·rw [a];exact ⟨fun h=>(by cases h),fun h=>absurd c (h.2 _ b)⟩
 ·rw [a];exact ⟨fun _=>⟨hg,b⟩,fun _=>rfl⟩
theorem zf0 (hf:100000≤fuel):zcq fuel p x=some (fM p x):=by
 unfold zcq fM;rw [zhQ,Option.bind_some,zhu]
 cases hok:gB p with
 |false=>rfl
 |true=>
  cases hx:lv x with
  |false=>rfl
  |true=>
   rw [Bool.not_true,Bool.or_self,cond_false,zh4,Option.bind_some];unfold zjD;rw [zgx,hok,znL hx]
   cases ha:x.Stations.all (dQ p) with
   |false=>rfl
   |true=>
    have hq:=zh3 (st:=x.Stations) hok;have hsc:(bif true&&true then bif true then (kr p x.Stations,(0:Int)) else ((⟨[],⟨[],[],[]⟩⟩:GProblem),9) else (⟨[],⟨[],[],[]⟩⟩,2))=(kr p x.Stations,0):=rfl;rw [hsc]
    show (bif decide (¬(0:Int)=0) then _ else _)=some ((ee (kr p x.Stations) [] x.Lemmas:Int),0)
    rw [decide_eq_false a5,cond_false];refine lI ?_;refine kO (σ:=Unit) (fun i _=>(∀g∈x.Lemmas.take i,iv (kr p x.Stations) g=true)∧ee (kr p x.Stations) [] x.Lemmas=i+ee (kr p x.Stations) (x.Lemmas.take i) (x.Lemmas.drop i)) (fun o=>o=some ((ee (kr p x.Stations) [] x.Lemmas:Int),0)) ⟨fun g hg=>(by simp at hg),by simp⟩ (fun _ hc=>?_) (fun i _ next hi hc hnx=>?_)
    ·have:=hc.2;rw [List.drop_length] at this;have h0:ee (kr p x.Stations) (x.Lemmas.take x.Lemmas.length) []=0:=rfl;rw [h0] at this;rw [this];rfl
    ·obtain ⟨h1,h2⟩:=hc;rw [ziW,Option.bind_some,hq,Bool.true_and]
     have stop:¬HoldN (kr p x.Stations) (x.Lemmas.take i) (cJ x.Lemmas i)→ee (kr p x.Stations) [] x.Lemmas=i:=fun hno=>by
      have:=ze7 (S:=[]) hi (by rw [List.nil_append];exact hno);rw [List.nil_append] at this;omega
     cases hg:iv (kr p x.Stations) (cJ x.Lemmas i) with
     |false=>
      rw [stop fun hh=>by rw [hh.1] at hg;cases hg];rfl
     |true=>
      obtain ⟨b,h3,h4⟩:=zi7 hf hq h1 hg;rw [Bool.not_true,cond_false,h3,Option.bind_some]
      cases b with
      |false=>
       rw [stop fun hh=>by have:=h4.2 hh;cases this];rfl
      |true=>
       have hh:=h4.1 rfl;have:=zg4 (S:=[]) hi (by rw [List.nil_append];exact hh);rw [List.nil_append,List.nil_append] at this;rw [Bool.not_true,cond_false];refine hnx () ⟨fun g hgm=>?_,by omega⟩;rw [ml hi] at hgm;rcases List.mem_append.1 hgm with hgm|hgm
       ·exact h1 g hgm
       ·simp at hgm;rw [hgm];exact hg
noncomputable def ka (p:GProblem) (x:GProof):Int:=bif ((decide ((fM p x).2=0))&&(decide ((fM p x).1<(x.Lemmas.length:Int)))) then 10 else (fM p x).2
theorem zmg (hf:100000≤fuel)(hs:∀g∈x.Lemmas,g.length≤1000):zb7 fuel p x=some (ka p x):=by
 unfold zb7 ka;rw [zin hf hs,Option.bind_some]
 cases ((decide ((fM p x).2=0))&&(decide ((fM p x).1<(x.Lemmas.length:Int)))) <;> rfl
theorem zjn (hf:100000≤fuel):zcE fuel p x=some (ka p x):=by
 unfold zcE ka;rw [zf0 hf,Option.bind_some]
 cases ((decide ((fM p x).2=0))&&(decide ((fM p x).1<(x.Lemmas.length:Int)))) <;> rfl
end
def kQ (a:Int)(b:Int):GPair:=
 (GPair.mk a b 0 14 51)
theorem zev (F0:Frz)(w:World)(hF0:F0.At w)(a:Int)(b:Int):Calls Tryz.prog 71 #[.int .i64 a, .int .i64 b] w fun e w'=>e= .returned (.agg [.int .i64 ((kQ a b).A), .int .i64 ((kQ a b).B), .int .i64 ((kQ a b).Offset), .int .i64 ((kQ a b).Low), .int .i64 ((kQ a b).High)].toArray)∧Below w.heap.size w w':=by
 obtain ⟨r,hk⟩:∃r,kQ a b=r:=⟨_,rfl⟩;rw [hk];unfold kQ at hk;obtain ⟨S0,F1,rfl,hS0,hp0⟩:=eu hF0;refine dt Tryz.func71 rfl rfl rfl hp0 ?_;refine dh ?_;refine gu ?_;rintro _ _ ⟨g4,rfl,rfl⟩;refine dV ?_;refine d5 ?_;refine jF ?_;refine kE ?_;refine fT ?_;subst hk;exact ly 0 rfl rfl rfl rfl (fun w' hw=>⟨rfl,hw.isBelow⟩)
def lO  : GProblem :=
 (GProblem.mk [(GDomain.mk 1 [14,15]),(GDomain.mk 2 [14,15]),(GDomain.mk 3 [14,15]),(GDomain.mk 4 [14])] (GRules.mk [(kQ 1 2),(kQ 1 3),(kQ 2 3)] [] []))
theorem zc1 (F0 : Frz)(w : World)(hF0 : F0.At w)  : Calls Tryz.prog 33 #[] w fun e w' => ∃ (y : Value × List (List Value) × Value × Value × Value) (G : Frz), (SlD cK G y.1 2 y.2.1 ((lO).Domains) ∧ SlC G y.2.2.1 5 (((lO).Rules.Pairs).map cO) ∧ SlC G y.2.2.2.1 5 (((lO).Rules.Loads).map cP) ∧ SlC G y.2.2.2.2 4 (((lO).Rules.Caps).map cR)) ∧ e = .returned (.agg [y.1, y.2.2.1, y.2.2.2.1, y.2.2.2.2].toArray) ∧ Fx F0 w G w' := by
 obtain ⟨r,hk⟩:∃r,lO=r:=⟨_,rfl⟩;rw [hk];unfold lO at hk;obtain ⟨S0,F1,rfl,hS0,hp0⟩:=eu hF0;refine dt Tryz.func33 rfl rfl rfl hp0 ?_;refine dh ?_;refine gu ?_;rintro _ _ ⟨g0,rfl,rfl⟩;refine dV ?_;refine jH ?_;rintro _ _ ⟨g2,rfl,rfl⟩;refine ks ?_;refine mr (fun w hw=>hw.freezeR (i:=2) (j:=0) a6 rfl rfl) ?_;rintro F2 ⟨le1_2,hz2⟩;refine ir ?_;have hf2:SlC F2.toFrz (.slice (some ⟨g2,0,none⟩) 2 2) 1 ([14,15].map eI):=(SlK.lit hz2 rfl (Nat.le_refl _) a6).toF (xs:=[14,15]) rfl (fun _=>rfl);refine gH ?_;refine jF ?_;refine di ?_;refine jF ?_;refine di ?_;refine jF ?_;refine jH ?_;rintro _ _ ⟨g9,rfl,rfl⟩;refine jS (fun w hw=>hw.freezeR (i:=2) (j:=0) a6 rfl rfl) ?_;rintro F3 ⟨le2_3,hz3⟩;refine ir ?_;have le1_3:=le1_2.trans le2_3;have hf3:SlC F3.toFrz (.slice (some ⟨g9,0,none⟩) 1 1) 1 ([14].map eI):=(SlK.lit hz3 rfl (Nat.le_refl _) a6).toF (xs:=[14]) rfl (fun _=>rfl);refine jF ?_;refine jH ?_;rintro _ _ ⟨g11,rfl,rfl⟩;have hl11:OwnD cK F3.toFrz 2 [[.int .i64 1,(.slice (some ⟨g2,0,none⟩) 2 2)],[.int .i64 2,(.slice (some ⟨g2,0,none⟩) 2 2)],[.int .i64 3,(.slice (some ⟨g2,0,none⟩) 2 2)],[.int .i64 4,(.slice (some ⟨g9,0,none⟩) 1 1)]] [(GDomain.mk 1 [14,15]),(GDomain.mk 2 [14,15]),(GDomain.mk 3 [14,15]),(GDomain.mk 4 [14])]:=(dc (dc (dc (dc (OwnD.nil _ _ 2) ⟨_,rfl,(SlC.mono hf2 le2_3)⟩) ⟨_,rfl,(SlC.mono hf2 le2_3)⟩) ⟨_,rfl,(SlC.mono hf2 le2_3)⟩) ⟨_,rfl,hf3⟩);refine cU (cM rfl rfl rfl (fun w hw=>zev _ w (hw.fr (i:=2) rfl) 1 2)) ?_;refine fm ?_;refine cU (cM rfl rfl rfl (fun w hw=>zev _ w (hw.fr (i:=2) rfl) 1 3)) ?_;refine fm ?_;refine cU (cM rfl rfl rfl (fun w hw=>zev _ w (hw.fr (i:=2) rfl) 2 3)) ?_;refine fm ?_;refine jH ?_;rintro _ _ ⟨g15,rfl,rfl⟩;refine jF ?_;refine jF ?_;refine eL (dB 2) ?_;refine fm ?_;refine fT ?_;refine iW (fun w hw=>hw.freezeR (i:=3) (j:=1) a6 rfl rfl) ?_;rintro F4 ⟨le3_4,hz4⟩;refine ir ?_;have le1_4:=le1_3.trans le3_4;have hf4:SlD cK F4.toFrz (.slice (some ⟨g11,0,none⟩) 4 4) 2 [[.int .i64 1,(.slice (some ⟨g2,0,none⟩) 2 2)],[.int .i64 2,(.slice (some ⟨g2,0,none⟩) 2 2)],[.int .i64 3,(.slice (some ⟨g2,0,none⟩) 2 2)],[.int .i64 4,(.slice (some ⟨g9,0,none⟩) 1 1)]] [(GDomain.mk 1 [14,15]),(GDomain.mk 2 [14,15]),(GDomain.mk 3 [14,15]),(GDomain.mk 4 [14])]:=(SlK.lit hz4 rfl (Nat.le_refl _) a6).toD (OwnD.mono (rep:=cK) (fun _ _ _ _=>GDomain.mono) hl11 le3_4) rfl;refine q3C ?_;rintro F5 ⟨le4_5,hz5⟩;refine ir ?_;have le1_5:=le1_4.trans le4_5;have hf5:SlC F5.toFrz (.slice (some ⟨g15,0,none⟩) 3 3) 5 ([(kQ 1 2),(kQ 1 3),(kQ 2 3)].map cO):=(SlK.lit hz5 rfl (Nat.le_refl _) a6).toF (xs:=[(kQ 1 2),(kQ 1 3),(kQ 2 3)]) rfl GPair.len;subst hk;exact ly 0 rfl rfl rfl rfl (fun w' hw=>⟨((.slice (some ⟨g11,0,none⟩) 4 4),[[.int .i64 1,(.slice (some ⟨g2,0,none⟩) 2 2)],[.int .i64 2,(.slice (some ⟨g2,0,none⟩) 2 2)],[.int .i64 3,(.slice (some ⟨g2,0,none⟩) 2 2)],[.int .i64 4,(.slice (some ⟨g9,0,none⟩) 1 1)]],(.slice (some ⟨g15,0,none⟩) 3 3),(.slice none 0 0),(.slice none 0 0)),F5.toFrz,⟨(SlD.mono (rep:=cK) (fun _ _ _ _=>GDomain.mono) hf4 le4_5),hf5,(SlC.nil _ 5),(SlC.nil _ 4)⟩,rfl,eX hw (i:=1) rfl hS0 le1_5⟩)
def zbg (stations:List Int)(lemmas:Int):Option GProof:=
 dI (fun (s3:List Int×List (List GChoice))=>
  ep (dr (s3.2++[[]]).length 24) <|
  some (GProof.mk s3.1 (s3.2++[[]])))
 (fun k3=>
  ep (lemmas≤9223372036854775807) <|
  c8 (fun (i_7:Nat) (next6:(List Int×List (List GChoice))→Option GProof) (s6:List Int×List (List GChoice))=>
   ep (dr (s6.2++[[(GChoice.mk (i_7:Int) 14)]]).length 24) <|
   next6 (s6.1,(s6.2++[[(GChoice.mk (i_7:Int) 14)]])))
  (fun (s6:List Int×List (List GChoice))=>
   k3 (s6.1,s6.2)) (lemmas.toNat - 1) 1 (stations,[]))
theorem zbN (F0:Frz)(w:World)(hF0:F0.At w)(stations:List Int)(vstations:Value)(hstations:SlC F0 vstations 1 (stations.map eI))(lemmas:Int)(r:GProof)(hr:zbg stations lemmas=some r):Calls Tryz.prog 34 #[vstations, .int .i64 lemmas] w fun e w'=>∃(y:Value×Value×List (List Value)) (G:Frz),(SlC G y.1 1 (r.Stations.map eI)∧SlD cI G y.2.1 1 y.2.2 r.Lemmas)∧e= .returned (.agg [y.1,y.2.1].toArray)∧Fx F0 w G w':=by
 have hk:=hr;unfold zbg at hk;haveI:=hstations.oneC;obtain ⟨S0,F1,rfl,hS0,hp0⟩:=eu hF0;refine dt Tryz.func34 rfl rfl rfl hp0 ?_;refine dh ?_;refine gu ?_;rintro _ _ ⟨g4,rfl,rfl⟩;refine nA ?_;refine jF ?_;refine gu ?_;rintro _ _ ⟨g5,rfl,rfl⟩;refine TL.slNil 50 1 ?_;refine q4b ?_;refine fm ?_;refine TL.slNil 50 1 ?_;refine iH ?_;refine dx ?_;have hq:=d7 hk;clear hk;obtain ⟨k3,hk3,hk⟩:=hq; (try dsimp only at hk);refine cZ (ι:=List Int×Value×List (List GChoice)×Value×List (List Value)×FzB w (fun _=>False) S0) (fun z=>[(4, .pointer (some ⟨g4,0,none⟩)),(5, .pointer (some ⟨g5,0,none⟩))]) (fun z=>[.sl z.2.2.2.1 50 1 z.2.2.1.length z.2.2.2.2.1.flatten, .row g5 33 [z.2.1,z.2.2.2.1], .row g4 33 [(.slice none 0 0),(.slice none 0 0)], .fr z.2.2.2.2.2]) (fun z=>k3 (z.1,z.2.2.1)=some r∧SlC z.2.2.2.2.2.toFrz z.2.1 1 (z.1.map eI)∧OwnD cI z.2.2.2.2.2.toFrz 1 z.2.2.2.2.1 z.2.2.1∧OneC z.2.2.2.1∧F1.toFrz.Le z.2.2.2.2.2.toFrz) ?_ ?_
 ·have hq:(lemmas≤9223372036854775807)∧_:=fu hk;clear hk;obtain ⟨gl6,hk⟩:=hq; (try dsimp only at hk);have hq:=eO hk;clear hk;obtain ⟨f6,kk6,hf6,hkk6,hk⟩:=hq;refine eB ?_;refine T.pick [0,2,3,4] rfl a6 ?_;refine T.loop (ι:=Nat×List Int×Value×List (List GChoice)×Value×List (List Value)×FzB w (fun _=>False) S0) (fun z=>[(1, .int .i64 lemmas),(4, .pointer (some ⟨g4,0,none⟩)),(5, .pointer (some ⟨g5,0,none⟩)),(6, .int .i64 (z.1:Int))]) (fun z=>[.sl z.2.2.2.2.1 50 1 z.2.2.2.1.length z.2.2.2.2.2.1.flatten, .row g5 33 [z.2.2.1,z.2.2.2.2.1], .row g4 33 [(.slice none 0 0),(.slice none 0 0)], .fr z.2.2.2.2.2.2]) (fun z=>c8 f6 kk6 (lemmas.toNat - z.1) z.1 (z.2.1,z.2.2.2.1)=some r∧SlC z.2.2.2.2.2.2.toFrz z.2.2.1 1 (z.2.1.map eI)∧OwnD cI z.2.2.2.2.2.2.toFrz 1 z.2.2.2.2.2.1 z.2.2.2.1∧OneC z.2.2.2.2.1∧F1.toFrz.Le z.2.2.2.2.2.2.toFrz) (fun z=>lemmas.toNat - z.1) (1,stations,vstations,[],(.slice none 0 0),[],F1) ?_ ?_ ?_ ?_
  ·exact ⟨hk,hstations,(OwnD.nil _ _ 1),inferInstance,(Frz.Le.refl _)⟩
  ·exact m0
  ·exact eh
  ·rintro ⟨i_7,c_4,vc_4,c_5,vc_5,cc_5,F3⟩ ⟨hk,hc_4,hc_5,oc_5,le1_3⟩; (try dsimp only at *);haveI:=hc_4.oneC;refine T.seq (dh ?_);refine eJ ?_;refine da ?_;refine T.cond rfl (fun h8=>?_) (fun h8=>?_)
   ·have p8:=of_decide_eq_true h8;rw [eQ a5] at hk;generalize hn6:c8 f6 kk6 (lemmas.toNat - (i_7+1)) (i_7+1)=next6 at hk;rw [←hf6] at hk; (try dsimp only at hk);refine T.skip (K.seq (T.seq (T.block ?_)));have hq:(dr (c_5++[[(GChoice.mk (i_7:Int) 14)]]).length 24)∧_:=fu hk;clear hk;obtain ⟨g20,hk⟩:=hq; (try dsimp only at hk);refine fw ?_;refine lZ ?_;refine di ?_;refine jF ?_;refine jH ?_;rintro _ _ ⟨g18,rfl,rfl⟩;refine jS (fun w hw=>hw.freezeR (i:=4) (j:=0) a6 rfl rfl) ?_;rintro F4 ⟨le3_4,hz4⟩;refine ir ?_;have le1_4:=le1_3.trans le3_4;have hf4:SlC F4.toFrz (.slice (some ⟨g18,0,none⟩) 1 1) 2 ([(GChoice.mk (i_7:Int) 14)].map cV):=(SlK.lit hz4 rfl (Nat.le_refl _) a6).toF (xs:=[(GChoice.mk (i_7:Int) 14)]) rfl GChoice.len;refine jH ?_;rintro _ _ ⟨g19,rfl,rfl⟩;have hl19:OwnD cI F4.toFrz 1 [[(.slice (some ⟨g18,0,none⟩) 1 1)]] [[(GChoice.mk (i_7:Int) 14)]]:=(dc (OwnD.nil _ _ 1) ⟨_,rfl,hf4⟩);refine cU (fg 1 0 rfl rfl rfl rfl rfl rfl (kv (ys:=[[(GChoice.mk (i_7:Int) 14)]])) (zbY (cs:=cc_5) (ds:=[[(.slice (some ⟨g18,0,none⟩) 1 1)]])) g20 a6) ?_;rintro v20 _ ⟨hv20,rfl⟩;have ho20:OwnD cI F4.toFrz 1 (cc_5++[[(.slice (some ⟨g18,0,none⟩) 1 1)]]) (c_5++[[(GChoice.mk (i_7:Int) 14)]]):=(dc (OwnD.mono (rep:=cI) (fun _ _ _ _=>R_List_GChoice.mono) hc_5 le3_4) ⟨_,rfl,hf4⟩);refine e9 ?_;refine eL (ei 2 rfl rfl rfl rfl a9) ?_;refine fm ?_;refine q2s ?_;refine iS ?_;rw [←hn6] at hk;refine K.pick [1,2,3,4] rfl a6 ?_;exact K.next ((i_7+1),c_4,vc_4,(c_5++[[(GChoice.mk (i_7:Int) 14)]]),v20,(cc_5++[[(.slice (some ⟨g18,0,none⟩) 1 1)]]),F4) ⟨hk,(SlC.mono hc_4 le3_4),ho20,inferInstance,le1_4⟩ a8 (.c (.c (.c (.c .nil)))) (List.Sublist.refl _)
   ·have p8:=of_decide_eq_false h8;rw [eP a5,←hkk6] at hk; (try dsimp only at hk);refine eE ?_;exact cS (c_4,vc_4,c_5,vc_5,cc_5,F3) ⟨hk,hc_4,hc_5,inferInstance,le1_3⟩ (.c (.c .nil)) (List.Sublist.refl _)
 ·rintro ⟨c_1,vc_1,c_2,vc_2,cc_2,F2⟩ ⟨hk,hc_1,hc_2,oc_2,le1_2⟩; (try dsimp only at *);rw [←hk3] at hk; (try dsimp only at hk);haveI:=hc_1.oneC;refine T.seq ?_;have hq:(dr (c_2++[[]]).length 24)∧_:=fu hk;clear hk;obtain ⟨g25,hk⟩:=hq; (try dsimp only at hk);refine fw ?_;refine lZ ?_;refine jH ?_;rintro _ _ ⟨g24,rfl,rfl⟩;have hl24:OwnD cI F2.toFrz 1 [[(.slice none 0 0)]] [[]]:=(dc (OwnD.nil _ _ 1) ⟨_,rfl,(SlC.nil _ 2)⟩);refine cU (fg 1 0 rfl rfl rfl rfl rfl rfl (kv (ys:=[[]])) (zbY (cs:=cc_2) (ds:=[[(.slice none 0 0)]])) g25 a6) ?_;rintro v25 _ ⟨hv25,rfl⟩;have ho25:OwnD cI F2.toFrz 1 (cc_2++[[(.slice none 0 0)]]) (c_2++[[]]):=(dc hc_2 ⟨_,rfl,(SlC.nil _ 2)⟩);refine e9 ?_;refine eL (ei 2 rfl rfl rfl rfl a9) ?_;refine fm ?_;refine dV ?_;refine cL (d9 2) ?_;refine eL (dB 3) ?_;refine fm ?_;refine fT ?_;refine iW (fun w hw=>hw.freezeS (i:=4) (j:=1) a6 rfl rfl) ?_;rintro F5 ⟨le2_5,hz5⟩;refine ir ?_;have le1_5:=le1_2.trans le2_5;have hf5:=hz5.toD (OwnD.mono (rep:=cI) (fun _ _ _ _=>R_List_GChoice.mono) ho25 le2_5) rfl;haveI:=hf5.1.oneC;obtain rfl:=Option.some.inj hk;exact ly 2 rfl rfl rfl rfl (fun w' hw=>⟨(vc_1,v25,(cc_2++[[(.slice none 0 0)]])),F5.toFrz,⟨(SlC.mono hc_1 le2_5),hf5⟩,rfl,eX hw (i:=3) rfl hS0 le1_5⟩)
def zcs (fuel:Nat)(x_:GProof)(want:Int)(e_:Int):Option Bool:=
 (zb2 fuel (lO) x_).bind fun r12=>
 some ((decide (r12.1=want))&&(decide (r12.2=e_)))
theorem zdg (F0:Frz)(w:World)(hF0:F0.At w)(x_:GProof)(vx__0:Value)(hx__0:SlC F0 vx__0 1 (x_.Stations.map eI))(vx__1:Value)(cx__1:List (List Value))(hx__1:SlD cI F0 vx__1 1 cx__1 x_.Lemmas)(want:Int)(e_:Int)(htab:Tab w)(fuel:Nat)(hfu:100000≤fuel)(r:Bool)(hr:zcs fuel x_ want e_=some r):Calls Tryz.prog 35 #[.agg [vx__0,vx__1].toArray, .int .i64 want, .int .i64 e_] w fun e w'=>e= .returned (.bool r)∧Below w.heap.size w w':=by
 have hk:=hr;unfold zcs at hk;haveI:=hx__0.oneC;haveI:=hx__1.1.oneC;obtain ⟨S0,F1,rfl,hS0,hp0⟩:=eu hF0;have hM0:¬(fun _:Nat=>False) 0:=fun h=>h;have htk:∀ {hs:HS} {w':World},Hp w (fun _=>False) hs w'→Tab w':=fun hw=>htab.keptF hw;refine dt Tryz.func35 rfl rfl rfl hp0 ?_;refine gz ?_;rintro _ _ ⟨g3,rfl,rfl⟩;refine ks ?_;have hq:=dZ hk;clear hk;obtain ⟨r12,hr12,hk⟩:=hq; (try dsimp only at hk);refine dD (.still 1 (.eff 0 (.eff 2 (sN 3 4 (.still 7 .done))))) _ a7 (List.Sublist.refl _) ?_;refine i8 ?_;refine dy ?_;refine cW rfl (Wt.none) rfl rfl (dU 1 rfl rfl rfl rfl (fun w hw hF=>zc1 _ w hF )) ?_;rintro _ _ ⟨⟨v10_0_0,cs10_0_0,v10_0_1,v10_0_2,v10_0_3⟩,F2,le1_2,⟨hf10_0_0,hf10_0_1,hf10_0_2,hf10_0_3⟩,rfl,rfl⟩;dsimp only at hf10_0_0 hf10_0_1 hf10_0_2 hf10_0_3 ⊢;haveI:=hf10_0_0.1.oneC;haveI:=hf10_0_1.oneC;haveI:=hf10_0_2.oneC;haveI:=hf10_0_3.oneC;refine ⟨(fun w hw=>(hw.frLe (i:=1) rfl le1_2).sub Sx),?_⟩;refine dy ?_;refine cW rfl (Wt.none) rfl rfl (cM rfl rfl rfl (fun w hw=>zd9 _ w (hw.fr (i:=1) rfl) (lO) v10_0_0 cs10_0_0 hf10_0_0 v10_0_1 hf10_0_1 v10_0_2 hf10_0_2 v10_0_3 hf10_0_3 x_ vx__0 (SlC.mono hx__0 le1_2) vx__1 cx__1 (SlD.mono (rep:=cI) (fun _ _ _ _=>R_List_GChoice.mono) hx__1 le1_2) (htab.keptF hw) fuel hfu r12 hr12)) ?_;refine fm ?_;refine ⟨(fun w hw=>(hw.frLe (i:=1) rfl le1_2).sub Sx),?_⟩;refine TS.run 5 rfl ?_;refine fY ?_;refine K.seq (T.seq ?_);refine cZ (ι:=Unit) (fun z=>[(6, .bool ((decide (r12.1=want))&&(decide (r12.2=e_))))]) (fun z=>[.row g3 33 [vx__0,vx__1], .fr F2]) (fun z=>True) ?_ ?_
 ·refine fw ?_;refine TL.run 4 rfl ?_;refine dq rfl rfl rfl (fun h1=>?_) (fun h1=>?_)
  ·have p1:=of_decide_eq_true h1;refine kP ?_;exact q4W
  ·have p1:=of_decide_eq_false h1;refine kP ?_;exact q4X
 ·refine m5 ?_;obtain rfl:=Option.some.inj hk;exact dS
def zcp (fuel : Nat)  : Option Bool :=
 (zbg [1,2,3] 3).bind fun r9=>
 (zb7 fuel (lO) r9).bind fun r10=>
 dI (fun (x_1:Bool)=>
  (bif x_1 then
   some false
   else
   (zbg [1,2] 3).bind fun r32=>
   (zcs fuel r32 0 0).bind fun r33=>
   dI (fun (x_7:Bool)=>
    (bif x_7 then
     some false
     else
     (zbg [1,2,3] 3).bind fun r44=>
     (zer fuel (lO) r44).bind fun r45=>
     (zdK fuel r45.1).bind fun r50=>
     dI (fun (x_11:Bool)=>
      some x_11)
     (fun k12=>
      (bif decide (r45.2=0) then
       (bif decide (r50.2=0) then
        (zbg [1,2,3] 2).bind fun r62=>
        (bif (zdH r45.1 r62) then
         k12 ((u8s r50.1) == ([3,1,2,3,2,1,1,14,0]:List UInt8))
         else
         k12 false)
        else
        k12 false)
       else
       k12 false))))
   (fun k8=>
    (bif !r33 then
     k8 true
     else
     (zbg [1,2,3,5] 3).bind fun r37=>
     (zcs fuel r37 0 9).bind fun r38=>
     k8 (!r38)))))
 (fun k2=>
  (bif decide (¬r10=0) then
   k2 true
   else
   (zbg [1,2,3] 3).bind fun r14=>
   (zcs fuel r14 3 0).bind fun r15=>
   (bif !r15 then
    k2 true
    else
    (zbg [1,2,3] 1).bind fun r20=>
    (zcs fuel r20 0 0).bind fun r21=>
    (bif !r21 then
     k2 true
     else
     (zbg [1,2,3] 1).bind fun r27=>
     (zb7 fuel (lO) r27).bind fun r28=>
     k2 (decide (¬r28=10))))))
theorem zfs (F0 : Frz)(w : World)(hF0 : F0.At w)  (htab : Tab w)(fuel : Nat)(hfu : 100000 ≤ fuel)(r : Bool)(hr : zcp fuel = some r) : Calls Tryz.prog 10 #[] w fun e w' => e = .returned (.bool r) ∧ Below w.heap.size w w' := by
 have hk:=hr;unfold zcp at hk;obtain ⟨S0,F1,rfl,hS0,hp0⟩:=eu hF0;have hM0:¬(fun _:Nat=>False) 0:=fun h=>h;have htk:∀ {hs:HS} {w':World},Hp w (fun _=>False) hs w'→Tab w':=fun hw=>htab.keptF hw;refine dt Tryz.func10 rfl rfl rfl hp0 ?_;refine mM ?_;refine jH ?_;rintro _ _ ⟨g6,rfl,rfl⟩;refine ni ?_;refine mr (fun w hw=>hw.freezeR (i:=1) (j:=0) a6 rfl rfl) ?_;rintro F2 ⟨le1_2,hz2⟩;refine ir ?_;have hf2:SlC F2.toFrz (.slice (some ⟨g6,0,none⟩) 3 3) 1 ([1,2,3].map eI):=(SlK.lit hz2 rfl (Nat.le_refl _) a6).toF (xs:=[1,2,3]) rfl (fun _=>rfl);have hq:=dZ hk;clear hk;obtain ⟨r9,hr9,hk⟩:=hq;have hq:=dZ hk;clear hk;obtain ⟨r10,hr10,hk⟩:=hq; (try dsimp only at hk);have hq:=d7 hk;clear hk;obtain ⟨k2,hk2,hk⟩:=hq; (try dsimp only at hk);refine cZ (ι:=Bool×FzB w (fun _=>False) S0) (fun z=>[(1,(.slice (some ⟨g6,0,none⟩) 3 3)),(30, .bool z.1)]) (fun z=>[.fr z.2]) (fun z=>k2 z.1=some r∧F2.toFrz.Le z.2.toFrz) ?_ ?_
 ·refine fw ?_;refine cU (dU 0 rfl rfl rfl rfl (fun w hw hF=>zc1 _ w hF )) ?_;rintro _ _ ⟨⟨v7_0_0,cs7_0_0,v7_0_1,v7_0_2,v7_0_3⟩,F4,le2_4,⟨hf7_0_0,hf7_0_1,hf7_0_2,hf7_0_3⟩,rfl,rfl⟩;dsimp only at hf7_0_0 hf7_0_1 hf7_0_2 hf7_0_3 ⊢;haveI:=hf7_0_0.1.oneC;haveI:=hf7_0_1.oneC;haveI:=hf7_0_2.oneC;haveI:=hf7_0_3.oneC;refine di ?_;refine cU (dU 0 rfl rfl rfl rfl (fun w hw hF=>zbN _ w hF [1,2,3] (.slice (some ⟨g6,0,none⟩) 3 3) (SlC.mono hf2 le2_4) 3 r9 hr9)) ?_;rintro _ _ ⟨⟨v9_0_0,v9_0_1,cs9_0_1⟩,F5,le4_5,⟨hf9_0_0,hf9_0_1⟩,rfl,rfl⟩;dsimp only at hf9_0_0 hf9_0_1 ⊢;have le2_5:=le2_4.trans le4_5;haveI:=hf9_0_0.oneC;haveI:=hf9_0_1.1.oneC;refine cU (cM rfl rfl rfl (fun w hw=>zd4 _ w (hw.fr (i:=0) rfl) (lO) v7_0_0 cs7_0_0 (SlD.mono (rep:=cK) (fun _ _ _ _=>GDomain.mono) hf7_0_0 le4_5) v7_0_1 (SlC.mono hf7_0_1 le4_5) v7_0_2 (SlC.mono hf7_0_2 le4_5) v7_0_3 (SlC.mono hf7_0_3 le4_5) r9 v9_0_0 hf9_0_0 v9_0_1 cs9_0_1 hf9_0_1 (htab.keptF hw) fuel hfu r10 hr10)) ?_;refine kN ?_;refine dq rfl rfl rfl (fun h3=>?_) (fun h3=>?_)
  ·have p3:=of_decide_eq_true h3;replace hk:=dn hk h3;refine TL.run 18 rfl ?_;refine eT ?_;exact cS (true,F5) ⟨hk,le2_5⟩ (.c (.c .nil)) (List.Sublist.refl _)
  ·have p3:=of_decide_eq_false h3;replace hk:=dp hk h3;refine di ?_;have hq:=dZ hk;clear hk;obtain ⟨r14,hr14,hk⟩:=hq;refine cU (dU 0 rfl rfl rfl rfl (fun w hw hF=>zbN _ w hF [1,2,3] (.slice (some ⟨g6,0,none⟩) 3 3) (SlC.mono hf2 le2_5) 3 r14 hr14)) ?_;rintro _ _ ⟨⟨v14_0_0,v14_0_1,cs14_0_1⟩,F6,le5_6,⟨hf14_0_0,hf14_0_1⟩,rfl,rfl⟩;dsimp only at hf14_0_0 hf14_0_1 ⊢;have le2_6:=le2_5.trans le5_6;haveI:=hf14_0_0.oneC;haveI:=hf14_0_1.1.oneC;have hq:=dZ hk;clear hk;obtain ⟨r15,hr15,hk⟩:=hq;refine cU (cM rfl rfl rfl (fun w hw=>zdg _ w (hw.fr (i:=0) rfl) r14 v14_0_0 hf14_0_0 v14_0_1 cs14_0_1 hf14_0_1 3 0 (htab.keptF hw) fuel hfu r15 hr15)) ?_;refine fm ?_;refine eJ ?_;refine dq rfl rfl rfl (fun h4=>?_) (fun h4=>?_)
   ·replace hk:=dn hk h4;refine TL.run 12 rfl ?_;refine eT ?_;exact cS (true,F6) ⟨hk,le2_6⟩ (.c (.c .nil)) (List.Sublist.refl _)
   ·replace hk:=dp hk h4;refine di ?_;have hq:=dZ hk;clear hk;obtain ⟨r20,hr20,hk⟩:=hq;refine cU (dU 0 rfl rfl rfl rfl (fun w hw hF=>zbN _ w hF [1,2,3] (.slice (some ⟨g6,0,none⟩) 3 3) (SlC.mono hf2 le2_6) 1 r20 hr20)) ?_;rintro _ _ ⟨⟨v20_0_0,v20_0_1,cs20_0_1⟩,F7,le6_7,⟨hf20_0_0,hf20_0_1⟩,rfl,rfl⟩;dsimp only at hf20_0_0 hf20_0_1 ⊢;have le2_7:=le2_6.trans le6_7;haveI:=hf20_0_0.oneC;haveI:=hf20_0_1.1.oneC;have hq:=dZ hk;clear hk;obtain ⟨r21,hr21,hk⟩:=hq;refine cU (cM rfl rfl rfl (fun w hw=>zdg _ w (hw.fr (i:=0) rfl) r20 v20_0_0 hf20_0_0 v20_0_1 cs20_0_1 hf20_0_1 0 0 (htab.keptF hw) fuel hfu r21 hr21)) ?_;refine fm ?_;refine eJ ?_;refine dq rfl rfl rfl (fun h5=>?_) (fun h5=>?_)
    ·replace hk:=dn hk h5;refine TL.run 6 rfl ?_;refine eT ?_;exact cS (true,F7) ⟨hk,le2_7⟩ (.c (.c .nil)) (List.Sublist.refl _)
    ·replace hk:=dp hk h5;refine cU (dU 0 rfl rfl rfl rfl (fun w hw hF=>zc1 _ w hF )) ?_;rintro _ _ ⟨⟨v25_0_0,cs25_0_0,v25_0_1,v25_0_2,v25_0_3⟩,F8,le7_8,⟨hf25_0_0,hf25_0_1,hf25_0_2,hf25_0_3⟩,rfl,rfl⟩;dsimp only at hf25_0_0 hf25_0_1 hf25_0_2 hf25_0_3 ⊢;have le2_8:=le2_7.trans le7_8;haveI:=hf25_0_0.1.oneC;haveI:=hf25_0_1.oneC;haveI:=hf25_0_2.oneC;haveI:=hf25_0_3.oneC;refine di ?_;have hq:=dZ hk;clear hk;obtain ⟨r27,hr27,hk⟩:=hq;refine cU (dU 0 rfl rfl rfl rfl (fun w hw hF=>zbN _ w hF [1,2,3] (.slice (some ⟨g6,0,none⟩) 3 3) (SlC.mono hf2 le2_8) 1 r27 hr27)) ?_;rintro _ _ ⟨⟨v27_0_0,v27_0_1,cs27_0_1⟩,F9,le8_9,⟨hf27_0_0,hf27_0_1⟩,rfl,rfl⟩;dsimp only at hf27_0_0 hf27_0_1 ⊢;have le2_9:=le2_8.trans le8_9;haveI:=hf27_0_0.oneC;haveI:=hf27_0_1.1.oneC;have hq:=dZ hk;clear hk;obtain ⟨r28,hr28,hk⟩:=hq;refine cU (cM rfl rfl rfl (fun w hw=>zd4 _ w (hw.fr (i:=0) rfl) (lO) v25_0_0 cs25_0_0 (SlD.mono (rep:=cK) (fun _ _ _ _=>GDomain.mono) hf25_0_0 le8_9) v25_0_1 (SlC.mono hf25_0_1 le8_9) v25_0_2 (SlC.mono hf25_0_2 le8_9) v25_0_3 (SlC.mono hf25_0_3 le8_9) r27 v27_0_0 hf27_0_0 v27_0_1 cs27_0_1 hf27_0_1 (htab.keptF hw) fuel hfu r28 hr28)) ?_;refine ll ?_;exact cS (decide (¬r28=10),F9) ⟨hk,le2_9⟩ (.c (.c .nil)) (List.Sublist.refl _)
 ·rintro ⟨x_1,F3⟩ ⟨hk,le2_3⟩; (try dsimp only at *);rw [←hk2] at hk; (try dsimp only at hk);refine T.cond rfl (fun h6=>?_) (fun h6=>?_)
  ·replace hk:=dn hk h6;refine ij ?_;obtain rfl:=Option.some.inj hk;exact dS
  ·replace hk:=dp hk h6;refine q4t ?_;have hq:=dZ hk;clear hk;obtain ⟨r32,hr32,hk⟩:=hq;have hq:=dZ hk;clear hk;obtain ⟨r33,hr33,hk⟩:=hq; (try dsimp only at hk);have hq:=d7 hk;clear hk;obtain ⟨k8,hk8,hk⟩:=hq; (try dsimp only at hk);refine cZ (ι:=Bool×FzB w (fun _=>False) S0) (fun z=>[(1,(.slice (some ⟨g6,0,none⟩) 3 3)),(40, .bool z.1)]) (fun z=>[.fr z.2]) (fun z=>k8 z.1=some r∧F3.toFrz.Le z.2.toFrz) ?_ ?_
   ·refine fw ?_;refine jH ?_;rintro _ _ ⟨g31,rfl,rfl⟩;refine jS (fun w hw=>hw.freezeR (i:=1) (j:=0) a6 rfl rfl) ?_;rintro F11 ⟨le3_11,hz11⟩;refine ir ?_;have hf11:SlC F11.toFrz (.slice (some ⟨g31,0,none⟩) 2 2) 1 ([1,2].map eI):=(SlK.lit hz11 rfl (Nat.le_refl _) a6).toF (xs:=[1,2]) rfl (fun _=>rfl);refine cU (dU 0 rfl rfl rfl rfl (fun w hw hF=>zbN _ w hF [1,2] (.slice (some ⟨g31,0,none⟩) 2 2) hf11 3 r32 hr32)) ?_;rintro _ _ ⟨⟨v32_0_0,v32_0_1,cs32_0_1⟩,F12,le11_12,⟨hf32_0_0,hf32_0_1⟩,rfl,rfl⟩;dsimp only at hf32_0_0 hf32_0_1 ⊢;have le3_12:=le3_11.trans le11_12;haveI:=hf32_0_0.oneC;haveI:=hf32_0_1.1.oneC;refine cU (cM rfl rfl rfl (fun w hw=>zdg _ w (hw.fr (i:=0) rfl) r32 v32_0_0 hf32_0_0 v32_0_1 cs32_0_1 hf32_0_1 0 0 (htab.keptF hw) fuel hfu r33 hr33)) ?_;refine kN ?_;refine dq rfl rfl rfl (fun h9=>?_) (fun h9=>?_)
    ·replace hk:=dn hk h9;refine kP ?_;exact cS (true,F12) ⟨hk,le3_12⟩ (.c (.c .nil)) (List.Sublist.refl _)
    ·replace hk:=dp hk h9;refine jH ?_;rintro _ _ ⟨g36,rfl,rfl⟩;refine jS (fun w hw=>hw.freezeR (i:=1) (j:=0) a6 rfl rfl) ?_;rintro F13 ⟨le12_13,hz13⟩;refine ir ?_;have le3_13:=le3_12.trans le12_13;have hf13:SlC F13.toFrz (.slice (some ⟨g36,0,none⟩) 4 4) 1 ([1,2,3,5].map eI):=(SlK.lit hz13 rfl (Nat.le_refl _) a6).toF (xs:=[1,2,3,5]) rfl (fun _=>rfl);have hq:=dZ hk;clear hk;obtain ⟨r37,hr37,hk⟩:=hq;refine cU (dU 0 rfl rfl rfl rfl (fun w hw hF=>zbN _ w hF [1,2,3,5] (.slice (some ⟨g36,0,none⟩) 4 4) hf13 3 r37 hr37)) ?_;rintro _ _ ⟨⟨v37_0_0,v37_0_1,cs37_0_1⟩,F14,le13_14,⟨hf37_0_0,hf37_0_1⟩,rfl,rfl⟩;dsimp only at hf37_0_0 hf37_0_1 ⊢;have le3_14:=le3_13.trans le13_14;haveI:=hf37_0_0.oneC;haveI:=hf37_0_1.1.oneC;have hq:=dZ hk;clear hk;obtain ⟨r38,hr38,hk⟩:=hq;refine cU (cM rfl rfl rfl (fun w hw=>zdg _ w (hw.fr (i:=0) rfl) r37 v37_0_0 hf37_0_0 v37_0_1 cs37_0_1 hf37_0_1 0 9 (htab.keptF hw) fuel hfu r38 hr38)) ?_;refine ll ?_;exact cS (!r38,F14) ⟨hk,le3_14⟩ (.c (.c .nil)) (List.Sublist.refl _)
   ·rintro ⟨x_7,F10⟩ ⟨hk,le3_10⟩; (try dsimp only at *);rw [←hk8] at hk; (try dsimp only at hk);have le2_10:=le2_3.trans le3_10;refine T.cond rfl (fun h10=>?_) (fun h10=>?_)
    ·replace hk:=dn hk h10;refine ij ?_;obtain rfl:=Option.some.inj hk;exact dS
    ·replace hk:=dp hk h10;refine je ?_;have hq:=dZ hk;clear hk;obtain ⟨r44,hr44,hk⟩:=hq;have hq:=dZ hk;clear hk;obtain ⟨r45,hr45,hk⟩:=hq; (try dsimp only at hk);refine fw ?_;refine cU (dU 0 rfl rfl rfl rfl (fun w hw hF=>zc1 _ w hF )) ?_;rintro _ _ ⟨⟨v42_0_0,cs42_0_0,v42_0_1,v42_0_2,v42_0_3⟩,F15,le10_15,⟨hf42_0_0,hf42_0_1,hf42_0_2,hf42_0_3⟩,rfl,rfl⟩;dsimp only at hf42_0_0 hf42_0_1 hf42_0_2 hf42_0_3 ⊢;have le2_15:=le2_10.trans le10_15;haveI:=hf42_0_0.1.oneC;haveI:=hf42_0_1.oneC;haveI:=hf42_0_2.oneC;haveI:=hf42_0_3.oneC;refine di ?_;refine cU (dU 0 rfl rfl rfl rfl (fun w hw hF=>zbN _ w hF [1,2,3] (.slice (some ⟨g6,0,none⟩) 3 3) (SlC.mono hf2 le2_15) 3 r44 hr44)) ?_;rintro _ _ ⟨⟨v44_0_0,v44_0_1,cs44_0_1⟩,F16,le15_16,⟨hf44_0_0,hf44_0_1⟩,rfl,rfl⟩;dsimp only at hf44_0_0 hf44_0_1 ⊢;have le2_16:=le2_15.trans le15_16;haveI:=hf44_0_0.oneC;haveI:=hf44_0_1.1.oneC;refine cU (dU 0 rfl rfl rfl rfl (fun w hw hF=>ziO _ w hF (lO) v42_0_0 cs42_0_0 (SlD.mono (rep:=cK) (fun _ _ _ _=>GDomain.mono) hf42_0_0 le15_16) v42_0_1 (SlC.mono hf42_0_1 le15_16) v42_0_2 (SlC.mono hf42_0_2 le15_16) v42_0_3 (SlC.mono hf42_0_3 le15_16) r44 v44_0_0 hf44_0_0 v44_0_1 cs44_0_1 hf44_0_1 (htab.keptF hw) fuel hfu r45 hr45)) ?_;rintro _ _ ⟨⟨v45_0_0,v45_0_1,cs45_0_1⟩,F17,le16_17,⟨hf45_0_0,hf45_0_1⟩,rfl,rfl⟩;dsimp only at hf45_0_0 hf45_0_1 ⊢;have le2_17:=le2_16.trans le16_17;haveI:=hf45_0_0.oneC;haveI:=hf45_0_1.1.oneC;refine eJ ?_;refine gu ?_;rintro _ _ ⟨g2,rfl,rfl⟩;refine kE ?_;refine ks ?_;have hq:=dZ hk;clear hk;obtain ⟨r50,hr50,hk⟩:=hq; (try dsimp only at hk);refine fw ?_;refine gj ?_;refine cU (fi [1,0] [] [.row g2 33 [v45_0_0,v45_0_1]] rfl rfl rfl rfl a6 (fun w hw hw2 hF=>zhf _ w hF r45.1 v45_0_0 hf45_0_0 v45_0_1 cs45_0_1 hf45_0_1 fuel r50 hr50)) ?_;rintro _ _ ⟨v50_0_0, -,rfl,rfl⟩;refine fE ?_;refine fL 0 rfl ?_;intro iv50_0_0 hmv50_0_0;refine TL.run 5 rfl ?_;refine q4e ?_;rintro F18 ⟨le17_18,hz18⟩;refine ir ?_;have le2_18:=le2_17.trans le17_18;have hf18:=hz18.toF rfl (fun _=>rfl);haveI:=hf18.oneC; (try dsimp only at hk);have hq:=d7 hk;clear hk;obtain ⟨k12,hk12,hk⟩:=hq; (try dsimp only at hk);refine cZ (ι:=Bool×FzB w (fun _=>False) S0) (fun z=>[(0, .bool z.1)]) (fun z=>[.fr z.2]) (fun z=>k12 z.1=some r∧F18.toFrz.Le z.2.toFrz) ?_ ?_
     ·refine dD (sN 0 9 (.eff 9 (.eff 10 (sN 11 6 (.still 17 .done))))) _ a7 (List.Sublist.refl _) ?_;refine fS ?_;refine dv rfl rfl rfl rfl (fun h13=>?_) (fun h13=>?_)
      ·have p13:=of_decide_eq_true h13;replace hk:=dn hk h13;refine TS.run 4 rfl ?_;refine dv rfl rfl rfl rfl (fun h14=>?_) (fun h14=>?_)
       ·have p14:=of_decide_eq_true h14;replace hk:=dn hk h14;refine q33 ?_;refine fC ?_;refine dy ?_;have hq:=dZ hk;clear hk;obtain ⟨r62,hr62,hk⟩:=hq;refine cW rfl (Wt.some) rfl rfl (dU 0 rfl rfl rfl rfl (fun w hw hF=>zbN _ w hF [1,2,3] (.slice (some ⟨g6,0,none⟩) 3 3) (SlC.mono hf2 le2_18) 2 r62 hr62)) ?_;rintro _ _ ⟨⟨v62_0_0,v62_0_1,cs62_0_1⟩,F20,le18_20,⟨hf62_0_0,hf62_0_1⟩,rfl,rfl⟩;dsimp only at hf62_0_0 hf62_0_1 ⊢;have le17_20:=le17_18.trans le18_20;haveI:=hf62_0_0.oneC;haveI:=hf62_0_1.1.oneC;refine ⟨(fun w hw=>(hw.frLe (i:=0) rfl le18_20).sub Sx),?_⟩;refine dy ?_;refine cW rfl (Wt.some) rfl rfl (cM rfl rfl rfl (fun w hw=>zi8 _ w (hw.fr (i:=0) rfl) r45.1 v45_0_0 (SlC.mono hf45_0_0 le17_20) v45_0_1 cs45_0_1 (SlD.mono (rep:=cI) (fun _ _ _ _=>R_List_GChoice.mono) hf45_0_1 le17_20) r62 v62_0_0 hf62_0_0 v62_0_1 cs62_0_1 hf62_0_1)) ?_;refine fm ?_;refine ⟨(fun w hw=>(hw.frLe (i:=0) rfl le18_20).sub Sx),?_⟩;refine gK ?_;refine dv rfl rfl rfl rfl (fun h15=>?_) (fun h15=>?_)
        ·replace hk:=dn hk h15;refine fC ?_;refine cQ rfl (Yv.cC 0 (e:=5) a7 a7 a7 rfl rfl rfl hf18) ?_;refine cQ rfl (Yv.ct (a:=(u8s r50.1)) (b:=([3,1,2,3,2,1,1,14,0]:List UInt8)) rfl rfl rfl) ?_;refine jE ?_;refine K.pick [0] rfl a6 ?_;exact cS (((u8s r50.1) == ([3,1,2,3,2,1,1,14,0]:List UInt8)),F20) ⟨hk,le18_20⟩ (.c .nil) (List.Sublist.refl _)
        ·replace hk:=dp hk h15;refine TS.run 5 rfl ?_;refine fY ?_;refine K.pick [0] rfl a6 ?_;exact cS (false,F20) ⟨hk,le18_20⟩ (.c .nil) (List.Sublist.refl _)
       ·have p14:=of_decide_eq_false h14;replace hk:=dp hk h14;refine gK ?_;refine q3f ?_;refine TS.run 7 rfl ?_;refine fY ?_;refine K.pick [0] rfl a6 ?_;exact cS (false,F18) ⟨hk,(Frz.Le.refl _)⟩ (.c .nil) (List.Sublist.refl _)
      ·have p13:=of_decide_eq_false h13;replace hk:=dp hk h13;refine TS.run 6 rfl ?_;refine q3f ?_;refine TS.run 7 rfl ?_;refine fY ?_;refine K.pick [0] rfl a6 ?_;exact cS (false,F18) ⟨hk,(Frz.Le.refl _)⟩ (.c .nil) (List.Sublist.refl _)
     ·rintro ⟨x_11,F19⟩ ⟨hk,le18_19⟩; (try dsimp only at *);rw [←hk12] at hk; (try dsimp only at hk);refine T.ret ?_;obtain rfl:=Option.some.inj hk;exact dS
def zcG (fuel:Nat)(p:GProblem)(x_:GProof):Option Bool:=
 (zcI fuel p 9 40).bind fun r6=>
 dI (fun (x_1:Bool)=>
  some x_1)
 (fun k2=>
  (bif r6 then
   (zdk fuel x_ 30).bind fun r9=>
   k2 r9
   else
   k2 false))
theorem zih (F0:Frz)(w:World)(hF0:F0.At w)(p:GProblem)(vp_0:Value)(cp_0:List (List Value))(hp_0:SlD cK F0 vp_0 2 cp_0 p.Domains)(vp_1:Value)(hp_1:SlC F0 vp_1 5 (p.Rules.Pairs.map cO))(vp_2:Value)(hp_2:SlC F0 vp_2 5 (p.Rules.Loads.map cP))(vp_3:Value)(hp_3:SlC F0 vp_3 4 (p.Rules.Caps.map cR))(x_:GProof)(vx__0:Value)(hx__0:SlC F0 vx__0 1 (x_.Stations.map eI))(vx__1:Value)(cx__1:List (List Value))(hx__1:SlD cI F0 vx__1 1 cx__1 x_.Lemmas)(fuel:Nat)(r:Bool)(hr:zcG fuel p x_=some r):Calls Tryz.prog 9 #[.agg [vp_0,vp_1,vp_2,vp_3].toArray, .agg [vx__0,vx__1].toArray] w fun e w'=>e= .returned (.bool r)∧Below w.heap.size w w':=by
 have hk:=hr;unfold zcG at hk;haveI:=hp_0.1.oneC;haveI:=hp_1.oneC;haveI:=hp_2.oneC;haveI:=hp_3.oneC;haveI:=hx__0.oneC;haveI:=hx__1.1.oneC;obtain ⟨S0,F1,rfl,hS0,hp0⟩:=eu hF0;refine dt Tryz.func9 rfl rfl rfl hp0 ?_;refine gz ?_;rintro _ _ ⟨g2,rfl,rfl⟩;refine nz ?_;rintro _ _ ⟨g3,rfl,rfl⟩;refine ks ?_;have hq:=dZ hk;clear hk;obtain ⟨r6,hr6,hk⟩:=hq; (try dsimp only at hk);have hq:=d7 hk;clear hk;obtain ⟨k2,hk2,hk⟩:=hq; (try dsimp only at hk);refine cZ (ι:=Bool) (fun z=>[(4, .bool z)]) (fun z=>[.fr F1]) (fun z=>k2 z=some r) ?_ ?_
 ·refine lz ?_;refine cU (cM rfl rfl rfl (fun w hw=>zh2 _ w (hw.fr (i:=2) rfl) p vp_0 cp_0 hp_0 vp_1 hp_1 vp_2 hp_2 vp_3 hp_3 9 40 fuel r6 hr6)) ?_;refine jz ?_;refine dq rfl rfl rfl (fun h3=>?_) (fun h3=>?_)
  ·replace hk:=dn hk h3;refine gj ?_;have hq:=dZ hk;clear hk;obtain ⟨r9,hr9,hk⟩:=hq;refine cU (cM rfl rfl rfl (fun w hw=>zii _ w (hw.fr (i:=2) rfl) x_ vx__0 hx__0 vx__1 cx__1 hx__1 30 fuel r9 hr9)) ?_;refine ll ?_;refine q3U ?_;exact cS r9 hk (.c .nil) (List.Sublist.refl _)
  ·replace hk:=dp hk h3;refine kj ?_;refine q3U ?_;exact q4T
 ·rintro x_1 hk;rw [←hk2] at hk; (try dsimp only at hk);refine T.ret ?_;obtain rfl:=Option.some.inj hk;exact dS
theorem zmh (n:Nat):zcp (n+100000)=some true:=by kernel_rfl
theorem zlJ {fuel:Nat}(hf:100000≤fuel):zcp fuel=some true:=by
 obtain ⟨n,rfl⟩:∃n,fuel=n+100000:=⟨fuel - 100000,by omega⟩;exact zmh n
section
variable {p:GProblem}{x:GProof}{fuel:Nat}
theorem zmi (hf:100000≤fuel)(p:GProblem)(x:GProof):∃b,zcG fuel p x=some b∧(b=true→x.Stations.length≤20∧x.Lemmas.length≤30∧∀g∈x.Lemmas,g.length≤20):=by
 unfold zcG zdk;obtain ⟨b,hb⟩:=znJ (p:=p) (a:=9) (b:=40) (fuel:=fuel) a5;obtain ⟨b2,hb2,hb3⟩:=zlV (fuel:=fuel) (l:=x.Lemmas) (most:=30) a5 hf;rw [hb];simp only [dI,Option.bind_some,hb2]
 cases b with
 |false=>exact ⟨false,rfl,fun h=>by cases h⟩
 |true=>
  by_cases h1:(x.Stations.length:Int)≤20
  ·rw [decide_eq_true h1];refine ⟨b2,rfl,fun h=>?_⟩;have:=hb3 h;exact ⟨by omega,by omega,this.2⟩
  ·rw [decide_eq_false h1];exact ⟨false,rfl,fun h=>by cases h⟩
end
def zb8 (fuel:Nat)(p:GProblem)(x_:GProof):Option Bool:=
 (zcG fuel p x_).bind fun r11=>
 (bif !r11 then
  (zcp fuel).bind fun r13=>
  some r13
  else
  (zb2 fuel p x_).bind fun r17=>
  (zcq fuel p x_).bind fun r23=>
  (zb6 x_).bind fun r27=>
  dI (fun (x_2:Bool)=>
   some x_2)
  (fun k3=>
   (bif (r27 == (zbL x_)) then
    (bif decide (r17.1=r23.1) then
     (bif decide (r17.2=r23.2) then
      (zb7 fuel p x_).bind fun r44=>
      (zcE fuel p x_).bind fun r47=>
      (bif decide (r44=r47) then
       (zcp fuel).bind fun r51=>
       k3 r51
       else
       k3 false)
      else
      k3 false)
     else
     k3 false)
    else
    k3 false)))
theorem ze2 (F0:Frz)(w:World)(hF0:F0.At w)(p:GProblem)(vp_0:Value)(cp_0:List (List Value))(hp_0:SlD cK F0 vp_0 2 cp_0 p.Domains)(vp_1:Value)(hp_1:SlC F0 vp_1 5 (p.Rules.Pairs.map cO))(vp_2:Value)(hp_2:SlC F0 vp_2 5 (p.Rules.Loads.map cP))(vp_3:Value)(hp_3:SlC F0 vp_3 4 (p.Rules.Caps.map cR))(x_:GProof)(vx__0:Value)(hx__0:SlC F0 vx__0 1 (x_.Stations.map eI))(vx__1:Value)(cx__1:List (List Value))(hx__1:SlD cI F0 vx__1 1 cx__1 x_.Lemmas)(htab:Tab w)(fuel:Nat)(hfu:100000≤fuel)(r:Bool)(hr:zb8 fuel p x_=some r):Calls Tryz.prog 3 #[.agg [vp_0,vp_1,vp_2,vp_3].toArray, .agg [vx__0,vx__1].toArray] w fun e w'=>e= .returned (.bool r)∧Below w.heap.size w w':=by
 have hk:=hr;unfold zb8 at hk;haveI:=hp_0.1.oneC;haveI:=hp_1.oneC;haveI:=hp_2.oneC;haveI:=hp_3.oneC;haveI:=hx__0.oneC;haveI:=hx__1.1.oneC;obtain ⟨S0,F1,rfl,hS0,hp0⟩:=eu hF0;have hM0:¬(fun _:Nat=>False) 0:=fun h=>h;have htk:∀ {hs:HS} {w':World},Hp w (fun _=>False) hs w'→Tab w':=fun hw=>htab.keptF hw;refine dt Tryz.func3 rfl rfl rfl hp0 ?_;refine gz ?_;rintro _ _ ⟨g2,rfl,rfl⟩;refine nz ?_;rintro _ _ ⟨g3,rfl,rfl⟩;refine ni ?_;have hq:=dZ hk;clear hk;obtain ⟨r11,hr11,hk⟩:=hq; (try dsimp only at hk);refine lz ?_;refine gj ?_;refine cU (cM rfl rfl rfl (fun w hw=>zih _ w (hw.fr (i:=2) rfl) p vp_0 cp_0 hp_0 vp_1 hp_1 vp_2 hp_2 vp_3 hp_3 x_ vx__0 hx__0 vx__1 cx__1 hx__1 fuel r11 hr11)) ?_;refine fm ?_;refine dx ?_;refine T.cond rfl (fun h1=>?_) (fun h1=>?_)
 ·replace hk:=dn hk h1;refine T.seq ?_;have hq:=dZ hk;clear hk;obtain ⟨r13,hr13,hk⟩:=hq; (try dsimp only at hk);refine fw ?_;refine cU (cM rfl rfl rfl (fun w hw=>zfs _ w (hw.fr (i:=2) rfl) (htab.keptF hw) fuel hfu r13 hr13)) ?_;refine jz ?_;refine kn ?_;obtain rfl:=Option.some.inj hk;exact dS
 ·replace hk:=dp hk h1;refine je ?_;have hq:=dZ hk;clear hk;obtain ⟨r17,hr17,hk⟩:=hq; (try dsimp only at hk);refine lz ?_;refine gj ?_;refine cU (cM rfl rfl rfl (fun w hw=>zd9 _ w (hw.fr (i:=2) rfl) p vp_0 cp_0 hp_0 vp_1 hp_1 vp_2 hp_2 vp_3 hp_3 x_ vx__0 hx__0 vx__1 cx__1 hx__1 (htab.keptF hw) fuel hfu r17 hr17)) ?_;refine fm ?_;refine TL.run 5 rfl ?_;refine kY ?_;have hq:=dZ hk;clear hk;obtain ⟨r23,hr23,hk⟩:=hq; (try dsimp only at hk);refine lz ?_;refine gj ?_;refine cU (cM rfl rfl rfl (fun w hw=>zfo _ w (hw.fr (i:=2) rfl) p vp_0 cp_0 hp_0 vp_1 hp_1 vp_2 hp_2 vp_3 hp_3 x_ vx__0 hx__0 vx__1 cx__1 hx__1 fuel r23 hr23)) ?_;refine fm ?_;refine TL.run 5 rfl ?_;refine kY ?_;have hq:=dZ hk;clear hk;obtain ⟨r27,hr27,hk⟩:=hq; (try dsimp only at hk);have hq:=d7 hk;clear hk;obtain ⟨k3,hk3,hk⟩:=hq; (try dsimp only at hk);refine cZ (ι:=Bool) (fun z=>[(4, .bool z)]) (fun z=>[.fr F1]) (fun z=>k3 z=some r) ?_ ?_
  ·refine dD (.still 0 (.still 2 (.eff 1 (.eff 3 (sN 4 14 (sN 19 2 (.eff 18 (.eff 21 (sN 22 3 (.eff 25 (.still 26 (.still 27 .done)))))))))))) _ a7 (List.Sublist.refl _) ?_;refine i8 ?_;refine i8 ?_;refine dy ?_;refine cW rfl (Wt.none) rfl rfl (cM rfl rfl rfl (fun w hw=>zea _ w (hw.fr (i:=2) rfl) x_ vx__0 hx__0 vx__1 cx__1 hx__1 r27 hr27)) ?_;refine gG ?_;refine dy ?_;refine cW rfl (Wt.none) rfl rfl (cM rfl rfl rfl (fun w hw=>zfy _ w (hw.fr (i:=2) rfl) x_ vx__0 hx__0 vx__1 cx__1 hx__1)) ?_;refine gG ?_;refine cQ rfl (Yv.cD a7 rfl rfl rfl) ?_;refine fC ?_;refine dv rfl rfl rfl rfl (fun h4=>?_) (fun h4=>?_)
   ·replace hk:=dn hk h4;refine TS.run 5 rfl ?_;refine dv rfl rfl rfl rfl (fun h5=>?_) (fun h5=>?_)
    ·have p5:=of_decide_eq_true h5;replace hk:=dn hk h5;refine TS.run 5 rfl ?_;refine dv rfl rfl rfl rfl (fun h6=>?_) (fun h6=>?_)
     ·have p6:=of_decide_eq_true h6;replace hk:=dn hk h6;refine q33 ?_;refine i8 ?_;refine q33 ?_;refine i8 ?_;refine dy ?_;have hq:=dZ hk;clear hk;obtain ⟨r44,hr44,hk⟩:=hq;refine cW rfl (Wt.some) rfl rfl (cM rfl rfl rfl (fun w hw=>zd4 _ w (hw.fr (i:=2) rfl) p vp_0 cp_0 hp_0 vp_1 hp_1 vp_2 hp_2 vp_3 hp_3 x_ vx__0 hx__0 vx__1 cx__1 hx__1 (htab.keptF hw) fuel hfu r44 hr44)) ?_;refine gG ?_;refine dy ?_;have hq:=dZ hk;clear hk;obtain ⟨r47,hr47,hk⟩:=hq;refine cW rfl (Wt.some) rfl rfl (cM rfl rfl rfl (fun w hw=>zia _ w (hw.fr (i:=2) rfl) p vp_0 cp_0 hp_0 vp_1 hp_1 vp_2 hp_2 vp_3 hp_3 x_ vx__0 hx__0 vx__1 cx__1 hx__1 fuel r47 hr47)) ?_;refine gG ?_;refine fS ?_;refine dy ?_;refine TSo.gs rfl rfl rfl rfl (fun h7=>?_) (fun h7=>?_)
      ·have p7:=of_decide_eq_true h7;replace hk:=dn hk h7;have hq:=dZ hk;clear hk;obtain ⟨r51,hr51,hk⟩:=hq;refine cW rfl (Wt.some) rfl rfl (cM rfl rfl rfl (fun w hw=>zfs _ w (hw.fr (i:=2) rfl) (htab.keptF hw) fuel hfu r51 hr51)) ?_;refine gG ?_;refine jE ?_;refine q3U ?_;exact cS r51 hk (.c .nil) (List.Sublist.refl _)
      ·have p7:=of_decide_eq_false h7;replace hk:=dp hk h7;refine TSo.off rfl (Wt.not rfl rfl rfl rfl) rfl rfl ?_;refine jE ?_;refine q3U ?_;exact q4T
     ·have p6:=of_decide_eq_false h6;replace hk:=dp hk h6;refine TS.run 4 rfl ?_;refine q3f ?_;refine fS ?_;refine kh ?_;refine jE ?_;refine q3U ?_;exact q4T
    ·have p5:=of_decide_eq_false h5;replace hk:=dp hk h5;refine TS.run 9 rfl ?_;refine q3f ?_;refine fS ?_;refine kh ?_;refine jE ?_;refine q3U ?_;exact q4T
   ·replace hk:=dp hk h4;refine TS.run 14 rfl ?_;refine q3f ?_;refine fS ?_;refine kh ?_;refine jE ?_;refine q3U ?_;exact q4T
  ·rintro x_2 hk;rw [←hk3] at hk; (try dsimp only at hk);refine T.ret ?_;obtain rfl:=Option.some.inj hk;exact dS
section
variable {p:GProblem}{x:GProof}{fuel:Nat}
theorem zhN (hf:100000≤fuel)(p:GProblem)(x:GProof):zb8 fuel p x=some true:=by
 have hkn:=zlJ hf;unfold zb8;obtain ⟨b,hb,hsz⟩:=zmi hf p x;rw [hb,Option.bind_some]
 cases b with
 |false=>rw [Bool.not_false,cond_true,hkn];rfl
 |true=>
  obtain ⟨z1,z2,z3⟩:=hsz rfl; (have hs:∀g∈x.Lemmas,g.length≤1000:=fun g hg=>by have:=z3 g hg;omega);rw [Bool.not_true,cond_false];simp only [dI,zin hf hs,zf0 hf,zgv,zhu,zmg hf hs,zjn hf,Option.bind_some,decide_true,beq_self_eq_true,cond_true,hkn]
end
end Go.Proofs.YtogbggmckmnlfaaGreatDoor
namespace Go.Proofs.YtogbggmckmnlfaaGreatDoor
open Go.RowKit Go.ChangeShapes Go.WideShapes Go.Deep
def Opens {H:Type}(enc:TypeId×Value→H)(w:World)(base:Nat)(spare:Nat→Bool)(held:Bool)(t:TypeId){α:Type}(R:List Value→α→Prop):Prop:=
 ∀fuel cs y,DataW.trod enc Tryz.prog w base spare held fuel t cs=some y→∃x,R cs x
section
variable {H:Type}{enc:TypeId×Value→H}{w:World}{base:Nat}{spare:Nat→Bool}{held:Bool}
theorem Opens.int {t:TypeId}(ht:Tryz.prog.underlying t=some (.int .i64)):Opens enc w base spare held t (fun cs (x:Int)=>cs=[.int .i64 x]):=fun fuel cs y h=>by
 obtain ⟨k,hk,_⟩:=DataW.trod_int ht h;exact ⟨k,hk⟩
theorem znP {a:Addr}{v:Value}(h:w.cell? a=some v):Cb w a.block:=by
 unfold World.cell? at h
 split at h
 all_goals (first|exact ⟨_,_,_,by assumption⟩|simp at h|skip)
theorem Opens.any {t e : TypeId} {k : Nat} {α : Type} [Inhabited α] {R : List Value → α → Prop} (ht : Tryz.prog.underlying t = some (.slice e)) (hk : Tryz.prog.cellsOf e = k) (hpos : 0 < k) (ho : Opens enc w base spare held e R) :
    Opens enc w base spare held t (fun cs (l : List α) => ∃ v c, cs = [v] ∧ SlC (Frz.all w) v k c ∧ c.length = l.length ∧ ∀ i, i < l.length → R (cJ c i) (cJ l i)) := fun fuel cs y h => by
  rcases open_slice ht h with ⟨h0, _⟩ | ⟨a, len, cap, m, n, D, Pl, hcs, hb, hl, hm, hmm, _, hx⟩
  · exact ⟨[], _, [], h0, SlC.nil _ _, rfl, fun i hi => absurd hi (Nat.not_lt_zero i)⟩
  · subst hcs; (have hlm : len ≤ m := by rw [hmm]; split <;> omega)
    have each : ∀ i, i < m → ∃ x : List Value × α, x.1.length = k ∧ R x.1 x.2 ∧ ∀ j, j < k → w.cell? (a.add (i * k + j)) = x.1[j]? := fun i hi => by
      obtain ⟨cs', h1, h2⟩ := hx i hi; rw [hk] at h1; obtain ⟨_, hlen, hcell⟩ := World.cells?_some h1; obtain ⟨x, hR⟩ := ho _ _ _ h2; exact ⟨(cs', x), hlen, hR, fun j hj => by rw [← hcell j hj, add_add]⟩
    obtain ⟨X, hX⟩ := choose_lt each
    have hn : ∀ i, i < len → cJ ((List.range len).map fun i => (X i).1) i = (X i).1 := fun i hi => by
      rw [dW (by simpa using hi)]; simp
    have hn2 : ∀ i, i < len → cJ ((List.range len).map fun i => (X i).2) i = (X i).2 := fun i hi => by
      rw [dW (by simpa using hi)]; simp
    refine ⟨(List.range len).map fun i => (X i).2, _, (List.range len).map fun i => (X i).1, rfl, ⟨some a, cap, by simp, by simpa using hl, by unfold maxLen at hm; omega, fun c hc => ?_, fun hp => ?_⟩, by simp, fun i hi => ?_⟩
    · simp at hc; obtain ⟨i, hi, rfl⟩ := hc; exact (hX i a5).1
    · (have hp' : 0 < len := by simpa using hp); have c0 := (hX 0 a5).2.2 0 hpos; have hx0 := (hX 0 a5).1; rw [List.getElem?_eq_getElem a5] at c0; have hcb := znP c0; have hs := World.cell?_spot c0; simp [Addr.add] at hs hcb; obtain ⟨b, off, sp⟩ := a; simp at hs hcb; subst hs; refine ⟨b, off, rfl, hcb, fun i hi j hj => ?_⟩; simp at hi; rw [hn i hi] at hj ⊢; have hxi := hX i a5; have := hxi.2.2 j a5;refine Eq.trans ?_ this
      show w.cell? _ = _
      rw [zdZ, Nat.add_assoc]
    · simp at hi; rw [hn i hi, hn2 i hi]; exact (hX i a5).2.1
theorem fI {t e : TypeId} {k : Nat} {α : Type} [Inhabited α] {en : α → List Value} (ht : Tryz.prog.underlying t = some (.slice e)) (hk : Tryz.prog.cellsOf e = k) (hpos : 0 < k) (ho : Opens enc w base spare held e (fun cs (x : α) => cs = en x)) :
    Opens enc w base spare held t (fun cs (l : List α) => ∃ v, cs = [v] ∧ SlC (Frz.all w) v k (l.map en)) := fun fuel cs y h => by
  obtain ⟨l, v, c, h1, h2, h3, h4⟩ := Opens.any ht hk hpos ho _ _ _ h;refine ⟨l, v, h1, ?_⟩
  have : c = l.map en := by
    apply List.ext_getElem (by simpa using h3); intro i hi hi2; rw [← dW hi, h4 i a5, List.getElem_map, dW a5]
  rw [← this]; exact h2
theorem Opens.bytes {t e : TypeId} (ht : Tryz.prog.underlying t = some (.slice e)) (he : Tryz.prog.underlying e = some (.int .u8)) (hk : Tryz.prog.cellsOf e = 1) :
    Opens enc w base spare held t (fun cs (l : List Int) => ∃ v, cs = [v] ∧ SlC (Frz.all w) v 1 (l.map (eK .u8)) ∧ ∀ x ∈ l, 0 ≤ x ∧ x ≤ 255) := fun fuel cs y h => by
  have ho : Opens enc w base spare held e (fun cs (x : Int) => cs = eK .u8 x ∧ (0 ≤ x ∧ x ≤ 255)) := fun fuel cs y h => by
    obtain ⟨k, h1, _, h2⟩ := DataW.trod_int he h;refine ⟨k, h1, ?_⟩; (have e1 : IntKind.u8.min = 0 := by decide); (have e2 : IntKind.u8.max = 255 := by decide); simp only [Lit.wf, e1, e2, Bool.and_eq_true, decide_eq_true_eq] at h2; exact h2
  obtain ⟨l, v, c, h1, h2, h3, h4⟩ := Opens.any ht hk a6 ho _ _ _ h; refine ⟨l, v, h1, ?_, fun x hx => ?_⟩
  · have : c = l.map (eK .u8) := by
      apply List.ext_getElem (by simpa using h3); intro i hi hi2; rw [← dW hi, (h4 i a5).1, List.getElem_map, dW a5]
    rw [← this]; exact h2
  · obtain ⟨i, hi, e⟩ := List.mem_iff_getElem.1 hx; have := (h4 i hi).2; rw [dW hi, e] at this; exact this
theorem j1 {t e : TypeId} {k : Nat} {α : Type} [Inhabited α] {rep : Frz → List Value → α → Prop} (ht : Tryz.prog.underlying t = some (.slice e)) (hk : Tryz.prog.cellsOf e = k) (hpos : 0 < k) (ho : Opens enc w base spare held e (rep (Frz.all w))) :
    Opens enc w base spare held t (fun cs (l : List α) => ∃ v c, cs = [v] ∧ SlD rep (Frz.all w) v k c l) := fun fuel cs y h => by
  obtain ⟨l, v, c, h1, h2, h3, h4⟩ := Opens.any ht hk hpos ho _ _ _ h; exact ⟨l, v, c, h1, h2, h3, h4⟩
end
end Go.Proofs.YtogbggmckmnlfaaGreatDoor
