/- Wn Wb Wc Yz Wd Y3 Wh Of: shortened and put together by squeeze.py. -/
import Derived.Test.YtogbggmckmnlfaaGreatDoorQ13
import Derived.Deep.Slices
import Derived.ChangeArms
set_option maxRecDepth 100000
set_option maxHeartbeats 4000000
set_option linter.unusedVariables false
set_option linter.unusedSectionVars false
set_option linter.unusedSimpArgs false
namespace Go.Proofs.YtogbggmckmnlfaaGreatDoor
open Go.RowKit
structure SubP (p:GProblem) (d:List GDomain):Prop where
 sub:SubD d p.Domains
 ord:OrdD d p.Domains
section
variable {p:GProblem}{d:List GDomain}
theorem SubP.len (h:SubP p d):d.length=p.Domains.length:=h.sub.1
theorem SubP.inc (hG:GG p)(h:SubP p d){i j:Nat}(hi:i<d.length)(hj:j<d.length)(e:(cK d i).Station=(cK d j).Station):i=j:=by
 (have hi':i<p.Domains.length:=by rw [←h.len];exact hi); (have hj':j<p.Domains.length:=by rw [←h.len];exact hj);rw [(h.sub.2 i hi').1,(h.sub.2 j hj').1] at e;rcases Nat.lt_trichotomy i j with h1|h1|h1
 ·have:=hG.inc i j h1 hj';omega
 ·exact h1
 ·have:=hG.inc j i h1 hi';omega
theorem SubP.inj (hG:GG p)(h:SubP p d){x y:GDomain}(hx:x∈d)(hy:y∈d)(e:x.Station=y.Station):x=y:=by
 obtain ⟨i,hi,rfl⟩:=iS hx;obtain ⟨j,hj,rfl⟩:=iS hy;rw [h.inc hG hi hj e]
theorem SubP.st (hG:GG p)(h:SubP p d){x:GDomain}(hx:x∈d):0≤x.Station∧x.Station≤511:=by
 obtain ⟨i,hi,rfl⟩:=iS hx; (have hi':i<p.Domains.length:=by rw [←h.len];exact hi);rw [(h.sub.2 i hi').1];exact hG.st _ (fG hi')
theorem SubP.ch (hG:GG p)(h:SubP p d){x:GDomain}(hx:x∈d){c:Int}(hc:c∈x.Channels):2≤c∧c≤51:=by
 obtain ⟨i,hi,rfl⟩:=iS hx; (have hi':i<p.Domains.length:=by rw [←h.len];exact hi);exact (hG.chs _ (fG hi')).2 _ ((h.sub.2 i hi').2 c hc)
theorem SubP.has (h:SubP p d){s:Int}(hs:gy p s=true):∃x∈d,x.Station=s:=by
 obtain ⟨x,hx,rfl⟩:=eU.1 hs;obtain ⟨i,hi,rfl⟩:=iS hx;exact ⟨_,fG (by rw [h.len];exact hi),(h.sub.2 i hi).1⟩
theorem zii {s c:Int}(h:zht p s c=true):gy p s=true:=by
 obtain ⟨x,hx,e,_⟩:=j2.1 h;exact eU.2 ⟨x,hx,e⟩
def lH (d:List GDomain)(v:Vec 512 Int):Prop:=∀x∈d,Vec.get v x.Station.toNat=bif decide (x.Channels.length=1) then cK x.Channels 0 else 0
theorem ir {c:GChoice}:c∈iD d↔∃x∈d,x.Channels.length=1∧c=⟨x.Station,cK x.Channels 0⟩:=by
 unfold iD;rw [List.mem_map];constructor
 ·rintro ⟨x,hx,rfl⟩;rw [List.mem_filter,decide_eq_true_eq] at hx;exact ⟨x,hx.1,hx.2,rfl⟩
 ·rintro ⟨x,hx,h1,rfl⟩;exact ⟨x,List.mem_filter.2 ⟨hx,decide_eq_true h1⟩,rfl⟩
theorem zct {α:Type}[Inhabited α]{l:List α}{i:Nat}(hi:i<l.length):l.take (i+1)=l.take i++[cK l i]:=by
 rw [List.take_succ_eq_append_getElem hi,dQ hi]
theorem zlu {m:List GDomain×Bool}(hG:GG p)(h:SubP p m.1)(h2:m.2=true):∃v,zbK p m=some v∧lH m.1 v:=by
 (have e1:jj m=iD m.1:=by unfold jj;rw [h2];rfl)
 have hin:∀c∈iD m.1,∀c'∈iD m.1,c.Station=c'.Station→c=c':=fun c hc c' hc' e=>by
  obtain ⟨x,hx,_,rfl⟩:=ir.1 hc;obtain ⟨y,hy,_,rfl⟩:=ir.1 hc';rw [h.inj hG hx hy e]
 have hst:∀c∈iD m.1,0≤c.Station∧c.Station≤511:=fun c hc=>by
  obtain ⟨x,hx,_,rfl⟩:=ir.1 hc;exact h.st hG hx
 unfold zbK;simp only [dJ,Nat.sub_zero,e1];refine nn (fun k (v:Vec 512 Int)=>(∀c∈(iD m.1).take k,Vec.get v c.Station.toNat=c.Channel)∧∀n:Nat,n<512→(∀c∈(iD m.1).take k,c.Station≠(n:Int))→Vec.get v n=0) (fun o=>∃v:Vec 512 Int,o=some v∧lH m.1 v) ⟨fun c hc=>by simp at hc,fun n hn _=>gN hn⟩ (fun v hv=>⟨v,rfl,fun x hx=>?_⟩) (fun i v next hi hI hn=>?_)
 ·rw [List.take_of_length_le (Nat.le_refl _)] at hv;have hs:=h.st hG hx;by_cases hl:x.Channels.length=1
  ·rw [decide_eq_true hl,cond_true];exact hv.1 ⟨x.Station,cK x.Channels 0⟩ (ir.2 ⟨x,hx,hl,rfl⟩)
  ·rw [decide_eq_false hl,cond_false];refine hv.2 _ a5 fun c hc e=>?_;obtain ⟨y,hy,h3,rfl⟩:=ir.1 hc;have:y=x:=h.inj hG hy hx (by dsimp only at e;omega);rw [this] at h3;exact hl h3
 ·have hm:=fG hi;have hs:=hst _ hm;rw [f7 a5];refine hn _ ⟨fun c hc=>?_,fun n h1 hc=>?_⟩
  ·rw [fK a5];rw [zct hi,List.mem_append,List.mem_singleton] at hc;rcases hc with hc|rfl
   ·have h3:=hst c (List.mem_of_mem_take hc);by_cases e:c.Station.toNat=(cK (iD m.1) i).Station.toNat
    ·rw [if_pos e,hin c (List.mem_of_mem_take hc) _ hm a5]
    ·rw [if_neg e];exact hI.1 c hc
   ·rw [if_pos rfl]
  ·rw [fK a5];rw [zct hi] at hc;have h3:=hc (cK (iD m.1) i) (List.mem_append.2 (.inr (List.mem_singleton.2 rfl)));rw [if_neg a5];exact hI.2 n h1 fun c h4=>hc c (List.mem_append.2 (.inl h4))
def jr (v:Vec 512 Int)(g:List GChoice):List GChoice:=g.filter fun c=> !decide (Vec.get v c.Station.toNat=c.Channel)
def kH (m:List GDomain×Bool)(v:Vec 512 Int)(g:List GChoice):GChoice×Bool:=match jr v g with
 | []=>(bif decide (0<(g.length:Int)) then cK g 0 else ⟨0,0⟩,true)
 | [c]=>(c,zhu m c)
 |_=>(⟨0,0⟩,false)
theorem zhN {v:Vec 512 Int}{g:List GChoice}{c:GChoice}:jr v (g++[c])=jr v g++bif decide (¬Vec.get v c.Station.toNat=c.Channel) then [c] else []:=by
 unfold jr;rw [List.filter_append];by_cases h:Vec.get v c.Station.toNat=c.Channel
 ·simp [h]
 ·simp [h]
theorem znT {m:List GDomain×Bool}{v:Vec 512 Int}{g:List GChoice}(hg:ValidL g):zce p m v g=some (kH m v g):=by
 unfold zce;refine mo ?_;refine nn (fun i (s:Int×Int×Int×Int×Int)=>(jr v (g.take i)=[]∧s.1=0∧s.2.2.2.1=0∧s.2.2.2.2=0)∨(jr v (g.take i)=[⟨s.2.2.2.1,s.2.2.2.2⟩]∧s.1=1)) (fun o=>o=some (kH m v g)) (.inl ⟨by simp [jr],rfl,rfl,rfl⟩) (fun s hs=>?_) (fun i s next hi hI hn=>?_)
 ·rw [List.take_of_length_le (Nat.le_refl _)] at hs;unfold kH;rcases hs with ⟨h1,h2,h3,h4⟩|⟨h1,h2⟩
  ·rw [h1]; (try dsimp only);rw [h2,h3,h4,decide_eq_true rfl,Bool.true_and,Bool.true_or]
   cases decide (0<(g.length:Int)) <;> rfl
  ·rw [h1]; (try dsimp only);rw [h2,show decide ((1:Int)=0)=false from rfl,Bool.false_and,Bool.false_or];rfl
 ·have h1:=hg.good _ (fG hi);rw [f7 a5];by_cases e:Vec.get v (cK g i).Station.toNat=(cK g i).Channel
  ·(have e2:jr v (g.take (i+1))=jr v (g.take i):=by rw [zct hi,zhN,decide_eq_false (by simpa using e),cond_false,List.append_nil]);rw [decide_eq_false (by simpa using e),cond_false]; (try dsimp only);rw [decide_eq_false (by rcases hI with h|h <;> omega),cond_false];exact hn _ (by rw [e2];exact hI)
  ·(have e2:jr v (g.take (i+1))=jr v (g.take i)++[cK g i]:=by rw [zct hi,zhN,decide_eq_true e,cond_true]);rw [decide_eq_true e,cond_true]; (try dsimp only);rcases hI with ⟨h2,h3,h4,h5⟩|⟨h2,h3⟩
   ·rw [h3,show wI (0+1)=1 from rfl,show decide ((1:Int)<1)=false from rfl,cond_false];exact hn _ (.inr ⟨by rw [e2,h2];rfl,rfl⟩)
   ·rw [h3,show wI (1+1)=2 from rfl,show decide ((1:Int)<2)=true from rfl,cond_true];have h6:(jr v (g.take (i+1))).Sublist (jr v g):=(List.take_sublist _ _).filter _;rw [e2,h2] at h6;have h7:=h6.length_le;unfold kH
    match h8:jr v g with
    | []=>rw [h8] at h7;simp at h7
    | [c]=>rw [h8] at h7;simp at h7
    |_ :: _ :: _=>rfl
end
def jI (d:List GDomain)(g:List GChoice)(s c:Int):Bool:=(g.any fun x=>decide (x.Station=s)&&decide (x.Channel=c))&&g.all fun x=>decide (x.Station=s)||jq d x.Station x.Channel
structure ClosedN (p:GProblem) (S:List (List GChoice)) (d:List GDomain):Prop where
 cl:ClosedD p d
 ne:∀g∈S,g≠[]
 calm:∀g∈S,∀x∈d,∀c∈x.Channels,jI d g x.Station c=false
section
variable {p:GProblem}{S:List (List GChoice)}{d e:List GDomain}{m:List GDomain×Bool}{v:Vec 512 Int}{g:List GChoice}
theorem zmZ {s c:Int}(hG:GG p)(hd:SubP p d){x:GDomain}(hx:x∈d)(hs:x.Station=s)(hl:x.Channels.length=1)(h0:cK x.Channels 0=c):jq d s c=true:=by
 rw [gG];intro y hy e k hk;have:y=x:=hd.inj hG hy hx (by rw [e,hs]);subst this;obtain ⟨z,hz⟩:=List.length_eq_one_iff.1 hl;rw [hz] at hk h0;simp [cK] at hk h0;rw [hk,h0]
theorem ziI (hG:GG p)(hd:SubP p d)(hv:lH d v)(hg:jt p g=true){c:GChoice}(hc:c∈g)(h:Vec.get v c.Station.toNat=c.Channel):∃x∈d,x.Station=c.Station∧x.Channels.length=1∧cK x.Channels 0=c.Channel:=by
 obtain ⟨hl,hh⟩:=iy.1 hg;obtain ⟨x,hx,e⟩:=hd.has (zii (hh c hc));have h1:=hv x hx;have h2:=hl.good c hc;rw [e,h] at h1;by_cases h3:x.Channels.length=1
 ·rw [decide_eq_true h3,cond_true] at h1;exact ⟨x,hx,e,h3,h1.symm⟩
 ·rw [decide_eq_false h3,cond_false] at h1;omega
theorem zkT {c:GChoice}(hc:c∈g)(h:c∉jr v g):Vec.get v c.Station.toNat=c.Channel:=by
 refine Decidable.byContradiction fun e=>h ?_;unfold jr;rw [List.mem_filter];exact ⟨hc,by simp [e]⟩
theorem lF {c:GChoice}:zhu m c=true↔m.2=true∧∃x∈m.1,x.Station=c.Station∧c.Channel∈x.Channels:=by
 unfold zhu;simp only [Bool.and_eq_true,List.any_eq_true,decide_eq_true_eq];constructor
 ·rintro ⟨h,x,hx,h1,k,hk,rfl⟩;exact ⟨h,x,hx,h1,hk⟩
 ·rintro ⟨h,x,hx,h1,hk⟩;exact ⟨h,x,hx,h1,_,hk,rfl⟩
theorem zjk (hG:GG p)(hd:SubP p m.1)(h2:m.2=true)(hv:lH m.1 v)(hg:jt p g=true)(h0:g≠[])(h:(kH m v g).2=true):(kH m v g).1∈g∧zhu m (kH m v g).1=true∧∀x∈g,x≠(kH m v g).1→jq m.1 x.Station x.Channel=true:=by
 have hpos:0<g.length:=List.length_pos_iff.2 h0
 have only:∀x∈g,x∉jr v g→jq m.1 x.Station x.Channel=true:=fun x hx hn=>by
  obtain ⟨y,hy,h3,h4,h5⟩:=ziI hG hd hv hg hx (zkT hx hn);exact zmZ hG hd hy h3 h4 h5
 unfold kH at h ⊢
 match h8:jr v g with
 | []=>
  rw [h8] at h;dsimp only at h ⊢;rw [decide_eq_true a5,cond_true];refine ⟨fG hpos,?_,fun x hx _=>only x hx (by rw [h8];simp)⟩;obtain ⟨y,hy,h3,h4,h5⟩:=ziI hG hd hv hg (fG hpos) (zkT (fG hpos) (by rw [h8];simp));obtain ⟨z,hz⟩:=List.length_eq_one_iff.1 h4;refine lF.2 ⟨h2,y,hy,h3,?_⟩;rw [←h5,hz];simp [cK]
 | [c]=>
  rw [h8] at h;dsimp only at h ⊢; (have hc:c∈jr v g:=by rw [h8];simp);refine ⟨(List.mem_filter.1 hc).1,h,fun x hx hne=>only x hx (by rw [h8];simpa using hne)⟩
 |_ :: _ :: _=>rw [h8] at h;cases h
theorem zmP (hG:GG p)(hd:SubP p m.1)(h2:m.2=true)(hv:lH m.1 v)(hg:jt p g=true)(h0:g≠[])(hS:g∈S)(h:(kH m v g).2=true)(he:ClosedN p S e)(hs:SubD e m.1):SubD e (m.1.map (jh (kH m v g).1.Station (kH m v g).1.Channel)):=by
 obtain ⟨h3,h4,h5⟩:=zjk hG hd h2 hv hg h0 h;generalize (kH m v g).1=c at h3 h4 h5 ⊢;obtain ⟨hl,_⟩:=iy.1 hg;refine ⟨by rw [List.length_map];exact hs.1,fun i hi=>?_⟩;rw [List.length_map] at hi;rw [iU hi];have h6:=hs.2 i hi;refine ⟨h6.1,fun k hk=>?_⟩;unfold jh;dsimp only;rw [List.mem_filter];refine ⟨h6.2 k hk,?_⟩;rw [Bool.or_eq_true,decide_eq_true_eq,decide_eq_true_eq];by_cases e1:(cK m.1 i).Station=c.Station
 ·refine .inr fun e2=>?_; (have hi':i<e.length:=by rw [hs.1];exact hi);have h7:=he.calm g hS _ (fG hi') k hk
  have h8:jI e g (cK e i).Station k=true:=by
   unfold jI;rw [Bool.and_eq_true,List.any_eq_true,List.all_eq_true];refine ⟨⟨c,h3,by rw [h6.1,e1,e2];simp⟩,fun x hx=>?_⟩;by_cases e3:x=c
   ·rw [e3,h6.1,e1];simp
   ·rw [zdj hs (h5 x hx e3)];simp
  rw [h8] at h7;cases h7
 ·exact .inl e1
theorem zll (hG : GG p) (hB : ∀ x ∈ m.1, x.Channels.Nodup) (hd : SubP p m.1) (h2 : m.2 = true) (hc : ClosedD p m.1) (hv : lH m.1 v) (hg : jt p g = true) (h : (kH m v g).2 = false) : g ≠ [] ∧ ∀ x ∈ m.1, ∀ c ∈ x.Channels, jI m.1 g x.Station c = false := by
  obtain ⟨hl, hh⟩ := iy.1 hg; refine ⟨fun e => ?_, fun x hx c hcx => ?_⟩
  · subst e; cases h
  · cases hr : jI m.1 g x.Station c with
    | false => rfl
    | true =>
      unfold jI at hr; rw [Bool.and_eq_true, List.any_eq_true, List.all_eq_true] at hr; obtain ⟨⟨y, hy, h3⟩, h4⟩ := hr; rw [Bool.and_eq_true, decide_eq_true_eq, decide_eq_true_eq] at h3
      -- the others are made
      have ho : ∀ z ∈ jr v g, z = y := fun z hz => by
        have hzg := (List.mem_filter.1 hz); have h5 := h4 z hzg.1; rw [Bool.or_eq_true, decide_eq_true_eq] at h5; rcases h5 with h5 | h5
        · exact hl.inj hzg.1 hy (by rw [h5, h3.1])
        · exfalso; obtain ⟨u, hu, e⟩ := hd.has (zii (hh z hzg.1)); have h6 := gG.1 h5 u hu e
          have h7 : u.Channels = [z.Channel] := by
            have hne := hc.ne u hu; have hnd := hB u hu
            match hq : u.Channels with
            | [] => exact absurd hq hne
            | [a] => rw [hq] at h6; rw [h6 a a8]
            | a :: b :: r =>
              rw [hq] at h6 hnd; have h8 := h6 a a8; have h9 := h6 b a8; rw [h8, h9] at hnd; simp at hnd
          have h8 := hv u hu; rw [h7] at h8; have h9 := hzg.2; rw [← e, h8] at h9; simp [cK] at h9
      have hyo : zhu m y = true := lF.2 ⟨h2, x, hx, h3.1.symm, by rw [h3.2]; exact hcx⟩
      have hnd : (jr v g).length ≤ 1 := by
        match h8 : jr v g with
        | [] => simp
        | [_] => simp
        | a :: b :: r =>
          exfalso; have hsub : (jr v g).Sublist g := List.filter_sublist
          have hgn : g.Nodup := by
            rw [List.Nodup, List.pairwise_iff_getElem]; intro i j hi hj hij e; have := hl.inc i j hij hj; rw [dQ hi, dQ hj, e] at this; omega
          have := hgn.sublist hsub; rw [h8] at this ho; rw [ho a a8, ho b a8] at this; simp at this
      unfold kH at h
      match h8 : jr v g with
      | [] => rw [h8] at h; cases h
      | [a] => rw [h8] at h ho; rw [ho a a8] at h; dsimp only at h; rw [hyo] at h; cases h
      | a :: b :: r => rw [h8] at hnd; simp at hnd
end
def dK (p:GProblem)(l:List GChoice):List GDomain:=l.foldl (fun d c=>d.map (iC true c)) p.Domains
def RunN (p:GProblem)(S:List (List GChoice))(d:List GDomain)(r:Option (GProblem×(List GDomain×Bool))×Bool):Prop:=
 (∃m:List GDomain×Bool,r=(some (p,m),false)∧m.2=true∧ClosedN p S m.1∧SubP p m.1∧SubD m.1 d∧∀e,ClosedN p S e→SubD e d→SubD e m.1)∨(r=(none,true)∧∀e,ClosedN p S e→¬SubD e d)
section
variable {p:GProblem}{S:List (List GChoice)}{d e:List GDomain}{m:List GDomain×Bool}
theorem zoi {l:List GChoice}{i:Nat}(hi:i<l.length):dK p (l.take (i+1))=(dK p (l.take i)).map (iC true (cK l i)):=by
 unfold dK;rw [zct hi,List.foldl_append];rfl
theorem zmq:∀l:List GChoice,SubP p (dK p l):=fun l=>by
 have key:∀(l:List GChoice) (d:List GDomain),SubP p d→SubP p (l.foldl (fun d c=>d.map (iC true c)) d):=by
  intro l
  induction l with
  |nil=>exact fun d h=>h
  |cons c r ih=>
   intro d h;have h2:=(zeT true c).subD (d:=d);exact ih _ ⟨h2.1.trans h.sub,h2.2.trans h.ord h.sub.1⟩
 exact key l _ ⟨.refl _,fun _ _=>List.Sublist.refl _⟩
structure MidN (p:GProblem) (S:List (List GChoice)) (d:List GDomain) (m:List GDomain×Bool):Prop where
 ok:m.2=true
 sp:SubP p m.1
 cl:ClosedD p m.1
 sd:SubD m.1 d
 all:∀e,ClosedN p S e→SubD e d→SubD e m.1
theorem MidN.prop (h:MidN p S d m):PropD p m.1 m:= .inl ⟨h.ok,h.cl,⟨.refl _,fun _ _=>List.Sublist.refl _⟩,fun _ _ h=>h⟩
theorem zoc {d':List GDomain}(hd:SubP p d')(hs:SubD d' d)(hm:PropD p d' m)(hall:∀e,ClosedN p S e→SubD e d→SubD e d'):(m.2=true∧MidN p S d m)∨(m.2=false∧∀e,ClosedN p S e→¬SubD e d):=by
 rcases hm with ⟨h1,h2,h3,h4⟩|⟨h1,h2⟩
 ·exact .inl ⟨h1,h1,⟨h3.1.trans hd.sub,h3.2.trans hd.ord hd.sub.1⟩,h2,h3.1.trans hs,fun e he hh=>h4 e he.cl (hall e he hh)⟩
 ·exact .inr ⟨by rw [h1],fun e he hh=>h2 e he.cl (hall e he hh)⟩
theorem zni {fuel:Nat}(hf:100000≤fuel)(hok:gW p=true){t:GStore}(ht:t.start.1=p)(hm:PropD p p.Domains t.start.2)(hS:∀g∈t.list,jt p g=true)(l:List GChoice):∃r,zaN fuel t l=some r∧RunN p t.list (dK p l) r:=by
 obtain ⟨hw,hbd,htot,hn⟩:=zjp hok;have hG:=zmF hok;have nodup:∀ {m:List GDomain×Bool},SubP p m.1→∀x∈m.1,x.Channels.Nodup:=fun h x hx=>((hbd.ord h.sub.1 h.ord).ch x hx).2;unfold zaN;simp only [dJ,Nat.sub_zero,ht];refine nn (fun i (m:List GDomain×Bool)=>PropD p (dK p (l.take i)) m) (fun o=>∃r,o=some r∧RunN p t.list (dK p l) r) (by simpa [dK] using hm) (fun m hI=>?_) (fun i m next hi hI hnx=>?_)
 ·rw [List.take_of_length_le (Nat.le_refl _)] at hI;have hst:=zoc (S:=t.list) (zmq l) (.refl _) hI (fun _ _ h=>h);refine zdU (σ:=Bool×(List GDomain×Bool)) (I:=fun s=>(s.2.2=true∧MidN p t.list (dK p l) s.2∧(s.1=false→ClosedN p t.list s.2.1))∨(s.2.2=false∧s.1=true∧∀e,ClosedN p t.list e→¬SubD e (dK p l))) (μ:=fun s=>eA s.2.1+(bif s.1 then 1 else 0)) (post:=fun o=>∃r,o=some r∧RunN p t.list (dK p l) r) ?_ ?_ ?_
  ·rcases hst with ⟨h1,h2⟩|⟨h1,h2⟩
   ·exact .inl ⟨h1,h2,fun h=>by cases h⟩
   ·exact .inr ⟨h1,rfl,h2⟩
  ·have h1:eA m.1≤30000:=by
    rcases hI with ⟨_,_,h3,_⟩|⟨h1,_⟩
    ·have hk:=zmq (p:=p) l;have:=zeM h3.1.1 h3.2;have:=zeM hk.sub.1 hk.ord;omega
    ·rw [h1];simp [eA]
   dsimp only;rw [cond_true];omega
  ·rintro ⟨again,m⟩ next hJ hnx;dsimp only at hJ hnx ⊢
   cases again with
   |false=>
    rcases hJ with ⟨h1,h2,h3⟩|⟨_,h2,_⟩
    ·exact ⟨_,rfl, .inl ⟨m,rfl,h1,h3 rfl,h2.sp,h2.sd,h2.all⟩⟩
    ·cases h2
   |true=>
    rw [cond_true];rcases hJ with ⟨h1,h2,_⟩|⟨h1,_,h2⟩
    ·rw [h1,Bool.not_true,cond_false];obtain ⟨v,hv1,hv2⟩:=zlu hG h2.sp h1;rw [hv1,Option.bind_some];refine nn (fun i (s:Bool×(List GDomain×Bool)×Vec 512 Int)=>MidN p t.list (dK p l) s.2.1∧lH s.2.1.1 s.2.2∧((s.1=true∧eA s.2.1.1<eA m.1)∨(s.1=false∧s.2.1=m∧∀j,j<i→(kH s.2.1 s.2.2 (cK t.list j)).2=false))) (fun o=>∃r,o=some r∧RunN p t.list (dK p l) r) ⟨h2,hv2, .inr ⟨rfl,rfl,fun j hj=>by omega⟩⟩ ?_ ?_
     ·rintro ⟨ch,m',v'⟩ ⟨g1,g2,g3⟩;dsimp only at g1 g2 g3 ⊢;refine hnx _ (.inl ⟨g1.ok,g1,fun e=>?_⟩) ?_
      ·dsimp only at e;rcases g3 with ⟨g3,_⟩|⟨_,g3,g4⟩
       ·rw [e] at g3;cases g3
       ·have key:∀g∈t.list,g≠[]∧∀x∈m'.1,∀c∈x.Channels,jI m'.1 g x.Station c=false:=fun g hg=>by
         obtain ⟨j,hj,rfl⟩:=iS hg;exact zll hG (nodup g1.sp) g1.sp g1.ok g1.cl g2 (hS _ (fG hj)) (g4 j hj)
        exact ⟨g1.cl,fun g hg=>(key g hg).1,fun g hg=>(key g hg).2⟩
      ·dsimp only;rcases g3 with ⟨g3,g4⟩|⟨g3,g4,_⟩
       ·rw [g3,cond_true];omega
       ·rw [g3,g4,cond_false,cond_true];omega
     ·rintro i ⟨ch,m',v'⟩ nx hi ⟨g1,g2,g3⟩ hk;dsimp only at g1 g2 g3 ⊢;have hg:=hS _ (fG hi);rw [znT (iy.1 hg).1,Option.bind_some]
      cases hfo:(kH m' v' (cK t.list i)).2 with
      |false=>
       rw [Bool.not_false,cond_true];refine hk _ ⟨g1,g2,g3.imp id fun h=>⟨h.1,h.2.1,fun j hj=>?_⟩⟩;rcases Nat.lt_or_ge j i with h3|h3
       ·exact h.2.2 j h3
       ·(obtain rfl:j=i:=by omega);exact hfo
      |true=>
       rw [Bool.not_true,cond_false];by_cases h0:cK t.list i=[]
       ·rw [h0];exact ⟨_,rfl, .inr ⟨rfl,fun e he _=>he.ne _ (fG hi) h0⟩⟩
       ·have hlen:0<(cK t.list i).length:=List.length_pos_iff.2 h0;rw [decide_eq_false a5,cond_false];obtain ⟨q1,q2,q3⟩:=zjk hG g1.sp g1.ok g2 hg h0 hfo;have q4:=fun e he hs=>zmP (e:=e) hG g1.sp g1.ok g2 hg h0 (fG hi) hfo he hs;generalize (kH m' v' (cK t.list i)).1=c at q1 q2 q3 q4
        have hgc:mO c=true:=by
         have:=(iy.1 hg).1.good c q1;unfold mO;exact decide_eq_true a5
        (have eact:iC false c=jh c.Station c.Channel:=by unfold iC;rw [hgc];rfl);obtain ⟨r,q5,q6⟩:=zm0 hf hok ⟨g1.sp.sub,g1.sp.ord⟩ g1.prop false c;rw [q5,Option.bind_some];rw [eact] at q6;have hsub:=(FiltD.drop c.Station c.Channel).subD (d:=m'.1);have hsp:SubP p (m'.1.map (jh c.Station c.Channel)):=⟨hsub.1.trans g1.sp.sub,hsub.2.trans g1.sp.ord g1.sp.sub.1⟩;have hmid:=zoc (S:=t.list) hsp (hsub.1.trans g1.sd) q6 (fun e he hh=>q4 e he (g1.all e he hh));dsimp only;rcases hmid with ⟨q7,q8⟩|⟨q7,q8⟩
        ·rw [q7,Bool.not_true,cond_false];obtain ⟨v2,w1,w2⟩:=zlu hG q8.sp q7;rw [w1,Option.bind_some];refine hk _ ⟨q8,w2, .inl ⟨rfl,?_⟩⟩;dsimp only;obtain ⟨_,x,hx,hx1,hx2⟩:=lF.1 q2;obtain ⟨ix,hix,rfl⟩:=iS hx;have h7:=zmD hix hx1 hx2
         have h8:eA r.1≤eA (m'.1.map (jh c.Station c.Channel)):=by
          rcases q6 with ⟨_,_,h9,_⟩|⟨h9,_⟩
          ·exact zeM h9.1.1 h9.2
          ·rw [h9] at q7;cases q7
         have h9:eA m'.1≤eA m.1:=by
          rcases g3 with ⟨_,h⟩|⟨_,h,_⟩
          ·omega
          ·rw [h];exact Nat.le_refl _
         omega
        ·rw [q7,Bool.not_false,cond_true];exact ⟨_,rfl, .inr ⟨rfl,q8⟩⟩
    ·rw [h1,Bool.not_false,cond_true];exact ⟨_,rfl, .inr ⟨rfl,h2⟩⟩
 ·cases h2:m.2 with
  |false=>
   rw [Bool.not_false,cond_true];refine ⟨_,rfl, .inr ⟨rfl,fun e he hs=>?_⟩⟩;rcases hI with ⟨h3,_⟩|⟨_,h4⟩
   ·rw [h2] at h3;cases h3
   ·refine h4 e he.cl (hs.trans ?_)
    have key:∀(r:List GChoice) (d:List GDomain),SubD (r.foldl (fun d c=>d.map (iC true c)) d) d:=by
     intro r
     induction r with
     |nil=>exact fun d=> .refl _
     |cons c r ih=>exact fun d=>(ih _).trans (zeT true c).subD.1
    have:=key (l.drop i) (dK p (l.take i));unfold dK at this ⊢;rw [←List.foldl_append,List.take_append_drop] at this;exact this
  |true=>
   rw [Bool.not_true,cond_false];have hk:=zmq (p:=p) (l.take i);obtain ⟨r,g1,g2⟩:=zm0 hf hok ⟨hk.sub,hk.ord⟩ hI true (cK l i);rw [g1,Option.bind_some];exact hnx _ (by rw [zoi hi];exact g2)
end
structure StN (p:GProblem) (t:GStore):Prop where
 pr:t.start.1=p
 st:PropD p p.Domains t.start.2
 tb:TabN p t.domains
 ok:∀g∈t.list,jt p g=true
section
variable {p:GProblem}{t:GStore}{fuel:Nat}
theorem new_x (hf:100000≤fuel)(hok:gW p=true):∃t,zc8 fuel p=some (some t,0)∧StN p t∧t.list=[]:=by
 obtain ⟨hw,hbd,ht,hn⟩:=zjp hok;obtain ⟨m,g1,g2⟩:=zfi (fuel:=fuel) hw hbd a5 a5;obtain ⟨v,h1,h2⟩:=zmE (zmF hok);unfold zc8;rw [hok,cond_true,g1,Option.bind_some,h1,Option.bind_some];exact ⟨_,rfl,⟨rfl,g2,h2,fun g hg=>by cases hg⟩,rfl⟩
theorem RunN.conf {S:List (List GChoice)}{d:List GDomain}{r:Option (GProblem×(List GDomain×Bool))×Bool}(h:RunN p S d r):r.2=true↔∀e,ClosedN p S e→¬SubD e d:=by
 rcases h with ⟨m,rfl,h1,h2,h3,h4,h5⟩|⟨rfl,h⟩
 ·exact ⟨fun h=>(by cases h),fun h=>absurd h4 (h _ h2)⟩
 ·exact ⟨fun _=>h,fun _=>rfl⟩
theorem zl6 (hf:100000≤fuel)(hok:gW p=true)(h:StN p t){g:List GChoice}:∃b,zaM fuel t g=some (b,bif jt p g then 0 else 2)∧(jt p g=false→b=false)∧(jt p g=true→(b=true↔∀e,ClosedN p t.list e→¬SubD e (dK p g))):=by
 unfold zaM zap;rw [cond_false,zkR h.tb,Option.bind_some]
 cases hg:jt p g with
 |false=>exact ⟨false,rfl,fun _=>rfl,fun h=>by cases h⟩
 |true=>
  obtain ⟨r,h1,h2⟩:=zni hf hok h.pr h.st h.ok g;rw [Bool.not_true,cond_false,h1,Option.bind_some];refine ⟨r.2,?_,fun h=>(by cases h),fun _=>h2.conf⟩
  cases r.1.isSome <;> rfl
theorem zpx (h:StN p t){g:List GChoice}(hl:t.list.length<4096)(hg:g.length≤1000):zaF t g=some (bif jt p g then (0,t.list++[g]) else (2,t.list)):=by
 unfold zaF zap;rw [cond_false,zkR h.tb,Option.bind_some]
 cases hn:jt p g with
 |false=>rfl
 |true=>
  rw [Bool.not_true,cond_false,decide_eq_false a5,cond_false,f7 (by simp only [dn];omega),f7 b6];rfl
theorem StN.add (h:StN p t){g:List GChoice}(hg:jt p g=true):StN p ⟨t.domains,(t.start.1,t.start.2),t.list++[g]⟩:=⟨h.pr,h.st,h.tb,fun x hx=>by
 rcases List.mem_append.1 hx with hx|hx
 ·exact h.ok x hx
 ·simp at hx;rw [hx];exact hg⟩
theorem zlx {l:List (List GChoice)}{most:Int}(hm:0≤most∧most≤1000)(hf:100000≤fuel):∃b,zcC fuel l most=some b∧(b=true→(l.length:Int)≤most∧∀g∈l,g.length≤20):=by
 unfold zcC;simp only [dJ];refine zdU (σ:=Int) (I:=fun i=>0≤i∧i≤1001∧∀j:Nat,(j:Int)<i→j<l.length→(cK l j).length≤20) (μ:=fun i=>(1001 - i).toNat) (post:=fun o=>∃b,o=some b∧(b=true→(l.length:Int)≤most∧∀g∈l,g.length≤20)) ⟨by omega,by omega,fun j h _=>by omega⟩ a5 ?_;rintro i next ⟨h1,h2,h3⟩ hn;by_cases h4:i<(l.length:Int)∧i≤most
 ·rw [decide_eq_true h4.1,decide_eq_true h4.2,Bool.and_true,cond_true,f7 ⟨h1,h4.1⟩];by_cases h5:(20:Int)<((cK l i.toNat).length:Int)
  ·rw [decide_eq_true h5,cond_true];exact ⟨false,rfl,fun h=>by cases h⟩
  ·rw [decide_eq_false h5,cond_false];refine hn _ ⟨by omega,by omega,fun j hj hl=>?_⟩ a5;by_cases h6:(j:Int)<i
   ·exact h3 j h6 hl
   ·(obtain rfl:j=i.toNat:=by omega);omega
 ·have e:(decide (i<(l.length:Int))&&decide (i≤most))=false:=by
   rw [Bool.and_eq_false_iff,decide_eq_false_iff_not,decide_eq_false_iff_not];omega
  rw [e,cond_false];refine ⟨_,rfl,fun h=>?_⟩;rw [decide_eq_true_eq] at h;refine ⟨h,fun g hg=>?_⟩;obtain ⟨j,hj,rfl⟩:=iS hg;exact h3 j a5 hj
theorem zki {a:List GChoice}{S:List (List GChoice)}(hG:GG p)(hF:FineP p a)(hS:∀g∈S,jt p g=true)(hv:∀g∈S,¬ ∀c∈g,c∈a)(hcl:ClosedD p (gK p.Domains (gh a))):ClosedN p S (gK p.Domains (gh a)):=by
 refine ⟨hcl,fun g hg e=>hv g hg (by rw [e];simp),fun g hg x hx c hc=>?_⟩
 cases hr:jI (gK p.Domains (gh a)) g x.Station c with
 |false=>rfl
 |true=>
  exfalso;obtain ⟨hl,hh⟩:=iy.1 (hS g hg);unfold jI at hr;rw [Bool.and_eq_true,List.any_eq_true,List.all_eq_true] at hr;obtain ⟨⟨y,hy,h3⟩,h4⟩:=hr;rw [Bool.and_eq_true,decide_eq_true_eq,decide_eq_true_eq] at h3;unfold gK at hx;obtain ⟨z,hz,rfl⟩:=List.mem_map.1 hx;simp at hc;refine hv g hg fun u hu=>?_
  have h5:u.Channel=gh a u.Station:=by
   have h6:=h4 u hu;rw [Bool.or_eq_true,decide_eq_true_eq] at h6;rcases h6 with h6|h6
   ·have:u=y:=hl.inj hu hy (by rw [h6,h3.1]);rw [this,h3.2,hc,h3.1]
   ·rw [zdT (zii (hh u hu)),decide_eq_true_eq] at h6;exact h6.symm
  have h7:=hl.good u hu;obtain ⟨w,hw,e1,e2⟩:=zor (l:=a) (n:=u.Station) a5; (have:u=w:=by cases u;cases w;simp_all);rw [this];exact hw
theorem zon {a l:List GChoice}(hF:FineP p a)(hl:∀c∈l,c∈a)(h:SubD (gK p.Domains (gh a)) p.Domains):SubD (gK p.Domains (gh a)) (dK p l):=by
 have key:∀(l:List GChoice),(∀c∈l,c∈a)→∀d,SubD (gK p.Domains (gh a)) d→SubD (gK p.Domains (gh a)) (l.foldl (fun d c=>d.map (iC true c)) d):=by
  intro l
  induction l with
  |nil=>exact fun _ d h=>h
  |cons c r ih=>
   intro hl d h;refine ih (fun x hx=>hl x (by simp [hx])) _ ⟨by rw [List.length_map];exact h.1,fun i hi=>?_⟩;rw [List.length_map] at hi;rw [iU hi];have h2:=h.2 i hi; (have hi':i<p.Domains.length:=by rw [←h.1] at hi;simpa [gK] using hi);have hf:=zeT true c;refine ⟨by rw [hf.st];exact h2.1,fun k hk=>(hf.mem _ _).2 ⟨h2.2 k hk,fun hg e=>?_⟩⟩;have e2:cK (gK p.Domains (gh a)) i=⟨(cK p.Domains i).Station,[gh a (cK p.Domains i).Station]⟩:=iU hi';rw [e2] at hk h2;simp at hk;rw [hk,h2.1,e,zm6 hF.val (hl c a8)];simp
 exact key l hl _ h
end
section
variable {p:GProblem}{a:List GChoice}
theorem zmB (h:FineP p a):SubD (gK p.Domains (gh a)) p.Domains:=by
 refine ⟨List.length_map _,fun i hi=>?_⟩;rw [show cK (gK p.Domains (gh a)) i=⟨(cK p.Domains i).Station,[gh a (cK p.Domains i).Station]⟩ from iU hi];refine ⟨rfl,fun c hc=>?_⟩;simp at hc;rw [hc];exact (h.dom _ (fG hi)).1
theorem ziO (hG:GG p)(h:FineP p a):ClosedD p (gK p.Domains (gh a)):=(zke hG (fun x hx=>by have:=(hG.chs x hx).2 _ (h.dom x hx).1;omega)).2 ⟨h.pr,h.cp⟩
end
theorem zla {a b:List GChoice}:zbL a b=decide (a=b):=by
 unfold zbL;refine mo ?_;by_cases hl:a.length=b.length
 ·rw [decide_eq_false (by simp [hl]),cond_false,zcI (fun i=>decide (cK a i=cK b i)) (fun i next _=>?_),Bool.and_true,Bool.eq_iff_iff,List.all_eq_true,decide_eq_true_eq]
  ·constructor
   ·intro h;exact zfa hl fun i hi=>of_decide_eq_true (h i (List.mem_range.2 hi))
   ·rintro rfl i _;simp
  ·have e:(decide ((cK a i).Station=(cK b i).Station)&&decide ((cK a i).Channel=(cK b i).Channel))=decide (cK a i=cK b i):=by
    rw [Bool.eq_iff_iff]
    cases cK a i;cases cK b i
    simp
   rw [e]
   cases decide (cK a i=cK b i) <;> rfl
 ·rw [decide_eq_true a5,cond_true,decide_eq_false (fun e=>hl (by rw [e]))]
theorem zm3 {a:List (List GChoice)}:zci a a=true:=by
 unfold zci;simp only [dJ,Nat.sub_zero,zla];rw [decide_eq_false a8,cond_false,zcI (fun _=>true) (fun i next _=>by simp),Bool.and_true];simp
section
variable {p:GProblem}{t:GStore}{fuel:Nat}{l S:List (List GChoice)}
end
def QN (p:GProblem)(S:List (List GChoice))(d:List GDomain)(r:List GDomain×Bool):Prop:=
 (r.2=true∧ClosedN p S r.1∧SubP p r.1∧SubD r.1 d∧∀e,ClosedN p S e→SubD e d→SubD e r.1)∨(r=([],false)∧∀e,ClosedN p S e→¬SubD e d)
def R21 (p:GProblem)(S:List (List GChoice))(d:List GDomain)(s c:Int):Bool:=(S.any fun g=>jI d g s c)||iA p d s c
section
variable {p:GProblem}{S S':List (List GChoice)}{d a b:List GDomain}{t:GStore}{fuel:Nat}{l:List GChoice}
theorem zoH (hok:gW p=true)(ha:SubP p a)(hb:SubP p b)(h1:SubD a b)(h2:SubD b a):a=b:=by
 obtain ⟨_,hbd,_,_⟩:=zjp hok;refine zfa h1.1 fun i hi=>?_; (have hi':i<b.length:=by rw [←h1.1];exact hi); (have hp:i<p.Domains.length:=by rw [←ha.len];exact hi);have hch:(cK a i).Channels=(cK b i).Channels:=zdB (ha.ord i hp) (hb.ord i hp) (hbd.ch _ (fG hp)).2 (fun x=>⟨(h1.2 i hi').2 x,(h2.2 i hi).2 x⟩);have hst:=(h1.2 i hi').1
 cases hx:cK a i;cases hy:cK b i
 rw [hx,hy] at hch hst;simp only at hch hst;rw [hch,hst]
theorem QN.eq {r r':List GDomain×Bool}(hok:gW p=true)(h:QN p S d r)(h':QN p S d r'):r=r':=by
 rcases h with ⟨h1,h2,h3,h4,h5⟩|⟨h1,h2⟩
 ·rcases h' with ⟨g1,g2,g3,g4,g5⟩|⟨g1,g2⟩
  ·exact Prod.ext (zoH hok h3 g3 (g5 _ h2 h4) (h5 _ g2 g4)) (h1.trans g1.symm)
  ·exact absurd h4 (g2 _ h2)
 ·rcases h' with ⟨g1,g2,g3,g4,g5⟩|⟨g1,g2⟩
  ·exact absurd g4 (h2 _ g2)
  ·rw [h1,g1]
theorem ClosedN.mono (h:ClosedN p S d)(hs:∀g∈S',g∈S):ClosedN p S' d:=⟨h.cl,fun g hg=>h.ne g (hs g hg),fun g hg=>h.calm g (hs g hg)⟩
theorem QN.congr {r:List GDomain×Bool}(h:QN p S d r)(hs:∀g,g∈S↔g∈S'):QN p S' d r:=by
 have f:∀ {e},ClosedN p S' e→ClosedN p S e:=fun he=>he.mono fun g hg=>(hs g).1 hg;rcases h with ⟨h1,h2,h3,h4,h5⟩|⟨h1,h2⟩
 ·exact .inl ⟨h1,h2.mono fun g hg=>(hs g).2 hg,h3,h4,fun e he=>h5 e (f he)⟩
 ·exact .inr ⟨h1,fun e he=>h2 e (f he)⟩
theorem R21.mono (hok:gW p=true):MonoR (R21 p S):=fun a b s c h hr=>by
 unfold R21 at hr ⊢;rw [Bool.or_eq_true,List.any_eq_true] at hr ⊢;rcases hr with ⟨g,hg,hr⟩|hr
 ·refine .inl ⟨g,hg,?_⟩;unfold jI at hr ⊢;rw [Bool.and_eq_true,List.all_eq_true] at hr ⊢;refine ⟨hr.1,fun x hx=>?_⟩;have:=hr.2 x hx;rw [Bool.or_eq_true] at this ⊢;exact this.imp id (zdj h)
 ·exact .inr (zhj (zjp hok).1 h hr)
theorem ValidL.take (h:ValidL l)(n:Nat):ValidL (l.take n):=by
 refine ⟨fun x hx=>h.good x (List.mem_of_mem_take hx),fun i j hij hj=>?_⟩;rw [List.length_take] at hj;rw [dQ (by rw [List.length_take];omega),dQ (by rw [List.length_take];omega),List.getElem_take,List.getElem_take];have:=h.inc i j hij a5
 rwa [dQ a5,dQ a5] at this
end
section
variable {p:GProblem}{fuel:Nat}
end
def HoldN (q:GProblem)(S:List (List GChoice))(g:List GChoice):Prop:=jt q g=true∧∀e,ClosedN q S e→¬SubD e (dK q g)
def AllN (q:GProblem):List (List GChoice)→List (List GChoice)→Prop
 |_,[]=>True
 |S,g :: l=>HoldN q S g∧AllN q (S++[g]) l
open Classical in
noncomputable def dS (q:GProblem):List (List GChoice)→List (List GChoice)→Nat
 |_,[]=>0
 |S,g :: l=>if HoldN q S g then dS q (S++[g]) l+1 else 0
section
variable {q:GProblem}{fuel:Nat}{S S':List (List GChoice)}{g:List GChoice}
theorem ClosedN.less {d:List GDomain}(h:ClosedN q S d)(hs:∀g∈S',g∈S):ClosedN q S' d:=⟨h.cl,fun g hg=>h.ne g (hs g hg),fun g hg=>h.calm g (hs g hg)⟩
theorem HoldN.mono (h:HoldN q S g)(hs:∀x∈S,x∈S'):HoldN q S' g:=⟨h.1,fun e he=>h.2 e (he.less hs)⟩
theorem AllN.mono:∀ {l:List (List GChoice)} {S S':List (List GChoice)},(∀x∈S,x∈S')→AllN q S l→AllN q S' l
 | [],_,_,_,_=>trivial
 |g :: l,S,S',hs,h=>⟨h.1.mono hs,AllN.mono (fun x hx=>by
  rcases List.mem_append.1 hx with hx|hx
  ·exact List.mem_append_left _ (hs x hx)
  ·exact List.mem_append_right _ hx) h.2⟩
theorem AllN.ok:∀ {l:List (List GChoice)} {S:List (List GChoice)},AllN q S l→∀g∈l,jt q g=true
 | [],_,_,_,hg=>by cases hg
 |g :: l,S,h,x,hx=>by
  rcases List.mem_cons.1 hx with rfl|hx
  ·exact h.1.1
  ·exact AllN.ok h.2 x hx
theorem iZ:∀ {A B S:List (List GChoice)},AllN q S (A++B)↔AllN q S A∧AllN q (S++A) B
 | [],B,S=>by rw [List.append_nil];exact ⟨fun h=>⟨trivial,h⟩,fun h=>h.2⟩
 |g :: A,B,S=>by
  have:=iZ (A:=A) (B:=B) (S:=S++[g]);rw [List.append_assoc] at this;exact ⟨fun h=>⟨⟨h.1,(this.1 h.2).1⟩,(this.1 h.2).2⟩,fun h=>⟨h.1.1,this.2 ⟨h.1.2,h.2⟩⟩⟩
theorem zf8 {l:List (List GChoice)}(h:HoldN q S g):dS q S (g :: l)=dS q (S++[g]) l+1:=if_pos h
theorem zhg {l:List (List GChoice)}(h:¬HoldN q S g):dS q S (g :: l)=0:=if_neg h
theorem zfA:∀(l S:List (List GChoice)),dS q S l≤l.length
 | [],_=>Nat.le_refl _
 |g :: l,S=>by
  by_cases h:HoldN q S g
  ·rw [zf8 h,List.length_cons];exact Nat.succ_le_succ (zfA l _)
  ·rw [zhg h];exact Nat.zero_le _
theorem zcw:∀(l S:List (List GChoice)),dS q S l=l.length↔AllN q S l
 | [],_=>⟨fun _=>trivial,fun _=>rfl⟩
 |g :: l,S=>by
  by_cases h:HoldN q S g
  ·rw [zf8 h,List.length_cons];exact ⟨fun e=>⟨h,(zcw l _).1 a5⟩,fun e=>by rw [(zcw l _).2 e.2]⟩
  ·rw [zhg h,List.length_cons];exact ⟨fun e=>by omega,fun e=>absurd e.1 h⟩
theorem zhM {l:List (List GChoice)}{i:Nat}(hi:i<l.length):l.drop i=cK l i :: l.drop (i+1):=by
 rw [List.drop_eq_getElem_cons hi,dQ hi]
theorem zj2 {l:List (List GChoice)}{i:Nat}(hi:i<l.length)(h:HoldN q (S++l.take i) (cK l i)):dS q (S++l.take i) (l.drop i)=dS q (S++l.take (i+1)) (l.drop (i+1))+1:=by
 rw [zhM hi,zf8 h,List.append_assoc,←zct hi]
theorem zg3 {l:List (List GChoice)}{i:Nat}(hi:i<l.length)(h:¬HoldN q (S++l.take i) (cK l i)):dS q (S++l.take i) (l.drop i)=0:=by
 rw [zhM hi,zhg h]
theorem zhd (hf:100000≤fuel)(hok:gW q=true){t:GStore}(h:StN q t){l:List (List GChoice)}(hn:t.list.length+l.length≤4096)(hs:∀g∈l,g.length≤1000):∃c,zbb fuel t l=some ((dS q t.list l:Int),c):=by
 unfold zbb;refine mo ?_;refine nn (σ:=List (List GChoice)) (fun i c=>(∀g∈l.take i,jt q g=true)∧(i<l.length→c=t.list++l.take i)∧dS q t.list l=i+dS q (t.list++l.take i) (l.drop i)) (fun o=>∃c,o=some ((dS q t.list l:Int),c)) ⟨fun g hg=>(by simp at hg),fun _=>a8,by simp⟩ (fun c hc=>?_) (fun i c next hi hc hnx=>?_)
 ·refine ⟨c,?_⟩;have:=hc.2.2;rw [List.drop_length] at this;have h0:dS q (t.list++l.take l.length) []=0:=rfl;rw [h0] at this;rw [this];rfl
 ·obtain ⟨h1,h2,h3⟩:=hc;have h2:=h2 hi;subst h2
  have hst:StN q ⟨t.domains,(t.start.1,t.start.2),t.list++l.take i⟩:=⟨h.pr,h.st,h.tb,fun g hg=>by
   rcases List.mem_append.1 hg with hg|hg
   ·exact h.ok g hg
   ·exact h1 g hg⟩
  (have hlt:(t.list++l.take i).length<4096:=by rw [List.length_append,List.length_take];omega);obtain ⟨b,f1,f2,f3⟩:=zl6 hf hok hst (g:=cK l i);rw [f1,Option.bind_some]
  cases hg:jt q (cK l i) with
  |false=>
   (have hno:¬HoldN q (t.list++l.take i) (cK l i):=fun hh=>by rw [hh.1] at hg;cases hg);rw [zg3 hi hno,Nat.add_zero] at h3;refine ⟨t.list++l.take i,?_⟩;rw [h3];rfl
  |true=>
   cases b with
   |false=>
    (have hno:¬HoldN q (t.list++l.take i) (cK l i):=fun hh=>by have:=(f3 hg).2 hh.2;cases this);rw [zg3 hi hno,Nat.add_zero] at h3;refine ⟨t.list++l.take i,?_⟩;rw [h3];rfl
   |true=>
    have hho:HoldN q (t.list++l.take i) (cK l i):=⟨hg,(f3 hg).1 rfl⟩;rw [zj2 hi hho] at h3
    have h1':∀g∈l.take (i+1),jt q g=true:=fun g hgm=>by
     rw [zct hi] at hgm;rcases List.mem_append.1 hgm with hgm|hgm
     ·exact h1 g hgm
     ·simp at hgm;rw [hgm];exact hg
    show ∃c,(bif (decide (¬(0:Int)=0))||(!true) then _ else _)=_
    rw [decide_eq_false a5,Bool.not_true,Bool.or_self,cond_false];by_cases hl:(i:Int)<(l.length:Int) - 1
    ·rw [decide_eq_true hl,cond_true,zpx hst hlt (hs _ (fG hi)),hg,cond_true,Option.bind_some]
     show ∃c,(bif decide (¬(0:Int)=0) then _ else _)=_
     rw [decide_eq_false a5,cond_false];refine hnx _ ⟨h1',fun _=>?_,by omega⟩
     show t.list++l.take i++[cK l i]=_
     rw [List.append_assoc,←zct hi]
    ·rw [decide_eq_false hl,cond_false,cond_false];exact hnx _ ⟨h1',fun h4=>by omega,by omega⟩
end
section
variable {p:GProblem}{x:GProof}{fuel:Nat}
theorem zeP {st:List Int}(h:gW p=true):gW (gZ p st)=true:=by
 rw [←zfT] at h ⊢;exact znk h
noncomputable def fg (p:GProblem) (x:GProof):Int×Int:=bif gW p&&kR x then (bif x.Stations.all (dG p) then ((dS (gZ p x.Stations) [] x.Lemmas:Int),0) else (0,9)) else (0,2)
theorem zox (h:kR x=true):kI x.Stations=true:=by unfold kR at h;exact eN h
theorem okX_n (h:kR x=true):x.Lemmas.length≤4096:=by
 obtain ⟨M,e,hM⟩:=zkF h;have:=hM.n;rw [e,List.length_append,List.length_singleton];omega
theorem zkL (h:(gW p&&kR x)=false):zbo fuel p x=some (none,2):=by
 unfold zbo;simp only [dJ,zik,Option.bind_some]
 cases h1:gW p with
 |false=>rfl
 |true=>
  rw [h1,Bool.true_and] at h;rw [h];rfl
theorem zhO (hok:gW p=true)(hx:kR x=true)(h:x.Stations.all (dG p)=false):zbo fuel p x=some (none,9):=by
 unfold zbo;simp only [dJ,zik,Option.bind_some,hok,hx,zhU,zju,zfT,zox hx,h]
 rfl
theorem zl3 (hf:100000≤fuel)(hok:gW p=true)(hx:kR x=true)(h:x.Stations.all (dG p)=true):∃t,zbo fuel p x=some (some t,0)∧StN (gZ p x.Stations) t∧t.list=[]:=by
 obtain ⟨t,h1,h2,h3⟩:=new_x (fuel:=fuel) hf (zeP (st:=x.Stations) hok);refine ⟨t,?_,h2,h3⟩;unfold zbo;simp only [dJ,zik,Option.bind_some,hok,hx,zhU,zju,zfT,zox hx,h,Bool.and_self,cond_true,Bool.not_true,cond_false,h1]
 rfl
theorem zlX (hf:100000≤fuel)(hs:∀g∈x.Lemmas,g.length≤1000):zcq fuel p x=some (fg p x):=by
 unfold zcq fg
 cases h:gW p&&kR x with
 |false=>rw [zkL h];rfl
 |true=>
  have hok:=eN h;have hx:=fk h
  cases ha:x.Stations.all (dG p) with
  |false=>rw [zhO hok hx ha];rfl
  |true=>
   obtain ⟨t,h1,h2,h3⟩:=zl3 hf hok hx ha;have hn:=okX_n hx;obtain ⟨c,h4⟩:=zhd hf (zeP (st:=x.Stations) hok) h2 (l:=x.Lemmas) (by rw [h3];simpa using hn) hs;rw [h1,Option.bind_some]
   show (zbb fuel t x.Lemmas).bind _=_
   rw [h4,h3];rfl
noncomputable def dZ (p:GProblem) (x:GProof):Int:=bif ((decide ((fg p x).2=0))&&(decide ((fg p x).1<(x.Lemmas.length:Int)))) then 10 else (fg p x).2
theorem zhb (hf:100000≤fuel)(hs:∀g∈x.Lemmas,g.length≤1000):zbz fuel p x=some (dZ p x):=by
 unfold zbz dZ;rw [zlX hf hs,Option.bind_some]
 cases ((decide ((fg p x).2=0))&&(decide ((fg p x).1<(x.Lemmas.length:Int)))) <;> rfl
theorem gm:dZ p x=0↔gW p=true∧kR x=true∧x.Stations.all (dG p)=true∧AllN (gZ p x.Stations) [] x.Lemmas:=by
 unfold dZ fg
 cases gW p with
 |false=>exact ⟨fun h=>(by cases h),fun h=>(by cases h.1)⟩
 |true=>
  cases kR x with
  |false=>exact ⟨fun h=>(by cases h),fun h=>(by cases h.2.1)⟩
  |true=>
   cases x.Stations.all (dG p) with
   |false=>exact ⟨fun h=>(by cases h),fun h=>(by cases h.2.2.1)⟩
   |true=>
    simp only [Bool.and_self,cond_true,decide_true,Bool.true_and,true_and,←zcw];have:=zfA (q:=gZ p x.Stations) x.Lemmas [];by_cases h:(dS (gZ p x.Stations) [] x.Lemmas:Int)<(x.Lemmas.length:Int)
    ·rw [decide_eq_true h,cond_true];exact ⟨fun h=>a5,fun h=>a5⟩
    ·rw [decide_eq_false h,cond_false];exact ⟨fun _=>a5,fun _=>rfl⟩
noncomputable def fJ (q:GProblem):List (List GChoice)→List (List GChoice)→List (List GChoice)
 | [],B=>B
 |g :: R,B=>if dS q R.reverse B=B.length then fJ q R B else fJ q R (g :: B)
noncomputable def kd (p:GProblem) (x:GProof):GProof×Int:=if dZ p x=0 then (⟨x.Stations,fJ (gZ p x.Stations) x.Lemmas.dropLast.reverse [[]]⟩,0) else (⟨[],[]⟩,dZ p x)
theorem zna {M:List (List GChoice)}{i:Nat}(hi:i<M.length):(M.take (i+1)).reverse=cK M i :: (M.take i).reverse:=by rw [zct hi,List.reverse_append];rfl
theorem zk7 (q:GProblem){M B:List (List GChoice)}{i:Nat}(hi:i<M.length):fJ q (M.take (i+1)).reverse B=if dS q (M.take i) B=B.length then fJ q (M.take i).reverse B else fJ q (M.take i).reverse (cK M i :: B):=by
 rw [zna hi]
 show (if dS q (M.take i).reverse.reverse B=B.length then _ else _)=_
 rw [List.reverse_reverse]
theorem zpH {t:GStore}(hn:t.list=[]):zaH t=some (some ⟨t.domains,(t.start.1,t.start.2),t.list⟩):=by
 unfold zaH zap;rw [cond_false,f7 (by rw [hn];simp only [dn];simp)]
theorem zn0 (hf:100000≤fuel)(hn:x.Lemmas.length≤100)(hst:x.Stations.length≤1000)(hs:∀g∈x.Lemmas,g.length≤1000):zcd fuel p x=some (kd p x):=by
 unfold zcd kd
 cases h:gW p&&kR x with
 |false=>
  (have hc:dZ p x=2:=by unfold dZ fg;rw [h];rfl);rw [zkL h,hc];rfl
 |true=>
  have hok:=eN h;have hx:=fk h
  cases ha:x.Stations.all (dG p) with
  |false=>
   (have hc:dZ p x=9:=by unfold dZ fg;rw [h,ha];rfl);rw [zhO hok hx ha,hc];rfl
  |true=>
   obtain ⟨t,h1,h2,h3⟩:=zl3 hf hok hx ha;have hq:=zeP (st:=x.Stations) hok;have hcp:=zpH h3;have ht:StN (gZ p x.Stations) ⟨t.domains,(t.start.1,t.start.2),t.list⟩:=⟨h2.pr,h2.st,h2.tb,h2.ok⟩;obtain ⟨c,h4⟩:=zhd hf hq ht (l:=x.Lemmas) (by dsimp only;rw [h3];simp;omega) hs;dsimp only at h4;rw [h3] at h4;rw [h1,Option.bind_some];simp only [Option.isSome_some,cond_true,Option.getD_some,hcp,Option.bind_some,not_true_eq_false,decide_false];rw [h3,cond_false,h4,Option.bind_some];have hle:=zfA (q:=gZ p x.Stations) x.Lemmas [];by_cases hA:AllN (gZ p x.Stations) [] x.Lemmas
   ·have hc:dZ p x=0:=gm.2 ⟨hok,hx,ha,hA⟩;have hfn:=(zcw _ _).2 hA;rw [if_pos hc];dsimp only;rw [decide_eq_false a5,cond_false];obtain ⟨M,e,hM⟩:=zkF hx; (have hlen:x.Lemmas.length=M.length+1:=by rw [e];simp); (have hdl:x.Lemmas.dropLast=M:=by rw [e,List.dropLast_concat]);rw [hdl];have hA2:=hA;rw [e,iZ,List.nil_append] at hA2;simp only [dJ]; (have hcnt:((((x.Lemmas.length:Int) - 1) - 1)+1).toNat=M.length:=by omega);rw [hcnt,f7 a5];refine zjd (σ:=List (List GChoice)) (fun i s=>∃B,s=B.reverse∧B.length+i≤M.length+1∧(∀g∈B,g.length≤1000)∧fJ (gZ p x.Stations) (M.take i).reverse B=fJ (gZ p x.Stations) M.reverse [[]]) (fun o=>o=some ((⟨x.Stations,fJ (gZ p x.Stations) M.reverse [[]]⟩:GProof),(0:Int))) ⟨[[]],rfl,by simp;omega,fun g hg=>(by simp at hg;rw [hg];simp),by rw [List.take_length]⟩ (fun s hs=>?_) (fun i s next hi hs hnx=>?_)
    ·obtain ⟨B,rfl,_,_,h5⟩:=hs;rw [f7 (by simp only [dn];omega)];unfold nN;rw [List.reverse_reverse,←h5];rfl
    ·obtain ⟨B,rfl,b0,b2,h5⟩:=hs; (have et:x.Lemmas.take i=M.take i:=by rw [e,List.take_append_of_le_length a5]); (have en:cK x.Lemmas i=cK M i:=by rw [e];exact nthA hi);rw [et];refine nn (σ:=List (List GChoice)) (fun j c=>c=M.take j) (fun o=>o=_) a8 (fun c hc=>?_) (fun j c nx hj hc hnx2=>?_)
     ·have hcl:c=M.take i:=by
       rw [hc,Nat.sub_zero,List.length_take,Nat.min_eq_left a5]
      subst hcl;have hSt:StN (gZ p x.Stations) ⟨t.domains,(t.start.1,t.start.2),M.take i⟩:=⟨h2.pr,h2.st,h2.tb,fun g hg=>AllN.ok hA2.1 g (List.mem_of_mem_take hg)⟩;obtain ⟨c2,h6⟩:=zhd hf hq hSt (l:=B) (by dsimp only;rw [List.length_take];omega) b2; (have hrev:nN B.reverse=B:=by unfold nN;rw [List.reverse_reverse]);rw [hrev,f7 (by simp only [dn,List.length_reverse];omega)];have h6':zbb fuel (GStore.mk t.domains (t.start.1,t.start.2) (M.take i)) B=some ((dS (gZ p x.Stations) (M.take i) B:Int),c2):=h6;rw [h6',Option.bind_some];have hle2:=zfA (q:=gZ p x.Stations) B (M.take i);rw [zk7 _ hi] at h5;dsimp only;by_cases hz:dS (gZ p x.Stations) (M.take i) B=B.length
      ·rw [decide_eq_false a5,cond_false];rw [if_pos hz] at h5;exact hnx _ ⟨B,rfl,by omega,b2,h5⟩
      ·rw [decide_eq_true a5,cond_true];rw [if_neg hz] at h5;have hgl:=hs (cK x.Lemmas i) (fG a5);rw [f7 (by simp only [dn];omega),f7 (by simp only [dn,List.length_append,List.length_reverse,List.length_singleton];omega)];refine hnx _ ⟨cK M i :: B,by rw [en,List.reverse_cons],by simp;omega,fun g hg=>?_,h5⟩;rcases List.mem_cons.1 hg with rfl|hg
       ·rw [←en];exact hgl
       ·exact b2 g hg
     ·subst hc; (have hj2:j<M.length:=by rw [Nat.sub_zero,List.length_take] at hj;omega); (have hji:j<i:=by rw [Nat.sub_zero,List.length_take] at hj;omega);have hSt:StN (gZ p x.Stations) ⟨t.domains,(t.start.1,t.start.2),M.take j⟩:=⟨h2.pr,h2.st,h2.tb,fun g hg=>AllN.ok hA2.1 g (List.mem_of_mem_take hg)⟩; (have e7:cK (M.take i) j=cK M j:=by rw [dQ (by rw [List.length_take];omega),dQ hj2,List.getElem_take]);rw [e7];have hgok:=AllN.ok hA2.1 _ (fG hj2);have hgs:(cK M j).length≤1000:=hs _ (by rw [e];exact List.mem_append_left _ (fG hj2))
      have h8:zaF (GStore.mk t.domains (t.start.1,t.start.2) (M.take j)) (cK M j)=some (0,M.take j++[cK M j]):=by
       rw [zpx hSt (by dsimp only;rw [List.length_take];omega) hgs,hgok];rfl
      rw [h8,Option.bind_some];exact hnx2 _ (zct hj2).symm
   ·have hlt:dS (gZ p x.Stations) [] x.Lemmas<x.Lemmas.length:=Nat.lt_of_le_of_ne hle fun h=>hA ((zcw _ _).1 h)
    have hc:dZ p x=10:=by
     unfold dZ fg;rw [h,ha,cond_true,cond_true];dsimp only;rw [decide_eq_true a5,decide_eq_true a5];rfl
    rw [hc];dsimp only;rw [decide_eq_true a5];rfl
end
def lu (a:Int)(b:Int):GPair:=
 (GPair.mk a b 0 14 51)
theorem zeF (F0:Frz)(w:World)(hF0:F0.At w)(a:Int)(b:Int):Calls Tryz.prog 71 #[.int .i64 a, .int .i64 b] w fun e w'=>e= .returned (.agg [.int .i64 ((lu a b).A), .int .i64 ((lu a b).B), .int .i64 ((lu a b).Offset), .int .i64 ((lu a b).Low), .int .i64 ((lu a b).High)].toArray)∧Below w.heap.size w w':=by
 obtain ⟨r,hk⟩:∃r,lu a b=r:=⟨_,rfl⟩;rw [hk];unfold lu at hk;obtain ⟨S0,F1,rfl,hS0,hp0⟩:=eY hF0;refine dv Tryz.func71 rfl rfl rfl hp0 ?_;refine dq ?_;refine gV ?_;rintro _ _ ⟨g4,rfl,rfl⟩;refine d8 ?_;refine eg ?_;refine ll ?_;refine j5 ?_;refine gH ?_;subst hk;exact q4H
def me  : GProblem :=
 (GProblem.mk [(GDomain.mk 1 [14,15]),(GDomain.mk 2 [14,15]),(GDomain.mk 3 [14,15]),(GDomain.mk 4 [14])] (GRules.mk [(lu 1 2),(lu 1 3),(lu 2 3)] [] []))
theorem zc0 (F0 : Frz)(w : World)(hF0 : F0.At w)  : Calls Tryz.prog 33 #[] w fun e w' => ∃ (y : Value × List (List Value) × Value × Value × Value) (G : Frz), (SlD cL G y.1 2 y.2.1 ((me).Domains) ∧ SlC G y.2.2.1 5 (((me).Rules.Pairs).map cP) ∧ SlC G y.2.2.2.1 5 (((me).Rules.Loads).map cR) ∧ SlC G y.2.2.2.2 4 (((me).Rules.Caps).map cV)) ∧ e = .returned (.agg [y.1, y.2.2.1, y.2.2.2.1, y.2.2.2.2].toArray) ∧ Fx F0 w G w' := by
 obtain ⟨r,hk⟩:∃r,me=r:=⟨_,rfl⟩;rw [hk];unfold me at hk;obtain ⟨S0,F1,rfl,hS0,hp0⟩:=eY hF0;refine dv Tryz.func33 rfl rfl rfl hp0 ?_;refine dq ?_;refine gV ?_;rintro _ _ ⟨g0,rfl,rfl⟩;refine d8 ?_;refine jW ?_;rintro _ _ ⟨g2,rfl,rfl⟩;refine kq ?_;refine mA (fun w hw=>hw.freezeR (i:=2) (j:=0) a6 rfl rfl) ?_;rintro F2 ⟨le1_2,hz2⟩;refine iX ?_;have hf2:SlC F2.toFrz (.slice (some ⟨g2,0,none⟩) 2 2) 1 ([14,15].map eI):=(SlK.lit hz2 rfl (Nat.le_refl _) a6).toF (xs:=[14,15]) rfl (fun _=>rfl);refine iV ?_;refine ll ?_;refine df ?_;refine ll ?_;refine df ?_;refine ll ?_;refine jW ?_;rintro _ _ ⟨g9,rfl,rfl⟩;refine kj (fun w hw=>hw.freezeR (i:=2) (j:=0) a6 rfl rfl) ?_;rintro F3 ⟨le2_3,hz3⟩;refine iX ?_;have le1_3:=le1_2.trans le2_3;have hf3:SlC F3.toFrz (.slice (some ⟨g9,0,none⟩) 1 1) 1 ([14].map eI):=(SlK.lit hz3 rfl (Nat.le_refl _) a6).toF (xs:=[14]) rfl (fun _=>rfl);refine ll ?_;refine jW ?_;rintro _ _ ⟨g11,rfl,rfl⟩;have hl11:OwnD cL F3.toFrz 2 [[.int .i64 1,(.slice (some ⟨g2,0,none⟩) 2 2)],[.int .i64 2,(.slice (some ⟨g2,0,none⟩) 2 2)],[.int .i64 3,(.slice (some ⟨g2,0,none⟩) 2 2)],[.int .i64 4,(.slice (some ⟨g9,0,none⟩) 1 1)]] [(GDomain.mk 1 [14,15]),(GDomain.mk 2 [14,15]),(GDomain.mk 3 [14,15]),(GDomain.mk 4 [14])]:=(di (di (di (di (OwnD.nil _ _ 2) ⟨_,rfl,(SlC.mono hf2 le2_3)⟩) ⟨_,rfl,(SlC.mono hf2 le2_3)⟩) ⟨_,rfl,(SlC.mono hf2 le2_3)⟩) ⟨_,rfl,hf3⟩);refine cW (cN rfl rfl rfl (fun w hw=>zeF _ w (hw.fr (i:=2) rfl) 1 2)) ?_;refine eX ?_;refine cW (cN rfl rfl rfl (fun w hw=>zeF _ w (hw.fr (i:=2) rfl) 1 3)) ?_;refine eX ?_;refine cW (cN rfl rfl rfl (fun w hw=>zeF _ w (hw.fr (i:=2) rfl) 2 3)) ?_;refine eX ?_;refine jW ?_;rintro _ _ ⟨g15,rfl,rfl⟩;refine ll ?_;refine ll ?_;refine eD (dx 2) ?_;refine eX ?_;refine gH ?_;refine jg (fun w hw=>hw.freezeR (i:=3) (j:=1) a6 rfl rfl) ?_;rintro F4 ⟨le3_4,hz4⟩;refine iX ?_;have le1_4:=le1_3.trans le3_4;have hf4:SlD cL F4.toFrz (.slice (some ⟨g11,0,none⟩) 4 4) 2 [[.int .i64 1,(.slice (some ⟨g2,0,none⟩) 2 2)],[.int .i64 2,(.slice (some ⟨g2,0,none⟩) 2 2)],[.int .i64 3,(.slice (some ⟨g2,0,none⟩) 2 2)],[.int .i64 4,(.slice (some ⟨g9,0,none⟩) 1 1)]] [(GDomain.mk 1 [14,15]),(GDomain.mk 2 [14,15]),(GDomain.mk 3 [14,15]),(GDomain.mk 4 [14])]:=(SlK.lit hz4 rfl (Nat.le_refl _) a6).toD (OwnD.mono (rep:=cL) (fun _ _ _ _=>GDomain.mono) hl11 le3_4) rfl;refine q3l ?_;rintro F5 ⟨le4_5,hz5⟩;refine iX ?_;have le1_5:=le1_4.trans le4_5;have hf5:SlC F5.toFrz (.slice (some ⟨g15,0,none⟩) 3 3) 5 ([(lu 1 2),(lu 1 3),(lu 2 3)].map cP):=(SlK.lit hz5 rfl (Nat.le_refl _) a6).toF (xs:=[(lu 1 2),(lu 1 3),(lu 2 3)]) rfl GPair.len;subst hk;exact lR 0 rfl rfl rfl rfl (fun w' hw=>⟨((.slice (some ⟨g11,0,none⟩) 4 4),[[.int .i64 1,(.slice (some ⟨g2,0,none⟩) 2 2)],[.int .i64 2,(.slice (some ⟨g2,0,none⟩) 2 2)],[.int .i64 3,(.slice (some ⟨g2,0,none⟩) 2 2)],[.int .i64 4,(.slice (some ⟨g9,0,none⟩) 1 1)]],(.slice (some ⟨g15,0,none⟩) 3 3),(.slice none 0 0),(.slice none 0 0)),F5.toFrz,⟨(SlD.mono (rep:=cL) (fun _ _ _ _=>GDomain.mono) hf4 le4_5),hf5,(SlC.nil _ 5),(SlC.nil _ 4)⟩,rfl,fT hw (i:=1) rfl hS0 le1_5⟩)
def zbn (stations:List Int)(lemmas:Int):Option GProof:=
 dJ (fun (s3:List Int×List (List GChoice))=>
  ey (dn (s3.2++[[]]).length 24) <|
  some (GProof.mk s3.1 (s3.2++[[]])))
 (fun k3=>
  ey (lemmas≤9223372036854775807) <|
  c8 (fun (i_7:Nat) (next6:(List Int×List (List GChoice))→Option GProof) (s6:List Int×List (List GChoice))=>
   ey (dn (s6.2++[[(GChoice.mk (i_7:Int) 14)]]).length 24) <|
   next6 (s6.1,(s6.2++[[(GChoice.mk (i_7:Int) 14)]])))
  (fun (s6:List Int×List (List GChoice))=>
   k3 (s6.1,s6.2)) (lemmas.toNat - 1) 1 (stations,[]))
theorem zbO (F0:Frz)(w:World)(hF0:F0.At w)(stations:List Int)(vstations:Value)(hstations:SlC F0 vstations 1 (stations.map eI))(lemmas:Int)(r:GProof)(hr:zbn stations lemmas=some r):Calls Tryz.prog 34 #[vstations, .int .i64 lemmas] w fun e w'=>∃(y:Value×Value×List (List Value)) (G:Frz),(SlC G y.1 1 (r.Stations.map eI)∧SlD cJ G y.2.1 1 y.2.2 r.Lemmas)∧e= .returned (.agg [y.1,y.2.1].toArray)∧Fx F0 w G w':=by
 have hk:=hr;unfold zbn at hk;haveI:=hstations.oneC;obtain ⟨S0,F1,rfl,hS0,hp0⟩:=eY hF0;refine dv Tryz.func34 rfl rfl rfl hp0 ?_;refine dq ?_;refine gV ?_;rintro _ _ ⟨g4,rfl,rfl⟩;refine j9 ?_;refine ll ?_;refine gV ?_;rintro _ _ ⟨g5,rfl,rfl⟩;refine TL.slNil 50 1 ?_;refine eD (dx 1) ?_;refine eX ?_;refine TL.slNil 50 1 ?_;refine i5 ?_;refine dB ?_;have hq:=ek hk;clear hk;obtain ⟨k3,hk3,hk⟩:=hq; (try dsimp only at hk);refine da (ι:=List Int×Value×List (List GChoice)×Value×List (List Value)×FzB w (fun _=>False) S0) (fun z=>[(4, .pointer (some ⟨g4,0,none⟩)),(5, .pointer (some ⟨g5,0,none⟩))]) (fun z=>[.sl z.2.2.2.1 50 1 z.2.2.1.length z.2.2.2.2.1.flatten, .row g5 33 [z.2.1,z.2.2.2.1], .row g4 33 [(.slice none 0 0),(.slice none 0 0)], .fr z.2.2.2.2.2]) (fun z=>k3 (z.1,z.2.2.1)=some r∧SlC z.2.2.2.2.2.toFrz z.2.1 1 (z.1.map eI)∧OwnD cJ z.2.2.2.2.2.toFrz 1 z.2.2.2.2.1 z.2.2.1∧OneC z.2.2.2.1∧F1.toFrz.Le z.2.2.2.2.2.toFrz) ?_ ?_
 ·have hq:(lemmas≤9223372036854775807)∧_:=gg hk;clear hk;obtain ⟨gl6,hk⟩:=hq; (try dsimp only at hk);have hq:=fB hk;clear hk;obtain ⟨f6,kk6,hf6,hkk6,hk⟩:=hq;refine fj ?_;refine T.pick [0,2,3,4] rfl a6 ?_;refine T.loop (ι:=Nat×List Int×Value×List (List GChoice)×Value×List (List Value)×FzB w (fun _=>False) S0) (fun z=>[(1, .int .i64 lemmas),(4, .pointer (some ⟨g4,0,none⟩)),(5, .pointer (some ⟨g5,0,none⟩)),(6, .int .i64 (z.1:Int))]) (fun z=>[.sl z.2.2.2.2.1 50 1 z.2.2.2.1.length z.2.2.2.2.2.1.flatten, .row g5 33 [z.2.2.1,z.2.2.2.2.1], .row g4 33 [(.slice none 0 0),(.slice none 0 0)], .fr z.2.2.2.2.2.2]) (fun z=>c8 f6 kk6 (lemmas.toNat - z.1) z.1 (z.2.1,z.2.2.2.1)=some r∧SlC z.2.2.2.2.2.2.toFrz z.2.2.1 1 (z.2.1.map eI)∧OwnD cJ z.2.2.2.2.2.2.toFrz 1 z.2.2.2.2.2.1 z.2.2.2.1∧OneC z.2.2.2.2.1∧F1.toFrz.Le z.2.2.2.2.2.2.toFrz) (fun z=>lemmas.toNat - z.1) (1,stations,vstations,[],(.slice none 0 0),[],F1) ?_ ?_ ?_ ?_
  ·exact ⟨hk,hstations,(OwnD.nil _ _ 1),inferInstance,(Frz.Le.refl _)⟩
  ·exact m0
  ·exact eW
  ·rintro ⟨i_7,c_4,vc_4,c_5,vc_5,cc_5,F3⟩ ⟨hk,hc_4,hc_5,oc_5,le1_3⟩; (try dsimp only at *);haveI:=hc_4.oneC;refine lE ?_;refine eR ?_;refine db ?_;refine T.cond rfl (fun h8=>?_) (fun h8=>?_)
   ·have p8:=of_decide_eq_true h8;rw [fx a5] at hk;generalize hn6:c8 f6 kk6 (lemmas.toNat - (i_7+1)) (i_7+1)=next6 at hk;rw [←hf6] at hk; (try dsimp only at hk);refine T.skip (K.seq (T.seq (T.block ?_)));have hq:(dn (c_5++[[(GChoice.mk (i_7:Int) 14)]]).length 24)∧_:=gg hk;clear hk;obtain ⟨g20,hk⟩:=hq; (try dsimp only at hk);refine fN ?_;refine jZ ?_;refine df ?_;refine ll ?_;refine jW ?_;rintro _ _ ⟨g18,rfl,rfl⟩;refine kj (fun w hw=>hw.freezeR (i:=4) (j:=0) a6 rfl rfl) ?_;rintro F4 ⟨le3_4,hz4⟩;refine iX ?_;have le1_4:=le1_3.trans le3_4;have hf4:SlC F4.toFrz (.slice (some ⟨g18,0,none⟩) 1 1) 2 ([(GChoice.mk (i_7:Int) 14)].map cQ):=(SlK.lit hz4 rfl (Nat.le_refl _) a6).toF (xs:=[(GChoice.mk (i_7:Int) 14)]) rfl GChoice.len;refine jW ?_;rintro _ _ ⟨g19,rfl,rfl⟩;have hl19:OwnD cJ F4.toFrz 1 [[(.slice (some ⟨g18,0,none⟩) 1 1)]] [[(GChoice.mk (i_7:Int) 14)]]:=(di (OwnD.nil _ _ 1) ⟨_,rfl,hf4⟩);refine cW (fM 1 0 rfl rfl rfl rfl rfl rfl (kS (ys:=[[(GChoice.mk (i_7:Int) 14)]])) (zcg (cs:=cc_5) (ds:=[[(.slice (some ⟨g18,0,none⟩) 1 1)]])) g20 a6) ?_;rintro v20 _ ⟨hv20,rfl⟩;have ho20:OwnD cJ F4.toFrz 1 (cc_5++[[(.slice (some ⟨g18,0,none⟩) 1 1)]]) (c_5++[[(GChoice.mk (i_7:Int) 14)]]):=(di (OwnD.mono (rep:=cJ) (fun _ _ _ _=>R_List_GChoice.mono) hc_5 le3_4) ⟨_,rfl,hf4⟩);refine fC ?_;refine eD (eJ 2 rfl rfl rfl rfl a8) ?_;refine eX ?_;refine q2H ?_;rw [←hn6] at hk;refine K.pick [1,2,3,4] rfl a6 ?_;exact K.next ((i_7+1),c_4,vc_4,(c_5++[[(GChoice.mk (i_7:Int) 14)]]),v20,(cc_5++[[(.slice (some ⟨g18,0,none⟩) 1 1)]]),F4) ⟨hk,(SlC.mono hc_4 le3_4),ho20,inferInstance,le1_4⟩ a9 (.c (.c (.c (.c .nil)))) (List.Sublist.refl _)
   ·have p8:=of_decide_eq_false h8;rw [fw a5,←hkk6] at hk; (try dsimp only at hk);refine eE ?_;exact cS (c_4,vc_4,c_5,vc_5,cc_5,F3) ⟨hk,hc_4,hc_5,inferInstance,le1_3⟩ (.c (.c .nil)) (List.Sublist.refl _)
 ·rintro ⟨c_1,vc_1,c_2,vc_2,cc_2,F2⟩ ⟨hk,hc_1,hc_2,oc_2,le1_2⟩; (try dsimp only at *);rw [←hk3] at hk; (try dsimp only at hk);haveI:=hc_1.oneC;refine T.seq ?_;have hq:(dn (c_2++[[]]).length 24)∧_:=gg hk;clear hk;obtain ⟨g25,hk⟩:=hq; (try dsimp only at hk);refine fN ?_;refine jZ ?_;refine jW ?_;rintro _ _ ⟨g24,rfl,rfl⟩;have hl24:OwnD cJ F2.toFrz 1 [[(.slice none 0 0)]] [[]]:=(di (OwnD.nil _ _ 1) ⟨_,rfl,(SlC.nil _ 2)⟩);refine cW (fM 1 0 rfl rfl rfl rfl rfl rfl (kS (ys:=[[]])) (zcg (cs:=cc_2) (ds:=[[(.slice none 0 0)]])) g25 a6) ?_;rintro v25 _ ⟨hv25,rfl⟩;have ho25:OwnD cJ F2.toFrz 1 (cc_2++[[(.slice none 0 0)]]) (c_2++[[]]):=(di hc_2 ⟨_,rfl,(SlC.nil _ 2)⟩);refine fC ?_;refine eD (eJ 2 rfl rfl rfl rfl a8) ?_;refine eX ?_;refine d8 ?_;refine cM (d7 2) ?_;refine eD (dx 3) ?_;refine eX ?_;refine gH ?_;refine jg (fun w hw=>hw.freezeS (i:=4) (j:=1) a6 rfl rfl) ?_;rintro F5 ⟨le2_5,hz5⟩;refine iX ?_;have le1_5:=le1_2.trans le2_5;have hf5:=hz5.toD (OwnD.mono (rep:=cJ) (fun _ _ _ _=>R_List_GChoice.mono) ho25 le2_5) rfl;haveI:=hf5.1.oneC;obtain rfl:=Option.some.inj hk;exact lR 2 rfl rfl rfl rfl (fun w' hw=>⟨(vc_1,v25,(cc_2++[[(.slice none 0 0)]])),F5.toFrz,⟨(SlC.mono hc_1 le2_5),hf5⟩,rfl,fT hw (i:=3) rfl hS0 le1_5⟩)
def zco (fuel:Nat)(x_:GProof)(want:Int)(e_:Int):Option Bool:=
 (zcq fuel (me) x_).bind fun r12=>
 some ((decide (r12.1=want))&&(decide (r12.2=e_)))
theorem zde (F0:Frz)(w:World)(hF0:F0.At w)(x_:GProof)(vx__0:Value)(hx__0:SlC F0 vx__0 1 (x_.Stations.map eI))(vx__1:Value)(cx__1:List (List Value))(hx__1:SlD cJ F0 vx__1 1 cx__1 x_.Lemmas)(want:Int)(e_:Int)(htab:Tab w)(fuel:Nat)(hfu:100000≤fuel)(r:Bool)(hr:zco fuel x_ want e_=some r):Calls Tryz.prog 35 #[.agg [vx__0,vx__1].toArray, .int .i64 want, .int .i64 e_] w fun e w'=>e= .returned (.bool r)∧Below w.heap.size w w':=by
 have hk:=hr;unfold zco at hk;haveI:=hx__0.oneC;haveI:=hx__1.1.oneC;obtain ⟨S0,F1,rfl,hS0,hp0⟩:=eY hF0;have hM0:¬(fun _:Nat=>False) 0:=fun h=>h;have htk:∀ {hs:HS} {w':World},Hp w (fun _=>False) hs w'→Tab w':=fun hw=>htab.keptF hw;refine dv Tryz.func35 rfl rfl rfl hp0 ?_;refine iW ?_;rintro _ _ ⟨g3,rfl,rfl⟩;refine kq ?_;have hq:=ee hk;clear hk;obtain ⟨r12,hr12,hk⟩:=hq; (try dsimp only at hk);refine dM (.still 1 (.eff 0 (.eff 2 (sN 3 4 (.still 7 .done))))) _ a7 (List.Sublist.refl _) ?_;refine kJ ?_;refine dD ?_;refine c6 rfl (Wt.none) rfl rfl (d4 1 rfl rfl rfl rfl (fun w hw hF=>zc0 _ w hF )) ?_;rintro _ _ ⟨⟨v10_0_0,cs10_0_0,v10_0_1,v10_0_2,v10_0_3⟩,F2,le1_2,⟨hf10_0_0,hf10_0_1,hf10_0_2,hf10_0_3⟩,rfl,rfl⟩;dsimp only at hf10_0_0 hf10_0_1 hf10_0_2 hf10_0_3 ⊢;haveI:=hf10_0_0.1.oneC;haveI:=hf10_0_1.oneC;haveI:=hf10_0_2.oneC;haveI:=hf10_0_3.oneC;refine ⟨(fun w hw=>(hw.frLe (i:=1) rfl le1_2).sub Sx),?_⟩;refine dD ?_;refine c6 rfl (Wt.none) rfl rfl (cN rfl rfl rfl (fun w hw=>zft _ w (hw.fr (i:=1) rfl) (me) v10_0_0 cs10_0_0 hf10_0_0 v10_0_1 hf10_0_1 v10_0_2 hf10_0_2 v10_0_3 hf10_0_3 x_ vx__0 (SlC.mono hx__0 le1_2) vx__1 cx__1 (SlD.mono (rep:=cJ) (fun _ _ _ _=>R_List_GChoice.mono) hx__1 le1_2) (htab.keptF hw) fuel hfu r12 hr12)) ?_;refine eX ?_;refine ⟨(fun w hw=>(hw.frLe (i:=1) rfl le1_2).sub Sx),?_⟩;refine TS.run 5 rfl ?_;refine fQ ?_;refine K.seq (T.seq ?_);refine da (ι:=Unit) (fun z=>[(6, .bool ((decide (r12.1=want))&&(decide (r12.2=e_))))]) (fun z=>[.row g3 33 [vx__0,vx__1], .fr F2]) (fun z=>True) ?_ ?_
 ·refine fN ?_;refine lC ?_;refine dl rfl rfl rfl (fun h1=>?_) (fun h1=>?_)
  ·have p1:=of_decide_eq_true h1;refine mm ?_;exact q4D
  ·have p1:=of_decide_eq_false h1;refine mm ?_;exact q4E
 ·refine mS ?_;obtain rfl:=Option.some.inj hk;exact eh
def zcm (fuel : Nat)  : Option Bool :=
 (zbn [1,2,3] 3).bind fun r9=>
 (zbz fuel (me) r9).bind fun r10=>
 dJ (fun (x_1:Bool)=>
  (bif x_1 then
   some false
   else
   (zbn [1,2] 3).bind fun r32=>
   (zco fuel r32 0 0).bind fun r33=>
   dJ (fun (x_7:Bool)=>
    (bif x_7 then
     some false
     else
     (zbn [1,2,3] 3).bind fun r44=>
     (zcd fuel (me) r44).bind fun r45=>
     (zdH fuel r45.1).bind fun r50=>
     dJ (fun (x_11:Bool)=>
      some x_11)
     (fun k12=>
      (bif decide (r45.2=0) then
       (bif decide (r50.2=0) then
        (zbn [1,2,3] 2).bind fun r62=>
        (bif (zch r45.1 r62) then
         k12 ((u8s r50.1) == ([3,1,2,3,2,1,1,14,0]:List UInt8))
         else
         k12 false)
        else
        k12 false)
       else
       k12 false))))
   (fun k8=>
    (bif !r33 then
     k8 true
     else
     (zbn [1,2,3,5] 3).bind fun r37=>
     (zco fuel r37 0 9).bind fun r38=>
     k8 (!r38)))))
 (fun k2=>
  (bif decide (¬r10=0) then
   k2 true
   else
   (zbn [1,2,3] 3).bind fun r14=>
   (zco fuel r14 3 0).bind fun r15=>
   (bif !r15 then
    k2 true
    else
    (zbn [1,2,3] 1).bind fun r20=>
    (zco fuel r20 0 0).bind fun r21=>
    (bif !r21 then
     k2 true
     else
     (zbn [1,2,3] 1).bind fun r27=>
     (zbz fuel (me) r27).bind fun r28=>
     k2 (decide (¬r28=10))))))
theorem zfJ (F0 : Frz)(w : World)(hF0 : F0.At w)  (htab : Tab w)(fuel : Nat)(hfu : 100000 ≤ fuel)(r : Bool)(hr : zcm fuel = some r) : Calls Tryz.prog 10 #[] w fun e w' => e = .returned (.bool r) ∧ Below w.heap.size w w' := by
 have hk:=hr;unfold zcm at hk;obtain ⟨S0,F1,rfl,hS0,hp0⟩:=eY hF0;have hM0:¬(fun _:Nat=>False) 0:=fun h=>h;have htk:∀ {hs:HS} {w':World},Hp w (fun _=>False) hs w'→Tab w':=fun hw=>htab.keptF hw;refine dv Tryz.func10 rfl rfl rfl hp0 ?_;refine q3T ?_;refine jW ?_;rintro _ _ ⟨g6,rfl,rfl⟩;refine df ?_;refine kF ?_;refine mA (fun w hw=>hw.freezeR (i:=1) (j:=0) a6 rfl rfl) ?_;rintro F2 ⟨le1_2,hz2⟩;refine iX ?_;have hf2:SlC F2.toFrz (.slice (some ⟨g6,0,none⟩) 3 3) 1 ([1,2,3].map eI):=(SlK.lit hz2 rfl (Nat.le_refl _) a6).toF (xs:=[1,2,3]) rfl (fun _=>rfl);have hq:=ee hk;clear hk;obtain ⟨r9,hr9,hk⟩:=hq;have hq:=ee hk;clear hk;obtain ⟨r10,hr10,hk⟩:=hq; (try dsimp only at hk);have hq:=ek hk;clear hk;obtain ⟨k2,hk2,hk⟩:=hq; (try dsimp only at hk);refine da (ι:=Bool×FzB w (fun _=>False) S0) (fun z=>[(1,(.slice (some ⟨g6,0,none⟩) 3 3)),(30, .bool z.1)]) (fun z=>[.fr z.2]) (fun z=>k2 z.1=some r∧F2.toFrz.Le z.2.toFrz) ?_ ?_
 ·refine fN ?_;refine cW (d4 0 rfl rfl rfl rfl (fun w hw hF=>zc0 _ w hF )) ?_;rintro _ _ ⟨⟨v7_0_0,cs7_0_0,v7_0_1,v7_0_2,v7_0_3⟩,F4,le2_4,⟨hf7_0_0,hf7_0_1,hf7_0_2,hf7_0_3⟩,rfl,rfl⟩;dsimp only at hf7_0_0 hf7_0_1 hf7_0_2 hf7_0_3 ⊢;haveI:=hf7_0_0.1.oneC;haveI:=hf7_0_1.oneC;haveI:=hf7_0_2.oneC;haveI:=hf7_0_3.oneC;refine df ?_;refine cW (d4 0 rfl rfl rfl rfl (fun w hw hF=>zbO _ w hF [1,2,3] (.slice (some ⟨g6,0,none⟩) 3 3) (SlC.mono hf2 le2_4) 3 r9 hr9)) ?_;rintro _ _ ⟨⟨v9_0_0,v9_0_1,cs9_0_1⟩,F5,le4_5,⟨hf9_0_0,hf9_0_1⟩,rfl,rfl⟩;dsimp only at hf9_0_0 hf9_0_1 ⊢;have le2_5:=le2_4.trans le4_5;haveI:=hf9_0_0.oneC;haveI:=hf9_0_1.1.oneC;refine cW (cN rfl rfl rfl (fun w hw=>zcE _ w (hw.fr (i:=0) rfl) (me) v7_0_0 cs7_0_0 (SlD.mono (rep:=cL) (fun _ _ _ _=>GDomain.mono) hf7_0_0 le4_5) v7_0_1 (SlC.mono hf7_0_1 le4_5) v7_0_2 (SlC.mono hf7_0_2 le4_5) v7_0_3 (SlC.mono hf7_0_3 le4_5) r9 v9_0_0 hf9_0_0 v9_0_1 cs9_0_1 hf9_0_1 (htab.keptF hw) fuel hfu r10 hr10)) ?_;refine eX ?_;refine eg ?_;refine dl rfl rfl rfl (fun h3=>?_) (fun h3=>?_)
  ·have p3:=of_decide_eq_true h3;replace hk:=dt hk h3;refine TL.run 18 rfl ?_;refine ff ?_;exact cS (true,F5) ⟨hk,le2_5⟩ (.c (.c .nil)) (List.Sublist.refl _)
  ·have p3:=of_decide_eq_false h3;replace hk:=dr hk h3;refine df ?_;have hq:=ee hk;clear hk;obtain ⟨r14,hr14,hk⟩:=hq;refine cW (d4 0 rfl rfl rfl rfl (fun w hw hF=>zbO _ w hF [1,2,3] (.slice (some ⟨g6,0,none⟩) 3 3) (SlC.mono hf2 le2_5) 3 r14 hr14)) ?_;rintro _ _ ⟨⟨v14_0_0,v14_0_1,cs14_0_1⟩,F6,le5_6,⟨hf14_0_0,hf14_0_1⟩,rfl,rfl⟩;dsimp only at hf14_0_0 hf14_0_1 ⊢;have le2_6:=le2_5.trans le5_6;haveI:=hf14_0_0.oneC;haveI:=hf14_0_1.1.oneC;have hq:=ee hk;clear hk;obtain ⟨r15,hr15,hk⟩:=hq;refine cW (cN rfl rfl rfl (fun w hw=>zde _ w (hw.fr (i:=0) rfl) r14 v14_0_0 hf14_0_0 v14_0_1 cs14_0_1 hf14_0_1 3 0 (htab.keptF hw) fuel hfu r15 hr15)) ?_;refine eX ?_;refine eR ?_;refine dl rfl rfl rfl (fun h4=>?_) (fun h4=>?_)
   ·replace hk:=dt hk h4;refine TL.run 12 rfl ?_;refine ff ?_;exact cS (true,F6) ⟨hk,le2_6⟩ (.c (.c .nil)) (List.Sublist.refl _)
   ·replace hk:=dr hk h4;refine df ?_;have hq:=ee hk;clear hk;obtain ⟨r20,hr20,hk⟩:=hq;refine cW (d4 0 rfl rfl rfl rfl (fun w hw hF=>zbO _ w hF [1,2,3] (.slice (some ⟨g6,0,none⟩) 3 3) (SlC.mono hf2 le2_6) 1 r20 hr20)) ?_;rintro _ _ ⟨⟨v20_0_0,v20_0_1,cs20_0_1⟩,F7,le6_7,⟨hf20_0_0,hf20_0_1⟩,rfl,rfl⟩;dsimp only at hf20_0_0 hf20_0_1 ⊢;have le2_7:=le2_6.trans le6_7;haveI:=hf20_0_0.oneC;haveI:=hf20_0_1.1.oneC;have hq:=ee hk;clear hk;obtain ⟨r21,hr21,hk⟩:=hq;refine cW (cN rfl rfl rfl (fun w hw=>zde _ w (hw.fr (i:=0) rfl) r20 v20_0_0 hf20_0_0 v20_0_1 cs20_0_1 hf20_0_1 0 0 (htab.keptF hw) fuel hfu r21 hr21)) ?_;refine eX ?_;refine eR ?_;refine dl rfl rfl rfl (fun h5=>?_) (fun h5=>?_)
    ·replace hk:=dt hk h5;refine TL.run 6 rfl ?_;refine ff ?_;exact cS (true,F7) ⟨hk,le2_7⟩ (.c (.c .nil)) (List.Sublist.refl _)
    ·replace hk:=dr hk h5;refine cW (d4 0 rfl rfl rfl rfl (fun w hw hF=>zc0 _ w hF )) ?_;rintro _ _ ⟨⟨v25_0_0,cs25_0_0,v25_0_1,v25_0_2,v25_0_3⟩,F8,le7_8,⟨hf25_0_0,hf25_0_1,hf25_0_2,hf25_0_3⟩,rfl,rfl⟩;dsimp only at hf25_0_0 hf25_0_1 hf25_0_2 hf25_0_3 ⊢;have le2_8:=le2_7.trans le7_8;haveI:=hf25_0_0.1.oneC;haveI:=hf25_0_1.oneC;haveI:=hf25_0_2.oneC;haveI:=hf25_0_3.oneC;refine df ?_;have hq:=ee hk;clear hk;obtain ⟨r27,hr27,hk⟩:=hq;refine cW (d4 0 rfl rfl rfl rfl (fun w hw hF=>zbO _ w hF [1,2,3] (.slice (some ⟨g6,0,none⟩) 3 3) (SlC.mono hf2 le2_8) 1 r27 hr27)) ?_;rintro _ _ ⟨⟨v27_0_0,v27_0_1,cs27_0_1⟩,F9,le8_9,⟨hf27_0_0,hf27_0_1⟩,rfl,rfl⟩;dsimp only at hf27_0_0 hf27_0_1 ⊢;have le2_9:=le2_8.trans le8_9;haveI:=hf27_0_0.oneC;haveI:=hf27_0_1.1.oneC;have hq:=ee hk;clear hk;obtain ⟨r28,hr28,hk⟩:=hq;refine cW (cN rfl rfl rfl (fun w hw=>zcE _ w (hw.fr (i:=0) rfl) (me) v25_0_0 cs25_0_0 (SlD.mono (rep:=cL) (fun _ _ _ _=>GDomain.mono) hf25_0_0 le8_9) v25_0_1 (SlC.mono hf25_0_1 le8_9) v25_0_2 (SlC.mono hf25_0_2 le8_9) v25_0_3 (SlC.mono hf25_0_3 le8_9) r27 v27_0_0 hf27_0_0 v27_0_1 cs27_0_1 hf27_0_1 (htab.keptF hw) fuel hfu r28 hr28)) ?_;refine mi ?_;exact cS (decide (¬r28=10),F9) ⟨hk,le2_9⟩ (.c (.c .nil)) (List.Sublist.refl _)
 ·rintro ⟨x_1,F3⟩ ⟨hk,le2_3⟩; (try dsimp only at *);rw [←hk2] at hk; (try dsimp only at hk);refine T.cond rfl (fun h6=>?_) (fun h6=>?_)
  ·replace hk:=dt hk h6;refine iN ?_;obtain rfl:=Option.some.inj hk;exact eh
  ·replace hk:=dr hk h6;refine q34 ?_;have hq:=ee hk;clear hk;obtain ⟨r32,hr32,hk⟩:=hq;have hq:=ee hk;clear hk;obtain ⟨r33,hr33,hk⟩:=hq; (try dsimp only at hk);have hq:=ek hk;clear hk;obtain ⟨k8,hk8,hk⟩:=hq; (try dsimp only at hk);refine da (ι:=Bool×FzB w (fun _=>False) S0) (fun z=>[(1,(.slice (some ⟨g6,0,none⟩) 3 3)),(40, .bool z.1)]) (fun z=>[.fr z.2]) (fun z=>k8 z.1=some r∧F3.toFrz.Le z.2.toFrz) ?_ ?_
   ·refine fN ?_;refine jW ?_;rintro _ _ ⟨g31,rfl,rfl⟩;refine kj (fun w hw=>hw.freezeR (i:=1) (j:=0) a6 rfl rfl) ?_;rintro F11 ⟨le3_11,hz11⟩;refine iX ?_;have hf11:SlC F11.toFrz (.slice (some ⟨g31,0,none⟩) 2 2) 1 ([1,2].map eI):=(SlK.lit hz11 rfl (Nat.le_refl _) a6).toF (xs:=[1,2]) rfl (fun _=>rfl);refine cW (d4 0 rfl rfl rfl rfl (fun w hw hF=>zbO _ w hF [1,2] (.slice (some ⟨g31,0,none⟩) 2 2) hf11 3 r32 hr32)) ?_;rintro _ _ ⟨⟨v32_0_0,v32_0_1,cs32_0_1⟩,F12,le11_12,⟨hf32_0_0,hf32_0_1⟩,rfl,rfl⟩;dsimp only at hf32_0_0 hf32_0_1 ⊢;have le3_12:=le3_11.trans le11_12;haveI:=hf32_0_0.oneC;haveI:=hf32_0_1.1.oneC;refine cW (cN rfl rfl rfl (fun w hw=>zde _ w (hw.fr (i:=0) rfl) r32 v32_0_0 hf32_0_0 v32_0_1 cs32_0_1 hf32_0_1 0 0 (htab.keptF hw) fuel hfu r33 hr33)) ?_;refine eX ?_;refine eg ?_;refine dl rfl rfl rfl (fun h9=>?_) (fun h9=>?_)
    ·replace hk:=dt hk h9;refine mm ?_;exact cS (true,F12) ⟨hk,le3_12⟩ (.c (.c .nil)) (List.Sublist.refl _)
    ·replace hk:=dr hk h9;refine jW ?_;rintro _ _ ⟨g36,rfl,rfl⟩;refine kj (fun w hw=>hw.freezeR (i:=1) (j:=0) a6 rfl rfl) ?_;rintro F13 ⟨le12_13,hz13⟩;refine iX ?_;have le3_13:=le3_12.trans le12_13;have hf13:SlC F13.toFrz (.slice (some ⟨g36,0,none⟩) 4 4) 1 ([1,2,3,5].map eI):=(SlK.lit hz13 rfl (Nat.le_refl _) a6).toF (xs:=[1,2,3,5]) rfl (fun _=>rfl);have hq:=ee hk;clear hk;obtain ⟨r37,hr37,hk⟩:=hq;refine cW (d4 0 rfl rfl rfl rfl (fun w hw hF=>zbO _ w hF [1,2,3,5] (.slice (some ⟨g36,0,none⟩) 4 4) hf13 3 r37 hr37)) ?_;rintro _ _ ⟨⟨v37_0_0,v37_0_1,cs37_0_1⟩,F14,le13_14,⟨hf37_0_0,hf37_0_1⟩,rfl,rfl⟩;dsimp only at hf37_0_0 hf37_0_1 ⊢;have le3_14:=le3_13.trans le13_14;haveI:=hf37_0_0.oneC;haveI:=hf37_0_1.1.oneC;have hq:=ee hk;clear hk;obtain ⟨r38,hr38,hk⟩:=hq;refine cW (cN rfl rfl rfl (fun w hw=>zde _ w (hw.fr (i:=0) rfl) r37 v37_0_0 hf37_0_0 v37_0_1 cs37_0_1 hf37_0_1 0 9 (htab.keptF hw) fuel hfu r38 hr38)) ?_;refine mi ?_;exact cS (!r38,F14) ⟨hk,le3_14⟩ (.c (.c .nil)) (List.Sublist.refl _)
   ·rintro ⟨x_7,F10⟩ ⟨hk,le3_10⟩; (try dsimp only at *);rw [←hk8] at hk; (try dsimp only at hk);have le2_10:=le2_3.trans le3_10;refine T.cond rfl (fun h10=>?_) (fun h10=>?_)
    ·replace hk:=dt hk h10;refine iN ?_;obtain rfl:=Option.some.inj hk;exact eh
    ·replace hk:=dr hk h10;refine jM ?_;have hq:=ee hk;clear hk;obtain ⟨r44,hr44,hk⟩:=hq;have hq:=ee hk;clear hk;obtain ⟨r45,hr45,hk⟩:=hq; (try dsimp only at hk);refine fN ?_;refine cW (d4 0 rfl rfl rfl rfl (fun w hw hF=>zc0 _ w hF )) ?_;rintro _ _ ⟨⟨v42_0_0,cs42_0_0,v42_0_1,v42_0_2,v42_0_3⟩,F15,le10_15,⟨hf42_0_0,hf42_0_1,hf42_0_2,hf42_0_3⟩,rfl,rfl⟩;dsimp only at hf42_0_0 hf42_0_1 hf42_0_2 hf42_0_3 ⊢;have le2_15:=le2_10.trans le10_15;haveI:=hf42_0_0.1.oneC;haveI:=hf42_0_1.oneC;haveI:=hf42_0_2.oneC;haveI:=hf42_0_3.oneC;refine df ?_;refine cW (d4 0 rfl rfl rfl rfl (fun w hw hF=>zbO _ w hF [1,2,3] (.slice (some ⟨g6,0,none⟩) 3 3) (SlC.mono hf2 le2_15) 3 r44 hr44)) ?_;rintro _ _ ⟨⟨v44_0_0,v44_0_1,cs44_0_1⟩,F16,le15_16,⟨hf44_0_0,hf44_0_1⟩,rfl,rfl⟩;dsimp only at hf44_0_0 hf44_0_1 ⊢;have le2_16:=le2_15.trans le15_16;haveI:=hf44_0_0.oneC;haveI:=hf44_0_1.1.oneC;refine cW (d4 0 rfl rfl rfl rfl (fun w hw hF=>zep _ w hF (me) v42_0_0 cs42_0_0 (SlD.mono (rep:=cL) (fun _ _ _ _=>GDomain.mono) hf42_0_0 le15_16) v42_0_1 (SlC.mono hf42_0_1 le15_16) v42_0_2 (SlC.mono hf42_0_2 le15_16) v42_0_3 (SlC.mono hf42_0_3 le15_16) r44 v44_0_0 hf44_0_0 v44_0_1 cs44_0_1 hf44_0_1 (htab.keptF hw) fuel hfu r45 hr45)) ?_;rintro _ _ ⟨⟨v45_0_0,v45_0_1,cs45_0_1⟩,F17,le16_17,⟨hf45_0_0,hf45_0_1⟩,rfl,rfl⟩;dsimp only at hf45_0_0 hf45_0_1 ⊢;have le2_17:=le2_16.trans le16_17;haveI:=hf45_0_0.oneC;haveI:=hf45_0_1.1.oneC;refine eR ?_;refine gV ?_;rintro _ _ ⟨g2,rfl,rfl⟩;refine j5 ?_;refine kq ?_;have hq:=ee hk;clear hk;obtain ⟨r50,hr50,hk⟩:=hq; (try dsimp only at hk);refine fN ?_;refine iv ?_;refine cW (fA [1,0] [] [.row g2 33 [v45_0_0,v45_0_1]] rfl rfl rfl rfl a6 (fun w hw hw2 hF=>zhv _ w hF r45.1 v45_0_0 hf45_0_0 v45_0_1 cs45_0_1 hf45_0_1 fuel r50 hr50)) ?_;rintro _ _ ⟨v50_0_0, -,rfl,rfl⟩;refine fX ?_;refine gb 0 rfl ?_;intro iv50_0_0 hmv50_0_0;refine TL.run 5 rfl ?_;refine q3X ?_;rintro F18 ⟨le17_18,hz18⟩;refine iX ?_;have le2_18:=le2_17.trans le17_18;have hf18:=hz18.toF rfl (fun _=>rfl);haveI:=hf18.oneC; (try dsimp only at hk);have hq:=ek hk;clear hk;obtain ⟨k12,hk12,hk⟩:=hq; (try dsimp only at hk);refine da (ι:=Bool×FzB w (fun _=>False) S0) (fun z=>[(0, .bool z.1)]) (fun z=>[.fr z.2]) (fun z=>k12 z.1=some r∧F18.toFrz.Le z.2.toFrz) ?_ ?_
     ·refine dM (sN 0 9 (.eff 9 (.eff 10 (sN 11 6 (.still 17 .done))))) _ a7 (List.Sublist.refl _) ?_;refine gv ?_;refine dA rfl rfl rfl rfl (fun h13=>?_) (fun h13=>?_)
      ·have p13:=of_decide_eq_true h13;replace hk:=dt hk h13;refine TS.run 4 rfl ?_;refine dA rfl rfl rfl rfl (fun h14=>?_) (fun h14=>?_)
       ·have p14:=of_decide_eq_true h14;replace hk:=dt hk h14;refine q3G ?_;refine fF ?_;refine dD ?_;have hq:=ee hk;clear hk;obtain ⟨r62,hr62,hk⟩:=hq;refine c6 rfl (Wt.some) rfl rfl (d4 0 rfl rfl rfl rfl (fun w hw hF=>zbO _ w hF [1,2,3] (.slice (some ⟨g6,0,none⟩) 3 3) (SlC.mono hf2 le2_18) 2 r62 hr62)) ?_;rintro _ _ ⟨⟨v62_0_0,v62_0_1,cs62_0_1⟩,F20,le18_20,⟨hf62_0_0,hf62_0_1⟩,rfl,rfl⟩;dsimp only at hf62_0_0 hf62_0_1 ⊢;have le17_20:=le17_18.trans le18_20;haveI:=hf62_0_0.oneC;haveI:=hf62_0_1.1.oneC;refine ⟨(fun w hw=>(hw.frLe (i:=0) rfl le18_20).sub Sx),?_⟩;refine dD ?_;refine c6 rfl (Wt.some) rfl rfl (cN rfl rfl rfl (fun w hw=>zgh _ w (hw.fr (i:=0) rfl) r45.1 v45_0_0 (SlC.mono hf45_0_0 le17_20) v45_0_1 cs45_0_1 (SlD.mono (rep:=cJ) (fun _ _ _ _=>R_List_GChoice.mono) hf45_0_1 le17_20) r62 v62_0_0 hf62_0_0 v62_0_1 cs62_0_1 hf62_0_1)) ?_;refine eX ?_;refine ⟨(fun w hw=>(hw.frLe (i:=0) rfl le18_20).sub Sx),?_⟩;refine gQ ?_;refine dA rfl rfl rfl rfl (fun h15=>?_) (fun h15=>?_)
        ·replace hk:=dt hk h15;refine fF ?_;refine cT rfl (Yv.cD 0 (e:=5) a7 a7 a7 rfl rfl rfl hf18) ?_;refine cT rfl (Yv.cu (a:=(u8s r50.1)) (b:=([3,1,2,3,2,1,1,14,0]:List UInt8)) rfl rfl rfl) ?_;refine gQ ?_;refine fQ ?_;refine K.pick [0] rfl a6 ?_;exact cS (((u8s r50.1) == ([3,1,2,3,2,1,1,14,0]:List UInt8)),F20) ⟨hk,le18_20⟩ (.c .nil) (List.Sublist.refl _)
        ·replace hk:=dr hk h15;refine TS.run 5 rfl ?_;refine fQ ?_;refine K.pick [0] rfl a6 ?_;exact cS (false,F20) ⟨hk,le18_20⟩ (.c .nil) (List.Sublist.refl _)
       ·have p14:=of_decide_eq_false h14;replace hk:=dr hk h14;refine gQ ?_;refine jv ?_;refine jv ?_;refine TS.run 7 rfl ?_;refine fQ ?_;refine K.pick [0] rfl a6 ?_;exact cS (false,F18) ⟨hk,(Frz.Le.refl _)⟩ (.c .nil) (List.Sublist.refl _)
      ·have p13:=of_decide_eq_false h13;replace hk:=dr hk h13;refine TS.run 6 rfl ?_;refine jv ?_;refine jv ?_;refine TS.run 7 rfl ?_;refine fQ ?_;refine K.pick [0] rfl a6 ?_;exact cS (false,F18) ⟨hk,(Frz.Le.refl _)⟩ (.c .nil) (List.Sublist.refl _)
     ·rintro ⟨x_11,F19⟩ ⟨hk,le18_19⟩; (try dsimp only at *);rw [←hk12] at hk; (try dsimp only at hk);refine T.ret ?_;obtain rfl:=Option.some.inj hk;exact eh
def zcF (fuel:Nat)(p:GProblem)(x_:GProof):Option Bool:=
 (zcG fuel p 9 40).bind fun r6=>
 dJ (fun (x_1:Bool)=>
  some x_1)
 (fun k2=>
  (bif r6 then
   (zdf fuel x_ 30).bind fun r9=>
   k2 r9
   else
   k2 false))
theorem ziq (F0:Frz)(w:World)(hF0:F0.At w)(p:GProblem)(vp_0:Value)(cp_0:List (List Value))(hp_0:SlD cL F0 vp_0 2 cp_0 p.Domains)(vp_1:Value)(hp_1:SlC F0 vp_1 5 (p.Rules.Pairs.map cP))(vp_2:Value)(hp_2:SlC F0 vp_2 5 (p.Rules.Loads.map cR))(vp_3:Value)(hp_3:SlC F0 vp_3 4 (p.Rules.Caps.map cV))(x_:GProof)(vx__0:Value)(hx__0:SlC F0 vx__0 1 (x_.Stations.map eI))(vx__1:Value)(cx__1:List (List Value))(hx__1:SlD cJ F0 vx__1 1 cx__1 x_.Lemmas)(fuel:Nat)(r:Bool)(hr:zcF fuel p x_=some r):Calls Tryz.prog 9 #[.agg [vp_0,vp_1,vp_2,vp_3].toArray, .agg [vx__0,vx__1].toArray] w fun e w'=>e= .returned (.bool r)∧Below w.heap.size w w':=by
 have hk:=hr;unfold zcF at hk;haveI:=hp_0.1.oneC;haveI:=hp_1.oneC;haveI:=hp_2.oneC;haveI:=hp_3.oneC;haveI:=hx__0.oneC;haveI:=hx__1.1.oneC;obtain ⟨S0,F1,rfl,hS0,hp0⟩:=eY hF0;refine dv Tryz.func9 rfl rfl rfl hp0 ?_;refine iW ?_;rintro _ _ ⟨g2,rfl,rfl⟩;refine q3J ?_;rintro _ _ ⟨g3,rfl,rfl⟩;refine kq ?_;have hq:=ee hk;clear hk;obtain ⟨r6,hr6,hk⟩:=hq; (try dsimp only at hk);have hq:=ek hk;clear hk;obtain ⟨k2,hk2,hk⟩:=hq; (try dsimp only at hk);refine da (ι:=Bool) (fun z=>[(4, .bool z)]) (fun z=>[.fr F1]) (fun z=>k2 z=some r) ?_ ?_
 ·refine nb ?_;refine cW (cN rfl rfl rfl (fun w hw=>zir _ w (hw.fr (i:=2) rfl) p vp_0 cp_0 hp_0 vp_1 hp_1 vp_2 hp_2 vp_3 hp_3 9 40 fuel r6 hr6)) ?_;refine jn ?_;refine dl rfl rfl rfl (fun h3=>?_) (fun h3=>?_)
  ·replace hk:=dt hk h3;refine iv ?_;have hq:=ee hk;clear hk;obtain ⟨r9,hr9,hk⟩:=hq;refine cW (cN rfl rfl rfl (fun w hw=>zh7 _ w (hw.fr (i:=2) rfl) x_ vx__0 hx__0 vx__1 cx__1 hx__1 30 fuel r9 hr9)) ?_;refine mi ?_;refine K.pick [2] rfl a6 ?_;exact cS r9 hk (.c .nil) (List.Sublist.refl _)
  ·replace hk:=dr hk h3;refine kX ?_;refine K.pick [2] rfl a6 ?_;exact q4A
 ·rintro x_1 hk;rw [←hk2] at hk; (try dsimp only at hk);refine T.ret ?_;obtain rfl:=Option.some.inj hk;exact eh
theorem zmv (n:Nat):zcm (n+100000)=some true:=by kernel_rfl
theorem zmM {fuel:Nat}(hf:100000≤fuel):zcm fuel=some true:=by
 obtain ⟨n,rfl⟩:∃n,fuel=n+100000:=⟨fuel - 100000,by omega⟩;exact zmv n
section
variable {p:GProblem}{x:GProof}{fuel:Nat}
theorem zmT (hf:100000≤fuel)(p:GProblem)(x:GProof):∃b,zcF fuel p x=some b∧(b=true→x.Stations.length≤20∧x.Lemmas.length≤30∧∀g∈x.Lemmas,g.length≤20):=by
 unfold zcF zdf;obtain ⟨b,hb⟩:=zo1 (p:=p) (a:=9) (b:=40) (fuel:=fuel) a5;obtain ⟨b2,hb2,hb3⟩:=zlx (fuel:=fuel) (l:=x.Lemmas) (most:=30) a5 hf;rw [hb];simp only [dJ,Option.bind_some,hb2]
 cases b with
 |false=>exact ⟨false,rfl,fun h=>by cases h⟩
 |true=>
  by_cases h1:(x.Stations.length:Int)≤20
  ·rw [decide_eq_true h1];refine ⟨b2,rfl,fun h=>?_⟩;have:=hb3 h;exact ⟨by omega,by omega,this.2⟩
  ·rw [decide_eq_false h1];exact ⟨false,rfl,fun h=>by cases h⟩
theorem zne:zch x x=true:=by
 unfold zch;rw [zm3,Bool.and_true,zjI];exact decide_eq_true rfl
theorem zjD {S T:List Int}(h:∀n,fq S n=true→fq T n=true):gZ (gZ p T) S=gZ p S:=by
 have e:∀n,(fq S n&&fq T n)=fq S n:=fun n=>by
  cases h1:fq S n with
  |false=>rfl
  |true=>rw [h n h1];rfl
 (have e2:∀a b c d:Bool,((a&&b)&&(c&&d))=((a&&c)&&(b&&d)):=by decide); (have e3:∀m n,((fq S m&&fq S n)&&(fq T m&&fq T n))=(fq S m&&fq S n):=fun m n=>by rw [e2,e,e]);rw [zeS,zeS,zeS];simp only [List.filter_filter,e3,e]
theorem zje {T:List Int}{n:Int}(h:fq T n=true):dG (gZ p T) n=dG p n:=by
 rw [zeS];unfold dG;dsimp only;rw [Bool.eq_iff_iff,List.any_eq_true,List.any_eq_true];constructor
 ·rintro ⟨d,hd,e⟩;exact ⟨d,(List.mem_filter.1 hd).1,e⟩
 ·rintro ⟨d,hd,e⟩;exact ⟨d,List.mem_filter.2 ⟨hd,by rw [of_decide_eq_true e];exact h⟩,e⟩
theorem gw {S:List Int}{n:Int}:fq S n=true↔n∈S:=by
 show dT S n=true↔_
 rw [zn5,List.any_eq_true];exact ⟨fun ⟨y,hy,e⟩=>by rw [←of_decide_eq_true e];exact hy,fun h=>⟨n,h,decide_eq_true rfl⟩⟩
theorem zkg {T:List Int}(hok:gW p=true)(hS:∀n,fq x.Stations n=true→fq T n=true):fg (gZ p T) x=fg p x:=by
 unfold fg
 have e:x.Stations.all (dG (gZ p T))=x.Stations.all (dG p):=by
  rw [Bool.eq_iff_iff,List.all_eq_true,List.all_eq_true];exact forall_congr' fun n=>⟨fun h hn=>by rw [←zje (hS n (gw.2 hn))];exact h hn,fun h hn=>by rw [zje (hS n (gw.2 hn))];exact h hn⟩
 rw [zeP hok,hok,e,zjD hS]
theorem zjM {T:List Int}(hok:gW p=true)(hS:∀n,fq x.Stations n=true→fq T n=true):dZ (gZ p T) x=dZ p x:=by
 unfold dZ;rw [zkg hok hS]
end
def zca (fuel:Nat)(p:GProblem)(x_:GProof)(l:List GChoice)(further:List Int):Option Bool:=
 (zcF fuel p x_).bind fun r19=>
 dJ (fun (x_1:Bool)=>
  (bif x_1 then
   (zcm fuel).bind fun r37=>
   some r37
   else
   dJ (fun (stations_7:List Int)=>
    (zb7 p stations_7).bind fun r64=>
    dJ (fun (x_16:Bool)=>
     (bif x_16 then
      some false
      else
      (zcd fuel p x_).bind fun r95=>
      (zcd fuel p r95.1).bind fun r101=>
      dJ (fun (x_23:Bool)=>
       some x_23)
      (fun k24=>
       (bif decide (r95.2=0) then
        (bif decide (r101.2=0) then
         (zbz fuel p r95.1).bind fun r113=>
         (bif decide (r113=0) then
          (bif (zch r95.1 r101.1) then
           (bif decide ((r95.1.Lemmas.length:Int)≤(x_.Lemmas.length:Int)) then
            (zcm fuel).bind fun r131=>
            k24 r131
            else
            k24 false)
           else
           k24 false)
          else
          k24 false)
         else
         k24 false)
        else
        k24 false))))
    (fun k17=>
     (bif decide (¬r64.2=0) then
      k17 true
      else
      (zbz fuel r64.1 x_).bind fun r72=>
      (bif decide (¬r72=0) then
       k17 true
       else
       (bif (lI p l) then
        k17 true
        else
        (bif (lI r64.1 l) then
         k17 true
         else
         (zdC l stations_7).bind fun r89=>
         k17 (lI r64.1 r89)))))))
   (fun k8=>
    c8 (fun (n_11:Nat) (next10:List Int→Option Bool) (stations_9:List Int)=>
     (bif ((dT x_.Stations (n_11:Int))||((dT further (n_11:Int))&&(decide (0≤(ij p (n_11:Int)))))) then
      ey (dn (stations_9++[(n_11:Int)]).length 8) <|
      next10 (stations_9++[(n_11:Int)])
      else
      next10 stations_9))
    (fun (stations_9:List Int)=>
     k8 stations_9) (512 - 0) 0 [])))
 (fun k2=>
  (bif !r19 then
   k2 true
   else
   (bif decide (20<(l.length:Int)) then
    k2 true
    else
    (bif decide (20<(further.length:Int)) then
     k2 true
     else
     (zbz fuel p x_).bind fun r34=>
     k2 (decide (¬r34=0))))))
theorem zfz (F0:Frz)(w:World)(hF0:F0.At w)(p:GProblem)(vp_0:Value)(cp_0:List (List Value))(hp_0:SlD cL F0 vp_0 2 cp_0 p.Domains)(vp_1:Value)(hp_1:SlC F0 vp_1 5 (p.Rules.Pairs.map cP))(vp_2:Value)(hp_2:SlC F0 vp_2 5 (p.Rules.Loads.map cR))(vp_3:Value)(hp_3:SlC F0 vp_3 4 (p.Rules.Caps.map cV))(x_:GProof)(vx__0:Value)(hx__0:SlC F0 vx__0 1 (x_.Stations.map eI))(vx__1:Value)(cx__1:List (List Value))(hx__1:SlD cJ F0 vx__1 1 cx__1 x_.Lemmas)(l:List GChoice)(vl:Value)(hl:SlC F0 vl 2 (l.map cQ))(further:List Int)(vfurther:Value)(hfurther:SlC F0 vfurther 1 (further.map eI))(htab:Tab w)(fuel:Nat)(hfu:100000≤fuel)(r:Bool)(hr:zca fuel p x_ l further=some r):Calls Tryz.prog 5 #[.agg [vp_0,vp_1,vp_2,vp_3].toArray, .agg [vx__0,vx__1].toArray,vl,vfurther] w fun e w'=>e= .returned (.bool r)∧Below w.heap.size w w':=by
 have hk:=hr;unfold zca at hk;haveI:=hp_0.1.oneC;haveI:=hp_1.oneC;haveI:=hp_2.oneC;haveI:=hp_3.oneC;haveI:=hx__0.oneC;haveI:=hx__1.1.oneC;haveI:=hl.oneC;haveI:=hfurther.oneC;obtain ⟨S0,F1,rfl,hS0,hp0⟩:=eY hF0;have hM0:¬(fun _:Nat=>False) 0:=fun h=>h;have htk:∀ {hs:HS} {w':World},Hp w (fun _=>False) hs w'→Tab w':=fun hw=>htab.keptF hw;refine dv Tryz.func5 rfl rfl rfl hp0 ?_;refine iW ?_;rintro _ _ ⟨g4,rfl,rfl⟩;refine q3J ?_;rintro _ _ ⟨g5,rfl,rfl⟩;refine df ?_;refine kF ?_;have hq:=ee hk;clear hk;obtain ⟨r19,hr19,hk⟩:=hq; (try dsimp only at hk);have hq:=ek hk;clear hk;obtain ⟨k2,hk2,hk⟩:=hq; (try dsimp only at hk);refine da (ι:=Bool) (fun z=>[(2,vl),(3,vfurther),(4, .pointer (some ⟨g4,0,none⟩)),(5, .pointer (some ⟨g5,0,none⟩)),(36, .bool z)]) (fun z=>[.row g5 33 [vx__0,vx__1], .row g4 29 [vp_0,vp_1,vp_2,vp_3], .fr F1]) (fun z=>k2 z=some r) ?_ ?_
 ·refine nb ?_;refine iv ?_;refine cW (cN rfl rfl rfl (fun w hw=>ziq _ w (hw.fr (i:=2) rfl) p vp_0 cp_0 hp_0 vp_1 hp_1 vp_2 hp_2 vp_3 hp_3 x_ vx__0 hx__0 vx__1 cx__1 hx__1 fuel r19 hr19)) ?_;refine eX ?_;refine eg ?_;refine dl rfl rfl rfl (fun h3=>?_) (fun h3=>?_)
  ·replace hk:=dt hk h3;refine TL.run 15 rfl ?_;refine ff ?_;exact q44
  ·replace hk:=dr hk h3;refine df ?_;refine mX ?_;have hm23:l.length≤9223372036854775807:=(List.length_map _)▸hl.max;refine eR ?_;refine dl rfl rfl rfl (fun h4=>?_) (fun h4=>?_)
   ·have p4:=of_decide_eq_true h4;replace hk:=dt hk h4;refine TL.run 10 rfl ?_;refine ff ?_;exact q44
   ·have p4:=of_decide_eq_false h4;replace hk:=dr hk h4;refine df ?_;refine cM (dg rfl rfl hfurther (List.length_map _)) ?_;have hm28:further.length≤9223372036854775807:=(List.length_map _)▸hfurther.max;refine eR ?_;refine dl rfl rfl rfl (fun h5=>?_) (fun h5=>?_)
    ·have p5:=of_decide_eq_true h5;replace hk:=dt hk h5;refine mm ?_;exact q44
    ·have p5:=of_decide_eq_false h5;replace hk:=dr hk h5;refine q1B ?_;refine iv ?_;have hq:=ee hk;clear hk;obtain ⟨r34,hr34,hk⟩:=hq;refine cW (cN rfl rfl rfl (fun w hw=>zcE _ w (hw.fr (i:=2) rfl) p vp_0 cp_0 hp_0 vp_1 hp_1 vp_2 hp_2 vp_3 hp_3 x_ vx__0 hx__0 vx__1 cx__1 hx__1 (htab.keptF hw) fuel hfu r34 hr34)) ?_;refine mi ?_;exact cS (decide (¬r34=0)) hk (.c (.c (.c (.c (.c .nil))))) (List.Sublist.refl _)
 ·rintro x_1 hk;rw [←hk2] at hk; (try dsimp only at hk);refine T.cond rfl (fun h6=>?_) (fun h6=>?_)
  ·replace hk:=dt hk h6;refine T.seq ?_;have hq:=ee hk;clear hk;obtain ⟨r37,hr37,hk⟩:=hq; (try dsimp only at hk);refine fN ?_;refine cW (cN rfl rfl rfl (fun w hw=>zfJ _ w (hw.fr (i:=2) rfl) (htab.keptF hw) fuel hfu r37 hr37)) ?_;refine jn ?_;refine kB ?_;obtain rfl:=Option.some.inj hk;exact eh
  ·replace hk:=dr hk h6;refine i7 ?_;refine df ?_;refine TL.slNil 3 1 ?_;refine i5 ?_;refine dB ?_;have hq:=ek hk;clear hk;obtain ⟨k8,hk8,hk⟩:=hq; (try dsimp only at hk);refine da (ι:=List Int×Value) (fun z=>[(2,vl),(4, .pointer (some ⟨g4,0,none⟩)),(5, .pointer (some ⟨g5,0,none⟩)),(9,z.2)]) (fun z=>[.sl z.2 3 1 z.1.length (z.1.flatMap eI), .row g5 33 [vx__0,vx__1], .row g4 29 [vp_0,vp_1,vp_2,vp_3], .fr F1]) (fun z=>k8 z.1=some r∧OneC z.2) ?_ ?_
   ·have hq:=fB hk;clear hk;obtain ⟨f10,kk10,hf10,hkk10,hk⟩:=hq;refine fj ?_;refine T.loop (ι:=Nat×List Int×Value) (fun z=>[(2,vl),(3,vfurther),(4, .pointer (some ⟨g4,0,none⟩)),(5, .pointer (some ⟨g5,0,none⟩)),(9,z.2.2),(10, .int .i64 (z.1:Int))]) (fun z=>[.sl z.2.2 3 1 z.2.1.length (z.2.1.flatMap eI), .row g5 33 [vx__0,vx__1], .row g4 29 [vp_0,vp_1,vp_2,vp_3], .fr F1]) (fun z=>c8 f10 kk10 (512 - z.1) z.1 z.2.1=some r∧OneC z.2.2) (fun z=>512 - z.1) (0,[],(.slice none 0 0)) ?_ ?_ ?_ ?_
    ·exact q4B
    ·exact (.c (.c (.c (.c (.c (.c .nil))))))
    ·exact eW
    ·rintro ⟨n_11,stations_9,vstations_9⟩ ⟨hk,ostations_9⟩; (try dsimp only at *);refine lE ?_;refine jB ?_;refine T.cond rfl (fun h12=>?_) (fun h12=>?_)
     ·have p12:=of_decide_eq_true h12;rw [fx a5] at hk;generalize hn10:c8 f10 kk10 (512 - (n_11+1)) (n_11+1)=next10 at hk;rw [←hf10] at hk; (try dsimp only at hk);refine jQ ?_;refine da (ι:=Unit) (fun z=>[(2,vl),(3,vfurther),(4, .pointer (some ⟨g4,0,none⟩)),(5, .pointer (some ⟨g5,0,none⟩)),(9,vstations_9),(10, .int .i64 (n_11:Int)),(56, .bool ((dT x_.Stations (n_11:Int))||((dT further (n_11:Int))&&(decide (0≤(ij p (n_11:Int)))))))]) (fun z=>[.sl vstations_9 3 1 stations_9.length (stations_9.flatMap eI), .row g5 33 [vx__0,vx__1], .row g4 29 [vp_0,vp_1,vp_2,vp_3], .fr F1]) (fun z=>True) ?_ ?_
      ·refine fN ?_;refine jZ ?_;refine df ?_;refine cW (cN rfl rfl rfl (fun w hw=>zbH _ w (hw.fr (i:=3) rfl) x_.Stations vx__0 hx__0 (n_11:Int))) ?_;refine jn ?_;refine dl rfl rfl rfl (fun h13=>?_) (fun h13=>?_)
       ·refine TL.run 10 rfl ?_;refine ff ?_;exact cS () trivial (.c (.c (.c (.c (.c (.c (.b (jl h13).symm .nil))))))) (List.Sublist.refl _)
       ·refine eg ?_;refine cW (cN rfl rfl rfl (fun w hw=>zbH _ w (hw.fr (i:=3) rfl) further vfurther hfurther (n_11:Int))) ?_;refine jn ?_;refine dl rfl rfl rfl (fun h14=>?_) (fun h14=>?_)
        ·refine cM (d7 2) ?_;refine df ?_;refine cW (cN rfl rfl rfl (fun w hw=>zbZ _ w (hw.fr (i:=3) rfl) p vp_0 cp_0 hp_0 vp_1 hp_1 vp_2 hp_2 vp_3 hp_3 (n_11:Int))) ?_;refine eX ?_;refine eR ?_;refine ff ?_;exact cS () trivial (.c (.c (.c (.c (.c (.c (.b (Eq.trans (kw h14) (io h13)) .nil))))))) (List.Sublist.refl _)
        ·refine TL.run 6 rfl ?_;refine ff ?_;exact cS () trivial (.c (.c (.c (.c (.c (.c (.b (jR h13 (fY h14)).symm .nil))))))) (List.Sublist.refl _)
      ·rintro _ _;refine T.cond rfl (fun h15=>?_) (fun h15=>?_)
       ·replace hk:=dt hk h15;have hq:(dn (stations_9++[(n_11:Int)]).length 8)∧_:=gg hk;clear hk;obtain ⟨g60,hk⟩:=hq; (try dsimp only at hk);refine ji ?_;refine jW ?_;rintro _ _ ⟨g59,rfl,rfl⟩;refine cW (fM 1 0 rfl rfl rfl rfl rfl rfl (kS (ys:=[(n_11:Int)])) (ni (enc:=eI) (xs:=stations_9) (ys:=[(n_11:Int)])) g60 a6) ?_;rintro v60 _ ⟨hv60,rfl⟩;refine df ?_;refine q2H ?_;rw [←hn10] at hk;refine K.pick [1,2,3,4] rfl a6 ?_;exact K.next ((n_11+1),(stations_9++[(n_11:Int)]),v60) ⟨hk,inferInstance⟩ a9 (.c (.c (.c (.c (.c (.c .nil)))))) (List.Sublist.refl _)
       ·replace hk:=dr hk h15;refine gY ?_;rw [←hn10] at hk;exact K.next ((n_11+1),stations_9,vstations_9) ⟨hk,inferInstance⟩ a9 (.c (.c (.c (.c (.c (.c .nil)))))) (List.Sublist.refl _)
     ·have p12:=of_decide_eq_false h12;rw [fw a5,←hkk10] at hk; (try dsimp only at hk);refine eE ?_;exact cS (stations_9,vstations_9) ⟨hk,inferInstance⟩ (.c (.c (.c (.c .nil)))) (List.Sublist.refl _)
   ·rintro ⟨stations_7,vstations_7⟩ ⟨hk,ostations_7⟩; (try dsimp only at *);rw [←hk8] at hk; (try dsimp only at hk);refine T.seq ?_;refine mA (fun w hw=>hw.freezeS (i:=3) (j:=0) a6 rfl rfl) ?_;rintro F2 ⟨le1_2,hz2⟩;refine iX ?_;have hf2:=hz2.toF rfl (fun _=>rfl);haveI:=hf2.oneC;have hq:=ee hk;clear hk;obtain ⟨r64,hr64,hk⟩:=hq; (try dsimp only at hk);refine nb ?_;refine df ?_;refine cW (d4 2 rfl rfl rfl rfl (fun w hw hF=>zgs _ w hF p vp_0 cp_0 (SlD.mono (rep:=cL) (fun _ _ _ _=>GDomain.mono) hp_0 le1_2) vp_1 (SlC.mono hp_1 le1_2) vp_2 (SlC.mono hp_2 le1_2) vp_3 (SlC.mono hp_3 le1_2) stations_7 vstations_7 hf2 r64 hr64)) ?_;rintro _ _ ⟨⟨v64_0_0,cs64_0_0,v64_0_1,v64_0_2,v64_0_3⟩,F3,le2_3,⟨hf64_0_0,hf64_0_1,hf64_0_2,hf64_0_3⟩,rfl,rfl⟩;dsimp only at hf64_0_0 hf64_0_1 hf64_0_2 hf64_0_3 ⊢;have le1_3:=le1_2.trans le2_3;haveI:=hf64_0_0.1.oneC;haveI:=hf64_0_1.oneC;haveI:=hf64_0_2.oneC;haveI:=hf64_0_3.oneC;refine eR ?_;refine gV ?_;rintro _ _ ⟨g11,rfl,rfl⟩;refine j5 ?_;refine df ?_;refine kF ?_; (try dsimp only at hk);have hq:=ek hk;clear hk;obtain ⟨k17,hk17,hk⟩:=hq; (try dsimp only at hk);refine da (ι:=Bool×FzB w (fun _=>False) S0) (fun z=>[(4, .pointer (some ⟨g4,0,none⟩)),(5, .pointer (some ⟨g5,0,none⟩)),(91, .bool z.1)]) (fun z=>[.row g5 33 [vx__0,vx__1], .row g4 29 [vp_0,vp_1,vp_2,vp_3], .fr z.2]) (fun z=>k17 z.1=some r∧F3.toFrz.Le z.2.toFrz) ?_ ?_
    ·refine dM (sN 0 5 (.eff 5 (sN 6 5 (.eff 11 (sN 12 4 (.eff 16 (sN 17 5 (.eff 22 (.eff 23 (.still 24 .done)))))))))) _ a7 (List.Sublist.refl _) ?_;refine gv ?_;refine dA rfl rfl rfl rfl (fun h18=>?_) (fun h18=>?_)
     ·have p18:=of_decide_eq_true h18;replace hk:=dt hk h18;refine gQ ?_;refine jv ?_;refine TS.run 5 rfl ?_;refine jv ?_;refine TS.run 4 rfl ?_;refine q3F ?_;exact q4y
     ·have p18:=of_decide_eq_false h18;replace hk:=dr hk h18;refine kJ ?_;refine q3G ?_;refine dD ?_;have hq:=ee hk;clear hk;obtain ⟨r72,hr72,hk⟩:=hq;refine c6 rfl (Wt.some) rfl rfl (cN rfl rfl rfl (fun w hw=>zcE _ w (hw.fr (i:=3) rfl) r64.1 v64_0_0 cs64_0_0 hf64_0_0 v64_0_1 hf64_0_1 v64_0_2 hf64_0_2 v64_0_3 hf64_0_3 x_ vx__0 (SlC.mono hx__0 le1_3) vx__1 cx__1 (SlD.mono (rep:=cJ) (fun _ _ _ _=>R_List_GChoice.mono) hx__1 le1_3) (htab.keptF hw) fuel hfu r72 hr72)) ?_;refine jL ?_;refine gv ?_;refine dA rfl rfl rfl rfl (fun h19=>?_) (fun h19=>?_)
      ·have p19:=of_decide_eq_true h19;replace hk:=dt hk h19;refine gQ ?_;refine jv ?_;refine TS.run 4 rfl ?_;refine q3F ?_;exact q4y
      ·have p19:=of_decide_eq_false h19;replace hk:=dr hk h19;refine cT rfl (d7 2) ?_;refine fF ?_;refine dD ?_;refine c6 rfl (Wt.some) rfl rfl (cN rfl rfl rfl (fun w hw=>zeq _ w (hw.fr (i:=3) rfl) p vp_0 cp_0 (SlD.mono (rep:=cL) (fun _ _ _ _=>GDomain.mono) hp_0 le1_3) vp_1 (SlC.mono hp_1 le1_3) vp_2 (SlC.mono hp_2 le1_3) vp_3 (SlC.mono hp_3 le1_3) l vl (SlC.mono hl le1_3))) ?_;refine ms ?_;refine dA rfl rfl rfl rfl (fun h20=>?_) (fun h20=>?_)
       ·replace hk:=dt hk h20;refine gQ ?_;refine q3F ?_;exact q4y
       ·replace hk:=dr hk h20;refine kJ ?_;refine fF ?_;refine dD ?_;refine c6 rfl (Wt.some) rfl rfl (cN rfl rfl rfl (fun w hw=>zeq _ w (hw.fr (i:=3) rfl) r64.1 v64_0_0 cs64_0_0 hf64_0_0 v64_0_1 hf64_0_1 v64_0_2 hf64_0_2 v64_0_3 hf64_0_3 l vl (SlC.mono hl le1_3))) ?_;refine ms ?_;refine dA rfl rfl rfl rfl (fun h21=>?_) (fun h21=>?_)
        ·replace hk:=dt hk h21;refine gv ?_;refine jv ?_;refine jv ?_;refine q1d ?_;refine q2h ?_;exact q4y
        ·replace hk:=dr hk h21;refine kJ ?_;refine gQ ?_;refine dD ?_;have hq:=ee hk;clear hk;obtain ⟨r89,hr89,hk⟩:=hq;refine c6 rfl (Wt.some) rfl rfl (d4 3 rfl rfl rfl rfl (fun w hw hF=>zi6 _ w hF l vl (SlC.mono hl le1_3) stations_7 vstations_7 (SlC.mono hf2 le2_3) r89 hr89)) ?_;rintro _ _ ⟨v89_0_0,F5,le3_5,hf89_0_0,hq,rfl⟩;obtain rfl:=hq.symm;haveI:=hf89_0_0.oneC;refine ⟨(fun w hw=>(hw.frLe (i:=3) rfl le3_5).sub Sx),?_⟩;refine dD ?_;refine c6 rfl (Wt.some) rfl rfl (cN rfl rfl rfl (fun w hw=>zeq _ w (hw.fr (i:=3) rfl) r64.1 v64_0_0 cs64_0_0 (SlD.mono (rep:=cL) (fun _ _ _ _=>GDomain.mono) hf64_0_0 le3_5) v64_0_1 (SlC.mono hf64_0_1 le3_5) v64_0_2 (SlC.mono hf64_0_2 le3_5) v64_0_3 (SlC.mono hf64_0_3 le3_5) r89 v89_0_0 hf89_0_0)) ?_;refine eX ?_;refine ⟨(fun w hw=>(hw.frLe (i:=3) rfl le3_5).sub Sx),?_⟩;refine q1d ?_;refine q2h ?_;exact cS ((lI r64.1 r89),F5) ⟨hk,le3_5⟩ (.c (.c (.c .nil))) (List.Sublist.refl _)
    ·rintro ⟨x_16,F4⟩ ⟨hk,le3_4⟩; (try dsimp only at *);rw [←hk17] at hk; (try dsimp only at hk);have le1_4:=le1_3.trans le3_4;refine T.cond rfl (fun h22=>?_) (fun h22=>?_)
     ·replace hk:=dt hk h22;refine iN ?_;obtain rfl:=Option.some.inj hk;exact eh
     ·replace hk:=dr hk h22;refine jM ?_;have hq:=ee hk;clear hk;obtain ⟨r95,hr95,hk⟩:=hq; (try dsimp only at hk);refine nb ?_;refine iv ?_;refine cW (d4 2 rfl rfl rfl rfl (fun w hw hF=>zep _ w hF p vp_0 cp_0 (SlD.mono (rep:=cL) (fun _ _ _ _=>GDomain.mono) hp_0 le1_4) vp_1 (SlC.mono hp_1 le1_4) vp_2 (SlC.mono hp_2 le1_4) vp_3 (SlC.mono hp_3 le1_4) x_ vx__0 (SlC.mono hx__0 le1_4) vx__1 cx__1 (SlD.mono (rep:=cJ) (fun _ _ _ _=>R_List_GChoice.mono) hx__1 le1_4) (htab.keptF hw) fuel hfu r95 hr95)) ?_;rintro _ _ ⟨⟨v95_0_0,v95_0_1,cs95_0_1⟩,F6,le4_6,⟨hf95_0_0,hf95_0_1⟩,rfl,rfl⟩;dsimp only at hf95_0_0 hf95_0_1 ⊢;have le1_6:=le1_4.trans le4_6;haveI:=hf95_0_0.oneC;haveI:=hf95_0_1.1.oneC;refine eR ?_;refine gV ?_;rintro _ _ ⟨g13,rfl,rfl⟩;refine j5 ?_;refine kq ?_;have hq:=ee hk;clear hk;obtain ⟨r101,hr101,hk⟩:=hq; (try dsimp only at hk);refine fN ?_;refine cM (d7 2) ?_;refine iv ?_;refine cW (d4 3 rfl rfl rfl rfl (fun w hw hF=>zep _ w hF p vp_0 cp_0 (SlD.mono (rep:=cL) (fun _ _ _ _=>GDomain.mono) hp_0 le1_6) vp_1 (SlC.mono hp_1 le1_6) vp_2 (SlC.mono hp_2 le1_6) vp_3 (SlC.mono hp_3 le1_6) r95.1 v95_0_0 hf95_0_0 v95_0_1 cs95_0_1 hf95_0_1 (htab.keptF hw) fuel hfu r101 hr101)) ?_;rintro _ _ ⟨⟨v101_0_0,v101_0_1,cs101_0_1⟩,F7,le6_7,⟨hf101_0_0,hf101_0_1⟩,rfl,rfl⟩;dsimp only at hf101_0_0 hf101_0_1 ⊢;have le1_7:=le1_6.trans le6_7;haveI:=hf101_0_0.oneC;haveI:=hf101_0_1.1.oneC;refine eR ?_;refine gV ?_;rintro _ _ ⟨g15,rfl,rfl⟩;refine j5 ?_;refine kq ?_; (try dsimp only at hk);have hq:=ek hk;clear hk;obtain ⟨k24,hk24,hk⟩:=hq; (try dsimp only at hk);refine da (ι:=Bool) (fun z=>[(8, .bool z)]) (fun z=>[.fr F7]) (fun z=>k24 z=some r) ?_ ?_
      ·refine m7 ?_;refine dl rfl rfl rfl (fun h25=>?_) (fun h25=>?_)
       ·have p25:=of_decide_eq_true h25;replace hk:=dt hk h25;refine lC ?_;refine dl rfl rfl rfl (fun h26=>?_) (fun h26=>?_)
        ·have p26:=of_decide_eq_true h26;replace hk:=dt hk h26;refine cM (d7 3) ?_;refine q1B ?_;have hq:=ee hk;clear hk;obtain ⟨r113,hr113,hk⟩:=hq;refine cW (cN rfl rfl rfl (fun w hw=>zcE _ w (hw.fr (i:=4) rfl) p vp_0 cp_0 (SlD.mono (rep:=cL) (fun _ _ _ _=>GDomain.mono) hp_0 le1_7) vp_1 (SlC.mono hp_1 le1_7) vp_2 (SlC.mono hp_2 le1_7) vp_3 (SlC.mono hp_3 le1_7) r95.1 v95_0_0 (SlC.mono hf95_0_0 le6_7) v95_0_1 cs95_0_1 (SlD.mono (rep:=cJ) (fun _ _ _ _=>R_List_GChoice.mono) hf95_0_1 le6_7) (htab.keptF hw) fuel hfu r113 hr113)) ?_;refine eX ?_;refine eR ?_;refine dl rfl rfl rfl (fun h27=>?_) (fun h27=>?_)
         ·have p27:=of_decide_eq_true h27;replace hk:=dt hk h27;refine q1B ?_;refine iv ?_;refine cW (cN rfl rfl rfl (fun w hw=>zgh _ w (hw.fr (i:=4) rfl) r95.1 v95_0_0 (SlC.mono hf95_0_0 le6_7) v95_0_1 cs95_0_1 (SlD.mono (rep:=cJ) (fun _ _ _ _=>R_List_GChoice.mono) hf95_0_1 le6_7) r101.1 v101_0_0 hf101_0_0 v101_0_1 cs101_0_1 hf101_0_1)) ?_;refine eX ?_;refine eg ?_;refine dl rfl rfl rfl (fun h28=>?_) (fun h28=>?_)
          ·replace hk:=dt hk h28;refine jZ ?_;refine cM (dg rfl rfl (SlD.mono (rep:=cJ) (fun _ _ _ _=>R_List_GChoice.mono) hf95_0_1 le6_7).1 (SlD.mono (rep:=cJ) (fun _ _ _ _=>R_List_GChoice.mono) hf95_0_1 le6_7).2.1) ?_;have hm124:r95.1.Lemmas.length≤9223372036854775807:=(SlD.mono (rep:=cJ) (fun _ _ _ _=>R_List_GChoice.mono) hf95_0_1 le6_7).2.1▸(SlD.mono (rep:=cJ) (fun _ _ _ _=>R_List_GChoice.mono) hf95_0_1 le6_7).1.max;refine mR ?_;refine cM (dg rfl rfl (SlD.mono (rep:=cJ) (fun _ _ _ _=>R_List_GChoice.mono) hx__1 le1_7).1 (SlD.mono (rep:=cJ) (fun _ _ _ _=>R_List_GChoice.mono) hx__1 le1_7).2.1) ?_;have hm127:x_.Lemmas.length≤9223372036854775807:=(SlD.mono (rep:=cJ) (fun _ _ _ _=>R_List_GChoice.mono) hx__1 le1_7).2.1▸(SlD.mono (rep:=cJ) (fun _ _ _ _=>R_List_GChoice.mono) hx__1 le1_7).1.max;refine eR ?_;refine dl rfl rfl rfl (fun h29=>?_) (fun h29=>?_)
           ·have p29:=of_decide_eq_true h29;replace hk:=dt hk h29;have hq:=ee hk;clear hk;obtain ⟨r131,hr131,hk⟩:=hq;refine cW (cN rfl rfl rfl (fun w hw=>zfJ _ w (hw.fr (i:=4) rfl) (htab.keptF hw) fuel hfu r131 hr131)) ?_;refine mi ?_;refine K.pick [4] rfl a6 ?_;exact cS r131 hk (.c .nil) (List.Sublist.refl _)
           ·have p29:=of_decide_eq_false h29;replace hk:=dr hk h29;refine eR ?_;refine q3P ?_;exact q4A
          ·replace hk:=dr hk h28;refine TL.run 12 rfl ?_;refine q3P ?_;exact q4A
         ·have p27:=of_decide_eq_false h27;replace hk:=dr hk h27;refine TL.run 17 rfl ?_;refine q3P ?_;exact q4A
        ·have p26:=of_decide_eq_false h26;replace hk:=dr hk h26;refine TL.run 23 rfl ?_;refine q3P ?_;exact q4A
       ·have p25:=of_decide_eq_false h25;replace hk:=dr hk h25;refine TL.run 27 rfl ?_;refine q3P ?_;exact q4A
      ·rintro x_23 hk;rw [←hk24] at hk; (try dsimp only at hk);refine T.ret ?_;obtain rfl:=Option.some.inj hk;exact eh
section
variable {p q:GProblem}{x:GProof}{fuel:Nat}{a l:List GChoice}
theorem zhE (hG:GG q)(hF:FineP q a):∀ {L S:List (List GChoice)},AllN q S L→(∀g∈S,jt q g=true)→(∀g∈S,¬ ∀c∈g,c∈a)→∀g∈L,¬ ∀c∈g,c∈a
 | [],_,_,_,_,g,hg=>by cases hg
 |h :: L,S,hA,hok,hv,g,hg=>by
  have h1:¬ ∀c∈h,c∈a:=fun hall=>hA.1.2 _ (zki hG hF hok hv (ziO hG hF)) (zon hF hall (zmB hF));rcases List.mem_cons.1 hg with rfl|hg
  ·exact h1
  ·refine zhE hG hF hA.2 (fun y hy=>?_) (fun y hy=>?_) g hg
   ·rcases List.mem_append.1 hy with hy|hy
    ·exact hok y hy
    ·simp at hy;rw [hy];exact hA.1.1
   ·rcases List.mem_append.1 hy with hy|hy
    ·exact hv y hy
    ·simp at hy;rw [hy];exact h1
theorem zk0 {st:List Int}(hok:gW p=true)(h:FineP p l):FineP (gZ p st) (zfp l st):=by
 have h1:=lU.2 h;unfold lI at h1; (have hv:kx l=true:=by rw [zes,←zeH];exact eN h1);have h2:=kQ.1 (of_decide_eq_true (eN (fk h1)));have h3:=zmL (st:=st) (by rw [zfT];exact hok) h2;have h4:=kQ.2 h3;have h5:kx (zfp l st)=true:=zom (zpj (vl_of hv) (by rw [zgy];exact List.filter_sublist));refine lU.1 ?_;unfold lI;rw [h4,zeH,←zes,h5];rfl
theorem zlY (hok:gW p=true)(h:dZ p x=0):lI p a=false:=by
 cases hf:lI p a with
 |false=>rfl
 |true=>
  have hF:=lU.1 hf;obtain ⟨_,hx,_,hA⟩:=gm.1 h;obtain ⟨M,e,_⟩:=zkF hx;have hq:=zeP (st:=x.Stations) hok;exact absurd (fun c hc=>by cases hc) (zhE (zmF hq) (zk0 hok hF) hA (fun _ h=>by cases h) (fun _ h=>by cases h) [] (by rw [e];simp))
theorem zeL {g:List GChoice}{R B:List (List GChoice)}:fJ q (g :: R) B=if dS q R.reverse B=B.length then fJ q R B else fJ q R (g :: B):=rfl
theorem zgL:∀(R B:List (List GChoice)),∃Z,Z.Sublist R.reverse∧fJ q R B=Z++B
 | [],B=>⟨[],List.Sublist.refl _,rfl⟩
 |g :: R,B=>by
  rw [zeL,List.reverse_cons]
  split
  ·obtain ⟨Z,h1,h2⟩:=zgL R B;exact ⟨Z,h1.trans (List.sublist_append_left _ _),h2⟩
  ·obtain ⟨Z,h1,h2⟩:=zgL R (g :: B);exact ⟨Z++[g],h1.append (List.Sublist.refl _),by rw [h2,List.append_assoc];rfl⟩
theorem zgN:∀(R B:List (List GChoice)),AllN q [] (R.reverse++B)→AllN q [] (fJ q R B)
 | [],B,h=>h
 |g :: R,B,h=>by
  rw [List.reverse_cons,List.append_assoc] at h;rw [zeL]
  split
  ·rename_i h1;refine zgN R B (iZ.2 ⟨(iZ.1 h).1,?_⟩);rw [List.nil_append];exact (zcw _ _).1 h1
  ·exact zgN R (g :: B) h
theorem zfP:∀(R B Z:List (List GChoice)),fJ q R B=Z++B→fJ q Z.reverse B=Z++B
 | [],B,Z,h=>by
  have h1:=congrArg List.length (show B=Z++B from h);rw [List.length_append] at h1;obtain rfl:Z=[]:=List.eq_nil_of_length_eq_zero a5
  rfl
 |g :: R,B,Z,h=>by
  rw [zeL] at h;by_cases h1:dS q R.reverse B=B.length
  ·rw [if_pos h1] at h;exact zfP R B Z h
  ·rw [if_neg h1] at h;obtain ⟨Z',h2,h3⟩:=zgL (q:=q) R (g :: B)
   have h4:Z=Z'++[g]:=by
    (have:Z++B=(Z'++[g])++B:=by rw [←h,h3,List.append_assoc];rfl);exact List.append_cancel_right this
   subst h4;rw [List.reverse_append]
   show fJ q (g :: Z'.reverse) B=_
   rw [zeL,List.reverse_reverse];have h5:¬dS q Z' B=B.length:=fun h6=>h1 ((zcw _ _).2 (((zcw _ _).1 h6).mono fun y hy=>h2.subset hy));rw [if_neg h5,zfP R (g :: B) Z' h3,List.append_assoc];rfl
theorem zoy (h:dZ p x=0):∃Z,kd p x=(⟨x.Stations,Z++[[]]⟩,0)∧Z.Sublist x.Lemmas∧(Z++[[]]).length≤x.Lemmas.length∧dZ p ⟨x.Stations,Z++[[]]⟩=0∧kd p ⟨x.Stations,Z++[[]]⟩=(⟨x.Stations,Z++[[]]⟩,0):=by
 obtain ⟨hok,hx,ha,hA⟩:=gm.1 h;obtain ⟨M,e,hM⟩:=zkF hx; (have hdl:x.Lemmas.dropLast=M:=by rw [e,List.dropLast_concat]);obtain ⟨Z,h1,h2⟩:=zgL (q:=gZ p x.Stations) M.reverse [[]];rw [List.reverse_reverse] at h1
 have hy:dZ p ⟨x.Stations,Z++[[]]⟩=0:=gm.2 ⟨hok,zpP (hM.sub h1),ha,by
  dsimp only;rw [←h2];refine zgN _ _ ?_
  rw [List.reverse_reverse,←e];exact hA⟩
 refine ⟨Z,?_,?_,?_,hy,?_⟩
 ·unfold kd;rw [if_pos h,hdl,h2]
 ·rw [e];exact h1.trans (List.sublist_append_left _ _)
 ·rw [e,List.length_append,List.length_append];have:=h1.length_le;omega
 ·unfold kd;rw [if_pos hy];dsimp only;rw [List.dropLast_concat,zfP _ _ _ h2]
theorem zd9 {σ ρ:Type}{k:σ→ρ}{e:(σ→ρ)→ρ}{post:ρ→Prop}(P:σ→Prop)(hk:∀s,P s→post (k s))(he:∀k',(∀s,P s→post (k' s))→post (e k')):post (dJ k e):=he k hk
theorem zjn (hf:100000≤fuel)(p:GProblem)(x:GProof)(l:List GChoice)(further:List Int):zca fuel p x l further=some true:=by
 have hkn:=zmM hf;unfold zca;generalize hN:512 - 0=N;obtain ⟨b,hb,hsz⟩:=zmT hf p x;rw [hb,Option.bind_some];refine zd9 (σ:=Bool) (post:=fun o=>o=some true) (fun c=>c=false→b=true∧dZ p x=0∧¬20<(l.length:Int)) (fun c hc=>?_) (fun k2 hk2=>?_)
 ·cases c with
  |true=>rw [cond_true,hkn];rfl
  |false=>
   obtain ⟨hbt,hc,hl⟩:=hc rfl;obtain ⟨z1,z2,z3⟩:=hsz hbt; (have hs:∀g∈x.Lemmas,g.length≤1000:=fun g hg=>by have:=z3 g hg;omega);obtain ⟨hok,hx,ha,hA⟩:=gm.1 hc;rw [cond_false];refine zd9 (σ:=List Int) (post:=fun o=>o=some true) (fun T=>T.length≤N∧T.Pairwise (· < ·)∧∀n:Int,n∈T↔(0≤n∧n<(N:Int)∧(dT x.Stations n||(dT further n&&decide (0≤ij p n)))=true)) (fun T hT=>?_) (fun k8 hk8=>?_)
   ·obtain ⟨hT1,hT2,hT3⟩:=hT
    have hTs:kI T=true:=by
     refine jm (List.all_eq_true.2 fun n hn=>?_) ((zjK (lt:=fun a b:Int=>decide (a<b)) (fun a b c h1 h2=>by rw [decide_eq_true_eq] at *;omega)).2 (hT2.imp fun h=>decide_eq_true h));have:=(hT3 n).1 hn;exact jm (decide_eq_true this.1) (decide_eq_true (by have:=this.2.1;omega))
    have hS:∀n,fq x.Stations n=true→fq T n=true:=fun n hn=>by
     have h1:=zhI (zox hx) n (gw.1 hn);refine gw.2 ((hT3 n).2 ⟨h1.1,by omega,?_⟩);have:dT x.Stations n=true:=hn;rw [this];rfl
    have hTa:T.all (dG p)=true:=List.all_eq_true.2 fun n hn=>by
     have:=((hT3 n).1 hn).2.2;rcases (Bool.or_eq_true _ _).mp this with h1|h1
     ·exact List.all_eq_true.1 ha n (gw.1 h1)
     ·have h2:=of_decide_eq_true (fk h1);have h3:=zel (p:=p) (s:=n);rw [decide_eq_false (show ¬ij p n<0 by omega)] at h3
      cases h4:dG p n with
      |true=>rfl
      |false=>rw [h4] at h3;cases h3
    (have hR:zju p T=(gZ p T,0):=by unfold zju;rw [zfT,hok,hTs,hTa];rfl); (have hcT:dZ (gZ p T) x=0:=by rw [zjM hok hS];exact hc);obtain ⟨Z,t1,t2,t5,t3,t4⟩:=zoy hc;have f1:lI p l=false:=zlY hok hc;have f2:∀a,lI (gZ p T) a=false:=fun a=>zlY (zeP hok) hcT
    have hsy:∀g∈Z++[[]],g.length≤1000:=fun g hg=>by
     rcases List.mem_append.1 hg with hg|hg
     ·exact hs g (t2.subset hg)
     ·simp at hg;rw [hg];simp
    have e1:=zn0 (p:=p) (x:=x) hf a5 a5 hs;have e2:=zn0 (p:=p) (x:=⟨x.Stations,Z++[[]]⟩) hf a9 a9 hsy;have e3:=zhb (p:=p) (x:=⟨x.Stations,Z++[[]]⟩) hf hsy;rw [zh2,Option.bind_some,hR];refine zd9 (σ:=Bool) (post:=fun o=>o=some true) (fun c=>c=false) (fun c hc=>?_) (fun k17 hk17=>?_)
    ·subst hc;rw [cond_false,e1,t1,Option.bind_some];dsimp only;rw [e2,t4,Option.bind_some];refine zd9 (σ:=Bool) (post:=fun o=>o=some true) (fun c=>c=true) (fun c hc=>by rw [hc]) (fun k24 hk24=>?_);dsimp only;rw [decide_eq_true (show (0:Int)=0 from rfl),cond_true,cond_true,e3,t3,Option.bind_some,decide_eq_true (show (0:Int)=0 from rfl),cond_true,zne,cond_true,decide_eq_true a5,cond_true,hkn,Option.bind_some];exact hk24 _ rfl
    ·dsimp only;rw [decide_eq_false (show ¬ ¬(0:Int)=0 by omega),cond_false,zhb hf hs,hcT,Option.bind_some,decide_eq_false (show ¬ ¬(0:Int)=0 by omega),cond_false,f1,cond_false,f2,cond_false,zml a5,Option.bind_some,f2];exact hk17 _ rfl
   ·refine nn (σ:=List Int) (fun i s=>s.length≤i∧s.Pairwise (· < ·)∧∀n:Int,n∈s↔(0≤n∧n<(i:Int)∧(dT x.Stations n||(dT further n&&decide (0≤ij p n)))=true)) (fun o=>o=some true) ⟨by simp,by simp,fun n=>⟨fun h=>(by cases h),fun h=>a5⟩⟩ (fun T hT=>hk8 T hT) (fun i s next hi hs2 hnx=>?_);obtain ⟨h1,h2,h3⟩:=hs2
    cases hq:(dT x.Stations (i:Int)||(dT further (i:Int)&&decide (0≤ij p (i:Int)))) with
    |true=>
     rw [cond_true,f7 b6];refine hnx _ ⟨by rw [List.length_append,List.length_singleton];omega,List.pairwise_append.2 ⟨h2,List.pairwise_singleton _ _,fun y hy z hz=>?_⟩,fun n=>?_⟩
     ·have:=(h3 y).1 hy;simp at hz;omega
     ·rw [List.mem_append,h3,List.mem_singleton];constructor
      ·rintro (⟨a1,a2,a3⟩|rfl)
       ·exact ⟨a1,by omega,a3⟩
       ·exact ⟨by omega,by omega,hq⟩
      ·rintro ⟨a1,a2,a3⟩;by_cases e:n=(i:Int)
       ·exact .inr e
       ·exact .inl ⟨a1,by omega,a3⟩
    |false=>
     rw [cond_false];refine hnx _ ⟨by omega,h2,fun n=>?_⟩;rw [h3];constructor
     ·rintro ⟨a1,a2,a3⟩;exact ⟨a1,by omega,a3⟩
     ·rintro ⟨a1,a2,a3⟩;by_cases e:n=(i:Int)
      ·rw [e,hq] at a3;cases a3
      ·exact ⟨a1,by omega,a3⟩
 ·have yes:=hk2 true (fun h=>by cases h)
  cases b with
  |false=>exact yes
  |true=>
   rw [Bool.not_true,cond_false];obtain ⟨z1,z2,z3⟩:=hsz rfl; (have hs:∀g∈x.Lemmas,g.length≤1000:=fun g hg=>by have:=z3 g hg;omega);by_cases hl:20<(l.length:Int)
   ·rw [decide_eq_true hl,cond_true];exact yes
   rw [decide_eq_false hl,cond_false];by_cases hfu:20<(further.length:Int)
   ·rw [decide_eq_true hfu,cond_true];exact yes
   rw [decide_eq_false hfu,cond_false,zhb hf hs,Option.bind_some];by_cases hc:dZ p x=0
   ·rw [decide_eq_false (fun h=>h hc)];exact hk2 _ (fun _=>⟨rfl,hc,hl⟩)
   ·rw [decide_eq_true hc];exact yes
end
end Go.Proofs.YtogbggmckmnlfaaGreatDoor
namespace Go.Proofs.YtogbggmckmnlfaaGreatDoor
open Go.RowKit Go.ChangeShapes Go.WideShapes Go.Deep
def Opens {H:Type}(enc:TypeId×Value→H)(w:World)(base:Nat)(spare:Nat→Bool)(held:Bool)(t:TypeId){α:Type}(R:List Value→α→Prop):Prop:=
 ∀fuel cs y,DataW.trod enc Tryz.prog w base spare held fuel t cs=some y→∃x,R cs x
section
variable {H:Type}{enc:TypeId×Value→H}{w:World}{base:Nat}{spare:Nat→Bool}{held:Bool}
theorem Opens.int {t:TypeId}(ht:Tryz.prog.underlying t=some (.int .i64)):Opens enc w base spare held t (fun cs (x:Int)=>cs=[.int .i64 x]):=fun fuel cs y h=>by
 obtain ⟨k,hk,_⟩:=DataW.trod_int ht h;exact ⟨k,hk⟩
theorem zpc {a:Addr}{v:Value}(h:w.cell? a=some v):Cb w a.block:=by
 unfold World.cell? at h
 split at h
 all_goals (first|exact ⟨_,_,_,by assumption⟩|simp at h|skip)
theorem Opens.any {t e : TypeId} {k : Nat} {α : Type} [Inhabited α] {R : List Value → α → Prop} (ht : Tryz.prog.underlying t = some (.slice e)) (hk : Tryz.prog.cellsOf e = k) (hpos : 0 < k) (ho : Opens enc w base spare held e R) :
    Opens enc w base spare held t (fun cs (l : List α) => ∃ v c, cs = [v] ∧ SlC (Frz.all w) v k c ∧ c.length = l.length ∧ ∀ i, i < l.length → R (cK c i) (cK l i)) := fun fuel cs y h => by
  rcases open_slice ht h with ⟨h0, _⟩ | ⟨a, len, cap, m, n, D, Pl, hcs, hb, hl, hm, hmm, _, hx⟩
  · exact ⟨[], _, [], h0, SlC.nil _ _, rfl, fun i hi => absurd hi (Nat.not_lt_zero i)⟩
  · subst hcs; (have hlm : len ≤ m := by rw [hmm]; split <;> omega)
    have each : ∀ i, i < m → ∃ x : List Value × α, x.1.length = k ∧ R x.1 x.2 ∧ ∀ j, j < k → w.cell? (a.add (i * k + j)) = x.1[j]? := fun i hi => by
      obtain ⟨cs', h1, h2⟩ := hx i hi; rw [hk] at h1; obtain ⟨_, hlen, hcell⟩ := World.cells?_some h1; obtain ⟨x, hR⟩ := ho _ _ _ h2; exact ⟨(cs', x), hlen, hR, fun j hj => by rw [← hcell j hj, add_add]⟩
    obtain ⟨X, hX⟩ := choose_lt each
    have hn : ∀ i, i < len → cK ((List.range len).map fun i => (X i).1) i = (X i).1 := fun i hi => by
      rw [dQ (by simpa using hi)]; simp
    have hn2 : ∀ i, i < len → cK ((List.range len).map fun i => (X i).2) i = (X i).2 := fun i hi => by
      rw [dQ (by simpa using hi)]; simp
    refine ⟨(List.range len).map fun i => (X i).2, _, (List.range len).map fun i => (X i).1, rfl, ⟨some a, cap, by simp, by simpa using hl, by unfold maxLen at hm; omega, fun c hc => ?_, fun hp => ?_⟩, by simp, fun i hi => ?_⟩
    · simp at hc; obtain ⟨i, hi, rfl⟩ := hc; exact (hX i a5).1
    · (have hp' : 0 < len := by simpa using hp); have c0 := (hX 0 a5).2.2 0 hpos; have hx0 := (hX 0 a5).1; rw [List.getElem?_eq_getElem a5] at c0; have hcb := zpc c0; have hs := World.cell?_spot c0; simp [Addr.add] at hs hcb; obtain ⟨b, off, sp⟩ := a; simp at hs hcb; subst hs; refine ⟨b, off, rfl, hcb, fun i hi j hj => ?_⟩; simp at hi; rw [hn i hi] at hj ⊢; have hxi := hX i a5; have := hxi.2.2 j a5;refine Eq.trans ?_ this
      show w.cell? _ = _
      rw [zd7, Nat.add_assoc]
    · simp at hi; rw [hn i hi, hn2 i hi]; exact (hX i a5).2.1
theorem e9 {t e : TypeId} {k : Nat} {α : Type} [Inhabited α] {en : α → List Value} (ht : Tryz.prog.underlying t = some (.slice e)) (hk : Tryz.prog.cellsOf e = k) (hpos : 0 < k) (ho : Opens enc w base spare held e (fun cs (x : α) => cs = en x)) :
    Opens enc w base spare held t (fun cs (l : List α) => ∃ v, cs = [v] ∧ SlC (Frz.all w) v k (l.map en)) := fun fuel cs y h => by
  obtain ⟨l, v, c, h1, h2, h3, h4⟩ := Opens.any ht hk hpos ho _ _ _ h;refine ⟨l, v, h1, ?_⟩
  have : c = l.map en := by
    apply List.ext_getElem (by simpa using h3); intro i hi hi2; rw [← dQ hi, h4 i a5, List.getElem_map, dQ a5]
  rw [← this]; exact h2
theorem Opens.bytes {t e : TypeId} (ht : Tryz.prog.underlying t = some (.slice e)) (he : Tryz.prog.underlying e = some (.int .u8)) (hk : Tryz.prog.cellsOf e = 1) :
    Opens enc w base spare held t (fun cs (l : List Int) => ∃ v, cs = [v] ∧ SlC (Frz.all w) v 1 (l.map (eK .u8)) ∧ ∀ x ∈ l, 0 ≤ x ∧ x ≤ 255) := fun fuel cs y h => by
  have ho : Opens enc w base spare held e (fun cs (x : Int) => cs = eK .u8 x ∧ (0 ≤ x ∧ x ≤ 255)) := fun fuel cs y h => by
    obtain ⟨k, h1, _, h2⟩ := DataW.trod_int he h;refine ⟨k, h1, ?_⟩; (have e1 : IntKind.u8.min = 0 := by decide); (have e2 : IntKind.u8.max = 255 := by decide); simp only [Lit.wf, e1, e2, Bool.and_eq_true, decide_eq_true_eq] at h2; exact h2
  obtain ⟨l, v, c, h1, h2, h3, h4⟩ := Opens.any ht hk a6 ho _ _ _ h; refine ⟨l, v, h1, ?_, fun x hx => ?_⟩
  · have : c = l.map (eK .u8) := by
      apply List.ext_getElem (by simpa using h3); intro i hi hi2; rw [← dQ hi, (h4 i a5).1, List.getElem_map, dQ a5]
    rw [← this]; exact h2
  · obtain ⟨i, hi, e⟩ := List.mem_iff_getElem.1 hx; have := (h4 i hi).2; rw [dQ hi, e] at this; exact this
theorem kb {t e : TypeId} {k : Nat} {α : Type} [Inhabited α] {rep : Frz → List Value → α → Prop} (ht : Tryz.prog.underlying t = some (.slice e)) (hk : Tryz.prog.cellsOf e = k) (hpos : 0 < k) (ho : Opens enc w base spare held e (rep (Frz.all w))) :
    Opens enc w base spare held t (fun cs (l : List α) => ∃ v c, cs = [v] ∧ SlD rep (Frz.all w) v k c l) := fun fuel cs y h => by
  obtain ⟨l, v, c, h1, h2, h3, h4⟩ := Opens.any ht hk hpos ho _ _ _ h; exact ⟨l, v, c, h1, h2, h3, h4⟩
end
end Go.Proofs.YtogbggmckmnlfaaGreatDoor
