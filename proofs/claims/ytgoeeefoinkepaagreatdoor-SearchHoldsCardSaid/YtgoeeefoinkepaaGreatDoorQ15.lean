/- Wn Bb Wp Bc Bd Wq Be Bf Y2 Bg Y3 Y4 Bh Of: shortened and put together by squeeze.py. -/
import Derived.Test.YtgoeeefoinkepaaGreatDoorQ14
import Derived.Deep.Slices
import Derived.ChangeArms
set_option maxRecDepth 100000
set_option maxHeartbeats 4000000
set_option linter.unusedVariables false
set_option linter.unusedSectionVars false
set_option linter.unusedSimpArgs false
namespace Go.Proofs.YtgoeeefoinkepaaGreatDoor
open Go.RowKit
structure SubP (p:GProblem) (d:List GDomain):Prop where
 sub:SubD d p.Domains
 ord:OrdD d p.Domains
section
variable {p:GProblem}{d:List GDomain}
theorem SubP.len (h:SubP p d):d.length=p.Domains.length:=h.sub.1
theorem SubP.inc (hG:GG p)(h:SubP p d){i j:Nat}(hi:i<d.length)(hj:j<d.length)(e:(cI d i).Station=(cI d j).Station):i=j:=by
 (have hi':i<p.Domains.length:=by rw [←h.len];exact hi); (have hj':j<p.Domains.length:=by rw [←h.len];exact hj);rw [(h.sub.2 i hi').1,(h.sub.2 j hj').1] at e;rcases Nat.lt_trichotomy i j with h1|h1|h1
 ·have:=hG.inc i j h1 hj';omega
 ·exact h1
 ·have:=hG.inc j i h1 hi';omega
theorem SubP.inj (hG:GG p)(h:SubP p d){x y:GDomain}(hx:x∈d)(hy:y∈d)(e:x.Station=y.Station):x=y:=by
 obtain ⟨i,hi,rfl⟩:=gp hx;obtain ⟨j,hj,rfl⟩:=gp hy;rw [h.inc hG hi hj e]
theorem SubP.st (hG:GG p)(h:SubP p d){x:GDomain}(hx:x∈d):0≤x.Station∧x.Station≤511:=by
 obtain ⟨i,hi,rfl⟩:=gp hx; (have hi':i<p.Domains.length:=by rw [←h.len];exact hi);rw [(h.sub.2 i hi').1];exact hG.st _ (eo hi')
theorem SubP.ch (hG:GG p)(h:SubP p d){x:GDomain}(hx:x∈d){c:Int}(hc:c∈x.Channels):2≤c∧c≤51:=by
 obtain ⟨i,hi,rfl⟩:=gp hx; (have hi':i<p.Domains.length:=by rw [←h.len];exact hi);exact (hG.chs _ (eo hi')).2 _ ((h.sub.2 i hi').2 c hc)
theorem SubP.has (h:SubP p d){s:Int}(hs:fY p s=true):∃x∈d,x.Station=s:=by
 obtain ⟨x,hx,rfl⟩:=eA.1 hs;obtain ⟨i,hi,rfl⟩:=gp hx;exact ⟨_,eo (by rw [h.len];exact hi),(h.sub.2 i hi).1⟩
theorem zff {s c:Int}(h:kr p s c=true):fY p s=true:=by
 obtain ⟨x,hx,e,_⟩:=ir.1 h;exact eA.2 ⟨x,hx,e⟩
def lm (d:List GDomain)(v:Vec 512 Int):Prop:=∀x∈d,Vec.get v x.Station.toNat=bif decide (x.Channels.length=1) then cI x.Channels 0 else 0
theorem im {c:GChoice}:c∈fq d↔∃x∈d,x.Channels.length=1∧c=⟨x.Station,cI x.Channels 0⟩:=by
 unfold fq;rw [List.mem_map];constructor
 ·rintro ⟨x,hx,rfl⟩;rw [List.mem_filter,decide_eq_true_eq] at hx;exact ⟨x,hx.1,hx.2,rfl⟩
 ·rintro ⟨x,hx,h1,rfl⟩;exact ⟨x,List.mem_filter.2 ⟨hx,decide_eq_true h1⟩,rfl⟩
theorem mv {α:Type}[Inhabited α]{l:List α}{i:Nat}(hi:i<l.length):l.take (i+1)=l.take i++[cI l i]:=by
 rw [List.take_succ_eq_append_getElem hi,d9 hi]
theorem zlY {m:List GDomain×Bool}(hG:GG p)(h:SubP p m.1)(h2:m.2=true):∃v,zbB p m=some v∧lm m.1 v:=by
 (have e1:gH m=fq m.1:=by unfold gH;rw [h2];rfl)
 have hin:∀c∈fq m.1,∀c'∈fq m.1,c.Station=c'.Station→c=c':=fun c hc c' hc' e=>by
  obtain ⟨x,hx,_,rfl⟩:=im.1 hc;obtain ⟨y,hy,_,rfl⟩:=im.1 hc';rw [h.inj hG hx hy e]
 have hst:∀c∈fq m.1,0≤c.Station∧c.Station≤511:=fun c hc=>by
  obtain ⟨x,hx,_,rfl⟩:=im.1 hc;exact h.st hG hx
 unfold zbB;simp only [dQ,Nat.sub_zero,e1];refine kv (fun k (v:Vec 512 Int)=>(∀c∈(fq m.1).take k,Vec.get v c.Station.toNat=c.Channel)∧∀n:Nat,n<512→(∀c∈(fq m.1).take k,c.Station≠(n:Int))→Vec.get v n=0) (fun o=>∃v:Vec 512 Int,o=some v∧lm m.1 v) ⟨fun c hc=>by simp at hc,fun n hn _=>iS hn⟩ (fun v hv=>⟨v,rfl,fun x hx=>?_⟩) (fun i v next hi hI hn=>?_)
 ·rw [List.take_of_length_le (Nat.le_refl _)] at hv;have hs:=h.st hG hx;by_cases hl:x.Channels.length=1
  ·rw [decide_eq_true hl,cond_true];exact hv.1 ⟨x.Station,cI x.Channels 0⟩ (im.2 ⟨x,hx,hl,rfl⟩)
  ·rw [decide_eq_false hl,cond_false];refine hv.2 _ a6 fun c hc e=>?_;obtain ⟨y,hy,h3,rfl⟩:=im.1 hc;have:y=x:=h.inj hG hy hx (by dsimp only at e;omega);rw [this] at h3;exact hl h3
 ·have hm:=eo hi;have hs:=hst _ hm;rw [fN a6];refine hn _ ⟨fun c hc=>?_,fun n h1 hc=>?_⟩
  ·rw [fZ a6];rw [mv hi,List.mem_append,List.mem_singleton] at hc;rcases hc with hc|rfl
   ·have h3:=hst c (List.mem_of_mem_take hc);by_cases e:c.Station.toNat=(cI (fq m.1) i).Station.toNat
    ·rw [if_pos e,hin c (List.mem_of_mem_take hc) _ hm a6]
    ·rw [if_neg e];exact hI.1 c hc
   ·rw [if_pos rfl]
  ·rw [fZ a6];rw [mv hi] at hc;have h3:=hc (cI (fq m.1) i) (List.mem_append.2 (.inr (List.mem_singleton.2 rfl)));rw [if_neg a6];exact hI.2 n h1 fun c h4=>hc c (List.mem_append.2 (.inl h4))
def jj (v:Vec 512 Int)(g:List GChoice):List GChoice:=g.filter fun c=> !decide (Vec.get v c.Station.toNat=c.Channel)
def ko (m:List GDomain×Bool)(v:Vec 512 Int)(g:List GChoice):GChoice×Bool:=match jj v g with
 | []=>(bif decide (0<(g.length:Int)) then cI g 0 else ⟨0,0⟩,true)
 | [c]=>(c,zgO m c)
 |_=>(⟨0,0⟩,false)
theorem zg4 {v:Vec 512 Int}{g:List GChoice}{c:GChoice}:jj v (g++[c])=jj v g++bif decide (¬Vec.get v c.Station.toNat=c.Channel) then [c] else []:=by
 unfold jj;rw [List.filter_append];by_cases h:Vec.get v c.Station.toNat=c.Channel
 ·simp [h]
 ·simp [h]
theorem zmX {m:List GDomain×Bool}{v:Vec 512 Int}{g:List GChoice}(hg:ValidL g):zcb p m v g=some (ko m v g):=by
 unfold zcb;refine ku ?_;refine kv (fun i (s:Int×Int×Int×Int×Int)=>(jj v (g.take i)=[]∧s.1=0∧s.2.2.2.1=0∧s.2.2.2.2=0)∨(jj v (g.take i)=[⟨s.2.2.2.1,s.2.2.2.2⟩]∧s.1=1)) (fun o=>o=some (ko m v g)) (.inl ⟨by simp [jj],rfl,rfl,rfl⟩) (fun s hs=>?_) (fun i s next hi hI hn=>?_)
 ·rw [List.take_of_length_le (Nat.le_refl _)] at hs;unfold ko;rcases hs with ⟨h1,h2,h3,h4⟩|⟨h1,h2⟩
  ·rw [h1]; (try dsimp only);rw [h2,h3,h4,decide_eq_true rfl,Bool.true_and,Bool.true_or]
   cases decide (0<(g.length:Int)) <;> rfl
  ·rw [h1]; (try dsimp only);rw [h2,show decide ((1:Int)=0)=false from rfl,Bool.false_and,Bool.false_or];rfl
 ·have h1:=hg.good _ (eo hi);rw [fN a6];by_cases e:Vec.get v (cI g i).Station.toNat=(cI g i).Channel
  ·(have e2:jj v (g.take (i+1))=jj v (g.take i):=by rw [mv hi,zg4,decide_eq_false (by simpa using e),cond_false,List.append_nil]);rw [decide_eq_false (by simpa using e),cond_false]; (try dsimp only);rw [decide_eq_false (by rcases hI with h|h <;> omega),cond_false];exact hn _ (by rw [e2];exact hI)
  ·(have e2:jj v (g.take (i+1))=jj v (g.take i)++[cI g i]:=by rw [mv hi,zg4,decide_eq_true e,cond_true]);rw [decide_eq_true e,cond_true]; (try dsimp only);rcases hI with ⟨h2,h3,h4,h5⟩|⟨h2,h3⟩
   ·rw [h3,show wI (0+1)=1 from rfl,show decide ((1:Int)<1)=false from rfl,cond_false];exact hn _ (.inr ⟨by rw [e2,h2];rfl,rfl⟩)
   ·rw [h3,show wI (1+1)=2 from rfl,show decide ((1:Int)<2)=true from rfl,cond_true];have h6:(jj v (g.take (i+1))).Sublist (jj v g):=(List.take_sublist _ _).filter _;rw [e2,h2] at h6;have h7:=h6.length_le;unfold ko
    match h8:jj v g with
    | []=>rw [h8] at h7;simp at h7
    | [c]=>rw [h8] at h7;simp at h7
    |_ :: _ :: _=>rfl
end
def gB (d:List GDomain)(g:List GChoice)(s c:Int):Bool:=(g.any fun x=>decide (x.Station=s)&&decide (x.Channel=c))&&g.all fun x=>decide (x.Station=s)||iQ d x.Station x.Channel
structure ClosedN (p:GProblem) (S:List (List GChoice)) (d:List GDomain):Prop where
 cl:ClosedD p d
 ne:∀g∈S,g≠[]
 calm:∀g∈S,∀x∈d,∀c∈x.Channels,gB d g x.Station c=false
section
variable {p:GProblem}{S:List (List GChoice)}{d e:List GDomain}{m:List GDomain×Bool}{v:Vec 512 Int}{g:List GChoice}
theorem zln {s c:Int}(hG:GG p)(hd:SubP p d){x:GDomain}(hx:x∈d)(hs:x.Station=s)(hl:x.Channels.length=1)(h0:cI x.Channels 0=c):iQ d s c=true:=by
 rw [eT];intro y hy e k hk;have:y=x:=hd.inj hG hy hx (by rw [e,hs]);subst this;obtain ⟨z,hz⟩:=List.length_eq_one_iff.1 hl;rw [hz] at hk h0;simp [cI] at hk h0;rw [hk,h0]
theorem ziy (hG:GG p)(hd:SubP p d)(hv:lm d v)(hg:ic p g=true){c:GChoice}(hc:c∈g)(h:Vec.get v c.Station.toNat=c.Channel):∃x∈d,x.Station=c.Station∧x.Channels.length=1∧cI x.Channels 0=c.Channel:=by
 obtain ⟨hl,hh⟩:=fw.1 hg;obtain ⟨x,hx,e⟩:=hd.has (zff (hh c hc));have h1:=hv x hx;have h2:=hl.good c hc;rw [e,h] at h1;by_cases h3:x.Channels.length=1
 ·rw [decide_eq_true h3,cond_true] at h1;exact ⟨x,hx,e,h3,h1.symm⟩
 ·rw [decide_eq_false h3,cond_false] at h1;omega
theorem zj9 {c:GChoice}(hc:c∈g)(h:c∉jj v g):Vec.get v c.Station.toNat=c.Channel:=by
 refine Decidable.byContradiction fun e=>h ?_;unfold jj;rw [List.mem_filter];exact ⟨hc,by simp [e]⟩
theorem lA {c:GChoice}:zgO m c=true↔m.2=true∧∃x∈m.1,x.Station=c.Station∧c.Channel∈x.Channels:=by
 unfold zgO;simp only [Bool.and_eq_true,List.any_eq_true,decide_eq_true_eq];constructor
 ·rintro ⟨h,x,hx,h1,k,hk,rfl⟩;exact ⟨h,x,hx,h1,hk⟩
 ·rintro ⟨h,x,hx,h1,hk⟩;exact ⟨h,x,hx,h1,_,hk,rfl⟩
theorem ziF (hG:GG p)(hd:SubP p m.1)(h2:m.2=true)(hv:lm m.1 v)(hg:ic p g=true)(h0:g≠[])(h:(ko m v g).2=true):(ko m v g).1∈g∧zgO m (ko m v g).1=true∧∀x∈g,x≠(ko m v g).1→iQ m.1 x.Station x.Channel=true:=by
 have hpos:0<g.length:=List.length_pos_iff.2 h0
 have only:∀x∈g,x∉jj v g→iQ m.1 x.Station x.Channel=true:=fun x hx hn=>by
  obtain ⟨y,hy,h3,h4,h5⟩:=ziy hG hd hv hg hx (zj9 hx hn);exact zln hG hd hy h3 h4 h5
 unfold ko at h ⊢
 match h8:jj v g with
 | []=>
  rw [h8] at h;dsimp only at h ⊢;rw [decide_eq_true a6,cond_true];refine ⟨eo hpos,?_,fun x hx _=>only x hx (by rw [h8];simp)⟩;obtain ⟨y,hy,h3,h4,h5⟩:=ziy hG hd hv hg (eo hpos) (zj9 (eo hpos) (by rw [h8];simp));obtain ⟨z,hz⟩:=List.length_eq_one_iff.1 h4;refine lA.2 ⟨h2,y,hy,h3,?_⟩;rw [←h5,hz];simp [cI]
 | [c]=>
  rw [h8] at h;dsimp only at h ⊢; (have hc:c∈jj v g:=by rw [h8];simp);refine ⟨(List.mem_filter.1 hc).1,h,fun x hx hne=>only x hx (by rw [h8];simpa using hne)⟩
 |_ :: _ :: _=>rw [h8] at h;cases h
theorem zl8 (hG:GG p)(hd:SubP p m.1)(h2:m.2=true)(hv:lm m.1 v)(hg:ic p g=true)(h0:g≠[])(hS:g∈S)(h:(ko m v g).2=true)(he:ClosedN p S e)(hs:SubD e m.1):SubD e (m.1.map (je (ko m v g).1.Station (ko m v g).1.Channel)):=by
 obtain ⟨h3,h4,h5⟩:=ziF hG hd h2 hv hg h0 h;generalize (ko m v g).1=c at h3 h4 h5 ⊢;obtain ⟨hl,_⟩:=fw.1 hg;refine ⟨by rw [List.length_map];exact hs.1,fun i hi=>?_⟩;rw [List.length_map] at hi;rw [ie hi];have h6:=hs.2 i hi;refine ⟨h6.1,fun k hk=>?_⟩;unfold je;dsimp only;rw [List.mem_filter];refine ⟨h6.2 k hk,?_⟩;rw [Bool.or_eq_true,decide_eq_true_eq,decide_eq_true_eq];by_cases e1:(cI m.1 i).Station=c.Station
 ·refine .inr fun e2=>?_; (have hi':i<e.length:=by rw [hs.1];exact hi);have h7:=he.calm g hS _ (eo hi') k hk
  have h8:gB e g (cI e i).Station k=true:=by
   unfold gB;rw [Bool.and_eq_true,List.any_eq_true,List.all_eq_true];refine ⟨⟨c,h3,by rw [h6.1,e1,e2];simp⟩,fun x hx=>?_⟩;by_cases e3:x=c
   ·rw [e3,h6.1,e1];simp
   ·rw [zcq hs (h5 x hx e3)];simp
  rw [h8] at h7;cases h7
 ·exact .inl e1
theorem zkL (hG : GG p) (hB : ∀ x ∈ m.1, x.Channels.Nodup) (hd : SubP p m.1) (h2 : m.2 = true) (hc : ClosedD p m.1) (hv : lm m.1 v) (hg : ic p g = true) (h : (ko m v g).2 = false) : g ≠ [] ∧ ∀ x ∈ m.1, ∀ c ∈ x.Channels, gB m.1 g x.Station c = false := by
  obtain ⟨hl, hh⟩ := fw.1 hg; refine ⟨fun e => ?_, fun x hx c hcx => ?_⟩
  · subst e; cases h
  · cases hr : gB m.1 g x.Station c with
    | false => rfl
    | true =>
      unfold gB at hr; rw [Bool.and_eq_true, List.any_eq_true, List.all_eq_true] at hr; obtain ⟨⟨y, hy, h3⟩, h4⟩ := hr; rw [Bool.and_eq_true, decide_eq_true_eq, decide_eq_true_eq] at h3
      -- the others are made
      have ho : ∀ z ∈ jj v g, z = y := fun z hz => by
        have hzg := (List.mem_filter.1 hz); have h5 := h4 z hzg.1; rw [Bool.or_eq_true, decide_eq_true_eq] at h5; rcases h5 with h5 | h5
        · exact hl.inj hzg.1 hy (by rw [h5, h3.1])
        · exfalso; obtain ⟨u, hu, e⟩ := hd.has (zff (hh z hzg.1)); have h6 := eT.1 h5 u hu e
          have h7 : u.Channels = [z.Channel] := by
            have hne := hc.ne u hu; have hnd := hB u hu
            match hq : u.Channels with
            | [] => exact absurd hq hne
            | [a] => rw [hq] at h6; rw [h6 a b2]
            | a :: b :: r =>
              rw [hq] at h6 hnd; have h8 := h6 a b2; have h9 := h6 b b2; rw [h8, h9] at hnd; simp at hnd
          have h8 := hv u hu; rw [h7] at h8; have h9 := hzg.2; rw [← e, h8] at h9; simp [cI] at h9
      have hyo : zgO m y = true := lA.2 ⟨h2, x, hx, h3.1.symm, by rw [h3.2]; exact hcx⟩
      have hnd : (jj v g).length ≤ 1 := by
        match h8 : jj v g with
        | [] => simp
        | [_] => simp
        | a :: b :: r =>
          exfalso; have hsub : (jj v g).Sublist g := List.filter_sublist
          have hgn : g.Nodup := by
            rw [List.Nodup, List.pairwise_iff_getElem]; intro i j hi hj hij e; have := hl.inc i j hij hj; rw [d9 hi, d9 hj, e] at this; omega
          have := hgn.sublist hsub; rw [h8] at this ho; rw [ho a b2, ho b b2] at this; simp at this
      unfold ko at h
      match h8 : jj v g with
      | [] => rw [h8] at h; cases h
      | [a] => rw [h8] at h ho; rw [ho a b2] at h; dsimp only at h; rw [hyo] at h; cases h
      | a :: b :: r => rw [h8] at hnd; simp at hnd
end
def dK (p:GProblem)(l:List GChoice):List GDomain:=l.foldl (fun d c=>d.map (fR true c)) p.Domains
def RunN (p:GProblem)(S:List (List GChoice))(d:List GDomain)(r:Option (GProblem×(List GDomain×Bool))×Bool):Prop:=
 (∃m:List GDomain×Bool,r=(some (p,m),false)∧m.2=true∧ClosedN p S m.1∧SubP p m.1∧SubD m.1 d∧∀e,ClosedN p S e→SubD e d→SubD e m.1)∨(r=(none,true)∧∀e,ClosedN p S e→¬SubD e d)
section
variable {p:GProblem}{S:List (List GChoice)}{d e:List GDomain}{m:List GDomain×Bool}
theorem zl7 {l:List GChoice}{i:Nat}(hi:i<l.length):dK p (l.take (i+1))=(dK p (l.take i)).map (fR true (cI l i)):=by
 unfold dK;rw [mv hi,List.foldl_append];rfl
theorem ziQ:∀l:List GChoice,SubP p (dK p l):=fun l=>by
 have key:∀(l:List GChoice) (d:List GDomain),SubP p d→SubP p (l.foldl (fun d c=>d.map (fR true c)) d):=by
  intro l
  induction l with
  |nil=>exact fun d h=>h
  |cons c r ih=>
   intro d h;have h2:=(zdO true c).subD (d:=d);exact ih _ ⟨h2.1.trans h.sub,h2.2.trans h.ord h.sub.1⟩
 exact key l _ ⟨.refl _,fun _ _=>List.Sublist.refl _⟩
structure MidN (p:GProblem) (S:List (List GChoice)) (d:List GDomain) (m:List GDomain×Bool):Prop where
 ok:m.2=true
 sp:SubP p m.1
 cl:ClosedD p m.1
 sd:SubD m.1 d
 all:∀e,ClosedN p S e→SubD e d→SubD e m.1
theorem MidN.prop (h:MidN p S d m):PropD p m.1 m:= .inl ⟨h.ok,h.cl,⟨.refl _,fun _ _=>List.Sublist.refl _⟩,fun _ _ h=>h⟩
theorem znm {d':List GDomain}(hd:SubP p d')(hs:SubD d' d)(hm:PropD p d' m)(hall:∀e,ClosedN p S e→SubD e d→SubD e d'):(m.2=true∧MidN p S d m)∨(m.2=false∧∀e,ClosedN p S e→¬SubD e d):=by
 rcases hm with ⟨h1,h2,h3,h4⟩|⟨h1,h2⟩
 ·exact .inl ⟨h1,h1,⟨h3.1.trans hd.sub,h3.2.trans hd.ord hd.sub.1⟩,h2,h3.1.trans hs,fun e he hh=>h4 e he.cl (hall e he hh)⟩
 ·exact .inr ⟨by rw [h1],fun e he hh=>h2 e he.cl (hall e he hh)⟩
theorem zjR {fuel:Nat}(hf:100000≤fuel)(hok:eN p=true){t:GStore}(ht:t.start.1=p)(hm:PropD p p.Domains t.start.2)(hS:∀g∈t.list,ic p g=true)(l:List GChoice):∃r,zaD fuel t l=some r∧RunN p t.list (dK p l) r:=by
 obtain ⟨hw,hbd,htot,hn⟩:=zfF hok;have hG:=zfb hok;have nodup:∀ {m:List GDomain×Bool},SubP p m.1→∀x∈m.1,x.Channels.Nodup:=fun h x hx=>((hbd.ord h.sub.1 h.ord).ch x hx).2;unfold zaD;simp only [dQ,Nat.sub_zero,ht];refine kv (fun i (m:List GDomain×Bool)=>PropD p (dK p (l.take i)) m) (fun o=>∃r,o=some r∧RunN p t.list (dK p l) r) (by simpa [dK] using hm) (fun m hI=>?_) (fun i m next hi hI hnx=>?_)
 ·rw [List.take_of_length_le (Nat.le_refl _)] at hI;have hst:=znm (S:=t.list) (ziQ l) (.refl _) hI (fun _ _ h=>h);refine zeo (σ:=Bool×(List GDomain×Bool)) (I:=fun s=>(s.2.2=true∧MidN p t.list (dK p l) s.2∧(s.1=false→ClosedN p t.list s.2.1))∨(s.2.2=false∧s.1=true∧∀e,ClosedN p t.list e→¬SubD e (dK p l))) (μ:=fun s=>ey s.2.1+(bif s.1 then 1 else 0)) (post:=fun o=>∃r,o=some r∧RunN p t.list (dK p l) r) ?_ ?_ ?_
  ·rcases hst with ⟨h1,h2⟩|⟨h1,h2⟩
   ·exact .inl ⟨h1,h2,fun h=>by cases h⟩
   ·exact .inr ⟨h1,rfl,h2⟩
  ·have h1:ey m.1≤30000:=by
    rcases hI with ⟨_,_,h3,_⟩|⟨h1,_⟩
    ·have hk:=ziQ (p:=p) l;have:=zdL h3.1.1 h3.2;have:=zdL hk.sub.1 hk.ord;omega
    ·rw [h1];simp [ey]
   dsimp only;rw [cond_true];omega
  ·rintro ⟨again,m⟩ next hJ hnx;dsimp only at hJ hnx ⊢
   cases again with
   |false=>
    rcases hJ with ⟨h1,h2,h3⟩|⟨_,h2,_⟩
    ·exact ⟨_,rfl, .inl ⟨m,rfl,h1,h3 rfl,h2.sp,h2.sd,h2.all⟩⟩
    ·cases h2
   |true=>
    rw [cond_true];rcases hJ with ⟨h1,h2,_⟩|⟨h1,_,h2⟩
    ·rw [h1,Bool.not_true,cond_false];obtain ⟨v,hv1,hv2⟩:=zlY hG h2.sp h1;rw [hv1,Option.bind_some];refine kv (fun i (s:Bool×(List GDomain×Bool)×Vec 512 Int)=>MidN p t.list (dK p l) s.2.1∧lm s.2.1.1 s.2.2∧((s.1=true∧ey s.2.1.1<ey m.1)∨(s.1=false∧s.2.1=m∧∀j,j<i→(ko s.2.1 s.2.2 (cI t.list j)).2=false))) (fun o=>∃r,o=some r∧RunN p t.list (dK p l) r) ⟨h2,hv2, .inr ⟨rfl,rfl,fun j hj=>by omega⟩⟩ ?_ ?_
     ·rintro ⟨ch,m',v'⟩ ⟨g1,g2,g3⟩;dsimp only at g1 g2 g3 ⊢;refine hnx _ (.inl ⟨g1.ok,g1,fun e=>?_⟩) ?_
      ·dsimp only at e;rcases g3 with ⟨g3,_⟩|⟨_,g3,g4⟩
       ·rw [e] at g3;cases g3
       ·have key:∀g∈t.list,g≠[]∧∀x∈m'.1,∀c∈x.Channels,gB m'.1 g x.Station c=false:=fun g hg=>by
         obtain ⟨j,hj,rfl⟩:=gp hg;exact zkL hG (nodup g1.sp) g1.sp g1.ok g1.cl g2 (hS _ (eo hj)) (g4 j hj)
        exact ⟨g1.cl,fun g hg=>(key g hg).1,fun g hg=>(key g hg).2⟩
      ·dsimp only;rcases g3 with ⟨g3,g4⟩|⟨g3,g4,_⟩
       ·rw [g3,cond_true];omega
       ·rw [g3,g4,cond_false,cond_true];omega
     ·rintro i ⟨ch,m',v'⟩ nx hi ⟨g1,g2,g3⟩ hk;dsimp only at g1 g2 g3 ⊢;have hg:=hS _ (eo hi);rw [zmX (fw.1 hg).1,Option.bind_some]
      cases hfo:(ko m' v' (cI t.list i)).2 with
      |false=>
       rw [Bool.not_false,cond_true];refine hk _ ⟨g1,g2,g3.imp id fun h=>⟨h.1,h.2.1,fun j hj=>?_⟩⟩;rcases Nat.lt_or_ge j i with h3|h3
       ·exact h.2.2 j h3
       ·(obtain rfl:j=i:=by omega);exact hfo
      |true=>
       rw [Bool.not_true,cond_false];by_cases h0:cI t.list i=[]
       ·rw [h0];exact ⟨_,rfl, .inr ⟨rfl,fun e he _=>he.ne _ (eo hi) h0⟩⟩
       ·have hlen:0<(cI t.list i).length:=List.length_pos_iff.2 h0;rw [decide_eq_false a6,cond_false];obtain ⟨q1,q2,q3⟩:=ziF hG g1.sp g1.ok g2 hg h0 hfo;have q4:=fun e he hs=>zl8 (e:=e) hG g1.sp g1.ok g2 hg h0 (eo hi) hfo he hs;generalize (ko m' v' (cI t.list i)).1=c at q1 q2 q3 q4
        have hgc:kb c=true:=by
         have:=(fw.1 hg).1.good c q1;unfold kb;exact decide_eq_true a6
        (have eact:fR false c=je c.Station c.Channel:=by unfold fR;rw [hgc];rfl);obtain ⟨r,q5,q6⟩:=zk9 hf hok ⟨g1.sp.sub,g1.sp.ord⟩ g1.prop false c;rw [q5,Option.bind_some];rw [eact] at q6;have hsub:=(FiltD.drop c.Station c.Channel).subD (d:=m'.1);have hsp:SubP p (m'.1.map (je c.Station c.Channel)):=⟨hsub.1.trans g1.sp.sub,hsub.2.trans g1.sp.ord g1.sp.sub.1⟩;have hmid:=znm (S:=t.list) hsp (hsub.1.trans g1.sd) q6 (fun e he hh=>q4 e he (g1.all e he hh));dsimp only;rcases hmid with ⟨q7,q8⟩|⟨q7,q8⟩
        ·rw [q7,Bool.not_true,cond_false];obtain ⟨v2,w1,w2⟩:=zlY hG q8.sp q7;rw [w1,Option.bind_some];refine hk _ ⟨q8,w2, .inl ⟨rfl,?_⟩⟩;dsimp only;obtain ⟨_,x,hx,hx1,hx2⟩:=lA.1 q2;obtain ⟨ix,hix,rfl⟩:=gp hx;have h7:=zmt hix hx1 hx2
         have h8:ey r.1≤ey (m'.1.map (je c.Station c.Channel)):=by
          rcases q6 with ⟨_,_,h9,_⟩|⟨h9,_⟩
          ·exact zdL h9.1.1 h9.2
          ·rw [h9] at q7;cases q7
         have h9:ey m'.1≤ey m.1:=by
          rcases g3 with ⟨_,h⟩|⟨_,h,_⟩
          ·omega
          ·rw [h];exact Nat.le_refl _
         omega
        ·rw [q7,Bool.not_false,cond_true];exact ⟨_,rfl, .inr ⟨rfl,q8⟩⟩
    ·rw [h1,Bool.not_false,cond_true];exact ⟨_,rfl, .inr ⟨rfl,h2⟩⟩
 ·cases h2:m.2 with
  |false=>
   rw [Bool.not_false,cond_true];refine ⟨_,rfl, .inr ⟨rfl,fun e he hs=>?_⟩⟩;rcases hI with ⟨h3,_⟩|⟨_,h4⟩
   ·rw [h2] at h3;cases h3
   ·refine h4 e he.cl (hs.trans ?_)
    have key:∀(r:List GChoice) (d:List GDomain),SubD (r.foldl (fun d c=>d.map (fR true c)) d) d:=by
     intro r
     induction r with
     |nil=>exact fun d=> .refl _
     |cons c r ih=>exact fun d=>(ih _).trans (zdO true c).subD.1
    have:=key (l.drop i) (dK p (l.take i));unfold dK at this ⊢;rw [←List.foldl_append,List.take_append_drop] at this;exact this
  |true=>
   rw [Bool.not_true,cond_false];have hk:=ziQ (p:=p) (l.take i);obtain ⟨r,g1,g2⟩:=zk9 hf hok ⟨hk.sub,hk.ord⟩ hI true (cI l i);rw [g1,Option.bind_some];exact hnx _ (by rw [zl7 hi];exact g2)
end
structure StN (p:GProblem) (t:GStore):Prop where
 pr:t.start.1=p
 st:PropD p p.Domains t.start.2
 tb:TabN p t.domains
 ok:∀g∈t.list,ic p g=true
section
variable {p:GProblem}{t:GStore}{fuel:Nat}
theorem new_x (hf:100000≤fuel)(hok:eN p=true):∃t,zcS fuel p=some (some t,0)∧StN p t∧t.list=[]:=by
 obtain ⟨hw,hbd,ht,hn⟩:=zfF hok;obtain ⟨m,g1,g2⟩:=zeJ (fuel:=fuel) hw hbd a6 a6;obtain ⟨v,h1,h2⟩:=zlc (zfb hok);unfold zcS;rw [hok,cond_true,g1,Option.bind_some,h1,Option.bind_some];exact ⟨_,rfl,⟨rfl,g2,h2,fun g hg=>by cases hg⟩,rfl⟩
theorem RunN.conf {S:List (List GChoice)}{d:List GDomain}{r:Option (GProblem×(List GDomain×Bool))×Bool}(h:RunN p S d r):r.2=true↔∀e,ClosedN p S e→¬SubD e d:=by
 rcases h with ⟨m,rfl,h1,h2,h3,h4,h5⟩|⟨rfl,h⟩
 ·exact ⟨fun h=>(by cases h),fun h=>absurd h4 (h _ h2)⟩
 ·exact ⟨fun _=>h,fun _=>rfl⟩
theorem zkU (hf:100000≤fuel)(hok:eN p=true)(h:StN p t){g:List GChoice}:∃b,zao fuel t g=some (b,bif ic p g then 0 else 2)∧(ic p g=false→b=false)∧(ic p g=true→(b=true↔∀e,ClosedN p t.list e→¬SubD e (dK p g))):=by
 unfold zao zam;rw [cond_false,zhO h.tb,Option.bind_some]
 cases hg:ic p g with
 |false=>exact ⟨false,rfl,fun _=>rfl,fun h=>by cases h⟩
 |true=>
  obtain ⟨r,h1,h2⟩:=zjR hf hok h.pr h.st h.ok g;rw [Bool.not_true,cond_false,h1,Option.bind_some];refine ⟨r.2,?_,fun h=>(by cases h),fun _=>h2.conf⟩
  cases r.1.isSome <;> rfl
theorem zoZ (h:StN p t){g:List GChoice}(hl:t.list.length<4096)(hg:g.length≤1000):zas t g=some (bif ic p g then (0,t.list++[g]) else (2,t.list)):=by
 unfold zas zam;rw [cond_false,zhO h.tb,Option.bind_some]
 cases hn:ic p g with
 |false=>rfl
 |true=>
  rw [Bool.not_true,cond_false,decide_eq_false a6,cond_false,fN (by simp only [dW];omega),fN b8];rfl
theorem StN.add (h:StN p t){g:List GChoice}(hg:ic p g=true):StN p ⟨t.domains,(t.start.1,t.start.2),t.list++[g]⟩:=⟨h.pr,h.st,h.tb,fun x hx=>by
 rcases List.mem_append.1 hx with hx|hx
 ·exact h.ok x hx
 ·simp at hx;rw [hx];exact hg⟩
theorem run_x (hf:100000≤fuel)(hok:eN p=true)(h:StN p t){l:List GChoice}(hl:ValidL l)(hs:∀c∈l,fY p c.Station=true):(∃m:List GDomain×Bool,zaq fuel t l=some (m.1,false,0)∧ClosedN p t.list m.1∧SubP p m.1∧SubD m.1 (dK p l)∧∀e,ClosedN p t.list e→SubD e (dK p l)→SubD e m.1)∨(zaq fuel t l=some ([],true,0)∧∀e,ClosedN p t.list e→¬SubD e (dK p l)):=by
 unfold zaq zam;rw [cond_false,zfE,eM.2 hl,Bool.not_true,cond_false];refine ku ?_;refine kv (fun i _=>True) (fun o=>(∃m:List GDomain×Bool,o=some (m.1,false,0)∧ClosedN p t.list m.1∧SubP p m.1∧SubD m.1 (dK p l)∧∀e,ClosedN p t.list e→SubD e (dK p l)→SubD e m.1)∨(o=some ([],true,0)∧∀e,ClosedN p t.list e→¬SubD e (dK p l))) trivial (fun _ _=>?_) (fun i _ next hi _ hn=>?_)
 ·obtain ⟨r,h1,h2⟩:=zjR hf hok h.pr h.st h.ok l;rw [h1,Option.bind_some];rcases h2 with ⟨m,rfl,g1,g2,g3,g4,g5⟩|⟨rfl,g⟩
  ·exact .inl ⟨m,rfl,g2,g3,g4,g5⟩
  ·exact .inr ⟨rfl,g⟩
 ·have hg:=hl.good _ (eo hi);rw [fN a6,h.tb.zero (zfb hok) a6,hs _ (eo hi),Bool.not_true,cond_false];exact hn () trivial
theorem zgK {a:List GChoice}{S:List (List GChoice)}(hG:GG p)(hF:FineP p a)(hS:∀g∈S,ic p g=true)(hv:∀g∈S,¬ ∀c∈g,c∈a)(hcl:ClosedD p (fW p.Domains (ff a))):ClosedN p S (fW p.Domains (ff a)):=by
 refine ⟨hcl,fun g hg e=>hv g hg (by rw [e];simp),fun g hg x hx c hc=>?_⟩
 cases hr:gB (fW p.Domains (ff a)) g x.Station c with
 |false=>rfl
 |true=>
  exfalso;obtain ⟨hl,hh⟩:=fw.1 (hS g hg);unfold gB at hr;rw [Bool.and_eq_true,List.any_eq_true,List.all_eq_true] at hr;obtain ⟨⟨y,hy,h3⟩,h4⟩:=hr;rw [Bool.and_eq_true,decide_eq_true_eq,decide_eq_true_eq] at h3;unfold fW at hx;obtain ⟨z,hz,rfl⟩:=List.mem_map.1 hx;simp at hc;refine hv g hg fun u hu=>?_
  have h5:u.Channel=ff a u.Station:=by
   have h6:=h4 u hu;rw [Bool.or_eq_true,decide_eq_true_eq] at h6;rcases h6 with h6|h6
   ·have:u=y:=hl.inj hu hy (by rw [h6,h3.1]);rw [this,h3.2,hc,h3.1]
   ·rw [zdB (zff (hh u hu)),decide_eq_true_eq] at h6;exact h6.symm
  have h7:=hl.good u hu;obtain ⟨w,hw,e1,e2⟩:=zn7 (l:=a) (n:=u.Station) a6; (have:u=w:=by cases u;cases w;simp_all);rw [this];exact hw
theorem znB {a l:List GChoice}(hF:FineP p a)(hl:∀c∈l,c∈a)(h:SubD (fW p.Domains (ff a)) p.Domains):SubD (fW p.Domains (ff a)) (dK p l):=by
 have key:∀(l:List GChoice),(∀c∈l,c∈a)→∀d,SubD (fW p.Domains (ff a)) d→SubD (fW p.Domains (ff a)) (l.foldl (fun d c=>d.map (fR true c)) d):=by
  intro l
  induction l with
  |nil=>exact fun _ d h=>h
  |cons c r ih=>
   intro hl d h;refine ih (fun x hx=>hl x (by simp [hx])) _ ⟨by rw [List.length_map];exact h.1,fun i hi=>?_⟩;rw [List.length_map] at hi;rw [ie hi];have h2:=h.2 i hi; (have hi':i<p.Domains.length:=by rw [←h.1] at hi;simpa [fW] using hi);have hf:=zdO true c;refine ⟨by rw [hf.st];exact h2.1,fun k hk=>(hf.mem _ _).2 ⟨h2.2 k hk,fun hg e=>?_⟩⟩;have e2:cI (fW p.Domains (ff a)) i=⟨(cI p.Domains i).Station,[ff a (cI p.Domains i).Station]⟩:=ie hi';rw [e2] at hk h2;simp at hk;rw [hk,h2.1,e,zjW hF.val (hl c b2)];simp
 exact key l hl _ h
end
section
variable {p:GProblem}{a:List GChoice}
theorem zil (h:FineP p a):SubD (fW p.Domains (ff a)) p.Domains:=by
 refine ⟨List.length_map _,fun i hi=>?_⟩;rw [show cI (fW p.Domains (ff a)) i=⟨(cI p.Domains i).Station,[ff a (cI p.Domains i).Station]⟩ from ie hi];refine ⟨rfl,fun c hc=>?_⟩;simp at hc;rw [hc];exact (h.dom _ (eo hi)).1
theorem zfI (hG:GG p)(h:FineP p a):ClosedD p (fW p.Domains (ff a)):=(zgk hG (fun x hx=>by have:=(hG.chs x hx).2 _ (h.dom x hx).1;omega)).2 ⟨h.pr,h.cp⟩
end
section
variable {p:GProblem}{t:GStore}{fuel:Nat}{l S:List (List GChoice)}
theorem zoc {s:Int}(hG:GG p)(h:¬fH p s<0):0≤fH p s∧fH p s<(p.Domains.length:Int)∧(cI p.Domains (fH p s).toNat).Station=s:=by
 revert h
 unfold fH;refine ku ?_;refine kv (fun _ _=>True) (fun r=>¬r<0→0≤r∧r<(p.Domains.length:Int)∧(cI p.Domains r.toNat).Station=s) trivial (fun _ _ h=>by omega) (fun i _ next hi _ hn=>?_);by_cases e:(cI p.Domains i).Station=s
 ·rw [decide_eq_true e,cond_true];exact fun _=>⟨by omega,by omega,by simpa using e⟩
 ·rw [decide_eq_false e,cond_false];exact hn () trivial
theorem zkz {g:List GChoice}(hok:eN p=true):zcB p g=some (ic p g):=by
 have hG:=zfb hok;unfold zcB ic;rw [zls,Option.bind_some,hok,zd6]
 cases hv:(List.range g.length).all (lq g) with
 |false=>rfl
 |true=>
  simp only [dQ,Nat.sub_zero,Bool.not_true,Bool.or_self,cond_false,Bool.true_and];refine (kv (fun i _=>(List.range i).all (fun i=>kr p (cI g i).Station (cI g i).Channel)=true) (fun o=>o=some ((List.range g.length).all fun i=>kr p (cI g i).Station (cI g i).Channel)) rfl (fun _ h=>by rw [h]) (fun i _ next hi hI hn=>?_))
  have bad:kr p (cI g i).Station (cI g i).Channel=false→((List.range g.length).all fun i=>kr p (cI g i).Station (cI g i).Channel)=false:=fun h=>by
   rw [List.all_eq_false];exact ⟨i,List.mem_range.2 hi,by rw [h];simp⟩
  by_cases hfi:fH p (cI g i).Station<0
  ·rw [decide_eq_true hfi,cond_true];rw [cond_true,bad]
   cases hc:kr p (cI g i).Station (cI g i).Channel with
   |false=>rfl
   |true=>have:=zff hc;rw [ld.1 hfi] at this;cases this
  ·obtain ⟨h1,h2,h3⟩:=zoc hG hfi
   have e:l6 (cI p.Domains (fH p (cI g i).Station).toNat).Channels (cI g i).Channel=kr p (cI g i).Station (cI g i).Channel:=by
    (have hj:(fH p (cI g i).Station).toNat<p.Domains.length:=by omega);rw [zmE,Bool.eq_iff_iff,ir,List.any_eq_true];constructor
    ·rintro ⟨k,hk,e⟩;exact ⟨_,eo hj,h3,by rw [←of_decide_eq_true e];exact hk⟩
    ·rintro ⟨x,hx,e1,e2⟩;obtain ⟨q,hq,rfl⟩:=gp hx
     have:q=(fH p (cI g i).Station).toNat:=by
      rcases Nat.lt_trichotomy q (fH p (cI g i).Station).toNat with h|h|h
      ·have:=hG.inc _ _ h hj;omega
      ·exact h
      ·have:=hG.inc _ _ h hq;omega
     exact ⟨_,by rw [←this];exact e2,by simp⟩
   rw [decide_eq_false hfi,cond_false,fN ⟨h1,h2⟩,e]
   cases hc:kr p (cI g i).Station (cI g i).Channel with
   |false=>rw [Bool.not_false,cond_true,bad hc]
   |true=>
    rw [Bool.not_true,cond_false];refine hn () ?_;rw [List.range_succ,List.all_append,hI];simp [hc]
end
def QN (p:GProblem)(S:List (List GChoice))(d:List GDomain)(r:List GDomain×Bool):Prop:=
 (r.2=true∧ClosedN p S r.1∧SubP p r.1∧SubD r.1 d∧∀e,ClosedN p S e→SubD e d→SubD e r.1)∨(r=([],false)∧∀e,ClosedN p S e→¬SubD e d)
def R21 (p:GProblem)(S:List (List GChoice))(d:List GDomain)(s c:Int):Bool:=(S.any fun g=>gB d g s c)||iA p d s c
section
variable {p:GProblem}{S S':List (List GChoice)}{d a b:List GDomain}{t:GStore}{fuel:Nat}{l:List GChoice}
theorem zn9 (hok:eN p=true)(ha:SubP p a)(hb:SubP p b)(h1:SubD a b)(h2:SubD b a):a=b:=by
 obtain ⟨_,hbd,_,_⟩:=zfF hok;refine zd8 h1.1 fun i hi=>?_; (have hi':i<b.length:=by rw [←h1.1];exact hi); (have hp:i<p.Domains.length:=by rw [←ha.len];exact hi);have hch:(cI a i).Channels=(cI b i).Channels:=zdl (ha.ord i hp) (hb.ord i hp) (hbd.ch _ (eo hp)).2 (fun x=>⟨(h1.2 i hi').2 x,(h2.2 i hi).2 x⟩);have hst:=(h1.2 i hi').1
 cases hx:cI a i;cases hy:cI b i
 rw [hx,hy] at hch hst;simp only at hch hst;rw [hch,hst]
theorem QN.eq {r r':List GDomain×Bool}(hok:eN p=true)(h:QN p S d r)(h':QN p S d r'):r=r':=by
 rcases h with ⟨h1,h2,h3,h4,h5⟩|⟨h1,h2⟩
 ·rcases h' with ⟨g1,g2,g3,g4,g5⟩|⟨g1,g2⟩
  ·exact Prod.ext (zn9 hok h3 g3 (g5 _ h2 h4) (h5 _ g2 g4)) (h1.trans g1.symm)
  ·exact absurd h4 (g2 _ h2)
 ·rcases h' with ⟨g1,g2,g3,g4,g5⟩|⟨g1,g2⟩
  ·exact absurd g4 (h2 _ g2)
  ·rw [h1,g1]
theorem ClosedN.mono (h:ClosedN p S d)(hs:∀g∈S',g∈S):ClosedN p S' d:=⟨h.cl,fun g hg=>h.ne g (hs g hg),fun g hg=>h.calm g (hs g hg)⟩
theorem QN.congr {r:List GDomain×Bool}(h:QN p S d r)(hs:∀g,g∈S↔g∈S'):QN p S' d r:=by
 have f:∀ {e},ClosedN p S' e→ClosedN p S e:=fun he=>he.mono fun g hg=>(hs g).1 hg;rcases h with ⟨h1,h2,h3,h4,h5⟩|⟨h1,h2⟩
 ·exact .inl ⟨h1,h2.mono fun g hg=>(hs g).2 hg,h3,h4,fun e he=>h5 e (f he)⟩
 ·exact .inr ⟨h1,fun e he=>h2 e (f he)⟩
theorem byN_x {g:List GChoice}(hg:ValidL g){s c:Int}:zbl d g s c=gB d g s c:=by
 unfold zbl;simp only [dQ,Nat.sub_zero,zjU];refine kv (fun i (b:Bool)=>b=((g.take i).any fun x=>decide (x.Station=s)&&decide (x.Channel=c))∧((g.take i).all fun x=>decide (x.Station=s)||iQ d x.Station x.Channel)=true) (fun r=>r=gB d g s c) ⟨rfl,rfl⟩ (fun b hb=>?_) (fun i b next hi hb hn=>?_)
 ·rw [List.take_length] at hb;unfold gB;rw [hb.1,hb.2,Bool.and_true]
 ·by_cases hs:(cI g i).Station=s
  ·rw [decide_eq_true hs,cond_true];refine hn _ ⟨?_,?_⟩
   ·have h0:((g.take i).any fun x=>decide (x.Station=s)&&decide (x.Channel=c))=false:=by
     rw [List.any_eq_false];intro x hx;obtain ⟨j,hj,rfl⟩:=List.mem_iff_getElem.1 hx;rw [List.length_take] at hj;rw [List.getElem_take];have:=hg.inc j i a6 hi;rw [d9 a6] at this;simp;intro e;omega
    rw [mv hi,List.any_append,h0];simp [hs]
   ·rw [mv hi,List.all_append,hb.2];simp [hs]
  ·rw [decide_eq_false hs,cond_false]
   cases ho:iQ d (cI g i).Station (cI g i).Channel with
   |false=>
    rw [Bool.not_false,cond_true];unfold gB
    have:(g.all fun x=>decide (x.Station=s)||iQ d x.Station x.Channel)=false:=by
     rw [List.all_eq_false];exact ⟨cI g i,eo hi,by simp [hs,ho]⟩
    rw [this,Bool.and_false]
   |true=>
    rw [Bool.not_true,cond_false];refine hn _ ⟨?_,?_⟩
    ·rw [mv hi,List.any_append,←hb.1];simp [hs]
    ·rw [mv hi,List.all_append,hb.2];simp [ho]
theorem zju (hS:∀g∈S,ic p g=true){s c:Int}:zbR p S d s c=R21 p S d s c:=by
 unfold zbR R21;simp only [dQ,Nat.sub_zero,zie];rw [zej (fun i=>gB d (cI S i) s c) (fun i next hi=>by rw [byN_x (fw.1 (hS _ (eo hi))).1];cases gB d (cI S i) s c <;> rfl),zdz (q:=fun g=>gB d g s c)]
theorem R21.mono (hok:eN p=true):MonoR (R21 p S):=fun a b s c h hr=>by
 unfold R21 at hr ⊢;rw [Bool.or_eq_true,List.any_eq_true] at hr ⊢;rcases hr with ⟨g,hg,hr⟩|hr
 ·refine .inl ⟨g,hg,?_⟩;unfold gB at hr ⊢;rw [Bool.and_eq_true,List.all_eq_true] at hr ⊢;refine ⟨hr.1,fun x hx=>?_⟩;have:=hr.2 x hx;rw [Bool.or_eq_true] at this ⊢;exact this.imp id (zcq h)
 ·exact .inr (zgm (zfF hok).1 h hr)
theorem ClosedN.calmR (h:ClosedN p S d):zlx (R21 p S) d:=fun x hx c hc=>by
 unfold R21;rw [Bool.or_eq_false_iff,List.any_eq_false];exact ⟨fun g hg=>by rw [h.calm g hg x hx c hc];simp,h.cl.calm x hx c hc⟩
theorem zl0 (hf:100000≤fuel)(hok:eN p=true)(hS:∀g∈S,ic p g=true)(hd:SubP p d):∃r,zbT fuel p S d=some r∧QN p S d r:=by
 obtain ⟨hw,hbd,htot,hn⟩:=zfF hok;have hb:Bd d:=hbd.ord hd.len hd.ord;have ht:=zdL hd.len hd.ord;unfold zbT;simp only [dQ,Nat.sub_zero,zju hS];refine zml (R:=R21 p S) (k2:=fun d=>dk (fun (i:Nat) (next:Unit→Option (List GDomain×Bool)) (_:Unit)=>bif decide ((((cI d i).Channels).length:Int)=0) then some ([],false) else next ()) (fun (_:Unit)=>dk (fun (i:Nat) (next:Unit→Option (List GDomain×Bool)) (_:Unit)=>bif decide (((cI S i).length:Int)=0) then some ([],false) else next ()) (fun (_:Unit)=>some (d,true)) S.length 0 ()) d.length 0 ()) (fun o=>∃r,o=some r∧QN p S d r) (R21.mono hok) hb (by rw [hd.len];omega) a6 fun d' hI hA=>?_;refine kv (σ:=Unit) (I:=fun i _=>∀j,j<i→(cI d' j).Channels≠[]) (post:=fun o=>∃r,o=some r∧QN p S d r) (fun j hj=>absurd hj (Nat.not_lt_zero j)) (fun _ hne=>?_) (fun i _ next hi h hnx=>?_)
 ·refine kv (σ:=Unit) (I:=fun i _=>∀j,j<i→cI S j≠[]) (post:=fun o=>∃r,o=some r∧QN p S d r) (fun j hj=>absurd hj (Nat.not_lt_zero j)) (fun _ h=>?_) (fun i _ next hi h hnx=>?_)
  ·refine ⟨_,rfl, .inl ⟨rfl,⟨⟨fun x hx=>?_,fun x hx c hc=>?_⟩,fun g hg=>?_,fun g hg x hx c hc=>?_⟩,⟨hI.sub.trans hd.sub,hI.ord.trans hd.ord hd.len⟩,hI.sub,fun e he hs=>hI.sup e he.calmR hs⟩⟩
   ·obtain ⟨j,hj,rfl⟩:=gp hx;exact hne j hj
   ·have:=hA x hx c hc;unfold R21 at this;exact (Bool.or_eq_false_iff.1 this).2
   ·obtain ⟨j,hj,rfl⟩:=gp hg;exact h j hj
   ·have:=hA x hx c hc;unfold R21 at this;have:=List.any_eq_false.1 (Bool.or_eq_false_iff.1 this).1 g hg;simpa using this
  ·by_cases he:cI S i=[]
   ·rw [he];exact ⟨_,rfl, .inr ⟨rfl,fun e hc _=>hc.ne _ (eo hi) he⟩⟩
   ·have:¬((cI S i).length:Int)=0:=fun h0=>he (List.eq_nil_of_length_eq_zero a6);rw [decide_eq_false this,cond_false];refine hnx () (fun j hj=>?_);rcases Nat.lt_or_ge j i with h1|h1
    ·exact h j h1
    ·rw [show j=i by omega];exact he
 ·by_cases he:(cI d' i).Channels=[]
  ·rw [he];refine ⟨_,rfl, .inr ⟨rfl,fun e hc hs=>?_⟩⟩;have h2:=hI.sup e hc.calmR hs;have h3:=(h2.2 i hi).2;rw [he] at h3;apply hc.cl.ne _ (eo (show i<e.length by rw [h2.1];exact hi))
   cases hch:(cI e i).Channels with
   |nil=>rfl
   |cons c r=>exact absurd (h3 c (by rw [hch];simp)) b2
  ·have:¬((cI d' i).Channels.length:Int)=0:=fun h0=>he (List.eq_nil_of_length_eq_zero a6);rw [decide_eq_false this,cond_false];refine hnx () (fun j hj=>?_);rcases Nat.lt_or_ge j i with h1|h1
   ·exact h j h1
   ·rw [show j=i by omega];exact he
theorem zn1 (hf:100000≤fuel)(hok:eN p=true)(h:StN p t)(hl:ValidL l)(hs:∀c∈l,fY p c.Station=true):∃r:List GDomain×Bool,zaq fuel t l=some (r.1,!r.2,0)∧QN p t.list (dK p l) r:=by
 rcases run_x hf hok h hl hs with ⟨m,q1,q2,q3,q4,q5⟩|⟨q1,q2⟩
 ·exact ⟨(m.1,true),q1, .inl ⟨rfl,q2,q3,q4,q5⟩⟩
 ·exact ⟨([],false),q1, .inr ⟨rfl,q2⟩⟩
theorem ValidL.take (h:ValidL l)(n:Nat):ValidL (l.take n):=by
 refine ⟨fun x hx=>h.good x (List.mem_of_mem_take hx),fun i j hij hj=>?_⟩;rw [List.length_take] at hj;rw [d9 (by rw [List.length_take];omega),d9 (by rw [List.length_take];omega),List.getElem_take,List.getElem_take];have:=h.inc i j hij a6
 rwa [d9 a6,d9 a6] at this
end
section
variable {p:GProblem}{fuel:Nat}
end
structure DecP (p:GProblem) (l:List GChoice):Prop where
 good:∀c∈l,0≤c.Station∧c.Station≤511∧2≤c.Channel∧c.Channel≤51
 has:∀c∈l,kr p c.Station c.Channel=true
 nd:(l.map GChoice.Station).Nodup
theorem DecP.st {p:GProblem}{l:List GChoice}(h:DecP p l):∀c∈l,fY p c.Station=true:=fun c hc=>zff (h.has c hc)
theorem DecP.sub {p:GProblem}{l l':List GChoice}(h:DecP p l)(hs:l'.Sublist l):DecP p l':=⟨fun c hc=>h.good c (hs.subset hc),fun c hc=>h.has c (hs.subset hc),h.nd.sublist (hs.map _)⟩
theorem zfZ {l:List GChoice}(hn:(l.map GChoice.Station).Nodup)(hl:l.length≤100000):l5 l=some (iz l):=by
 unfold l5 zhp;rw [fN (by unfold dW;omega),fN ⟨by omega,hn⟩];rfl
theorem DecP.len {p:GProblem}{l:List GChoice}(h:DecP p l):l.length≤512:=by
 have key:∀(n:Nat) (s:List Int),s.Nodup→(∀x∈s,0≤x∧x<(n:Int))→s.length≤n:=by
  intro n
  induction n with
  |zero=>intro s _ h;cases s with
   |nil=>exact Nat.le_refl _
   |cons x s=>have:=h x (List.mem_cons_self ..);omega
  |succ n ih=>
   intro s hs h
   have h1:=ih (s.erase (n:Int)) (hs.erase _) (fun x hx=>by
    have h2:=(List.Nodup.mem_erase_iff hs).1 hx;have h3:=h x h2.2;have:x≠(n:Int):=h2.1
    omega)
   have h4:=List.length_erase (a:=(n:Int)) (l:=s)
   split at h4 <;> omega
 have:=key 512 (l.map GChoice.Station) h.nd (fun x hx=>by
  obtain ⟨c,hc,rfl⟩:=List.mem_map.1 hx;have:=h.good c hc
  omega)
 rwa [List.length_map] at this
theorem zgL {p:GProblem}{l:List GChoice}(h:DecP p l):ValidL (iz l):=by
 have hp:=np l;have hn:((iz l).map GChoice.Station).Nodup:=(hp.map GChoice.Station).nodup_iff.2 h.nd;refine ⟨fun c hc=>h.good c (hp.mem_iff.1 hc),fun i j hij hj=>?_⟩;have h1:=List.pairwise_iff_getElem.1 (zei l) i j a6 hj hij;have h2:=List.pairwise_iff_getElem.1 hn i j cC cC hij;rw [List.getElem_map,List.getElem_map] at h2;rw [d9 (show i<(iz l).length by omega),d9 hj];have h3:(iz l)[i].Station≤(iz l)[j].Station:=h1;omega
theorem zk6 (ch:List Int)(a b:Int):(bif (bif ch.any (fun k=>decide (k=b)) then [b] else []).any (fun k=>decide (k=a)) then [a] else [])=(bif (bif ch.any (fun k=>decide (k=a)) then [a] else []).any (fun k=>decide (k=b)) then [b] else ([]:List Int)):=by
 by_cases e:a=b
 ·subst e;rfl
 ·(have h1:([b].any fun k=>decide (k=a))=false:=by simp;omega); (have h2:([a].any fun k=>decide (k=b))=false:=by simp;omega)
  cases ch.any (fun k=>decide (k=b)) <;> cases ch.any (fun k=>decide (k=a)) <;> simp only [cond_true,cond_false,h1,h2] <;> rfl
theorem zlu {a b:GChoice}(x:GDomain):fR true a (fR true b x)=fR true b (fR true a x):=by
 unfold fR
 cases kb a <;> cases kb b <;> simp only [cond_true,cond_false,id]
 unfold i5;by_cases h1:x.Station=a.Station <;> by_cases h2:x.Station=b.Station
 ·rw [decide_eq_true h1,decide_eq_true h2];simp only [cond_true,zk6 x.Channels a.Channel b.Channel]
 ·rw [decide_eq_true h1,decide_eq_false h2];rfl
 ·rw [decide_eq_false h1,decide_eq_true h2];rfl
 ·rw [decide_eq_false h1,decide_eq_false h2];rfl
theorem zjv {p:GProblem}{a b:List GChoice}(h:a.Perm b):dK p a=dK p b:=by
 unfold dK;refine h.foldl_eq' (fun x _ y _ z=>?_) _;rw [List.map_map,List.map_map];exact List.map_congr_left fun d _=>zlu d
section
variable {p:GProblem}{S:List (List GChoice)}{l:List GChoice}{t:GStore}{fuel:Nat}
theorem zgc (hf:100000≤fuel)(hok:eN p=true)(hS:∀g∈S,ic p g=true)(hl:∀c∈l,0≤c.Station∧c.Station≤511∧2≤c.Channel∧c.Channel≤51):∃r,zbJ fuel p S l=some r∧QN p S (dK p l) r:=by
 obtain ⟨hw,hbd,htot,hn⟩:=zfF hok;unfold zbJ;refine ku ?_;refine kv (σ:=List GDomain) (fun i d=>d=dK p (l.take i)) (fun o=>∃r,o=some r∧QN p S (dK p l) r) rfl (fun d hd=>?_) (fun i d next hi hd hnx=>?_)
 ·rw [List.take_length] at hd;subst hd;obtain ⟨r,h1,h2⟩:=zl0 (fuel:=fuel) hf hok hS (ziQ l);exact ⟨r,by rw [h1];rfl,h2⟩
 ·subst hd;have hs:=ziQ (p:=p) (l.take i);have hb:Bd (dK p (l.take i)):=hbd.ord hs.len hs.ord;rw [zmp hb.len (fun x hx=>(hb.ch x hx).1),Option.bind_some];refine hnx _ ?_;have hg:=hl _ (eo hi); (have hgc:kb (cI l i)=true:=by unfold kb;exact decide_eq_true a6);rw [zl7 hi]
  congr 1
  unfold fR;rw [hgc];rfl
theorem zoJ (hf : 100000 ≤ fuel) (hok : eN p = true) (h : StN p t) (hS : ∀ g ∈ t.list, ic p g = true) (hl : DecP p l) :
    ∃ r : List GDomain × Bool, l5 l = some (iz l) ∧ zaq fuel t (iz l) = some (r.1, !r.2, 0) ∧ zbJ fuel p t.list l = some r ∧ QN p t.list (dK p l) r := by
  have hlen := hl.len; have hp := np l; obtain ⟨r, h1, h2⟩ := zn1 hf hok h (zgL hl) (fun c hc => hl.st c (hp.mem_iff.1 hc)); obtain ⟨r', h3, h4⟩ := zgc (fuel := fuel) hf hok hS hl.good; rw [zjv hp] at h2; obtain rfl := QN.eq hok h2 h4; exact ⟨r, zfZ hl.nd a6, h1, h3, h4⟩
theorem zjA (h:DecP p l):ic p (iz l)=true:=fw.2 ⟨zgL h,fun c hc=>h.has c ((np l).mem_iff.1 hc)⟩
def wo (l:List GChoice)(i:Nat):List GChoice:=l.take i++l.drop (i+1)
theorem zjF (l:List GChoice)(i:Nat):(wo l i).Sublist l:=by
 unfold wo
 have h:(l.drop (i+1)).Sublist (l.drop i):=by
  rw [←List.drop_drop];exact List.drop_sublist _ _
 have h2:=(List.Sublist.refl (l.take i)).append h
 rwa [List.take_append_drop] at h2
theorem zox {l:List GChoice}{i:Nat}(h:i<l.length):(wo l i).length+1=l.length:=by
 unfold wo;rw [List.length_append,List.length_take,List.length_drop];omega
theorem zne {l:List GChoice}{i:Nat}(h:i<l.length):zfv l (i:Int) ((i:Int)+1)=some (wo l i):=by
 unfold zfv;rw [fN ⟨by omega,rfl,by omega⟩];rfl
theorem zkx {l:List GChoice}{i:Nat}(h:i<l.length)(hl:l.length≤1000):zbg l (i:Int)=some (wo l i):=by
 unfold zbg;rw [fN a6,fN ⟨by omega,by omega⟩,fN (by unfold dW;rw [List.length_append,List.length_take];simp;omega),fN ⟨by omega,by omega⟩,fN (by unfold dW;rw [List.length_append,List.length_append,List.length_take,List.length_drop];simp;omega)]
 rfl
def Conf (p:GProblem)(S:List (List GChoice))(l:List GChoice):Prop:=∀e,ClosedN p S e→¬SubD e (dK p l)
theorem QN.conf {r:List GDomain×Bool}(h:QN p S (dK p l) r):r.2=false↔Conf p S l:=by
 rcases h with ⟨h1,h2,h3,h4,_⟩|⟨h1,h2⟩
 ·rw [h1];exact ⟨fun h=>(by cases h),fun h=>absurd h4 (h _ h2)⟩
 ·rw [h1];exact ⟨fun _=>h2,fun _=>rfl⟩
theorem zmi (hf:100000≤fuel)(hok:eN p=true)(h:StN p t)(hS:∀g∈t.list,ic p g=true)(hl:DecP p l):∃(b:Bool) (r:List GDomain×Bool),zao fuel t (iz l)=some (b,0)∧zbJ fuel p t.list l=some r∧b= !r.2:=by
 obtain ⟨b,h1,_,h3⟩:=zkU hf hok h (g:=iz l);have hk:=zjA hl;obtain ⟨r,h4,h5⟩:=zgc (fuel:=fuel) hf hok hS hl.good;rw [hk] at h1;refine ⟨b,r,h1,h4,?_⟩
 have h6:b=true↔Conf p t.list l:=by
  rw [h3 hk,zjv (np l)];exact Iff.rfl
 have h7:=QN.conf h5
 cases b <;> cases hr:r.2
 ·exact absurd (h6.2 (h7.1 hr)) a7
 ·rfl
 ·rfl
 ·exact absurd (h7.2 (h6.1 rfl)) (by rw [hr];decide)
end
section
variable {p:GProblem}{a b d:List GDomain}{f:GDomain→GDomain}{φ:Int→Int→Prop}
theorem znT (hok:eN p=true)(hd:SubD d p.Domains∧OrdD d p.Domains):eN ⟨d,p.Rules⟩=true:=by
 have hlen:(d7 ⟨d,p.Rules⟩).ds.length=d.length:=List.length_map _;have hlp:(d7 p).ds.length=p.Domains.length:=List.length_map _
 have hst:(d7 ⟨d,p.Rules⟩).ds.map (·.st)=(d7 p).ds.map (·.st):=by
  show (d.map GDomain.b).map (·.st)=(p.Domains.map GDomain.b).map (·.st)
  rw [List.map_map,List.map_map];refine zd8 (by rw [List.length_map,List.length_map];exact hd.1.1) (fun i hi=>?_);rw [List.length_map] at hi; (have hi':i<p.Domains.length:=by rw [←hd.1.1];exact hi);rw [ie hi,ie hi'];exact (hd.1.2 i hi').1
 have hn1:∀i,i<d.length→cI (d7 ⟨d,p.Rules⟩).ds i=(cI d i).b:=fun i hi=>ie hi;have hn2:∀i,i<p.Domains.length→cI (d7 p).ds i=(cI p.Domains i).b:=fun i hi=>ie hi;unfold eN at hok ⊢;simp only [Pb.ok,Bool.and_eq_true] at hok ⊢;obtain ⟨h1,h2,h3,h4,h5,h6⟩:=hok; (have hhas:∀i,(d7 ⟨d,p.Rules⟩).has i=(d7 p).has i:=fun i=>by unfold Pb.has;rw [hst]);refine ⟨?_,h2,?_,?_,?_,?_⟩
 ·rw [zen] at h1 ⊢;intro i hi;rw [hlen] at hi; (have hi':i<p.Domains.length:=by rw [←hd.1.1];exact hi);have h7:=h1 i (by rw [hlp];exact hi');rw [hn2 i hi'] at h7;rw [hn1 i hi];simp only [Dx.ok,Bool.and_eq_true] at h7 ⊢;have hsub:=hd.2 i hi';refine ⟨by show inB (cI d i).Station 0 511=true;rw [(hd.1.2 i hi').1];exact h7.1,?_,?_⟩
  ·rw [d5] at h7 ⊢;exact fun q hq=>h7.2.1 q (hsub.subset hq)
  ·have h8:=(zkT h7.2.2).sublist hsub;rw [io];intro k hk
   have:cI (cI d i).Channels k<cI (cI d i).Channels (k+1):=by
    have hk':k+1<(cI d i).Channels.length:=hk;rw [d9 a6,d9 hk'];exact List.pairwise_iff_getElem.1 h8 k (k+1) a6 hk' a6
   show dL (cI (cI d i).Channels k) (cI (cI d i).Channels (k+1))<0
   unfold dL;rw [if_pos this];omega
 ·rw [io] at h3 ⊢;intro k hk;rw [hlen] at hk; (have hk':k+1<p.Domains.length:=by rw [←hd.1.1];exact hk);have:=h3 k (by rw [hlp];exact hk');rw [hn2 _ a6,hn2 _ hk'] at this;rw [hn1 _ a6,hn1 _ hk]
  show dL (cI d k).Station (cI d (k+1)).Station<0
  rw [(hd.1.2 k a6).1,(hd.1.2 (k+1) hk').1];exact this
 ·simp only [hhas];exact h4
 ·simp only [hhas];exact h5
 ·simp only [hhas];exact h6
end
theorem zc9 {α:Type}[Inhabited α]{c:α→α→Int}(ht:∀x y z,c x y<0→c y z<0→c x z<0){l:List α}:fy c l=true↔l.Pairwise fun x y=>c x y<0:=by
 rw [io,List.pairwise_iff_getElem];constructor
 ·intro h i j hi hj hij
  have key:∀m,i+m+1<l.length→c (cI l i) (cI l (i+m+1))<0:=by
   intro m
   induction m with
   |zero=>intro hm;exact h i hm
   |succ m ih=>intro hm;exact ht _ _ _ (ih a6) (h (i+m+1) a6)
  have:=key (j - i - 1) a6;rw [show i+(j - i - 1)+1=j by omega,d9 hi,d9 hj] at this;exact this
 ·intro h i hi;rw [d9 a6,d9 hi];exact h i (i+1) a6 hi a6
theorem zg9 (a b:Int):(dL a b= -1∧a<b)∨(dL a b=0∧a=b)∨(dL a b=1∧b<a):=by
 unfold dL
 split
 ·exact .inl ⟨rfl,by assumption⟩
 ·split
  ·exact .inr (.inr ⟨rfl,by omega⟩)
  ·exact .inr (.inl ⟨rfl,by omega⟩)
theorem zhE (a:Int)(l:List Int):kq (a :: l)<0↔a<0∨(a=0∧kq l<0):=by
 have e:kq (a :: l)=if a=0 then kq l else a:=rfl;rw [e];by_cases h:a=0
 ·rw [if_pos h];simp [h]
 ·rw [if_neg h];simp [h]
theorem zi7:¬kq []<0:=by unfold kq;simp
theorem zmh {a b:Int}:dL a b<0↔a<b:=by rcases zg9 a b with h|h|h <;> omega
theorem zlo {a b:Int}:dL a b=0↔a=b:=by rcases zg9 a b with h|h|h <;> omega
theorem Pr.trans (x y z:Pr)(h:Pr.cmp x y<0)(k:Pr.cmp y z<0):Pr.cmp x z<0:=by
 simp only [Pr.cmp,zhE,zmh,zlo,zi7,and_false,or_false] at h k ⊢;omega
theorem Ld.trans (x y z:Ld)(h:Ld.cmp x y<0)(k:Ld.cmp y z<0):Ld.cmp x z<0:=by
 simp only [Ld.cmp,zhE,zmh,zlo,zi7,and_false,or_false] at h k ⊢;omega
theorem Cp.trans (x y z:Cp)(h:Cp.cmp x y<0)(k:Cp.cmp y z<0):Cp.cmp x z<0:=by
 simp only [Cp.cmp,zhE,zmh,zlo,zi7,and_false,or_false] at h k ⊢;omega
structure SubR (q p:GRules):Prop where
 ps:q.Pairs.Sublist p.Pairs
 ls:q.Loads.Sublist p.Loads
 cs:q.Caps.Sublist p.Caps
section
variable {p q:GProblem}
theorem zn6 (hok:eN p=true)(hd:q.Domains=p.Domains)(h:SubR q.Rules p.Rules):eN q=true:=by
 unfold eN at hok ⊢;simp only [Pb.ok,Pb.rulesOk,Bool.and_eq_true,decide_eq_true_eq] at hok ⊢;obtain ⟨h1,⟨h2,h3,h4,h5,h6,h7,h8,h9,h10⟩,h11,h12,h13,h14⟩:=hok; (have e1:(d7 q).ds=(d7 p).ds:=by unfold d7;rw [hd]);have sp:(d7 q).ps.Sublist (d7 p).ps:=h.ps.map _;have sl:(d7 q).ls.Sublist (d7 p).ls:=h.ls.map _;have sc:(d7 q).cs.Sublist (d7 p).cs:=h.cs.map _; (have hhas:∀i,(d7 q).has i=(d7 p).has i:=fun i=>by unfold Pb.has;rw [e1]);have all:∀ {α:Type} [Inhabited α] {f:α→Bool} {a b:List α},a.Sublist b→fM f b=true→fM f a=true:=fun hs hb=>d5.2 fun x hx=>d5.1 hb x (hs.subset hx);have l1:=sp.length_le;have l2:=sl.length_le;have l3:=sc.length_le;refine ⟨by rw [e1];exact h1,⟨by omega,all sp h3,?_,by omega,all sl h6,?_,by omega,all sc h9,?_⟩,by rw [e1];exact h11,?_,?_,?_⟩
 ·exact (zc9 Pr.trans).2 (((zc9 Pr.trans).1 h4).sublist sp)
 ·exact (zc9 Ld.trans).2 (((zc9 Ld.trans).1 h7).sublist sl)
 ·exact (zc9 Cp.trans).2 (((zc9 Cp.trans).1 h10).sublist sc)
 ·simp only [hhas];exact all sp h12
 ·simp only [hhas];exact all sl h13
 ·simp only [hhas];exact all sc h14
end
theorem zhy {p:GProblem}{d:List GDomain}(hok:eN p=true)(h:SubP p d):eN ⟨d,⟨[],[],[]⟩⟩=true:=
 zn6 (p:=⟨d,p.Rules⟩) (q:=⟨d,⟨[],[],[]⟩⟩) (znT hok ⟨h.sub,h.ord⟩) rfl (by constructor <;> simp)
section
variable {p:GProblem}{S:List (List GChoice)}{D:List GChoice}{t:GStore}{fuel:Nat}{r:List GDomain×Bool}
noncomputable def dN (p:GProblem) (S:List (List GChoice)) (D:List GChoice):List GDomain×Bool:=(zbJ 100000 p S D).getD ([],false)
theorem zfJ (hok:eN p=true)(hS:∀g∈S,ic p g=true)(h:DecP p D):QN p S (dK p D) (dN p S D):=by
 obtain ⟨r,h1,h2⟩:=zgc (fuel:=100000) (Nat.le_refl _) hok hS h.good;unfold dN;rw [h1];exact h2
theorem zj1 (hf:100000≤fuel)(hok:eN p=true)(hS:∀g∈S,ic p g=true)(h:DecP p D):zbJ fuel p S D=some (dN p S D):=by
 obtain ⟨r,h1,h2⟩:=zgc (fuel:=fuel) hf hok hS h.good;rw [h1,QN.eq hok h2 (zfJ hok hS h)]
theorem ziz (hf:100000≤fuel)(hok:eN p=true)(ht:StN p t)(h:DecP p D):l5 D=some (iz D)∧zaq fuel t (iz D)=some ((dN p t.list D).1,!(dN p t.list D).2,0):=by
 obtain ⟨r,h1,h2,h3,h4⟩:=zoJ hf hok ht ht.ok h;rw [QN.eq hok h4 (zfJ hok ht.ok h)] at h2;exact ⟨h1,h2⟩
theorem zib (hf:100000≤fuel)(hok:eN p=true)(ht:StN p t)(h:DecP p D):zao fuel t (iz D)=some (!(dN p t.list D).2,0):=by
 obtain ⟨b,r,h1,h2,h3⟩:=zmi hf hok ht ht.ok h;rw [zj1 hf hok ht.ok h] at h2;rw [h1,h3,←Option.some.inj h2]
noncomputable def dr (p:GProblem) (S:List (List GChoice)):Nat→List GChoice→List GChoice
 |0,k=>k
 |i+1,k=>bif !(dN p S (wo k i)).2 then dr p S i (wo k i) else dr p S i k
theorem zdf:∀i k,(dr p S i k).Sublist k
 |0,k=> .refl _
 |i+1,k=>by
  rw [dr]
  cases !(dN p S (wo k i)).2
  ·exact zdf i k
  ·exact (zdf i _).trans (zjF k i)
theorem zdq (hok:eN p=true)(hS:∀g∈S,ic p g=true):∀i k,DecP p k→Conf p S k→Conf p S (dr p S i k)
 |0,k,_,h=>h
 |i+1,k,hd,h=>by
  rw [dr];have hw:=hd.sub (zjF k i)
  cases hb:(dN p S (wo k i)).2
  ·exact zdq hok hS i _ hw ((zfJ hok hS hw).conf.1 hb)
  ·exact zdq hok hS i k hd h
theorem zl3 (hf : 100000 ≤ fuel) (hok : eN p = true) (h : StN p t) (hl : DecP p D) : zaX fuel D t = some (dr p t.list D.length D) ∧ zdV fuel p t.list D = some (dr p t.list D.length D) := by
  have hS := h.ok; have hlen := hl.len; unfold zaX zdV; rw [fN (by unfold dW; omega)];simp only [dQ]
  have key : ∀ (i : Nat) (k : List GChoice), i ≤ k.length → k.Sublist D → kh (fun (i_5 : Nat) (next4 : List GChoice → Option (List GChoice)) (kept_3 : List GChoice) =>
      eG (dW kept_3.length 16) <|
      (zfv kept_3 (i_5 : Int) ((i_5 : Int) + 1)).bind fun r24 =>
      (l5 r24).bind fun r28 =>
      (zao fuel t r28).bind fun r29 =>
      (bif r29.1 then
        next4 r24
        else
        next4 kept_3)) (fun kept_3 => some kept_3) i k = some (dr p t.list i k) ∧ kh (fun (i_5 : Nat) (next4 : List GChoice → Option (List GChoice)) (out_3 : List GChoice) =>
      (zbg out_3 (i_5 : Int)).bind fun r24 =>
      (zdd fuel p t.list r24).bind fun r25 =>
      (bif !r25.2 then
        (zbg out_3 (i_5 : Int)).bind fun r32 =>
        next4 r32
        else
        next4 out_3)) (fun out_3 => some out_3) i k = some (dr p t.list i k) := by
    intro i
    induction i with
    | zero => intro k _ hk; exact ⟨rfl, rfl⟩
    | succ i ih =>
      intro k hi hk; have hkl := hk.length_le; have hd := hl.sub ((zjF k i).trans hk); have hw := zox (l := k) (i := i) a6
      have e1 : ∀ X : List GChoice → Option (List GChoice), (eG (dW k.length 16) <| (zfv k (i : Int) ((i : Int) + 1)).bind fun r24 => (l5 r24).bind fun r28 => (zao fuel t r28).bind fun r29 => (bif r29.1 then X r24 else X k)) = (bif !(dN p t.list (wo k i)).2 then X (wo k i) else (X k : Option (List GChoice))) := fun X => by
        rw [fN (by unfold dW; omega), zne a6, Option.bind_some, zfZ hd.nd a6, Option.bind_some, zib hf hok h hd, Option.bind_some]
      have e2 : ∀ X : List GChoice → Option (List GChoice), ((zbg k (i : Int)).bind fun r24 => (zdd fuel p t.list r24).bind fun r25 => (bif !r25.2 then (zbg k (i : Int)).bind fun r32 => X r32 else X k)) = (bif !(dN p t.list (wo k i)).2 then X (wo k i) else (X k : Option (List GChoice))) := fun X => by
        rw [zkx a6 a6, Option.bind_some]
        show (zbJ fuel p t.list (wo k i)).bind _ = _
        rw [zj1 hf hok hS hd, Option.bind_some]; rfl
      rw [dr]
      cases hb : !(dN p t.list (wo k i)).2 with
      | true =>
        obtain ⟨q1, q2⟩ := ih (wo k i) a6 ((zjF k i).trans hk); refine ⟨(e1 _).trans ?_, (e2 _).trans ?_⟩
        · rw [hb, cond_true]; exact q1
        · rw [hb, cond_true]; exact q2
      | false =>
        obtain ⟨q1, q2⟩ := ih k a6 hk; refine ⟨(e1 _).trans ?_, (e2 _).trans ?_⟩
        · rw [hb, cond_false]; exact q1
        · rw [hb, cond_false]; exact q2
  exact key D.length D (Nat.le_refl _) (.refl _)
def jJ (D r:List GChoice):Nat:=((List.range D.length).find? fun i=>decide ((cI D i).Station=(cI r (((r.length:Int) - 1).toNat)).Station)&&decide ((cI D i).Channel=(cI r (((r.length:Int) - 1).toNat)).Channel)).getD 0
theorem zk2 {D r:List GChoice}(hs:r.Sublist D)(hne:r.length≠0)(hD:D.length≤1000):jJ D r<D.length∧cI D (jJ D r)∈r∧mi D (cI r (((r.length:Int) - 1).toNat))=(jJ D r:Int)∧zeI D r=some (D.take (jJ D r)):=by
 have hv0:cI r (((r.length:Int) - 1).toNat)∈r:=eo a6;have hv:cI r (((r.length:Int) - 1).toNat)∈D:=hs.subset hv0
 have e1:mi D (cI r (((r.length:Int) - 1).toNat))=match (List.range D.length).find? (fun i=>(decide ((cI r (((r.length:Int) - 1).toNat)).Station=(cI D i).Station)&&decide ((cI r (((r.length:Int) - 1).toNat)).Channel=(cI D i).Channel))) with|some i=>(i:Int)|none=> -1:=by
  unfold mi;refine ku ?_;exact zbZ (fun i=>(decide ((cI r (((r.length:Int) - 1).toNat)).Station=(cI D i).Station)&&decide ((cI r (((r.length:Int) - 1).toNat)).Channel=(cI D i).Channel))) (fun i=>(i:Int)) (fun i next _=>rfl)
 have e2:zeI D r=match (List.range D.length).find? (fun i=>(decide ((cI D i).Station=(cI r (((r.length:Int) - 1).toNat)).Station)&&decide ((cI D i).Channel=(cI r (((r.length:Int) - 1).toNat)).Channel))) with|some i=>some (D.take i)|none=>some []:=by
  unfold zeI;rw [fN ⟨by omega,by omega⟩];refine ku ?_;refine zbZ (fun i=>(decide ((cI D i).Station=(cI r (((r.length:Int) - 1).toNat)).Station)&&decide ((cI D i).Channel=(cI r (((r.length:Int) - 1).toNat)).Channel))) (fun i=>some (D.take i)) (fun i next hi=>?_);rw [List.nil_append,fN (by unfold dW;rw [List.length_take];omega)]
 have e3:(fun i=>(decide ((cI r (((r.length:Int) - 1).toNat)).Station=(cI D i).Station)&&decide ((cI r (((r.length:Int) - 1).toNat)).Channel=(cI D i).Channel)))=fun i=>(decide ((cI D i).Station=(cI r (((r.length:Int) - 1).toNat)).Station)&&decide ((cI D i).Channel=(cI r (((r.length:Int) - 1).toNat)).Channel)):=by
  funext i;rw [decide_eq_decide.2 eq_comm,decide_eq_decide.2 (eq_comm (a:=(cI r (((r.length:Int) - 1).toNat)).Channel))]
 rw [e1,e2,e3];unfold jJ;generalize cI r (((r.length:Int) - 1).toNat)=v at*
 cases hf:(List.range D.length).find? fun i=>(decide ((cI D i).Station=v.Station)&&decide ((cI D i).Channel=v.Channel)) with
 |none=>
  obtain ⟨i,hi,rfl⟩:=gp hv;have:=List.find?_eq_none.1 hf i (List.mem_range.2 hi);rw [decide_eq_true rfl,decide_eq_true rfl] at this;exact absurd rfl this
 |some i=>
  have h1:=List.find?_some hf;rw [Bool.and_eq_true,decide_eq_true_eq,decide_eq_true_eq] at h1;refine ⟨List.mem_range.1 (List.mem_of_find?_eq_some hf),?_,rfl,rfl⟩
  show cI D i∈r
  have:cI D i=v:=by
   cases v;cases hx:cI D i;rw [hx] at h1;obtain ⟨h2,h3⟩:=h1;simp only at h2 h3;rw [h2,h3]
  rw [this];exact hv0
theorem zka (h:DecP p D){c:GChoice}(hc:c∈D):kb c=true:=by
 have:=h.good c hc;unfold kb;exact decide_eq_true a6
theorem zlQ {c:GChoice}(hg:kb c=true)(hc:c∈D):iQ (dK p D) c.Station c.Channel=true:=by
 have key:∀(l:List GChoice) (d:List GDomain),(iQ d c.Station c.Channel=true∨c∈l)→iQ (l.foldl (fun d c=>d.map (fR true c)) d) c.Station c.Channel=true:=by
  intro l
  induction l with
  |nil=>intro d h;exact h.resolve_right b2
  |cons a r ih=>
   intro d h;refine ih _ ?_;have hf:=zdO true a;rcases h with h|h
   ·left;rw [eT] at h ⊢;intro x hx e k hk;obtain ⟨y,hy,rfl⟩:=List.mem_map.1 hx;rw [hf.st] at e;exact h y hy e k ((hf.mem _ _).1 hk).1
   ·rcases List.mem_cons.1 h with rfl|h
    ·left;rw [eT];intro x hx e k hk;obtain ⟨y,hy,rfl⟩:=List.mem_map.1 hx;rw [hf.st] at e;exact (((hf.mem _ _).1 hk).2 hg e).2 rfl
    ·exact .inr h
 exact key D p.Domains (.inr hc)
theorem zlB (hok:eN p=true){d:List GDomain}(h:SubP p d){x:GDomain}(hx:x∈d):x.Channels.Nodup:=by
 obtain ⟨_,hbd,_,_⟩:=zfF hok;exact ((hbd.ord h.len h.ord).ch x hx).2
theorem zli {l:List Int}{c:Int}(hn:l.Nodup)(h:∀k∈l,k=c):l.length≤1:=by
 match l,hn,h with
 | [],_,_=>simp
 | [_],_,_=>simp
 |a :: b :: r,hn,h=>
  have h1:=h a b2;have h2:=h b b2;rw [h1,h2] at hn;simp at hn
theorem zn5 (hok:eN p=true)(h:DecP p D){d:List GDomain}(h3:SubP p d)(h4:SubD d (dK p D)){x:GDomain}(hx:x∈d)(hl:1<x.Channels.length):∀c∈D,c.Station≠x.Station:=fun c hc e=>by
 have h5:=zcq h4 (zlQ (p:=p) (zka h hc) hc);have h6:=zli (zlB hok h3 hx) (eT.1 h5 x hx e.symm);omega
theorem znh (hok:eN p=true)(h:DecP p D){d:List GDomain}(h3:SubP p d)(h4:SubD d (dK p D)){x:GDomain}(hx:x∈d)(hl:1<x.Channels.length){c:GChoice}(e:c.Station=x.Station)(hc:c.Channel∈x.Channels):DecP p (D++[c]):=by
 have hG:=zfb hok;have hn:=zn5 hok h h3 h4 hx hl;have hst:=h3.st hG hx;have hch:=h3.ch hG hx hc;refine ⟨fun a ha=>?_,fun a ha=>?_,?_⟩
 ·rcases List.mem_append.1 ha with ha|ha
  ·exact h.good a ha
  ·rw [List.mem_singleton.1 ha];omega
 ·rcases List.mem_append.1 ha with ha|ha
  ·exact h.has a ha
  ·rw [List.mem_singleton.1 ha];obtain ⟨i,hi,rfl⟩:=gp hx; (have hi':i<p.Domains.length:=by rw [←h3.len];exact hi);have h5:=h3.sub.2 i hi';exact ir.2 ⟨_,eo hi',by rw [e];exact h5.1.symm,h5.2 _ hc⟩
 ·rw [List.map_append,List.nodup_append];refine ⟨h.nd,by simp,fun a ha b hb=>?_⟩;obtain ⟨y,hy,rfl⟩:=List.mem_map.1 ha;simp only [List.map_cons,List.map_nil,List.mem_singleton] at hb;rw [hb,e];exact hn y hy
structure InvS (p:GProblem) (S:List (List GChoice)) (D:List GChoice):Prop where
 ok:∀g∈S,ic p g=true
 dec:DecP p D
 out:∀g∈S,¬ ∀c∈g,c∈D
 fol:∀i,i<S.length→Conf p (S.take i) (cI S i)
 nd:S.Nodup
 le:S.length≤4096
theorem InvS.nil:InvS p [] []:=⟨fun _ h=>(by cases h),⟨fun _ h=>(by cases h),fun _ h=>(by cases h),List.Pairwise.nil⟩,fun _ h=>(by cases h),fun i h=>absurd h (Nat.not_lt_zero i),List.Pairwise.nil,Nat.zero_le _⟩
theorem Conf.sort {l:List GChoice}(h:Conf p S l):Conf p S (iz l):=fun e he=>by
 rw [zjv (np l)];exact h e he
theorem InvS.learn (hok:eN p=true)(h:InvS p S D){g:List GChoice}(hs:g.Sublist D)(hc:Conf p S g):(∀x∈S++[iz g],ic p x=true)∧(∀i,i<(S++[iz g]).length→Conf p ((S++[iz g]).take i) (cI (S++[iz g]) i))∧(S++[iz g]).Nodup:=by
 refine ⟨fun x hx=>?_,fun i hi=>?_,?_⟩
 ·rcases List.mem_append.1 hx with hx|hx
  ·exact h.ok x hx
  ·rw [List.mem_singleton.1 hx];exact zjA (h.dec.sub hs)
 ·rw [List.length_append,List.length_singleton] at hi;rcases Nat.lt_or_ge i S.length with h1|h1
  ·rw [List.take_append_of_le_length a6,zc6 h1];exact h.fol i h1
  ·(obtain rfl:i=S.length:=by omega);rw [List.take_left,zcQ rfl];exact hc.sort
 ·rw [List.nodup_append];refine ⟨h.nd,by simp,fun a ha b hb e=>?_⟩;rw [List.mem_singleton.1 hb] at e;refine h.out a ha fun c hc=>?_;rw [e] at hc;exact hs.subset ((np g).mem_iff.1 hc)
theorem znc {i:Nat}(hn:D.Nodup)(hi:i<D.length):cI D i∉D.take i:=fun hm=>by
 obtain ⟨j,hj,e⟩:=List.mem_iff_getElem.1 hm;rw [List.length_take] at hj;rw [List.getElem_take,d9 hi] at e;have:=(List.getElem_inj hn).1 e;omega
theorem DecP.nodup (h:DecP p D):D.Nodup:=(List.pairwise_map.1 h.nd).imp fun {a b} hab e=>hab (by rw [e])
theorem InvS.cut (hok:eN p=true)(h:InvS p S D){g:List GChoice}(hs:g.Sublist D)(hc:Conf p S g)(h0:g.length≠0)(h4:S.length≠4096):InvS p (S++[iz g]) (D.take (jJ D g)):=by
 obtain ⟨h1,h2,h3⟩:=h.learn hok hs hc;have hl:=h.dec.len;obtain ⟨k1,k2,_,_⟩:=zk2 hs h0 a6;refine ⟨h1,h.dec.sub (List.take_sublist _ _),fun x hx=>?_,h2,h3,by have:=h.le;rw [List.length_append,List.length_singleton];omega⟩;rcases List.mem_append.1 hx with hx|hx
 ·exact fun hall=>h.out x hx fun c hc=>List.mem_of_mem_take (hall c hc)
 ·rw [List.mem_singleton.1 hx];exact fun hall=>znc h.dec.nodup k1 (hall _ ((np g).mem_iff.2 k2))
theorem InvS.decide (hok:eN p=true)(h:InvS p S D)(hr:(dN p S D).2=true){x:GDomain}(hx:x∈(dN p S D).1)(hl:1<x.Channels.length){c:GChoice}(e:c.Station=x.Station)(hc:c.Channel∈x.Channels):InvS p S (D++[c]):=by
 rcases zfJ hok h.ok h.dec with ⟨_,q2,q3,q4,_⟩|⟨q1,_⟩
 ·refine ⟨h.ok,znh hok h.dec q3 q4 hx hl e hc,fun g hg hall=>?_,h.fol,h.nd,h.le⟩;have h1:=q2.calm g hg x hx _ hc
  have h2:c∈g:=Classical.byContradiction fun hn=>h.out g hg fun y hy=>by
   rcases List.mem_append.1 (hall y hy) with h3|h3
   ·exact h3
   ·rw [List.mem_singleton.1 h3] at hy;exact absurd hy hn
  have h3:gB (dN p S D).1 g x.Station c.Channel=true:=by
   unfold gB;rw [Bool.and_eq_true,List.any_eq_true,List.all_eq_true];refine ⟨⟨c,h2,by rw [e];simp⟩,fun y hy=>?_⟩;rcases List.mem_append.1 (hall y hy) with h3|h3
   ·rw [zcq q4 (zlQ (p:=p) (zka h.dec h3) h3),Bool.or_true]
   ·rw [List.mem_singleton.1 h3,e];simp
  rw [h3] at h1;cases h1
 ·rw [q1] at hr;cases hr
noncomputable def iX (p:GProblem) (hints:List GChoice) (b:Int) (S:List (List GChoice)) (D:List GChoice) (n:Int):GResult ⊕ (List (List GChoice)×List GChoice×Int):=
 bif (dN p S D).2 then
  (bif ((zbp (dN p S D).1 hints).getD (⟨0,0⟩,false)).2 then
   (bif decide (n=b) then .inl ⟨0,[],[],n⟩ else .inr (S,D++[((zbp (dN p S D).1 hints).getD (⟨0,0⟩,false)).1],n+1))
  else .inl ⟨1,fq (dN p S D).1,[],n⟩)
 else
  bif decide (S.length=4096) then .inl ⟨0,[],[],n⟩ else
  bif (dr p S D.length D).isEmpty then .inl ⟨2,[],S++[iz (dr p S D.length D)],n⟩ else
  .inr (S++[iz (dr p S D.length D)],D.take (jJ D (dr p S D.length D)),n)
noncomputable def gN (p:GProblem) (hints:List GChoice) (b:Int):Nat→List (List GChoice)→List GChoice→Int→Option GResult
 |0,_,_,_=>none
 |k+1,S,D,n=>match iX p hints b S D n with
  | .inl r=>some r
  | .inr s=>gN p hints b k s.1 s.2.1 s.2.2
end
section
variable {p:GProblem}{f:Int→Int}{d:List GDomain}
theorem zj6 {i:Nat}(hi:i<d.length):cI (fW d f) i=⟨(cI d i).Station,[f (cI d i).Station]⟩:=ie hi
theorem zjY:(fW d f).length=d.length:=List.length_map _
theorem FineP.sub {l:List GChoice}(h:FineP p l):SubD (fW p.Domains (ff l)) p.Domains:=by
 refine ⟨zjY,fun i hi=>?_⟩;rw [zj6 hi];refine ⟨rfl,fun c hc=>?_⟩;simp at hc;rw [hc];exact (h.dom _ (eo hi)).1
theorem zkl {m:List GDomain×Bool}{d:List GDomain}(hG:GG p)(hd:SubD d p.Domains)(hm:PropD p d m)(h2:m.2=true)(hl:(gH m).length=p.Domains.length):FineP p (gH m):=by
 rcases hm with ⟨_,hc,hs,_⟩|⟨h1,_⟩
 ·have hsub:=hs.1.trans hd; (have e1:gH m=fq m.1:=by unfold gH;rw [h2];rfl)
  have hall:∀x∈m.1,x.Channels.length=1:=by
   rw [e1] at hl;unfold fq at hl;rw [List.length_map,←hsub.1] at hl;have:=List.length_filter_eq_length_iff.1 hl;intro x hx;simpa using this x hx
  have e2:gH m=m.1.map fun x=>⟨x.Station,cI x.Channels 0⟩:=by
   rw [e1];unfold fq;rw [List.filter_eq_self.2 (fun x hx=>by simpa using hall x hx)]
  have hlen:(gH m).length=p.Domains.length:=hl
  have hn:∀i,i<p.Domains.length→cI (gH m) i=⟨(cI p.Domains i).Station,cI (cI m.1 i).Channels 0⟩:=fun i hi=>by
   (have hi':i<m.1.length:=by rw [hsub.1];exact hi);rw [e2,ie hi',(hsub.2 i hi).1]
  have hch:∀i,i<p.Domains.length→(cI m.1 i).Channels=[cI (cI m.1 i).Channels 0]:=fun i hi=>by
   obtain ⟨c,hc⟩:=List.length_eq_one_iff.1 (hall _ (eo (show i<m.1.length by rw [hsub.1];exact hi)));rw [hc];rfl
  have hin:∀i,i<p.Domains.length→cI (cI m.1 i).Channels 0∈(cI p.Domains i).Channels:=fun i hi=>(hsub.2 i hi).2 _ (by rw [hch i hi];simp [cI])
  have hval:ValidL (gH m):=by
   refine ⟨fun c hc=>?_,fun i j hij hj=>?_⟩
   ·obtain ⟨i,hi,rfl⟩:=gp hc;rw [hlen] at hi;rw [hn i hi];have h3:=hG.st _ (eo hi);have h4:=(hG.chs _ (eo hi)).2 _ (hin i hi);exact ⟨h3.1,h3.2,h4.1,h4.2⟩
   ·rw [hlen] at hj;rw [hn i a6,hn j hj];exact hG.inc i j hij hj
  have hon:∀i,i<p.Domains.length→ff (gH m) (cI p.Domains i).Station=cI (cI m.1 i).Channels 0:=fun i hi=>by
   have:=zjW hval (eo (show i<(gH m).length by rw [hlen];exact hi));rw [hn i hi] at this;exact this
  have es:m.1=fW p.Domains (ff (gH m)):=by
   refine zd8 (by rw [zjY,hsub.1]) fun i hi=>?_; (have hi':i<p.Domains.length:=by rw [←hsub.1];exact hi);rw [zj6 hi',hon i hi',←hch i hi',←(hsub.2 i hi').1]
  have hr:∀x∈p.Domains,2≤ff (gH m) x.Station∧ff (gH m) x.Station≤51:=fun x hx=>by
   obtain ⟨i,hi,rfl⟩:=gp hx;rw [hon i hi];exact (hG.chs _ (eo hi)).2 _ (hin i hi)
  rw [es] at hc;have hb:=(zgk hG (fun x hx=>by have:=hr x hx;omega)).1 hc;refine ⟨hval,fun x hx=>?_,fun c hc=>?_,hb.1,hb.2⟩
  ·have:=hr x hx;obtain ⟨i,hi,rfl⟩:=gp hx;refine ⟨by rw [hon i hi];exact hin i hi,by omega⟩
  ·obtain ⟨i,hi,rfl⟩:=gp hc;rw [hlen] at hi;rw [hn i hi];exact eA.2 ⟨_,eo hi,rfl⟩
 ·rw [h1] at h2;cases h2
end
section
variable {p:GProblem}{m:List GDomain×Bool}{d:List GDomain}
end
section
variable {p:GProblem}{S:List (List GChoice)}{D hints:List GChoice}{k:Nat}{b n:Int}{r:GResult}
theorem view (hok : eN p = true) (hv : ValidL hints) (h : InvS p S D) :
    ((dN p S D).2 = true ∧ (∀ x ∈ (dN p S D).1, x.Channels.length ≤ 1) ∧ za3 (dN p S D).1 hints = some (⟨0, 0⟩, 9) ∧ zbp (dN p S D).1 hints = some (⟨0, 0⟩, false) ∧ ∀ b k n, gN p hints b (k + 1) S D n = some ⟨1, fq (dN p S D).1, [], n⟩) ∨
    ((dN p S D).2 = true ∧ ∃ c, InvS p S (D ++ [c]) ∧ (∃ x ∈ (dN p S D).1, c.Station = x.Station ∧ c.Channel ∈ x.Channels ∧ 1 < x.Channels.length ∧ ∀ h ∈ hints, h.Station = x.Station → h.Channel ∈ x.Channels → c = h) ∧ za3 (dN p S D).1 hints = some (c, 0) ∧ zbp (dN p S D).1 hints = some (c, true) ∧ ∀ b k n, gN p hints b (k + 1) S D n = bif decide (n = b) then some ⟨0, [], [], n⟩ else gN p hints b k S (D ++ [c]) (n + 1)) ∨
    ((dN p S D).2 = false ∧ S.length = 4096 ∧ ∀ b k n, gN p hints b (k + 1) S D n = some ⟨0, [], [], n⟩) ∨
    ((dN p S D).2 = false ∧ S.length ≠ 4096 ∧ dr p S D.length D = [] ∧ Conf p S [] ∧ ∀ b k n, gN p hints b (k + 1) S D n = some ⟨2, [], S ++ [[]], n⟩) ∨
    ((dN p S D).2 = false ∧ S.length ≠ 4096 ∧ ∃ g, g = dr p S D.length D ∧ g.length ≠ 0 ∧ g.Sublist D ∧ Conf p S g ∧ InvS p (S ++ [iz g]) (D.take (jJ D g)) ∧ (D.take (jJ D g)).length < D.length ∧ ∀ b k n, gN p hints b (k + 1) S D n = gN p hints b k (S ++ [iz g]) (D.take (jJ D g)) n) := by
  have hq := zfJ hok h.ok h.dec
  cases hr : (dN p S D).2 with
  | true =>
    have hd : SubP p (dN p S D).1 := by
      rcases hq with ⟨_, _, q3, _⟩ | ⟨q1, _⟩
      · exact q3
      · rw [q1] at hr; cases hr
    have hb := ziX (zhy hok hd) hv; rcases hb with ⟨c, e1, e2, x, hx, e3, e4, e5, e6⟩ | ⟨e1, e2, e3⟩
    · refine .inr (.inl ⟨rfl, c, h.decide hok hr hx e5 e3 e4, ⟨x, hx, e3, e4, e5, e6⟩, e2, e1, fun b k n => ?_⟩); rw [gN, iX, hr, cond_true, e1, Option.getD_some, cond_true]
      cases decide (n = b) <;> rfl
    · refine .inl ⟨rfl, e3, e2, e1, fun b k n => ?_⟩; rw [gN, iX, hr, cond_true, e1]; rfl
  | false =>
    have hc : Conf p S D := hq.conf.1 hr; have hg := zdq hok h.ok D.length D h.dec hc; have hs := zdf (p := p) (S := S) D.length D; by_cases h4 : S.length = 4096
    · refine .inr (.inr (.inl ⟨rfl, h4, fun b k n => ?_⟩)); rw [gN, iX, hr, cond_false, decide_eq_true h4, cond_true]
    · by_cases h0 : dr p S D.length D = []
      · refine .inr (.inr (.inr (.inl ⟨rfl, h4, h0, by rw [h0] at hg; exact hg, fun b k n => ?_⟩))); rw [gN, iX, hr, cond_false, decide_eq_false h4, cond_false, h0]; rfl
      · have hl : (dr p S D.length D).length ≠ 0 := fun e => h0 (List.eq_nil_of_length_eq_zero e); have hi := (zk2 hs hl (by have := h.dec.len; omega)).1; refine .inr (.inr (.inr (.inr ⟨rfl, h4, _, rfl, hl, hs, hg, h.cut hok hs hg hl h4, ?_, fun b k n => ?_⟩)))
        · rw [List.length_take]; omega
        · have h5 : (dr p S D.length D).isEmpty = false := by
            cases he : dr p S D.length D with
            | nil => exact absurd he h0
            | cons a t => rfl
          rw [gN, iX, hr, cond_false, decide_eq_false h4, cond_false, h5, cond_false]
theorem zgG (hok:eN p=true)(hv:ValidL hints):∀(k:Nat) (S:List (List GChoice)) (D:List GChoice) (n:Int),InvS p S D→n≤b→2* (b - n).toNat+D.length<k→∃r,gN p hints b k S D n=some r
 |0,S,D,n,_,_,hk=>absurd hk (Nat.not_lt_zero _)
 |k+1,S,D,n,h,hn,hk=>by
  rcases view hok hv h with ⟨_,_,_,_,e⟩|⟨_,c,h1,_,_,_,e⟩|⟨_,_,e⟩|⟨_,_,_,_,e⟩|⟨_,_,g,_,_,_,_,h1,h2,e⟩
  ·exact ⟨_,e _ _ _⟩
  ·rw [e];by_cases hb:n=b
   ·rw [decide_eq_true hb];exact ⟨_,rfl⟩
   ·rw [decide_eq_false hb];exact zgG hok hv k S _ _ h1 a6 cD
  ·exact ⟨_,e _ _ _⟩
  ·exact ⟨_,e _ _ _⟩
  ·rw [e];exact zgG hok hv k _ _ _ h1 hn a6
theorem zlz (hok:eN p=true)(h:InvS p S D)(hr:(dN p S D).2=true)(h1:∀x∈(dN p S D).1,x.Channels.length≤1):FineP p (fq (dN p S D).1):=by
 rcases zfJ hok h.ok h.dec with ⟨_,q2,q3,_,_⟩|⟨q1,_⟩
 ·have e:fq (dN p S D).1=gH ((dN p S D).1,true):=rfl;rw [e];refine zkl (zfb hok) (d:=(dN p S D).1) q3.sub (.inl ⟨rfl,q2.cl,⟨.refl _,fun _ _=>List.Sublist.refl _⟩,fun _ _ h=>h⟩) rfl ?_;rw [←e];unfold fq;rw [List.length_map,List.filter_eq_self.2 (fun x hx=>?_),q3.len];have h2:=h1 x hx;have h3:=q2.cl.ne x hx;have:x.Channels.length≠0:=fun h0=>h3 (List.eq_nil_of_length_eq_zero h0);exact decide_eq_true a6
 ·rw [q1] at hr;cases hr
theorem zfm (hok:eN p=true)(hv:ValidL hints)(hb:b<4096):∀(k:Nat) (S:List (List GChoice)) (D:List GChoice) (n:Int),InvS p S D→n≤b→(S.length:Int)+D.length≤n→gN p hints b k S D n=some r→(n≤r.Steps∧r.Steps≤b)∧((r.Kind=1∧FineP p r.Assignment∧r.Learned=[])∨(r.Kind=0∧r.Steps=b∧r.Assignment=[]∧r.Learned=[])∨(r.Kind=2∧r.Assignment=[]∧∃S' D',InvS p S' D'∧Conf p S' []∧r.Learned=S'++[[]]))
 |0,S,D,n,_,_,_,hr=>by cases hr
 |k+1,S,D,n,h,hn,hl,hr=>by
  rcases view hok hv h with ⟨h1,h2,_,_,e⟩|⟨_,c,h1,_,_,_,e⟩|⟨_,h1,e⟩|⟨_,_,_,h1,e⟩|⟨_,_,g,_,_,_,_,h1,h2,e⟩
  ·rw [e] at hr;obtain rfl:=Option.some.inj hr;exact ⟨⟨Int.le_refl _,hn⟩, .inl ⟨rfl,zlz hok h h1 h2,rfl⟩⟩
  ·rw [e] at hr;by_cases hb':n=b
   ·rw [decide_eq_true hb'] at hr;obtain rfl:=Option.some.inj hr;exact ⟨⟨Int.le_refl _,hn⟩, .inr (.inl ⟨rfl,hb',rfl,rfl⟩)⟩
   ·rw [decide_eq_false hb'] at hr;obtain ⟨h2,h3⟩:=zfm hok hv hb k S _ _ h1 a6 cD hr;exact ⟨⟨by omega,h2.2⟩,h3⟩
  ·omega
  ·rw [e] at hr;obtain rfl:=Option.some.inj hr;exact ⟨⟨Int.le_refl _,hn⟩, .inr (.inr ⟨rfl,rfl,S,D,h,h1,rfl⟩)⟩
  ·rw [e] at hr;exact zfm hok hv hb k _ _ _ h1 hn cD hr
end
section
variable {p:GProblem}{S:List (List GChoice)}{D hints:List GChoice}{k:Nat}{b n:Int}{r:GResult}
theorem zna (hok:eN p=true)(h:InvS p S D)(hc:Conf p S [])(l:List GChoice):¬FineP p l:=fun hF=>by
 have hG:=zfb hok
 have key:∀i,i≤S.length→∀g∈S.take i,¬ ∀c∈g,c∈l:=by
  intro i
  induction i with
  |zero=>intro _ g hg;simp at hg
  |succ i ih=>
   intro hi g hg hall;rw [mv a6] at hg;rcases List.mem_append.1 hg with hg|hg
   ·exact ih a6 g hg hall
   ·obtain rfl:=List.mem_singleton.1 hg;exact h.fol i a6 _ (zgK hG hF (fun x hx=>h.ok x (List.mem_of_mem_take hx)) (ih a6) (zfI hG hF)) (znB hF hall (zil hF))
 exact hc _ (zgK hG hF h.ok (fun g hg=>key S.length (Nat.le_refl _) g (by rw [List.take_length];exact hg)) (zfI hG hF)) (zil hF)
theorem zoO {α:Type}[Inhabited α]{l:List α}{f:α→Int}(h:∀i j,i<j→j<l.length→f (cI l i)<f (cI l j)):l.Pairwise fun x y=>f x<f y:=by
 rw [List.pairwise_iff_getElem];intro i j hi hj hij;have:=h i j hij hj
 rwa [d9 hi,d9 hj] at this
end
section
variable {p:GProblem}{S:List (List GChoice)}{D hints:List GChoice}{b n:Int}{r:GResult}{fuel:Nat}
theorem zjM (hok:eN p=true)(hv:ValidL hints)(h:InvS p S D){s:List (List GChoice)×List GChoice×Int}(e:iX p hints b S D n= .inr s):InvS p s.1 s.2.1∧n≤s.2.2∧s.2.2≤n+1:=by
 have hq:=zfJ hok h.ok h.dec;unfold iX at e
 cases hr:(dN p S D).2 with
 |true=>
  rw [hr,cond_true] at e
  have hd:SubP p (dN p S D).1:=by
   rcases hq with ⟨_,_,q3,_⟩|⟨q1,_⟩
   ·exact q3
   ·rw [q1] at hr;cases hr
  rcases ziX (zhy hok hd) hv with ⟨c,e1,e2,x,hx,e3,e4,e5,e6⟩|⟨e1,e2,e3⟩
  ·rw [e1,Option.getD_some,cond_true] at e
   cases hb:decide (n=b) with
   |true=>rw [hb] at e;cases e
   |false=>
    rw [hb,cond_false] at e;obtain rfl:=Sum.inr.inj e;exact ⟨h.decide hok hr hx e5 e3 e4,by dsimp only;omega,Int.le_refl _⟩
  ·rw [e1,Option.getD_some] at e;cases e
 |false=>
  rw [hr,cond_false] at e;by_cases h4:S.length=4096
  ·rw [decide_eq_true h4] at e;cases e
  ·rw [decide_eq_false h4,cond_false] at e
   cases h5:(dr p S D.length D).isEmpty with
   |true=>rw [h5] at e;cases e
   |false=>
    rw [h5,cond_false] at e;obtain rfl:=Sum.inr.inj e; (have hl:(dr p S D.length D).length≠0:=fun e0=>by rw [List.eq_nil_of_length_eq_zero e0] at h5;cases h5);exact ⟨h.cut hok (zdf _ _) (zdq hok h.ok _ _ h.dec (hq.conf.1 hr)) hl h4,Int.le_refl _,by dsimp only;omega⟩
def zmY (o:List (List GChoice)×(List GChoice×Int×List GChoice×List GDomain×Bool×Int×List GChoice×List (List GChoice)×Int)):GResult:=⟨o.2.2.2.2.2.2.1,o.2.2.2.2.2.2.2.1,o.2.2.2.2.2.2.2.2.1,o.2.2.2.2.2.2.2.2.2⟩
abbrev StP:=Int×List (List GChoice)×List GChoice×Int×List GChoice×List GDomain×Bool×Int×List GChoice×List (List GChoice)×Int
abbrev OuP:=List (List GChoice)×(List GChoice×Int×List GChoice×List GDomain×Bool×Int×List GChoice×List (List GChoice)×Int)
theorem zeS (hok : eN p = true) (hv : ValidL hints) {f : (StP → Option OuP) → StP → Option OuP}
    (h1 : ∀ next S D dm cf n, InvS p S D → 0 ≤ n → n < 1000000 → (dN p S D).2 = true → f next (0, S, hints, b, D, dm, cf, 0, [], [], n) = next (2, S, hints, b, D, (dN p S D).1, false, 0, [], [], n))
    (h2 : ∀ next S D n, InvS p S D → 0 ≤ n → n < 1000000 → (dN p S D).2 = true → match iX p hints b S D n with
      | .inl r => ∃ o, zmY o = r ∧ f next (2, S, hints, b, D, (dN p S D).1, false, 0, [], [], n) = some o
      | .inr s => f next (2, S, hints, b, D, (dN p S D).1, false, 0, [], [], n) = next (0, s.1, hints, b, s.2.1, (dN p S D).1, false, 0, [], [], s.2.2))
    (h3 : ∀ next S D dm cf n, InvS p S D → 0 ≤ n → n < 1000000 → (dN p S D).2 = false → match iX p hints b S D n with
      | .inl r => ∃ o, zmY o = r ∧ f next (0, S, hints, b, D, dm, cf, 0, [], [], n) = some o
      | .inr s => ∃ dm' cf', f next (0, S, hints, b, D, dm, cf, 0, [], [], n) = next (0, s.1, hints, b, s.2.1, dm', cf', 0, [], [], s.2.2)) :
    ∀ (k : Nat) (S : List (List GChoice)) (D : List GChoice) (dm : List GDomain) (cf : Bool) (n : Int) (M : Nat), InvS p S D → 0 ≤ n → n + (k : Int) < 1000000 → 2 * k ≤ M → gN p hints b k S D n = some r → ∃ o, zmY o = r ∧ iC f M (0, S, hints, b, D, dm, cf, 0, [], [], n) = some o
  | 0, S, D, dm, cf, n, M, h, h0, hn, hM, hr => by cases hr
  | k + 1, S, D, dm, cf, n, M, h, h0, hn, hM, hr => by
    obtain ⟨M', rfl⟩ : ∃ M', M = M' + 1 + 1 := ⟨M - 2, by omega⟩; rw [gN] at hr; have hw : ∀ (m : Nat) (s : StP), iC f (m + 1) s = f (iC f m) s := fun _ _ => rfl
    cases hc : (dN p S D).2 with
    | true =>
      rw [hw, h1 _ _ _ _ _ _ h h0 a6 hc, hw]; have h4 := h2 (iC f M') S D n h h0 a6 hc
      cases hx : iX p hints b S D n with
      | inl q =>
        rw [hx] at hr h4; obtain rfl := Option.some.inj hr; exact h4
      | inr s =>
        rw [hx] at hr h4; obtain ⟨g1, g2, g3⟩ := zjM hok hv h hx; dsimp only at h4; rw [h4]; exact zeS hok hv h1 h2 h3 k _ _ _ _ _ M' g1 a6 a6 a6 hr
    | false =>
      rw [hw]; have h4 := h3 (iC f (M' + 1)) S D dm cf n h h0 a6 hc
      cases hx : iX p hints b S D n with
      | inl q =>
        rw [hx] at hr h4; obtain rfl := Option.some.inj hr; exact h4
      | inr s =>
        rw [hx] at hr h4; obtain ⟨g1, g2, g3⟩ := zjM hok hv h hx; obtain ⟨dm', cf', h4⟩ := h4; rw [h4]; exact zeS hok hv h1 h2 h3 k _ _ _ _ _ (M' + 1) g1 a6 a6 a6 hr
theorem zm7 {t:GStore}(h:StN p t){g:List GChoice}(hl:t.list.length=4096)(hg:ic p g=true):∃c:Int,c≠0∧zas t g=some (c,t.list):=by
 unfold zas zam;rw [cond_false,zhO h.tb,Option.bind_some,hg,Bool.not_true,cond_false,decide_eq_true a6,cond_true];exact ⟨_,by decide,rfl⟩
theorem znE {g:List GChoice}(h:ic p g=true):g.length≤512:=by
 obtain ⟨hv,hh⟩:=fw.1 h;refine DecP.len (p:=p) ⟨hv.good,hh,?_⟩;rw [List.Nodup,List.pairwise_map]; (exact (zoO hv.inc).imp fun {a b} hab e=>by rw [e] at hab;exact Int.lt_irrefl _ hab)
theorem zk5 {t:GStore}{x:Gsearch}{T:List (List GChoice)}(h1:zaX fuel x.decisions t=some [])(h2:zas t []=some (0,T))(h3:∀x∈T,x.length≤512)(h4:x.result.Learned.length+T.length≤10000):zaC fuel t x=some (true,T,(x.decisions,2,x.result.Learned++T)):=by
 have e:l5 []=some []:=zfZ b2 b2;unfold zaC;rw [h1,Option.bind_some,e,Option.bind_some,h2,Option.bind_some];simp only [decide_eq_false (show ¬ ¬(0:Int)=0 by omega),cond_false,dQ];have hl:decide ((([]:List GChoice).length:Int)=0)=true:=rfl;rw [hl,cond_true,fN (fun y hy=>by have:=h3 y hy;unfold dW;omega)];refine kv (fun i (s:List GChoice×Int×List (List GChoice))=>s=(x.decisions,2,x.result.Learned++T.take i)) (fun o=>o=_) b2 (fun s hs=>?_) (fun i s next hi hs hnx=>?_)
 ·rw [hs,Nat.sub_zero,List.take_length]
 ·rw [Nat.sub_zero] at hi;subst hs;dsimp only;rw [fN (by unfold dW;rw [List.length_append,List.length_append,List.length_singleton,List.length_take];omega)];exact hnx _ (by rw [mv hi,List.append_assoc])
theorem znJ (hf:100000≤fuel)(hok:eN p=true)(hv:ValidL hints)(hb:0≤b∧b≤100000){k:Nat}(hk:2*k≤fuel)(hk2:k<1000000)(hr:gN p hints b k [] [] 0=some r):zb8 fuel p hints b=some (r,0):=by
 have hp:ll hints=true:=by
  rw [zfG];exact eM.2 hv
 obtain ⟨t,g1,g2,g3⟩:=new_x (fuel:=fuel) hf hok;have hst:∀ {S D},InvS p S D→StN p ⟨t.domains,(t.start.1,t.start.2),S⟩:=fun h=>⟨g2.pr,g2.st,g2.tb,h.ok⟩;unfold zb8;rw [hok,hp,decide_eq_false a6,decide_eq_false a6];simp only [Bool.not_true,Bool.or_self,cond_false,g1,Option.bind_some,Option.isSome_some,cond_true,Option.getD_some,decide_eq_false (show ¬ ¬(0:Int)=0 by omega)]
 have key:∃o,zmY o=r∧zaN fuel t (Gsearch.mk () hints b [] [] false (GResult.mk 0 [] [] 0))=some o:=by
  unfold zaN;simp only [g3];refine zeS (p:=p) (hints:=hints) (b:=b) hok hv (fun next S D dm cf n h h0 hn hc=>?_) (fun next S D n h h0 hn hc=>?_) (fun next S D dm cf n h h0 hn hc=>?_) k [] [] [] false 0 fuel InvS.nil (Int.le_refl _) a6 hk hr
  ·obtain ⟨r1,r2⟩:=ziz (t:=⟨t.domains,(t.start.1,t.start.2),S⟩) hf hok (hst h) h.dec;dsimp only at r2 ⊢;simp only [dQ,decide_true,cond_true];rw [r1,Option.bind_some,r2,Option.bind_some];simp only [hc,Bool.not_true,Bool.not_false,cond_true]
  ·have hq:=zfJ hok h.ok h.dec;have hd:=h.dec.len
   have hsub:SubP p (dN p S D).1:=by
    rcases hq with ⟨_,_,q3,_⟩|⟨q1,_⟩
    ·exact q3
    ·rw [q1] at hc;cases hc
   have hcl:∀x∈(dN p S D).1,x.Channels≠[]:=by
    rcases hq with ⟨_,q2,_⟩|⟨q1,_⟩
    ·exact q2.cl.ne
    ·rw [q1] at hc;cases hc
   have hl:=hsub.len;have hn512:=(zfb hok).n;unfold iX;rw [hc,cond_true];have hu:∀(X Y Z:Option OuP),(bif decide ((2:Int)=0) then X else bif decide ((2:Int)=1) then Y else bif decide ((2:Int)=2) then Z else X)=Z:=fun _ _ _=>rfl;simp only [dQ,decide_eq_false (show ¬(2:Int)=0 by decide),decide_eq_false (show ¬(2:Int)=1 by decide),decide_true,cond_false,cond_true];unfold zaS;dsimp only;rcases ziX (zhy hok hsub) hv with ⟨c,e1,e2,x,hx,e3,e4,e5,e6⟩|⟨e1,e2,e3⟩
   ·rw [e1,e2];simp only [Option.bind_some,Option.getD_some,cond_true,decide_eq_false (show ¬ ¬(0:Int)=0 by omega),cond_false]
    cases hnb:decide (n=b) with
    |true=>exact ⟨_,rfl,rfl⟩
    |false=>
     simp only [cond_false];rw [fN (by unfold dW;rw [List.length_append,List.length_singleton];omega),nh a6];rfl
   ·rw [e1,e2];simp only [Option.bind_some,Option.getD_some,cond_false,decide_eq_true (show ¬(9:Int)=0 by omega),cond_true,dQ];refine ⟨(S,(hints,b,D,(dN p S D).1,false,1,fq (dN p S D).1,[],n)),rfl,?_⟩;generalize hdm:(dN p S D).1=d at*
    have hfx:fq d=d.map fun x=>⟨x.Station,cI x.Channels 0⟩:=by
     unfold fq
     rw [List.filter_eq_self.2 (fun x hx=>decide_eq_true (by
      have h1:=e3 x hx;have h2:x.Channels.length≠0:=fun h0=>hcl x hx (List.eq_nil_of_length_eq_zero h0)
      omega))]
    refine kv (fun i (s:List GChoice×Int×List GChoice×List GDomain×Bool×Int×List GChoice×List (List GChoice)×Int)=>s=(hints,b,D,d,false,1,(d.take i).map (fun x=>(⟨x.Station,cI x.Channels 0⟩:GChoice)),[],n)) (fun o=>Option.bind o _=_) rfl (fun s hs=>?_) (fun i s next hi hs hnx=>?_)
    ·rw [hs,Nat.sub_zero,List.take_length,hfx];rfl
    ·rw [Nat.sub_zero] at hi;have h2:(cI d i).Channels.length≠0:=fun h0=>hcl _ (eo hi) (List.eq_nil_of_length_eq_zero h0); (have hlen:(d.take i).length≤512:=by rw [List.length_take];omega);subst hs;dsimp only;rw [fN ⟨by omega,by omega⟩,fN (by unfold dW;rw [List.length_append,List.length_singleton,List.length_map];omega)];exact hnx _ (by rw [mv hi,List.map_append];rfl)
  ·obtain ⟨r1,r2⟩:=ziz (t:=⟨t.domains,(t.start.1,t.start.2),S⟩) hf hok (hst h) h.dec;obtain ⟨a1,_⟩:=zl3 (t:=⟨t.domains,(t.start.1,t.start.2),S⟩) hf hok (hst h) h.dec;have hs:=zdf (p:=p) (S:=S) D.length D;have hdr:=h.dec.sub hs;have hd:=h.dec.len;have hle:=h.le;have hrl:=hdr.len;have hkn:=zjA hdr;have hsl:(iz (dr p S D.length D)).length=(dr p S D.length D).length:=(np _).length_eq;dsimp only at r2 a1
   have hrun:∀ {X:List GDomain×Bool×Int→Option OuP} {Y:List GChoice→Option OuP},((l5 D).bind fun r21=>(zaq fuel ⟨t.domains,(t.start.1,t.start.2),S⟩ r21).bind X)=X ((dN p S D).1,!(dN p S D).2,0):=fun {X Y}=>by
    rw [r1,Option.bind_some,r2,Option.bind_some]
   simp only [dQ,decide_true,cond_true];rw [hrun (Y:=fun _=>none)];simp only [hc,Bool.not_true,Bool.not_false,cond_false];unfold iX;by_cases h5:S.length≠4096∧dr p S D.length D=[]
   ·obtain ⟨h4,h5⟩:=h5
    have hall:∀x∈S++[[]],x.length≤512:=fun x hx=>by
     rcases List.mem_append.1 hx with hx|hx
     ·exact znE (h.ok x hx)
     ·rw [List.mem_singleton.1 hx];simp
    have hadd:zas ⟨t.domains,(t.start.1,t.start.2),S⟩ []=some (0,S++[[]]):=by
     rw [zoZ (t:=⟨t.domains,(t.start.1,t.start.2),S⟩) (hst h) b3 b2,h5] at*
     rfl
    rw [zk5 (by rw [a1,h5]) hadd hall (by rw [List.length_append,List.length_singleton];show 0+_≤_;omega),hc,cond_false,decide_eq_false h4,cond_false,h5];exact ⟨_,rfl,rfl⟩
   unfold zaC;dsimp only;rw [hc,cond_false,a1,Option.bind_some,zfZ hdr.nd a6,Option.bind_some];by_cases h4:S.length=4096
   ·obtain ⟨c,c0,c1⟩:=zm7 (t:=⟨t.domains,(t.start.1,t.start.2),S⟩) (hst h) h4 hkn;rw [c1,decide_eq_true h4];simp only [Option.bind_some,decide_eq_true c0,cond_true];exact ⟨_,rfl,rfl⟩
   ·rw [zoZ (t:=⟨t.domains,(t.start.1,t.start.2),S⟩) (hst h) b3 a6,hkn,decide_eq_false h4];simp only [Option.bind_some,cond_true,cond_false,decide_eq_false (show ¬ ¬(0:Int)=0 by omega)];by_cases h6:dr p S D.length D=[]
    ·exact absurd ⟨h4,h6⟩ h5
    ·have hl:(dr p S D.length D).length≠0:=fun e=>h6 (List.eq_nil_of_length_eq_zero e)
     have h7:(dr p S D.length D).isEmpty=false:=by
      cases he:dr p S D.length D with
      |nil=>exact absurd he h6
      |cons a t=>rfl
     obtain ⟨k1,_,k3,_⟩:=zk2 hs hl a6;rw [decide_eq_false (show ¬((dr p S D.length D).length:Int)=0 by omega),h7,cond_false,cond_false,k3,fN ⟨by omega,by omega⟩,fN ⟨by omega,by omega⟩];exact ⟨_,_,rfl⟩
 obtain ⟨o,h1,h2⟩:=key;rw [h2,←h1];rfl
end
def zb1 (fuel:Nat)(p:GProblem)(hints:List GChoice)(budget:Int)(l:List GChoice):Option Bool:=
 (zcx fuel p).bind fun r14=>
 dQ (fun (x_1:Bool)=>
  (bif x_1 then
   (zbn fuel).bind fun r44=>
   some r44
   else
   (zb8 fuel p hints budget).bind fun r49=>
   (bif (((decide (¬r49.2=0))||(decide (r49.1.Steps<0)))||(decide (budget<r49.1.Steps))) then
    some false
    else
    (bif decide (r49.1.Kind=1) then
     dQ (fun (x_14:Bool)=>
      some x_14)
     (fun k15=>
      (bif (zbD p r49.1.Assignment) then
       (bif decide ((r49.1.Learned.length:Int)=0) then
        (zbn fuel).bind fun r80=>
        k15 r80
        else
        k15 false)
       else
       k15 false))
     else
     (bif decide (r49.1.Kind=0) then
      dQ (fun (x_19:Bool)=>
       some x_19)
      (fun k20=>
       (bif decide (r49.1.Steps=budget) then
        (bif decide (wI ((r49.1.Assignment.length:Int)+(r49.1.Learned.length:Int))=0) then
         (zbn fuel).bind fun r99=>
         k20 r99
         else
         k20 false)
        else
        k20 false))
      else
      (bif decide (r49.1.Kind=2) then
       (bif (((decide ((r49.1.Learned.length:Int)=0))||(decide (¬(r49.1.Assignment.length:Int)=0)))||(zbD p l)) then
        some false
        else
        dQ (fun (_:Unit)=>
         (zbn fuel).bind fun r164=>
         some r164)
        (fun k27=>
         dk (fun (i_29:Nat) (next28:Unit→Option Bool) (_:Unit)=>
          dQ (fun (x_31:Bool)=>
           (bif x_31 then
            some false
            else
            next28 ()))
          (fun k32=>
           (bif !((decide (((cI r49.1.Learned i_29).length:Int)=0)) == (decide ((i_29:Int)=((r49.1.Learned.length:Int) - 1)))) then
            k32 true
            else
            (zcB p (cI r49.1.Learned i_29)).bind fun r147=>
            (bif !r147 then
             k32 true
             else
             (zbU fuel p (r49.1.Learned.take i_29) (cI r49.1.Learned i_29)).bind fun r161=>
             k32 (!r161)))))
         (fun (_:Unit)=>
          k27 ()) (r49.1.Learned.length - 0) 0 ()))
       else
       some false))))))
 (fun k2=>
  (bif !r14 then
   k2 true
   else
   (bif decide (20<(hints.length:Int)) then
    k2 true
    else
    (bif decide (20<(l.length:Int)) then
     k2 true
     else
     (bif decide (budget<0) then
      k2 true
      else
      (bif decide (60<budget) then
       k2 true
       else
       (zb0 p).bind fun r36=>
       (bif !r36 then
        k2 true
        else
        k2 (!(mr hints)))))))))
theorem zeT (F0:Frz)(w:World)(hF0:F0.At w)(p:GProblem)(vp_0:Value)(cp_0:List (List Value))(hp_0:SlD cK F0 vp_0 2 cp_0 p.Domains)(vp_1:Value)(hp_1:SlC F0 vp_1 5 (p.Rules.Pairs.map cX))(vp_2:Value)(hp_2:SlC F0 vp_2 5 (p.Rules.Loads.map c4))(vp_3:Value)(hp_3:SlC F0 vp_3 4 (p.Rules.Caps.map dg))(hints:List GChoice)(vhints:Value)(hhints:SlC F0 vhints 2 (hints.map cH))(budget:Int)(l:List GChoice)(vl:Value)(hl:SlC F0 vl 2 (l.map cH))(htab:Tab w)(fuel:Nat)(hfu:100000≤fuel)(r:Bool)(hr:zb1 fuel p hints budget l=some r):Calls Tryz.prog 5 #[.agg [vp_0,vp_1,vp_2,vp_3].toArray,vhints, .int .i64 budget,vl] w fun e w'=>e= .returned (.bool r)∧Below w.heap.size w w':=by
 have hk:=hr;unfold zb1 at hk;haveI:=hp_0.1.oneC;haveI:=hp_1.oneC;haveI:=hp_2.oneC;haveI:=hp_3.oneC;haveI:=hhints.oneC;haveI:=hl.oneC;obtain ⟨S0,F1,rfl,hS0,hp0⟩:=fk hF0;have hM0:¬(fun _:Nat=>False) 0:=fun h=>h;have htk:∀ {hs:HS} {w':World},Hp w (fun _=>False) hs w'→Tab w':=fun hw=>htab.keptF hw;refine dA Tryz.func5 rfl rfl rfl hp0 ?_;refine iL ?_;rintro _ _ ⟨g4,rfl,rfl⟩;refine q2o ?_;have hq:=fu hk;clear hk;obtain ⟨r14,hr14,hk⟩:=hq; (try dsimp only at hk);have hq:=eD hk;clear hk;obtain ⟨k2,hk2,hk⟩:=hq; (try dsimp only at hk);refine c6 (ι:=Bool) (fun z=>[(1,vhints),(2, .int .i64 budget),(3,vl),(4, .pointer (some ⟨g4,0,none⟩)),(43, .bool z)]) (fun z=>[.row g4 31 [vp_0,vp_1,vp_2,vp_3], .fr F1]) (fun z=>k2 z=some r) ?_ ?_
 ·refine fi ?_;refine iN ?_;refine c8 (cM rfl rfl rfl (fun w hw=>zhG _ w (hw.fr (i:=1) rfl) p vp_0 cp_0 hp_0 vp_1 hp_1 vp_2 hp_2 vp_3 hp_3 fuel r14 hr14)) ?_;refine mz ?_;refine dj rfl rfl rfl (fun h3=>?_) (fun h3=>?_)
  ·replace hk:=dy hk h3;refine TL.run 27 rfl ?_;refine ep ?_;exact q4J
  ·replace hk:=dz hk h3;refine di ?_;refine cL (dp rfl rfl hhints (List.length_map _)) ?_;have hm18:hints.length≤9223372036854775807:=(List.length_map _)▸hhints.max;refine ft ?_;refine dj rfl rfl rfl (fun h4=>?_) (fun h4=>?_)
   ·have p4:=of_decide_eq_true h4;replace hk:=dy hk h4;refine TL.run 22 rfl ?_;refine ep ?_;exact q4J
   ·have p4:=of_decide_eq_false h4;replace hk:=dz hk h4;refine di ?_;refine q2K ?_;have hm23:l.length≤9223372036854775807:=(List.length_map _)▸hl.max;refine ft ?_;refine dj rfl rfl rfl (fun h5=>?_) (fun h5=>?_)
    ·have p5:=of_decide_eq_true h5;replace hk:=dy hk h5;refine TL.run 17 rfl ?_;refine ep ?_;exact q4J
    ·have p5:=of_decide_eq_false h5;replace hk:=dz hk h5;refine kV ?_;refine dj rfl rfl rfl (fun h6=>?_) (fun h6=>?_)
     ·have p6:=of_decide_eq_true h6;replace hk:=dy hk h6;refine TL.run 13 rfl ?_;refine ep ?_;exact q4J
     ·have p6:=of_decide_eq_false h6;replace hk:=dz hk h6;refine kV ?_;refine dj rfl rfl rfl (fun h7=>?_) (fun h7=>?_)
      ·have p7:=of_decide_eq_true h7;replace hk:=dy hk h7;refine TL.run 9 rfl ?_;refine ep ?_;exact q4J
      ·have p7:=of_decide_eq_false h7;replace hk:=dz hk h7;refine iN ?_;have hq:=fu hk;clear hk;obtain ⟨r36,hr36,hk⟩:=hq;refine c8 (cM rfl rfl rfl (fun w hw=>ze6 _ w (hw.fr (i:=1) rfl) p vp_0 cp_0 hp_0 vp_1 hp_1 vp_2 hp_2 vp_3 hp_3 r36 hr36)) ?_;refine fG ?_;refine ft ?_;refine dj rfl rfl rfl (fun h8=>?_) (fun h8=>?_)
       ·replace hk:=dy hk h8;refine mn ?_;exact q4J
       ·replace hk:=dz hk h8;refine di ?_;refine c8 (cM rfl rfl rfl (fun w hw=>zcM _ w (hw.fr (i:=1) rfl) hints vhints hhints)) ?_;refine q4n ?_;exact cP (!(mr hints)) hk (.c (.c (.c (.c (.c .nil))))) (List.Sublist.refl _)
 ·rintro x_1 hk;rw [←hk2] at hk; (try dsimp only at hk);refine T.cond rfl (fun h9=>?_) (fun h9=>?_)
  ·replace hk:=dy hk h9;refine T.seq ?_;have hq:=fu hk;clear hk;obtain ⟨r44,hr44,hk⟩:=hq; (try dsimp only at hk);refine fi ?_;refine c8 (cM rfl rfl rfl (fun w hw=>zc3 _ w (hw.fr (i:=1) rfl) (htab.keptF hw) fuel hfu r44 hr44)) ?_;refine mh ?_;refine kX ?_;obtain rfl:=Option.some.inj hk;exact eh
  ·replace hk:=dz hk h9;refine ke ?_;have hq:=fu hk;clear hk;obtain ⟨r49,hr49,hk⟩:=hq; (try dsimp only at hk);refine fi ?_;refine iN ?_;refine ef ?_;refine c8 (eP 1 rfl rfl rfl rfl (fun w hw hF=>zez _ w hF p vp_0 cp_0 hp_0 vp_1 hp_1 vp_2 hp_2 vp_3 hp_3 hints vhints hhints budget (htab.keptF hw) fuel hfu r49 hr49)) ?_;rintro _ _ ⟨⟨v49_0_1,v49_0_2,cs49_0_2⟩,F2,le1_2,⟨hf49_0_1,hf49_0_2⟩,rfl,rfl⟩;dsimp only at hf49_0_1 hf49_0_2 ⊢;haveI:=hf49_0_1.oneC;haveI:=hf49_0_2.1.oneC;refine ft ?_;refine iD ?_;rintro _ _ ⟨g9,rfl,rfl⟩;refine jW ?_;refine q2o ?_;refine c6 (ι:=Unit) (fun z=>[(2, .int .i64 budget),(3,vl),(4, .pointer (some ⟨g4,0,none⟩)),(9, .pointer (some ⟨g9,0,none⟩)),(64, .bool (((decide (¬r49.2=0))||(decide (r49.1.Steps<0)))||(decide (budget<r49.1.Steps))))]) (fun z=>[.row g9 46 [.int .i64 r49.1.Kind,v49_0_1,v49_0_2, .int .i64 r49.1.Steps], .row g4 31 [vp_0,vp_1,vp_2,vp_3], .fr F2]) (fun z=>True) ?_ ?_
   ·refine nv ?_;refine dj rfl rfl rfl (fun h10=>?_) (fun h10=>?_)
    ·have p10:=of_decide_eq_true h10;refine TL.run 10 rfl ?_;refine ep ?_;exact cP () trivial (.c (.c (.c (.c (.b (gk (gk h10)).symm .nil))))) (List.Sublist.refl _)
    ·have p10:=of_decide_eq_false h10;refine lr ?_;refine dj rfl rfl rfl (fun h11=>?_) (fun h11=>?_)
     ·have p11:=of_decide_eq_true h11;refine mO ?_;exact cP () trivial (.c (.c (.c (.c (.b (gk (iE h10 h11)).symm .nil))))) (List.Sublist.refl _)
     ·have p11:=of_decide_eq_false h11;refine lr ?_;refine ep ?_;exact cP () trivial (.c (.c (.c (.c (.b (f9 (iE h10 h11)) .nil))))) (List.Sublist.refl _)
   ·rintro _ _;refine T.cond rfl (fun h12=>?_) (fun h12=>?_)
    ·replace hk:=dy hk h12;refine jc ?_;obtain rfl:=Option.some.inj hk;exact eh
    ·have p12:=h12; (try simp only [cT] at p12);replace hk:=dz hk h12;refine jT ?_;refine eB ?_;refine cS (T.block (df ?_));refine jm ?_;refine T.cond rfl (fun h13=>?_) (fun h13=>?_)
     ·have p13:=of_decide_eq_true h13;replace hk:=dy hk h13;refine T.seq ?_; (try dsimp only at hk);have hq:=eD hk;clear hk;obtain ⟨k15,hk15,hk⟩:=hq; (try dsimp only at hk);refine c6 (ι:=Bool) (fun z=>[(8, .bool z)]) (fun z=>[.fr F2]) (fun z=>k15 z=some r) ?_ ?_
      ·refine fi ?_;refine q2I ?_;refine eB ?_;refine c8 (cM rfl rfl rfl (fun w hw=>zfN _ w (hw.fr (i:=2) rfl) p vp_0 cp_0 (SlD.mono (rep:=cK) (fun _ _ _ _=>GDomain.mono) hp_0 le1_2) vp_1 (SlC.mono hp_1 le1_2) vp_2 (SlC.mono hp_2 le1_2) vp_3 (SlC.mono hp_3 le1_2) r49.1.Assignment v49_0_1 hf49_0_1)) ?_;refine mh ?_;refine dj rfl rfl rfl (fun h16=>?_) (fun h16=>?_)
       ·replace hk:=dy hk h16;refine eB ?_;refine q3I ?_;have hm76:r49.1.Learned.length≤9223372036854775807:=hf49_0_2.2.1▸hf49_0_2.1.max;refine ft ?_;refine dj rfl rfl rfl (fun h17=>?_) (fun h17=>?_)
        ·have p17:=of_decide_eq_true h17;replace hk:=dy hk h17;have hq:=fu hk;clear hk;obtain ⟨r80,hr80,hk⟩:=hq;refine c8 (cM rfl rfl rfl (fun w hw=>zc3 _ w (hw.fr (i:=2) rfl) (htab.keptF hw) fuel hfu r80 hr80)) ?_;refine q4n ?_;refine mN ?_;exact cP r80 hk (.c .nil) (List.Sublist.refl _)
        ·have p17:=of_decide_eq_false h17;replace hk:=dz hk h17;refine ft ?_;refine ep ?_;refine mN ?_;exact q45
       ·replace hk:=dz hk h16;refine TL.run 9 rfl ?_;refine ep ?_;refine mN ?_;exact q45
      ·rintro x_14 hk;rw [←hk15] at hk; (try dsimp only at hk);refine T.ret (eu (dV ?_));obtain rfl:=Option.some.inj hk;exact eh
     ·have p13:=of_decide_eq_false h13;replace hk:=dz hk h13;refine iv ?_;refine cS ?_;refine T.cond rfl (fun h18=>?_) (fun h18=>?_)
      ·have p18:=of_decide_eq_true h18;replace hk:=dy hk h18;refine T.seq ?_; (try dsimp only at hk);have hq:=eD hk;clear hk;obtain ⟨k20,hk20,hk⟩:=hq; (try dsimp only at hk);refine c6 (ι:=Bool) (fun z=>[(8, .bool z)]) (fun z=>[.fr F2]) (fun z=>k20 z=some r) ?_ ?_
       ·refine fi ?_;refine lr ?_;refine dj rfl rfl rfl (fun h21=>?_) (fun h21=>?_)
        ·have p21:=of_decide_eq_true h21;replace hk:=dy hk h21;refine eB ?_;refine cL (dp rfl rfl hf49_0_1 (List.length_map _)) ?_;have hm91:r49.1.Assignment.length≤9223372036854775807:=(List.length_map _)▸hf49_0_1.max;refine eB ?_;refine q3I ?_;have hm94:r49.1.Learned.length≤9223372036854775807:=hf49_0_2.2.1▸hf49_0_2.1.max;refine kV ?_;refine dj rfl rfl rfl (fun h22=>?_) (fun h22=>?_)
         ·have p22:=of_decide_eq_true h22;replace hk:=dy hk h22;have hq:=fu hk;clear hk;obtain ⟨r99,hr99,hk⟩:=hq;refine c8 (cM rfl rfl rfl (fun w hw=>zc3 _ w (hw.fr (i:=2) rfl) (htab.keptF hw) fuel hfu r99 hr99)) ?_;refine q4n ?_;refine mN ?_;exact cP r99 hk (.c .nil) (List.Sublist.refl _)
         ·have p22:=of_decide_eq_false h22;replace hk:=dz hk h22;refine ft ?_;refine ep ?_;refine mN ?_;exact q45
        ·have p21:=of_decide_eq_false h21;replace hk:=dz hk h21;refine TL.run 13 rfl ?_;refine ep ?_;refine mN ?_;exact q45
       ·rintro x_19 hk;rw [←hk20] at hk; (try dsimp only at hk);refine T.ret (eu (dV ?_));obtain rfl:=Option.some.inj hk;exact eh
      ·have p18:=of_decide_eq_false h18;replace hk:=dz hk h18;refine iv ?_;refine cS ?_;refine T.cond rfl (fun h23=>?_) (fun h23=>?_)
       ·have p23:=of_decide_eq_true h23;replace hk:=dy hk h23;refine T.seq (T.seq ?_);refine c6 (ι:=Unit) (fun z=>[(4, .pointer (some ⟨g4,0,none⟩)),(9, .pointer (some ⟨g9,0,none⟩)),(117, .bool (((decide ((r49.1.Learned.length:Int)=0))||(decide (¬(r49.1.Assignment.length:Int)=0)))||(zbD p l)))]) (fun z=>[.row g9 46 [.int .i64 r49.1.Kind,v49_0_1,v49_0_2, .int .i64 r49.1.Steps], .row g4 31 [vp_0,vp_1,vp_2,vp_3], .fr F2]) (fun z=>True) ?_ ?_
        ·refine fi ?_;refine eB ?_;refine q3I ?_;have hm105:r49.1.Learned.length≤9223372036854775807:=hf49_0_2.2.1▸hf49_0_2.1.max;refine ef ?_;refine dj rfl rfl rfl (fun h24=>?_) (fun h24=>?_)
         ·have p24:=of_decide_eq_true h24;refine TL.run 10 rfl ?_;refine ep ?_;exact cP () trivial (.c (.c (.b (gk (gk h24)).symm .nil))) (List.Sublist.refl _)
         ·have p24:=of_decide_eq_false h24;refine eB ?_;refine cL (dp rfl rfl hf49_0_1 (List.length_map _)) ?_;have hm110:r49.1.Assignment.length≤9223372036854775807:=(List.length_map _)▸hf49_0_1.max;refine ft ?_;refine dj rfl rfl rfl (fun h25=>?_) (fun h25=>?_)
          ·have p25:=of_decide_eq_true h25;refine mn ?_;exact cP () trivial (.c (.c (.b (gk (iE h24 h25)).symm .nil))) (List.Sublist.refl _)
          ·have p25:=of_decide_eq_false h25;refine q2I ?_;refine di ?_;refine c8 (cM rfl rfl rfl (fun w hw=>zfN _ w (hw.fr (i:=2) rfl) p vp_0 cp_0 (SlD.mono (rep:=cK) (fun _ _ _ _=>GDomain.mono) hp_0 le1_2) vp_1 (SlC.mono hp_1 le1_2) vp_2 (SlC.mono hp_2 le1_2) vp_3 (SlC.mono hp_3 le1_2) l vl (SlC.mono hl le1_2))) ?_;refine mh ?_;refine ep ?_;exact cP () trivial (.c (.c (.b (f9 (iE h24 h25)) .nil))) (List.Sublist.refl _)
        ·rintro _ _;have hm105:r49.1.Learned.length≤9223372036854775807:=hf49_0_2.2.1▸hf49_0_2.1.max;have hm110:r49.1.Assignment.length≤9223372036854775807:=(List.length_map _)▸hf49_0_1.max;refine T.cond rfl (fun h26=>?_) (fun h26=>?_)
         ·replace hk:=dy hk h26;refine gM ?_;refine cS (T.ret (dV (eu (dV ?_))));obtain rfl:=Option.some.inj hk;exact eh
         ·have p26:=h26; (try simp only [cT] at p26);replace hk:=dz hk h26;refine jT ?_;refine dM ?_;have hq:=eD hk;clear hk;obtain ⟨k27,hk27,hk⟩:=hq; (try dsimp only at hk);refine c6 (ι:=Unit) (fun z=>[]) (fun z=>[.fr F2]) (fun z=>k27 ()=some r) ?_ ?_
          ·have hq:=fJ hk;clear hk;obtain ⟨f28,kk28,hf28,hkk28,hk⟩:=hq;refine fe ?_;refine T.loop (ι:=Nat) (fun z=>[(4, .pointer (some ⟨g4,0,none⟩)),(9, .pointer (some ⟨g9,0,none⟩)),(11, .int .i64 (z:Int))]) (fun z=>[.row g9 46 [.int .i64 r49.1.Kind,v49_0_1,v49_0_2, .int .i64 r49.1.Steps], .row g4 31 [vp_0,vp_1,vp_2,vp_3], .fr F2]) (fun z=>dk f28 kk28 (r49.1.Learned.length - z) z ()=some r) (fun z=>r49.1.Learned.length - z) 0 ?_ ?_ ?_ ?_
           ·exact hk
           ·exact mw
           ·exact eX
           ·rintro i_29 hk;refine q3K ?_;refine q3I ?_;refine dM ?_;refine T.cond rfl (fun h30=>?_) (fun h30=>?_)
            ·have p30:=of_decide_eq_true h30;rw [fK a6] at hk;generalize hn28:dk f28 kk28 (r49.1.Learned.length - (i_29+1)) (i_29+1)=next28 at hk;rw [←hf28] at hk; (try dsimp only at hk);refine fS ?_;refine iP ?_;refine q3I ?_;refine q2m ?_;refine ef ?_;refine cS (T.seq ?_); (try dsimp only at hk);have hq:=eD hk;clear hk;obtain ⟨k32,hk32,hk⟩:=hq; (try dsimp only at hk);refine c6 (ι:=Bool) (fun z=>[(4, .pointer (some ⟨g4,0,none⟩)),(9, .pointer (some ⟨g9,0,none⟩)),(11, .int .i64 (i_29:Int)),(163, .bool z)]) (fun z=>[.row g9 46 [.int .i64 r49.1.Kind,v49_0_1,v49_0_2, .int .i64 r49.1.Steps], .row g4 31 [vp_0,vp_1,vp_2,vp_3], .fr F2]) (fun z=>k32 z=some r) ?_ ?_
             ·refine dF (sN 0 16 (.eff 16 (sN 17 13 (.eff 30 (.still 31 (.still 32 .done)))))) _ a8 (List.Sublist.refl _) ?_;refine q1D ?_;have hd135_0:=(R_List_GChoice.c0 (hf49_0_2.2.2 i_29 a6)).2;haveI:=hd135_0.oneC;refine cO rfl (dp rfl rfl hd135_0 (List.length_map _)) ?_;have hm136:(cI r49.1.Learned i_29).length≤9223372036854775807:=(List.length_map _)▸hd135_0.max;refine gG ?_;refine cO rfl (Yv.cA a8 rfl rfl rfl) ?_;refine eY ?_;refine dt rfl rfl rfl rfl (fun h33=>?_) (fun h33=>?_)
              ·replace hk:=dy hk h33;refine TS.run 6 rfl ?_;refine gK ?_;refine TS.run 13 rfl ?_;refine gK ?_;refine jt ?_;exact q5e
              ·replace hk:=dz hk h33;refine q3c ?_;refine q1D ?_;refine dw ?_;have hq:=fu hk;clear hk;obtain ⟨r147,hr147,hk⟩:=hq;refine cR rfl (Wt.some) rfl rfl (cM rfl rfl rfl (fun w hw=>zhl _ w (hw.fr (i:=2) rfl) p vp_0 cp_0 (SlD.mono (rep:=cK) (fun _ _ _ _=>GDomain.mono) hp_0 le1_2) vp_1 (SlC.mono hp_1 le1_2) vp_2 (SlC.mono hp_2 le1_2) vp_3 (SlC.mono hp_3 le1_2) (cI r49.1.Learned i_29) (cI (cI cs49_0_2 i_29) 0) hd135_0 r147 hr147)) ?_;refine gJ ?_;refine ik ?_;refine dt rfl rfl rfl rfl (fun h34=>?_) (fun h34=>?_)
               ·replace hk:=dy hk h34;refine TS.run 10 rfl ?_;refine gK ?_;refine jt ?_;exact q5e
               ·replace hk:=dz hk h34;refine q3c ?_;refine lB ?_;refine cO rfl (kN (i:=i_29) rfl rfl rfl hf49_0_2.1 hf49_0_2.2.1 rfl a6) ?_;have hs155_:SlD cJ F2.toFrz (jl v49_0_2 0 i_29 1) 1 (cs49_0_2.take i_29) (r49.1.Learned.take i_29):=hf49_0_2.sliceh (i:=i_29) a6;haveI:=hs155_.1.oneC;refine q1D ?_;refine dw ?_;have hq:=fu hk;clear hk;obtain ⟨r161,hr161,hk⟩:=hq;refine cR rfl (Wt.some) rfl rfl (cM rfl rfl rfl (fun w hw=>zgI _ w (hw.fr (i:=2) rfl) p vp_0 cp_0 (SlD.mono (rep:=cK) (fun _ _ _ _=>GDomain.mono) hp_0 le1_2) vp_1 (SlC.mono hp_1 le1_2) vp_2 (SlC.mono hp_2 le1_2) vp_3 (SlC.mono hp_3 le1_2) (r49.1.Learned.take i_29) (jl v49_0_2 0 i_29 1) (cs49_0_2.take i_29) hs155_ (cI r49.1.Learned i_29) (cI (cI cs49_0_2 i_29) 0) hd135_0 fuel r161 hr161)) ?_;refine gJ ?_;refine jt ?_;exact cP (!r161) hk (.c (.c (.c (.c .nil)))) (List.Sublist.refl _)
             ·rintro x_31 hk;rw [←hk32] at hk; (try dsimp only at hk);refine T.cond rfl (fun h35=>?_) (fun h35=>?_)
              ·replace hk:=dy hk h35;refine gM ?_;refine cS (T.ret (eu (dV (dV (eu (dV (eu (dV ?_))))))));obtain rfl:=Option.some.inj hk;exact eh
              ·replace hk:=dz hk h35;refine gY ?_;rw [←hn28] at hk;exact K.next (i_29+1) hk a6 (.c (.c (.c .nil))) (List.Sublist.refl _)
            ·have p30:=of_decide_eq_false h30;rw [fL a6,←hkk28] at hk; (try dsimp only at hk);refine fx ?_;refine mN ?_;exact ks
          ·rintro _ hk;rw [←hk27] at hk; (try dsimp only at hk);refine T.seq ?_;have hq:=fu hk;clear hk;obtain ⟨r164,hr164,hk⟩:=hq; (try dsimp only at hk);refine fi ?_;refine c8 (cM rfl rfl rfl (fun w hw=>zc3 _ w (hw.fr (i:=0) rfl) (htab.keptF hw) fuel hfu r164 hr164)) ?_;refine mh ?_;refine cS (T.ret (eu (dV ?_)));obtain rfl:=Option.some.inj hk;exact eh
       ·have p23:=of_decide_eq_false h23;replace hk:=dz hk h23;refine T.skip (fv (K.seq (df ?_)));refine fI ?_;obtain rfl:=Option.some.inj hk;exact eh
theorem zlT {p:GProblem}{fuel:Nat}(hf:100000≤fuel):∃r,zcx fuel p=some r:=by
 unfold zcx;obtain ⟨r,hr⟩:=zoo (p:=p) (a:=9) (b:=40) (fuel:=fuel) a6;rw [hr];exact ⟨_,rfl⟩
theorem zkP {p:GProblem}{hints:List GChoice}{b:Int}(hok:eN p=true)(hv:ValidL hints)(hb:0≤b∧b≤120):∃r,gN p hints b 250 [] [] 0=some r:=
 zgG hok hv 250 [] [] 0 InvS.nil hb.1 (by show 2* (b - 0).toNat+0<250;omega)
theorem zm2 {fuel : Nat} (hf : 100000 ≤ fuel) {p : GProblem} {hints : List GChoice} {K : Bool → Option Bool} {r a1 a2 a3 a4 a5 : Bool} (h1 : K true = some true) (h2 : eN p = true → ValidL hints → a1 = false → a2 = false → a3 = false → a4 = false → a5 = false → K false = some true) :
    dQ K (fun k2 => bif !r then k2 true else bif a1 then k2 true else bif a2 then k2 true else bif a3 then k2 true else bif a4 then k2 true else bif a5 then k2 true else (zb0 p).bind fun r36 => bif !r36 then k2 true else k2 (!(mr hints))) = some true := by
  unfold dQ;dsimp only; rw [zls, Option.bind_some]
  cases r
  · exact h1
  cases a1 <;> cases a2 <;> cases a3 <;> cases a4 <;> cases a5 <;> try exact h1
  cases h3 : eN p with
  | false => exact h1
  | true =>
    cases h4 : mr hints with
    | false => exact h1
    | true => exact h2 h3 (eM.1 (by rw [← zd6]; exact h4)) rfl rfl rfl rfl rfl
theorem zgn {fuel:Nat}(hf:100000≤fuel){p:GProblem}{S:List (List GChoice)}{g:List GChoice}(hok:eN p=true)(hS:∀x∈S,ic p x=true)(hg:ic p g=true)(hc:Conf p S g):zbU fuel p S g=some true:=by
 obtain ⟨hv,hh⟩:=fw.1 hg;obtain ⟨r,h1,h2⟩:=zgc (fuel:=fuel) hf hok hS hv.good;unfold zbU;rw [h1,Option.bind_some,h2.conf.2 hc];rfl
theorem zik {fuel:Nat}(hf:100000≤fuel)(p:GProblem)(hints:List GChoice)(budget:Int)(l:List GChoice):zb1 fuel p hints budget l=some true:=by
 have hk:=zlM hf;obtain ⟨r,hr⟩:=zlT (p:=p) hf;unfold zb1;rw [hr,Option.bind_some];refine (zm2 (r:=r) (a1:=decide (20<(hints.length:Int))) (a2:=decide (20<(l.length:Int))) (a3:=decide (budget<0)) (a4:=decide (60<budget)) (a5:=false) hf (p:=p) (hints:=hints) ?_ ?_)
 ·show (zbn fuel).bind _=_
  rw [hk];rfl
 ·intro hok hv _ _ hb1 hb2 _;simp only [dQ];rw [decide_eq_false_iff_not] at hb1 hb2;obtain ⟨s,hs⟩:=zkP hok hv (b:=budget) a6;rw [cond_false,znJ hf hok hv ⟨by omega,by omega⟩ (k:=250) a6 a6 hs,Option.bind_some];obtain ⟨⟨q1,q2⟩,q3⟩:=zfm hok hv a6 250 [] [] 0 InvS.nil a6 b2 hs;dsimp only;rw [decide_eq_false (show ¬ ¬(0:Int)=0 by omega),decide_eq_false (show ¬s.Steps<0 by omega),decide_eq_false (show ¬budget<s.Steps by omega),Bool.or_self,Bool.or_self,cond_false];rcases q3 with ⟨k1,k2,k3⟩|⟨k1,k2,k3,k4⟩|⟨k1,k2,S',D',k3,k4,k5⟩
  ·rw [k1,k3,nf.2 k2,hk];rfl
  ·(have hw:wI ((([]:List GChoice).length:Int)+(([]:List (List GChoice)).length:Int))=0:=by rw [nh b2];rfl);rw [k1,k2,k3,k4,hk,decide_eq_true hw,decide_eq_true (show budget=budget from rfl)];rfl
  ·have hnf:zbD p l=false:=by
    rw [Bool.eq_false_iff];intro h;exact zna hok k3 k4 l (nf.1 h)
   rw [k1,k2,k5,hnf];have hne:∀i,i<S'.length→(cI S' i).length≠0:=fun i hi e=>k3.out _ (eo hi) (fun c hc=>by rw [List.eq_nil_of_length_eq_zero e] at hc;cases hc);have hok0:ic p []=true:=rfl; (have hlen:((S'++[([]:List GChoice)]).length:Int)=(S'.length:Int)+1:=by rw [List.length_append,List.length_singleton];omega);rw [decide_eq_false (show ¬(2:Int)=1 by decide),decide_eq_false (show ¬(2:Int)=0 by decide),decide_eq_true (show (2:Int)=2 from rfl),cond_false,cond_false,cond_true,decide_eq_false (show ¬((S'++[([]:List GChoice)]).length:Int)=0 by omega),decide_eq_false (show ¬ ¬((([]:List GChoice).length:Nat):Int)=0 by simp),Bool.or_self,Bool.or_self,cond_false];refine kv (fun _ _=>True) (fun o=>o=some true) trivial (fun _ _=>by rw [hk];rfl) (fun i _ next hi _ hnx=>?_);rw [Nat.sub_zero,List.length_append,List.length_singleton] at hi
   have hgo:ic p (cI (S'++[[]]) i)=true∧zbU fuel p ((S'++[[]]).take i) (cI (S'++[[]]) i)=some true∧decide (((cI (S'++[[]]) i).length:Int)=0)=decide ((i:Int)=((S'++[([]:List GChoice)]).length:Int) - 1):=by
    rcases Nat.lt_or_ge i S'.length with h1|h1
    ·rw [zc6 h1,List.take_append_of_le_length a6];have h2:=k3.ok _ (eo h1);refine ⟨h2,zgn hf hok (fun x hx=>k3.ok x (List.mem_of_mem_take hx)) h2 (k3.fol i h1),?_⟩;have:=hne i h1;rw [decide_eq_false a6,decide_eq_false a6]
    ·(obtain rfl:i=S'.length:=by omega);rw [zcQ rfl,List.take_left];refine ⟨hok0,zgn hf hok k3.ok hok0 k4,?_⟩;rw [decide_eq_true (by rfl),decide_eq_true a6]
   obtain ⟨g1,g2,g3⟩:=hgo;rw [g3,zkz hok,g1,g2];simp only [BEq.rfl,Bool.not_true,cond_false,Option.bind_some];exact hnx _ trivial
end Go.Proofs.YtgoeeefoinkepaaGreatDoor
namespace Go.Proofs.YtgoeeefoinkepaaGreatDoor
open Go.RowKit Go.ChangeShapes Go.WideShapes Go.Deep
def Opens {H:Type}(enc:TypeId×Value→H)(w:World)(base:Nat)(spare:Nat→Bool)(held:Bool)(t:TypeId){α:Type}(R:List Value→α→Prop):Prop:=
 ∀fuel cs y,DataW.trod enc Tryz.prog w base spare held fuel t cs=some y→∃x,R cs x
section
variable {H:Type}{enc:TypeId×Value→H}{w:World}{base:Nat}{spare:Nat→Bool}{held:Bool}
theorem Opens.int {t:TypeId}(ht:Tryz.prog.underlying t=some (.int .i64)):Opens enc w base spare held t (fun cs (x:Int)=>cs=[.int .i64 x]):=fun fuel cs y h=>by
 obtain ⟨k,hk,_⟩:=DataW.trod_int ht h;exact ⟨k,hk⟩
theorem zoh {a:Addr}{v:Value}(h:w.cell? a=some v):Cb w a.block:=by
 unfold World.cell? at h
 split at h
 all_goals (first|exact ⟨_,_,_,by assumption⟩|simp at h|skip)
theorem Opens.any {t e : TypeId} {k : Nat} {α : Type} [Inhabited α] {R : List Value → α → Prop} (ht : Tryz.prog.underlying t = some (.slice e)) (hk : Tryz.prog.cellsOf e = k) (hpos : 0 < k) (ho : Opens enc w base spare held e R) :
    Opens enc w base spare held t (fun cs (l : List α) => ∃ v c, cs = [v] ∧ SlC (Frz.all w) v k c ∧ c.length = l.length ∧ ∀ i, i < l.length → R (cI c i) (cI l i)) := fun fuel cs y h => by
  rcases open_slice ht h with ⟨h0, _⟩ | ⟨a, len, cap, m, n, D, Pl, hcs, hb, hl, hm, hmm, _, hx⟩
  · exact ⟨[], _, [], h0, SlC.nil _ _, rfl, fun i hi => absurd hi (Nat.not_lt_zero i)⟩
  · subst hcs; (have hlm : len ≤ m := by rw [hmm]; split <;> omega)
    have each : ∀ i, i < m → ∃ x : List Value × α, x.1.length = k ∧ R x.1 x.2 ∧ ∀ j, j < k → w.cell? (a.add (i * k + j)) = x.1[j]? := fun i hi => by
      obtain ⟨cs', h1, h2⟩ := hx i hi; rw [hk] at h1; obtain ⟨_, hlen, hcell⟩ := World.cells?_some h1; obtain ⟨x, hR⟩ := ho _ _ _ h2; exact ⟨(cs', x), hlen, hR, fun j hj => by rw [← hcell j hj, add_add]⟩
    obtain ⟨X, hX⟩ := choose_lt each
    have hn : ∀ i, i < len → cI ((List.range len).map fun i => (X i).1) i = (X i).1 := fun i hi => by
      rw [d9 (by simpa using hi)]; simp
    have hn2 : ∀ i, i < len → cI ((List.range len).map fun i => (X i).2) i = (X i).2 := fun i hi => by
      rw [d9 (by simpa using hi)]; simp
    refine ⟨(List.range len).map fun i => (X i).2, _, (List.range len).map fun i => (X i).1, rfl, ⟨some a, cap, by simp, by simpa using hl, by unfold maxLen at hm; omega, fun c hc => ?_, fun hp => ?_⟩, by simp, fun i hi => ?_⟩
    · simp at hc; obtain ⟨i, hi, rfl⟩ := hc; exact (hX i a6).1
    · (have hp' : 0 < len := by simpa using hp); have c0 := (hX 0 a6).2.2 0 hpos; have hx0 := (hX 0 a6).1; rw [List.getElem?_eq_getElem a6] at c0; have hcb := zoh c0; have hs := World.cell?_spot c0; simp [Addr.add] at hs hcb; obtain ⟨b, off, sp⟩ := a; simp at hs hcb; subst hs; refine ⟨b, off, rfl, hcb, fun i hi j hj => ?_⟩; simp at hi; rw [hn i hi] at hj ⊢; have hxi := hX i a6; have := hxi.2.2 j a6;refine Eq.trans ?_ this
      show w.cell? _ = _
      rw [mp, Nat.add_assoc]
    · simp at hi; rw [hn i hi, hn2 i hi]; exact (hX i a6).2.1
theorem fO {t e : TypeId} {k : Nat} {α : Type} [Inhabited α] {en : α → List Value} (ht : Tryz.prog.underlying t = some (.slice e)) (hk : Tryz.prog.cellsOf e = k) (hpos : 0 < k) (ho : Opens enc w base spare held e (fun cs (x : α) => cs = en x)) :
    Opens enc w base spare held t (fun cs (l : List α) => ∃ v, cs = [v] ∧ SlC (Frz.all w) v k (l.map en)) := fun fuel cs y h => by
  obtain ⟨l, v, c, h1, h2, h3, h4⟩ := Opens.any ht hk hpos ho _ _ _ h;refine ⟨l, v, h1, ?_⟩
  have : c = l.map en := by
    apply List.ext_getElem (by simpa using h3); intro i hi hi2; rw [← d9 hi, h4 i a6, List.getElem_map, d9 a6]
  rw [← this]; exact h2
theorem Opens.bytes {t e : TypeId} (ht : Tryz.prog.underlying t = some (.slice e)) (he : Tryz.prog.underlying e = some (.int .u8)) (hk : Tryz.prog.cellsOf e = 1) :
    Opens enc w base spare held t (fun cs (l : List Int) => ∃ v, cs = [v] ∧ SlC (Frz.all w) v 1 (l.map (eK .u8)) ∧ ∀ x ∈ l, 0 ≤ x ∧ x ≤ 255) := fun fuel cs y h => by
  have ho : Opens enc w base spare held e (fun cs (x : Int) => cs = eK .u8 x ∧ (0 ≤ x ∧ x ≤ 255)) := fun fuel cs y h => by
    obtain ⟨k, h1, _, h2⟩ := DataW.trod_int he h;refine ⟨k, h1, ?_⟩; (have e1 : IntKind.u8.min = 0 := by decide); (have e2 : IntKind.u8.max = 255 := by decide); simp only [Lit.wf, e1, e2, Bool.and_eq_true, decide_eq_true_eq] at h2; exact h2
  obtain ⟨l, v, c, h1, h2, h3, h4⟩ := Opens.any ht hk a7 ho _ _ _ h; refine ⟨l, v, h1, ?_, fun x hx => ?_⟩
  · have : c = l.map (eK .u8) := by
      apply List.ext_getElem (by simpa using h3); intro i hi hi2; rw [← d9 hi, (h4 i a6).1, List.getElem_map, d9 a6]
    rw [← this]; exact h2
  · obtain ⟨i, hi, e⟩ := List.mem_iff_getElem.1 hx; have := (h4 i hi).2; rw [d9 hi, e] at this; exact this
theorem l7 {t e : TypeId} {k : Nat} {α : Type} [Inhabited α] {rep : Frz → List Value → α → Prop} (ht : Tryz.prog.underlying t = some (.slice e)) (hk : Tryz.prog.cellsOf e = k) (hpos : 0 < k) (ho : Opens enc w base spare held e (rep (Frz.all w))) :
    Opens enc w base spare held t (fun cs (l : List α) => ∃ v c, cs = [v] ∧ SlD rep (Frz.all w) v k c l) := fun fuel cs y h => by
  obtain ⟨l, v, c, h1, h2, h3, h4⟩ := Opens.any ht hk hpos ho _ _ _ h; exact ⟨l, v, c, h1, h2, h3, h4⟩
end
end Go.Proofs.YtgoeeefoinkepaaGreatDoor
