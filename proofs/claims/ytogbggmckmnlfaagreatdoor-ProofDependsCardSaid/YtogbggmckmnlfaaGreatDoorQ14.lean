/- Wn Wb Wc Yz Wd Y4 Wg Of: shortened and put together by squeeze.py. -/
import Derived.Test.YtogbggmckmnlfaaGreatDoorQ13
import Derived.Deep.Slices
import Derived.ChangeArms
set_option maxRecDepth 100000
set_option maxHeartbeats 4000000
set_option linter.unusedVariables false
set_option linter.unusedSectionVars false
set_option linter.unusedSimpArgs false
namespace Go.Proofs.YtogbggmckmnlfaaGreatDoor
open Go.RowKit
structure SubP (p:GProblem) (d:List GDomain):Prop where
 sub:SubD d p.Domains
 ord:OrdD d p.Domains
section
variable {p:GProblem}{d:List GDomain}
theorem SubP.len (h:SubP p d):d.length=p.Domains.length:=h.sub.1
theorem SubP.inc (hG:GG p)(h:SubP p d){i j:Nat}(hi:i<d.length)(hj:j<d.length)(e:(cI d i).Station=(cI d j).Station):i=j:=by
 (have hi':i<p.Domains.length:=by rw [←h.len];exact hi); (have hj':j<p.Domains.length:=by rw [←h.len];exact hj);rw [(h.sub.2 i hi').1,(h.sub.2 j hj').1] at e;rcases Nat.lt_trichotomy i j with h1|h1|h1
 ·have:=hG.inc i j h1 hj';omega
 ·exact h1
 ·have:=hG.inc j i h1 hi';omega
theorem SubP.inj (hG:GG p)(h:SubP p d){x y:GDomain}(hx:x∈d)(hy:y∈d)(e:x.Station=y.Station):x=y:=by
 obtain ⟨i,hi,rfl⟩:=io hx;obtain ⟨j,hj,rfl⟩:=io hy;rw [h.inc hG hi hj e]
theorem SubP.st (hG:GG p)(h:SubP p d){x:GDomain}(hx:x∈d):0≤x.Station∧x.Station≤511:=by
 obtain ⟨i,hi,rfl⟩:=io hx; (have hi':i<p.Domains.length:=by rw [←h.len];exact hi);rw [(h.sub.2 i hi').1];exact hG.st _ (fI hi')
theorem SubP.ch (hG:GG p)(h:SubP p d){x:GDomain}(hx:x∈d){c:Int}(hc:c∈x.Channels):2≤c∧c≤51:=by
 obtain ⟨i,hi,rfl⟩:=io hx; (have hi':i<p.Domains.length:=by rw [←h.len];exact hi);exact (hG.chs _ (fI hi')).2 _ ((h.sub.2 i hi').2 c hc)
theorem SubP.has (h:SubP p d){s:Int}(hs:iT p s=true):∃x∈d,x.Station=s:=by
 obtain ⟨x,hx,rfl⟩:=gw.1 hs;obtain ⟨i,hi,rfl⟩:=io hx;exact ⟨_,fI (by rw [h.len];exact hi),(h.sub.2 i hi).1⟩
theorem zjw {s c:Int}(h:zgV p s c=true):iT p s=true:=by
 obtain ⟨x,hx,e,_⟩:=jA.1 h;exact gw.2 ⟨x,hx,e⟩
def kV (d:List GDomain)(v:Vec 512 Int):Prop:=∀x∈d,Vec.get v x.Station.toNat=bif decide (x.Channels.length=1) then cI x.Channels 0 else 0
theorem gr {c:GChoice}:c∈gQ d↔∃x∈d,x.Channels.length=1∧c=⟨x.Station,cI x.Channels 0⟩:=by
 unfold gQ;rw [List.mem_map];constructor
 ·rintro ⟨x,hx,rfl⟩;rw [List.mem_filter,decide_eq_true_eq] at hx;exact ⟨x,hx.1,hx.2,rfl⟩
 ·rintro ⟨x,hx,h1,rfl⟩;exact ⟨x,List.mem_filter.2 ⟨hx,decide_eq_true h1⟩,rfl⟩
theorem zcW {α:Type}[Inhabited α]{l:List α}{i:Nat}(hi:i<l.length):l.take (i+1)=l.take i++[cI l i]:=by
 rw [List.take_succ_eq_append_getElem hi,dS hi]
theorem zlm {m:List GDomain×Bool}(hG:GG p)(h:SubP p m.1)(h2:m.2=true):∃v,zbA p m=some v∧kV m.1 v:=by
 (have e1:iU m=gQ m.1:=by unfold iU;rw [h2];rfl)
 have hin:∀c∈gQ m.1,∀c'∈gQ m.1,c.Station=c'.Station→c=c':=fun c hc c' hc' e=>by
  obtain ⟨x,hx,_,rfl⟩:=gr.1 hc;obtain ⟨y,hy,_,rfl⟩:=gr.1 hc';rw [h.inj hG hx hy e]
 have hst:∀c∈gQ m.1,0≤c.Station∧c.Station≤511:=fun c hc=>by
  obtain ⟨x,hx,_,rfl⟩:=gr.1 hc;exact h.st hG hx
 unfold zbA;simp only [dL,Nat.sub_zero,e1];refine zcp (fun k (v:Vec 512 Int)=>(∀c∈(gQ m.1).take k,Vec.get v c.Station.toNat=c.Channel)∧∀n:Nat,n<512→(∀c∈(gQ m.1).take k,c.Station≠(n:Int))→Vec.get v n=0) (fun o=>∃v:Vec 512 Int,o=some v∧kV m.1 v) ⟨fun c hc=>by simp at hc,fun n hn _=>f9 hn⟩ (fun v hv=>⟨v,rfl,fun x hx=>?_⟩) (fun i v next hi hI hn=>?_)
 ·rw [List.take_of_length_le (Nat.le_refl _)] at hv;have hs:=h.st hG hx;by_cases hl:x.Channels.length=1
  ·rw [decide_eq_true hl,cond_true];exact hv.1 ⟨x.Station,cI x.Channels 0⟩ (gr.2 ⟨x,hx,hl,rfl⟩)
  ·rw [decide_eq_false hl,cond_false];refine hv.2 _ a5 fun c hc e=>?_;obtain ⟨y,hy,h3,rfl⟩:=gr.1 hc;have:y=x:=h.inj hG hy hx (by dsimp only at e;omega);rw [this] at h3;exact hl h3
 ·have hm:=fI hi;have hs:=hst _ hm;rw [fZ a5];refine hn _ ⟨fun c hc=>?_,fun n h1 hc=>?_⟩
  ·rw [fh a5];rw [zcW hi,List.mem_append,List.mem_singleton] at hc;rcases hc with hc|rfl
   ·have h3:=hst c (List.mem_of_mem_take hc);by_cases e:c.Station.toNat=(cI (gQ m.1) i).Station.toNat
    ·rw [if_pos e,hin c (List.mem_of_mem_take hc) _ hm a5]
    ·rw [if_neg e];exact hI.1 c hc
   ·rw [if_pos rfl]
  ·rw [fh a5];rw [zcW hi] at hc;have h3:=hc (cI (gQ m.1) i) (List.mem_append.2 (.inr (List.mem_singleton.2 rfl)));rw [if_neg a5];exact hI.2 n h1 fun c h4=>hc c (List.mem_append.2 (.inl h4))
def i3 (v:Vec 512 Int)(g:List GChoice):List GChoice:=g.filter fun c=> !decide (Vec.get v c.Station.toNat=c.Channel)
def j7 (m:List GDomain×Bool)(v:Vec 512 Int)(g:List GChoice):GChoice×Bool:=match i3 v g with
 | []=>(bif decide (0<(g.length:Int)) then cI g 0 else ⟨0,0⟩,true)
 | [c]=>(c,zgN m c)
 |_=>(⟨0,0⟩,false)
theorem zhh {v:Vec 512 Int}{g:List GChoice}{c:GChoice}:i3 v (g++[c])=i3 v g++bif decide (¬Vec.get v c.Station.toNat=c.Channel) then [c] else []:=by
 unfold i3;rw [List.filter_append];by_cases h:Vec.get v c.Station.toNat=c.Channel
 ·simp [h]
 ·simp [h]
theorem zmc {m:List GDomain×Bool}{v:Vec 512 Int}{g:List GChoice}(hg:ValidL g):zb3 p m v g=some (j7 m v g):=by
 unfold zb3;refine l9 ?_;refine zcp (fun i (s:Int×Int×Int×Int×Int)=>(i3 v (g.take i)=[]∧s.1=0∧s.2.2.2.1=0∧s.2.2.2.2=0)∨(i3 v (g.take i)=[⟨s.2.2.2.1,s.2.2.2.2⟩]∧s.1=1)) (fun o=>o=some (j7 m v g)) (.inl ⟨by simp [i3],rfl,rfl,rfl⟩) (fun s hs=>?_) (fun i s next hi hI hn=>?_)
 ·rw [List.take_of_length_le (Nat.le_refl _)] at hs;unfold j7;rcases hs with ⟨h1,h2,h3,h4⟩|⟨h1,h2⟩
  ·rw [h1]; (try dsimp only);rw [h2,h3,h4,decide_eq_true rfl,Bool.true_and,Bool.true_or]
   cases decide (0<(g.length:Int)) <;> rfl
  ·rw [h1]; (try dsimp only);rw [h2,show decide ((1:Int)=0)=false from rfl,Bool.false_and,Bool.false_or];rfl
 ·have h1:=hg.good _ (fI hi);rw [fZ a5];by_cases e:Vec.get v (cI g i).Station.toNat=(cI g i).Channel
  ·(have e2:i3 v (g.take (i+1))=i3 v (g.take i):=by rw [zcW hi,zhh,decide_eq_false (by simpa using e),cond_false,List.append_nil]);rw [decide_eq_false (by simpa using e),cond_false]; (try dsimp only);rw [decide_eq_false (by rcases hI with h|h <;> omega),cond_false];exact hn _ (by rw [e2];exact hI)
  ·(have e2:i3 v (g.take (i+1))=i3 v (g.take i)++[cI g i]:=by rw [zcW hi,zhh,decide_eq_true e,cond_true]);rw [decide_eq_true e,cond_true]; (try dsimp only);rcases hI with ⟨h2,h3,h4,h5⟩|⟨h2,h3⟩
   ·rw [h3,show wI (0+1)=1 from rfl,show decide ((1:Int)<1)=false from rfl,cond_false];exact hn _ (.inr ⟨by rw [e2,h2];rfl,rfl⟩)
   ·rw [h3,show wI (1+1)=2 from rfl,show decide ((1:Int)<2)=true from rfl,cond_true];have h6:(i3 v (g.take (i+1))).Sublist (i3 v g):=(List.take_sublist _ _).filter _;rw [e2,h2] at h6;have h7:=h6.length_le;unfold j7
    match h8:i3 v g with
    | []=>rw [h8] at h7;simp at h7
    | [c]=>rw [h8] at h7;simp at h7
    |_ :: _ :: _=>rfl
end
def jS (d:List GDomain)(g:List GChoice)(s c:Int):Bool:=(g.any fun x=>decide (x.Station=s)&&decide (x.Channel=c))&&g.all fun x=>decide (x.Station=s)||ja d x.Station x.Channel
structure ClosedN (p:GProblem) (S:List (List GChoice)) (d:List GDomain):Prop where
 cl:ClosedD p d
 ne:∀g∈S,g≠[]
 calm:∀g∈S,∀x∈d,∀c∈x.Channels,jS d g x.Station c=false
section
variable {p:GProblem}{S:List (List GChoice)}{d e:List GDomain}{m:List GDomain×Bool}{v:Vec 512 Int}{g:List GChoice}
theorem zlV {s c:Int}(hG:GG p)(hd:SubP p d){x:GDomain}(hx:x∈d)(hs:x.Station=s)(hl:x.Channels.length=1)(h0:cI x.Channels 0=c):ja d s c=true:=by
 rw [gK];intro y hy e k hk;have:y=x:=hd.inj hG hy hx (by rw [e,hs]);subst this;obtain ⟨z,hz⟩:=List.length_eq_one_iff.1 hl;rw [hz] at hk h0;simp [cI] at hk h0;rw [hk,h0]
theorem ziy (hG:GG p)(hd:SubP p d)(hv:kV d v)(hg:jk p g=true){c:GChoice}(hc:c∈g)(h:Vec.get v c.Station.toNat=c.Channel):∃x∈d,x.Station=c.Station∧x.Channels.length=1∧cI x.Channels 0=c.Channel:=by
 obtain ⟨hl,hh⟩:=iv.1 hg;obtain ⟨x,hx,e⟩:=hd.has (zjw (hh c hc));have h1:=hv x hx;have h2:=hl.good c hc;rw [e,h] at h1;by_cases h3:x.Channels.length=1
 ·rw [decide_eq_true h3,cond_true] at h1;exact ⟨x,hx,e,h3,h1.symm⟩
 ·rw [decide_eq_false h3,cond_false] at h1;omega
theorem zjN {c:GChoice}(hc:c∈g)(h:c∉i3 v g):Vec.get v c.Station.toNat=c.Channel:=by
 refine Decidable.byContradiction fun e=>h ?_;unfold i3;rw [List.mem_filter];exact ⟨hc,by simp [e]⟩
theorem kQ {c:GChoice}:zgN m c=true↔m.2=true∧∃x∈m.1,x.Station=c.Station∧c.Channel∈x.Channels:=by
 unfold zgN;simp only [Bool.and_eq_true,List.any_eq_true,decide_eq_true_eq];constructor
 ·rintro ⟨h,x,hx,h1,k,hk,rfl⟩;exact ⟨h,x,hx,h1,hk⟩
 ·rintro ⟨h,x,hx,h1,hk⟩;exact ⟨h,x,hx,h1,_,hk,rfl⟩
theorem zhR (hG:GG p)(hd:SubP p m.1)(h2:m.2=true)(hv:kV m.1 v)(hg:jk p g=true)(h0:g≠[])(h:(j7 m v g).2=true):(j7 m v g).1∈g∧zgN m (j7 m v g).1=true∧∀x∈g,x≠(j7 m v g).1→ja m.1 x.Station x.Channel=true:=by
 have hpos:0<g.length:=List.length_pos_iff.2 h0
 have only:∀x∈g,x∉i3 v g→ja m.1 x.Station x.Channel=true:=fun x hx hn=>by
  obtain ⟨y,hy,h3,h4,h5⟩:=ziy hG hd hv hg hx (zjN hx hn);exact zlV hG hd hy h3 h4 h5
 unfold j7 at h ⊢
 match h8:i3 v g with
 | []=>
  rw [h8] at h;dsimp only at h ⊢;rw [decide_eq_true a5,cond_true];refine ⟨fI hpos,?_,fun x hx _=>only x hx (by rw [h8];simp)⟩;obtain ⟨y,hy,h3,h4,h5⟩:=ziy hG hd hv hg (fI hpos) (zjN (fI hpos) (by rw [h8];simp));obtain ⟨z,hz⟩:=List.length_eq_one_iff.1 h4;refine kQ.2 ⟨h2,y,hy,h3,?_⟩;rw [←h5,hz];simp [cI]
 | [c]=>
  rw [h8] at h;dsimp only at h ⊢; (have hc:c∈i3 v g:=by rw [h8];simp);refine ⟨(List.mem_filter.1 hc).1,h,fun x hx hne=>only x hx (by rw [h8];simpa using hne)⟩
 |_ :: _ :: _=>rw [h8] at h;cases h
theorem zkK (hG:GG p)(hd:SubP p m.1)(h2:m.2=true)(hv:kV m.1 v)(hg:jk p g=true)(h0:g≠[])(hS:g∈S)(h:(j7 m v g).2=true)(he:ClosedN p S e)(hs:SubD e m.1):SubD e (m.1.map (iV (j7 m v g).1.Station (j7 m v g).1.Channel)):=by
 obtain ⟨h3,h4,h5⟩:=zhR hG hd h2 hv hg h0 h;generalize (j7 m v g).1=c at h3 h4 h5 ⊢;obtain ⟨hl,_⟩:=iv.1 hg;refine ⟨by rw [List.length_map];exact hs.1,fun i hi=>?_⟩;rw [List.length_map] at hi;rw [iH hi];have h6:=hs.2 i hi;refine ⟨h6.1,fun k hk=>?_⟩;unfold iV;dsimp only;rw [List.mem_filter];refine ⟨h6.2 k hk,?_⟩;rw [Bool.or_eq_true,decide_eq_true_eq,decide_eq_true_eq];by_cases e1:(cI m.1 i).Station=c.Station
 ·refine .inr fun e2=>?_; (have hi':i<e.length:=by rw [hs.1];exact hi);have h7:=he.calm g hS _ (fI hi') k hk
  have h8:jS e g (cI e i).Station k=true:=by
   unfold jS;rw [Bool.and_eq_true,List.any_eq_true,List.all_eq_true];refine ⟨⟨c,h3,by rw [h6.1,e1,e2];simp⟩,fun x hx=>?_⟩;by_cases e3:x=c
   ·rw [e3,h6.1,e1];simp
   ·rw [zc6 hs (h5 x hx e3)];simp
  rw [h8] at h7;cases h7
 ·exact .inl e1
theorem zki (hG : GG p) (hB : ∀ x ∈ m.1, x.Channels.Nodup) (hd : SubP p m.1) (h2 : m.2 = true) (hc : ClosedD p m.1) (hv : kV m.1 v) (hg : jk p g = true) (h : (j7 m v g).2 = false) : g ≠ [] ∧ ∀ x ∈ m.1, ∀ c ∈ x.Channels, jS m.1 g x.Station c = false := by
  obtain ⟨hl, hh⟩ := iv.1 hg; refine ⟨fun e => ?_, fun x hx c hcx => ?_⟩
  · subst e; cases h
  · cases hr : jS m.1 g x.Station c with
    | false => rfl
    | true =>
      unfold jS at hr; rw [Bool.and_eq_true, List.any_eq_true, List.all_eq_true] at hr; obtain ⟨⟨y, hy, h3⟩, h4⟩ := hr; rw [Bool.and_eq_true, decide_eq_true_eq, decide_eq_true_eq] at h3
      -- the others are made
      have ho : ∀ z ∈ i3 v g, z = y := fun z hz => by
        have hzg := (List.mem_filter.1 hz); have h5 := h4 z hzg.1; rw [Bool.or_eq_true, decide_eq_true_eq] at h5; rcases h5 with h5 | h5
        · exact hl.inj hzg.1 hy (by rw [h5, h3.1])
        · exfalso; obtain ⟨u, hu, e⟩ := hd.has (zjw (hh z hzg.1)); have h6 := gK.1 h5 u hu e
          have h7 : u.Channels = [z.Channel] := by
            have hne := hc.ne u hu; have hnd := hB u hu
            match hq : u.Channels with
            | [] => exact absurd hq hne
            | [a] => rw [hq] at h6; rw [h6 a a8]
            | a :: b :: r =>
              rw [hq] at h6 hnd; have h8 := h6 a a8; have h9 := h6 b a8; rw [h8, h9] at hnd; simp at hnd
          have h8 := hv u hu; rw [h7] at h8; have h9 := hzg.2; rw [← e, h8] at h9; simp [cI] at h9
      have hyo : zgN m y = true := kQ.2 ⟨h2, x, hx, h3.1.symm, by rw [h3.2]; exact hcx⟩
      have hnd : (i3 v g).length ≤ 1 := by
        match h8 : i3 v g with
        | [] => simp
        | [_] => simp
        | a :: b :: r =>
          exfalso; have hsub : (i3 v g).Sublist g := List.filter_sublist
          have hgn : g.Nodup := by
            rw [List.Nodup, List.pairwise_iff_getElem]; intro i j hi hj hij e; have := hl.inc i j hij hj; rw [dS hi, dS hj, e] at this; omega
          have := hgn.sublist hsub; rw [h8] at this ho; rw [ho a a8, ho b a8] at this; simp at this
      unfold j7 at h
      match h8 : i3 v g with
      | [] => rw [h8] at h; cases h
      | [a] => rw [h8] at h ho; rw [ho a a8] at h; dsimp only at h; rw [hyo] at h; cases h
      | a :: b :: r => rw [h8] at hnd; simp at hnd
end
def dK (p:GProblem)(l:List GChoice):List GDomain:=l.foldl (fun d c=>d.map (gY true c)) p.Domains
def RunN (p:GProblem)(S:List (List GChoice))(d:List GDomain)(r:Option (GProblem×(List GDomain×Bool))×Bool):Prop:=
 (∃m:List GDomain×Bool,r=(some (p,m),false)∧m.2=true∧ClosedN p S m.1∧SubP p m.1∧SubD m.1 d∧∀e,ClosedN p S e→SubD e d→SubD e m.1)∨(r=(none,true)∧∀e,ClosedN p S e→¬SubD e d)
section
variable {p:GProblem}{S:List (List GChoice)}{d e:List GDomain}{m:List GDomain×Bool}
theorem znv {l:List GChoice}{i:Nat}(hi:i<l.length):dK p (l.take (i+1))=(dK p (l.take i)).map (gY true (cI l i)):=by
 unfold dK;rw [zcW hi,List.foldl_append];rfl
theorem zln:∀l:List GChoice,SubP p (dK p l):=fun l=>by
 have key:∀(l:List GChoice) (d:List GDomain),SubP p d→SubP p (l.foldl (fun d c=>d.map (gY true c)) d):=by
  intro l
  induction l with
  |nil=>exact fun d h=>h
  |cons c r ih=>
   intro d h;have h2:=(zeW true c).subD (d:=d);exact ih _ ⟨h2.1.trans h.sub,h2.2.trans h.ord h.sub.1⟩
 exact key l _ ⟨.refl _,fun _ _=>List.Sublist.refl _⟩
structure MidN (p:GProblem) (S:List (List GChoice)) (d:List GDomain) (m:List GDomain×Bool):Prop where
 ok:m.2=true
 sp:SubP p m.1
 cl:ClosedD p m.1
 sd:SubD m.1 d
 all:∀e,ClosedN p S e→SubD e d→SubD e m.1
theorem MidN.prop (h:MidN p S d m):PropD p m.1 m:= .inl ⟨h.ok,h.cl,⟨.refl _,fun _ _=>List.Sublist.refl _⟩,fun _ _ h=>h⟩
theorem zm9 {d':List GDomain}(hd:SubP p d')(hs:SubD d' d)(hm:PropD p d' m)(hall:∀e,ClosedN p S e→SubD e d→SubD e d'):(m.2=true∧MidN p S d m)∨(m.2=false∧∀e,ClosedN p S e→¬SubD e d):=by
 rcases hm with ⟨h1,h2,h3,h4⟩|⟨h1,h2⟩
 ·exact .inl ⟨h1,h1,⟨h3.1.trans hd.sub,h3.2.trans hd.ord hd.sub.1⟩,h2,h3.1.trans hs,fun e he hh=>h4 e he.cl (hall e he hh)⟩
 ·exact .inr ⟨by rw [h1],fun e he hh=>h2 e he.cl (hall e he hh)⟩
theorem zmb {fuel:Nat}(hf:100000≤fuel)(hok:gJ p=true){t:GStore}(ht:t.start.1=p)(hm:PropD p p.Domains t.start.2)(hS:∀g∈t.list,jk p g=true)(l:List GChoice):∃r,zaI fuel t l=some r∧RunN p t.list (dK p l) r:=by
 obtain ⟨hw,hbd,htot,hn⟩:=zit hok;have hG:=zm8 hok;have nodup:∀ {m:List GDomain×Bool},SubP p m.1→∀x∈m.1,x.Channels.Nodup:=fun h x hx=>((hbd.ord h.sub.1 h.ord).ch x hx).2;unfold zaI;simp only [dL,Nat.sub_zero,ht];refine zcp (fun i (m:List GDomain×Bool)=>PropD p (dK p (l.take i)) m) (fun o=>∃r,o=some r∧RunN p t.list (dK p l) r) (by simpa [dK] using hm) (fun m hI=>?_) (fun i m next hi hI hnx=>?_)
 ·rw [List.take_of_length_le (Nat.le_refl _)] at hI;have hst:=zm9 (S:=t.list) (zln l) (.refl _) hI (fun _ _ h=>h);refine zdE (σ:=Bool×(List GDomain×Bool)) (I:=fun s=>(s.2.2=true∧MidN p t.list (dK p l) s.2∧(s.1=false→ClosedN p t.list s.2.1))∨(s.2.2=false∧s.1=true∧∀e,ClosedN p t.list e→¬SubD e (dK p l))) (μ:=fun s=>ei s.2.1+(bif s.1 then 1 else 0)) (post:=fun o=>∃r,o=some r∧RunN p t.list (dK p l) r) ?_ ?_ ?_
  ·rcases hst with ⟨h1,h2⟩|⟨h1,h2⟩
   ·exact .inl ⟨h1,h2,fun h=>by cases h⟩
   ·exact .inr ⟨h1,rfl,h2⟩
  ·have h1:ei m.1≤30000:=by
    rcases hI with ⟨_,_,h3,_⟩|⟨h1,_⟩
    ·have hk:=zln (p:=p) l;have:=zey h3.1.1 h3.2;have:=zey hk.sub.1 hk.ord;omega
    ·rw [h1];simp [ei]
   dsimp only;rw [cond_true];omega
  ·rintro ⟨again,m⟩ next hJ hnx;dsimp only at hJ hnx ⊢
   cases again with
   |false=>
    rcases hJ with ⟨h1,h2,h3⟩|⟨_,h2,_⟩
    ·exact ⟨_,rfl, .inl ⟨m,rfl,h1,h3 rfl,h2.sp,h2.sd,h2.all⟩⟩
    ·cases h2
   |true=>
    rw [cond_true];rcases hJ with ⟨h1,h2,_⟩|⟨h1,_,h2⟩
    ·rw [h1,Bool.not_true,cond_false];obtain ⟨v,hv1,hv2⟩:=zlm hG h2.sp h1;rw [hv1,Option.bind_some];refine zcp (fun i (s:Bool×(List GDomain×Bool)×Vec 512 Int)=>MidN p t.list (dK p l) s.2.1∧kV s.2.1.1 s.2.2∧((s.1=true∧ei s.2.1.1<ei m.1)∨(s.1=false∧s.2.1=m∧∀j,j<i→(j7 s.2.1 s.2.2 (cI t.list j)).2=false))) (fun o=>∃r,o=some r∧RunN p t.list (dK p l) r) ⟨h2,hv2, .inr ⟨rfl,rfl,fun j hj=>by omega⟩⟩ ?_ ?_
     ·rintro ⟨ch,m',v'⟩ ⟨g1,g2,g3⟩;dsimp only at g1 g2 g3 ⊢;refine hnx _ (.inl ⟨g1.ok,g1,fun e=>?_⟩) ?_
      ·dsimp only at e;rcases g3 with ⟨g3,_⟩|⟨_,g3,g4⟩
       ·rw [e] at g3;cases g3
       ·have key:∀g∈t.list,g≠[]∧∀x∈m'.1,∀c∈x.Channels,jS m'.1 g x.Station c=false:=fun g hg=>by
         obtain ⟨j,hj,rfl⟩:=io hg;exact zki hG (nodup g1.sp) g1.sp g1.ok g1.cl g2 (hS _ (fI hj)) (g4 j hj)
        exact ⟨g1.cl,fun g hg=>(key g hg).1,fun g hg=>(key g hg).2⟩
      ·dsimp only;rcases g3 with ⟨g3,g4⟩|⟨g3,g4,_⟩
       ·rw [g3,cond_true];omega
       ·rw [g3,g4,cond_false,cond_true];omega
     ·rintro i ⟨ch,m',v'⟩ nx hi ⟨g1,g2,g3⟩ hk;dsimp only at g1 g2 g3 ⊢;have hg:=hS _ (fI hi);rw [zmc (iv.1 hg).1,Option.bind_some]
      cases hfo:(j7 m' v' (cI t.list i)).2 with
      |false=>
       rw [Bool.not_false,cond_true];refine hk _ ⟨g1,g2,g3.imp id fun h=>⟨h.1,h.2.1,fun j hj=>?_⟩⟩;rcases Nat.lt_or_ge j i with h3|h3
       ·exact h.2.2 j h3
       ·(obtain rfl:j=i:=by omega);exact hfo
      |true=>
       rw [Bool.not_true,cond_false];by_cases h0:cI t.list i=[]
       ·rw [h0];exact ⟨_,rfl, .inr ⟨rfl,fun e he _=>he.ne _ (fI hi) h0⟩⟩
       ·have hlen:0<(cI t.list i).length:=List.length_pos_iff.2 h0;rw [decide_eq_false a5,cond_false];obtain ⟨q1,q2,q3⟩:=zhR hG g1.sp g1.ok g2 hg h0 hfo;have q4:=fun e he hs=>zkK (e:=e) hG g1.sp g1.ok g2 hg h0 (fI hi) hfo he hs;generalize (j7 m' v' (cI t.list i)).1=c at q1 q2 q3 q4
        have hgc:ml c=true:=by
         have:=(iv.1 hg).1.good c q1;unfold ml;exact decide_eq_true a5
        (have eact:gY false c=iV c.Station c.Channel:=by unfold gY;rw [hgc];rfl);obtain ⟨r,q5,q6⟩:=zlR hf hok ⟨g1.sp.sub,g1.sp.ord⟩ g1.prop false c;rw [q5,Option.bind_some];rw [eact] at q6;have hsub:=(FiltD.drop c.Station c.Channel).subD (d:=m'.1);have hsp:SubP p (m'.1.map (iV c.Station c.Channel)):=⟨hsub.1.trans g1.sp.sub,hsub.2.trans g1.sp.ord g1.sp.sub.1⟩;have hmid:=zm9 (S:=t.list) hsp (hsub.1.trans g1.sd) q6 (fun e he hh=>q4 e he (g1.all e he hh));dsimp only;rcases hmid with ⟨q7,q8⟩|⟨q7,q8⟩
        ·rw [q7,Bool.not_true,cond_false];obtain ⟨v2,w1,w2⟩:=zlm hG q8.sp q7;rw [w1,Option.bind_some];refine hk _ ⟨q8,w2, .inl ⟨rfl,?_⟩⟩;dsimp only;obtain ⟨_,x,hx,hx1,hx2⟩:=kQ.1 q2;obtain ⟨ix,hix,rfl⟩:=io hx;have h7:=zlw hix hx1 hx2
         have h8:ei r.1≤ei (m'.1.map (iV c.Station c.Channel)):=by
          rcases q6 with ⟨_,_,h9,_⟩|⟨h9,_⟩
          ·exact zey h9.1.1 h9.2
          ·rw [h9] at q7;cases q7
         have h9:ei m'.1≤ei m.1:=by
          rcases g3 with ⟨_,h⟩|⟨_,h,_⟩
          ·omega
          ·rw [h];exact Nat.le_refl _
         omega
        ·rw [q7,Bool.not_false,cond_true];exact ⟨_,rfl, .inr ⟨rfl,q8⟩⟩
    ·rw [h1,Bool.not_false,cond_true];exact ⟨_,rfl, .inr ⟨rfl,h2⟩⟩
 ·cases h2:m.2 with
  |false=>
   rw [Bool.not_false,cond_true];refine ⟨_,rfl, .inr ⟨rfl,fun e he hs=>?_⟩⟩;rcases hI with ⟨h3,_⟩|⟨_,h4⟩
   ·rw [h2] at h3;cases h3
   ·refine h4 e he.cl (hs.trans ?_)
    have key:∀(r:List GChoice) (d:List GDomain),SubD (r.foldl (fun d c=>d.map (gY true c)) d) d:=by
     intro r
     induction r with
     |nil=>exact fun d=> .refl _
     |cons c r ih=>exact fun d=>(ih _).trans (zeW true c).subD.1
    have:=key (l.drop i) (dK p (l.take i));unfold dK at this ⊢;rw [←List.foldl_append,List.take_append_drop] at this;exact this
  |true=>
   rw [Bool.not_true,cond_false];have hk:=zln (p:=p) (l.take i);obtain ⟨r,g1,g2⟩:=zlR hf hok ⟨hk.sub,hk.ord⟩ hI true (cI l i);rw [g1,Option.bind_some];exact hnx _ (by rw [znv hi];exact g2)
end
structure StN (p:GProblem) (t:GStore):Prop where
 pr:t.start.1=p
 st:PropD p p.Domains t.start.2
 tb:TabN p t.domains
 ok:∀g∈t.list,jk p g=true
section
variable {p:GProblem}{t:GStore}{fuel:Nat}
theorem new_x (hf:100000≤fuel)(hok:gJ p=true):∃t,zcU fuel p=some (some t,0)∧StN p t∧t.list=[]:=by
 obtain ⟨hw,hbd,ht,hn⟩:=zit hok;obtain ⟨m,g1,g2⟩:=zeM (fuel:=fuel) hw hbd a5 a5;obtain ⟨v,h1,h2⟩:=zk4 (zm8 hok);unfold zcU;rw [hok,cond_true,g1,Option.bind_some,h1,Option.bind_some];exact ⟨_,rfl,⟨rfl,g2,h2,fun g hg=>by cases hg⟩,rfl⟩
theorem RunN.conf {S:List (List GChoice)}{d:List GDomain}{r:Option (GProblem×(List GDomain×Bool))×Bool}(h:RunN p S d r):r.2=true↔∀e,ClosedN p S e→¬SubD e d:=by
 rcases h with ⟨m,rfl,h1,h2,h3,h4,h5⟩|⟨rfl,h⟩
 ·exact ⟨fun h=>(by cases h),fun h=>absurd h4 (h _ h2)⟩
 ·exact ⟨fun _=>h,fun _=>rfl⟩
theorem zlp (hf:100000≤fuel)(hok:gJ p=true)(h:StN p t){g:List GChoice}:∃b,zaH fuel t g=some (b,bif jk p g then 0 else 2)∧(jk p g=false→b=false)∧(jk p g=true→(b=true↔∀e,ClosedN p t.list e→¬SubD e (dK p g))):=by
 unfold zaH zao;rw [cond_false,zj0 h.tb,Option.bind_some]
 cases hg:jk p g with
 |false=>exact ⟨false,rfl,fun _=>rfl,fun h=>by cases h⟩
 |true=>
  obtain ⟨r,h1,h2⟩:=zmb hf hok h.pr h.st h.ok g;rw [Bool.not_true,cond_false,h1,Option.bind_some];refine ⟨r.2,?_,fun h=>(by cases h),fun _=>h2.conf⟩
  cases r.1.isSome <;> rfl
theorem add_x (h:StN p t){g:List GChoice}(hl:t.list.length<4096)(hg:g.length≤1000):zaE t g=some (bif jk p g then (0,t.list++[g]) else (2,t.list)):=by
 unfold zaE zao;rw [cond_false,zj0 h.tb,Option.bind_some]
 cases hn:jk p g with
 |false=>rfl
 |true=>
  rw [Bool.not_true,cond_false,decide_eq_false a5,cond_false,fZ (by simp only [dl];omega),fZ b6];rfl
theorem StN.add (h:StN p t){g:List GChoice}(hg:jk p g=true):StN p ⟨t.domains,(t.start.1,t.start.2),t.list++[g]⟩:=⟨h.pr,h.st,h.tb,fun x hx=>by
 rcases List.mem_append.1 hx with hx|hx
 ·exact h.ok x hx
 ·simp at hx;rw [hx];exact hg⟩
theorem zk2 {l:List (List GChoice)}{most:Int}(hm:0≤most∧most≤1000)(hf:100000≤fuel):∃b,zcr fuel l most=some b∧(b=true→(l.length:Int)≤most∧∀g∈l,g.length≤20):=by
 unfold zcr;simp only [dL];refine zdE (σ:=Int) (I:=fun i=>0≤i∧i≤1001∧∀j:Nat,(j:Int)<i→j<l.length→(cI l j).length≤20) (μ:=fun i=>(1001 - i).toNat) (post:=fun o=>∃b,o=some b∧(b=true→(l.length:Int)≤most∧∀g∈l,g.length≤20)) ⟨by omega,by omega,fun j h _=>by omega⟩ a5 ?_;rintro i next ⟨h1,h2,h3⟩ hn;by_cases h4:i<(l.length:Int)∧i≤most
 ·rw [decide_eq_true h4.1,decide_eq_true h4.2,Bool.and_true,cond_true,fZ ⟨h1,h4.1⟩];by_cases h5:(20:Int)<((cI l i.toNat).length:Int)
  ·rw [decide_eq_true h5,cond_true];exact ⟨false,rfl,fun h=>by cases h⟩
  ·rw [decide_eq_false h5,cond_false];refine hn _ ⟨by omega,by omega,fun j hj hl=>?_⟩ a5;by_cases h6:(j:Int)<i
   ·exact h3 j h6 hl
   ·(obtain rfl:j=i.toNat:=by omega);omega
 ·have e:(decide (i<(l.length:Int))&&decide (i≤most))=false:=by
   rw [Bool.and_eq_false_iff,decide_eq_false_iff_not,decide_eq_false_iff_not];omega
  rw [e,cond_false];refine ⟨_,rfl,fun h=>?_⟩;rw [decide_eq_true_eq] at h;refine ⟨h,fun g hg=>?_⟩;obtain ⟨j,hj,rfl⟩:=io hg;exact h3 j a5 hj
end
section
variable {p:GProblem}{a:List GChoice}
end
section
variable {p:GProblem}{t:GStore}{fuel:Nat}{l S:List (List GChoice)}
end
def QN (p:GProblem)(S:List (List GChoice))(d:List GDomain)(r:List GDomain×Bool):Prop:=
 (r.2=true∧ClosedN p S r.1∧SubP p r.1∧SubD r.1 d∧∀e,ClosedN p S e→SubD e d→SubD e r.1)∨(r=([],false)∧∀e,ClosedN p S e→¬SubD e d)
def R21 (p:GProblem)(S:List (List GChoice))(d:List GDomain)(s c:Int):Bool:=(S.any fun g=>jS d g s c)||iZ p d s c
section
variable {p:GProblem}{S S':List (List GChoice)}{d a b:List GDomain}{t:GStore}{fuel:Nat}{l:List GChoice}
theorem zno (hok:gJ p=true)(ha:SubP p a)(hb:SubP p b)(h1:SubD a b)(h2:SubD b a):a=b:=by
 obtain ⟨_,hbd,_,_⟩:=zit hok;refine zfw h1.1 fun i hi=>?_; (have hi':i<b.length:=by rw [←h1.1];exact hi); (have hp:i<p.Domains.length:=by rw [←ha.len];exact hi);have hch:(cI a i).Channels=(cI b i).Channels:=zdh (ha.ord i hp) (hb.ord i hp) (hbd.ch _ (fI hp)).2 (fun x=>⟨(h1.2 i hi').2 x,(h2.2 i hi).2 x⟩);have hst:=(h1.2 i hi').1
 cases hx:cI a i;cases hy:cI b i
 rw [hx,hy] at hch hst;simp only at hch hst;rw [hch,hst]
theorem QN.eq {r r':List GDomain×Bool}(hok:gJ p=true)(h:QN p S d r)(h':QN p S d r'):r=r':=by
 rcases h with ⟨h1,h2,h3,h4,h5⟩|⟨h1,h2⟩
 ·rcases h' with ⟨g1,g2,g3,g4,g5⟩|⟨g1,g2⟩
  ·exact Prod.ext (zno hok h3 g3 (g5 _ h2 h4) (h5 _ g2 g4)) (h1.trans g1.symm)
  ·exact absurd h4 (g2 _ h2)
 ·rcases h' with ⟨g1,g2,g3,g4,g5⟩|⟨g1,g2⟩
  ·exact absurd g4 (h2 _ g2)
  ·rw [h1,g1]
theorem ClosedN.mono (h:ClosedN p S d)(hs:∀g∈S',g∈S):ClosedN p S' d:=⟨h.cl,fun g hg=>h.ne g (hs g hg),fun g hg=>h.calm g (hs g hg)⟩
theorem QN.congr {r:List GDomain×Bool}(h:QN p S d r)(hs:∀g,g∈S↔g∈S'):QN p S' d r:=by
 have f:∀ {e},ClosedN p S' e→ClosedN p S e:=fun he=>he.mono fun g hg=>(hs g).1 hg;rcases h with ⟨h1,h2,h3,h4,h5⟩|⟨h1,h2⟩
 ·exact .inl ⟨h1,h2.mono fun g hg=>(hs g).2 hg,h3,h4,fun e he=>h5 e (f he)⟩
 ·exact .inr ⟨h1,fun e he=>h2 e (f he)⟩
theorem R21.mono (hok:gJ p=true):MonoR (R21 p S):=fun a b s c h hr=>by
 unfold R21 at hr ⊢;rw [Bool.or_eq_true,List.any_eq_true] at hr ⊢;rcases hr with ⟨g,hg,hr⟩|hr
 ·refine .inl ⟨g,hg,?_⟩;unfold jS at hr ⊢;rw [Bool.and_eq_true,List.all_eq_true] at hr ⊢;refine ⟨hr.1,fun x hx=>?_⟩;have:=hr.2 x hx;rw [Bool.or_eq_true] at this ⊢;exact this.imp id (zc6 h)
 ·exact .inr (zge (zit hok).1 h hr)
theorem ValidL.take (h:ValidL l)(n:Nat):ValidL (l.take n):=by
 refine ⟨fun x hx=>h.good x (List.mem_of_mem_take hx),fun i j hij hj=>?_⟩;rw [List.length_take] at hj;rw [dS (by rw [List.length_take];omega),dS (by rw [List.length_take];omega),List.getElem_take,List.getElem_take];have:=h.inc i j hij a5
 rwa [dS a5,dS a5] at this
end
section
variable {p:GProblem}{fuel:Nat}
end
def HoldN (q:GProblem)(S:List (List GChoice))(g:List GChoice):Prop:=jk q g=true∧∀e,ClosedN q S e→¬SubD e (dK q g)
def AllN (q:GProblem):List (List GChoice)→List (List GChoice)→Prop
 |_,[]=>True
 |S,g :: l=>HoldN q S g∧AllN q (S++[g]) l
open Classical in
noncomputable def eY (q:GProblem):List (List GChoice)→List (List GChoice)→Nat
 |_,[]=>0
 |S,g :: l=>if HoldN q S g then eY q (S++[g]) l+1 else 0
section
variable {q:GProblem}{fuel:Nat}{S S':List (List GChoice)}{g:List GChoice}
theorem ClosedN.less {d:List GDomain}(h:ClosedN q S d)(hs:∀g∈S',g∈S):ClosedN q S' d:=⟨h.cl,fun g hg=>h.ne g (hs g hg),fun g hg=>h.calm g (hs g hg)⟩
theorem HoldN.mono (h:HoldN q S g)(hs:∀x∈S,x∈S'):HoldN q S' g:=⟨h.1,fun e he=>h.2 e (he.less hs)⟩
theorem AllN.mono:∀ {l:List (List GChoice)} {S S':List (List GChoice)},(∀x∈S,x∈S')→AllN q S l→AllN q S' l
 | [],_,_,_,_=>trivial
 |g :: l,S,S',hs,h=>⟨h.1.mono hs,AllN.mono (fun x hx=>by
  rcases List.mem_append.1 hx with hx|hx
  ·exact List.mem_append_left _ (hs x hx)
  ·exact List.mem_append_right _ hx) h.2⟩
theorem AllN.ok:∀ {l:List (List GChoice)} {S:List (List GChoice)},AllN q S l→∀g∈l,jk q g=true
 | [],_,_,_,hg=>by cases hg
 |g :: l,S,h,x,hx=>by
  rcases List.mem_cons.1 hx with rfl|hx
  ·exact h.1.1
  ·exact AllN.ok h.2 x hx
theorem zj2 {l:List (List GChoice)}(h:HoldN q S g):eY q S (g :: l)=eY q (S++[g]) l+1:=if_pos h
theorem zlY {l:List (List GChoice)}(h:¬HoldN q S g):eY q S (g :: l)=0:=if_neg h
theorem zhg {l:List (List GChoice)}{i:Nat}(hi:i<l.length):l.drop i=cI l i :: l.drop (i+1):=by
 rw [List.drop_eq_getElem_cons hi,dS hi]
theorem zjh {l:List (List GChoice)}{i:Nat}(hi:i<l.length)(h:HoldN q (S++l.take i) (cI l i)):eY q (S++l.take i) (l.drop i)=eY q (S++l.take (i+1)) (l.drop (i+1))+1:=by
 rw [zhg hi,zj2 h,List.append_assoc,←zcW hi]
theorem zgo {l:List (List GChoice)}{i:Nat}(hi:i<l.length)(h:¬HoldN q (S++l.take i) (cI l i)):eY q (S++l.take i) (l.drop i)=0:=by
 rw [zhg hi,zlY h]
theorem zlN (hf:100000≤fuel)(hok:gJ q=true){t:GStore}(h:StN q t){l:List (List GChoice)}(hn:t.list.length+l.length≤4096)(hs:∀g∈l,g.length≤1000):∃c,zbg fuel t l=some ((eY q t.list l:Int),c):=by
 unfold zbg;refine l9 ?_;refine zcp (σ:=List (List GChoice)) (fun i c=>(∀g∈l.take i,jk q g=true)∧(i<l.length→c=t.list++l.take i)∧eY q t.list l=i+eY q (t.list++l.take i) (l.drop i)) (fun o=>∃c,o=some ((eY q t.list l:Int),c)) ⟨fun g hg=>(by simp at hg),fun _=>a8,by simp⟩ (fun c hc=>?_) (fun i c next hi hc hnx=>?_)
 ·refine ⟨c,?_⟩;have:=hc.2.2;rw [List.drop_length] at this;have h0:eY q (t.list++l.take l.length) []=0:=rfl;rw [h0] at this;rw [this];rfl
 ·obtain ⟨h1,h2,h3⟩:=hc;have h2:=h2 hi;subst h2
  have hst:StN q ⟨t.domains,(t.start.1,t.start.2),t.list++l.take i⟩:=⟨h.pr,h.st,h.tb,fun g hg=>by
   rcases List.mem_append.1 hg with hg|hg
   ·exact h.ok g hg
   ·exact h1 g hg⟩
  (have hlt:(t.list++l.take i).length<4096:=by rw [List.length_append,List.length_take];omega);obtain ⟨b,f1,f2,f3⟩:=zlp hf hok hst (g:=cI l i);rw [f1,Option.bind_some]
  cases hg:jk q (cI l i) with
  |false=>
   (have hno:¬HoldN q (t.list++l.take i) (cI l i):=fun hh=>by rw [hh.1] at hg;cases hg);rw [zgo hi hno,Nat.add_zero] at h3;refine ⟨t.list++l.take i,?_⟩;rw [h3];rfl
  |true=>
   cases b with
   |false=>
    (have hno:¬HoldN q (t.list++l.take i) (cI l i):=fun hh=>by have:=(f3 hg).2 hh.2;cases this);rw [zgo hi hno,Nat.add_zero] at h3;refine ⟨t.list++l.take i,?_⟩;rw [h3];rfl
   |true=>
    have hho:HoldN q (t.list++l.take i) (cI l i):=⟨hg,(f3 hg).1 rfl⟩;rw [zjh hi hho] at h3
    have h1':∀g∈l.take (i+1),jk q g=true:=fun g hgm=>by
     rw [zcW hi] at hgm;rcases List.mem_append.1 hgm with hgm|hgm
     ·exact h1 g hgm
     ·simp at hgm;rw [hgm];exact hg
    show ∃c,(bif (decide (¬(0:Int)=0))||(!true) then _ else _)=_
    rw [decide_eq_false a5,Bool.not_true,Bool.or_self,cond_false];by_cases hl:(i:Int)<(l.length:Int) - 1
    ·rw [decide_eq_true hl,cond_true,add_x hst hlt (hs _ (fI hi)),hg,cond_true,Option.bind_some]
     show ∃c,(bif decide (¬(0:Int)=0) then _ else _)=_
     rw [decide_eq_false a5,cond_false];refine hnx _ ⟨h1',fun _=>?_,by omega⟩
     show t.list++l.take i++[cI l i]=_
     rw [List.append_assoc,←zcW hi]
    ·rw [decide_eq_false hl,cond_false,cond_false];exact hnx _ ⟨h1',fun h4=>by omega,by omega⟩
end
section
variable {p:GProblem}{x:GProof}{fuel:Nat}
theorem zhl {st:List Int}(h:gJ p=true):gJ (kP p st)=true:=by
 rw [←zgM] at h ⊢;exact zmL h
noncomputable def e9 (p:GProblem) (x:GProof):Int×Int:=bif gJ p&&ld x then (bif x.Stations.all (dG p) then ((eY (kP p x.Stations) [] x.Lemmas:Int),0) else (0,9)) else (0,2)
theorem znX (h:ld x=true):kc x.Stations=true:=by unfold ld at h;exact fk h
theorem okX_n (h:ld x=true):x.Lemmas.length≤4096:=by
 obtain ⟨M,e,hM⟩:=zot h;have:=hM.n;rw [e,List.length_append,List.length_singleton];omega
theorem zmE (h:(gJ p&&ld x)=false):zbb fuel p x=some (none,2):=by
 unfold zbb;simp only [dL,zhC,Option.bind_some]
 cases h1:gJ p with
 |false=>rfl
 |true=>
  rw [h1,Bool.true_and] at h;rw [h];rfl
theorem zkw (hok:gJ p=true)(hx:ld x=true)(h:x.Stations.all (dG p)=false):zbb fuel p x=some (none,9):=by
 unfold zbb;simp only [dL,zhC,Option.bind_some,hok,hx,zg9,zh7,zgM,znX hx,h]
 rfl
theorem znD (hf:100000≤fuel)(hok:gJ p=true)(hx:ld x=true)(h:x.Stations.all (dG p)=true):∃t,zbb fuel p x=some (some t,0)∧StN (kP p x.Stations) t∧t.list=[]:=by
 obtain ⟨t,h1,h2,h3⟩:=new_x (fuel:=fuel) hf (zhl (st:=x.Stations) hok);refine ⟨t,?_,h2,h3⟩;unfold zbb;simp only [dL,zhC,Option.bind_some,hok,hx,zg9,zh7,zgM,znX hx,h,Bool.and_self,cond_true,Bool.not_true,cond_false,h1]
 rfl
theorem ziP (hf:100000≤fuel)(hs:∀g∈x.Lemmas,g.length≤1000):zbD fuel p x=some (e9 p x):=by
 unfold zbD e9
 cases h:gJ p&&ld x with
 |false=>rw [zmE h];rfl
 |true=>
  have hok:=fk h;have hx:=fP h
  cases ha:x.Stations.all (dG p) with
  |false=>rw [zkw hok hx ha];rfl
  |true=>
   obtain ⟨t,h1,h2,h3⟩:=znD hf hok hx ha;have hn:=okX_n hx;obtain ⟨c,h4⟩:=zlN hf (zhl (st:=x.Stations) hok) h2 (l:=x.Lemmas) (by rw [h3];simpa using hn) hs;rw [h1,Option.bind_some]
   show (zbg fuel t x.Lemmas).bind _=_
   rw [h4,h3];rfl
noncomputable def gW (p:GProblem) (x:GProof):Int:=bif ((decide ((e9 p x).2=0))&&(decide ((e9 p x).1<(x.Lemmas.length:Int)))) then 10 else (e9 p x).2
theorem ziT (hf:100000≤fuel)(hs:∀g∈x.Lemmas,g.length≤1000):zbq fuel p x=some (gW p x):=by
 unfold zbq gW;rw [ziP hf hs,Option.bind_some]
 cases ((decide ((e9 p x).2=0))&&(decide ((e9 p x).1<(x.Lemmas.length:Int)))) <;> rfl
end
def kK (a:Int)(b:Int):GPair:=
 (GPair.mk a b 0 14 51)
theorem zek (F0:Frz)(w:World)(hF0:F0.At w)(a:Int)(b:Int):Calls Tryz.prog 71 #[.int .i64 a, .int .i64 b] w fun e w'=>e= .returned (.agg [.int .i64 ((kK a b).A), .int .i64 ((kK a b).B), .int .i64 ((kK a b).Offset), .int .i64 ((kK a b).Low), .int .i64 ((kK a b).High)].toArray)∧Below w.heap.size w w':=by
 obtain ⟨r,hk⟩:∃r,kK a b=r:=⟨_,rfl⟩;rw [hk];unfold kK at hk;obtain ⟨S0,F1,rfl,hS0,hp0⟩:=eX hF0;refine dv Tryz.func71 rfl rfl rfl hp0 ?_;refine dk ?_;refine gB ?_;rintro _ _ ⟨g4,rfl,rfl⟩;refine dV ?_;refine eh ?_;refine jq ?_;refine kH ?_;refine gb ?_;subst hk;exact lh 0 rfl rfl rfl rfl (fun w' hw=>⟨rfl,hw.isBelow⟩)
def lD  : GProblem :=
 (GProblem.mk [(GDomain.mk 1 [14,15]),(GDomain.mk 2 [14,15]),(GDomain.mk 3 [14,15]),(GDomain.mk 4 [14])] (GRules.mk [(kK 1 2),(kK 1 3),(kK 2 3)] [] []))
theorem zcM (F0 : Frz)(w : World)(hF0 : F0.At w)  : Calls Tryz.prog 33 #[] w fun e w' => ∃ (y : Value × List (List Value) × Value × Value × Value) (G : Frz), (SlD cJ G y.1 2 y.2.1 ((lD).Domains) ∧ SlC G y.2.2.1 5 (((lD).Rules.Pairs).map cN) ∧ SlC G y.2.2.2.1 5 (((lD).Rules.Loads).map cO) ∧ SlC G y.2.2.2.2 4 (((lD).Rules.Caps).map cR)) ∧ e = .returned (.agg [y.1, y.2.2.1, y.2.2.2.1, y.2.2.2.2].toArray) ∧ Fx F0 w G w' := by
 obtain ⟨r,hk⟩:∃r,lD=r:=⟨_,rfl⟩;rw [hk];unfold lD at hk;obtain ⟨S0,F1,rfl,hS0,hp0⟩:=eX hF0;refine dv Tryz.func33 rfl rfl rfl hp0 ?_;refine dk ?_;refine gB ?_;rintro _ _ ⟨g0,rfl,rfl⟩;refine dV ?_;refine j2 ?_;rintro _ _ ⟨g2,rfl,rfl⟩;refine kU ?_;refine mP (fun w hw=>hw.freezeR (i:=2) (j:=0) a6 rfl rfl) ?_;rintro F2 ⟨le1_2,hz2⟩;refine iG ?_;have hf2:SlC F2.toFrz (.slice (some ⟨g2,0,none⟩) 2 2) 1 ([14,15].map eI):=(SlK.lit hz2 rfl (Nat.le_refl _) a6).toF (xs:=[14,15]) rfl (fun _=>rfl);refine it ?_;refine jq ?_;refine dd ?_;refine jq ?_;refine dd ?_;refine jq ?_;refine j2 ?_;rintro _ _ ⟨g9,rfl,rfl⟩;refine jH (fun w hw=>hw.freezeR (i:=2) (j:=0) a6 rfl rfl) ?_;rintro F3 ⟨le2_3,hz3⟩;refine iG ?_;have le1_3:=le1_2.trans le2_3;have hf3:SlC F3.toFrz (.slice (some ⟨g9,0,none⟩) 1 1) 1 ([14].map eI):=(SlK.lit hz3 rfl (Nat.le_refl _) a6).toF (xs:=[14]) rfl (fun _=>rfl);refine jq ?_;refine j2 ?_;rintro _ _ ⟨g11,rfl,rfl⟩;have hl11:OwnD cJ F3.toFrz 2 [[.int .i64 1,(.slice (some ⟨g2,0,none⟩) 2 2)],[.int .i64 2,(.slice (some ⟨g2,0,none⟩) 2 2)],[.int .i64 3,(.slice (some ⟨g2,0,none⟩) 2 2)],[.int .i64 4,(.slice (some ⟨g9,0,none⟩) 1 1)]] [(GDomain.mk 1 [14,15]),(GDomain.mk 2 [14,15]),(GDomain.mk 3 [14,15]),(GDomain.mk 4 [14])]:=(de (de (de (de (OwnD.nil _ _ 2) ⟨_,rfl,(SlC.mono hf2 le2_3)⟩) ⟨_,rfl,(SlC.mono hf2 le2_3)⟩) ⟨_,rfl,(SlC.mono hf2 le2_3)⟩) ⟨_,rfl,hf3⟩);refine cT (cL rfl rfl rfl (fun w hw=>zek _ w (hw.fr (i:=2) rfl) 1 2)) ?_;refine eP ?_;refine cT (cL rfl rfl rfl (fun w hw=>zek _ w (hw.fr (i:=2) rfl) 1 3)) ?_;refine eP ?_;refine cT (cL rfl rfl rfl (fun w hw=>zek _ w (hw.fr (i:=2) rfl) 2 3)) ?_;refine eP ?_;refine j2 ?_;rintro _ _ ⟨g15,rfl,rfl⟩;refine jq ?_;refine jq ?_;refine ek (du 2) ?_;refine eP ?_;refine gb ?_;refine i0 (fun w hw=>hw.freezeR (i:=3) (j:=1) a6 rfl rfl) ?_;rintro F4 ⟨le3_4,hz4⟩;refine iG ?_;have le1_4:=le1_3.trans le3_4;have hf4:SlD cJ F4.toFrz (.slice (some ⟨g11,0,none⟩) 4 4) 2 [[.int .i64 1,(.slice (some ⟨g2,0,none⟩) 2 2)],[.int .i64 2,(.slice (some ⟨g2,0,none⟩) 2 2)],[.int .i64 3,(.slice (some ⟨g2,0,none⟩) 2 2)],[.int .i64 4,(.slice (some ⟨g9,0,none⟩) 1 1)]] [(GDomain.mk 1 [14,15]),(GDomain.mk 2 [14,15]),(GDomain.mk 3 [14,15]),(GDomain.mk 4 [14])]:=(SlK.lit hz4 rfl (Nat.le_refl _) a6).toD (OwnD.mono (rep:=cJ) (fun _ _ _ _=>GDomain.mono) hl11 le3_4) rfl;refine q3f ?_;rintro F5 ⟨le4_5,hz5⟩;refine iG ?_;have le1_5:=le1_4.trans le4_5;have hf5:SlC F5.toFrz (.slice (some ⟨g15,0,none⟩) 3 3) 5 ([(kK 1 2),(kK 1 3),(kK 2 3)].map cN):=(SlK.lit hz5 rfl (Nat.le_refl _) a6).toF (xs:=[(kK 1 2),(kK 1 3),(kK 2 3)]) rfl GPair.len;subst hk;exact lh 0 rfl rfl rfl rfl (fun w' hw=>⟨((.slice (some ⟨g11,0,none⟩) 4 4),[[.int .i64 1,(.slice (some ⟨g2,0,none⟩) 2 2)],[.int .i64 2,(.slice (some ⟨g2,0,none⟩) 2 2)],[.int .i64 3,(.slice (some ⟨g2,0,none⟩) 2 2)],[.int .i64 4,(.slice (some ⟨g9,0,none⟩) 1 1)]],(.slice (some ⟨g15,0,none⟩) 3 3),(.slice none 0 0),(.slice none 0 0)),F5.toFrz,⟨(SlD.mono (rep:=cJ) (fun _ _ _ _=>GDomain.mono) hf4 le4_5),hf5,(SlC.nil _ 5),(SlC.nil _ 4)⟩,rfl,fN hw (i:=1) rfl hS0 le1_5⟩)
def zbc (stations:List Int)(lemmas:Int):Option GProof:=
 dL (fun (s3:List Int×List (List GChoice))=>
  eg (dl (s3.2++[[]]).length 24) <|
  some (GProof.mk s3.1 (s3.2++[[]])))
 (fun k3=>
  eg (lemmas≤9223372036854775807) <|
  da (fun (i_7:Nat) (next6:(List Int×List (List GChoice))→Option GProof) (s6:List Int×List (List GChoice))=>
   eg (dl (s6.2++[[(GChoice.mk (i_7:Int) 14)]]).length 24) <|
   next6 (s6.1,(s6.2++[[(GChoice.mk (i_7:Int) 14)]])))
  (fun (s6:List Int×List (List GChoice))=>
   k3 (s6.1,s6.2)) (lemmas.toNat - 1) 1 (stations,[]))
theorem zbC (F0:Frz)(w:World)(hF0:F0.At w)(stations:List Int)(vstations:Value)(hstations:SlC F0 vstations 1 (stations.map eI))(lemmas:Int)(r:GProof)(hr:zbc stations lemmas=some r):Calls Tryz.prog 34 #[vstations, .int .i64 lemmas] w fun e w'=>∃(y:Value×Value×List (List Value)) (G:Frz),(SlC G y.1 1 (r.Stations.map eI)∧SlD cH G y.2.1 1 y.2.2 r.Lemmas)∧e= .returned (.agg [y.1,y.2.1].toArray)∧Fx F0 w G w':=by
 have hk:=hr;unfold zbc at hk;haveI:=hstations.oneC;obtain ⟨S0,F1,rfl,hS0,hp0⟩:=eX hF0;refine dv Tryz.func34 rfl rfl rfl hp0 ?_;refine dk ?_;refine gB ?_;rintro _ _ ⟨g4,rfl,rfl⟩;refine jW ?_;refine jq ?_;refine gB ?_;rintro _ _ ⟨g5,rfl,rfl⟩;refine TL.slNil 50 1 ?_;refine ek (du 1) ?_;refine eP ?_;refine TL.slNil 50 1 ?_;refine iS ?_;refine dD ?_;have hq:=em hk;clear hk;obtain ⟨k3,hk3,hk⟩:=hq; (try dsimp only at hk);refine dc (ι:=List Int×Value×List (List GChoice)×Value×List (List Value)×FzB w (fun _=>False) S0) (fun z=>[(4, .pointer (some ⟨g4,0,none⟩)),(5, .pointer (some ⟨g5,0,none⟩))]) (fun z=>[.sl z.2.2.2.1 50 1 z.2.2.1.length z.2.2.2.2.1.flatten, .row g5 33 [z.2.1,z.2.2.2.1], .row g4 33 [(.slice none 0 0),(.slice none 0 0)], .fr z.2.2.2.2.2]) (fun z=>k3 (z.1,z.2.2.1)=some r∧SlC z.2.2.2.2.2.toFrz z.2.1 1 (z.1.map eI)∧OwnD cH z.2.2.2.2.2.toFrz 1 z.2.2.2.2.1 z.2.2.1∧OneC z.2.2.2.1∧F1.toFrz.Le z.2.2.2.2.2.toFrz) ?_ ?_
 ·have hq:(lemmas≤9223372036854775807)∧_:=fQ hk;clear hk;obtain ⟨gl6,hk⟩:=hq; (try dsimp only at hk);have hq:=fx hk;clear hk;obtain ⟨f6,kk6,hf6,hkk6,hk⟩:=hq;refine fm ?_;refine T.pick [0,2,3,4] rfl a6 ?_;refine T.loop (ι:=Nat×List Int×Value×List (List GChoice)×Value×List (List Value)×FzB w (fun _=>False) S0) (fun z=>[(1, .int .i64 lemmas),(4, .pointer (some ⟨g4,0,none⟩)),(5, .pointer (some ⟨g5,0,none⟩)),(6, .int .i64 (z.1:Int))]) (fun z=>[.sl z.2.2.2.2.1 50 1 z.2.2.2.1.length z.2.2.2.2.2.1.flatten, .row g5 33 [z.2.2.1,z.2.2.2.2.1], .row g4 33 [(.slice none 0 0),(.slice none 0 0)], .fr z.2.2.2.2.2.2]) (fun z=>da f6 kk6 (lemmas.toNat - z.1) z.1 (z.2.1,z.2.2.2.1)=some r∧SlC z.2.2.2.2.2.2.toFrz z.2.2.1 1 (z.2.1.map eI)∧OwnD cH z.2.2.2.2.2.2.toFrz 1 z.2.2.2.2.2.1 z.2.2.2.1∧OneC z.2.2.2.2.1∧F1.toFrz.Le z.2.2.2.2.2.2.toFrz) (fun z=>lemmas.toNat - z.1) (1,stations,vstations,[],(.slice none 0 0),[],F1) ?_ ?_ ?_ ?_
  ·exact ⟨hk,hstations,(OwnD.nil _ _ 1),inferInstance,(Frz.Le.refl _)⟩
  ·exact q4o
  ·exact eQ
  ·rintro ⟨i_7,c_4,vc_4,c_5,vc_5,cc_5,F3⟩ ⟨hk,hc_4,hc_5,oc_5,le1_3⟩; (try dsimp only at *);haveI:=hc_4.oneC;refine jp ?_;refine eM ?_;refine c4 ?_;refine T.cond rfl (fun h8=>?_) (fun h8=>?_)
   ·have p8:=of_decide_eq_true h8;rw [fw a5] at hk;generalize hn6:da f6 kk6 (lemmas.toNat - (i_7+1)) (i_7+1)=next6 at hk;rw [←hf6] at hk; (try dsimp only at hk);refine T.skip (K.seq (T.seq (T.block ?_)));have hq:(dl (c_5++[[(GChoice.mk (i_7:Int) 14)]]).length 24)∧_:=fQ hk;clear hk;obtain ⟨g20,hk⟩:=hq; (try dsimp only at hk);refine eS ?_;refine lM ?_;refine dd ?_;refine jq ?_;refine j2 ?_;rintro _ _ ⟨g18,rfl,rfl⟩;refine jH (fun w hw=>hw.freezeR (i:=4) (j:=0) a6 rfl rfl) ?_;rintro F4 ⟨le3_4,hz4⟩;refine iG ?_;have le1_4:=le1_3.trans le3_4;have hf4:SlC F4.toFrz (.slice (some ⟨g18,0,none⟩) 1 1) 2 ([(GChoice.mk (i_7:Int) 14)].map cU):=(SlK.lit hz4 rfl (Nat.le_refl _) a6).toF (xs:=[(GChoice.mk (i_7:Int) 14)]) rfl GChoice.len;refine j2 ?_;rintro _ _ ⟨g19,rfl,rfl⟩;have hl19:OwnD cH F4.toFrz 1 [[(.slice (some ⟨g18,0,none⟩) 1 1)]] [[(GChoice.mk (i_7:Int) 14)]]:=(de (OwnD.nil _ _ 1) ⟨_,rfl,hf4⟩);refine cT (fK 1 0 rfl rfl rfl rfl rfl rfl (lg (ys:=[[(GChoice.mk (i_7:Int) 14)]])) (zb4 (cs:=cc_5) (ds:=[[(.slice (some ⟨g18,0,none⟩) 1 1)]])) g20 a6) ?_;rintro v20 _ ⟨hv20,rfl⟩;have ho20:OwnD cH F4.toFrz 1 (cc_5++[[(.slice (some ⟨g18,0,none⟩) 1 1)]]) (c_5++[[(GChoice.mk (i_7:Int) 14)]]):=(de (OwnD.mono (rep:=cH) (fun _ _ _ _=>R_List_GChoice.mono) hc_5 le3_4) ⟨_,rfl,hf4⟩);refine fj ?_;refine ek (ey 2 rfl rfl rfl rfl a8) ?_;refine eP ?_;refine TL.nil (fS (K.seq (T.region ?_)));refine dd ?_;refine j0 ?_;rw [←hn6] at hk;refine K.pick [1,2,3,4] rfl a6 ?_;exact K.next ((i_7+1),c_4,vc_4,(c_5++[[(GChoice.mk (i_7:Int) 14)]]),v20,(cc_5++[[(.slice (some ⟨g18,0,none⟩) 1 1)]]),F4) ⟨hk,(SlC.mono hc_4 le3_4),ho20,inferInstance,le1_4⟩ a9 (.c (.c (.c (.c .nil)))) (List.Sublist.refl _)
   ·have p8:=of_decide_eq_false h8;rw [fA a5,←hkk6] at hk; (try dsimp only at hk);refine eF ?_;exact cS (c_4,vc_4,c_5,vc_5,cc_5,F3) ⟨hk,hc_4,hc_5,inferInstance,le1_3⟩ (.c (.c .nil)) (List.Sublist.refl _)
 ·rintro ⟨c_1,vc_1,c_2,vc_2,cc_2,F2⟩ ⟨hk,hc_1,hc_2,oc_2,le1_2⟩; (try dsimp only at *);rw [←hk3] at hk; (try dsimp only at hk);haveI:=hc_1.oneC;refine T.seq ?_;have hq:(dl (c_2++[[]]).length 24)∧_:=fQ hk;clear hk;obtain ⟨g25,hk⟩:=hq; (try dsimp only at hk);refine eS ?_;refine lM ?_;refine j2 ?_;rintro _ _ ⟨g24,rfl,rfl⟩;have hl24:OwnD cH F2.toFrz 1 [[(.slice none 0 0)]] [[]]:=(de (OwnD.nil _ _ 1) ⟨_,rfl,(SlC.nil _ 2)⟩);refine cT (fK 1 0 rfl rfl rfl rfl rfl rfl (lg (ys:=[[]])) (zb4 (cs:=cc_2) (ds:=[[(.slice none 0 0)]])) g25 a6) ?_;rintro v25 _ ⟨hv25,rfl⟩;have ho25:OwnD cH F2.toFrz 1 (cc_2++[[(.slice none 0 0)]]) (c_2++[[]]):=(de hc_2 ⟨_,rfl,(SlC.nil _ 2)⟩);refine fj ?_;refine ek (ey 2 rfl rfl rfl rfl a8) ?_;refine eP ?_;refine dV ?_;refine cK (d5 2) ?_;refine ek (du 3) ?_;refine eP ?_;refine gb ?_;refine i0 (fun w hw=>hw.freezeS (i:=4) (j:=1) a6 rfl rfl) ?_;rintro F5 ⟨le2_5,hz5⟩;refine iG ?_;have le1_5:=le1_2.trans le2_5;have hf5:=hz5.toD (OwnD.mono (rep:=cH) (fun _ _ _ _=>R_List_GChoice.mono) ho25 le2_5) rfl;haveI:=hf5.1.oneC;obtain rfl:=Option.some.inj hk;exact lh 2 rfl rfl rfl rfl (fun w' hw=>⟨(vc_1,v25,(cc_2++[[(.slice none 0 0)]])),F5.toFrz,⟨(SlC.mono hc_1 le2_5),hf5⟩,rfl,fN hw (i:=3) rfl hS0 le1_5⟩)
def zb5 (fuel:Nat)(x_:GProof)(want:Int)(e_:Int):Option Bool:=
 (zbD fuel (lD) x_).bind fun r12=>
 some ((decide (r12.1=want))&&(decide (r12.2=e_)))
theorem zc2 (F0:Frz)(w:World)(hF0:F0.At w)(x_:GProof)(vx__0:Value)(hx__0:SlC F0 vx__0 1 (x_.Stations.map eI))(vx__1:Value)(cx__1:List (List Value))(hx__1:SlD cH F0 vx__1 1 cx__1 x_.Lemmas)(want:Int)(e_:Int)(htab:Tab w)(fuel:Nat)(hfu:100000≤fuel)(r:Bool)(hr:zb5 fuel x_ want e_=some r):Calls Tryz.prog 35 #[.agg [vx__0,vx__1].toArray, .int .i64 want, .int .i64 e_] w fun e w'=>e= .returned (.bool r)∧Below w.heap.size w w':=by
 have hk:=hr;unfold zb5 at hk;haveI:=hx__0.oneC;haveI:=hx__1.1.oneC;obtain ⟨S0,F1,rfl,hS0,hp0⟩:=eX hF0;have hM0:¬(fun _:Nat=>False) 0:=fun h=>h;have htk:∀ {hs:HS} {w':World},Hp w (fun _=>False) hs w'→Tab w':=fun hw=>htab.keptF hw;refine dv Tryz.func35 rfl rfl rfl hp0 ?_;refine iW ?_;rintro _ _ ⟨g3,rfl,rfl⟩;refine kU ?_;have hq:=dZ hk;clear hk;obtain ⟨r12,hr12,hk⟩:=hq; (try dsimp only at hk);refine dI (.still 1 (.eff 0 (.eff 2 (sN 3 4 (.still 7 .done))))) _ a7 (List.Sublist.refl _) ?_;refine kE ?_;refine dy ?_;refine c6 rfl (Wt.none) rfl rfl (d3 1 rfl rfl rfl rfl (fun w hw hF=>zcM _ w hF )) ?_;rintro _ _ ⟨⟨v10_0_0,cs10_0_0,v10_0_1,v10_0_2,v10_0_3⟩,F2,le1_2,⟨hf10_0_0,hf10_0_1,hf10_0_2,hf10_0_3⟩,rfl,rfl⟩;dsimp only at hf10_0_0 hf10_0_1 hf10_0_2 hf10_0_3 ⊢;haveI:=hf10_0_0.1.oneC;haveI:=hf10_0_1.oneC;haveI:=hf10_0_2.oneC;haveI:=hf10_0_3.oneC;refine ⟨(fun w hw=>(hw.frLe (i:=1) rfl le1_2).sub Sx),?_⟩;refine dy ?_;refine c6 rfl (Wt.none) rfl rfl (cL rfl rfl rfl (fun w hw=>zc4 _ w (hw.fr (i:=1) rfl) (lD) v10_0_0 cs10_0_0 hf10_0_0 v10_0_1 hf10_0_1 v10_0_2 hf10_0_2 v10_0_3 hf10_0_3 x_ vx__0 (SlC.mono hx__0 le1_2) vx__1 cx__1 (SlD.mono (rep:=cH) (fun _ _ _ _=>R_List_GChoice.mono) hx__1 le1_2) (htab.keptF hw) fuel hfu r12 hr12)) ?_;refine eP ?_;refine ⟨(fun w hw=>(hw.frLe (i:=1) rfl le1_2).sub Sx),?_⟩;refine TS.run 5 rfl ?_;refine fc ?_;refine K.seq (T.seq ?_);refine dc (ι:=Unit) (fun z=>[(6, .bool ((decide (r12.1=want))&&(decide (r12.2=e_))))]) (fun z=>[.row g3 33 [vx__0,vx__1], .fr F2]) (fun z=>True) ?_ ?_
 ·refine eS ?_;refine TL.run 4 rfl ?_;refine dw rfl rfl rfl (fun h1=>?_) (fun h1=>?_)
  ·have p1:=of_decide_eq_true h1;refine lO ?_;exact q4u
  ·have p1:=of_decide_eq_false h1;refine lO ?_;exact q4v
 ·rintro _ _;refine T.ret ?_;obtain rfl:=Option.some.inj hk;exact d7
def zbR (fuel : Nat)  : Option Bool :=
 (zbc [1,2,3] 3).bind fun r9=>
 (zbq fuel (lD) r9).bind fun r10=>
 dL (fun (x_1:Bool)=>
  (bif x_1 then
   some false
   else
   (zbc [1,2] 3).bind fun r32=>
   (zb5 fuel r32 0 0).bind fun r33=>
   dL (fun (x_7:Bool)=>
    (bif x_7 then
     some false
     else
     (zbc [1,2,3] 3).bind fun r44=>
     (zea fuel (lD) r44).bind fun r45=>
     (zds fuel r45.1).bind fun r50=>
     dL (fun (x_11:Bool)=>
      some x_11)
     (fun k12=>
      (bif decide (r45.2=0) then
       (bif decide (r50.2=0) then
        (zbc [1,2,3] 2).bind fun r62=>
        (bif (zdr r45.1 r62) then
         k12 ((u8s r50.1) == ([3,1,2,3,2,1,1,14,0]:List UInt8))
         else
         k12 false)
        else
        k12 false)
       else
       k12 false))))
   (fun k8=>
    (bif !r33 then
     k8 true
     else
     (zbc [1,2,3,5] 3).bind fun r37=>
     (zb5 fuel r37 0 9).bind fun r38=>
     k8 (!r38)))))
 (fun k2=>
  (bif decide (¬r10=0) then
   k2 true
   else
   (zbc [1,2,3] 3).bind fun r14=>
   (zb5 fuel r14 3 0).bind fun r15=>
   (bif !r15 then
    k2 true
    else
    (zbc [1,2,3] 1).bind fun r20=>
    (zb5 fuel r20 0 0).bind fun r21=>
    (bif !r21 then
     k2 true
     else
     (zbc [1,2,3] 1).bind fun r27=>
     (zbq fuel (lD) r27).bind fun r28=>
     k2 (decide (¬r28=10))))))
theorem zdO (F0 : Frz)(w : World)(hF0 : F0.At w)  (htab : Tab w)(fuel : Nat)(hfu : 100000 ≤ fuel)(r : Bool)(hr : zbR fuel = some r) : Calls Tryz.prog 10 #[] w fun e w' => e = .returned (.bool r) ∧ Below w.heap.size w w' := by
 have hk:=hr;unfold zbR at hk;obtain ⟨S0,F1,rfl,hS0,hp0⟩:=eX hF0;have hM0:¬(fun _:Nat=>False) 0:=fun h=>h;have htk:∀ {hs:HS} {w':World},Hp w (fun _=>False) hs w'→Tab w':=fun hw=>htab.keptF hw;refine dv Tryz.func10 rfl rfl rfl hp0 ?_;refine q3K ?_;refine j2 ?_;rintro _ _ ⟨g6,rfl,rfl⟩;refine q4a ?_;refine mP (fun w hw=>hw.freezeR (i:=1) (j:=0) a6 rfl rfl) ?_;rintro F2 ⟨le1_2,hz2⟩;refine iG ?_;have hf2:SlC F2.toFrz (.slice (some ⟨g6,0,none⟩) 3 3) 1 ([1,2,3].map eI):=(SlK.lit hz2 rfl (Nat.le_refl _) a6).toF (xs:=[1,2,3]) rfl (fun _=>rfl);have hq:=dZ hk;clear hk;obtain ⟨r9,hr9,hk⟩:=hq;have hq:=dZ hk;clear hk;obtain ⟨r10,hr10,hk⟩:=hq; (try dsimp only at hk);have hq:=em hk;clear hk;obtain ⟨k2,hk2,hk⟩:=hq; (try dsimp only at hk);refine dc (ι:=Bool×FzB w (fun _=>False) S0) (fun z=>[(1,(.slice (some ⟨g6,0,none⟩) 3 3)),(30, .bool z.1)]) (fun z=>[.fr z.2]) (fun z=>k2 z.1=some r∧F2.toFrz.Le z.2.toFrz) ?_ ?_
 ·refine eS ?_;refine cT (d3 0 rfl rfl rfl rfl (fun w hw hF=>zcM _ w hF )) ?_;rintro _ _ ⟨⟨v7_0_0,cs7_0_0,v7_0_1,v7_0_2,v7_0_3⟩,F4,le2_4,⟨hf7_0_0,hf7_0_1,hf7_0_2,hf7_0_3⟩,rfl,rfl⟩;dsimp only at hf7_0_0 hf7_0_1 hf7_0_2 hf7_0_3 ⊢;haveI:=hf7_0_0.1.oneC;haveI:=hf7_0_1.oneC;haveI:=hf7_0_2.oneC;haveI:=hf7_0_3.oneC;refine dd ?_;refine cT (d3 0 rfl rfl rfl rfl (fun w hw hF=>zbC _ w hF [1,2,3] (.slice (some ⟨g6,0,none⟩) 3 3) (SlC.mono hf2 le2_4) 3 r9 hr9)) ?_;rintro _ _ ⟨⟨v9_0_0,v9_0_1,cs9_0_1⟩,F5,le4_5,⟨hf9_0_0,hf9_0_1⟩,rfl,rfl⟩;dsimp only at hf9_0_0 hf9_0_1 ⊢;have le2_5:=le2_4.trans le4_5;haveI:=hf9_0_0.oneC;haveI:=hf9_0_1.1.oneC;refine cT (cL rfl rfl rfl (fun w hw=>zco _ w (hw.fr (i:=0) rfl) (lD) v7_0_0 cs7_0_0 (SlD.mono (rep:=cJ) (fun _ _ _ _=>GDomain.mono) hf7_0_0 le4_5) v7_0_1 (SlC.mono hf7_0_1 le4_5) v7_0_2 (SlC.mono hf7_0_2 le4_5) v7_0_3 (SlC.mono hf7_0_3 le4_5) r9 v9_0_0 hf9_0_0 v9_0_1 cs9_0_1 hf9_0_1 (htab.keptF hw) fuel hfu r10 hr10)) ?_;refine mi ?_;refine dw rfl rfl rfl (fun h3=>?_) (fun h3=>?_)
  ·have p3:=of_decide_eq_true h3;replace hk:=dp hk h3;refine TL.run 18 rfl ?_;refine fG ?_;exact cS (true,F5) ⟨hk,le2_5⟩ (.c (.c .nil)) (List.Sublist.refl _)
  ·have p3:=of_decide_eq_false h3;replace hk:=dn hk h3;refine dd ?_;have hq:=dZ hk;clear hk;obtain ⟨r14,hr14,hk⟩:=hq;refine cT (d3 0 rfl rfl rfl rfl (fun w hw hF=>zbC _ w hF [1,2,3] (.slice (some ⟨g6,0,none⟩) 3 3) (SlC.mono hf2 le2_5) 3 r14 hr14)) ?_;rintro _ _ ⟨⟨v14_0_0,v14_0_1,cs14_0_1⟩,F6,le5_6,⟨hf14_0_0,hf14_0_1⟩,rfl,rfl⟩;dsimp only at hf14_0_0 hf14_0_1 ⊢;have le2_6:=le2_5.trans le5_6;haveI:=hf14_0_0.oneC;haveI:=hf14_0_1.1.oneC;have hq:=dZ hk;clear hk;obtain ⟨r15,hr15,hk⟩:=hq;refine cT (cL rfl rfl rfl (fun w hw=>zc2 _ w (hw.fr (i:=0) rfl) r14 v14_0_0 hf14_0_0 v14_0_1 cs14_0_1 hf14_0_1 3 0 (htab.keptF hw) fuel hfu r15 hr15)) ?_;refine eP ?_;refine eM ?_;refine dw rfl rfl rfl (fun h4=>?_) (fun h4=>?_)
   ·replace hk:=dp hk h4;refine TL.run 12 rfl ?_;refine fG ?_;exact cS (true,F6) ⟨hk,le2_6⟩ (.c (.c .nil)) (List.Sublist.refl _)
   ·replace hk:=dn hk h4;refine dd ?_;have hq:=dZ hk;clear hk;obtain ⟨r20,hr20,hk⟩:=hq;refine cT (d3 0 rfl rfl rfl rfl (fun w hw hF=>zbC _ w hF [1,2,3] (.slice (some ⟨g6,0,none⟩) 3 3) (SlC.mono hf2 le2_6) 1 r20 hr20)) ?_;rintro _ _ ⟨⟨v20_0_0,v20_0_1,cs20_0_1⟩,F7,le6_7,⟨hf20_0_0,hf20_0_1⟩,rfl,rfl⟩;dsimp only at hf20_0_0 hf20_0_1 ⊢;have le2_7:=le2_6.trans le6_7;haveI:=hf20_0_0.oneC;haveI:=hf20_0_1.1.oneC;have hq:=dZ hk;clear hk;obtain ⟨r21,hr21,hk⟩:=hq;refine cT (cL rfl rfl rfl (fun w hw=>zc2 _ w (hw.fr (i:=0) rfl) r20 v20_0_0 hf20_0_0 v20_0_1 cs20_0_1 hf20_0_1 0 0 (htab.keptF hw) fuel hfu r21 hr21)) ?_;refine eP ?_;refine eM ?_;refine dw rfl rfl rfl (fun h5=>?_) (fun h5=>?_)
    ·replace hk:=dp hk h5;refine TL.run 6 rfl ?_;refine fG ?_;exact cS (true,F7) ⟨hk,le2_7⟩ (.c (.c .nil)) (List.Sublist.refl _)
    ·replace hk:=dn hk h5;refine cT (d3 0 rfl rfl rfl rfl (fun w hw hF=>zcM _ w hF )) ?_;rintro _ _ ⟨⟨v25_0_0,cs25_0_0,v25_0_1,v25_0_2,v25_0_3⟩,F8,le7_8,⟨hf25_0_0,hf25_0_1,hf25_0_2,hf25_0_3⟩,rfl,rfl⟩;dsimp only at hf25_0_0 hf25_0_1 hf25_0_2 hf25_0_3 ⊢;have le2_8:=le2_7.trans le7_8;haveI:=hf25_0_0.1.oneC;haveI:=hf25_0_1.oneC;haveI:=hf25_0_2.oneC;haveI:=hf25_0_3.oneC;refine dd ?_;have hq:=dZ hk;clear hk;obtain ⟨r27,hr27,hk⟩:=hq;refine cT (d3 0 rfl rfl rfl rfl (fun w hw hF=>zbC _ w hF [1,2,3] (.slice (some ⟨g6,0,none⟩) 3 3) (SlC.mono hf2 le2_8) 1 r27 hr27)) ?_;rintro _ _ ⟨⟨v27_0_0,v27_0_1,cs27_0_1⟩,F9,le8_9,⟨hf27_0_0,hf27_0_1⟩,rfl,rfl⟩;dsimp only at hf27_0_0 hf27_0_1 ⊢;have le2_9:=le2_8.trans le8_9;haveI:=hf27_0_0.oneC;haveI:=hf27_0_1.1.oneC;have hq:=dZ hk;clear hk;obtain ⟨r28,hr28,hk⟩:=hq;refine cT (cL rfl rfl rfl (fun w hw=>zco _ w (hw.fr (i:=0) rfl) (lD) v25_0_0 cs25_0_0 (SlD.mono (rep:=cJ) (fun _ _ _ _=>GDomain.mono) hf25_0_0 le8_9) v25_0_1 (SlC.mono hf25_0_1 le8_9) v25_0_2 (SlC.mono hf25_0_2 le8_9) v25_0_3 (SlC.mono hf25_0_3 le8_9) r27 v27_0_0 hf27_0_0 v27_0_1 cs27_0_1 hf27_0_1 (htab.keptF hw) fuel hfu r28 hr28)) ?_;refine lz ?_;exact cS (decide (¬r28=10),F9) ⟨hk,le2_9⟩ (.c (.c .nil)) (List.Sublist.refl _)
 ·rintro ⟨x_1,F3⟩ ⟨hk,le2_3⟩; (try dsimp only at *);rw [←hk2] at hk; (try dsimp only at hk);refine T.cond rfl (fun h6=>?_) (fun h6=>?_)
  ·replace hk:=dp hk h6;refine ik ?_;obtain rfl:=Option.some.inj hk;exact d7
  ·replace hk:=dn hk h6;refine q31 ?_;have hq:=dZ hk;clear hk;obtain ⟨r32,hr32,hk⟩:=hq;have hq:=dZ hk;clear hk;obtain ⟨r33,hr33,hk⟩:=hq; (try dsimp only at hk);have hq:=em hk;clear hk;obtain ⟨k8,hk8,hk⟩:=hq; (try dsimp only at hk);refine dc (ι:=Bool×FzB w (fun _=>False) S0) (fun z=>[(1,(.slice (some ⟨g6,0,none⟩) 3 3)),(40, .bool z.1)]) (fun z=>[.fr z.2]) (fun z=>k8 z.1=some r∧F3.toFrz.Le z.2.toFrz) ?_ ?_
   ·refine eS ?_;refine j2 ?_;rintro _ _ ⟨g31,rfl,rfl⟩;refine jH (fun w hw=>hw.freezeR (i:=1) (j:=0) a6 rfl rfl) ?_;rintro F11 ⟨le3_11,hz11⟩;refine iG ?_;have hf11:SlC F11.toFrz (.slice (some ⟨g31,0,none⟩) 2 2) 1 ([1,2].map eI):=(SlK.lit hz11 rfl (Nat.le_refl _) a6).toF (xs:=[1,2]) rfl (fun _=>rfl);refine cT (d3 0 rfl rfl rfl rfl (fun w hw hF=>zbC _ w hF [1,2] (.slice (some ⟨g31,0,none⟩) 2 2) hf11 3 r32 hr32)) ?_;rintro _ _ ⟨⟨v32_0_0,v32_0_1,cs32_0_1⟩,F12,le11_12,⟨hf32_0_0,hf32_0_1⟩,rfl,rfl⟩;dsimp only at hf32_0_0 hf32_0_1 ⊢;have le3_12:=le3_11.trans le11_12;haveI:=hf32_0_0.oneC;haveI:=hf32_0_1.1.oneC;refine cT (cL rfl rfl rfl (fun w hw=>zc2 _ w (hw.fr (i:=0) rfl) r32 v32_0_0 hf32_0_0 v32_0_1 cs32_0_1 hf32_0_1 0 0 (htab.keptF hw) fuel hfu r33 hr33)) ?_;refine mi ?_;refine dw rfl rfl rfl (fun h9=>?_) (fun h9=>?_)
    ·replace hk:=dp hk h9;refine lO ?_;exact cS (true,F12) ⟨hk,le3_12⟩ (.c (.c .nil)) (List.Sublist.refl _)
    ·replace hk:=dn hk h9;refine j2 ?_;rintro _ _ ⟨g36,rfl,rfl⟩;refine jH (fun w hw=>hw.freezeR (i:=1) (j:=0) a6 rfl rfl) ?_;rintro F13 ⟨le12_13,hz13⟩;refine iG ?_;have le3_13:=le3_12.trans le12_13;have hf13:SlC F13.toFrz (.slice (some ⟨g36,0,none⟩) 4 4) 1 ([1,2,3,5].map eI):=(SlK.lit hz13 rfl (Nat.le_refl _) a6).toF (xs:=[1,2,3,5]) rfl (fun _=>rfl);have hq:=dZ hk;clear hk;obtain ⟨r37,hr37,hk⟩:=hq;refine cT (d3 0 rfl rfl rfl rfl (fun w hw hF=>zbC _ w hF [1,2,3,5] (.slice (some ⟨g36,0,none⟩) 4 4) hf13 3 r37 hr37)) ?_;rintro _ _ ⟨⟨v37_0_0,v37_0_1,cs37_0_1⟩,F14,le13_14,⟨hf37_0_0,hf37_0_1⟩,rfl,rfl⟩;dsimp only at hf37_0_0 hf37_0_1 ⊢;have le3_14:=le3_13.trans le13_14;haveI:=hf37_0_0.oneC;haveI:=hf37_0_1.1.oneC;have hq:=dZ hk;clear hk;obtain ⟨r38,hr38,hk⟩:=hq;refine cT (cL rfl rfl rfl (fun w hw=>zc2 _ w (hw.fr (i:=0) rfl) r37 v37_0_0 hf37_0_0 v37_0_1 cs37_0_1 hf37_0_1 0 9 (htab.keptF hw) fuel hfu r38 hr38)) ?_;refine lz ?_;exact cS (!r38,F14) ⟨hk,le3_14⟩ (.c (.c .nil)) (List.Sublist.refl _)
   ·rintro ⟨x_7,F10⟩ ⟨hk,le3_10⟩; (try dsimp only at *);rw [←hk8] at hk; (try dsimp only at hk);have le2_10:=le2_3.trans le3_10;refine T.cond rfl (fun h10=>?_) (fun h10=>?_)
    ·replace hk:=dp hk h10;refine ik ?_;obtain rfl:=Option.some.inj hk;exact d7
    ·replace hk:=dn hk h10;refine jf ?_;have hq:=dZ hk;clear hk;obtain ⟨r44,hr44,hk⟩:=hq;have hq:=dZ hk;clear hk;obtain ⟨r45,hr45,hk⟩:=hq; (try dsimp only at hk);refine eS ?_;refine cT (d3 0 rfl rfl rfl rfl (fun w hw hF=>zcM _ w hF )) ?_;rintro _ _ ⟨⟨v42_0_0,cs42_0_0,v42_0_1,v42_0_2,v42_0_3⟩,F15,le10_15,⟨hf42_0_0,hf42_0_1,hf42_0_2,hf42_0_3⟩,rfl,rfl⟩;dsimp only at hf42_0_0 hf42_0_1 hf42_0_2 hf42_0_3 ⊢;have le2_15:=le2_10.trans le10_15;haveI:=hf42_0_0.1.oneC;haveI:=hf42_0_1.oneC;haveI:=hf42_0_2.oneC;haveI:=hf42_0_3.oneC;refine dd ?_;refine cT (d3 0 rfl rfl rfl rfl (fun w hw hF=>zbC _ w hF [1,2,3] (.slice (some ⟨g6,0,none⟩) 3 3) (SlC.mono hf2 le2_15) 3 r44 hr44)) ?_;rintro _ _ ⟨⟨v44_0_0,v44_0_1,cs44_0_1⟩,F16,le15_16,⟨hf44_0_0,hf44_0_1⟩,rfl,rfl⟩;dsimp only at hf44_0_0 hf44_0_1 ⊢;have le2_16:=le2_15.trans le15_16;haveI:=hf44_0_0.oneC;haveI:=hf44_0_1.1.oneC;refine cT (d3 0 rfl rfl rfl rfl (fun w hw hF=>zh9 _ w hF (lD) v42_0_0 cs42_0_0 (SlD.mono (rep:=cJ) (fun _ _ _ _=>GDomain.mono) hf42_0_0 le15_16) v42_0_1 (SlC.mono hf42_0_1 le15_16) v42_0_2 (SlC.mono hf42_0_2 le15_16) v42_0_3 (SlC.mono hf42_0_3 le15_16) r44 v44_0_0 hf44_0_0 v44_0_1 cs44_0_1 hf44_0_1 (htab.keptF hw) fuel hfu r45 hr45)) ?_;rintro _ _ ⟨⟨v45_0_0,v45_0_1,cs45_0_1⟩,F17,le16_17,⟨hf45_0_0,hf45_0_1⟩,rfl,rfl⟩;dsimp only at hf45_0_0 hf45_0_1 ⊢;have le2_17:=le2_16.trans le16_17;haveI:=hf45_0_0.oneC;haveI:=hf45_0_1.1.oneC;refine eM ?_;refine gB ?_;rintro _ _ ⟨g2,rfl,rfl⟩;refine kH ?_;refine kU ?_;have hq:=dZ hk;clear hk;obtain ⟨r50,hr50,hk⟩:=hq; (try dsimp only at hk);refine eS ?_;refine ij ?_;refine cT (eW [1,0] [] [.row g2 33 [v45_0_0,v45_0_1]] rfl rfl rfl rfl a6 (fun w hw hw2 hF=>zgR _ w hF r45.1 v45_0_0 hf45_0_0 v45_0_1 cs45_0_1 hf45_0_1 fuel r50 hr50)) ?_;rintro _ _ ⟨v50_0_0, -,rfl,rfl⟩;refine fD ?_;refine fJ 0 rfl ?_;intro iv50_0_0 hmv50_0_0;refine TL.run 5 rfl ?_;refine q3N ?_;rintro F18 ⟨le17_18,hz18⟩;refine iG ?_;have le2_18:=le2_17.trans le17_18;have hf18:=hz18.toF rfl (fun _=>rfl);haveI:=hf18.oneC; (try dsimp only at hk);have hq:=em hk;clear hk;obtain ⟨k12,hk12,hk⟩:=hq; (try dsimp only at hk);refine dc (ι:=Bool×FzB w (fun _=>False) S0) (fun z=>[(0, .bool z.1)]) (fun z=>[.fr z.2]) (fun z=>k12 z.1=some r∧F18.toFrz.Le z.2.toFrz) ?_ ?_
     ·refine dI (sN 0 9 (.eff 9 (.eff 10 (sN 11 6 (.still 17 .done))))) _ a7 (List.Sublist.refl _) ?_;refine gp ?_;refine dB rfl rfl rfl rfl (fun h13=>?_) (fun h13=>?_)
      ·have p13:=of_decide_eq_true h13;replace hk:=dp hk h13;refine TS.run 4 rfl ?_;refine dB rfl rfl rfl rfl (fun h14=>?_) (fun h14=>?_)
       ·have p14:=of_decide_eq_true h14;replace hk:=dp hk h14;refine cP rfl (d5 1) ?_;refine fe ?_;refine dy ?_;have hq:=dZ hk;clear hk;obtain ⟨r62,hr62,hk⟩:=hq;refine c6 rfl (Wt.some) rfl rfl (d3 0 rfl rfl rfl rfl (fun w hw hF=>zbC _ w hF [1,2,3] (.slice (some ⟨g6,0,none⟩) 3 3) (SlC.mono hf2 le2_18) 2 r62 hr62)) ?_;rintro _ _ ⟨⟨v62_0_0,v62_0_1,cs62_0_1⟩,F20,le18_20,⟨hf62_0_0,hf62_0_1⟩,rfl,rfl⟩;dsimp only at hf62_0_0 hf62_0_1 ⊢;have le17_20:=le17_18.trans le18_20;haveI:=hf62_0_0.oneC;haveI:=hf62_0_1.1.oneC;refine ⟨(fun w hw=>(hw.frLe (i:=0) rfl le18_20).sub Sx),?_⟩;refine dy ?_;refine c6 rfl (Wt.some) rfl rfl (cL rfl rfl rfl (fun w hw=>zhS _ w (hw.fr (i:=0) rfl) r45.1 v45_0_0 (SlC.mono hf45_0_0 le17_20) v45_0_1 cs45_0_1 (SlD.mono (rep:=cH) (fun _ _ _ _=>R_List_GChoice.mono) hf45_0_1 le17_20) r62 v62_0_0 hf62_0_0 v62_0_1 cs62_0_1 hf62_0_1)) ?_;refine eP ?_;refine ⟨(fun w hw=>(hw.frLe (i:=0) rfl le18_20).sub Sx),?_⟩;refine gM ?_;refine dB rfl rfl rfl rfl (fun h15=>?_) (fun h15=>?_)
        ·replace hk:=dp hk h15;refine fe ?_;refine cP rfl (Yv.cC 0 (e:=5) a7 a7 a7 rfl rfl rfl hf18) ?_;refine cP rfl (Yv.ct (a:=(u8s r50.1)) (b:=([3,1,2,3,2,1,1,14,0]:List UInt8)) rfl rfl rfl) ?_;refine gM ?_;refine fc ?_;refine K.pick [0] rfl a6 ?_;exact cS (((u8s r50.1) == ([3,1,2,3,2,1,1,14,0]:List UInt8)),F20) ⟨hk,le18_20⟩ (.c .nil) (List.Sublist.refl _)
        ·replace hk:=dn hk h15;refine TS.run 5 rfl ?_;refine fc ?_;refine K.pick [0] rfl a6 ?_;exact cS (false,F20) ⟨hk,le18_20⟩ (.c .nil) (List.Sublist.refl _)
       ·have p14:=of_decide_eq_false h14;replace hk:=dn hk h14;refine gM ?_;refine kz ?_;refine kz ?_;refine TS.run 7 rfl ?_;refine fc ?_;refine K.pick [0] rfl a6 ?_;exact cS (false,F18) ⟨hk,(Frz.Le.refl _)⟩ (.c .nil) (List.Sublist.refl _)
      ·have p13:=of_decide_eq_false h13;replace hk:=dn hk h13;refine TS.run 6 rfl ?_;refine kz ?_;refine kz ?_;refine TS.run 7 rfl ?_;refine fc ?_;refine K.pick [0] rfl a6 ?_;exact cS (false,F18) ⟨hk,(Frz.Le.refl _)⟩ (.c .nil) (List.Sublist.refl _)
     ·rintro ⟨x_11,F19⟩ ⟨hk,le18_19⟩; (try dsimp only at *);rw [←hk12] at hk; (try dsimp only at hk);refine T.ret ?_;obtain rfl:=Option.some.inj hk;exact d7
def zcq (fuel:Nat)(p:GProblem)(x_:GProof):Option Bool:=
 (zcm fuel p 9 40).bind fun r6=>
 dL (fun (x_1:Bool)=>
  some x_1)
 (fun k2=>
  (bif r6 then
   (zc0 fuel x_ 30).bind fun r9=>
   k2 r9
   else
   k2 false))
theorem zhL (F0:Frz)(w:World)(hF0:F0.At w)(p:GProblem)(vp_0:Value)(cp_0:List (List Value))(hp_0:SlD cJ F0 vp_0 2 cp_0 p.Domains)(vp_1:Value)(hp_1:SlC F0 vp_1 5 (p.Rules.Pairs.map cN))(vp_2:Value)(hp_2:SlC F0 vp_2 5 (p.Rules.Loads.map cO))(vp_3:Value)(hp_3:SlC F0 vp_3 4 (p.Rules.Caps.map cR))(x_:GProof)(vx__0:Value)(hx__0:SlC F0 vx__0 1 (x_.Stations.map eI))(vx__1:Value)(cx__1:List (List Value))(hx__1:SlD cH F0 vx__1 1 cx__1 x_.Lemmas)(fuel:Nat)(r:Bool)(hr:zcq fuel p x_=some r):Calls Tryz.prog 9 #[.agg [vp_0,vp_1,vp_2,vp_3].toArray, .agg [vx__0,vx__1].toArray] w fun e w'=>e= .returned (.bool r)∧Below w.heap.size w w':=by
 have hk:=hr;unfold zcq at hk;haveI:=hp_0.1.oneC;haveI:=hp_1.oneC;haveI:=hp_2.oneC;haveI:=hp_3.oneC;haveI:=hx__0.oneC;haveI:=hx__1.1.oneC;obtain ⟨S0,F1,rfl,hS0,hp0⟩:=eX hF0;refine dv Tryz.func9 rfl rfl rfl hp0 ?_;refine iW ?_;rintro _ _ ⟨g2,rfl,rfl⟩;refine q3Z ?_;rintro _ _ ⟨g3,rfl,rfl⟩;refine kU ?_;have hq:=dZ hk;clear hk;obtain ⟨r6,hr6,hk⟩:=hq; (try dsimp only at hk);have hq:=em hk;clear hk;obtain ⟨k2,hk2,hk⟩:=hq; (try dsimp only at hk);refine dc (ι:=Bool) (fun z=>[(4, .bool z)]) (fun z=>[.fr F1]) (fun z=>k2 z=some r) ?_ ?_
 ·refine mR ?_;refine cT (cL rfl rfl rfl (fun w hw=>zhH _ w (hw.fr (i:=2) rfl) p vp_0 cp_0 hp_0 vp_1 hp_1 vp_2 hp_2 vp_3 hp_3 9 40 fuel r6 hr6)) ?_;refine jL ?_;refine dw rfl rfl rfl (fun h3=>?_) (fun h3=>?_)
  ·replace hk:=dp hk h3;refine ij ?_;have hq:=dZ hk;clear hk;obtain ⟨r9,hr9,hk⟩:=hq;refine cT (cL rfl rfl rfl (fun w hw=>zhB _ w (hw.fr (i:=2) rfl) x_ vx__0 hx__0 vx__1 cx__1 hx__1 30 fuel r9 hr9)) ?_;refine lz ?_;refine K.pick [2] rfl a6 ?_;exact cS r9 hk (.c .nil) (List.Sublist.refl _)
  ·replace hk:=dn hk h3;refine ku ?_;refine K.pick [2] rfl a6 ?_;exact q4p
 ·rintro x_1 hk;rw [←hk2] at hk; (try dsimp only at hk);refine T.ret ?_;obtain rfl:=Option.some.inj hk;exact d7
theorem zk9 (n:Nat):zbR (n+100000)=some true:=by kernel_rfl
theorem zkQ {fuel:Nat}(hf:100000≤fuel):zbR fuel=some true:=by
 obtain ⟨n,rfl⟩:∃n,fuel=n+100000:=⟨fuel - 100000,by omega⟩;exact zk9 n
section
variable {p:GProblem}{x:GProof}{fuel:Nat}
theorem zlW (hf:100000≤fuel)(p:GProblem)(x:GProof):∃b,zcq fuel p x=some b∧(b=true→x.Stations.length≤20∧x.Lemmas.length≤30∧∀g∈x.Lemmas,g.length≤20):=by
 unfold zcq zc0;obtain ⟨b,hb⟩:=znr (p:=p) (a:=9) (b:=40) (fuel:=fuel) a5;obtain ⟨b2,hb2,hb3⟩:=zk2 (fuel:=fuel) (l:=x.Lemmas) (most:=30) a5 hf;rw [hb];simp only [dL,Option.bind_some,hb2]
 cases b with
 |false=>exact ⟨false,rfl,fun h=>by cases h⟩
 |true=>
  by_cases h1:(x.Stations.length:Int)≤20
  ·rw [decide_eq_true h1];refine ⟨b2,rfl,fun h=>?_⟩;have:=hb3 h;exact ⟨by omega,by omega,this.2⟩
  ·rw [decide_eq_false h1];exact ⟨false,rfl,fun h=>by cases h⟩
theorem ziX {S T:List Int}(h:∀n,fy S n=true→fy T n=true):kP (kP p T) S=kP p S:=by
 have e:∀n,(fy S n&&fy T n)=fy S n:=fun n=>by
  cases h1:fy S n with
  |false=>rfl
  |true=>rw [h n h1];rfl
 (have e2:∀a b c d:Bool,((a&&b)&&(c&&d))=((a&&c)&&(b&&d)):=by decide); (have e3:∀m n,((fy S m&&fy S n)&&(fy T m&&fy T n))=(fy S m&&fy S n):=fun m n=>by rw [e2,e,e]);rw [zeZ,zeZ,zeZ];simp only [List.filter_filter,e3,e]
theorem zh2 {T:List Int}{n:Int}(h:fy T n=true):dG (kP p T) n=dG p n:=by
 rw [zeZ];unfold dG;dsimp only;rw [Bool.eq_iff_iff,List.any_eq_true,List.any_eq_true];constructor
 ·rintro ⟨d,hd,e⟩;exact ⟨d,(List.mem_filter.1 hd).1,e⟩
 ·rintro ⟨d,hd,e⟩;exact ⟨d,List.mem_filter.2 ⟨hd,by rw [of_decide_eq_true e];exact h⟩,e⟩
theorem jI {S:List Int}{n:Int}:fy S n=true↔n∈S:=by
 show d4 S n=true↔_
 rw [zm6,List.any_eq_true];exact ⟨fun ⟨y,hy,e⟩=>by rw [←of_decide_eq_true e];exact hy,fun h=>⟨n,h,decide_eq_true rfl⟩⟩
theorem zgj {T:List Int}(hok:gJ p=true)(hS:∀n,fy x.Stations n=true→fy T n=true):e9 (kP p T) x=e9 p x:=by
 unfold e9
 have e:x.Stations.all (dG (kP p T))=x.Stations.all (dG p):=by
  rw [Bool.eq_iff_iff,List.all_eq_true,List.all_eq_true];exact forall_congr' fun n=>⟨fun h hn=>by rw [←zh2 (hS n (jI.2 hn))];exact h hn,fun h hn=>by rw [zh2 (hS n (jI.2 hn))];exact h hn⟩
 rw [zhl hok,hok,e,ziX hS]
theorem ziZ {T:List Int}(hok:gJ p=true)(hS:∀n,fy x.Stations n=true→fy T n=true):gW (kP p T) x=gW p x:=by
 unfold gW;rw [zgj hok hS]
end
def zbM (fuel:Nat)(p:GProblem)(x_:GProof):Option Bool:=
 (zcq fuel p x_).bind fun r13=>
 dL (fun (x_1:Bool)=>
  (bif x_1 then
   (zbR fuel).bind fun r25=>
   some r25
   else
   (zbY p x_.Stations).bind fun r30=>
   (bif decide (¬r30.2=0) then
    (zbq fuel p x_).bind fun r37=>
    dL (fun (x_7:Bool)=>
     some x_7)
    (fun k8=>
     (bif decide (r37=9) then
      (zbR fuel).bind fun r40=>
      k8 r40
      else
      k8 false))
    else
    (zbD fuel p x_).bind fun r45=>
    (zbD fuel r30.1 x_).bind fun r51=>
    dL (fun (x_10:Bool)=>
     some x_10)
    (fun k11=>
     (bif decide (r45.2=0) then
      (bif decide (r51.2=0) then
       (bif decide (r45.1=r51.1) then
        (zbq fuel p x_).bind fun r68=>
        (zbq fuel r30.1 x_).bind fun r71=>
        (bif decide (r68=r71) then
         (zbR fuel).bind fun r75=>
         k11 r75
         else
         k11 false)
        else
        k11 false)
       else
       k11 false)
      else
      k11 false)))))
 (fun k2=>
  (bif !r13 then
   k2 true
   else
   (zbF p).bind fun r17=>
   (bif !r17 then
    k2 true
    else
    k2 (!(zbP x_)))))
theorem zeB (F0:Frz)(w:World)(hF0:F0.At w)(p:GProblem)(vp_0:Value)(cp_0:List (List Value))(hp_0:SlD cJ F0 vp_0 2 cp_0 p.Domains)(vp_1:Value)(hp_1:SlC F0 vp_1 5 (p.Rules.Pairs.map cN))(vp_2:Value)(hp_2:SlC F0 vp_2 5 (p.Rules.Loads.map cO))(vp_3:Value)(hp_3:SlC F0 vp_3 4 (p.Rules.Caps.map cR))(x_:GProof)(vx__0:Value)(hx__0:SlC F0 vx__0 1 (x_.Stations.map eI))(vx__1:Value)(cx__1:List (List Value))(hx__1:SlD cH F0 vx__1 1 cx__1 x_.Lemmas)(htab:Tab w)(fuel:Nat)(hfu:100000≤fuel)(r:Bool)(hr:zbM fuel p x_=some r):Calls Tryz.prog 6 #[.agg [vp_0,vp_1,vp_2,vp_3].toArray, .agg [vx__0,vx__1].toArray] w fun e w'=>e= .returned (.bool r)∧Below w.heap.size w w':=by
 have hk:=hr;unfold zbM at hk;haveI:=hp_0.1.oneC;haveI:=hp_1.oneC;haveI:=hp_2.oneC;haveI:=hp_3.oneC;haveI:=hx__0.oneC;haveI:=hx__1.1.oneC;obtain ⟨S0,F1,rfl,hS0,hp0⟩:=eX hF0;have hM0:¬(fun _:Nat=>False) 0:=fun h=>h;have htk:∀ {hs:HS} {w':World},Hp w (fun _=>False) hs w'→Tab w':=fun hw=>htab.keptF hw;refine dv Tryz.func6 rfl rfl rfl hp0 ?_;refine iW ?_;rintro _ _ ⟨g2,rfl,rfl⟩;refine q3Z ?_;rintro _ _ ⟨g3,rfl,rfl⟩;refine q4a ?_;have hq:=dZ hk;clear hk;obtain ⟨r13,hr13,hk⟩:=hq; (try dsimp only at hk);have hq:=em hk;clear hk;obtain ⟨k2,hk2,hk⟩:=hq; (try dsimp only at hk);refine dc (ι:=Bool) (fun z=>[(2, .pointer (some ⟨g2,0,none⟩)),(3, .pointer (some ⟨g3,0,none⟩)),(24, .bool z)]) (fun z=>[.row g3 33 [vx__0,vx__1], .row g2 29 [vp_0,vp_1,vp_2,vp_3], .fr F1]) (fun z=>k2 z=some r) ?_ ?_
 ·refine mR ?_;refine ij ?_;refine cT (cL rfl rfl rfl (fun w hw=>zhL _ w (hw.fr (i:=2) rfl) p vp_0 cp_0 hp_0 vp_1 hp_1 vp_2 hp_2 vp_3 hp_3 x_ vx__0 hx__0 vx__1 cx__1 hx__1 fuel r13 hr13)) ?_;refine mi ?_;refine dw rfl rfl rfl (fun h3=>?_) (fun h3=>?_)
  ·replace hk:=dp hk h3;refine TL.run 9 rfl ?_;refine fG ?_;exact q4J
  ·replace hk:=dn hk h3;refine q1z ?_;have hq:=dZ hk;clear hk;obtain ⟨r17,hr17,hk⟩:=hq;refine cT (cL rfl rfl rfl (fun w hw=>zfd _ w (hw.fr (i:=2) rfl) p vp_0 cp_0 hp_0 vp_1 hp_1 vp_2 hp_2 vp_3 hp_3 r17 hr17)) ?_;refine eP ?_;refine eM ?_;refine dw rfl rfl rfl (fun h4=>?_) (fun h4=>?_)
   ·replace hk:=dp hk h4;refine ku ?_;exact q4J
   ·replace hk:=dn hk h4;refine ij ?_;refine cT (cL rfl rfl rfl (fun w hw=>zhr _ w (hw.fr (i:=2) rfl) x_ vx__0 hx__0 vx__1 cx__1 hx__1)) ?_;refine lz ?_;exact cS (!(zbP x_)) hk (.c (.c (.c .nil))) (List.Sublist.refl _)
 ·rintro x_1 hk;rw [←hk2] at hk; (try dsimp only at hk);refine T.cond rfl (fun h5=>?_) (fun h5=>?_)
  ·replace hk:=dp hk h5;refine T.seq ?_;have hq:=dZ hk;clear hk;obtain ⟨r25,hr25,hk⟩:=hq; (try dsimp only at hk);refine eS ?_;refine cT (cL rfl rfl rfl (fun w hw=>zdO _ w (hw.fr (i:=2) rfl) (htab.keptF hw) fuel hfu r25 hr25)) ?_;refine jL ?_;refine j8 ?_;obtain rfl:=Option.some.inj hk;exact d7
  ·replace hk:=dn hk h5;refine jf ?_;have hq:=dZ hk;clear hk;obtain ⟨r30,hr30,hk⟩:=hq; (try dsimp only at hk);refine mR ?_;refine ef ?_;refine cT (d3 2 rfl rfl rfl rfl (fun w hw hF=>zfS _ w hF p vp_0 cp_0 hp_0 vp_1 hp_1 vp_2 hp_2 vp_3 hp_3 x_.Stations vx__0 hx__0 r30 hr30)) ?_;rintro _ _ ⟨⟨v30_0_0,cs30_0_0,v30_0_1,v30_0_2,v30_0_3⟩,F2,le1_2,⟨hf30_0_0,hf30_0_1,hf30_0_2,hf30_0_3⟩,rfl,rfl⟩;dsimp only at hf30_0_0 hf30_0_1 hf30_0_2 hf30_0_3 ⊢;haveI:=hf30_0_0.1.oneC;haveI:=hf30_0_1.oneC;haveI:=hf30_0_2.oneC;haveI:=hf30_0_3.oneC;refine eM ?_;refine gB ?_;rintro _ _ ⟨g5,rfl,rfl⟩;refine kH ?_;refine jl ?_;refine jo ?_;refine T.cond rfl (fun h6=>?_) (fun h6=>?_)
   ·have p6:=of_decide_eq_true h6;replace hk:=dp hk h6;refine T.seq ?_;have hq:=dZ hk;clear hk;obtain ⟨r37,hr37,hk⟩:=hq; (try dsimp only at hk);have hq:=em hk;clear hk;obtain ⟨k8,hk8,hk⟩:=hq; (try dsimp only at hk);refine dc (ι:=Bool) (fun z=>[(4, .bool z)]) (fun z=>[.fr F2]) (fun z=>k8 z=some r) ?_ ?_
    ·refine q3v ?_;refine cT (cL rfl rfl rfl (fun w hw=>zco _ w (hw.fr (i:=3) rfl) p vp_0 cp_0 (SlD.mono (rep:=cJ) (fun _ _ _ _=>GDomain.mono) hp_0 le1_2) vp_1 (SlC.mono hp_1 le1_2) vp_2 (SlC.mono hp_2 le1_2) vp_3 (SlC.mono hp_3 le1_2) x_ vx__0 (SlC.mono hx__0 le1_2) vx__1 cx__1 (SlD.mono (rep:=cH) (fun _ _ _ _=>R_List_GChoice.mono) hx__1 le1_2) (htab.keptF hw) fuel hfu r37 hr37)) ?_;refine mi ?_;refine dw rfl rfl rfl (fun h9=>?_) (fun h9=>?_)
     ·have p9:=of_decide_eq_true h9;replace hk:=dp hk h9;have hq:=dZ hk;clear hk;obtain ⟨r40,hr40,hk⟩:=hq;refine cT (cL rfl rfl rfl (fun w hw=>zdO _ w (hw.fr (i:=3) rfl) (htab.keptF hw) fuel hfu r40 hr40)) ?_;refine lz ?_;refine K.pick [3] rfl a6 ?_;exact cS r40 hk (.c .nil) (List.Sublist.refl _)
     ·have p9:=of_decide_eq_false h9;replace hk:=dn hk h9;refine eM ?_;refine fG ?_;refine K.pick [3] rfl a6 ?_;exact q4p
    ·rintro x_7 hk;rw [←hk8] at hk; (try dsimp only at hk);refine T.ret (dX ?_);obtain rfl:=Option.some.inj hk;exact d7
   ·have p6:=of_decide_eq_false h6;replace hk:=dn hk h6;refine jf ?_;have hq:=dZ hk;clear hk;obtain ⟨r45,hr45,hk⟩:=hq; (try dsimp only at hk);refine q3v ?_;refine cT (cL rfl rfl rfl (fun w hw=>zc4 _ w (hw.fr (i:=3) rfl) p vp_0 cp_0 (SlD.mono (rep:=cJ) (fun _ _ _ _=>GDomain.mono) hp_0 le1_2) vp_1 (SlC.mono hp_1 le1_2) vp_2 (SlC.mono hp_2 le1_2) vp_3 (SlC.mono hp_3 le1_2) x_ vx__0 (SlC.mono hx__0 le1_2) vx__1 cx__1 (SlD.mono (rep:=cH) (fun _ _ _ _=>R_List_GChoice.mono) hx__1 le1_2) (htab.keptF hw) fuel hfu r45 hr45)) ?_;refine eP ?_;refine TL.run 5 rfl ?_;refine ky ?_;have hq:=dZ hk;clear hk;obtain ⟨r51,hr51,hk⟩:=hq; (try dsimp only at hk);refine eS ?_;refine ij ?_;refine q1z ?_;refine cT (cL rfl rfl rfl (fun w hw=>zc4 _ w (hw.fr (i:=3) rfl) r30.1 v30_0_0 cs30_0_0 hf30_0_0 v30_0_1 hf30_0_1 v30_0_2 hf30_0_2 v30_0_3 hf30_0_3 x_ vx__0 (SlC.mono hx__0 le1_2) vx__1 cx__1 (SlD.mono (rep:=cH) (fun _ _ _ _=>R_List_GChoice.mono) hx__1 le1_2) (htab.keptF hw) fuel hfu r51 hr51)) ?_;refine eP ?_;refine TL.run 5 rfl ?_;refine ky ?_; (try dsimp only at hk);have hq:=em hk;clear hk;obtain ⟨k11,hk11,hk⟩:=hq; (try dsimp only at hk);refine dc (ι:=Bool) (fun z=>[(4, .bool z)]) (fun z=>[.fr F2]) (fun z=>k11 z=some r) ?_ ?_
    ·refine dI (sN 0 14 (sN 15 2 (.eff 14 (.eff 17 (sN 18 3 (.eff 21 (.still 22 (.still 23 .done)))))))) _ a7 (List.Sublist.refl _) ?_;refine gp ?_;refine dB rfl rfl rfl rfl (fun h12=>?_) (fun h12=>?_)
     ·have p12:=of_decide_eq_true h12;replace hk:=dp hk h12;refine TS.run 4 rfl ?_;refine dB rfl rfl rfl rfl (fun h13=>?_) (fun h13=>?_)
      ·have p13:=of_decide_eq_true h13;replace hk:=dp hk h13;refine TS.run 5 rfl ?_;refine dB rfl rfl rfl rfl (fun h14=>?_) (fun h14=>?_)
       ·have p14:=of_decide_eq_true h14;replace hk:=dp hk h14;refine cP rfl (d5 2) ?_;refine cP rfl (d5 1) ?_;refine kE ?_;refine cP rfl (d5 1) ?_;refine dy ?_;have hq:=dZ hk;clear hk;obtain ⟨r68,hr68,hk⟩:=hq;refine c6 rfl (Wt.some) rfl rfl (cL rfl rfl rfl (fun w hw=>zco _ w (hw.fr (i:=3) rfl) p vp_0 cp_0 (SlD.mono (rep:=cJ) (fun _ _ _ _=>GDomain.mono) hp_0 le1_2) vp_1 (SlC.mono hp_1 le1_2) vp_2 (SlC.mono hp_2 le1_2) vp_3 (SlC.mono hp_3 le1_2) x_ vx__0 (SlC.mono hx__0 le1_2) vx__1 cx__1 (SlD.mono (rep:=cH) (fun _ _ _ _=>R_List_GChoice.mono) hx__1 le1_2) (htab.keptF hw) fuel hfu r68 hr68)) ?_;refine jZ ?_;refine dy ?_;have hq:=dZ hk;clear hk;obtain ⟨r71,hr71,hk⟩:=hq;refine c6 rfl (Wt.some) rfl rfl (cL rfl rfl rfl (fun w hw=>zco _ w (hw.fr (i:=3) rfl) r30.1 v30_0_0 cs30_0_0 hf30_0_0 v30_0_1 hf30_0_1 v30_0_2 hf30_0_2 v30_0_3 hf30_0_3 x_ vx__0 (SlC.mono hx__0 le1_2) vx__1 cx__1 (SlD.mono (rep:=cH) (fun _ _ _ _=>R_List_GChoice.mono) hx__1 le1_2) (htab.keptF hw) fuel hfu r71 hr71)) ?_;refine jZ ?_;refine gp ?_;refine dy ?_;refine TSo.gs rfl rfl rfl rfl (fun h15=>?_) (fun h15=>?_)
        ·have p15:=of_decide_eq_true h15;replace hk:=dp hk h15;have hq:=dZ hk;clear hk;obtain ⟨r75,hr75,hk⟩:=hq;refine c6 rfl (Wt.some) rfl rfl (cL rfl rfl rfl (fun w hw=>zdO _ w (hw.fr (i:=3) rfl) (htab.keptF hw) fuel hfu r75 hr75)) ?_;refine mQ ?_;refine fc ?_;refine K.pick [3] rfl a6 ?_;exact cS r75 hk (.c .nil) (List.Sublist.refl _)
        ·have p15:=of_decide_eq_false h15;replace hk:=dn hk h15;refine TSo.off rfl (Wt.not rfl rfl rfl rfl) rfl rfl ?_;refine gM ?_;refine fc ?_;refine K.pick [3] rfl a6 ?_;exact q4p
       ·have p14:=of_decide_eq_false h14;replace hk:=dn hk h14;refine TS.run 4 rfl ?_;refine q2I ?_;exact q4p
      ·have p13:=of_decide_eq_false h13;replace hk:=dn hk h13;refine TS.run 9 rfl ?_;refine q2I ?_;exact q4p
     ·have p12:=of_decide_eq_false h12;replace hk:=dn hk h12;refine TS.run 13 rfl ?_;refine q2I ?_;exact q4p
    ·rintro x_10 hk;rw [←hk11] at hk; (try dsimp only at hk);refine T.ret ?_;obtain rfl:=Option.some.inj hk;exact d7
section
variable {p:GProblem}{x:GProof}{fuel:Nat}
theorem zgS (hf:100000≤fuel)(p:GProblem)(x:GProof):zbM fuel p x=some true:=by
 have hkn:=zkQ hf;unfold zbM;obtain ⟨b,hb,hsz⟩:=zlW hf p x;rw [hb,Option.bind_some];simp only [dL]
 cases b with
 |false=>rw [Bool.not_false,cond_true,cond_true,hkn];rfl
 |true=>
  obtain ⟨z1,z2,z3⟩:=hsz rfl; (have hs:∀g∈x.Lemmas,g.length≤1000:=fun g hg=>by have:=z3 g hg;omega);rw [Bool.not_true,cond_false,zkz,Option.bind_some]
  cases hok:gJ p with
  |false=>rw [Bool.not_false,cond_true,cond_true,hkn];rfl
  |true=>
   rw [Bool.not_true,cond_false,zkt]
   cases hx:ld x with
   |false=>rw [Bool.not_false,cond_true,hkn];rfl
   |true=>
    rw [Bool.not_true,cond_false,zho,Option.bind_some]
    have hR:zh7 p x.Stations=bif x.Stations.all (dG p) then (kP p x.Stations,0) else ((⟨[],⟨[],[],[]⟩⟩:GProblem),9):=by
     unfold zh7;rw [zgM,hok,znX hx];rfl
    rw [hR]
    cases ha:x.Stations.all (dG p) with
    |false=>
     (have hc:gW p x=9:=by unfold gW e9;rw [hok,hx,ha];rfl);simp only [cond_false,ziT hf hs,Option.bind_some,hc,decide_true,cond_true,hkn]
     rfl
    |true=>
     (have h2:(e9 p x).2=0:=by unfold e9;rw [hok,hx,ha];rfl);simp only [cond_true,ziP hf hs,ziT hf hs,Option.bind_some,zgj hok (fun _ h=>h),ziZ hok (fun _ h=>h),h2,decide_true,hkn,not_true_eq_false,decide_false,cond_false]
end
end Go.Proofs.YtogbggmckmnlfaaGreatDoor
namespace Go.Proofs.YtogbggmckmnlfaaGreatDoor
open Go.RowKit Go.ChangeShapes Go.WideShapes Go.Deep
def Opens {H:Type}(enc:TypeId×Value→H)(w:World)(base:Nat)(spare:Nat→Bool)(held:Bool)(t:TypeId){α:Type}(R:List Value→α→Prop):Prop:=
 ∀fuel cs y,DataW.trod enc Tryz.prog w base spare held fuel t cs=some y→∃x,R cs x
section
variable {H:Type}{enc:TypeId×Value→H}{w:World}{base:Nat}{spare:Nat→Bool}{held:Bool}
theorem Opens.int {t:TypeId}(ht:Tryz.prog.underlying t=some (.int .i64)):Opens enc w base spare held t (fun cs (x:Int)=>cs=[.int .i64 x]):=fun fuel cs y h=>by
 obtain ⟨k,hk,_⟩:=DataW.trod_int ht h;exact ⟨k,hk⟩
theorem znB {a:Addr}{v:Value}(h:w.cell? a=some v):Cb w a.block:=by
 unfold World.cell? at h
 split at h
 all_goals (first|exact ⟨_,_,_,by assumption⟩|simp at h|skip)
theorem Opens.any {t e : TypeId} {k : Nat} {α : Type} [Inhabited α] {R : List Value → α → Prop} (ht : Tryz.prog.underlying t = some (.slice e)) (hk : Tryz.prog.cellsOf e = k) (hpos : 0 < k) (ho : Opens enc w base spare held e R) :
    Opens enc w base spare held t (fun cs (l : List α) => ∃ v c, cs = [v] ∧ SlC (Frz.all w) v k c ∧ c.length = l.length ∧ ∀ i, i < l.length → R (cI c i) (cI l i)) := fun fuel cs y h => by
  rcases open_slice ht h with ⟨h0, _⟩ | ⟨a, len, cap, m, n, D, Pl, hcs, hb, hl, hm, hmm, _, hx⟩
  · exact ⟨[], _, [], h0, SlC.nil _ _, rfl, fun i hi => absurd hi (Nat.not_lt_zero i)⟩
  · subst hcs; (have hlm : len ≤ m := by rw [hmm]; split <;> omega)
    have each : ∀ i, i < m → ∃ x : List Value × α, x.1.length = k ∧ R x.1 x.2 ∧ ∀ j, j < k → w.cell? (a.add (i * k + j)) = x.1[j]? := fun i hi => by
      obtain ⟨cs', h1, h2⟩ := hx i hi; rw [hk] at h1; obtain ⟨_, hlen, hcell⟩ := World.cells?_some h1; obtain ⟨x, hR⟩ := ho _ _ _ h2; exact ⟨(cs', x), hlen, hR, fun j hj => by rw [← hcell j hj, add_add]⟩
    obtain ⟨X, hX⟩ := choose_lt each
    have hn : ∀ i, i < len → cI ((List.range len).map fun i => (X i).1) i = (X i).1 := fun i hi => by
      rw [dS (by simpa using hi)]; simp
    have hn2 : ∀ i, i < len → cI ((List.range len).map fun i => (X i).2) i = (X i).2 := fun i hi => by
      rw [dS (by simpa using hi)]; simp
    refine ⟨(List.range len).map fun i => (X i).2, _, (List.range len).map fun i => (X i).1, rfl, ⟨some a, cap, by simp, by simpa using hl, by unfold maxLen at hm; omega, fun c hc => ?_, fun hp => ?_⟩, by simp, fun i hi => ?_⟩
    · simp at hc; obtain ⟨i, hi, rfl⟩ := hc; exact (hX i a5).1
    · (have hp' : 0 < len := by simpa using hp); have c0 := (hX 0 a5).2.2 0 hpos; have hx0 := (hX 0 a5).1; rw [List.getElem?_eq_getElem a5] at c0; have hcb := znB c0; have hs := World.cell?_spot c0; simp [Addr.add] at hs hcb; obtain ⟨b, off, sp⟩ := a; simp at hs hcb; subst hs; refine ⟨b, off, rfl, hcb, fun i hi j hj => ?_⟩; simp at hi; rw [hn i hi] at hj ⊢; have hxi := hX i a5; have := hxi.2.2 j a5;refine Eq.trans ?_ this
      show w.cell? _ = _
      rw [zdK, Nat.add_assoc]
    · simp at hi; rw [hn i hi, hn2 i hi]; exact (hX i a5).2.1
theorem fF {t e : TypeId} {k : Nat} {α : Type} [Inhabited α] {en : α → List Value} (ht : Tryz.prog.underlying t = some (.slice e)) (hk : Tryz.prog.cellsOf e = k) (hpos : 0 < k) (ho : Opens enc w base spare held e (fun cs (x : α) => cs = en x)) :
    Opens enc w base spare held t (fun cs (l : List α) => ∃ v, cs = [v] ∧ SlC (Frz.all w) v k (l.map en)) := fun fuel cs y h => by
  obtain ⟨l, v, c, h1, h2, h3, h4⟩ := Opens.any ht hk hpos ho _ _ _ h;refine ⟨l, v, h1, ?_⟩
  have : c = l.map en := by
    apply List.ext_getElem (by simpa using h3); intro i hi hi2; rw [← dS hi, h4 i a5, List.getElem_map, dS a5]
  rw [← this]; exact h2
theorem Opens.bytes {t e : TypeId} (ht : Tryz.prog.underlying t = some (.slice e)) (he : Tryz.prog.underlying e = some (.int .u8)) (hk : Tryz.prog.cellsOf e = 1) :
    Opens enc w base spare held t (fun cs (l : List Int) => ∃ v, cs = [v] ∧ SlC (Frz.all w) v 1 (l.map (eK .u8)) ∧ ∀ x ∈ l, 0 ≤ x ∧ x ≤ 255) := fun fuel cs y h => by
  have ho : Opens enc w base spare held e (fun cs (x : Int) => cs = eK .u8 x ∧ (0 ≤ x ∧ x ≤ 255)) := fun fuel cs y h => by
    obtain ⟨k, h1, _, h2⟩ := DataW.trod_int he h;refine ⟨k, h1, ?_⟩; (have e1 : IntKind.u8.min = 0 := by decide); (have e2 : IntKind.u8.max = 255 := by decide); simp only [Lit.wf, e1, e2, Bool.and_eq_true, decide_eq_true_eq] at h2; exact h2
  obtain ⟨l, v, c, h1, h2, h3, h4⟩ := Opens.any ht hk a6 ho _ _ _ h; refine ⟨l, v, h1, ?_, fun x hx => ?_⟩
  · have : c = l.map (eK .u8) := by
      apply List.ext_getElem (by simpa using h3); intro i hi hi2; rw [← dS hi, (h4 i a5).1, List.getElem_map, dS a5]
    rw [← this]; exact h2
  · obtain ⟨i, hi, e⟩ := List.mem_iff_getElem.1 hx; have := (h4 i hi).2; rw [dS hi, e] at this; exact this
theorem jP {t e : TypeId} {k : Nat} {α : Type} [Inhabited α] {rep : Frz → List Value → α → Prop} (ht : Tryz.prog.underlying t = some (.slice e)) (hk : Tryz.prog.cellsOf e = k) (hpos : 0 < k) (ho : Opens enc w base spare held e (rep (Frz.all w))) :
    Opens enc w base spare held t (fun cs (l : List α) => ∃ v c, cs = [v] ∧ SlD rep (Frz.all w) v k c l) := fun fuel cs y h => by
  obtain ⟨l, v, c, h1, h2, h3, h4⟩ := Opens.any ht hk hpos ho _ _ _ h; exact ⟨l, v, c, h1, h2, h3, h4⟩
end
end Go.Proofs.YtogbggmckmnlfaaGreatDoor
