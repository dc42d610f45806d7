/- Wn Bb Wp Bc Bd Wq Be Bf Y2 Bg Y3 Y4 Bh Y5 Bi Of: shortened and put together by squeeze.py. -/
import Derived.Test.YtgoeeefoinkepaaGreatDoorQ13
import Derived.Deep.Slices
import Derived.ChangeArms
set_option maxRecDepth 100000
set_option maxHeartbeats 4000000
set_option linter.unusedVariables false
set_option linter.unusedSectionVars false
set_option linter.unusedSimpArgs false
namespace Go.Proofs.YtgoeeefoinkepaaGreatDoor
open Go.RowKit
structure SubP (p:GProblem) (d:List GDomain):Prop where
 sub:SubD d p.Domains
 ord:OrdD d p.Domains
section
variable {p:GProblem}{d:List GDomain}
theorem SubP.len (h:SubP p d):d.length=p.Domains.length:=h.sub.1
theorem SubP.inc (hG:GG p)(h:SubP p d){i j:Nat}(hi:i<d.length)(hj:j<d.length)(e:(cH d i).Station=(cH d j).Station):i=j:=by
 (have hi':i<p.Domains.length:=by rw [←h.len];exact hi); (have hj':j<p.Domains.length:=by rw [←h.len];exact hj);rw [(h.sub.2 i hi').1,(h.sub.2 j hj').1] at e;rcases Nat.lt_trichotomy i j with h1|h1|h1
 ·have:=hG.inc i j h1 hj';omega
 ·exact h1
 ·have:=hG.inc j i h1 hi';omega
theorem SubP.inj (hG:GG p)(h:SubP p d){x y:GDomain}(hx:x∈d)(hy:y∈d)(e:x.Station=y.Station):x=y:=by
 obtain ⟨i,hi,rfl⟩:=fW hx;obtain ⟨j,hj,rfl⟩:=fW hy;rw [h.inc hG hi hj e]
theorem SubP.st (hG:GG p)(h:SubP p d){x:GDomain}(hx:x∈d):0≤x.Station∧x.Station≤511:=by
 obtain ⟨i,hi,rfl⟩:=fW hx; (have hi':i<p.Domains.length:=by rw [←h.len];exact hi);rw [(h.sub.2 i hi').1];exact hG.st _ (eh hi')
theorem SubP.ch (hG:GG p)(h:SubP p d){x:GDomain}(hx:x∈d){c:Int}(hc:c∈x.Channels):2≤c∧c≤51:=by
 obtain ⟨i,hi,rfl⟩:=fW hx; (have hi':i<p.Domains.length:=by rw [←h.len];exact hi);exact (hG.chs _ (eh hi')).2 _ ((h.sub.2 i hi').2 c hc)
theorem SubP.has (h:SubP p d){s:Int}(hs:fS p s=true):∃x∈d,x.Station=s:=by
 obtain ⟨x,hx,rfl⟩:=d7.1 hs;obtain ⟨i,hi,rfl⟩:=fW hx;exact ⟨_,eh (by rw [h.len];exact hi),(h.sub.2 i hi).1⟩
theorem zfP {s c:Int}(h:mQ p s c=true):fS p s=true:=by
 obtain ⟨x,hx,e,_⟩:=ik.1 h;exact d7.2 ⟨x,hx,e⟩
def kT (d:List GDomain)(v:Vec 512 Int):Prop:=∀x∈d,Vec.get v x.Station.toNat=bif decide (x.Channels.length=1) then cH x.Channels 0 else 0
theorem gX {c:GChoice}:c∈fe d↔∃x∈d,x.Channels.length=1∧c=⟨x.Station,cH x.Channels 0⟩:=by
 unfold fe;rw [List.mem_map];constructor
 ·rintro ⟨x,hx,rfl⟩;rw [List.mem_filter,decide_eq_true_eq] at hx;exact ⟨x,hx.1,hx.2,rfl⟩
 ·rintro ⟨x,hx,h1,rfl⟩;exact ⟨x,List.mem_filter.2 ⟨hx,decide_eq_true h1⟩,rfl⟩
theorem l6 {α:Type}[Inhabited α]{l:List α}{i:Nat}(hi:i<l.length):l.take (i+1)=l.take i++[cH l i]:=by
 rw [List.take_succ_eq_append_getElem hi,d4 hi]
theorem zlN {m:List GDomain×Bool}(hG:GG p)(h:SubP p m.1)(h2:m.2=true):∃v,zbr p m=some v∧kT m.1 v:=by
 (have e1:gp m=fe m.1:=by unfold gp;rw [h2];rfl)
 have hin:∀c∈fe m.1,∀c'∈fe m.1,c.Station=c'.Station→c=c':=fun c hc c' hc' e=>by
  obtain ⟨x,hx,_,rfl⟩:=gX.1 hc;obtain ⟨y,hy,_,rfl⟩:=gX.1 hc';rw [h.inj hG hx hy e]
 have hst:∀c∈fe m.1,0≤c.Station∧c.Station≤511:=fun c hc=>by
  obtain ⟨x,hx,_,rfl⟩:=gX.1 hc;exact h.st hG hx
 unfold zbr;simp only [dO,Nat.sub_zero,e1];refine km (fun k (v:Vec 512 Int)=>(∀c∈(fe m.1).take k,Vec.get v c.Station.toNat=c.Channel)∧∀n:Nat,n<512→(∀c∈(fe m.1).take k,c.Station≠(n:Int))→Vec.get v n=0) (fun o=>∃v:Vec 512 Int,o=some v∧kT m.1 v) ⟨fun c hc=>by simp at hc,fun n hn _=>iM hn⟩ (fun v hv=>⟨v,rfl,fun x hx=>?_⟩) (fun i v next hi hI hn=>?_)
 ·rw [List.take_of_length_le (Nat.le_refl _)] at hv;have hs:=h.st hG hx;by_cases hl:x.Channels.length=1
  ·rw [decide_eq_true hl,cond_true];exact hv.1 ⟨x.Station,cH x.Channels 0⟩ (gX.2 ⟨x,hx,hl,rfl⟩)
  ·rw [decide_eq_false hl,cond_false];refine hv.2 _ a6 fun c hc e=>?_;obtain ⟨y,hy,h3,rfl⟩:=gX.1 hc;have:y=x:=h.inj hG hy hx (by dsimp only at e;omega);rw [this] at h3;exact hl h3
 ·have hm:=eh hi;have hs:=hst _ hm;rw [fo a6];refine hn _ ⟨fun c hc=>?_,fun n h1 hc=>?_⟩
  ·rw [fR a6];rw [l6 hi,List.mem_append,List.mem_singleton] at hc;rcases hc with hc|rfl
   ·have h3:=hst c (List.mem_of_mem_take hc);by_cases e:c.Station.toNat=(cH (fe m.1) i).Station.toNat
    ·rw [if_pos e,hin c (List.mem_of_mem_take hc) _ hm a6]
    ·rw [if_neg e];exact hI.1 c hc
   ·rw [if_pos rfl]
  ·rw [fR a6];rw [l6 hi] at hc;have h3:=hc (cH (fe m.1) i) (List.mem_append.2 (.inr (List.mem_singleton.2 rfl)));rw [if_neg a6];exact hI.2 n h1 fun c h4=>hc c (List.mem_append.2 (.inl h4))
def je (v:Vec 512 Int)(g:List GChoice):List GChoice:=g.filter fun c=> !decide (Vec.get v c.Station.toNat=c.Channel)
def ke (m:List GDomain×Bool)(v:Vec 512 Int)(g:List GChoice):GChoice×Bool:=match je v g with
 | []=>(bif decide (0<(g.length:Int)) then cH g 0 else ⟨0,0⟩,true)
 | [c]=>(c,zgC m c)
 |_=>(⟨0,0⟩,false)
theorem zgZ {v:Vec 512 Int}{g:List GChoice}{c:GChoice}:je v (g++[c])=je v g++bif decide (¬Vec.get v c.Station.toNat=c.Channel) then [c] else []:=by
 unfold je;rw [List.filter_append];by_cases h:Vec.get v c.Station.toNat=c.Channel
 ·simp [h]
 ·simp [h]
theorem zmK {m:List GDomain×Bool}{v:Vec 512 Int}{g:List GChoice}(hg:ValidL g):zb0 p m v g=some (ke m v g):=by
 unfold zb0;refine kj ?_;refine km (fun i (s:Int×Int×Int×Int×Int)=>(je v (g.take i)=[]∧s.1=0∧s.2.2.2.1=0∧s.2.2.2.2=0)∨(je v (g.take i)=[⟨s.2.2.2.1,s.2.2.2.2⟩]∧s.1=1)) (fun o=>o=some (ke m v g)) (.inl ⟨by simp [je],rfl,rfl,rfl⟩) (fun s hs=>?_) (fun i s next hi hI hn=>?_)
 ·rw [List.take_of_length_le (Nat.le_refl _)] at hs;unfold ke;rcases hs with ⟨h1,h2,h3,h4⟩|⟨h1,h2⟩
  ·rw [h1]; (try dsimp only);rw [h2,h3,h4,decide_eq_true rfl,Bool.true_and,Bool.true_or]
   cases decide (0<(g.length:Int)) <;> rfl
  ·rw [h1]; (try dsimp only);rw [h2,show decide ((1:Int)=0)=false from rfl,Bool.false_and,Bool.false_or];rfl
 ·have h1:=hg.good _ (eh hi);rw [fo a6];by_cases e:Vec.get v (cH g i).Station.toNat=(cH g i).Channel
  ·(have e2:je v (g.take (i+1))=je v (g.take i):=by rw [l6 hi,zgZ,decide_eq_false (by simpa using e),cond_false,List.append_nil]);rw [decide_eq_false (by simpa using e),cond_false]; (try dsimp only);rw [decide_eq_false (by rcases hI with h|h <;> omega),cond_false];exact hn _ (by rw [e2];exact hI)
  ·(have e2:je v (g.take (i+1))=je v (g.take i)++[cH g i]:=by rw [l6 hi,zgZ,decide_eq_true e,cond_true]);rw [decide_eq_true e,cond_true]; (try dsimp only);rcases hI with ⟨h2,h3,h4,h5⟩|⟨h2,h3⟩
   ·rw [h3,show wI (0+1)=1 from rfl,show decide ((1:Int)<1)=false from rfl,cond_false];exact hn _ (.inr ⟨by rw [e2,h2];rfl,rfl⟩)
   ·rw [h3,show wI (1+1)=2 from rfl,show decide ((1:Int)<2)=true from rfl,cond_true];have h6:(je v (g.take (i+1))).Sublist (je v g):=(List.take_sublist _ _).filter _;rw [e2,h2] at h6;have h7:=h6.length_le;unfold ke
    match h8:je v g with
    | []=>rw [h8] at h7;simp at h7
    | [c]=>rw [h8] at h7;simp at h7
    |_ :: _ :: _=>rfl
end
def gn (d:List GDomain)(g:List GChoice)(s c:Int):Bool:=(g.any fun x=>decide (x.Station=s)&&decide (x.Channel=c))&&g.all fun x=>decide (x.Station=s)||iC d x.Station x.Channel
structure ClosedN (p:GProblem) (S:List (List GChoice)) (d:List GDomain):Prop where
 cl:ClosedD p d
 ne:∀g∈S,g≠[]
 calm:∀g∈S,∀x∈d,∀c∈x.Channels,gn d g x.Station c=false
section
variable {p:GProblem}{S:List (List GChoice)}{d e:List GDomain}{m:List GDomain×Bool}{v:Vec 512 Int}{g:List GChoice}
theorem zma {s c:Int}(hG:GG p)(hd:SubP p d){x:GDomain}(hx:x∈d)(hs:x.Station=s)(hl:x.Channels.length=1)(h0:cH x.Channels 0=c):iC d s c=true:=by
 rw [eO];intro y hy e k hk;have:y=x:=hd.inj hG hy hx (by rw [e,hs]);subst this;obtain ⟨z,hz⟩:=List.length_eq_one_iff.1 hl;rw [hz] at hk h0;simp [cH] at hk h0;rw [hk,h0]
theorem zhH (hG:GG p)(hd:SubP p d)(hv:kT d v)(hg:iy p g=true){c:GChoice}(hc:c∈g)(h:Vec.get v c.Station.toNat=c.Channel):∃x∈d,x.Station=c.Station∧x.Channels.length=1∧cH x.Channels 0=c.Channel:=by
 obtain ⟨hl,hh⟩:=ff.1 hg;obtain ⟨x,hx,e⟩:=hd.has (zfP (hh c hc));have h1:=hv x hx;have h2:=hl.good c hc;rw [e,h] at h1;by_cases h3:x.Channels.length=1
 ·rw [decide_eq_true h3,cond_true] at h1;exact ⟨x,hx,e,h3,h1.symm⟩
 ·rw [decide_eq_false h3,cond_false] at h1;omega
theorem zjY {c:GChoice}(hc:c∈g)(h:c∉je v g):Vec.get v c.Station.toNat=c.Channel:=by
 refine Decidable.byContradiction fun e=>h ?_;unfold je;rw [List.mem_filter];exact ⟨hc,by simp [e]⟩
theorem kY {c:GChoice}:zgC m c=true↔m.2=true∧∃x∈m.1,x.Station=c.Station∧c.Channel∈x.Channels:=by
 unfold zgC;simp only [Bool.and_eq_true,List.any_eq_true,decide_eq_true_eq];constructor
 ·rintro ⟨h,x,hx,h1,k,hk,rfl⟩;exact ⟨h,x,hx,h1,hk⟩
 ·rintro ⟨h,x,hx,h1,hk⟩;exact ⟨h,x,hx,h1,_,hk,rfl⟩
theorem zh4 (hG:GG p)(hd:SubP p m.1)(h2:m.2=true)(hv:kT m.1 v)(hg:iy p g=true)(h0:g≠[])(h:(ke m v g).2=true):(ke m v g).1∈g∧zgC m (ke m v g).1=true∧∀x∈g,x≠(ke m v g).1→iC m.1 x.Station x.Channel=true:=by
 have hpos:0<g.length:=List.length_pos_iff.2 h0
 have only:∀x∈g,x∉je v g→iC m.1 x.Station x.Channel=true:=fun x hx hn=>by
  obtain ⟨y,hy,h3,h4,h5⟩:=zhH hG hd hv hg hx (zjY hx hn);exact zma hG hd hy h3 h4 h5
 unfold ke at h ⊢
 match h8:je v g with
 | []=>
  rw [h8] at h;dsimp only at h ⊢;rw [decide_eq_true a6,cond_true];refine ⟨eh hpos,?_,fun x hx _=>only x hx (by rw [h8];simp)⟩;obtain ⟨y,hy,h3,h4,h5⟩:=zhH hG hd hv hg (eh hpos) (zjY (eh hpos) (by rw [h8];simp));obtain ⟨z,hz⟩:=List.length_eq_one_iff.1 h4;refine kY.2 ⟨h2,y,hy,h3,?_⟩;rw [←h5,hz];simp [cH]
 | [c]=>
  rw [h8] at h;dsimp only at h ⊢; (have hc:c∈je v g:=by rw [h8];simp);refine ⟨(List.mem_filter.1 hc).1,h,fun x hx hne=>only x hx (by rw [h8];simpa using hne)⟩
 |_ :: _ :: _=>rw [h8] at h;cases h
theorem zme (hG:GG p)(hd:SubP p m.1)(h2:m.2=true)(hv:kT m.1 v)(hg:iy p g=true)(h0:g≠[])(hS:g∈S)(h:(ke m v g).2=true)(he:ClosedN p S e)(hs:SubD e m.1):SubD e (m.1.map (i3 (ke m v g).1.Station (ke m v g).1.Channel)):=by
 obtain ⟨h3,h4,h5⟩:=zh4 hG hd h2 hv hg h0 h;generalize (ke m v g).1=c at h3 h4 h5 ⊢;obtain ⟨hl,_⟩:=ff.1 hg;refine ⟨by rw [List.length_map];exact hs.1,fun i hi=>?_⟩;rw [List.length_map] at hi;rw [gr hi];have h6:=hs.2 i hi;refine ⟨h6.1,fun k hk=>?_⟩;unfold i3;dsimp only;rw [List.mem_filter];refine ⟨h6.2 k hk,?_⟩;rw [Bool.or_eq_true,decide_eq_true_eq,decide_eq_true_eq];by_cases e1:(cH m.1 i).Station=c.Station
 ·refine .inr fun e2=>?_; (have hi':i<e.length:=by rw [hs.1];exact hi);have h7:=he.calm g hS _ (eh hi') k hk
  have h8:gn e g (cH e i).Station k=true:=by
   unfold gn;rw [Bool.and_eq_true,List.any_eq_true,List.all_eq_true];refine ⟨⟨c,h3,by rw [h6.1,e1,e2];simp⟩,fun x hx=>?_⟩;by_cases e3:x=c
   ·rw [e3,h6.1,e1];simp
   ·rw [zci hs (h5 x hx e3)];simp
  rw [h8] at h7;cases h7
 ·exact .inl e1
theorem zkl (hG : GG p) (hB : ∀ x ∈ m.1, x.Channels.Nodup) (hd : SubP p m.1) (h2 : m.2 = true) (hc : ClosedD p m.1) (hv : kT m.1 v) (hg : iy p g = true) (h : (ke m v g).2 = false) : g ≠ [] ∧ ∀ x ∈ m.1, ∀ c ∈ x.Channels, gn m.1 g x.Station c = false := by
  obtain ⟨hl, hh⟩ := ff.1 hg; refine ⟨fun e => ?_, fun x hx c hcx => ?_⟩
  · subst e; cases h
  · cases hr : gn m.1 g x.Station c with
    | false => rfl
    | true =>
      unfold gn at hr; rw [Bool.and_eq_true, List.any_eq_true, List.all_eq_true] at hr; obtain ⟨⟨y, hy, h3⟩, h4⟩ := hr; rw [Bool.and_eq_true, decide_eq_true_eq, decide_eq_true_eq] at h3
      -- the others are made
      have ho : ∀ z ∈ je v g, z = y := fun z hz => by
        have hzg := (List.mem_filter.1 hz); have h5 := h4 z hzg.1; rw [Bool.or_eq_true, decide_eq_true_eq] at h5; rcases h5 with h5 | h5
        · exact hl.inj hzg.1 hy (by rw [h5, h3.1])
        · exfalso; obtain ⟨u, hu, e⟩ := hd.has (zfP (hh z hzg.1)); have h6 := eO.1 h5 u hu e
          have h7 : u.Channels = [z.Channel] := by
            have hne := hc.ne u hu; have hnd := hB u hu
            match hq : u.Channels with
            | [] => exact absurd hq hne
            | [a] => rw [hq] at h6; rw [h6 a b2]
            | a :: b :: r =>
              rw [hq] at h6 hnd; have h8 := h6 a b2; have h9 := h6 b b2; rw [h8, h9] at hnd; simp at hnd
          have h8 := hv u hu; rw [h7] at h8; have h9 := hzg.2; rw [← e, h8] at h9; simp [cH] at h9
      have hyo : zgC m y = true := kY.2 ⟨h2, x, hx, h3.1.symm, by rw [h3.2]; exact hcx⟩
      have hnd : (je v g).length ≤ 1 := by
        match h8 : je v g with
        | [] => simp
        | [_] => simp
        | a :: b :: r =>
          exfalso; have hsub : (je v g).Sublist g := List.filter_sublist
          have hgn : g.Nodup := by
            rw [List.Nodup, List.pairwise_iff_getElem]; intro i j hi hj hij e; have := hl.inc i j hij hj; rw [d4 hi, d4 hj, e] at this; omega
          have := hgn.sublist hsub; rw [h8] at this ho; rw [ho a b2, ho b b2] at this; simp at this
      unfold ke at h
      match h8 : je v g with
      | [] => rw [h8] at h; cases h
      | [a] => rw [h8] at h ho; rw [ho a b2] at h; dsimp only at h; rw [hyo] at h; cases h
      | a :: b :: r => rw [h8] at hnd; simp at hnd
end
def dK (p:GProblem)(l:List GChoice):List GDomain:=l.foldl (fun d c=>d.map (fK true c)) p.Domains
def RunN (p:GProblem)(S:List (List GChoice))(d:List GDomain)(r:Option (GProblem×(List GDomain×Bool))×Bool):Prop:=
 (∃m:List GDomain×Bool,r=(some (p,m),false)∧m.2=true∧ClosedN p S m.1∧SubP p m.1∧SubD m.1 d∧∀e,ClosedN p S e→SubD e d→SubD e m.1)∨(r=(none,true)∧∀e,ClosedN p S e→¬SubD e d)
section
variable {p:GProblem}{S:List (List GChoice)}{d e:List GDomain}{m:List GDomain×Bool}
theorem zld {l:List GChoice}{i:Nat}(hi:i<l.length):dK p (l.take (i+1))=(dK p (l.take i)).map (fK true (cH l i)):=by
 unfold dK;rw [l6 hi,List.foldl_append];rfl
theorem zh0:∀l:List GChoice,SubP p (dK p l):=fun l=>by
 have key:∀(l:List GChoice) (d:List GDomain),SubP p d→SubP p (l.foldl (fun d c=>d.map (fK true c)) d):=by
  intro l
  induction l with
  |nil=>exact fun d h=>h
  |cons c r ih=>
   intro d h;have h2:=(zdA true c).subD (d:=d);exact ih _ ⟨h2.1.trans h.sub,h2.2.trans h.ord h.sub.1⟩
 exact key l _ ⟨.refl _,fun _ _=>List.Sublist.refl _⟩
structure MidN (p:GProblem) (S:List (List GChoice)) (d:List GDomain) (m:List GDomain×Bool):Prop where
 ok:m.2=true
 sp:SubP p m.1
 cl:ClosedD p m.1
 sd:SubD m.1 d
 all:∀e,ClosedN p S e→SubD e d→SubD e m.1
theorem MidN.prop (h:MidN p S d m):PropD p m.1 m:= .inl ⟨h.ok,h.cl,⟨.refl _,fun _ _=>List.Sublist.refl _⟩,fun _ _ h=>h⟩
theorem znj {d':List GDomain}(hd:SubP p d')(hs:SubD d' d)(hm:PropD p d' m)(hall:∀e,ClosedN p S e→SubD e d→SubD e d'):(m.2=true∧MidN p S d m)∨(m.2=false∧∀e,ClosedN p S e→¬SubD e d):=by
 rcases hm with ⟨h1,h2,h3,h4⟩|⟨h1,h2⟩
 ·exact .inl ⟨h1,h1,⟨h3.1.trans hd.sub,h3.2.trans hd.ord hd.sub.1⟩,h2,h3.1.trans hs,fun e he hh=>h4 e he.cl (hall e he hh)⟩
 ·exact .inr ⟨by rw [h1],fun e he hh=>h2 e he.cl (hall e he hh)⟩
theorem zjH {fuel:Nat}(hf:100000≤fuel)(hok:eF p=true){t:GStore}(ht:t.start.1=p)(hm:PropD p p.Domains t.start.2)(hS:∀g∈t.list,iy p g=true)(l:List GChoice):∃r,zaz fuel t l=some r∧RunN p t.list (dK p l) r:=by
 obtain ⟨hw,hbd,htot,hn⟩:=zfB hok;have hG:=zey hok;have nodup:∀ {m:List GDomain×Bool},SubP p m.1→∀x∈m.1,x.Channels.Nodup:=fun h x hx=>((hbd.ord h.sub.1 h.ord).ch x hx).2;unfold zaz;simp only [dO,Nat.sub_zero,ht];refine km (fun i (m:List GDomain×Bool)=>PropD p (dK p (l.take i)) m) (fun o=>∃r,o=some r∧RunN p t.list (dK p l) r) (by simpa [dK] using hm) (fun m hI=>?_) (fun i m next hi hI hnx=>?_)
 ·rw [List.take_of_length_le (Nat.le_refl _)] at hI;have hst:=znj (S:=t.list) (zh0 l) (.refl _) hI (fun _ _ h=>h);refine zen (σ:=Bool×(List GDomain×Bool)) (I:=fun s=>(s.2.2=true∧MidN p t.list (dK p l) s.2∧(s.1=false→ClosedN p t.list s.2.1))∨(s.2.2=false∧s.1=true∧∀e,ClosedN p t.list e→¬SubD e (dK p l))) (μ:=fun s=>ep s.2.1+(bif s.1 then 1 else 0)) (post:=fun o=>∃r,o=some r∧RunN p t.list (dK p l) r) ?_ ?_ ?_
  ·rcases hst with ⟨h1,h2⟩|⟨h1,h2⟩
   ·exact .inl ⟨h1,h2,fun h=>by cases h⟩
   ·exact .inr ⟨h1,rfl,h2⟩
  ·have h1:ep m.1≤30000:=by
    rcases hI with ⟨_,_,h3,_⟩|⟨h1,_⟩
    ·have hk:=zh0 (p:=p) l;have:=zdI h3.1.1 h3.2;have:=zdI hk.sub.1 hk.ord;omega
    ·rw [h1];simp [ep]
   dsimp only;rw [cond_true];omega
  ·rintro ⟨again,m⟩ next hJ hnx;dsimp only at hJ hnx ⊢
   cases again with
   |false=>
    rcases hJ with ⟨h1,h2,h3⟩|⟨_,h2,_⟩
    ·exact ⟨_,rfl, .inl ⟨m,rfl,h1,h3 rfl,h2.sp,h2.sd,h2.all⟩⟩
    ·cases h2
   |true=>
    rw [cond_true];rcases hJ with ⟨h1,h2,_⟩|⟨h1,_,h2⟩
    ·rw [h1,Bool.not_true,cond_false];obtain ⟨v,hv1,hv2⟩:=zlN hG h2.sp h1;rw [hv1,Option.bind_some];refine km (fun i (s:Bool×(List GDomain×Bool)×Vec 512 Int)=>MidN p t.list (dK p l) s.2.1∧kT s.2.1.1 s.2.2∧((s.1=true∧ep s.2.1.1<ep m.1)∨(s.1=false∧s.2.1=m∧∀j,j<i→(ke s.2.1 s.2.2 (cH t.list j)).2=false))) (fun o=>∃r,o=some r∧RunN p t.list (dK p l) r) ⟨h2,hv2, .inr ⟨rfl,rfl,fun j hj=>by omega⟩⟩ ?_ ?_
     ·rintro ⟨ch,m',v'⟩ ⟨g1,g2,g3⟩;dsimp only at g1 g2 g3 ⊢;refine hnx _ (.inl ⟨g1.ok,g1,fun e=>?_⟩) ?_
      ·dsimp only at e;rcases g3 with ⟨g3,_⟩|⟨_,g3,g4⟩
       ·rw [e] at g3;cases g3
       ·have key:∀g∈t.list,g≠[]∧∀x∈m'.1,∀c∈x.Channels,gn m'.1 g x.Station c=false:=fun g hg=>by
         obtain ⟨j,hj,rfl⟩:=fW hg;exact zkl hG (nodup g1.sp) g1.sp g1.ok g1.cl g2 (hS _ (eh hj)) (g4 j hj)
        exact ⟨g1.cl,fun g hg=>(key g hg).1,fun g hg=>(key g hg).2⟩
      ·dsimp only;rcases g3 with ⟨g3,g4⟩|⟨g3,g4,_⟩
       ·rw [g3,cond_true];omega
       ·rw [g3,g4,cond_false,cond_true];omega
     ·rintro i ⟨ch,m',v'⟩ nx hi ⟨g1,g2,g3⟩ hk;dsimp only at g1 g2 g3 ⊢;have hg:=hS _ (eh hi);rw [zmK (ff.1 hg).1,Option.bind_some]
      cases hfo:(ke m' v' (cH t.list i)).2 with
      |false=>
       rw [Bool.not_false,cond_true];refine hk _ ⟨g1,g2,g3.imp id fun h=>⟨h.1,h.2.1,fun j hj=>?_⟩⟩;rcases Nat.lt_or_ge j i with h3|h3
       ·exact h.2.2 j h3
       ·(obtain rfl:j=i:=by omega);exact hfo
      |true=>
       rw [Bool.not_true,cond_false];by_cases h0:cH t.list i=[]
       ·rw [h0];exact ⟨_,rfl, .inr ⟨rfl,fun e he _=>he.ne _ (eh hi) h0⟩⟩
       ·have hlen:0<(cH t.list i).length:=List.length_pos_iff.2 h0;rw [decide_eq_false a6,cond_false];obtain ⟨q1,q2,q3⟩:=zh4 hG g1.sp g1.ok g2 hg h0 hfo;have q4:=fun e he hs=>zme (e:=e) hG g1.sp g1.ok g2 hg h0 (eh hi) hfo he hs;generalize (ke m' v' (cH t.list i)).1=c at q1 q2 q3 q4
        have hgc:j3 c=true:=by
         have:=(ff.1 hg).1.good c q1;unfold j3;exact decide_eq_true a6
        (have eact:fK false c=i3 c.Station c.Channel:=by unfold fK;rw [hgc];rfl);obtain ⟨r,q5,q6⟩:=zln hf hok ⟨g1.sp.sub,g1.sp.ord⟩ g1.prop false c;rw [q5,Option.bind_some];rw [eact] at q6;have hsub:=(FiltD.drop c.Station c.Channel).subD (d:=m'.1);have hsp:SubP p (m'.1.map (i3 c.Station c.Channel)):=⟨hsub.1.trans g1.sp.sub,hsub.2.trans g1.sp.ord g1.sp.sub.1⟩;have hmid:=znj (S:=t.list) hsp (hsub.1.trans g1.sd) q6 (fun e he hh=>q4 e he (g1.all e he hh));dsimp only;rcases hmid with ⟨q7,q8⟩|⟨q7,q8⟩
        ·rw [q7,Bool.not_true,cond_false];obtain ⟨v2,w1,w2⟩:=zlN hG q8.sp q7;rw [w1,Option.bind_some];refine hk _ ⟨q8,w2, .inl ⟨rfl,?_⟩⟩;dsimp only;obtain ⟨_,x,hx,hx1,hx2⟩:=kY.1 q2;obtain ⟨ix,hix,rfl⟩:=fW hx;have h7:=zlC hix hx1 hx2
         have h8:ep r.1≤ep (m'.1.map (i3 c.Station c.Channel)):=by
          rcases q6 with ⟨_,_,h9,_⟩|⟨h9,_⟩
          ·exact zdI h9.1.1 h9.2
          ·rw [h9] at q7;cases q7
         have h9:ep m'.1≤ep m.1:=by
          rcases g3 with ⟨_,h⟩|⟨_,h,_⟩
          ·omega
          ·rw [h];exact Nat.le_refl _
         omega
        ·rw [q7,Bool.not_false,cond_true];exact ⟨_,rfl, .inr ⟨rfl,q8⟩⟩
    ·rw [h1,Bool.not_false,cond_true];exact ⟨_,rfl, .inr ⟨rfl,h2⟩⟩
 ·cases h2:m.2 with
  |false=>
   rw [Bool.not_false,cond_true];refine ⟨_,rfl, .inr ⟨rfl,fun e he hs=>?_⟩⟩;rcases hI with ⟨h3,_⟩|⟨_,h4⟩
   ·rw [h2] at h3;cases h3
   ·refine h4 e he.cl (hs.trans ?_)
    have key:∀(r:List GChoice) (d:List GDomain),SubD (r.foldl (fun d c=>d.map (fK true c)) d) d:=by
     intro r
     induction r with
     |nil=>exact fun d=> .refl _
     |cons c r ih=>exact fun d=>(ih _).trans (zdA true c).subD.1
    have:=key (l.drop i) (dK p (l.take i));unfold dK at this ⊢;rw [←List.foldl_append,List.take_append_drop] at this;exact this
  |true=>
   rw [Bool.not_true,cond_false];have hk:=zh0 (p:=p) (l.take i);obtain ⟨r,g1,g2⟩:=zln hf hok ⟨hk.sub,hk.ord⟩ hI true (cH l i);rw [g1,Option.bind_some];exact hnx _ (by rw [zld hi];exact g2)
end
structure StN (p:GProblem) (t:GStore):Prop where
 pr:t.start.1=p
 st:PropD p p.Domains t.start.2
 tb:TabN p t.domains
 ok:∀g∈t.list,iy p g=true
section
variable {p:GProblem}{t:GStore}{fuel:Nat}
theorem new_x (hf:100000≤fuel)(hok:eF p=true):∃t,zcL fuel p=some (some t,0)∧StN p t∧t.list=[]:=by
 obtain ⟨hw,hbd,ht,hn⟩:=zfB hok;obtain ⟨m,g1,g2⟩:=zeM (fuel:=fuel) hw hbd a6 a6;obtain ⟨v,h1,h2⟩:=zlY (zey hok);unfold zcL;rw [hok,cond_true,g1,Option.bind_some,h1,Option.bind_some];exact ⟨_,rfl,⟨rfl,g2,h2,fun g hg=>by cases hg⟩,rfl⟩
theorem RunN.conf {S:List (List GChoice)}{d:List GDomain}{r:Option (GProblem×(List GDomain×Bool))×Bool}(h:RunN p S d r):r.2=true↔∀e,ClosedN p S e→¬SubD e d:=by
 rcases h with ⟨m,rfl,h1,h2,h3,h4,h5⟩|⟨rfl,h⟩
 ·exact ⟨fun h=>(by cases h),fun h=>absurd h4 (h _ h2)⟩
 ·exact ⟨fun _=>h,fun _=>rfl⟩
theorem zlI (hf:100000≤fuel)(hok:eF p=true)(h:StN p t){g:List GChoice}:∃b,zak fuel t g=some (b,bif iy p g then 0 else 2)∧(iy p g=false→b=false)∧(iy p g=true→(b=true↔∀e,ClosedN p t.list e→¬SubD e (dK p g))):=by
 unfold zak zai;rw [cond_false,zg7 h.tb,Option.bind_some]
 cases hg:iy p g with
 |false=>exact ⟨false,rfl,fun _=>rfl,fun h=>by cases h⟩
 |true=>
  obtain ⟨r,h1,h2⟩:=zjH hf hok h.pr h.st h.ok g;rw [Bool.not_true,cond_false,h1,Option.bind_some];refine ⟨r.2,?_,fun h=>(by cases h),fun _=>h2.conf⟩
  cases r.1.isSome <;> rfl
theorem zoF (h:StN p t){g:List GChoice}(hl:t.list.length<4096)(hg:g.length≤1000):zaq t g=some (bif iy p g then (0,t.list++[g]) else (2,t.list)):=by
 unfold zaq zai;rw [cond_false,zg7 h.tb,Option.bind_some]
 cases hn:iy p g with
 |false=>rfl
 |true=>
  rw [Bool.not_true,cond_false,decide_eq_false a6,cond_false,fo (by simp only [dQ];omega),fo b8];rfl
theorem StN.add (h:StN p t){g:List GChoice}(hg:iy p g=true):StN p ⟨t.domains,(t.start.1,t.start.2),t.list++[g]⟩:=⟨h.pr,h.st,h.tb,fun x hx=>by
 rcases List.mem_append.1 hx with hx|hx
 ·exact h.ok x hx
 ·simp at hx;rw [hx];exact hg⟩
theorem run_x (hf:100000≤fuel)(hok:eF p=true)(h:StN p t){l:List GChoice}(hl:ValidL l)(hs:∀c∈l,fS p c.Station=true):(∃m:List GDomain×Bool,zam fuel t l=some (m.1,false,0)∧ClosedN p t.list m.1∧SubP p m.1∧SubD m.1 (dK p l)∧∀e,ClosedN p t.list e→SubD e (dK p l)→SubD e m.1)∨(zam fuel t l=some ([],true,0)∧∀e,ClosedN p t.list e→¬SubD e (dK p l)):=by
 unfold zam zai;rw [cond_false,zfw,eG.2 hl,Bool.not_true,cond_false];refine kj ?_;refine km (fun i _=>True) (fun o=>(∃m:List GDomain×Bool,o=some (m.1,false,0)∧ClosedN p t.list m.1∧SubP p m.1∧SubD m.1 (dK p l)∧∀e,ClosedN p t.list e→SubD e (dK p l)→SubD e m.1)∨(o=some ([],true,0)∧∀e,ClosedN p t.list e→¬SubD e (dK p l))) trivial (fun _ _=>?_) (fun i _ next hi _ hn=>?_)
 ·obtain ⟨r,h1,h2⟩:=zjH hf hok h.pr h.st h.ok l;rw [h1,Option.bind_some];rcases h2 with ⟨m,rfl,g1,g2,g3,g4,g5⟩|⟨rfl,g⟩
  ·exact .inl ⟨m,rfl,g2,g3,g4,g5⟩
  ·exact .inr ⟨rfl,g⟩
 ·have hg:=hl.good _ (eh hi);rw [fo a6,h.tb.zero (zey hok) a6,hs _ (eh hi),Bool.not_true,cond_false];exact hn () trivial
theorem zgj {a:List GChoice}{S:List (List GChoice)}(hG:GG p)(hF:FineP p a)(hS:∀g∈S,iy p g=true)(hv:∀g∈S,¬ ∀c∈g,c∈a)(hcl:ClosedD p (fF p.Domains (eU a))):ClosedN p S (fF p.Domains (eU a)):=by
 refine ⟨hcl,fun g hg e=>hv g hg (by rw [e];simp),fun g hg x hx c hc=>?_⟩
 cases hr:gn (fF p.Domains (eU a)) g x.Station c with
 |false=>rfl
 |true=>
  exfalso;obtain ⟨hl,hh⟩:=ff.1 (hS g hg);unfold gn at hr;rw [Bool.and_eq_true,List.any_eq_true,List.all_eq_true] at hr;obtain ⟨⟨y,hy,h3⟩,h4⟩:=hr;rw [Bool.and_eq_true,decide_eq_true_eq,decide_eq_true_eq] at h3;unfold fF at hx;obtain ⟨z,hz,rfl⟩:=List.mem_map.1 hx;simp at hc;refine hv g hg fun u hu=>?_
  have h5:u.Channel=eU a u.Station:=by
   have h6:=h4 u hu;rw [Bool.or_eq_true,decide_eq_true_eq] at h6;rcases h6 with h6|h6
   ·have:u=y:=hl.inj hu hy (by rw [h6,h3.1]);rw [this,h3.2,hc,h3.1]
   ·rw [zdp (zfP (hh u hu)),decide_eq_true_eq] at h6;exact h6.symm
  have h7:=hl.good u hu;obtain ⟨w,hw,e1,e2⟩:=zmb (l:=a) (n:=u.Station) a6; (have:u=w:=by cases u;cases w;simp_all);rw [this];exact hw
theorem zn5 {a l:List GChoice}(hF:FineP p a)(hl:∀c∈l,c∈a)(h:SubD (fF p.Domains (eU a)) p.Domains):SubD (fF p.Domains (eU a)) (dK p l):=by
 have key:∀(l:List GChoice),(∀c∈l,c∈a)→∀d,SubD (fF p.Domains (eU a)) d→SubD (fF p.Domains (eU a)) (l.foldl (fun d c=>d.map (fK true c)) d):=by
  intro l
  induction l with
  |nil=>exact fun _ d h=>h
  |cons c r ih=>
   intro hl d h;refine ih (fun x hx=>hl x (by simp [hx])) _ ⟨by rw [List.length_map];exact h.1,fun i hi=>?_⟩;rw [List.length_map] at hi;rw [gr hi];have h2:=h.2 i hi; (have hi':i<p.Domains.length:=by rw [←h.1] at hi;simpa [fF] using hi);have hf:=zdA true c;refine ⟨by rw [hf.st];exact h2.1,fun k hk=>(hf.mem _ _).2 ⟨h2.2 k hk,fun hg e=>?_⟩⟩;have e2:cH (fF p.Domains (eU a)) i=⟨(cH p.Domains i).Station,[eU a (cH p.Domains i).Station]⟩:=gr hi';rw [e2] at hk h2;simp at hk;rw [hk,h2.1,e,zhB hF.val (hl c b2)];simp
 exact key l hl _ h
end
theorem zkS:∀ {A B:List Int},A.Pairwise (· < ·)→B.Pairwise (· < ·)→(∀x,x∈A↔x∈B)→A=B
 | [],[],_,_,_=>rfl
 | [],b :: B,_,_,h=>by have:=(h b).2 b2;cases this
 |a :: A,[],_,_,h=>by have:=(h a).1 b2;cases this
 |a :: A,b :: B,hA,hB,h=>by
  rw [List.pairwise_cons] at hA hB
  have e:a=b:=by
   have h1:=(h a).1 b2;have h2:=(h b).2 b2;rcases List.mem_cons.1 h1 with h1|h1
   ·exact h1
   ·rcases List.mem_cons.1 h2 with h2|h2
    ·exact h2.symm
    ·have:=hA.1 b h2;have:=hB.1 a h1;omega
  subst e;rw [zkS hA.2 hB.2 (fun x=>?_)];constructor
  ·intro hx;rcases List.mem_cons.1 ((h x).1 (by simp [hx])) with h1|h1
   ·have:=hA.1 x hx;omega
   ·exact h1
  ·intro hx;rcases List.mem_cons.1 ((h x).2 (by simp [hx])) with h1|h1
   ·have:=hB.1 x hx;omega
   ·exact h1
section
variable {p:GProblem}{a:List GChoice}
theorem zh3 (h:FineP p a):SubD (fF p.Domains (eU a)) p.Domains:=by
 refine ⟨List.length_map _,fun i hi=>?_⟩;rw [show cH (fF p.Domains (eU a)) i=⟨(cH p.Domains i).Station,[eU a (cH p.Domains i).Station]⟩ from gr hi];refine ⟨rfl,fun c hc=>?_⟩;simp at hc;rw [hc];exact (h.dom _ (eh hi)).1
theorem zfC (hG:GG p)(h:FineP p a):ClosedD p (fF p.Domains (eU a)):=(zgr hG (fun x hx=>by have:=(hG.chs x hx).2 _ (h.dom x hx).1;omega)).2 ⟨h.pr,h.cp⟩
theorem zmc (hG:GG p)(h:FineP p a):a.map (·.Station)=p.Domains.map (·.Station):=by
 refine zkS ?_ ?_ fun s=>?_
 ·rw [List.pairwise_iff_getElem];intro i j hi hj hij;rw [List.getElem_map,List.getElem_map];have:=h.val.inc i j hij (by simpa using hj)
  rwa [d4 (by simpa using hi),d4 (by simpa using hj)] at this
 ·rw [List.pairwise_iff_getElem];intro i j hi hj hij;rw [List.getElem_map,List.getElem_map];have:=hG.inc i j hij (by simpa using hj)
  rwa [d4 (by simpa using hi),d4 (by simpa using hj)] at this
 ·rw [List.mem_map,List.mem_map];constructor
  ·rintro ⟨c,hc,rfl⟩;obtain ⟨x,hx,e⟩:=d7.1 (h.own c hc);exact ⟨x,hx,e⟩
  ·rintro ⟨x,hx,rfl⟩;obtain ⟨c,hc,e,_⟩:=zmb (h.dom x hx).2;exact ⟨c,hc,e⟩
end
section
variable {p:GProblem}{t:GStore}{fuel:Nat}{l S:List (List GChoice)}
end
def QN (p:GProblem)(S:List (List GChoice))(d:List GDomain)(r:List GDomain×Bool):Prop:=
 (r.2=true∧ClosedN p S r.1∧SubP p r.1∧SubD r.1 d∧∀e,ClosedN p S e→SubD e d→SubD e r.1)∨(r=([],false)∧∀e,ClosedN p S e→¬SubD e d)
def R21 (p:GProblem)(S:List (List GChoice))(d:List GDomain)(s c:Int):Bool:=(S.any fun g=>gn d g s c)||ir p d s c
section
variable {p:GProblem}{S S':List (List GChoice)}{d a b:List GDomain}{t:GStore}{fuel:Nat}{l:List GChoice}
theorem znS (hok:eF p=true)(ha:SubP p a)(hb:SubP p b)(h1:SubD a b)(h2:SubD b a):a=b:=by
 obtain ⟨_,hbd,_,_⟩:=zfB hok;refine zdG h1.1 fun i hi=>?_; (have hi':i<b.length:=by rw [←h1.1];exact hi); (have hp:i<p.Domains.length:=by rw [←ha.len];exact hi);have hch:(cH a i).Channels=(cH b i).Channels:=zc4 (ha.ord i hp) (hb.ord i hp) (hbd.ch _ (eh hp)).2 (fun x=>⟨(h1.2 i hi').2 x,(h2.2 i hi).2 x⟩);have hst:=(h1.2 i hi').1
 cases hx:cH a i;cases hy:cH b i
 rw [hx,hy] at hch hst;simp only at hch hst;rw [hch,hst]
theorem QN.eq {r r':List GDomain×Bool}(hok:eF p=true)(h:QN p S d r)(h':QN p S d r'):r=r':=by
 rcases h with ⟨h1,h2,h3,h4,h5⟩|⟨h1,h2⟩
 ·rcases h' with ⟨g1,g2,g3,g4,g5⟩|⟨g1,g2⟩
  ·exact Prod.ext (znS hok h3 g3 (g5 _ h2 h4) (h5 _ g2 g4)) (h1.trans g1.symm)
  ·exact absurd h4 (g2 _ h2)
 ·rcases h' with ⟨g1,g2,g3,g4,g5⟩|⟨g1,g2⟩
  ·exact absurd g4 (h2 _ g2)
  ·rw [h1,g1]
theorem ClosedN.mono (h:ClosedN p S d)(hs:∀g∈S',g∈S):ClosedN p S' d:=⟨h.cl,fun g hg=>h.ne g (hs g hg),fun g hg=>h.calm g (hs g hg)⟩
theorem QN.congr {r:List GDomain×Bool}(h:QN p S d r)(hs:∀g,g∈S↔g∈S'):QN p S' d r:=by
 have f:∀ {e},ClosedN p S' e→ClosedN p S e:=fun he=>he.mono fun g hg=>(hs g).1 hg;rcases h with ⟨h1,h2,h3,h4,h5⟩|⟨h1,h2⟩
 ·exact .inl ⟨h1,h2.mono fun g hg=>(hs g).2 hg,h3,h4,fun e he=>h5 e (f he)⟩
 ·exact .inr ⟨h1,fun e he=>h2 e (f he)⟩
theorem byN_x {g:List GChoice}(hg:ValidL g){s c:Int}:zcc d g s c=gn d g s c:=by
 unfold zcc;simp only [dO,Nat.sub_zero,zjR];refine km (fun i (b:Bool)=>b=((g.take i).any fun x=>decide (x.Station=s)&&decide (x.Channel=c))∧((g.take i).all fun x=>decide (x.Station=s)||iC d x.Station x.Channel)=true) (fun r=>r=gn d g s c) ⟨rfl,rfl⟩ (fun b hb=>?_) (fun i b next hi hb hn=>?_)
 ·rw [List.take_length] at hb;unfold gn;rw [hb.1,hb.2,Bool.and_true]
 ·by_cases hs:(cH g i).Station=s
  ·rw [decide_eq_true hs,cond_true];refine hn _ ⟨?_,?_⟩
   ·have h0:((g.take i).any fun x=>decide (x.Station=s)&&decide (x.Channel=c))=false:=by
     rw [List.any_eq_false];intro x hx;obtain ⟨j,hj,rfl⟩:=List.mem_iff_getElem.1 hx;rw [List.length_take] at hj;rw [List.getElem_take];have:=hg.inc j i a6 hi;rw [d4 a6] at this;simp;intro e;omega
    rw [l6 hi,List.any_append,h0];simp [hs]
   ·rw [l6 hi,List.all_append,hb.2];simp [hs]
  ·rw [decide_eq_false hs,cond_false]
   cases ho:iC d (cH g i).Station (cH g i).Channel with
   |false=>
    rw [Bool.not_false,cond_true];unfold gn
    have:(g.all fun x=>decide (x.Station=s)||iC d x.Station x.Channel)=false:=by
     rw [List.all_eq_false];exact ⟨cH g i,eh hi,by simp [hs,ho]⟩
    rw [this,Bool.and_false]
   |true=>
    rw [Bool.not_true,cond_false];refine hn _ ⟨?_,?_⟩
    ·rw [l6 hi,List.any_append,←hb.1];simp [hs]
    ·rw [l6 hi,List.all_append,hb.2];simp [ho]
theorem zi7 (hS:∀g∈S,iy p g=true){s c:Int}:zc3 p S d s c=R21 p S d s c:=by
 unfold zc3 R21;simp only [dO,Nat.sub_zero,zhN];rw [zd4 (fun i=>gn d (cH S i) s c) (fun i next hi=>by rw [byN_x (ff.1 (hS _ (eh hi))).1];cases gn d (cH S i) s c <;> rfl),zdr (q:=fun g=>gn d g s c)]
theorem R21.mono (hok:eF p=true):MonoR (R21 p S):=fun a b s c h hr=>by
 unfold R21 at hr ⊢;rw [Bool.or_eq_true,List.any_eq_true] at hr ⊢;rcases hr with ⟨g,hg,hr⟩|hr
 ·refine .inl ⟨g,hg,?_⟩;unfold gn at hr ⊢;rw [Bool.and_eq_true,List.all_eq_true] at hr ⊢;refine ⟨hr.1,fun x hx=>?_⟩;have:=hr.2 x hx;rw [Bool.or_eq_true] at this ⊢;exact this.imp id (zci h)
 ·exact .inr (zgk (zfB hok).1 h hr)
theorem ClosedN.calmR (h:ClosedN p S d):zl1 (R21 p S) d:=fun x hx c hc=>by
 unfold R21;rw [Bool.or_eq_false_iff,List.any_eq_false];exact ⟨fun g hg=>by rw [h.calm g hg x hx c hc];simp,h.cl.calm x hx c hc⟩
theorem zkR (hf:100000≤fuel)(hok:eF p=true)(hS:∀g∈S,iy p g=true)(hd:SubP p d):∃r,zcz fuel p S d=some r∧QN p S d r:=by
 obtain ⟨hw,hbd,htot,hn⟩:=zfB hok;have hb:Bd d:=hbd.ord hd.len hd.ord;have ht:=zdI hd.len hd.ord;unfold zcz;simp only [dO,Nat.sub_zero,zi7 hS];refine zlK (R:=R21 p S) (k2:=fun d=>dh (fun (i:Nat) (next:Unit→Option (List GDomain×Bool)) (_:Unit)=>bif decide ((((cH d i).Channels).length:Int)=0) then some ([],false) else next ()) (fun (_:Unit)=>dh (fun (i:Nat) (next:Unit→Option (List GDomain×Bool)) (_:Unit)=>bif decide (((cH S i).length:Int)=0) then some ([],false) else next ()) (fun (_:Unit)=>some (d,true)) S.length 0 ()) d.length 0 ()) (fun o=>∃r,o=some r∧QN p S d r) (R21.mono hok) hb (by rw [hd.len];omega) a6 fun d' hI hA=>?_;refine km (σ:=Unit) (I:=fun i _=>∀j,j<i→(cH d' j).Channels≠[]) (post:=fun o=>∃r,o=some r∧QN p S d r) (fun j hj=>absurd hj (Nat.not_lt_zero j)) (fun _ hne=>?_) (fun i _ next hi h hnx=>?_)
 ·refine km (σ:=Unit) (I:=fun i _=>∀j,j<i→cH S j≠[]) (post:=fun o=>∃r,o=some r∧QN p S d r) (fun j hj=>absurd hj (Nat.not_lt_zero j)) (fun _ h=>?_) (fun i _ next hi h hnx=>?_)
  ·refine ⟨_,rfl, .inl ⟨rfl,⟨⟨fun x hx=>?_,fun x hx c hc=>?_⟩,fun g hg=>?_,fun g hg x hx c hc=>?_⟩,⟨hI.sub.trans hd.sub,hI.ord.trans hd.ord hd.len⟩,hI.sub,fun e he hs=>hI.sup e he.calmR hs⟩⟩
   ·obtain ⟨j,hj,rfl⟩:=fW hx;exact hne j hj
   ·have:=hA x hx c hc;unfold R21 at this;exact (Bool.or_eq_false_iff.1 this).2
   ·obtain ⟨j,hj,rfl⟩:=fW hg;exact h j hj
   ·have:=hA x hx c hc;unfold R21 at this;have:=List.any_eq_false.1 (Bool.or_eq_false_iff.1 this).1 g hg;simpa using this
  ·by_cases he:cH S i=[]
   ·rw [he];exact ⟨_,rfl, .inr ⟨rfl,fun e hc _=>hc.ne _ (eh hi) he⟩⟩
   ·have:¬((cH S i).length:Int)=0:=fun h0=>he (List.eq_nil_of_length_eq_zero a6);rw [decide_eq_false this,cond_false];refine hnx () (fun j hj=>?_);rcases Nat.lt_or_ge j i with h1|h1
    ·exact h j h1
    ·rw [show j=i by omega];exact he
 ·by_cases he:(cH d' i).Channels=[]
  ·rw [he];refine ⟨_,rfl, .inr ⟨rfl,fun e hc hs=>?_⟩⟩;have h2:=hI.sup e hc.calmR hs;have h3:=(h2.2 i hi).2;rw [he] at h3;apply hc.cl.ne _ (eh (show i<e.length by rw [h2.1];exact hi))
   cases hch:(cH e i).Channels with
   |nil=>rfl
   |cons c r=>exact absurd (h3 c (by rw [hch];simp)) b2
  ·have:¬((cH d' i).Channels.length:Int)=0:=fun h0=>he (List.eq_nil_of_length_eq_zero a6);rw [decide_eq_false this,cond_false];refine hnx () (fun j hj=>?_);rcases Nat.lt_or_ge j i with h1|h1
   ·exact h j h1
   ·rw [show j=i by omega];exact he
theorem zoe (hf:100000≤fuel)(hok:eF p=true)(h:StN p t)(hl:ValidL l)(hs:∀c∈l,fS p c.Station=true):∃r:List GDomain×Bool,zam fuel t l=some (r.1,!r.2,0)∧QN p t.list (dK p l) r:=by
 rcases run_x hf hok h hl hs with ⟨m,q1,q2,q3,q4,q5⟩|⟨q1,q2⟩
 ·exact ⟨(m.1,true),q1, .inl ⟨rfl,q2,q3,q4,q5⟩⟩
 ·exact ⟨([],false),q1, .inr ⟨rfl,q2⟩⟩
theorem ValidL.take (h:ValidL l)(n:Nat):ValidL (l.take n):=by
 refine ⟨fun x hx=>h.good x (List.mem_of_mem_take hx),fun i j hij hj=>?_⟩;rw [List.length_take] at hj;rw [d4 (by rw [List.length_take];omega),d4 (by rw [List.length_take];omega),List.getElem_take,List.getElem_take];have:=h.inc i j hij a6
 rwa [d4 a6,d4 a6] at this
end
section
variable {p:GProblem}{fuel:Nat}
end
structure DecP (p:GProblem) (l:List GChoice):Prop where
 good:∀c∈l,0≤c.Station∧c.Station≤511∧2≤c.Channel∧c.Channel≤51
 has:∀c∈l,mQ p c.Station c.Channel=true
 nd:(l.map GChoice.Station).Nodup
theorem DecP.st {p:GProblem}{l:List GChoice}(h:DecP p l):∀c∈l,fS p c.Station=true:=fun c hc=>zfP (h.has c hc)
theorem DecP.sub {p:GProblem}{l l':List GChoice}(h:DecP p l)(hs:l'.Sublist l):DecP p l':=⟨fun c hc=>h.good c (hs.subset hc),fun c hc=>h.has c (hs.subset hc),h.nd.sublist (hs.map _)⟩
theorem zfX {l:List GChoice}(hn:(l.map GChoice.Station).Nodup)(hl:l.length≤100000):lV l=some (ip l):=by
 unfold lV zhv;rw [fo (by unfold dQ;omega),fo ⟨by omega,hn⟩];rfl
theorem DecP.len {p:GProblem}{l:List GChoice}(h:DecP p l):l.length≤512:=by
 have key:∀(n:Nat) (s:List Int),s.Nodup→(∀x∈s,0≤x∧x<(n:Int))→s.length≤n:=by
  intro n
  induction n with
  |zero=>intro s _ h;cases s with
   |nil=>exact Nat.le_refl _
   |cons x s=>have:=h x (List.mem_cons_self ..);omega
  |succ n ih=>
   intro s hs h
   have h1:=ih (s.erase (n:Int)) (hs.erase _) (fun x hx=>by
    have h2:=(List.Nodup.mem_erase_iff hs).1 hx;have h3:=h x h2.2;have:x≠(n:Int):=h2.1
    omega)
   have h4:=List.length_erase (a:=(n:Int)) (l:=s)
   split at h4 <;> omega
 have:=key 512 (l.map GChoice.Station) h.nd (fun x hx=>by
  obtain ⟨c,hc,rfl⟩:=List.mem_map.1 hx;have:=h.good c hc
  omega)
 rwa [List.length_map] at this
theorem zgq {p:GProblem}{l:List GChoice}(h:DecP p l):ValidL (ip l):=by
 have hp:=mB l;have hn:((ip l).map GChoice.Station).Nodup:=(hp.map GChoice.Station).nodup_iff.2 h.nd;refine ⟨fun c hc=>h.good c (hp.mem_iff.1 hc),fun i j hij hj=>?_⟩;have h1:=List.pairwise_iff_getElem.1 (zea l) i j a6 hj hij;have h2:=List.pairwise_iff_getElem.1 hn i j cC cC hij;rw [List.getElem_map,List.getElem_map] at h2;rw [d4 (show i<(ip l).length by omega),d4 hj];have h3:(ip l)[i].Station≤(ip l)[j].Station:=h1;omega
theorem zlG (ch:List Int)(a b:Int):(bif (bif ch.any (fun k=>decide (k=b)) then [b] else []).any (fun k=>decide (k=a)) then [a] else [])=(bif (bif ch.any (fun k=>decide (k=a)) then [a] else []).any (fun k=>decide (k=b)) then [b] else ([]:List Int)):=by
 by_cases e:a=b
 ·subst e;rfl
 ·(have h1:([b].any fun k=>decide (k=a))=false:=by simp;omega); (have h2:([a].any fun k=>decide (k=b))=false:=by simp;omega)
  cases ch.any (fun k=>decide (k=b)) <;> cases ch.any (fun k=>decide (k=a)) <;> simp only [cond_true,cond_false,h1,h2] <;> rfl
theorem zlR {a b:GChoice}(x:GDomain):fK true a (fK true b x)=fK true b (fK true a x):=by
 unfold fK
 cases j3 a <;> cases j3 b <;> simp only [cond_true,cond_false,id]
 unfold iQ;by_cases h1:x.Station=a.Station <;> by_cases h2:x.Station=b.Station
 ·rw [decide_eq_true h1,decide_eq_true h2];simp only [cond_true,zlG x.Channels a.Channel b.Channel]
 ·rw [decide_eq_true h1,decide_eq_false h2];rfl
 ·rw [decide_eq_false h1,decide_eq_true h2];rfl
 ·rw [decide_eq_false h1,decide_eq_false h2];rfl
theorem zi4 {p:GProblem}{a b:List GChoice}(h:a.Perm b):dK p a=dK p b:=by
 unfold dK;refine h.foldl_eq' (fun x _ y _ z=>?_) _;rw [List.map_map,List.map_map];exact List.map_congr_left fun d _=>zlR d
section
variable {p:GProblem}{S:List (List GChoice)}{l:List GChoice}{t:GStore}{fuel:Nat}
theorem zhx (hf:100000≤fuel)(hok:eF p=true)(hS:∀g∈S,iy p g=true)(hl:∀c∈l,0≤c.Station∧c.Station≤511∧2≤c.Channel∧c.Channel≤51):∃r,zce fuel p S l=some r∧QN p S (dK p l) r:=by
 obtain ⟨hw,hbd,htot,hn⟩:=zfB hok;unfold zce;refine kj ?_;refine km (σ:=List GDomain) (fun i d=>d=dK p (l.take i)) (fun o=>∃r,o=some r∧QN p S (dK p l) r) rfl (fun d hd=>?_) (fun i d next hi hd hnx=>?_)
 ·rw [List.take_length] at hd;subst hd;obtain ⟨r,h1,h2⟩:=zkR (fuel:=fuel) hf hok hS (zh0 l);exact ⟨r,by rw [h1];rfl,h2⟩
 ·subst hd;have hs:=zh0 (p:=p) (l.take i);have hb:Bd (dK p (l.take i)):=hbd.ord hs.len hs.ord;rw [zkU hb.len (fun x hx=>(hb.ch x hx).1),Option.bind_some];refine hnx _ ?_;have hg:=hl _ (eh hi); (have hgc:j3 (cH l i)=true:=by unfold j3;exact decide_eq_true a6);rw [zld hi]
  congr 1
  unfold fK;rw [hgc];rfl
theorem zot (hf : 100000 ≤ fuel) (hok : eF p = true) (h : StN p t) (hS : ∀ g ∈ t.list, iy p g = true) (hl : DecP p l) :
    ∃ r : List GDomain × Bool, lV l = some (ip l) ∧ zam fuel t (ip l) = some (r.1, !r.2, 0) ∧ zce fuel p t.list l = some r ∧ QN p t.list (dK p l) r := by
  have hlen := hl.len; have hp := mB l; obtain ⟨r, h1, h2⟩ := zoe hf hok h (zgq hl) (fun c hc => hl.st c (hp.mem_iff.1 hc)); obtain ⟨r', h3, h4⟩ := zhx (fuel := fuel) hf hok hS hl.good; rw [zi4 hp] at h2; obtain rfl := QN.eq hok h2 h4; exact ⟨r, zfX hl.nd a6, h1, h3, h4⟩
theorem ziL (h:DecP p l):iy p (ip l)=true:=ff.2 ⟨zgq h,fun c hc=>h.has c ((mB l).mem_iff.1 hc)⟩
def wo (l:List GChoice)(i:Nat):List GChoice:=l.take i++l.drop (i+1)
theorem zjQ (l:List GChoice)(i:Nat):(wo l i).Sublist l:=by
 unfold wo
 have h:(l.drop (i+1)).Sublist (l.drop i):=by
  rw [←List.drop_drop];exact List.drop_sublist _ _
 have h2:=(List.Sublist.refl (l.take i)).append h
 rwa [List.take_append_drop] at h2
theorem zoI {l:List GChoice}{i:Nat}(h:i<l.length):(wo l i).length+1=l.length:=by
 unfold wo;rw [List.length_append,List.length_take,List.length_drop];omega
theorem zmp {l:List GChoice}{i:Nat}(h:i<l.length):zfo l (i:Int) ((i:Int)+1)=some (wo l i):=by
 unfold zfo;rw [fo ⟨by omega,rfl,by omega⟩];rfl
theorem zkB {l:List GChoice}{i:Nat}(h:i<l.length)(hl:l.length≤1000):zbc l (i:Int)=some (wo l i):=by
 unfold zbc;rw [fo a6,fo ⟨by omega,by omega⟩,fo (by unfold dQ;rw [List.length_append,List.length_take];simp;omega),fo ⟨by omega,by omega⟩,fo (by unfold dQ;rw [List.length_append,List.length_append,List.length_take,List.length_drop];simp;omega)]
 rfl
def Conf (p:GProblem)(S:List (List GChoice))(l:List GChoice):Prop:=∀e,ClosedN p S e→¬SubD e (dK p l)
theorem QN.conf {r:List GDomain×Bool}(h:QN p S (dK p l) r):r.2=false↔Conf p S l:=by
 rcases h with ⟨h1,h2,h3,h4,_⟩|⟨h1,h2⟩
 ·rw [h1];exact ⟨fun h=>(by cases h),fun h=>absurd h4 (h _ h2)⟩
 ·rw [h1];exact ⟨fun _=>h2,fun _=>rfl⟩
theorem zlc (hf:100000≤fuel)(hok:eF p=true)(h:StN p t)(hS:∀g∈t.list,iy p g=true)(hl:DecP p l):∃(b:Bool) (r:List GDomain×Bool),zak fuel t (ip l)=some (b,0)∧zce fuel p t.list l=some r∧b= !r.2:=by
 obtain ⟨b,h1,_,h3⟩:=zlI hf hok h (g:=ip l);have hk:=ziL hl;obtain ⟨r,h4,h5⟩:=zhx (fuel:=fuel) hf hok hS hl.good;rw [hk] at h1;refine ⟨b,r,h1,h4,?_⟩
 have h6:b=true↔Conf p t.list l:=by
  rw [h3 hk,zi4 (mB l)];exact Iff.rfl
 have h7:=QN.conf h5
 cases b <;> cases hr:r.2
 ·exact absurd (h6.2 (h7.1 hr)) a7
 ·rfl
 ·rfl
 ·exact absurd (h7.2 (h6.1 rfl)) (by rw [hr];decide)
end
section
variable {p:GProblem}{a b d:List GDomain}{f:GDomain→GDomain}{φ:Int→Int→Prop}
theorem zn2 (hok:eF p=true)(hd:SubD d p.Domains∧OrdD d p.Domains):eF ⟨d,p.Rules⟩=true:=by
 have hlen:(d6 ⟨d,p.Rules⟩).ds.length=d.length:=List.length_map _;have hlp:(d6 p).ds.length=p.Domains.length:=List.length_map _
 have hst:(d6 ⟨d,p.Rules⟩).ds.map (·.st)=(d6 p).ds.map (·.st):=by
  show (d.map GDomain.b).map (·.st)=(p.Domains.map GDomain.b).map (·.st)
  rw [List.map_map,List.map_map];refine zdG (by rw [List.length_map,List.length_map];exact hd.1.1) (fun i hi=>?_);rw [List.length_map] at hi; (have hi':i<p.Domains.length:=by rw [←hd.1.1];exact hi);rw [gr hi,gr hi'];exact (hd.1.2 i hi').1
 have hn1:∀i,i<d.length→cH (d6 ⟨d,p.Rules⟩).ds i=(cH d i).b:=fun i hi=>gr hi;have hn2:∀i,i<p.Domains.length→cH (d6 p).ds i=(cH p.Domains i).b:=fun i hi=>gr hi;unfold eF at hok ⊢;simp only [Pb.ok,Bool.and_eq_true] at hok ⊢;obtain ⟨h1,h2,h3,h4,h5,h6⟩:=hok; (have hhas:∀i,(d6 ⟨d,p.Rules⟩).has i=(d6 p).has i:=fun i=>by unfold Pb.has;rw [hst]);refine ⟨?_,h2,?_,?_,?_,?_⟩
 ·rw [zem] at h1 ⊢;intro i hi;rw [hlen] at hi; (have hi':i<p.Domains.length:=by rw [←hd.1.1];exact hi);have h7:=h1 i (by rw [hlp];exact hi');rw [hn2 i hi'] at h7;rw [hn1 i hi];simp only [Dx.ok,Bool.and_eq_true] at h7 ⊢;have hsub:=hd.2 i hi';refine ⟨by show inB (cH d i).Station 0 511=true;rw [(hd.1.2 i hi').1];exact h7.1,?_,?_⟩
  ·rw [dX] at h7 ⊢;exact fun q hq=>h7.2.1 q (hsub.subset hq)
  ·have h8:=(zlB h7.2.2).sublist hsub;rw [gT];intro k hk
   have:cH (cH d i).Channels k<cH (cH d i).Channels (k+1):=by
    have hk':k+1<(cH d i).Channels.length:=hk;rw [d4 a6,d4 hk'];exact List.pairwise_iff_getElem.1 h8 k (k+1) a6 hk' a6
   show dC (cH (cH d i).Channels k) (cH (cH d i).Channels (k+1))<0
   unfold dC;rw [if_pos this];omega
 ·rw [gT] at h3 ⊢;intro k hk;rw [hlen] at hk; (have hk':k+1<p.Domains.length:=by rw [←hd.1.1];exact hk);have:=h3 k (by rw [hlp];exact hk');rw [hn2 _ a6,hn2 _ hk'] at this;rw [hn1 _ a6,hn1 _ hk]
  show dC (cH d k).Station (cH d (k+1)).Station<0
  rw [(hd.1.2 k a6).1,(hd.1.2 (k+1) hk').1];exact this
 ·simp only [hhas];exact h4
 ·simp only [hhas];exact h5
 ·simp only [hhas];exact h6
end
theorem zcT {α:Type}[Inhabited α]{c:α→α→Int}(ht:∀x y z,c x y<0→c y z<0→c x z<0){l:List α}:fg c l=true↔l.Pairwise fun x y=>c x y<0:=by
 rw [gT,List.pairwise_iff_getElem];constructor
 ·intro h i j hi hj hij
  have key:∀m,i+m+1<l.length→c (cH l i) (cH l (i+m+1))<0:=by
   intro m
   induction m with
   |zero=>intro hm;exact h i hm
   |succ m ih=>intro hm;exact ht _ _ _ (ih a6) (h (i+m+1) a6)
  have:=key (j - i - 1) a6;rw [show i+(j - i - 1)+1=j by omega,d4 hi,d4 hj] at this;exact this
 ·intro h i hi;rw [d4 a6,d4 hi];exact h i (i+1) a6 hi a6
theorem zgK (a b:Int):(dC a b= -1∧a<b)∨(dC a b=0∧a=b)∨(dC a b=1∧b<a):=by
 unfold dC
 split
 ·exact .inl ⟨rfl,by assumption⟩
 ·split
  ·exact .inr (.inr ⟨rfl,by omega⟩)
  ·exact .inr (.inl ⟨rfl,by omega⟩)
theorem zhd (a:Int)(l:List Int):kg (a :: l)<0↔a<0∨(a=0∧kg l<0):=by
 have e:kg (a :: l)=if a=0 then kg l else a:=rfl;rw [e];by_cases h:a=0
 ·rw [if_pos h];simp [h]
 ·rw [if_neg h];simp [h]
theorem ziX:¬kg []<0:=by unfold kg;simp
theorem zkG {a b:Int}:dC a b<0↔a<b:=by rcases zgK a b with h|h|h <;> omega
theorem zl9 {a b:Int}:dC a b=0↔a=b:=by rcases zgK a b with h|h|h <;> omega
theorem Pr.trans (x y z:Pr)(h:Pr.cmp x y<0)(k:Pr.cmp y z<0):Pr.cmp x z<0:=by
 simp only [Pr.cmp,zhd,zkG,zl9,ziX,and_false,or_false] at h k ⊢;omega
theorem Ld.trans (x y z:Ld)(h:Ld.cmp x y<0)(k:Ld.cmp y z<0):Ld.cmp x z<0:=by
 simp only [Ld.cmp,zhd,zkG,zl9,ziX,and_false,or_false] at h k ⊢;omega
theorem Cp.trans (x y z:Cp)(h:Cp.cmp x y<0)(k:Cp.cmp y z<0):Cp.cmp x z<0:=by
 simp only [Cp.cmp,zhd,zkG,zl9,ziX,and_false,or_false] at h k ⊢;omega
structure SubR (q p:GRules):Prop where
 ps:q.Pairs.Sublist p.Pairs
 ls:q.Loads.Sublist p.Loads
 cs:q.Caps.Sublist p.Caps
section
variable {p q:GProblem}
theorem znW (hok:eF p=true)(hd:q.Domains=p.Domains)(h:SubR q.Rules p.Rules):eF q=true:=by
 unfold eF at hok ⊢;simp only [Pb.ok,Pb.rulesOk,Bool.and_eq_true,decide_eq_true_eq] at hok ⊢;obtain ⟨h1,⟨h2,h3,h4,h5,h6,h7,h8,h9,h10⟩,h11,h12,h13,h14⟩:=hok; (have e1:(d6 q).ds=(d6 p).ds:=by unfold d6;rw [hd]);have sp:(d6 q).ps.Sublist (d6 p).ps:=h.ps.map _;have sl:(d6 q).ls.Sublist (d6 p).ls:=h.ls.map _;have sc:(d6 q).cs.Sublist (d6 p).cs:=h.cs.map _; (have hhas:∀i,(d6 q).has i=(d6 p).has i:=fun i=>by unfold Pb.has;rw [e1]);have all:∀ {α:Type} [Inhabited α] {f:α→Bool} {a b:List α},a.Sublist b→fm f b=true→fm f a=true:=fun hs hb=>dX.2 fun x hx=>dX.1 hb x (hs.subset hx);have l1:=sp.length_le;have l2:=sl.length_le;have l3:=sc.length_le;refine ⟨by rw [e1];exact h1,⟨by omega,all sp h3,?_,by omega,all sl h6,?_,by omega,all sc h9,?_⟩,by rw [e1];exact h11,?_,?_,?_⟩
 ·exact (zcT Pr.trans).2 (((zcT Pr.trans).1 h4).sublist sp)
 ·exact (zcT Ld.trans).2 (((zcT Ld.trans).1 h7).sublist sl)
 ·exact (zcT Cp.trans).2 (((zcT Cp.trans).1 h10).sublist sc)
 ·simp only [hhas];exact all sp h12
 ·simp only [hhas];exact all sl h13
 ·simp only [hhas];exact all sc h14
end
theorem zhk {p:GProblem}{d:List GDomain}(hok:eF p=true)(h:SubP p d):eF ⟨d,⟨[],[],[]⟩⟩=true:=
 znW (p:=⟨d,p.Rules⟩) (q:=⟨d,⟨[],[],[]⟩⟩) (zn2 hok ⟨h.sub,h.ord⟩) rfl (by constructor <;> simp)
section
variable {p:GProblem}{S:List (List GChoice)}{D:List GChoice}{t:GStore}{fuel:Nat}{r:List GDomain×Bool}
noncomputable def dI (p:GProblem) (S:List (List GChoice)) (D:List GChoice):List GDomain×Bool:=(zce 100000 p S D).getD ([],false)
theorem zfD (hok:eF p=true)(hS:∀g∈S,iy p g=true)(h:DecP p D):QN p S (dK p D) (dI p S D):=by
 obtain ⟨r,h1,h2⟩:=zhx (fuel:=100000) (Nat.le_refl _) hok hS h.good;unfold dI;rw [h1];exact h2
theorem zjD (hf:100000≤fuel)(hok:eF p=true)(hS:∀g∈S,iy p g=true)(h:DecP p D):zce fuel p S D=some (dI p S D):=by
 obtain ⟨r,h1,h2⟩:=zhx (fuel:=fuel) hf hok hS h.good;rw [h1,QN.eq hok h2 (zfD hok hS h)]
theorem zif (hf:100000≤fuel)(hok:eF p=true)(ht:StN p t)(h:DecP p D):lV D=some (ip D)∧zam fuel t (ip D)=some ((dI p t.list D).1,!(dI p t.list D).2,0):=by
 obtain ⟨r,h1,h2,h3,h4⟩:=zot hf hok ht ht.ok h;rw [QN.eq hok h4 (zfD hok ht.ok h)] at h2;exact ⟨h1,h2⟩
theorem zh7 (hf:100000≤fuel)(hok:eF p=true)(ht:StN p t)(h:DecP p D):zak fuel t (ip D)=some (!(dI p t.list D).2,0):=by
 obtain ⟨b,r,h1,h2,h3⟩:=zlc hf hok ht ht.ok h;rw [zjD hf hok ht.ok h] at h2;rw [h1,h3,←Option.some.inj h2]
noncomputable def di (p:GProblem) (S:List (List GChoice)):Nat→List GChoice→List GChoice
 |0,k=>k
 |i+1,k=>bif !(dI p S (wo k i)).2 then di p S i (wo k i) else di p S i k
theorem zcW:∀i k,(di p S i k).Sublist k
 |0,k=> .refl _
 |i+1,k=>by
  rw [di]
  cases !(dI p S (wo k i)).2
  ·exact zcW i k
  ·exact (zcW i _).trans (zjQ k i)
theorem zde (hok:eF p=true)(hS:∀g∈S,iy p g=true):∀i k,DecP p k→Conf p S k→Conf p S (di p S i k)
 |0,k,_,h=>h
 |i+1,k,hd,h=>by
  rw [di];have hw:=hd.sub (zjQ k i)
  cases hb:(dI p S (wo k i)).2
  ·exact zde hok hS i _ hw ((zfD hok hS hw).conf.1 hb)
  ·exact zde hok hS i k hd h
theorem zk6 (hf : 100000 ≤ fuel) (hok : eF p = true) (h : StN p t) (hl : DecP p D) : zaV fuel D t = some (di p t.list D.length D) ∧ zdQ fuel p t.list D = some (di p t.list D.length D) := by
  have hS := h.ok; have hlen := hl.len; unfold zaV zdQ; rw [fo (by unfold dQ; omega)];simp only [dO]
  have key : ∀ (i : Nat) (k : List GChoice), i ≤ k.length → k.Sublist D → kF (fun (i_5 : Nat) (next4 : List GChoice → Option (List GChoice)) (kept_3 : List GChoice) =>
      ex (dQ kept_3.length 16) <|
      (zfo kept_3 (i_5 : Int) ((i_5 : Int) + 1)).bind fun r24 =>
      (lV r24).bind fun r28 =>
      (zak fuel t r28).bind fun r29 =>
      (bif r29.1 then
        next4 r24
        else
        next4 kept_3)) (fun kept_3 => some kept_3) i k = some (di p t.list i k) ∧ kF (fun (i_5 : Nat) (next4 : List GChoice → Option (List GChoice)) (out_3 : List GChoice) =>
      (zbc out_3 (i_5 : Int)).bind fun r24 =>
      (zc0 fuel p t.list r24).bind fun r25 =>
      (bif !r25.2 then
        (zbc out_3 (i_5 : Int)).bind fun r32 =>
        next4 r32
        else
        next4 out_3)) (fun out_3 => some out_3) i k = some (di p t.list i k) := by
    intro i
    induction i with
    | zero => intro k _ hk; exact ⟨rfl, rfl⟩
    | succ i ih =>
      intro k hi hk; have hkl := hk.length_le; have hd := hl.sub ((zjQ k i).trans hk); have hw := zoI (l := k) (i := i) a6
      have e1 : ∀ X : List GChoice → Option (List GChoice), (ex (dQ k.length 16) <| (zfo k (i : Int) ((i : Int) + 1)).bind fun r24 => (lV r24).bind fun r28 => (zak fuel t r28).bind fun r29 => (bif r29.1 then X r24 else X k)) = (bif !(dI p t.list (wo k i)).2 then X (wo k i) else (X k : Option (List GChoice))) := fun X => by
        rw [fo (by unfold dQ; omega), zmp a6, Option.bind_some, zfX hd.nd a6, Option.bind_some, zh7 hf hok h hd, Option.bind_some]
      have e2 : ∀ X : List GChoice → Option (List GChoice), ((zbc k (i : Int)).bind fun r24 => (zc0 fuel p t.list r24).bind fun r25 => (bif !r25.2 then (zbc k (i : Int)).bind fun r32 => X r32 else X k)) = (bif !(dI p t.list (wo k i)).2 then X (wo k i) else (X k : Option (List GChoice))) := fun X => by
        rw [zkB a6 a6, Option.bind_some]
        show (zce fuel p t.list (wo k i)).bind _ = _
        rw [zjD hf hok hS hd, Option.bind_some]; rfl
      rw [di]
      cases hb : !(dI p t.list (wo k i)).2 with
      | true =>
        obtain ⟨q1, q2⟩ := ih (wo k i) a6 ((zjQ k i).trans hk); refine ⟨(e1 _).trans ?_, (e2 _).trans ?_⟩
        · rw [hb, cond_true]; exact q1
        · rw [hb, cond_true]; exact q2
      | false =>
        obtain ⟨q1, q2⟩ := ih k a6 hk; refine ⟨(e1 _).trans ?_, (e2 _).trans ?_⟩
        · rw [hb, cond_false]; exact q1
        · rw [hb, cond_false]; exact q2
  exact key D.length D (Nat.le_refl _) (.refl _)
def jF (D r:List GChoice):Nat:=((List.range D.length).find? fun i=>decide ((cH D i).Station=(cH r (((r.length:Int) - 1).toNat)).Station)&&decide ((cH D i).Channel=(cH r (((r.length:Int) - 1).toNat)).Channel)).getD 0
theorem zlX {D r:List GChoice}(hs:r.Sublist D)(hne:r.length≠0)(hD:D.length≤1000):jF D r<D.length∧cH D (jF D r)∈r∧lQ D (cH r (((r.length:Int) - 1).toNat))=(jF D r:Int)∧zez D r=some (D.take (jF D r)):=by
 have hv0:cH r (((r.length:Int) - 1).toNat)∈r:=eh a6;have hv:cH r (((r.length:Int) - 1).toNat)∈D:=hs.subset hv0
 have e1:lQ D (cH r (((r.length:Int) - 1).toNat))=match (List.range D.length).find? (fun i=>(decide ((cH r (((r.length:Int) - 1).toNat)).Station=(cH D i).Station)&&decide ((cH r (((r.length:Int) - 1).toNat)).Channel=(cH D i).Channel))) with|some i=>(i:Int)|none=> -1:=by
  unfold lQ;refine kj ?_;exact zbP (fun i=>(decide ((cH r (((r.length:Int) - 1).toNat)).Station=(cH D i).Station)&&decide ((cH r (((r.length:Int) - 1).toNat)).Channel=(cH D i).Channel))) (fun i=>(i:Int)) (fun i next _=>rfl)
 have e2:zez D r=match (List.range D.length).find? (fun i=>(decide ((cH D i).Station=(cH r (((r.length:Int) - 1).toNat)).Station)&&decide ((cH D i).Channel=(cH r (((r.length:Int) - 1).toNat)).Channel))) with|some i=>some (D.take i)|none=>some []:=by
  unfold zez;rw [fo ⟨by omega,by omega⟩];refine kj ?_;refine zbP (fun i=>(decide ((cH D i).Station=(cH r (((r.length:Int) - 1).toNat)).Station)&&decide ((cH D i).Channel=(cH r (((r.length:Int) - 1).toNat)).Channel))) (fun i=>some (D.take i)) (fun i next hi=>?_);rw [List.nil_append,fo (by unfold dQ;rw [List.length_take];omega)]
 have e3:(fun i=>(decide ((cH r (((r.length:Int) - 1).toNat)).Station=(cH D i).Station)&&decide ((cH r (((r.length:Int) - 1).toNat)).Channel=(cH D i).Channel)))=fun i=>(decide ((cH D i).Station=(cH r (((r.length:Int) - 1).toNat)).Station)&&decide ((cH D i).Channel=(cH r (((r.length:Int) - 1).toNat)).Channel)):=by
  funext i;rw [decide_eq_decide.2 eq_comm,decide_eq_decide.2 (eq_comm (a:=(cH r (((r.length:Int) - 1).toNat)).Channel))]
 rw [e1,e2,e3];unfold jF;generalize cH r (((r.length:Int) - 1).toNat)=v at*
 cases hf:(List.range D.length).find? fun i=>(decide ((cH D i).Station=v.Station)&&decide ((cH D i).Channel=v.Channel)) with
 |none=>
  obtain ⟨i,hi,rfl⟩:=fW hv;have:=List.find?_eq_none.1 hf i (List.mem_range.2 hi);rw [decide_eq_true rfl,decide_eq_true rfl] at this;exact absurd rfl this
 |some i=>
  have h1:=List.find?_some hf;rw [Bool.and_eq_true,decide_eq_true_eq,decide_eq_true_eq] at h1;refine ⟨List.mem_range.1 (List.mem_of_find?_eq_some hf),?_,rfl,rfl⟩
  show cH D i∈r
  have:cH D i=v:=by
   cases v;cases hx:cH D i;rw [hx] at h1;obtain ⟨h2,h3⟩:=h1;simp only at h2 h3;rw [h2,h3]
  rw [this];exact hv0
theorem zjt (h:DecP p D){c:GChoice}(hc:c∈D):j3 c=true:=by
 have:=h.good c hc;unfold j3;exact decide_eq_true a6
theorem zmd {c:GChoice}(hg:j3 c=true)(hc:c∈D):iC (dK p D) c.Station c.Channel=true:=by
 have key:∀(l:List GChoice) (d:List GDomain),(iC d c.Station c.Channel=true∨c∈l)→iC (l.foldl (fun d c=>d.map (fK true c)) d) c.Station c.Channel=true:=by
  intro l
  induction l with
  |nil=>intro d h;exact h.resolve_right b2
  |cons a r ih=>
   intro d h;refine ih _ ?_;have hf:=zdA true a;rcases h with h|h
   ·left;rw [eO] at h ⊢;intro x hx e k hk;obtain ⟨y,hy,rfl⟩:=List.mem_map.1 hx;rw [hf.st] at e;exact h y hy e k ((hf.mem _ _).1 hk).1
   ·rcases List.mem_cons.1 h with rfl|h
    ·left;rw [eO];intro x hx e k hk;obtain ⟨y,hy,rfl⟩:=List.mem_map.1 hx;rw [hf.st] at e;exact (((hf.mem _ _).1 hk).2 hg e).2 rfl
    ·exact .inr h
 exact key D p.Domains (.inr hc)
theorem zl2 (hok:eF p=true){d:List GDomain}(h:SubP p d){x:GDomain}(hx:x∈d):x.Channels.Nodup:=by
 obtain ⟨_,hbd,_,_⟩:=zfB hok;exact ((hbd.ord h.len h.ord).ch x hx).2
theorem zlj {l:List Int}{c:Int}(hn:l.Nodup)(h:∀k∈l,k=c):l.length≤1:=by
 match l,hn,h with
 | [],_,_=>simp
 | [_],_,_=>simp
 |a :: b :: r,hn,h=>
  have h1:=h a b2;have h2:=h b b2;rw [h1,h2] at hn;simp at hn
theorem znw (hok:eF p=true)(h:DecP p D){d:List GDomain}(h3:SubP p d)(h4:SubD d (dK p D)){x:GDomain}(hx:x∈d)(hl:1<x.Channels.length):∀c∈D,c.Station≠x.Station:=fun c hc e=>by
 have h5:=zci h4 (zmd (p:=p) (zjt h hc) hc);have h6:=zlj (zl2 hok h3 hx) (eO.1 h5 x hx e.symm);omega
theorem zmu (hok:eF p=true)(h:DecP p D){d:List GDomain}(h3:SubP p d)(h4:SubD d (dK p D)){x:GDomain}(hx:x∈d)(hl:1<x.Channels.length){c:GChoice}(e:c.Station=x.Station)(hc:c.Channel∈x.Channels):DecP p (D++[c]):=by
 have hG:=zey hok;have hn:=znw hok h h3 h4 hx hl;have hst:=h3.st hG hx;have hch:=h3.ch hG hx hc;refine ⟨fun a ha=>?_,fun a ha=>?_,?_⟩
 ·rcases List.mem_append.1 ha with ha|ha
  ·exact h.good a ha
  ·rw [List.mem_singleton.1 ha];omega
 ·rcases List.mem_append.1 ha with ha|ha
  ·exact h.has a ha
  ·rw [List.mem_singleton.1 ha];obtain ⟨i,hi,rfl⟩:=fW hx; (have hi':i<p.Domains.length:=by rw [←h3.len];exact hi);have h5:=h3.sub.2 i hi';exact ik.2 ⟨_,eh hi',by rw [e];exact h5.1.symm,h5.2 _ hc⟩
 ·rw [List.map_append,List.nodup_append];refine ⟨h.nd,by simp,fun a ha b hb=>?_⟩;obtain ⟨y,hy,rfl⟩:=List.mem_map.1 ha;simp only [List.map_cons,List.map_nil,List.mem_singleton] at hb;rw [hb,e];exact hn y hy
structure InvS (p:GProblem) (S:List (List GChoice)) (D:List GChoice):Prop where
 ok:∀g∈S,iy p g=true
 dec:DecP p D
 out:∀g∈S,¬ ∀c∈g,c∈D
 fol:∀i,i<S.length→Conf p (S.take i) (cH S i)
 nd:S.Nodup
 le:S.length≤4096
theorem InvS.nil:InvS p [] []:=⟨fun _ h=>(by cases h),⟨fun _ h=>(by cases h),fun _ h=>(by cases h),List.Pairwise.nil⟩,fun _ h=>(by cases h),fun i h=>absurd h (Nat.not_lt_zero i),List.Pairwise.nil,Nat.zero_le _⟩
theorem Conf.sort {l:List GChoice}(h:Conf p S l):Conf p S (ip l):=fun e he=>by
 rw [zi4 (mB l)];exact h e he
theorem InvS.learn (hok:eF p=true)(h:InvS p S D){g:List GChoice}(hs:g.Sublist D)(hc:Conf p S g):(∀x∈S++[ip g],iy p x=true)∧(∀i,i<(S++[ip g]).length→Conf p ((S++[ip g]).take i) (cH (S++[ip g]) i))∧(S++[ip g]).Nodup:=by
 refine ⟨fun x hx=>?_,fun i hi=>?_,?_⟩
 ·rcases List.mem_append.1 hx with hx|hx
  ·exact h.ok x hx
  ·rw [List.mem_singleton.1 hx];exact ziL (h.dec.sub hs)
 ·rw [List.length_append,List.length_singleton] at hi;rcases Nat.lt_or_ge i S.length with h1|h1
  ·rw [List.take_append_of_le_length a6,zdN h1];exact h.fol i h1
  ·(obtain rfl:i=S.length:=by omega);rw [List.take_left,zdi rfl];exact hc.sort
 ·rw [List.nodup_append];refine ⟨h.nd,by simp,fun a ha b hb e=>?_⟩;rw [List.mem_singleton.1 hb] at e;refine h.out a ha fun c hc=>?_;rw [e] at hc;exact hs.subset ((mB g).mem_iff.1 hc)
theorem zm8 {i:Nat}(hn:D.Nodup)(hi:i<D.length):cH D i∉D.take i:=fun hm=>by
 obtain ⟨j,hj,e⟩:=List.mem_iff_getElem.1 hm;rw [List.length_take] at hj;rw [List.getElem_take,d4 hi] at e;have:=(List.getElem_inj hn).1 e;omega
theorem DecP.nodup (h:DecP p D):D.Nodup:=(List.pairwise_map.1 h.nd).imp fun {a b} hab e=>hab (by rw [e])
theorem InvS.cut (hok:eF p=true)(h:InvS p S D){g:List GChoice}(hs:g.Sublist D)(hc:Conf p S g)(h0:g.length≠0)(h4:S.length≠4096):InvS p (S++[ip g]) (D.take (jF D g)):=by
 obtain ⟨h1,h2,h3⟩:=h.learn hok hs hc;have hl:=h.dec.len;obtain ⟨k1,k2,_,_⟩:=zlX hs h0 a6;refine ⟨h1,h.dec.sub (List.take_sublist _ _),fun x hx=>?_,h2,h3,by have:=h.le;rw [List.length_append,List.length_singleton];omega⟩;rcases List.mem_append.1 hx with hx|hx
 ·exact fun hall=>h.out x hx fun c hc=>List.mem_of_mem_take (hall c hc)
 ·rw [List.mem_singleton.1 hx];exact fun hall=>zm8 h.dec.nodup k1 (hall _ ((mB g).mem_iff.2 k2))
theorem InvS.decide (hok:eF p=true)(h:InvS p S D)(hr:(dI p S D).2=true){x:GDomain}(hx:x∈(dI p S D).1)(hl:1<x.Channels.length){c:GChoice}(e:c.Station=x.Station)(hc:c.Channel∈x.Channels):InvS p S (D++[c]):=by
 rcases zfD hok h.ok h.dec with ⟨_,q2,q3,q4,_⟩|⟨q1,_⟩
 ·refine ⟨h.ok,zmu hok h.dec q3 q4 hx hl e hc,fun g hg hall=>?_,h.fol,h.nd,h.le⟩;have h1:=q2.calm g hg x hx _ hc
  have h2:c∈g:=Classical.byContradiction fun hn=>h.out g hg fun y hy=>by
   rcases List.mem_append.1 (hall y hy) with h3|h3
   ·exact h3
   ·rw [List.mem_singleton.1 h3] at hy;exact absurd hy hn
  have h3:gn (dI p S D).1 g x.Station c.Channel=true:=by
   unfold gn;rw [Bool.and_eq_true,List.any_eq_true,List.all_eq_true];refine ⟨⟨c,h2,by rw [e];simp⟩,fun y hy=>?_⟩;rcases List.mem_append.1 (hall y hy) with h3|h3
   ·rw [zci q4 (zmd (p:=p) (zjt h.dec h3) h3),Bool.or_true]
   ·rw [List.mem_singleton.1 h3,e];simp
  rw [h3] at h1;cases h1
 ·rw [q1] at hr;cases hr
noncomputable def iD (p:GProblem) (hints:List GChoice) (b:Int) (S:List (List GChoice)) (D:List GChoice) (n:Int):GResult ⊕ (List (List GChoice)×List GChoice×Int):=
 bif (dI p S D).2 then
  (bif ((zbj (dI p S D).1 hints).getD (⟨0,0⟩,false)).2 then
   (bif decide (n=b) then .inl ⟨0,[],[],n⟩ else .inr (S,D++[((zbj (dI p S D).1 hints).getD (⟨0,0⟩,false)).1],n+1))
  else .inl ⟨1,fe (dI p S D).1,[],n⟩)
 else
  bif decide (S.length=4096) then .inl ⟨0,[],[],n⟩ else
  bif (di p S D.length D).isEmpty then .inl ⟨2,[],S++[ip (di p S D.length D)],n⟩ else
  .inr (S++[ip (di p S D.length D)],D.take (jF D (di p S D.length D)),n)
noncomputable def gJ (p:GProblem) (hints:List GChoice) (b:Int):Nat→List (List GChoice)→List GChoice→Int→Option GResult
 |0,_,_,_=>none
 |k+1,S,D,n=>match iD p hints b S D n with
  | .inl r=>some r
  | .inr s=>gJ p hints b k s.1 s.2.1 s.2.2
end
section
variable {p:GProblem}{f:Int→Int}{d:List GDomain}
theorem zjG {i:Nat}(hi:i<d.length):cH (fF d f) i=⟨(cH d i).Station,[f (cH d i).Station]⟩:=gr hi
theorem zjv:(fF d f).length=d.length:=List.length_map _
theorem FineP.sub {l:List GChoice}(h:FineP p l):SubD (fF p.Domains (eU l)) p.Domains:=by
 refine ⟨zjv,fun i hi=>?_⟩;rw [zjG hi];refine ⟨rfl,fun c hc=>?_⟩;simp at hc;rw [hc];exact (h.dom _ (eh hi)).1
theorem zkm {m:List GDomain×Bool}{d:List GDomain}(hG:GG p)(hd:SubD d p.Domains)(hm:PropD p d m)(h2:m.2=true)(hl:(gp m).length=p.Domains.length):FineP p (gp m):=by
 rcases hm with ⟨_,hc,hs,_⟩|⟨h1,_⟩
 ·have hsub:=hs.1.trans hd; (have e1:gp m=fe m.1:=by unfold gp;rw [h2];rfl)
  have hall:∀x∈m.1,x.Channels.length=1:=by
   rw [e1] at hl;unfold fe at hl;rw [List.length_map,←hsub.1] at hl;have:=List.length_filter_eq_length_iff.1 hl;intro x hx;simpa using this x hx
  have e2:gp m=m.1.map fun x=>⟨x.Station,cH x.Channels 0⟩:=by
   rw [e1];unfold fe;rw [List.filter_eq_self.2 (fun x hx=>by simpa using hall x hx)]
  have hlen:(gp m).length=p.Domains.length:=hl
  have hn:∀i,i<p.Domains.length→cH (gp m) i=⟨(cH p.Domains i).Station,cH (cH m.1 i).Channels 0⟩:=fun i hi=>by
   (have hi':i<m.1.length:=by rw [hsub.1];exact hi);rw [e2,gr hi',(hsub.2 i hi).1]
  have hch:∀i,i<p.Domains.length→(cH m.1 i).Channels=[cH (cH m.1 i).Channels 0]:=fun i hi=>by
   obtain ⟨c,hc⟩:=List.length_eq_one_iff.1 (hall _ (eh (show i<m.1.length by rw [hsub.1];exact hi)));rw [hc];rfl
  have hin:∀i,i<p.Domains.length→cH (cH m.1 i).Channels 0∈(cH p.Domains i).Channels:=fun i hi=>(hsub.2 i hi).2 _ (by rw [hch i hi];simp [cH])
  have hval:ValidL (gp m):=by
   refine ⟨fun c hc=>?_,fun i j hij hj=>?_⟩
   ·obtain ⟨i,hi,rfl⟩:=fW hc;rw [hlen] at hi;rw [hn i hi];have h3:=hG.st _ (eh hi);have h4:=(hG.chs _ (eh hi)).2 _ (hin i hi);exact ⟨h3.1,h3.2,h4.1,h4.2⟩
   ·rw [hlen] at hj;rw [hn i a6,hn j hj];exact hG.inc i j hij hj
  have hon:∀i,i<p.Domains.length→eU (gp m) (cH p.Domains i).Station=cH (cH m.1 i).Channels 0:=fun i hi=>by
   have:=zhB hval (eh (show i<(gp m).length by rw [hlen];exact hi));rw [hn i hi] at this;exact this
  have es:m.1=fF p.Domains (eU (gp m)):=by
   refine zdG (by rw [zjv,hsub.1]) fun i hi=>?_; (have hi':i<p.Domains.length:=by rw [←hsub.1];exact hi);rw [zjG hi',hon i hi',←hch i hi',←(hsub.2 i hi').1]
  have hr:∀x∈p.Domains,2≤eU (gp m) x.Station∧eU (gp m) x.Station≤51:=fun x hx=>by
   obtain ⟨i,hi,rfl⟩:=fW hx;rw [hon i hi];exact (hG.chs _ (eh hi)).2 _ (hin i hi)
  rw [es] at hc;have hb:=(zgr hG (fun x hx=>by have:=hr x hx;omega)).1 hc;refine ⟨hval,fun x hx=>?_,fun c hc=>?_,hb.1,hb.2⟩
  ·have:=hr x hx;obtain ⟨i,hi,rfl⟩:=fW hx;refine ⟨by rw [hon i hi];exact hin i hi,by omega⟩
  ·obtain ⟨i,hi,rfl⟩:=fW hc;rw [hlen] at hi;rw [hn i hi];exact d7.2 ⟨_,eh hi,rfl⟩
 ·rw [h1] at h2;cases h2
end
section
variable {p:GProblem}{m:List GDomain×Bool}{d:List GDomain}
end
section
variable {p:GProblem}{S:List (List GChoice)}{D hints:List GChoice}{k:Nat}{b n:Int}{r:GResult}
theorem zgw {α:Type}:∀(l m:List α),l.Nodup→(∀x∈l,x∈m)→l.length≤m.length
 | [],_,_,_=>Nat.zero_le _
 |a :: l,m,hn,h=>by
  obtain ⟨s,t,rfl⟩:=List.append_of_mem (h a (List.mem_cons_self ..));have hn':=List.nodup_cons.1 hn
  have:=zgw l (s++t) hn'.2 fun x hx=>by
   rcases List.mem_append.1 (h x (List.mem_cons_of_mem _ hx)) with h1|h1
   ·exact List.mem_append.2 (.inl h1)
   ·rcases List.mem_cons.1 h1 with rfl|h1
    ·exact absurd hx hn'.1
    ·exact List.mem_append.2 (.inr h1)
  simp only [List.length_append,List.length_cons] at this ⊢;omega
theorem view (hok : eF p = true) (hv : ValidL hints) (h : InvS p S D) :
    ((dI p S D).2 = true ∧ (∀ x ∈ (dI p S D).1, x.Channels.length ≤ 1) ∧ za0 (dI p S D).1 hints = some (⟨0, 0⟩, 9) ∧ zbj (dI p S D).1 hints = some (⟨0, 0⟩, false) ∧ ∀ b k n, gJ p hints b (k + 1) S D n = some ⟨1, fe (dI p S D).1, [], n⟩) ∨
    ((dI p S D).2 = true ∧ ∃ c, InvS p S (D ++ [c]) ∧ (∃ x ∈ (dI p S D).1, c.Station = x.Station ∧ c.Channel ∈ x.Channels ∧ 1 < x.Channels.length ∧ ∀ h ∈ hints, h.Station = x.Station → h.Channel ∈ x.Channels → c = h) ∧ za0 (dI p S D).1 hints = some (c, 0) ∧ zbj (dI p S D).1 hints = some (c, true) ∧ ∀ b k n, gJ p hints b (k + 1) S D n = bif decide (n = b) then some ⟨0, [], [], n⟩ else gJ p hints b k S (D ++ [c]) (n + 1)) ∨
    ((dI p S D).2 = false ∧ S.length = 4096 ∧ ∀ b k n, gJ p hints b (k + 1) S D n = some ⟨0, [], [], n⟩) ∨
    ((dI p S D).2 = false ∧ S.length ≠ 4096 ∧ di p S D.length D = [] ∧ Conf p S [] ∧ ∀ b k n, gJ p hints b (k + 1) S D n = some ⟨2, [], S ++ [[]], n⟩) ∨
    ((dI p S D).2 = false ∧ S.length ≠ 4096 ∧ ∃ g, g = di p S D.length D ∧ g.length ≠ 0 ∧ g.Sublist D ∧ Conf p S g ∧ InvS p (S ++ [ip g]) (D.take (jF D g)) ∧ (D.take (jF D g)).length < D.length ∧ ∀ b k n, gJ p hints b (k + 1) S D n = gJ p hints b k (S ++ [ip g]) (D.take (jF D g)) n) := by
  have hq := zfD hok h.ok h.dec
  cases hr : (dI p S D).2 with
  | true =>
    have hd : SubP p (dI p S D).1 := by
      rcases hq with ⟨_, _, q3, _⟩ | ⟨q1, _⟩
      · exact q3
      · rw [q1] at hr; cases hr
    have hb := ziV (zhk hok hd) hv; rcases hb with ⟨c, e1, e2, x, hx, e3, e4, e5, e6⟩ | ⟨e1, e2, e3⟩
    · refine .inr (.inl ⟨rfl, c, h.decide hok hr hx e5 e3 e4, ⟨x, hx, e3, e4, e5, e6⟩, e2, e1, fun b k n => ?_⟩); rw [gJ, iD, hr, cond_true, e1, Option.getD_some, cond_true]
      cases decide (n = b) <;> rfl
    · refine .inl ⟨rfl, e3, e2, e1, fun b k n => ?_⟩; rw [gJ, iD, hr, cond_true, e1]; rfl
  | false =>
    have hc : Conf p S D := hq.conf.1 hr; have hg := zde hok h.ok D.length D h.dec hc; have hs := zcW (p := p) (S := S) D.length D; by_cases h4 : S.length = 4096
    · refine .inr (.inr (.inl ⟨rfl, h4, fun b k n => ?_⟩)); rw [gJ, iD, hr, cond_false, decide_eq_true h4, cond_true]
    · by_cases h0 : di p S D.length D = []
      · refine .inr (.inr (.inr (.inl ⟨rfl, h4, h0, by rw [h0] at hg; exact hg, fun b k n => ?_⟩))); rw [gJ, iD, hr, cond_false, decide_eq_false h4, cond_false, h0]; rfl
      · have hl : (di p S D.length D).length ≠ 0 := fun e => h0 (List.eq_nil_of_length_eq_zero e); have hi := (zlX hs hl (by have := h.dec.len; omega)).1; refine .inr (.inr (.inr (.inr ⟨rfl, h4, _, rfl, hl, hs, hg, h.cut hok hs hg hl h4, ?_, fun b k n => ?_⟩)))
        · rw [List.length_take]; omega
        · have h5 : (di p S D.length D).isEmpty = false := by
            cases he : di p S D.length D with
            | nil => exact absurd he h0
            | cons a t => rfl
          rw [gJ, iD, hr, cond_false, decide_eq_false h4, cond_false, h5, cond_false]
theorem zgd (hok:eF p=true)(hv:ValidL hints):∀(k:Nat) (S:List (List GChoice)) (D:List GChoice) (n:Int),InvS p S D→n≤b→2* (b - n).toNat+D.length<k→∃r,gJ p hints b k S D n=some r
 |0,S,D,n,_,_,hk=>absurd hk (Nat.not_lt_zero _)
 |k+1,S,D,n,h,hn,hk=>by
  rcases view hok hv h with ⟨_,_,_,_,e⟩|⟨_,c,h1,_,_,_,e⟩|⟨_,_,e⟩|⟨_,_,_,_,e⟩|⟨_,_,g,_,_,_,_,h1,h2,e⟩
  ·exact ⟨_,e _ _ _⟩
  ·rw [e];by_cases hb:n=b
   ·rw [decide_eq_true hb];exact ⟨_,rfl⟩
   ·rw [decide_eq_false hb];exact zgd hok hv k S _ _ h1 a6 b6
  ·exact ⟨_,e _ _ _⟩
  ·exact ⟨_,e _ _ _⟩
  ·rw [e];exact zgd hok hv k _ _ _ h1 hn a6
theorem zkP (hok:eF p=true)(h:InvS p S D)(hr:(dI p S D).2=true)(h1:∀x∈(dI p S D).1,x.Channels.length≤1):FineP p (fe (dI p S D).1):=by
 rcases zfD hok h.ok h.dec with ⟨_,q2,q3,_,_⟩|⟨q1,_⟩
 ·have e:fe (dI p S D).1=gp ((dI p S D).1,true):=rfl;rw [e];refine zkm (zey hok) (d:=(dI p S D).1) q3.sub (.inl ⟨rfl,q2.cl,⟨.refl _,fun _ _=>List.Sublist.refl _⟩,fun _ _ h=>h⟩) rfl ?_;rw [←e];unfold fe;rw [List.length_map,List.filter_eq_self.2 (fun x hx=>?_),q3.len];have h2:=h1 x hx;have h3:=q2.cl.ne x hx;have:x.Channels.length≠0:=fun h0=>h3 (List.eq_nil_of_length_eq_zero h0);exact decide_eq_true a6
 ·rw [q1] at hr;cases hr
theorem zmD (hG:GG p)(h:FineP p hints):hints=p.Domains.map fun x=>⟨x.Station,eU hints x.Station⟩:=by
 have h1:=zmc hG h; (have hlen:hints.length=p.Domains.length:=by have:=congrArg List.length h1;simpa using this);refine zdG (by rw [List.length_map];exact hlen) fun i hi=>?_; (have hi':i<p.Domains.length:=by omega);rw [gr hi']
 have e1:(cH hints i).Station=(cH p.Domains i).Station:=by
  have:=congrArg (fun l=>cH l i) h1; (try dsimp only at this)
  rwa [gr hi,gr hi'] at this
 rw [←e1,zhB h.val (eh hi)]
end
section
variable {p:GProblem}{S:List (List GChoice)}{D hints:List GChoice}{k:Nat}{b n:Int}{r:GResult}
theorem zmq (hok:eF p=true)(h:InvS p S D)(hc:Conf p S [])(l:List GChoice):¬FineP p l:=fun hF=>by
 have hG:=zey hok
 have key:∀i,i≤S.length→∀g∈S.take i,¬ ∀c∈g,c∈l:=by
  intro i
  induction i with
  |zero=>intro _ g hg;simp at hg
  |succ i ih=>
   intro hi g hg hall;rw [l6 a6] at hg;rcases List.mem_append.1 hg with hg|hg
   ·exact ih a6 g hg hall
   ·obtain rfl:=List.mem_singleton.1 hg;exact h.fol i a6 _ (zgj hG hF (fun x hx=>h.ok x (List.mem_of_mem_take hx)) (ih a6) (zfC hG hF)) (zn5 hF hall (zh3 hF))
 exact hc _ (zgj hG hF h.ok (fun g hg=>key S.length (Nat.le_refl _) g (by rw [List.take_length];exact hg)) (zfC hG hF)) (zh3 hF)
def iU:List GDomain→List (List GChoice)
 | []=>[[]]
 |d :: ds=>iU ds++d.Channels.flatMap fun c=>(iU ds).map fun g=>⟨d.Station,c⟩ :: g
theorem zjS:∀ds:List GDomain,(∀d∈ds,d.Channels.length≤4)→(iU ds).length≤5 ^ ds.length
 | [],_=>Nat.le_refl _
 |d :: ds,h=>by
  have ih:=zjS ds fun x hx=>h x (List.mem_cons_of_mem _ hx)
  have h1:∀cs:List Int,(cs.flatMap fun c=>(iU ds).map fun g=>(⟨d.Station,c⟩:GChoice) :: g).length=cs.length* (iU ds).length:=by
   intro cs
   induction cs with
   |nil=>simp
   |cons c cs ih=>rw [List.flatMap_cons,List.length_append,ih,List.length_map,List.length_cons,Nat.add_mul];omega
  rw [iU,List.length_append,h1,List.length_cons,Nat.pow_succ];have h2:d.Channels.length* (iU ds).length≤4* (iU ds).length:=Nat.mul_le_mul_right _ (h d (List.mem_cons_self ..));omega
theorem zfO:∀(ds:List GDomain) (g:List GChoice),ds.Pairwise (fun x y=>x.Station<y.Station)→g.Pairwise (fun x y=>x.Station<y.Station)→(∀c∈g,∃x∈ds,x.Station=c.Station∧c.Channel∈x.Channels)→g∈iU ds
 | [],[],_,_,_=>by simp [iU]
 | [],c :: g,_,_,h=>by obtain ⟨x,hx,_⟩:=h c (List.mem_cons_self ..);cases hx
 |d :: ds,[],h1,h2,h3=>by
  rw [iU];exact List.mem_append.2 (.inl (zfO ds [] (List.pairwise_cons.1 h1).2 h2 fun c hc=>by cases hc))
 |d :: ds,c :: g,h1,h2,h3=>by
  have h1':=List.pairwise_cons.1 h1;have h2':=List.pairwise_cons.1 h2;rw [iU];by_cases e:c.Station=d.Station
  ·refine List.mem_append.2 (.inr (List.mem_flatMap.2 ⟨c.Channel,?_,List.mem_map.2 ⟨g,?_,by rw [←e]⟩⟩))
   ·obtain ⟨x,hx,e2,h4⟩:=h3 c (List.mem_cons_self ..);rcases List.mem_cons.1 hx with rfl|hx
    ·exact h4
    ·have:=h1'.1 x hx;omega
   ·refine zfO ds g h1'.2 h2'.2 fun a ha=>?_;obtain ⟨x,hx,e2,h4⟩:=h3 a (List.mem_cons_of_mem _ ha);rcases List.mem_cons.1 hx with rfl|hx
    ·have:=h2'.1 a ha;omega
    ·exact ⟨x,hx,e2,h4⟩
  ·refine List.mem_append.2 (.inl (zfO ds (c :: g) h1'.2 h2 fun a ha=>?_));obtain ⟨x,hx,e2,h4⟩:=h3 a ha;rcases List.mem_cons.1 hx with rfl|hx
   ·exfalso;obtain ⟨y,hy,e3,_⟩:=h3 c (List.mem_cons_self ..);rcases List.mem_cons.1 hy with rfl|hy
    ·exact e e3.symm
    ·have h5:=h1'.1 y hy;rcases List.mem_cons.1 ha with rfl|ha
     ·omega
     ·have:=h2'.1 a ha;omega
   ·exact ⟨x,hx,e2,h4⟩
theorem zlT {α:Type}[Inhabited α]{l:List α}{f:α→Int}(h:∀i j,i<j→j<l.length→f (cH l i)<f (cH l j)):l.Pairwise fun x y=>f x<f y:=by
 rw [List.pairwise_iff_getElem];intro i j hi hj hij;have:=h i j hij hj
 rwa [d4 hi,d4 hj] at this
theorem zji (hok:eF p=true)(h:InvS p S D)(h4:p.Domains.length≤4)(hc:∀d∈p.Domains,d.Channels.length≤4):S.length≤625:=by
 have hG:=zey hok
 have h1:∀g∈S,g∈iU p.Domains:=fun g hg=>by
  obtain ⟨hv,hh⟩:=ff.1 (h.ok g hg);exact zfO _ _ (zlT hG.inc) (zlT hv.inc) fun c hc=>ik.1 (hh c hc)
 have h2:=zgw _ _ h.nd h1;have h3:=zjS p.Domains hc;have h5:5 ^ p.Domains.length≤5 ^ 4:=Nat.pow_le_pow_right a6 h4;omega
theorem zkV (hok:eF p=true)(h:DecP p D):D.length≤p.Domains.length:=by
 have h2:∀s∈D.map GChoice.Station,s∈p.Domains.map GDomain.Station:=fun s hs=>by
  obtain ⟨c,hc,rfl⟩:=List.mem_map.1 hs;obtain ⟨y,hy,e⟩:=d7.1 (h.st c hc);exact List.mem_map.2 ⟨y,hy,e⟩
 have h3:=zgw _ _ h.nd h2;simpa only [List.length_map] using h3
theorem zd9 (hok:eF p=true)(hv:ValidL hints)(h4:p.Domains.length≤4)(hc:∀d∈p.Domains,d.Channels.length≤4)(hb:2504≤b):∀(k:Nat) (S:List (List GChoice)) (D:List GChoice) (n:Int),InvS p S D→n≤b→n≤4* (S.length:Int)+D.length→gJ p hints b k S D n=some r→(r.Kind=1∧∃l,FineP p l)∨(r.Kind=2∧∀l,¬FineP p l)
 |0,S,D,n,_,_,_,hr=>by cases hr
 |k+1,S,D,n,h,hn,hl,hr=>by
  have hS:=zji hok h h4 hc;have hD:=zkV hok h.dec;rcases view hok hv h with ⟨h1,h2,_,_,e⟩|⟨h0,c,h1,⟨x,hx,h2,_,h3,_⟩,_,_,e⟩|⟨_,h1,e⟩|⟨_,_,_,h1,e⟩|⟨_,_,g,_,_,_,_,h1,h2,e⟩
  ·rw [e] at hr;obtain rfl:=Option.some.inj hr;exact .inl ⟨rfl,_,zkP hok h h1 h2⟩
  ·rw [e] at hr
   have hlt:D.length<p.Domains.length:=by
    have:=zkV hok h1.dec;rw [List.length_append,List.length_singleton] at this;omega
   rw [decide_eq_false a6] at hr;exact zd9 hok hv h4 hc hb k S _ _ h1 a6 b6 hr
  ·omega
  ·rw [e] at hr;obtain rfl:=Option.some.inj hr;exact .inr ⟨rfl,zmq hok h h1⟩
  ·rw [e] at hr;exact zd9 hok hv h4 hc hb k _ _ _ h1 hn b6 hr
end
section
variable {p:GProblem}{S:List (List GChoice)}{D hints:List GChoice}{b n:Int}{r:GResult}{fuel:Nat}
theorem zju (hok:eF p=true)(hv:ValidL hints)(h:InvS p S D){s:List (List GChoice)×List GChoice×Int}(e:iD p hints b S D n= .inr s):InvS p s.1 s.2.1∧n≤s.2.2∧s.2.2≤n+1:=by
 have hq:=zfD hok h.ok h.dec;unfold iD at e
 cases hr:(dI p S D).2 with
 |true=>
  rw [hr,cond_true] at e
  have hd:SubP p (dI p S D).1:=by
   rcases hq with ⟨_,_,q3,_⟩|⟨q1,_⟩
   ·exact q3
   ·rw [q1] at hr;cases hr
  rcases ziV (zhk hok hd) hv with ⟨c,e1,e2,x,hx,e3,e4,e5,e6⟩|⟨e1,e2,e3⟩
  ·rw [e1,Option.getD_some,cond_true] at e
   cases hb:decide (n=b) with
   |true=>rw [hb] at e;cases e
   |false=>
    rw [hb,cond_false] at e;obtain rfl:=Sum.inr.inj e;exact ⟨h.decide hok hr hx e5 e3 e4,by dsimp only;omega,Int.le_refl _⟩
  ·rw [e1,Option.getD_some] at e;cases e
 |false=>
  rw [hr,cond_false] at e;by_cases h4:S.length=4096
  ·rw [decide_eq_true h4] at e;cases e
  ·rw [decide_eq_false h4,cond_false] at e
   cases h5:(di p S D.length D).isEmpty with
   |true=>rw [h5] at e;cases e
   |false=>
    rw [h5,cond_false] at e;obtain rfl:=Sum.inr.inj e; (have hl:(di p S D.length D).length≠0:=fun e0=>by rw [List.eq_nil_of_length_eq_zero e0] at h5;cases h5);exact ⟨h.cut hok (zcW _ _) (zde hok h.ok _ _ h.dec (hq.conf.1 hr)) hl h4,Int.le_refl _,by dsimp only;omega⟩
def zmQ (o:List (List GChoice)×(List GChoice×Int×List GChoice×List GDomain×Bool×Int×List GChoice×List (List GChoice)×Int)):GResult:=⟨o.2.2.2.2.2.2.1,o.2.2.2.2.2.2.2.1,o.2.2.2.2.2.2.2.2.1,o.2.2.2.2.2.2.2.2.2⟩
abbrev StP:=Int×List (List GChoice)×List GChoice×Int×List GChoice×List GDomain×Bool×Int×List GChoice×List (List GChoice)×Int
abbrev OuP:=List (List GChoice)×(List GChoice×Int×List GChoice×List GDomain×Bool×Int×List GChoice×List (List GChoice)×Int)
theorem zeK (hok : eF p = true) (hv : ValidL hints) {f : (StP → Option OuP) → StP → Option OuP}
    (h1 : ∀ next S D dm cf n, InvS p S D → 0 ≤ n → n < 1000000 → (dI p S D).2 = true → f next (0, S, hints, b, D, dm, cf, 0, [], [], n) = next (2, S, hints, b, D, (dI p S D).1, false, 0, [], [], n))
    (h2 : ∀ next S D n, InvS p S D → 0 ≤ n → n < 1000000 → (dI p S D).2 = true → match iD p hints b S D n with
      | .inl r => ∃ o, zmQ o = r ∧ f next (2, S, hints, b, D, (dI p S D).1, false, 0, [], [], n) = some o
      | .inr s => f next (2, S, hints, b, D, (dI p S D).1, false, 0, [], [], n) = next (0, s.1, hints, b, s.2.1, (dI p S D).1, false, 0, [], [], s.2.2))
    (h3 : ∀ next S D dm cf n, InvS p S D → 0 ≤ n → n < 1000000 → (dI p S D).2 = false → match iD p hints b S D n with
      | .inl r => ∃ o, zmQ o = r ∧ f next (0, S, hints, b, D, dm, cf, 0, [], [], n) = some o
      | .inr s => ∃ dm' cf', f next (0, S, hints, b, D, dm, cf, 0, [], [], n) = next (0, s.1, hints, b, s.2.1, dm', cf', 0, [], [], s.2.2)) :
    ∀ (k : Nat) (S : List (List GChoice)) (D : List GChoice) (dm : List GDomain) (cf : Bool) (n : Int) (M : Nat), InvS p S D → 0 ≤ n → n + (k : Int) < 1000000 → 2 * k ≤ M → gJ p hints b k S D n = some r → ∃ o, zmQ o = r ∧ iP f M (0, S, hints, b, D, dm, cf, 0, [], [], n) = some o
  | 0, S, D, dm, cf, n, M, h, h0, hn, hM, hr => by cases hr
  | k + 1, S, D, dm, cf, n, M, h, h0, hn, hM, hr => by
    obtain ⟨M', rfl⟩ : ∃ M', M = M' + 1 + 1 := ⟨M - 2, by omega⟩; rw [gJ] at hr; have hw : ∀ (m : Nat) (s : StP), iP f (m + 1) s = f (iP f m) s := fun _ _ => rfl
    cases hc : (dI p S D).2 with
    | true =>
      rw [hw, h1 _ _ _ _ _ _ h h0 a6 hc, hw]; have h4 := h2 (iP f M') S D n h h0 a6 hc
      cases hx : iD p hints b S D n with
      | inl q =>
        rw [hx] at hr h4; obtain rfl := Option.some.inj hr; exact h4
      | inr s =>
        rw [hx] at hr h4; obtain ⟨g1, g2, g3⟩ := zju hok hv h hx; dsimp only at h4; rw [h4]; exact zeK hok hv h1 h2 h3 k _ _ _ _ _ M' g1 a6 a6 a6 hr
    | false =>
      rw [hw]; have h4 := h3 (iP f (M' + 1)) S D dm cf n h h0 a6 hc
      cases hx : iD p hints b S D n with
      | inl q =>
        rw [hx] at hr h4; obtain rfl := Option.some.inj hr; exact h4
      | inr s =>
        rw [hx] at hr h4; obtain ⟨g1, g2, g3⟩ := zju hok hv h hx; obtain ⟨dm', cf', h4⟩ := h4; rw [h4]; exact zeK hok hv h1 h2 h3 k _ _ _ _ _ (M' + 1) g1 a6 a6 a6 hr
theorem zmv {t:GStore}(h:StN p t){g:List GChoice}(hl:t.list.length=4096)(hg:iy p g=true):∃c:Int,c≠0∧zaq t g=some (c,t.list):=by
 unfold zaq zai;rw [cond_false,zg7 h.tb,Option.bind_some,hg,Bool.not_true,cond_false,decide_eq_true a6,cond_true];exact ⟨_,by decide,rfl⟩
theorem znx {g:List GChoice}(h:iy p g=true):g.length≤512:=by
 obtain ⟨hv,hh⟩:=ff.1 h;refine DecP.len (p:=p) ⟨hv.good,hh,?_⟩;rw [List.Nodup,List.pairwise_map]; (exact (zlT hv.inc).imp fun {a b} hab e=>by rw [e] at hab;exact Int.lt_irrefl _ hab)
theorem zl6 {t:GStore}{x:Gsearch}{T:List (List GChoice)}(h1:zaV fuel x.decisions t=some [])(h2:zaq t []=some (0,T))(h3:∀x∈T,x.length≤512)(h4:x.result.Learned.length+T.length≤10000):zay fuel t x=some (true,T,(x.decisions,2,x.result.Learned++T)):=by
 have e:lV []=some []:=zfX b2 b2;unfold zay;rw [h1,Option.bind_some,e,Option.bind_some,h2,Option.bind_some];simp only [decide_eq_false (show ¬ ¬(0:Int)=0 by omega),cond_false,dO];have hl:decide ((([]:List GChoice).length:Int)=0)=true:=rfl;rw [hl,cond_true,fo (fun y hy=>by have:=h3 y hy;unfold dQ;omega)];refine km (fun i (s:List GChoice×Int×List (List GChoice))=>s=(x.decisions,2,x.result.Learned++T.take i)) (fun o=>o=_) b2 (fun s hs=>?_) (fun i s next hi hs hnx=>?_)
 ·rw [hs,Nat.sub_zero,List.take_length]
 ·rw [Nat.sub_zero] at hi;subst hs;dsimp only;rw [fo (by unfold dQ;rw [List.length_append,List.length_append,List.length_singleton,List.length_take];omega)];exact hnx _ (by rw [l6 hi,List.append_assoc])
theorem znZ (hf:100000≤fuel)(hok:eF p=true)(hv:ValidL hints)(hb:0≤b∧b≤100000){k:Nat}(hk:2*k≤fuel)(hk2:k<1000000)(hr:gJ p hints b k [] [] 0=some r):zbT fuel p hints b=some (r,0):=by
 have hp:kR hints=true:=by
  rw [zfv];exact eG.2 hv
 obtain ⟨t,g1,g2,g3⟩:=new_x (fuel:=fuel) hf hok;have hst:∀ {S D},InvS p S D→StN p ⟨t.domains,(t.start.1,t.start.2),S⟩:=fun h=>⟨g2.pr,g2.st,g2.tb,h.ok⟩;unfold zbT;rw [hok,hp,decide_eq_false a6,decide_eq_false a6];simp only [Bool.not_true,Bool.or_self,cond_false,g1,Option.bind_some,Option.isSome_some,cond_true,Option.getD_some,decide_eq_false (show ¬ ¬(0:Int)=0 by omega)]
 have key:∃o,zmQ o=r∧zaJ fuel t (Gsearch.mk () hints b [] [] false (GResult.mk 0 [] [] 0))=some o:=by
  unfold zaJ;simp only [g3];refine zeK (p:=p) (hints:=hints) (b:=b) hok hv (fun next S D dm cf n h h0 hn hc=>?_) (fun next S D n h h0 hn hc=>?_) (fun next S D dm cf n h h0 hn hc=>?_) k [] [] [] false 0 fuel InvS.nil (Int.le_refl _) a6 hk hr
  ·obtain ⟨r1,r2⟩:=zif (t:=⟨t.domains,(t.start.1,t.start.2),S⟩) hf hok (hst h) h.dec;dsimp only at r2 ⊢;simp only [dO,decide_true,cond_true];rw [r1,Option.bind_some,r2,Option.bind_some];simp only [hc,Bool.not_true,Bool.not_false,cond_true]
  ·have hq:=zfD hok h.ok h.dec;have hd:=h.dec.len
   have hsub:SubP p (dI p S D).1:=by
    rcases hq with ⟨_,_,q3,_⟩|⟨q1,_⟩
    ·exact q3
    ·rw [q1] at hc;cases hc
   have hcl:∀x∈(dI p S D).1,x.Channels≠[]:=by
    rcases hq with ⟨_,q2,_⟩|⟨q1,_⟩
    ·exact q2.cl.ne
    ·rw [q1] at hc;cases hc
   have hl:=hsub.len;have hn512:=(zey hok).n;unfold iD;rw [hc,cond_true];have hu:∀(X Y Z:Option OuP),(bif decide ((2:Int)=0) then X else bif decide ((2:Int)=1) then Y else bif decide ((2:Int)=2) then Z else X)=Z:=fun _ _ _=>rfl;simp only [dO,decide_eq_false (show ¬(2:Int)=0 by decide),decide_eq_false (show ¬(2:Int)=1 by decide),decide_true,cond_false,cond_true];unfold zaQ;dsimp only;rcases ziV (zhk hok hsub) hv with ⟨c,e1,e2,x,hx,e3,e4,e5,e6⟩|⟨e1,e2,e3⟩
   ·rw [e1,e2];simp only [Option.bind_some,Option.getD_some,cond_true,decide_eq_false (show ¬ ¬(0:Int)=0 by omega),cond_false]
    cases hnb:decide (n=b) with
    |true=>exact ⟨_,rfl,rfl⟩
    |false=>
     simp only [cond_false];rw [fo (by unfold dQ;rw [List.length_append,List.length_singleton];omega),zgE a6];rfl
   ·rw [e1,e2];simp only [Option.bind_some,Option.getD_some,cond_false,decide_eq_true (show ¬(9:Int)=0 by omega),cond_true,dO];refine ⟨(S,(hints,b,D,(dI p S D).1,false,1,fe (dI p S D).1,[],n)),rfl,?_⟩;generalize hdm:(dI p S D).1=d at*
    have hfx:fe d=d.map fun x=>⟨x.Station,cH x.Channels 0⟩:=by
     unfold fe
     rw [List.filter_eq_self.2 (fun x hx=>decide_eq_true (by
      have h1:=e3 x hx;have h2:x.Channels.length≠0:=fun h0=>hcl x hx (List.eq_nil_of_length_eq_zero h0)
      omega))]
    refine km (fun i (s:List GChoice×Int×List GChoice×List GDomain×Bool×Int×List GChoice×List (List GChoice)×Int)=>s=(hints,b,D,d,false,1,(d.take i).map (fun x=>(⟨x.Station,cH x.Channels 0⟩:GChoice)),[],n)) (fun o=>Option.bind o _=_) rfl (fun s hs=>?_) (fun i s next hi hs hnx=>?_)
    ·rw [hs,Nat.sub_zero,List.take_length,hfx];rfl
    ·rw [Nat.sub_zero] at hi;have h2:(cH d i).Channels.length≠0:=fun h0=>hcl _ (eh hi) (List.eq_nil_of_length_eq_zero h0); (have hlen:(d.take i).length≤512:=by rw [List.length_take];omega);subst hs;dsimp only;rw [fo ⟨by omega,by omega⟩,fo (by unfold dQ;rw [List.length_append,List.length_singleton,List.length_map];omega)];exact hnx _ (by rw [l6 hi,List.map_append];rfl)
  ·obtain ⟨r1,r2⟩:=zif (t:=⟨t.domains,(t.start.1,t.start.2),S⟩) hf hok (hst h) h.dec;obtain ⟨a1,_⟩:=zk6 (t:=⟨t.domains,(t.start.1,t.start.2),S⟩) hf hok (hst h) h.dec;have hs:=zcW (p:=p) (S:=S) D.length D;have hdr:=h.dec.sub hs;have hd:=h.dec.len;have hle:=h.le;have hrl:=hdr.len;have hkn:=ziL hdr;have hsl:(ip (di p S D.length D)).length=(di p S D.length D).length:=(mB _).length_eq;dsimp only at r2 a1
   have hrun:∀ {X:List GDomain×Bool×Int→Option OuP} {Y:List GChoice→Option OuP},((lV D).bind fun r21=>(zam fuel ⟨t.domains,(t.start.1,t.start.2),S⟩ r21).bind X)=X ((dI p S D).1,!(dI p S D).2,0):=fun {X Y}=>by
    rw [r1,Option.bind_some,r2,Option.bind_some]
   simp only [dO,decide_true,cond_true];rw [hrun (Y:=fun _=>none)];simp only [hc,Bool.not_true,Bool.not_false,cond_false];unfold iD;by_cases h5:S.length≠4096∧di p S D.length D=[]
   ·obtain ⟨h4,h5⟩:=h5
    have hall:∀x∈S++[[]],x.length≤512:=fun x hx=>by
     rcases List.mem_append.1 hx with hx|hx
     ·exact znx (h.ok x hx)
     ·rw [List.mem_singleton.1 hx];simp
    have hadd:zaq ⟨t.domains,(t.start.1,t.start.2),S⟩ []=some (0,S++[[]]):=by
     rw [zoF (t:=⟨t.domains,(t.start.1,t.start.2),S⟩) (hst h) b3 b2,h5] at*
     rfl
    rw [zl6 (by rw [a1,h5]) hadd hall (by rw [List.length_append,List.length_singleton];show 0+_≤_;omega),hc,cond_false,decide_eq_false h4,cond_false,h5];exact ⟨_,rfl,rfl⟩
   unfold zay;dsimp only;rw [hc,cond_false,a1,Option.bind_some,zfX hdr.nd a6,Option.bind_some];by_cases h4:S.length=4096
   ·obtain ⟨c,c0,c1⟩:=zmv (t:=⟨t.domains,(t.start.1,t.start.2),S⟩) (hst h) h4 hkn;rw [c1,decide_eq_true h4];simp only [Option.bind_some,decide_eq_true c0,cond_true];exact ⟨_,rfl,rfl⟩
   ·rw [zoF (t:=⟨t.domains,(t.start.1,t.start.2),S⟩) (hst h) b3 a6,hkn,decide_eq_false h4];simp only [Option.bind_some,cond_true,cond_false,decide_eq_false (show ¬ ¬(0:Int)=0 by omega)];by_cases h6:di p S D.length D=[]
    ·exact absurd ⟨h4,h6⟩ h5
    ·have hl:(di p S D.length D).length≠0:=fun e=>h6 (List.eq_nil_of_length_eq_zero e)
     have h7:(di p S D.length D).isEmpty=false:=by
      cases he:di p S D.length D with
      |nil=>exact absurd he h6
      |cons a t=>rfl
     obtain ⟨k1,_,k3,_⟩:=zlX hs hl a6;rw [decide_eq_false (show ¬((di p S D.length D).length:Int)=0 by omega),h7,cond_false,cond_false,k3,fo ⟨by omega,by omega⟩,fo ⟨by omega,by omega⟩];exact ⟨_,_,rfl⟩
 obtain ⟨o,h1,h2⟩:=key;rw [h2,←h1];rfl
end
theorem zmr {fuel : Nat} (hf : 100000 ≤ fuel) {p : GProblem} {hints : List GChoice} {K : Bool → Option Bool} {r a1 a2 a3 a4 a5 : Bool} (h1 : K true = some true) (h2 : eF p = true → ValidL hints → a1 = false → a2 = false → a3 = false → a4 = false → a5 = false → K false = some true) :
    dO K (fun k2 => bif !r then k2 true else bif a1 then k2 true else bif a2 then k2 true else bif a3 then k2 true else bif a4 then k2 true else bif a5 then k2 true else (zb2 p).bind fun r36 => bif !r36 then k2 true else k2 (!(mR hints))) = some true := by
  unfold dO;dsimp only; rw [zod, Option.bind_some]
  cases r
  · exact h1
  cases a1 <;> cases a2 <;> cases a3 <;> cases a4 <;> cases a5 <;> try exact h1
  cases h3 : eF p with
  | false => exact h1
  | true =>
    cases h4 : mR hints with
    | false => exact h1
    | true => exact h2 h3 (eG.1 (by rw [← zfx]; exact h4)) rfl rfl rfl rfl rfl
def zca (rec9_x:GProblem→(List GChoice)→Option Bool)(p:GProblem)(l:List GChoice):Option Bool:=
 (bif decide ((l.length:Int)=(p.Domains.length:Int)) then
  some (zcm p l)
  else
  ex (0≤(l.length:Int)∧(l.length:Int)<(p.Domains.length:Int)) <|
  dO (fun (_:Unit)=>
   some false)
  (fun k2=>
   dh (fun (i_4:Nat) (next3:Unit→Option Bool) (_:Unit)=>
    ex (dQ ([]++l).length 16) <|
    ex (dQ (([]++l)++[(GChoice.mk ((cH p.Domains l.length).Station) (cH ((cH p.Domains l.length).Channels) i_4))]).length 16) <|
    (rec9_x p (([]++l)++[(GChoice.mk ((cH p.Domains l.length).Station) (cH ((cH p.Domains l.length).Channels) i_4))])).bind fun r42=>
    (bif r42 then
     some true
     else
     next3 ()))
   (fun (_:Unit)=>
    k2 ()) ((((cH p.Domains l.length).Channels).length) - 0) 0 ()))
theorem zgH (rec9_x:GProblem→(List GChoice)→Option Bool)(rec9_c:∀(F0:Frz) (w:World) (hF0:F0.At w) (p:GProblem) (vp_0:Value) (cp_0:List (List Value)) (hp_0:SlD cJ F0 vp_0 2 cp_0 p.Domains) (vp_1:Value) (hp_1:SlC F0 vp_1 5 (p.Rules.Pairs.map da)) (vp_2:Value) (hp_2:SlC F0 vp_2 5 (p.Rules.Loads.map de)) (vp_3:Value) (hp_3:SlC F0 vp_3 4 (p.Rules.Caps.map dk)) (l:List GChoice) (vl:Value) (hl:SlC F0 vl 2 (l.map cG)) (r:Bool) (hr:rec9_x p l=some r),Calls Tryz.prog 22 #[.agg [vp_0,vp_1,vp_2,vp_3].toArray,vl] w fun e w'=>e= .returned (.bool r)∧Below w.heap.size w w')(F0:Frz)(w:World)(hF0:F0.At w)(p:GProblem)(vp_0:Value)(cp_0:List (List Value))(hp_0:SlD cJ F0 vp_0 2 cp_0 p.Domains)(vp_1:Value)(hp_1:SlC F0 vp_1 5 (p.Rules.Pairs.map da))(vp_2:Value)(hp_2:SlC F0 vp_2 5 (p.Rules.Loads.map de))(vp_3:Value)(hp_3:SlC F0 vp_3 4 (p.Rules.Caps.map dk))(l:List GChoice)(vl:Value)(hl:SlC F0 vl 2 (l.map cG))(r:Bool)(hr:zca rec9_x p l=some r):Calls Tryz.prog 22 #[.agg [vp_0,vp_1,vp_2,vp_3].toArray,vl] w fun e w'=>e= .returned (.bool r)∧Below w.heap.size w w':=by
 have hk:=hr;unfold zca at hk;haveI:=hp_0.1.oneC;haveI:=hp_1.oneC;haveI:=hp_2.oneC;haveI:=hp_3.oneC;haveI:=hl.oneC;obtain ⟨S0,F1,rfl,hS0,hp0⟩:=fX hF0;refine dB Tryz.func22 rfl rfl rfl hp0 ?_;refine jI ?_;rintro _ _ ⟨g2,rfl,rfl⟩;refine jD ?_;refine dc ?_;refine q2c ?_;have hm8:l.length≤9223372036854775807:=(List.length_map _)▸hl.max;refine em ?_;refine q2l ?_;have hm11:p.Domains.length≤9223372036854775807:=hp_0.2.1▸hp_0.1.max;refine dR ?_;refine T.cond rfl (fun h1=>?_) (fun h1=>?_)
 ·have p1:=of_decide_eq_true h1;replace hk:=dH hk h1;refine dd ?_;refine jd ?_;refine dc ?_;refine df (cL rfl rfl rfl (fun w hw=>zh8 _ w (hw.fr (i:=1) rfl) p vp_0 cp_0 hp_0 vp_1 hp_1 vp_2 hp_2 vp_3 hp_3 l vl hl)) ?_;refine eB ?_;refine dc ?_;refine ky ?_;obtain rfl:=Option.some.inj hk;exact eX
 ·have p1:=of_decide_eq_false h1;replace hk:=dL hk h1;refine ks ?_;have hq:(0≤(l.length:Int)∧(l.length:Int)<(p.Domains.length:Int))∧_:=gZ hk;clear hk;obtain ⟨g20,hk⟩:=hq; (try dsimp only at hk);refine fN ?_;refine em ?_;refine dc ?_;refine q2c ?_;refine cK (dj (i:=l.length) rfl rfl rfl hp_0.1 hp_0.2.1 rfl a6) ?_;refine cK (jk 1 (i:=l.length) (j:=0) rfl rfl rfl hp_0.1 hp_0.2.1 a6 rfl (ey (hp_0.2.2 l.length a6)) rfl) ?_;have hd21_1:=(GDomain.c1 (hp_0.2.2 l.length a6)).2;haveI:=hd21_1.oneC;refine iJ ?_;rintro _ _ ⟨g5,rfl,rfl⟩;refine jX ?_;refine ij ?_;refine dR ?_;have hq:=fq hk;clear hk;obtain ⟨k2,hk2,hk⟩:=hq; (try dsimp only at hk);refine dg (ι:=FzB w (fun _=>False) S0) (fun z=>[]) (fun z=>[.fr z]) (fun z=>k2 ()=some r∧F1.toFrz.Le z.toFrz) ?_ ?_
  ·have hq:=gF hk;clear hk;obtain ⟨f3,kk3,hf3,hkk3,hk⟩:=hq;refine fV ?_;refine T.loop (ι:=Nat×FzB w (fun _=>False) S0) (fun z=>[(1,vl),(2, .pointer (some ⟨g2,0,none⟩)),(5, .pointer (some ⟨g5,0,none⟩)),(6, .int .i64 (z.1:Int))]) (fun z=>[.row g5 59 [.int .i64 ((cH p.Domains l.length).Station),(cH (cH cp_0 l.length) 1)], .row g2 31 [vp_0,vp_1,vp_2,vp_3], .fr z.2]) (fun z=>dh f3 kk3 ((((cH p.Domains l.length).Channels).length) - z.1) z.1 ()=some r∧F1.toFrz.Le z.2.toFrz) (fun z=>(((cH p.Domains l.length).Channels).length) - z.1) (0,F1) ?_ ?_ ?_ ?_
   ·exact ⟨hk,(Frz.Le.refl _)⟩
   ·exact mc
   ·exact fQ
   ·rintro ⟨i_4,F3⟩ ⟨hk,le1_3⟩; (try dsimp only at *);refine iX ?_;refine i7 ?_;refine cK (dn rfl rfl (SlC.mono hd21_1 le1_3) (List.length_map _)) ?_;have hm25:((cH p.Domains l.length).Channels).length≤9223372036854775807:=(List.length_map _)▸(SlC.mono hd21_1 le1_3).max;refine dR ?_;refine T.cond rfl (fun h5=>?_) (fun h5=>?_)
    ·have p5:=of_decide_eq_true h5;rw [gH a6] at hk;generalize hn3:dh f3 kk3 ((((cH p.Domains l.length).Channels).length) - (i_4+1)) (i_4+1)=next3 at hk;rw [←hf3] at hk; (try dsimp only at hk);refine lA ?_;have hq:(dQ ([]++l).length 16)∧_:=gZ hk;clear hk;obtain ⟨g31,hk⟩:=hq;have hq:(dQ (([]++l)++[(GChoice.mk ((cH p.Domains l.length).Station) (cH ((cH p.Domains l.length).Channels) i_4))]).length 16)∧_:=gZ hk;clear hk;obtain ⟨g41,hk⟩:=hq;have hq:=fD hk;clear hk;obtain ⟨r42,hr42,hk⟩:=hq; (try dsimp only at hk);refine dg (ι:=FzB w (fun _=>False) S0) (fun z=>[(1,vl),(2, .pointer (some ⟨g2,0,none⟩)),(5, .pointer (some ⟨g5,0,none⟩)),(6, .int .i64 (i_4:Int)),(42, .bool r42)]) (fun z=>[.row g5 59 [.int .i64 ((cH p.Domains l.length).Station),(cH (cH cp_0 l.length) 1)], .row g2 31 [vp_0,vp_1,vp_2,vp_3], .fr z]) (fun z=>F3.toFrz.Le z.toFrz) ?_ ?_
     ·refine dF (.still 0 (.still 1 (.still 3 (.still 4 (.still 5 (.still 6 (.still 7 (.still 8 (.still 9 (.still 10 (.two 2 11 (.eff 11 (.eff 12 (.eff 13 .done))) (.eff 2 (.eff 12 (.eff 13 .done)))))))))))))) _ a8 (List.Sublist.refl _) ?_;refine cN rfl (fx 1) ?_;refine eR ?_;refine eW ?_;refine eW ?_;refine eR ?_;refine cN rfl (dj (i:=i_4) rfl rfl rfl (SlC.mono hd21_1 le1_3) (List.length_map _) rfl a6) ?_;refine cN rfl (ek 2 (i:=i_4) (j:=0) rfl rfl rfl (SlC.mono hd21_1 le1_3) a6) ?_;refine cN rfl (Yv.build) ?_;refine TS.two ?_ ?_
      ·refine TSo.slNil 34 2 ?_;refine cQ rfl (Wt.none) rfl rfl (lG 0 3 (zhE (fun _=>inferInstance)) rfl rfl rfl rfl rfl (SlC.mono hl le1_3) (zjy (xs:=([]:List GChoice))) (zhS (xs:=([]:List GChoice))) g31 a7) ?_;rintro v31 _ ⟨hv31,rfl⟩;refine lZ ?_;refine mt ?_;rintro _ _ ⟨g40,rfl,rfl⟩;refine lZ ?_;refine cQ rfl (Wt.none) rfl rfl (kB 1 0 rfl rfl rfl rfl rfl rfl (zc7 (ys:=[(GChoice.mk ((cH p.Domains l.length).Station) (cH ((cH p.Domains l.length).Channels) i_4))]) rfl) (zeh (enc:=cG) (xs:=([]++l)) (ys:=[(GChoice.mk ((cH p.Domains l.length).Station) (cH ((cH p.Domains l.length).Channels) i_4))])) g41 a7) ?_;rintro v41 _ ⟨hv41,rfl⟩;refine ⟨(fun w hw=>hw.sub Sx),?_⟩;refine i5 (fun w hw=>hw.freezeS (i:=4) (j:=1) a7 rfl rfl) ?_;rintro F5 ⟨le3_5,hz5⟩;refine iI ?_;have le1_5:=le1_3.trans le3_5;have hf5:=hz5.toF rfl GChoice.len;haveI:=hf5.oneC;refine dx ?_;refine cQ rfl (Wt.none) rfl rfl (cL rfl rfl rfl (fun w hw=>rec9_c _ w (hw.fr (i:=3) rfl) p vp_0 cp_0 (SlD.mono (rep:=cJ) (fun _ _ _ _=>GDomain.mono) hp_0 le1_5) vp_1 (SlC.mono hp_1 le1_5) vp_2 (SlC.mono hp_2 le1_5) vp_3 (SlC.mono hp_3 le1_5) (([]++l)++[(GChoice.mk ((cH p.Domains l.length).Station) (cH ((cH p.Domains l.length).Channels) i_4))]) v41 hf5 r42 hr42)) ?_;refine eB ?_;refine ⟨(fun w hw=>(hw.frLe (i:=3) rfl le3_5).sub Sx),?_⟩;refine fv ?_;refine q2S ?_;exact cP F5 le3_5 (.c (.c (.c (.c (.c .nil))))) (List.Sublist.refl _)
      ·refine mt ?_;rintro _ _ ⟨g40,rfl,rfl⟩;refine lZ ?_;refine TSo.slNil 34 2 ?_;refine cQ rfl (Wt.none) rfl rfl (lG 0 4 (zhE (fun _=>inferInstance)) rfl rfl rfl rfl rfl (SlC.mono hl le1_3) (zjy (xs:=([]:List GChoice))) (zhS (xs:=([]:List GChoice))) g31 a7) ?_;rintro v31 _ ⟨hv31,rfl⟩;refine lZ ?_;refine cQ rfl (Wt.none) rfl rfl (kB 0 1 rfl rfl rfl rfl rfl rfl (zc7 (ys:=[(GChoice.mk ((cH p.Domains l.length).Station) (cH ((cH p.Domains l.length).Channels) i_4))]) rfl) (zeh (enc:=cG) (xs:=([]++l)) (ys:=[(GChoice.mk ((cH p.Domains l.length).Station) (cH ((cH p.Domains l.length).Channels) i_4))])) g41 a7) ?_;rintro v41 _ ⟨hv41,rfl⟩;refine ⟨(fun w hw=>hw.sub Sx),?_⟩;refine i5 (fun w hw=>hw.freezeS (i:=4) (j:=0) a7 rfl rfl) ?_;rintro F6 ⟨le3_6,hz6⟩;refine iI ?_;have le1_6:=le1_3.trans le3_6;have hf6:=hz6.toF rfl GChoice.len;haveI:=hf6.oneC;refine dx ?_;refine cQ rfl (Wt.none) rfl rfl (cL rfl rfl rfl (fun w hw=>rec9_c _ w (hw.fr (i:=3) rfl) p vp_0 cp_0 (SlD.mono (rep:=cJ) (fun _ _ _ _=>GDomain.mono) hp_0 le1_6) vp_1 (SlC.mono hp_1 le1_6) vp_2 (SlC.mono hp_2 le1_6) vp_3 (SlC.mono hp_3 le1_6) (([]++l)++[(GChoice.mk ((cH p.Domains l.length).Station) (cH ((cH p.Domains l.length).Channels) i_4))]) v41 hf6 r42 hr42)) ?_;refine eB ?_;refine ⟨(fun w hw=>(hw.frLe (i:=3) rfl le3_6).sub Sx),?_⟩;refine fv ?_;refine q2S ?_;exact cP F6 le3_6 (.c (.c (.c (.c (.c .nil))))) (List.Sublist.refl _)
     ·rintro F4 le3_4; (try dsimp only at *);have le1_4:=le1_3.trans le3_4;refine T.cond rfl (fun h6=>?_) (fun h6=>?_)
      ·replace hk:=dH hk h6;refine jc ?_;obtain rfl:=Option.some.inj hk;exact eX
      ·replace hk:=dL hk h6;refine iS ?_;rw [←hn3] at hk;exact K.next ((i_4+1),F4) ⟨hk,le1_4⟩ b3 (.c (.c (.c (.c .nil)))) (List.Sublist.refl _)
    ·have p5:=of_decide_eq_false h5;rw [gK a6,←hkk3] at hk; (try dsimp only at hk);refine fu ?_;refine K.pick [2] rfl a7 ?_;exact cP F3 ⟨hk,le1_3⟩ .nil (List.Sublist.refl _)
  ·rintro F2 ⟨hk,le1_2⟩;rw [←hk2] at hk; (try dsimp only at hk);refine ld ?_;obtain rfl:=Option.some.inj hk;exact eX
def zbL:Nat→GProblem→(List GChoice)→Option Bool
 |0,_,_=>none
 |m+1,x0,x1=>zca (zbL m) x0 x1
theorem zht (F0:Frz)(w:World)(hF0:F0.At w)(p:GProblem)(vp_0:Value)(cp_0:List (List Value))(hp_0:SlD cJ F0 vp_0 2 cp_0 p.Domains)(vp_1:Value)(hp_1:SlC F0 vp_1 5 (p.Rules.Pairs.map da))(vp_2:Value)(hp_2:SlC F0 vp_2 5 (p.Rules.Loads.map de))(vp_3:Value)(hp_3:SlC F0 vp_3 4 (p.Rules.Caps.map dk))(l:List GChoice)(vl:Value)(hl:SlC F0 vl 2 (l.map cG))(fuel:Nat)(r:Bool)(hr:zbL fuel p l=some r):Calls Tryz.prog 22 #[.agg [vp_0,vp_1,vp_2,vp_3].toArray,vl] w fun e w'=>e= .returned (.bool r)∧Below w.heap.size w w':=by
 induction fuel generalizing F0 w hF0 p vp_0 cp_0 hp_0 vp_1 hp_1 vp_2 hp_2 vp_3 hp_3 l vl hl r with
 |zero=>cases hr
 |succ m ih=>exact zgH (zbL m) (fun F0 w hF0 p vp_0 cp_0 hp_0 vp_1 hp_1 vp_2 hp_2 vp_3 hp_3 l vl hl r hr=>ih F0 w hF0 p vp_0 cp_0 hp_0 vp_1 hp_1 vp_2 hp_2 vp_3 hp_3 l vl hl r hr) F0 w hF0 p vp_0 cp_0 hp_0 vp_1 hp_1 vp_2 hp_2 vp_3 hp_3 l vl hl r hr
def zbt (fuel:Nat)(p:GProblem)(hints:List GChoice)(budget:Int):Option Bool:=
 (zcq fuel p 4 40).bind fun r12=>
 dO (fun (x_1:Bool)=>
  (bif x_1 then
   (zbw fuel).bind fun r37=>
   some r37
   else
   dO (fun (_:Unit)=>
    (zbT fuel p hints budget).bind fun r58=>
    (zbL fuel p []).bind fun r62=>
    dO (fun (want_14:Int)=>
     dO (fun (x_17:Bool)=>
      some x_17)
     (fun k18=>
      (bif decide (r58.2=0) then
       (bif decide (r58.1.Kind=want_14) then
        (zbw fuel).bind fun r72=>
        k18 r72
        else
        k18 false)
       else
       k18 false)))
    (fun k15=>
     (bif r62 then
      k15 1
      else
      k15 2)))
   (fun k9=>
    dh (fun (i_11:Nat) (next10:Unit→Option Bool) (_:Unit)=>
     (bif decide (4<(((cH p.Domains i_11).Channels).length:Int)) then
      (zbw fuel).bind fun r53=>
      some r53
      else
      next10 ()))
    (fun (_:Unit)=>
     k9 ()) (p.Domains.length - 0) 0 ())))
 (fun k2=>
  (bif !r12 then
   k2 true
   else
   (bif decide (20<(hints.length:Int)) then
    k2 true
    else
    (bif decide (budget<2504) then
     k2 true
     else
     (bif decide (100000<budget) then
      k2 true
      else
      (zb2 p).bind fun r29=>
      (bif !r29 then
       k2 true
       else
       k2 (!(mR hints))))))))
theorem zd3 (F0:Frz)(w:World)(hF0:F0.At w)(p:GProblem)(vp_0:Value)(cp_0:List (List Value))(hp_0:SlD cJ F0 vp_0 2 cp_0 p.Domains)(vp_1:Value)(hp_1:SlC F0 vp_1 5 (p.Rules.Pairs.map da))(vp_2:Value)(hp_2:SlC F0 vp_2 5 (p.Rules.Loads.map de))(vp_3:Value)(hp_3:SlC F0 vp_3 4 (p.Rules.Caps.map dk))(hints:List GChoice)(vhints:Value)(hhints:SlC F0 vhints 2 (hints.map cG))(budget:Int)(htab:Tab w)(fuel:Nat)(hfu:100000≤fuel)(r:Bool)(hr:zbt fuel p hints budget=some r):Calls Tryz.prog 7 #[.agg [vp_0,vp_1,vp_2,vp_3].toArray,vhints, .int .i64 budget] w fun e w'=>e= .returned (.bool r)∧Below w.heap.size w w':=by
 have hk:=hr;unfold zbt at hk;haveI:=hp_0.1.oneC;haveI:=hp_1.oneC;haveI:=hp_2.oneC;haveI:=hp_3.oneC;haveI:=hhints.oneC;obtain ⟨S0,F1,rfl,hS0,hp0⟩:=fX hF0;have hM0:¬(fun _:Nat=>False) 0:=fun h=>h;have htk:∀ {hs:HS} {w':World},Hp w (fun _=>False) hs w'→Tab w':=fun hw=>htab.keptF hw;refine dB Tryz.func7 rfl rfl rfl hp0 ?_;refine jI ?_;rintro _ _ ⟨g3,rfl,rfl⟩;refine q2q ?_;have hq:=fD hk;clear hk;obtain ⟨r12,hr12,hk⟩:=hq; (try dsimp only at hk);have hq:=fq hk;clear hk;obtain ⟨k2,hk2,hk⟩:=hq; (try dsimp only at hk);refine dg (ι:=Bool) (fun z=>[(1,vhints),(2, .int .i64 budget),(3, .pointer (some ⟨g3,0,none⟩)),(36, .bool z)]) (fun z=>[.row g3 31 [vp_0,vp_1,vp_2,vp_3], .fr F1]) (fun z=>k2 z=some r) ?_ ?_
 ·refine fN ?_;refine jd ?_;refine df (cL rfl rfl rfl (fun w hw=>zhz _ w (hw.fr (i:=1) rfl) p vp_0 cp_0 hp_0 vp_1 hp_1 vp_2 hp_2 vp_3 hp_3 4 40 fuel r12 hr12)) ?_;refine eB ?_;refine ec ?_;refine du rfl rfl rfl (fun h3=>?_) (fun h3=>?_)
  ·replace hk:=dH hk h3;refine TL.run 22 rfl ?_;refine fO ?_;exact q4i
  ·replace hk:=dL hk h3;refine dc ?_;refine cK (dn rfl rfl hhints (List.length_map _)) ?_;have hm16:hints.length≤9223372036854775807:=(List.length_map _)▸hhints.max;refine fb ?_;refine du rfl rfl rfl (fun h4=>?_) (fun h4=>?_)
   ·have p4:=of_decide_eq_true h4;replace hk:=dH hk h4;refine TL.run 17 rfl ?_;refine fO ?_;exact q4i
   ·have p4:=of_decide_eq_false h4;replace hk:=dL hk h4;refine TL.run 4 rfl ?_;refine du rfl rfl rfl (fun h5=>?_) (fun h5=>?_)
    ·have p5:=of_decide_eq_true h5;replace hk:=dH hk h5;refine TL.run 13 rfl ?_;refine fO ?_;exact q4i
    ·have p5:=of_decide_eq_false h5;replace hk:=dL hk h5;refine TL.run 4 rfl ?_;refine du rfl rfl rfl (fun h6=>?_) (fun h6=>?_)
     ·have p6:=of_decide_eq_true h6;replace hk:=dH hk h6;refine TL.run 9 rfl ?_;refine fO ?_;exact q4i
     ·have p6:=of_decide_eq_false h6;replace hk:=dL hk h6;refine jd ?_;have hq:=fD hk;clear hk;obtain ⟨r29,hr29,hk⟩:=hq;refine df (cL rfl rfl rfl (fun w hw=>zhh _ w (hw.fr (i:=1) rfl) p vp_0 cp_0 hp_0 vp_1 hp_1 vp_2 hp_2 vp_3 hp_3 r29 hr29)) ?_;refine eB ?_;refine fb ?_;refine du rfl rfl rfl (fun h7=>?_) (fun h7=>?_)
      ·replace hk:=dH hk h7;refine mv ?_;exact q4i
      ·replace hk:=dL hk h7;refine dc ?_;refine df (cL rfl rfl rfl (fun w hw=>zdo _ w (hw.fr (i:=1) rfl) hints vhints hhints)) ?_;refine eB ?_;refine lH ?_;exact cP (!(mR hints)) hk (.c (.c (.c (.c .nil)))) (List.Sublist.refl _)
 ·rintro x_1 hk;rw [←hk2] at hk; (try dsimp only at hk);refine T.cond rfl (fun h8=>?_) (fun h8=>?_)
  ·replace hk:=dH hk h8;refine T.seq ?_;have hq:=fD hk;clear hk;obtain ⟨r37,hr37,hk⟩:=hq; (try dsimp only at hk);refine fN ?_;refine df (cL rfl rfl rfl (fun w hw=>zdH _ w (hw.fr (i:=1) rfl) (htab.keptF hw) fuel hfu r37 hr37)) ?_;refine eB ?_;refine dc ?_;refine ky ?_;obtain rfl:=Option.some.inj hk;exact eX
  ·replace hk:=dL hk h8;refine kh ?_;refine dR ?_;have hq:=fq hk;clear hk;obtain ⟨k9,hk9,hk⟩:=hq; (try dsimp only at hk);refine dg (ι:=Unit) (fun z=>[(1,vhints),(2, .int .i64 budget),(3, .pointer (some ⟨g3,0,none⟩))]) (fun z=>[.row g3 31 [vp_0,vp_1,vp_2,vp_3], .fr F1]) (fun z=>k9 ()=some r) ?_ ?_
   ·have hq:=gF hk;clear hk;obtain ⟨f10,kk10,hf10,hkk10,hk⟩:=hq;refine fV ?_;refine T.loop (ι:=Nat) (fun z=>[(1,vhints),(2, .int .i64 budget),(3, .pointer (some ⟨g3,0,none⟩)),(7, .int .i64 (z:Int))]) (fun z=>[.row g3 31 [vp_0,vp_1,vp_2,vp_3], .fr F1]) (fun z=>dh f10 kk10 (p.Domains.length - z) z ()=some r) (fun z=>p.Domains.length - z) 0 ?_ ?_ ?_ ?_
    ·exact hk
    ·exact mc
    ·exact fQ
    ·rintro i_11 hk;refine iX ?_;refine i7 ?_;refine q2l ?_;have hm41:p.Domains.length≤9223372036854775807:=hp_0.2.1▸hp_0.1.max;refine dR ?_;refine T.cond rfl (fun h12=>?_) (fun h12=>?_)
     ·have p12:=of_decide_eq_true h12;rw [gH a6] at hk;generalize hn10:dh f10 kk10 (p.Domains.length - (i_11+1)) (i_11+1)=next10 at hk;rw [←hf10] at hk; (try dsimp only at hk);refine q3y ?_;refine cK (dj (i:=i_11) rfl rfl rfl hp_0.1 hp_0.2.1 rfl a6) ?_;refine cK (fI rfl rfl hp_0.1 hp_0.2.1 a6) ?_;refine cK (d9 1 (i:=i_11) (j:=1) rfl rfl rfl hp_0.1 hp_0.2.1 a6 rfl (GDomain.c1 (hp_0.2.2 i_11 a6)).1) ?_;have hd50_1:=(GDomain.c1 (hp_0.2.2 i_11 a6)).2;haveI:=hd50_1.oneC;refine cK (dn rfl rfl hd50_1 (List.length_map _)) ?_;have hm51:((cH p.Domains i_11).Channels).length≤9223372036854775807:=(List.length_map _)▸hd50_1.max;refine dR ?_;refine T.cond rfl (fun h13=>?_) (fun h13=>?_)
      ·have p13:=of_decide_eq_true h13;replace hk:=dH hk h13;refine T.seq ?_;have hq:=fD hk;clear hk;obtain ⟨r53,hr53,hk⟩:=hq; (try dsimp only at hk);refine fN ?_;refine df (cL rfl rfl rfl (fun w hw=>zdH _ w (hw.fr (i:=1) rfl) (htab.keptF hw) fuel hfu r53 hr53)) ?_;refine eB ?_;refine dc ?_;refine mN ?_;obtain rfl:=Option.some.inj hk;exact eX
      ·have p13:=of_decide_eq_false h13;replace hk:=dL hk h13;refine iS ?_;rw [←hn10] at hk;exact K.next (i_11+1) hk a6 (.c (.c (.c (.c .nil)))) (List.Sublist.refl _)
     ·have p12:=of_decide_eq_false h12;rw [gK a6,←hkk10] at hk; (try dsimp only at hk);refine fu ?_;exact cP () hk (.c (.c (.c .nil))) (List.Sublist.refl _)
   ·rintro _ hk;rw [←hk9] at hk; (try dsimp only at hk);refine T.seq ?_;have hq:=fD hk;clear hk;obtain ⟨r58,hr58,hk⟩:=hq; (try dsimp only at hk);refine fN ?_;refine jd ?_;refine ec ?_;refine df (fw 1 rfl rfl rfl rfl (fun w hw hF=>zev _ w hF p vp_0 cp_0 hp_0 vp_1 hp_1 vp_2 hp_2 vp_3 hp_3 hints vhints hhints budget (htab.keptF hw) fuel hfu r58 hr58)) ?_;rintro _ _ ⟨⟨v58_0_1,v58_0_2,cs58_0_2⟩,F2,le1_2,⟨hf58_0_1,hf58_0_2⟩,rfl,rfl⟩;dsimp only at hf58_0_1 hf58_0_2 ⊢;haveI:=hf58_0_1.oneC;haveI:=hf58_0_2.1.oneC;refine fb ?_;refine iJ ?_;rintro _ _ ⟨g8,rfl,rfl⟩;refine jX ?_;refine gN ?_;refine q2q ?_;have hq:=fD hk;clear hk;obtain ⟨r62,hr62,hk⟩:=hq; (try dsimp only at hk);refine fN ?_;refine q2F ?_;refine df (cL rfl rfl rfl (fun w hw=>zht _ w (hw.fr (i:=2) rfl) p vp_0 cp_0 (SlD.mono (rep:=cJ) (fun _ _ _ _=>GDomain.mono) hp_0 le1_2) vp_1 (SlC.mono hp_1 le1_2) vp_2 (SlC.mono hp_2 le1_2) vp_3 (SlC.mono hp_3 le1_2) [] (.slice none 0 0) (SlC.nil _ 2) fuel r62 hr62)) ?_;refine eB ?_;refine cR ?_;have hq:=fq hk;clear hk;obtain ⟨k15,hk15,hk⟩:=hq; (try dsimp only at hk);refine dg (ι:=Int) (fun z=>[(8, .pointer (some ⟨g8,0,none⟩)),(9, .int .i64 r58.2),(10, .int .i64 z)]) (fun z=>[.row g8 46 [.int .i64 r58.1.Kind,v58_0_1,v58_0_2, .int .i64 r58.1.Steps], .fr F2]) (fun z=>k15 z=some r) ?_ ?_
    ·refine T.cond rfl (fun h16=>?_) (fun h16=>?_)
     ·replace hk:=dH hk h16;refine kd ?_;refine fO ?_;refine K.pick [0,2] rfl a7 ?_;exact cP 1 hk (.c (.c (.c .nil))) (List.Sublist.refl _)
     ·replace hk:=dL hk h16;refine T.skip ?_;refine K.pick [0,2] rfl a7 ?_;exact cP 2 hk (.c (.c (.c .nil))) (List.Sublist.refl _)
    ·rintro want_14 hk;rw [←hk15] at hk; (try dsimp only at hk);refine T.seq ?_; (try dsimp only at hk);have hq:=fq hk;clear hk;obtain ⟨k18,hk18,hk⟩:=hq; (try dsimp only at hk);refine dg (ι:=Bool) (fun z=>[(6, .bool z)]) (fun z=>[.fr F2]) (fun z=>k18 z=some r) ?_ ?_
     ·refine q3L ?_;refine du rfl rfl rfl (fun h19=>?_) (fun h19=>?_)
      ·have p19:=of_decide_eq_true h19;replace hk:=dH hk h19;refine em ?_;refine TL.run 4 rfl ?_;refine du rfl rfl rfl (fun h20=>?_) (fun h20=>?_)
       ·have p20:=of_decide_eq_true h20;replace hk:=dH hk h20;have hq:=fD hk;clear hk;obtain ⟨r72,hr72,hk⟩:=hq;refine df (cL rfl rfl rfl (fun w hw=>zdH _ w (hw.fr (i:=1) rfl) (htab.keptF hw) fuel hfu r72 hr72)) ?_;refine eB ?_;refine lH ?_;refine mY ?_;exact cP r72 hk (.c .nil) (List.Sublist.refl _)
       ·have p20:=of_decide_eq_false h20;replace hk:=dL hk h20;refine fb ?_;refine fO ?_;refine mY ?_;exact cP false hk (.c .nil) (List.Sublist.refl _)
      ·have p19:=of_decide_eq_false h19;replace hk:=dL hk h19;refine TL.run 9 rfl ?_;refine fO ?_;refine mY ?_;exact cP false hk (.c .nil) (List.Sublist.refl _)
     ·rintro x_17 hk;rw [←hk18] at hk; (try dsimp only at hk);refine T.ret ?_;obtain rfl:=Option.some.inj hk;exact eX
section
variable {p:GProblem}
theorem zjJ {a:List GChoice}(hG:GG p)(h:FineP p a):a.length=p.Domains.length:=by
 have:=congrArg List.length (zmc hG h);simpa using this
theorem zlH (hok:eF p=true):∀(m:Nat) (l:List GChoice),l.length≤p.Domains.length→p.Domains.length - l.length<m→∃b,zbL m p l=some b∧(b=true↔∃a,FineP p a∧a.take l.length=l)
 |0,l,_,h=>absurd h a6
 |m+1,l,hl,hm=>by
  have hG:=zey hok;have hn:=hG.n
  show ∃b,zca (zbL m) p l=some b∧_
  unfold zca;by_cases he:l.length=p.Domains.length
  ·rw [decide_eq_true a6,cond_true];refine ⟨_,rfl,?_⟩;rw [zoy];constructor
   ·intro h;exact ⟨l,h,List.take_length⟩
   ·rintro ⟨a,h1,h2⟩;rw [he,←zjJ hG h1,List.take_length] at h2
    rwa [←h2]
  ·rw [decide_eq_false a6,cond_false,fo a6];refine kj ?_; (have hlt:l.length<p.Domains.length:=by omega)
   have hex:∀i,∃b,zbL m p (l++[⟨(cH p.Domains l.length).Station,cH (cH p.Domains l.length).Channels i⟩])=some b∧(b=true↔∃a,FineP p a∧a.take (l.length+1)=l++[⟨(cH p.Domains l.length).Station,cH (cH p.Domains l.length).Channels i⟩]):=fun i=>by
    have:=zlH hok m (l++[⟨(cH p.Domains l.length).Station,cH (cH p.Domains l.length).Channels i⟩]) b6 b6
    rwa [show (l++[(⟨(cH p.Domains l.length).Station,cH (cH p.Domains l.length).Channels i⟩:GChoice)]).length=l.length+1 by rw [List.length_append,List.length_singleton]] at this
   refine km (σ:=Unit) (fun i _=>∀j,j<i→¬ ∃a,FineP p a∧a.take (l.length+1)=l++[⟨(cH p.Domains l.length).Station,cH (cH p.Domains l.length).Channels j⟩]) (fun o=>∃b,o=some b∧(b=true↔∃a,FineP p a∧a.take l.length=l)) (fun j hj=>absurd hj (Nat.not_lt_zero j)) (fun _ h=>⟨false,rfl,?_⟩) (fun i _ next hi h hnx=>?_)
   ·constructor
    ·intro h;cases h
    ·rintro ⟨a,h1,h2⟩;exfalso;have hal:=zjJ hG h1;have hdm:=(h1.dom _ (eh hlt)).1;obtain ⟨j,hj,ej⟩:=fW hdm;refine h j hj ⟨a,h1,?_⟩;rw [l6 a6,h2,ej]
     congr 2
     have e:cH a l.length=cH (p.Domains.map fun x=>(⟨x.Station,eU a x.Station⟩:GChoice)) l.length:=congrArg (fun l'=>cH l' l.length) (zmD hG h1)
     rwa [gr hlt] at e
   ·rw [fo (by unfold dQ;rw [List.nil_append];omega),fo (by unfold dQ;rw [List.nil_append,List.length_append,List.length_singleton];omega)];obtain ⟨b,e1,e2⟩:=hex i;rw [show ([]:List GChoice)++l=l from rfl,e1,Option.bind_some]
    cases b with
    |true=>
     refine ⟨true,rfl,fun _=>?_,fun _=>rfl⟩;obtain ⟨a,h1,h2⟩:=e2.1 rfl;refine ⟨a,h1,?_⟩;have:=congrArg (List.take l.length) h2
     rwa [List.take_take,Nat.min_eq_left a6,List.take_left] at this
    |false=>
     refine hnx () (fun j hj=>?_);rcases Nat.lt_or_ge j i with h3|h3
     ·exact h j h3
     ·(obtain rfl:j=i:=by omega); (exact fun hh=>by have:=e2.2 hh;cases this)
theorem zmB {fuel:Nat}(hf:100000≤fuel):∃r,zcq fuel p 4 40=some r∧(r=true→p.Domains.length≤4):=by
 unfold zcq;simp only [dO];refine zen (σ:=Int) (I:=fun i=>0≤i∧i≤600) (μ:=fun i=>(600 - i).toNat) (post:=fun o=>∃r,o=some r∧(r=true→p.Domains.length≤4)) ⟨by omega,by omega⟩ a6 ?_;intro i next hi hn
 have hend:∀b:Bool,((((decide ((p.Domains.length:Int)≤4))&&(decide ((p.Rules.Pairs.length:Int)≤40)))&&(decide ((p.Rules.Loads.length:Int)≤40)))&&(decide ((p.Rules.Caps.length:Int)≤40)))=b→b=true→p.Domains.length≤4:=by
  rintro b rfl h;simp only [Bool.and_eq_true,decide_eq_true_eq] at h;omega
 by_cases h1:i<(p.Domains.length:Int) <;> by_cases h2:i<600
 ·rw [decide_eq_true h1,decide_eq_true h2,Bool.and_true,cond_true,fo ⟨hi.1,h1⟩]
  cases decide (60<((cH p.Domains i.toNat).Channels.length:Int))
  ·exact hn _ ⟨by omega,by omega⟩ a6
  ·exact ⟨_,rfl,fun h=>by cases h⟩
 ·rw [decide_eq_false h2,Bool.and_false,cond_false];exact ⟨_,rfl,hend _ rfl⟩
 ·rw [decide_eq_false h1,Bool.false_and,cond_false];exact ⟨_,rfl,hend _ rfl⟩
 ·rw [decide_eq_false h1,Bool.false_and,cond_false];exact ⟨_,rfl,hend _ rfl⟩
theorem zgF {fuel:Nat}(hf:1000000≤fuel)(p:GProblem)(hints:List GChoice)(budget:Int):zbt fuel p hints budget=some true:=by
 have hk:=zlx (fuel:=fuel) a6;obtain ⟨r,hr,hr4⟩:=zmB (p:=p) (fuel:=fuel) a6;unfold zbt;rw [hr,Option.bind_some]
 cases hrr:r with
 |false=>simp only [dO,Bool.not_false,cond_true,hk,Option.bind_some]
 |true=>
  refine (zmr (r:=true) (a1:=decide (20<(hints.length:Int))) (a2:=decide (budget<2504)) (a3:=decide (100000<budget)) (a4:=false) (a5:=false) (by omega:100000≤fuel) (p:=p) (hints:=hints) ?_ ?_)
  ·show (zbw fuel).bind _=_
   rw [hk];rfl
  ·intro hok hv _ hb1 hb2 _ _;rw [decide_eq_false_iff_not] at hb1 hb2;have h4:=hr4 hrr;simp only [dO,cond_false,Nat.sub_zero];refine km (σ:=Unit) (fun i _=>∀j,j<i→(cH p.Domains j).Channels.length≤4) (fun o=>o=some true) (fun j hj=>absurd hj (Nat.not_lt_zero j)) (fun _ h=>?_) (fun i _ next hi h hnx=>?_)
   ·have hc:∀d∈p.Domains,d.Channels.length≤4:=fun d hd=>by
     obtain ⟨j,hj,rfl⟩:=fW hd;exact h j hj
    obtain ⟨k,hk9⟩:∃k,k=200001:=⟨_,rfl⟩;obtain ⟨s,hs⟩:=zgd (b:=budget) hok hv k [] [] 0 InvS.nil a6 (by show 2* (budget - 0).toNat+0<k;omega);obtain ⟨b,t1,t2⟩:=zlH hok fuel [] (Nat.zero_le _) (by show p.Domains.length - 0<fuel;omega)
    have hex:b=true↔∃a,FineP p a:=by
     rw [t2];exact ⟨fun ⟨a,h1,_⟩=>⟨a,h1⟩,fun ⟨a,h1⟩=>⟨a,h1,rfl⟩⟩
    rw [znZ a6 hok hv ⟨by omega,by omega⟩ (k:=k) a6 a6 hs,Option.bind_some,t1,Option.bind_some];rcases zd9 hok hv h4 hc a6 k [] [] 0 InvS.nil a6 b2 hs with ⟨k1,k2⟩|⟨k1,k2⟩
    ·obtain rfl:b=true:=hex.2 k2;rw [k1,hk];rfl
    ·have hb0:b=false:=by
      cases hb:b with
      |false=>rfl
      |true=>obtain ⟨a,ha⟩:=hex.1 hb;exact absurd ha (k2 a)
     rw [hb0,k1,hk];rfl
   ·by_cases h5:4<((cH p.Domains i).Channels.length:Int)
    ·rw [decide_eq_true h5,cond_true,hk];rfl
    ·rw [decide_eq_false h5,cond_false];refine hnx () (fun j hj=>?_);rcases Nat.lt_or_ge j i with h3|h3
     ·exact h j h3
     ·(obtain rfl:j=i:=by omega);omega
end
end Go.Proofs.YtgoeeefoinkepaaGreatDoor
namespace Go.Proofs.YtgoeeefoinkepaaGreatDoor
open Go.RowKit Go.ChangeShapes Go.WideShapes Go.Deep
def Opens {H:Type}(enc:TypeId×Value→H)(w:World)(base:Nat)(spare:Nat→Bool)(held:Bool)(t:TypeId){α:Type}(R:List Value→α→Prop):Prop:=
 ∀fuel cs y,DataW.trod enc Tryz.prog w base spare held fuel t cs=some y→∃x,R cs x
section
variable {H:Type}{enc:TypeId×Value→H}{w:World}{base:Nat}{spare:Nat→Bool}{held:Bool}
theorem Opens.int {t:TypeId}(ht:Tryz.prog.underlying t=some (.int .i64)):Opens enc w base spare held t (fun cs (x:Int)=>cs=[.int .i64 x]):=fun fuel cs y h=>by
 obtain ⟨k,hk,_⟩:=DataW.trod_int ht h;exact ⟨k,hk⟩
theorem znV {a:Addr}{v:Value}(h:w.cell? a=some v):Cb w a.block:=by
 unfold World.cell? at h
 split at h
 all_goals (first|exact ⟨_,_,_,by assumption⟩|simp at h|skip)
theorem Opens.any {t e : TypeId} {k : Nat} {α : Type} [Inhabited α] {R : List Value → α → Prop} (ht : Tryz.prog.underlying t = some (.slice e)) (hk : Tryz.prog.cellsOf e = k) (hpos : 0 < k) (ho : Opens enc w base spare held e R) :
    Opens enc w base spare held t (fun cs (l : List α) => ∃ v c, cs = [v] ∧ SlC (Frz.all w) v k c ∧ c.length = l.length ∧ ∀ i, i < l.length → R (cH c i) (cH l i)) := fun fuel cs y h => by
  rcases open_slice ht h with ⟨h0, _⟩ | ⟨a, len, cap, m, n, D, Pl, hcs, hb, hl, hm, hmm, _, hx⟩
  · exact ⟨[], _, [], h0, SlC.nil _ _, rfl, fun i hi => absurd hi (Nat.not_lt_zero i)⟩
  · subst hcs; (have hlm : len ≤ m := by rw [hmm]; split <;> omega)
    have each : ∀ i, i < m → ∃ x : List Value × α, x.1.length = k ∧ R x.1 x.2 ∧ ∀ j, j < k → w.cell? (a.add (i * k + j)) = x.1[j]? := fun i hi => by
      obtain ⟨cs', h1, h2⟩ := hx i hi; rw [hk] at h1; obtain ⟨_, hlen, hcell⟩ := World.cells?_some h1; obtain ⟨x, hR⟩ := ho _ _ _ h2; exact ⟨(cs', x), hlen, hR, fun j hj => by rw [← hcell j hj, add_add]⟩
    obtain ⟨X, hX⟩ := choose_lt each
    have hn : ∀ i, i < len → cH ((List.range len).map fun i => (X i).1) i = (X i).1 := fun i hi => by
      rw [d4 (by simpa using hi)]; simp
    have hn2 : ∀ i, i < len → cH ((List.range len).map fun i => (X i).2) i = (X i).2 := fun i hi => by
      rw [d4 (by simpa using hi)]; simp
    refine ⟨(List.range len).map fun i => (X i).2, _, (List.range len).map fun i => (X i).1, rfl, ⟨some a, cap, by simp, by simpa using hl, by unfold maxLen at hm; omega, fun c hc => ?_, fun hp => ?_⟩, by simp, fun i hi => ?_⟩
    · simp at hc; obtain ⟨i, hi, rfl⟩ := hc; exact (hX i a6).1
    · (have hp' : 0 < len := by simpa using hp); have c0 := (hX 0 a6).2.2 0 hpos; have hx0 := (hX 0 a6).1; rw [List.getElem?_eq_getElem a6] at c0; have hcb := znV c0; have hs := World.cell?_spot c0; simp [Addr.add] at hs hcb; obtain ⟨b, off, sp⟩ := a; simp at hs hcb; subst hs; refine ⟨b, off, rfl, hcb, fun i hi j hj => ?_⟩; simp at hi; rw [hn i hi] at hj ⊢; have hxi := hX i a6; have := hxi.2.2 j a6;refine Eq.trans ?_ this
      show w.cell? _ = _
      rw [l4, Nat.add_assoc]
    · simp at hi; rw [hn i hi, hn2 i hi]; exact (hX i a6).2.1
theorem gg {t e : TypeId} {k : Nat} {α : Type} [Inhabited α] {en : α → List Value} (ht : Tryz.prog.underlying t = some (.slice e)) (hk : Tryz.prog.cellsOf e = k) (hpos : 0 < k) (ho : Opens enc w base spare held e (fun cs (x : α) => cs = en x)) :
    Opens enc w base spare held t (fun cs (l : List α) => ∃ v, cs = [v] ∧ SlC (Frz.all w) v k (l.map en)) := fun fuel cs y h => by
  obtain ⟨l, v, c, h1, h2, h3, h4⟩ := Opens.any ht hk hpos ho _ _ _ h;refine ⟨l, v, h1, ?_⟩
  have : c = l.map en := by
    apply List.ext_getElem (by simpa using h3); intro i hi hi2; rw [← d4 hi, h4 i a6, List.getElem_map, d4 a6]
  rw [← this]; exact h2
theorem Opens.bytes {t e : TypeId} (ht : Tryz.prog.underlying t = some (.slice e)) (he : Tryz.prog.underlying e = some (.int .u8)) (hk : Tryz.prog.cellsOf e = 1) :
    Opens enc w base spare held t (fun cs (l : List Int) => ∃ v, cs = [v] ∧ SlC (Frz.all w) v 1 (l.map (eK .u8)) ∧ ∀ x ∈ l, 0 ≤ x ∧ x ≤ 255) := fun fuel cs y h => by
  have ho : Opens enc w base spare held e (fun cs (x : Int) => cs = eK .u8 x ∧ (0 ≤ x ∧ x ≤ 255)) := fun fuel cs y h => by
    obtain ⟨k, h1, _, h2⟩ := DataW.trod_int he h;refine ⟨k, h1, ?_⟩; (have e1 : IntKind.u8.min = 0 := by decide); (have e2 : IntKind.u8.max = 255 := by decide); simp only [Lit.wf, e1, e2, Bool.and_eq_true, decide_eq_true_eq] at h2; exact h2
  obtain ⟨l, v, c, h1, h2, h3, h4⟩ := Opens.any ht hk a7 ho _ _ _ h; refine ⟨l, v, h1, ?_, fun x hx => ?_⟩
  · have : c = l.map (eK .u8) := by
      apply List.ext_getElem (by simpa using h3); intro i hi hi2; rw [← d4 hi, (h4 i a6).1, List.getElem_map, d4 a6]
    rw [← this]; exact h2
  · obtain ⟨i, hi, e⟩ := List.mem_iff_getElem.1 hx; have := (h4 i hi).2; rw [d4 hi, e] at this; exact this
theorem lU {t e : TypeId} {k : Nat} {α : Type} [Inhabited α] {rep : Frz → List Value → α → Prop} (ht : Tryz.prog.underlying t = some (.slice e)) (hk : Tryz.prog.cellsOf e = k) (hpos : 0 < k) (ho : Opens enc w base spare held e (rep (Frz.all w))) :
    Opens enc w base spare held t (fun cs (l : List α) => ∃ v c, cs = [v] ∧ SlD rep (Frz.all w) v k c l) := fun fuel cs y h => by
  obtain ⟨l, v, c, h1, h2, h3, h4⟩ := Opens.any ht hk hpos ho _ _ _ h; exact ⟨l, v, c, h1, h2, h3, h4⟩
end
end Go.Proofs.YtgoeeefoinkepaaGreatDoor
