/- Bd Wq Be Bf Y2 Bg Y3 Y4 Bh Of: shortened and put together by squeeze.py. -/
import Derived.Test.YtgoeeefoinkepaaGreatDoorQ14
import Derived.Deep.Slices
import Derived.ChangeArms
set_option maxRecDepth 100000
set_option maxHeartbeats 4000000
set_option linter.unusedVariables false
set_option linter.unusedSectionVars false
set_option linter.unusedSimpArgs false
namespace Go.Proofs.YtgoeeefoinkepaaGreatDoor
open Go.RowKit
section
variable {p:GProblem}{S:List (List GChoice)}{D:List GChoice}{t:GStore}{fuel:Nat}{r:List GDomain×Bool}
noncomputable def dU (p:GProblem) (S:List (List GChoice)) (D:List GChoice):List GDomain×Bool:=(zcb 100000 p S D).getD ([],false)
theorem zfC (hok:eD p=true)(hS:∀g∈S,iG p g=true)(h:DecP p D):QN p S (dK p D) (dU p S D):=by
 obtain ⟨r,h1,h2⟩:=zhv (fuel:=100000) (Nat.le_refl _) hok hS h.good;unfold dU;rw [h1];exact h2
theorem zhl (hf:100000≤fuel)(hok:eD p=true)(hS:∀g∈S,iG p g=true)(h:DecP p D):zcb fuel p S D=some (dU p S D):=by
 obtain ⟨r,h1,h2⟩:=zhv (fuel:=fuel) hf hok hS h.good;rw [h1,QN.eq hok h2 (zfC hok hS h)]
theorem zig (hf:100000≤fuel)(hok:eD p=true)(ht:StN p t)(h:DecP p D):lV D=some (gQ D)∧zap fuel t (gQ D)=some ((dU p t.list D).1,!(dU p t.list D).2,0):=by
 obtain ⟨r,h1,h2,h3,h4⟩:=zoB hf hok ht ht.ok h;rw [QN.eq hok h4 (zfC hok ht.ok h)] at h2;exact ⟨h1,h2⟩
theorem zh2 (hf:100000≤fuel)(hok:eD p=true)(ht:StN p t)(h:DecP p D):zan fuel t (gQ D)=some (!(dU p t.list D).2,0):=by
 obtain ⟨b,r,h1,h2,h3⟩:=zle hf hok ht ht.ok h;rw [zhl hf hok ht.ok h] at h2;rw [h1,h3,←Option.some.inj h2]
noncomputable def dl (p:GProblem) (S:List (List GChoice)):Nat→List GChoice→List GChoice
 |0,k=>k
 |i+1,k=>bif !(dU p S (wo k i)).2 then dl p S i (wo k i) else dl p S i k
theorem zcJ:∀i k,(dl p S i k).Sublist k
 |0,k=> .refl _
 |i+1,k=>by
  rw [dl]
  cases !(dU p S (wo k i)).2
  ·exact zcJ i k
  ·exact (zcJ i _).trans (zjN k i)
theorem zds (hok:eD p=true)(hS:∀g∈S,iG p g=true):∀i k,DecP p k→Conf p S k→Conf p S (dl p S i k)
 |0,k,_,h=>h
 |i+1,k,hd,h=>by
  rw [dl];have hw:=hd.sub (zjN k i)
  cases hb:(dU p S (wo k i)).2
  ·exact zds hok hS i _ hw ((zfC hok hS hw).conf.1 hb)
  ·exact zds hok hS i k hd h
theorem zhP (hf : 100000 ≤ fuel) (hok : eD p = true) (h : StN p t) (hl : DecP p D) : zaT fuel D t = some (dl p t.list D.length D) ∧ zbA fuel p t.list D = some (dl p t.list D.length D) := by
  have hS := h.ok; have hlen := hl.len; unfold zaT zbA; rw [fA (by unfold dv; omega)];simp only [dV]
  have key : ∀ (i : Nat) (k : List GChoice), i ≤ k.length → k.Sublist D → jD (fun (i_5 : Nat) (next4 : List GChoice → Option (List GChoice)) (kept_3 : List GChoice) =>
      em (dv kept_3.length 16) <|
      (zfc kept_3 (i_5 : Int) ((i_5 : Int) + 1)).bind fun r24 =>
      (lV r24).bind fun r28 =>
      (zan fuel t r28).bind fun r29 =>
      (bif r29.1 then
        next4 r24
        else
        next4 kept_3)) (fun kept_3 => some kept_3) i k = some (dl p t.list i k) ∧ jD (fun (i_5 : Nat) (next4 : List GChoice → Option (List GChoice)) (out_3 : List GChoice) =>
      (zaZ out_3 (i_5 : Int)).bind fun r24 =>
      (zb4 fuel p t.list r24).bind fun r25 =>
      (bif !r25.2 then
        (zaZ out_3 (i_5 : Int)).bind fun r32 =>
        next4 r32
        else
        next4 out_3)) (fun out_3 => some out_3) i k = some (dl p t.list i k) := by
    intro i
    induction i with
    | zero => intro k _ hk; exact ⟨rfl, rfl⟩
    | succ i ih =>
      intro k hi hk; have hkl := hk.length_le; have hd := hl.sub ((zjN k i).trans hk); have hw := zoa (l := k) (i := i) a6
      have e1 : ∀ X : List GChoice → Option (List GChoice), (em (dv k.length 16) <| (zfc k (i : Int) ((i : Int) + 1)).bind fun r24 => (lV r24).bind fun r28 => (zan fuel t r28).bind fun r29 => (bif r29.1 then X r24 else X k)) = (bif !(dU p t.list (wo k i)).2 then X (wo k i) else (X k : Option (List GChoice))) := fun X => by
        rw [fA (by unfold dv; omega), zmD a6, Option.bind_some, zfT hd.nd a6, Option.bind_some, zh2 hf hok h hd, Option.bind_some]
      have e2 : ∀ X : List GChoice → Option (List GChoice), ((zaZ k (i : Int)).bind fun r24 => (zb4 fuel p t.list r24).bind fun r25 => (bif !r25.2 then (zaZ k (i : Int)).bind fun r32 => X r32 else X k)) = (bif !(dU p t.list (wo k i)).2 then X (wo k i) else (X k : Option (List GChoice))) := fun X => by
        rw [zkz a6 a6, Option.bind_some]
        show (zcb fuel p t.list (wo k i)).bind _ = _
        rw [zhl hf hok hS hd, Option.bind_some]; rfl
      rw [dl]
      cases hb : !(dU p t.list (wo k i)).2 with
      | true =>
        obtain ⟨q1, q2⟩ := ih (wo k i) a6 ((zjN k i).trans hk); refine ⟨(e1 _).trans ?_, (e2 _).trans ?_⟩
        · rw [hb, cond_true]; exact q1
        · rw [hb, cond_true]; exact q2
      | false =>
        obtain ⟨q1, q2⟩ := ih k a6 hk; refine ⟨(e1 _).trans ?_, (e2 _).trans ?_⟩
        · rw [hb, cond_false]; exact q1
        · rw [hb, cond_false]; exact q2
  exact key D.length D (Nat.le_refl _) (.refl _)
def jN (D r:List GChoice):Nat:=((List.range D.length).find? fun i=>decide ((cH D i).Station=(cH r (((r.length:Int) - 1).toNat)).Station)&&decide ((cH D i).Channel=(cH r (((r.length:Int) - 1).toNat)).Channel)).getD 0
theorem zjO {D r:List GChoice}(hs:r.Sublist D)(hne:r.length≠0)(hD:D.length≤1000):jN D r<D.length∧cH D (jN D r)∈r∧ma D (cH r (((r.length:Int) - 1).toNat))=(jN D r:Int)∧zcF D r=some (D.take (jN D r)):=by
 have hv0:cH r (((r.length:Int) - 1).toNat)∈r:=eF a6;have hv:cH r (((r.length:Int) - 1).toNat)∈D:=hs.subset hv0
 have e1:ma D (cH r (((r.length:Int) - 1).toNat))=match (List.range D.length).find? (fun i=>(decide ((cH r (((r.length:Int) - 1).toNat)).Station=(cH D i).Station)&&decide ((cH r (((r.length:Int) - 1).toNat)).Channel=(cH D i).Channel))) with|some i=>(i:Int)|none=> -1:=by
  unfold ma;refine j4 ?_;exact zdj (fun i=>(decide ((cH r (((r.length:Int) - 1).toNat)).Station=(cH D i).Station)&&decide ((cH r (((r.length:Int) - 1).toNat)).Channel=(cH D i).Channel))) (fun i=>(i:Int)) (fun i next _=>rfl)
 have e2:zcF D r=match (List.range D.length).find? (fun i=>(decide ((cH D i).Station=(cH r (((r.length:Int) - 1).toNat)).Station)&&decide ((cH D i).Channel=(cH r (((r.length:Int) - 1).toNat)).Channel))) with|some i=>some (D.take i)|none=>some []:=by
  unfold zcF;rw [fA ⟨by omega,by omega⟩];refine j4 ?_;refine zdj (fun i=>(decide ((cH D i).Station=(cH r (((r.length:Int) - 1).toNat)).Station)&&decide ((cH D i).Channel=(cH r (((r.length:Int) - 1).toNat)).Channel))) (fun i=>some (D.take i)) (fun i next hi=>?_);rw [List.nil_append,fA (by unfold dv;rw [List.length_take];omega)]
 have e3:(fun i=>(decide ((cH r (((r.length:Int) - 1).toNat)).Station=(cH D i).Station)&&decide ((cH r (((r.length:Int) - 1).toNat)).Channel=(cH D i).Channel)))=fun i=>(decide ((cH D i).Station=(cH r (((r.length:Int) - 1).toNat)).Station)&&decide ((cH D i).Channel=(cH r (((r.length:Int) - 1).toNat)).Channel)):=by
  funext i;rw [decide_eq_decide.2 eq_comm,decide_eq_decide.2 (eq_comm (a:=(cH r (((r.length:Int) - 1).toNat)).Channel))]
 rw [e1,e2,e3];unfold jN;generalize cH r (((r.length:Int) - 1).toNat)=v at*
 cases hf:(List.range D.length).find? fun i=>(decide ((cH D i).Station=v.Station)&&decide ((cH D i).Channel=v.Channel)) with
 |none=>
  obtain ⟨i,hi,rfl⟩:=gW hv;have:=List.find?_eq_none.1 hf i (List.mem_range.2 hi);rw [decide_eq_true rfl,decide_eq_true rfl] at this;exact absurd rfl this
 |some i=>
  have h1:=List.find?_some hf;rw [Bool.and_eq_true,decide_eq_true_eq,decide_eq_true_eq] at h1;refine ⟨List.mem_range.1 (List.mem_of_find?_eq_some hf),?_,rfl,rfl⟩
  show cH D i∈r
  have:cH D i=v:=by
   cases v;cases hx:cH D i;rw [hx] at h1;obtain ⟨h2,h3⟩:=h1;simp only at h2 h3;rw [h2,h3]
  rw [this];exact hv0
theorem zjV (h:DecP p D){c:GChoice}(hc:c∈D):j9 c=true:=by
 have:=h.good c hc;unfold j9;exact decide_eq_true a6
theorem zlB {c:GChoice}(hg:j9 c=true)(hc:c∈D):iR (dK p D) c.Station c.Channel=true:=by
 have key:∀(l:List GChoice) (d:List GDomain),(iR d c.Station c.Channel=true∨c∈l)→iR (l.foldl (fun d c=>d.map (fV true c)) d) c.Station c.Channel=true:=by
  intro l
  induction l with
  |nil=>intro d h;exact h.resolve_right b2
  |cons a r ih=>
   intro d h;refine ih _ ?_;have hf:=zeo true a;rcases h with h|h
   ·left;rw [fo] at h ⊢;intro x hx e k hk;obtain ⟨y,hy,rfl⟩:=List.mem_map.1 hx;rw [hf.st] at e;exact h y hy e k ((hf.mem _ _).1 hk).1
   ·rcases List.mem_cons.1 h with rfl|h
    ·left;rw [fo];intro x hx e k hk;obtain ⟨y,hy,rfl⟩:=List.mem_map.1 hx;rw [hf.st] at e;exact (((hf.mem _ _).1 hk).2 hg e).2 rfl
    ·exact .inr h
 exact key D p.Domains (.inr hc)
theorem zlX (hok:eD p=true){d:List GDomain}(h:SubP p d){x:GDomain}(hx:x∈d):x.Channels.Nodup:=by
 obtain ⟨_,hbd,_,_⟩:=zfA hok;exact ((hbd.ord h.len h.ord).ch x hx).2
theorem zlM {l:List Int}{c:Int}(hn:l.Nodup)(h:∀k∈l,k=c):l.length≤1:=by
 match l,hn,h with
 | [],_,_=>simp
 | [_],_,_=>simp
 |a :: b :: r,hn,h=>
  have h1:=h a b2;have h2:=h b b2;rw [h1,h2] at hn;simp at hn
theorem zn1 (hok:eD p=true)(h:DecP p D){d:List GDomain}(h3:SubP p d)(h4:SubD d (dK p D)){x:GDomain}(hx:x∈d)(hl:1<x.Channels.length):∀c∈D,c.Station≠x.Station:=fun c hc e=>by
 have h5:=zcn h4 (zlB (p:=p) (zjV h hc) hc);have h6:=zlM (zlX hok h3 hx) (fo.1 h5 x hx e.symm);omega
theorem zmL (hok:eD p=true)(h:DecP p D){d:List GDomain}(h3:SubP p d)(h4:SubD d (dK p D)){x:GDomain}(hx:x∈d)(hl:1<x.Channels.length){c:GChoice}(e:c.Station=x.Station)(hc:c.Channel∈x.Channels):DecP p (D++[c]):=by
 have hG:=zeV hok;have hn:=zn1 hok h h3 h4 hx hl;have hst:=h3.st hG hx;have hch:=h3.ch hG hx hc;refine ⟨fun a ha=>?_,fun a ha=>?_,?_⟩
 ·rcases List.mem_append.1 ha with ha|ha
  ·exact h.good a ha
  ·rw [List.mem_singleton.1 ha];omega
 ·rcases List.mem_append.1 ha with ha|ha
  ·exact h.has a ha
  ·rw [List.mem_singleton.1 ha];obtain ⟨i,hi,rfl⟩:=gW hx; (have hi':i<p.Domains.length:=by rw [←h3.len];exact hi);have h5:=h3.sub.2 i hi';exact i5.2 ⟨_,eF hi',by rw [e];exact h5.1.symm,h5.2 _ hc⟩
 ·rw [List.map_append,List.nodup_append];refine ⟨h.nd,by simp,fun a ha b hb=>?_⟩;obtain ⟨y,hy,rfl⟩:=List.mem_map.1 ha;simp only [List.map_cons,List.map_nil,List.mem_singleton] at hb;rw [hb,e];exact hn y hy
structure InvS (p:GProblem) (S:List (List GChoice)) (D:List GChoice):Prop where
 ok:∀g∈S,iG p g=true
 dec:DecP p D
 out:∀g∈S,¬ ∀c∈g,c∈D
 fol:∀i,i<S.length→Conf p (S.take i) (cH S i)
 nd:S.Nodup
 le:S.length≤4096
theorem InvS.nil:InvS p [] []:=⟨fun _ h=>(by cases h),⟨fun _ h=>(by cases h),fun _ h=>(by cases h),List.Pairwise.nil⟩,fun _ h=>(by cases h),fun i h=>absurd h (Nat.not_lt_zero i),List.Pairwise.nil,Nat.zero_le _⟩
theorem Conf.sort {l:List GChoice}(h:Conf p S l):Conf p S (gQ l):=fun e he=>by
 rw [zjr (ml l)];exact h e he
theorem InvS.learn (hok:eD p=true)(h:InvS p S D){g:List GChoice}(hs:g.Sublist D)(hc:Conf p S g):(∀x∈S++[gQ g],iG p x=true)∧(∀i,i<(S++[gQ g]).length→Conf p ((S++[gQ g]).take i) (cH (S++[gQ g]) i))∧(S++[gQ g]).Nodup:=by
 refine ⟨fun x hx=>?_,fun i hi=>?_,?_⟩
 ·rcases List.mem_append.1 hx with hx|hx
  ·exact h.ok x hx
  ·rw [List.mem_singleton.1 hx];exact ziQ (h.dec.sub hs)
 ·rw [List.length_append,List.length_singleton] at hi;rcases Nat.lt_or_ge i S.length with h1|h1
  ·rw [List.take_append_of_le_length a6,zdO h1];exact h.fol i h1
  ·(obtain rfl:i=S.length:=by omega);rw [List.take_left,zdy rfl];exact hc.sort
 ·rw [List.nodup_append];refine ⟨h.nd,by simp,fun a ha b hb e=>?_⟩;rw [List.mem_singleton.1 hb] at e;refine h.out a ha fun c hc=>?_;rw [e] at hc;exact hs.subset ((ml g).mem_iff.1 hc)
theorem zmg {i:Nat}(hn:D.Nodup)(hi:i<D.length):cH D i∉D.take i:=fun hm=>by
 obtain ⟨j,hj,e⟩:=List.mem_iff_getElem.1 hm;rw [List.length_take] at hj;rw [List.getElem_take,d5 hi] at e;have:=(List.getElem_inj hn).1 e;omega
theorem DecP.nodup (h:DecP p D):D.Nodup:=(List.pairwise_map.1 h.nd).imp fun {a b} hab e=>hab (by rw [e])
theorem InvS.cut (hok:eD p=true)(h:InvS p S D){g:List GChoice}(hs:g.Sublist D)(hc:Conf p S g)(h0:g.length≠0)(h4:S.length≠4096):InvS p (S++[gQ g]) (D.take (jN D g)):=by
 obtain ⟨h1,h2,h3⟩:=h.learn hok hs hc;have hl:=h.dec.len;obtain ⟨k1,k2,_,_⟩:=zjO hs h0 a6;refine ⟨h1,h.dec.sub (List.take_sublist _ _),fun x hx=>?_,h2,h3,by have:=h.le;rw [List.length_append,List.length_singleton];omega⟩;rcases List.mem_append.1 hx with hx|hx
 ·exact fun hall=>h.out x hx fun c hc=>List.mem_of_mem_take (hall c hc)
 ·rw [List.mem_singleton.1 hx];exact fun hall=>zmg h.dec.nodup k1 (hall _ ((ml g).mem_iff.2 k2))
theorem InvS.decide (hok:eD p=true)(h:InvS p S D)(hr:(dU p S D).2=true){x:GDomain}(hx:x∈(dU p S D).1)(hl:1<x.Channels.length){c:GChoice}(e:c.Station=x.Station)(hc:c.Channel∈x.Channels):InvS p S (D++[c]):=by
 rcases zfC hok h.ok h.dec with ⟨_,q2,q3,q4,_⟩|⟨q1,_⟩
 ·refine ⟨h.ok,zmL hok h.dec q3 q4 hx hl e hc,fun g hg hall=>?_,h.fol,h.nd,h.le⟩;have h1:=q2.calm g hg x hx _ hc
  have h2:c∈g:=Classical.byContradiction fun hn=>h.out g hg fun y hy=>by
   rcases List.mem_append.1 (hall y hy) with h3|h3
   ·exact h3
   ·rw [List.mem_singleton.1 h3] at hy;exact absurd hy hn
  have h3:gK (dU p S D).1 g x.Station c.Channel=true:=by
   unfold gK;rw [Bool.and_eq_true,List.any_eq_true,List.all_eq_true];refine ⟨⟨c,h2,by rw [e];simp⟩,fun y hy=>?_⟩;rcases List.mem_append.1 (hall y hy) with h3|h3
   ·rw [zcn q4 (zlB (p:=p) (zjV h.dec h3) h3),Bool.or_true]
   ·rw [List.mem_singleton.1 h3,e];simp
  rw [h3] at h1;cases h1
 ·rw [q1] at hr;cases hr
noncomputable def gY (p:GProblem) (hints:List GChoice) (b:Int) (S:List (List GChoice)) (D:List GChoice) (n:Int):GResult ⊕ (List (List GChoice)×List GChoice×Int):=
 bif (dU p S D).2 then
  (bif ((nf (dU p S D).1 hints).getD (⟨0,0⟩,false)).2 then
   (bif decide (n=b) then .inl ⟨0,[],[],n⟩ else .inr (S,D++[((nf (dU p S D).1 hints).getD (⟨0,0⟩,false)).1],n+1))
  else .inl ⟨1,fm (dU p S D).1,[],n⟩)
 else
  bif decide (S.length=4096) then .inl ⟨0,[],[],n⟩ else
  bif (dl p S D.length D).isEmpty then .inl ⟨2,[],S++[gQ (dl p S D.length D)],n⟩ else
  .inr (S++[gQ (dl p S D.length D)],D.take (jN D (dl p S D.length D)),n)
noncomputable def f9 (p:GProblem) (hints:List GChoice) (b:Int):Nat→List (List GChoice)→List GChoice→Int→Option GResult
 |0,_,_,_=>none
 |k+1,S,D,n=>match gY p hints b S D n with
  | .inl r=>some r
  | .inr s=>f9 p hints b k s.1 s.2.1 s.2.2
end
section
variable {p:GProblem}{f:Int→Int}{d:List GDomain}
theorem zmU {i:Nat}(hi:i<d.length):cH (sing d f) i=⟨(cH d i).Station,[f (cH d i).Station]⟩:=iz hi
theorem zmM:(sing d f).length=d.length:=List.length_map _
theorem FineP.sub {l:List GChoice}(h:FineP p l):SubD (sing p.Domains (mm l)) p.Domains:=by
 refine ⟨zmM,fun i hi=>?_⟩;rw [zmU hi];refine ⟨rfl,fun c hc=>?_⟩;simp at hc;rw [hc];exact (h.dom _ (eF hi)).1
end
theorem zmV {d:List GDomain}(hd:d.length≤100000):zcu d=some (fm d):=by
 unfold zcu;refine j4 ?_;refine kO (fun i s=>s=fm (d.take i)) (fun o=>o=some (fm d)) (by simp [fm]) (fun s hs=>?_) (fun i s next hi hs hn=>?_)
 ·rw [hs,List.take_of_length_le (Nat.le_refl _)]
 ·have hl:s.length≤i:=by
   rw [hs];unfold fm;rw [List.length_map];exact Nat.le_trans (List.length_filter_le _ _) (by rw [List.length_take];omega)
  have hstep:fm (d.take (i+1))=s++(if (cH d i).Channels.length=1 then [⟨(cH d i).Station,cH (cH d i).Channels 0⟩] else []):=by
   rw [List.take_succ_eq_append_getElem hi,←d5 hi,ziD,←hs]
  by_cases h:(cH d i).Channels.length=1
  ·rw [decide_eq_true (show ((cH d i).Channels.length:Int)=1 by omega),cond_true,fA b6];exact hn _ (by rw [hstep,if_pos h])
  ·rw [decide_eq_false (show ¬((cH d i).Channels.length:Int)=1 by omega),cond_false];exact hn _ (by rw [hstep,if_neg h,List.append_nil])
section
variable {p:GProblem}{m:List GDomain×Bool}{d:List GDomain}
end
section
variable {p:GProblem}{S:List (List GChoice)}{D hints:List GChoice}{k:Nat}{b n:Int}{r:GResult}
theorem view (hok : eD p = true) (hv : ValidL hints) (h : InvS p S D) :
    ((dU p S D).2 = true ∧ (∀ x ∈ (dU p S D).1, x.Channels.length ≤ 1) ∧ za5 (dU p S D).1 hints = some (⟨0, 0⟩, 9) ∧ nf (dU p S D).1 hints = some (⟨0, 0⟩, false) ∧ ∀ b k n, f9 p hints b (k + 1) S D n = some ⟨1, fm (dU p S D).1, [], n⟩) ∨
    ((dU p S D).2 = true ∧ ∃ c, InvS p S (D ++ [c]) ∧ (∃ x ∈ (dU p S D).1, c.Station = x.Station ∧ c.Channel ∈ x.Channels ∧ 1 < x.Channels.length ∧ ∀ h ∈ hints, h.Station = x.Station → h.Channel ∈ x.Channels → c = h) ∧ za5 (dU p S D).1 hints = some (c, 0) ∧ nf (dU p S D).1 hints = some (c, true) ∧ ∀ b k n, f9 p hints b (k + 1) S D n = bif decide (n = b) then some ⟨0, [], [], n⟩ else f9 p hints b k S (D ++ [c]) (n + 1)) ∨
    ((dU p S D).2 = false ∧ S.length = 4096 ∧ ∀ b k n, f9 p hints b (k + 1) S D n = some ⟨0, [], [], n⟩) ∨
    ((dU p S D).2 = false ∧ S.length ≠ 4096 ∧ dl p S D.length D = [] ∧ Conf p S [] ∧ ∀ b k n, f9 p hints b (k + 1) S D n = some ⟨2, [], S ++ [[]], n⟩) ∨
    ((dU p S D).2 = false ∧ S.length ≠ 4096 ∧ ∃ g, g = dl p S D.length D ∧ g.length ≠ 0 ∧ g.Sublist D ∧ Conf p S g ∧ InvS p (S ++ [gQ g]) (D.take (jN D g)) ∧ (D.take (jN D g)).length < D.length ∧ ∀ b k n, f9 p hints b (k + 1) S D n = f9 p hints b k (S ++ [gQ g]) (D.take (jN D g)) n) := by
  have hq := zfC hok h.ok h.dec
  cases hr : (dU p S D).2 with
  | true =>
    have hd : SubP p (dU p S D).1 := by
      rcases hq with ⟨_, _, q3, _⟩ | ⟨q1, _⟩
      · exact q3
      · rw [q1] at hr; cases hr
    have hb := zhg (zf0 hok hd) hv; rcases hb with ⟨c, e1, e2, x, hx, e3, e4, e5, e6⟩ | ⟨e1, e2, e3⟩
    · refine .inr (.inl ⟨rfl, c, h.decide hok hr hx e5 e3 e4, ⟨x, hx, e3, e4, e5, e6⟩, e2, e1, fun b k n => ?_⟩); rw [f9, gY, hr, cond_true, e1, Option.getD_some, cond_true]
      cases decide (n = b) <;> rfl
    · refine .inl ⟨rfl, e3, e2, e1, fun b k n => ?_⟩; rw [f9, gY, hr, cond_true, e1]; rfl
  | false =>
    have hc : Conf p S D := hq.conf.1 hr; have hg := zds hok h.ok D.length D h.dec hc; have hs := zcJ (p := p) (S := S) D.length D; by_cases h4 : S.length = 4096
    · refine .inr (.inr (.inl ⟨rfl, h4, fun b k n => ?_⟩)); rw [f9, gY, hr, cond_false, decide_eq_true h4, cond_true]
    · by_cases h0 : dl p S D.length D = []
      · refine .inr (.inr (.inr (.inl ⟨rfl, h4, h0, by rw [h0] at hg; exact hg, fun b k n => ?_⟩))); rw [f9, gY, hr, cond_false, decide_eq_false h4, cond_false, h0]; rfl
      · have hl : (dl p S D.length D).length ≠ 0 := fun e => h0 (List.eq_nil_of_length_eq_zero e); have hi := (zjO hs hl (by have := h.dec.len; omega)).1; refine .inr (.inr (.inr (.inr ⟨rfl, h4, _, rfl, hl, hs, hg, h.cut hok hs hg hl h4, ?_, fun b k n => ?_⟩)))
        · rw [List.length_take]; omega
        · have h5 : (dl p S D.length D).isEmpty = false := by
            cases he : dl p S D.length D with
            | nil => exact absurd he h0
            | cons a t => rfl
          rw [f9, gY, hr, cond_false, decide_eq_false h4, cond_false, h5, cond_false]
theorem zgB (hok:eD p=true)(hv:ValidL hints):∀(k:Nat) (S:List (List GChoice)) (D:List GChoice) (n:Int),InvS p S D→n≤b→2* (b - n).toNat+D.length<k→∃r,f9 p hints b k S D n=some r
 |0,S,D,n,_,_,hk=>absurd hk (Nat.not_lt_zero _)
 |k+1,S,D,n,h,hn,hk=>by
  rcases view hok hv h with ⟨_,_,_,_,e⟩|⟨_,c,h1,_,_,_,e⟩|⟨_,_,e⟩|⟨_,_,_,_,e⟩|⟨_,_,g,_,_,_,_,h1,h2,e⟩
  ·exact ⟨_,e _ _ _⟩
  ·rw [e];by_cases hb:n=b
   ·rw [decide_eq_true hb];exact ⟨_,rfl⟩
   ·rw [decide_eq_false hb];exact zgB hok hv k S _ _ h1 a6 (by rw [List.length_append,List.length_singleton];omega)
  ·exact ⟨_,e _ _ _⟩
  ·exact ⟨_,e _ _ _⟩
  ·rw [e];exact zgB hok hv k _ _ _ h1 hn a6
end
section
variable {p:GProblem}{S:List (List GChoice)}{D hints:List GChoice}{k:Nat}{b n:Int}{r:GResult}
theorem zoy {α:Type}[Inhabited α]{l:List α}{f:α→Int}(h:∀i j,i<j→j<l.length→f (cH l i)<f (cH l j)):l.Pairwise fun x y=>f x<f y:=by
 rw [List.pairwise_iff_getElem];intro i j hi hj hij;have:=h i j hij hj
 rwa [d5 hi,d5 hj] at this
end
def zbN (fuel:Nat)(p:GProblem)(hints:List GChoice)(budget:Int):Option Bool:=
 (zcz fuel p).bind fun r11=>
 (bif (((!r11)||(decide (20<(hints.length:Int))))||((decide (60<budget))&&(decide (budget≤100000)))) then
  (zbT fuel).bind fun r26=>
  some r26
  else
  em (dv ([]++hints).length 16) <|
  (zbn fuel p ([]++hints) budget).bind fun r33=>
  (bif !(zaV ([]++hints) hints) then
   some false
   else
   (zcw p).bind fun r41=>
   (bif ((((!r41)||(!(zaO hints)))||(decide (budget<0)))||(decide (100000<budget))) then
    dV (fun (x_10:Bool)=>
     some x_10)
    (fun k11=>
     (bif (zbE r33.1 (GResult.mk 0 [] [] 0)) then
      (bif decide (r33.2=2) then
       (zbT fuel).bind fun r64=>
       k11 r64
       else
       k11 false)
      else
      k11 false))
    else
    dV (fun (x_14:Bool)=>
     some x_14)
    (fun k15=>
     (bif decide (r33.2=0) then
      (zct fuel p hints budget).bind fun r73=>
      (bif (zbE r33.1 r73) then
       (zbT fuel).bind fun r77=>
       k15 r77
       else
       k15 false)
      else
      k15 false)))))
theorem zez (F0:Frz)(w:World)(hF0:F0.At w)(p:GProblem)(vp_0:Value)(cp_0:List (List Value))(hp_0:SlD cJ F0 vp_0 2 cp_0 p.Domains)(vp_1:Value)(hp_1:SlC F0 vp_1 5 (p.Rules.Pairs.map cY))(vp_2:Value)(hp_2:SlC F0 vp_2 5 (p.Rules.Loads.map c4))(vp_3:Value)(hp_3:SlC F0 vp_3 4 (p.Rules.Caps.map dk))(hints:List GChoice)(vhints:Value)(hhints:SlC F0 vhints 2 (hints.map cG))(budget:Int)(htab:Tab w)(fuel:Nat)(hfu:100000≤fuel)(r:Bool)(hr:zbN fuel p hints budget=some r):Calls Tryz.prog 4 #[.agg [vp_0,vp_1,vp_2,vp_3].toArray,vhints, .int .i64 budget] w fun e w'=>e= .returned (.bool r)∧Below w.heap.size w w':=by
 have hk:=hr;unfold zbN at hk;haveI:=hp_0.1.oneC;haveI:=hp_1.oneC;haveI:=hp_2.oneC;haveI:=hp_3.oneC;haveI:=hhints.oneC;obtain ⟨S0,F1,rfl,hS0,hp0⟩:=fx hF0;have hM0:¬(fun _:Nat=>False) 0:=fun h=>h;have htk:∀ {hs:HS} {w':World},Hp w (fun _=>False) hs w'→Tab w':=fun hw=>htab.keptF hw;refine dz Tryz.func4 rfl rfl rfl hp0 ?_;refine iW ?_;rintro _ _ ⟨g3,rfl,rfl⟩;refine q2N ?_;have hq:=eO hk;clear hk;obtain ⟨r11,hr11,hk⟩:=hq; (try dsimp only at hk);refine dc (ι:=Unit) (fun z=>[(1,vhints),(2, .int .i64 budget),(3, .pointer (some ⟨g3,0,none⟩)),(25, .bool (((!r11)||(decide (20<(hints.length:Int))))||((decide (60<budget))&&(decide (budget≤100000)))))]) (fun z=>[.row g3 31 [vp_0,vp_1,vp_2,vp_3], .fr F1]) (fun z=>True) ?_ ?_
 ·refine fP ?_;refine iF ?_;refine cZ (cL rfl rfl rfl (fun w hw=>zha _ w (hw.fr (i:=1) rfl) p vp_0 cp_0 hp_0 vp_1 hp_1 vp_2 hp_2 vp_3 hp_3 fuel r11 hr11)) ?_;refine kK ?_;refine dB rfl rfl rfl (fun h1=>?_) (fun h1=>?_)
  ·refine TL.run 12 rfl ?_;refine eV ?_;exact cO () trivial (.c (.c (.c (.b (fW (fW h1)).symm .nil)))) (List.Sublist.refl _)
  ·refine dn ?_;refine cK (dg rfl rfl hhints (List.length_map _)) ?_;have hm15:hints.length≤9223372036854775807:=(List.length_map _)▸hhints.max;refine fH ?_;refine dB rfl rfl rfl (fun h2=>?_) (fun h2=>?_)
   ·have p2:=of_decide_eq_true h2;refine TL.run 7 rfl ?_;refine eV ?_;exact cO () trivial (.c (.c (.c (.b (fW (gU h1 h2)).symm .nil)))) (List.Sublist.refl _)
   ·have p2:=of_decide_eq_false h2;refine fH ?_;refine dB rfl rfl rfl (fun h3=>?_) (fun h3=>?_)
    ·have p3:=of_decide_eq_true h3;refine nb ?_;exact cO () trivial (.c (.c (.c (.b (Eq.trans (kI h3) (gH (gU h1 h2))) .nil)))) (List.Sublist.refl _)
    ·have p3:=of_decide_eq_false h3;refine nb ?_;exact cO () trivial (.c (.c (.c (.b (gU (gU h1 h2) (gh h3)).symm .nil)))) (List.Sublist.refl _)
 ·rintro _ _;have hm15:hints.length≤9223372036854775807:=(List.length_map _)▸hhints.max;refine T.cond rfl (fun h4=>?_) (fun h4=>?_)
  ·replace hk:=dC hk h4;refine T.seq ?_;have hq:=eO hk;clear hk;obtain ⟨r26,hr26,hk⟩:=hq; (try dsimp only at hk);refine fP ?_;refine cZ (cL rfl rfl rfl (fun w hw=>zdT _ w (hw.fr (i:=1) rfl) (htab.keptF hw) fuel hfu r26 hr26)) ?_;refine eW ?_;refine dn ?_;refine ly ?_;obtain rfl:=Option.some.inj hk;exact eA
  ·have p4:=h4; (try simp only [cS] at p4);replace hk:=dD hk h4;refine jm ?_;have hq:(dv ([]++hints).length 16)∧_:=fD hk;clear hk;obtain ⟨g28,hk⟩:=hq; (try dsimp only at hk);refine iK ?_;refine lQ ?_;refine cZ (ja 0 2 (zec (fun _=>inferInstance)) rfl rfl rfl rfl rfl hhints (zev (xs:=([]:List GChoice))) (zdH (xs:=([]:List GChoice))) g28 a7) ?_;rintro v28 _ ⟨hv28,rfl⟩;refine ks ?_;refine jI (fun w hw=>hw.freezeS (i:=2) (j:=0) a7 rfl rfl) ?_;rintro F2 ⟨le1_2,hz2⟩;refine gF ?_;have hf2:=hz2.toF rfl GChoice.len;haveI:=hf2.oneC;have hq:=eO hk;clear hk;obtain ⟨r33,hr33,hk⟩:=hq; (try dsimp only at hk);refine fP ?_;refine iF ?_;refine ed ?_;refine cZ (eo 1 rfl rfl rfl rfl (fun w hw hF=>zeC _ w hF p vp_0 cp_0 (SlD.mono (rep:=cJ) (fun _ _ _ _=>GDomain.mono) hp_0 le1_2) vp_1 (SlC.mono hp_1 le1_2) vp_2 (SlC.mono hp_2 le1_2) vp_3 (SlC.mono hp_3 le1_2) ([]++hints) v28 hf2 budget (htab.keptF hw) fuel hfu r33 hr33)) ?_;rintro _ _ ⟨⟨v33_0_1,v33_0_2,cs33_0_2⟩,F3,le2_3,⟨hf33_0_1,hf33_0_2⟩,rfl,rfl⟩;dsimp only at hf33_0_1 hf33_0_2 ⊢;have le1_3:=le1_2.trans le2_3;haveI:=hf33_0_1.oneC;haveI:=hf33_0_2.1.oneC;refine fH ?_;refine gR ?_;rintro _ _ ⟨g8,rfl,rfl⟩;refine kd ?_;refine kP ?_;refine ed ?_;refine cZ (cL rfl rfl rfl (fun w hw=>zc2 _ w (hw.fr (i:=2) rfl) ([]++hints) v28 (SlC.mono hf2 le2_3) hints vhints (SlC.mono hhints le1_3))) ?_;refine eW ?_;refine dJ ?_;refine T.cond rfl (fun h5=>?_) (fun h5=>?_)
   ·replace hk:=dC hk h5;refine jc ?_;obtain rfl:=Option.some.inj hk;exact eA
   ·replace hk:=dD hk h5;refine T.skip (K.seq (T.seq (T.seq ?_)));have hq:=eO hk;clear hk;obtain ⟨r41,hr41,hk⟩:=hq; (try dsimp only at hk);refine dc (ι:=Unit) (fun z=>[(1,vhints),(2, .int .i64 budget),(3, .pointer (some ⟨g3,0,none⟩)),(8, .pointer (some ⟨g8,0,none⟩)),(9, .int .i64 r33.2),(55, .bool ((((!r41)||(!(zaO hints)))||(decide (budget<0)))||(decide (100000<budget))))]) (fun z=>[.row g8 46 [.int .i64 r33.1.Kind,v33_0_1,v33_0_2, .int .i64 r33.1.Steps], .row g3 31 [vp_0,vp_1,vp_2,vp_3], .fr F3]) (fun z=>True) ?_ ?_
    ·refine fP ?_;refine q2T ?_;refine cZ (cL rfl rfl rfl (fun w hw=>zhC _ w (hw.fr (i:=2) rfl) p vp_0 cp_0 (SlD.mono (rep:=cJ) (fun _ _ _ _=>GDomain.mono) hp_0 le1_3) vp_1 (SlC.mono hp_1 le1_3) vp_2 (SlC.mono hp_2 le1_3) vp_3 (SlC.mono hp_3 le1_3) r41 hr41)) ?_;refine kK ?_;refine dB rfl rfl rfl (fun h6=>?_) (fun h6=>?_)
     ·refine TL.run 12 rfl ?_;refine eV ?_;exact cO () trivial (.c (.c (.c (.c (.c (.b (fW (fW (fW h6))).symm .nil)))))) (List.Sublist.refl _)
     ·refine dn ?_;refine cZ (cL rfl rfl rfl (fun w hw=>zfs _ w (hw.fr (i:=2) rfl) hints vhints (SlC.mono hhints le1_3))) ?_;refine eW ?_;refine fH ?_;refine dB rfl rfl rfl (fun h7=>?_) (fun h7=>?_)
      ·refine TL.run 7 rfl ?_;refine eV ?_;exact cO () trivial (.c (.c (.c (.c (.c (.b (fW (fW (gU h6 h7))).symm .nil)))))) (List.Sublist.refl _)
      ·refine TL.run 4 rfl ?_;refine dB rfl rfl rfl (fun h8=>?_) (fun h8=>?_)
       ·have p8:=of_decide_eq_true h8;refine fH ?_;refine eV ?_;exact cO () trivial (.c (.c (.c (.c (.c (.b (fW (gU (gU h6 h7) h8)).symm .nil)))))) (List.Sublist.refl _)
       ·have p8:=of_decide_eq_false h8;refine fH ?_;refine eV ?_;exact cO () trivial (.c (.c (.c (.c (.c (.b (gH (gU (gU h6 h7) h8)) .nil)))))) (List.Sublist.refl _)
    ·rintro _ _;refine T.cond rfl (fun h9=>?_) (fun h9=>?_)
     ·replace hk:=dC hk h9;refine T.seq ?_; (try dsimp only at hk);have hq:=eE hk;clear hk;obtain ⟨k11,hk11,hk⟩:=hq; (try dsimp only at hk);refine dc (ι:=Bool) (fun z=>[(6, .bool z)]) (fun z=>[.fr F3]) (fun z=>k11 z=some r) ?_ ?_
      ·refine fP ?_;refine iF ?_;refine je ?_;refine cZ (cL rfl rfl rfl (fun w hw=>zeh _ w (hw.fr (i:=2) rfl) r33.1 v33_0_1 hf33_0_1 v33_0_2 cs33_0_2 hf33_0_2 (GResult.mk 0 [] [] 0) (.slice none 0 0) (SlC.nil _ 2) (.slice none 0 0) [] (SlD.nil _ _ 1))) ?_;refine eW ?_;refine dn ?_;refine dB rfl rfl rfl (fun h12=>?_) (fun h12=>?_)
       ·replace hk:=dC hk h12;refine TL.run 4 rfl ?_;refine dB rfl rfl rfl (fun h13=>?_) (fun h13=>?_)
        ·have p13:=of_decide_eq_true h13;replace hk:=dC hk h13;have hq:=eO hk;clear hk;obtain ⟨r64,hr64,hk⟩:=hq;refine cZ (cL rfl rfl rfl (fun w hw=>zdT _ w (hw.fr (i:=2) rfl) (htab.keptF hw) fuel hfu r64 hr64)) ?_;refine kK ?_;refine eV ?_;refine K.pick [2] rfl a7 ?_;exact cO r64 hk (.c .nil) (List.Sublist.refl _)
        ·have p13:=of_decide_eq_false h13;replace hk:=dD hk h13;refine fH ?_;refine eV ?_;refine K.pick [2] rfl a7 ?_;exact cO false hk (.c .nil) (List.Sublist.refl _)
       ·replace hk:=dD hk h12;refine TL.run 7 rfl ?_;refine eV ?_;refine K.pick [2] rfl a7 ?_;exact cO false hk (.c .nil) (List.Sublist.refl _)
      ·rintro x_10 hk;rw [←hk11] at hk; (try dsimp only at hk);refine T.ret (dS ?_);obtain rfl:=Option.some.inj hk;exact eA
     ·have p9:=h9; (try simp only [cS] at p9);replace hk:=dD hk h9;refine jm ?_; (try dsimp only at hk);have hq:=eE hk;clear hk;obtain ⟨k15,hk15,hk⟩:=hq; (try dsimp only at hk);refine dc (ι:=Bool×FzB w (fun _=>False) S0) (fun z=>[(6, .bool z.1)]) (fun z=>[.fr z.2]) (fun z=>k15 z.1=some r∧F3.toFrz.Le z.2.toFrz) ?_ ?_
      ·refine dH (sN 0 7 (.eff 7 (.eff 8 (sN 9 2 (.eff 11 (.still 12 (.still 13 .done))))))) _ a8 (List.Sublist.refl _) ?_;refine fM ?_;refine dw rfl rfl rfl rfl (fun h16=>?_) (fun h16=>?_)
       ·have p16:=of_decide_eq_true h16;replace hk:=dC hk h16;refine iU ?_;refine cN rfl (fi 1) ?_;refine fj ?_;refine dt ?_;have hq:=eO hk;clear hk;obtain ⟨r73,hr73,hk⟩:=hq;refine cQ rfl (Wt.some) rfl rfl (eo 2 rfl rfl rfl rfl (fun w hw hF=>zhw _ w hF p vp_0 cp_0 (SlD.mono (rep:=cJ) (fun _ _ _ _=>GDomain.mono) hp_0 le1_3) vp_1 (SlC.mono hp_1 le1_3) vp_2 (SlC.mono hp_2 le1_3) vp_3 (SlC.mono hp_3 le1_3) hints vhints (SlC.mono hhints le1_3) budget fuel r73 hr73)) ?_;rintro _ _ ⟨⟨v73_0_1,v73_0_2,cs73_0_2⟩,F5,le3_5,⟨hf73_0_1,hf73_0_2⟩,rfl,rfl⟩;dsimp only at hf73_0_1 hf73_0_2 ⊢;haveI:=hf73_0_1.oneC;haveI:=hf73_0_2.1.oneC;refine q28 ?_;refine dt ?_;refine cQ rfl (Wt.some) rfl rfl (cL rfl rfl rfl (fun w hw=>zeh _ w (hw.fr (i:=2) rfl) r33.1 v33_0_1 (SlC.mono hf33_0_1 le3_5) v33_0_2 cs33_0_2 (SlD.mono (rep:=cI) (fun _ _ _ _=>R_List_GChoice.mono) hf33_0_2 le3_5) r73 v73_0_1 hf73_0_1 v73_0_2 cs73_0_2 hf73_0_2)) ?_;refine eW ?_;refine q28 ?_;refine fj ?_;refine dt ?_;refine TSo.gs rfl rfl rfl rfl (fun h17=>?_) (fun h17=>?_)
        ·replace hk:=dC hk h17;have hq:=eO hk;clear hk;obtain ⟨r77,hr77,hk⟩:=hq;refine cQ rfl (Wt.some) rfl rfl (cL rfl rfl rfl (fun w hw=>zdT _ w (hw.fr (i:=2) rfl) (htab.keptF hw) fuel hfu r77 hr77)) ?_;refine eW ?_;refine q28 ?_;refine q1n ?_;exact cO (r77,F5) ⟨hk,le3_5⟩ (.c .nil) (List.Sublist.refl _)
        ·replace hk:=dD hk h17;refine TSo.off rfl (Wt.not rfl rfl rfl rfl) rfl rfl ?_;refine q1n ?_;exact cO (false,F5) ⟨hk,le3_5⟩ (.c .nil) (List.Sublist.refl _)
       ·have p16:=of_decide_eq_false h16;replace hk:=dD hk h16;refine TS.run 4 rfl ?_;refine ie ?_;refine ie ?_;refine fj ?_;refine ie ?_;refine q1n ?_;exact cO (false,F3) ⟨hk,(Frz.Le.refl _)⟩ (.c .nil) (List.Sublist.refl _)
      ·rintro ⟨x_14,F4⟩ ⟨hk,le3_4⟩; (try dsimp only at *);rw [←hk15] at hk; (try dsimp only at hk);refine T.ret ?_;obtain rfl:=Option.some.inj hk;exact eA
section
variable {p:GProblem}{S:List (List GChoice)}{D hints:List GChoice}{b n:Int}{r:GResult}{fuel:Nat}
theorem zhj (hok:eD p=true)(hv:ValidL hints)(h:InvS p S D){s:List (List GChoice)×List GChoice×Int}(e:gY p hints b S D n= .inr s):InvS p s.1 s.2.1∧n≤s.2.2∧s.2.2≤n+1:=by
 have hq:=zfC hok h.ok h.dec;unfold gY at e
 cases hr:(dU p S D).2 with
 |true=>
  rw [hr,cond_true] at e
  have hd:SubP p (dU p S D).1:=by
   rcases hq with ⟨_,_,q3,_⟩|⟨q1,_⟩
   ·exact q3
   ·rw [q1] at hr;cases hr
  rcases zhg (zf0 hok hd) hv with ⟨c,e1,e2,x,hx,e3,e4,e5,e6⟩|⟨e1,e2,e3⟩
  ·rw [e1,Option.getD_some,cond_true] at e
   cases hb:decide (n=b) with
   |true=>rw [hb] at e;cases e
   |false=>
    rw [hb,cond_false] at e;obtain rfl:=Sum.inr.inj e;exact ⟨h.decide hok hr hx e5 e3 e4,by dsimp only;omega,Int.le_refl _⟩
  ·rw [e1,Option.getD_some] at e;cases e
 |false=>
  rw [hr,cond_false] at e;by_cases h4:S.length=4096
  ·rw [decide_eq_true h4] at e;cases e
  ·rw [decide_eq_false h4,cond_false] at e
   cases h5:(dl p S D.length D).isEmpty with
   |true=>rw [h5] at e;cases e
   |false=>
    rw [h5,cond_false] at e;obtain rfl:=Sum.inr.inj e; (have hl:(dl p S D.length D).length≠0:=fun e0=>by rw [List.eq_nil_of_length_eq_zero e0] at h5;cases h5);exact ⟨h.cut hok (zcJ _ _) (zds hok h.ok _ _ h.dec (hq.conf.1 hr)) hl h4,Int.le_refl _,by dsimp only;omega⟩
theorem zgV {σ : Type} (hok : eD p = true) (hv : ValidL hints) {f : (List (List GChoice) × List GChoice × Int × σ → Option GResult) → List (List GChoice) × List GChoice × Int × σ → Option GResult}
    (hf : ∀ next S D n e, InvS p S D → 0 ≤ n → n < 1000000 → f next (S, D, n, e) = match gY p hints b S D n with
      | .inl r => some r
      | .inr s => next (s.1, s.2.1, s.2.2, e)) : ∀ (k : Nat) (S : List (List GChoice)) (D : List GChoice) (n : Int) (e : σ) (M : Nat), InvS p S D → 0 ≤ n → n + (k : Int) < 1000000 → k ≤ M → f9 p hints b k S D n = some r → gJ f M (S, D, n, e) = some r
  | 0, S, D, n, e, M, h, h0, h1, hM, hr => by cases hr
  | k + 1, S, D, n, e, M, h, h0, h1, hM, hr => by
    obtain ⟨M', rfl⟩ : ∃ M', M = M' + 1 := ⟨M - 1, by omega⟩; rw [f9] at hr
    show f (gJ f M') (S, D, n, e) = some r
    rw [hf _ _ _ _ _ h h0 a6]
    cases hx : gY p hints b S D n with
    | inl q => rw [hx] at hr; exact hr
    | inr s =>
      rw [hx] at hr; obtain ⟨h2, h3, h4⟩ := zhj hok hv h hx; exact zgV hok hv hf k _ _ _ e M' h2 a6 a6 a6 hr
def zmG (o:List (List GChoice)×(List GChoice×Int×List GChoice×List GDomain×Bool×Int×List GChoice×List (List GChoice)×Int)):GResult:=⟨o.2.2.2.2.2.2.1,o.2.2.2.2.2.2.2.1,o.2.2.2.2.2.2.2.2.1,o.2.2.2.2.2.2.2.2.2⟩
abbrev StP:=Int×List (List GChoice)×List GChoice×Int×List GChoice×List GDomain×Bool×Int×List GChoice×List (List GChoice)×Int
abbrev OuP:=List (List GChoice)×(List GChoice×Int×List GChoice×List GDomain×Bool×Int×List GChoice×List (List GChoice)×Int)
theorem zeH (hok : eD p = true) (hv : ValidL hints) {f : (StP → Option OuP) → StP → Option OuP}
    (h1 : ∀ next S D dm cf n, InvS p S D → 0 ≤ n → n < 1000000 → (dU p S D).2 = true → f next (0, S, hints, b, D, dm, cf, 0, [], [], n) = next (2, S, hints, b, D, (dU p S D).1, false, 0, [], [], n))
    (h2 : ∀ next S D n, InvS p S D → 0 ≤ n → n < 1000000 → (dU p S D).2 = true → match gY p hints b S D n with
      | .inl r => ∃ o, zmG o = r ∧ f next (2, S, hints, b, D, (dU p S D).1, false, 0, [], [], n) = some o
      | .inr s => f next (2, S, hints, b, D, (dU p S D).1, false, 0, [], [], n) = next (0, s.1, hints, b, s.2.1, (dU p S D).1, false, 0, [], [], s.2.2))
    (h3 : ∀ next S D dm cf n, InvS p S D → 0 ≤ n → n < 1000000 → (dU p S D).2 = false → match gY p hints b S D n with
      | .inl r => ∃ o, zmG o = r ∧ f next (0, S, hints, b, D, dm, cf, 0, [], [], n) = some o
      | .inr s => ∃ dm' cf', f next (0, S, hints, b, D, dm, cf, 0, [], [], n) = next (0, s.1, hints, b, s.2.1, dm', cf', 0, [], [], s.2.2)) :
    ∀ (k : Nat) (S : List (List GChoice)) (D : List GChoice) (dm : List GDomain) (cf : Bool) (n : Int) (M : Nat), InvS p S D → 0 ≤ n → n + (k : Int) < 1000000 → 2 * k ≤ M → f9 p hints b k S D n = some r → ∃ o, zmG o = r ∧ gJ f M (0, S, hints, b, D, dm, cf, 0, [], [], n) = some o
  | 0, S, D, dm, cf, n, M, h, h0, hn, hM, hr => by cases hr
  | k + 1, S, D, dm, cf, n, M, h, h0, hn, hM, hr => by
    obtain ⟨M', rfl⟩ : ∃ M', M = M' + 1 + 1 := ⟨M - 2, by omega⟩; rw [f9] at hr; have hw : ∀ (m : Nat) (s : StP), gJ f (m + 1) s = f (gJ f m) s := fun _ _ => rfl
    cases hc : (dU p S D).2 with
    | true =>
      rw [hw, h1 _ _ _ _ _ _ h h0 a6 hc, hw]; have h4 := h2 (gJ f M') S D n h h0 a6 hc
      cases hx : gY p hints b S D n with
      | inl q =>
        rw [hx] at hr h4; obtain rfl := Option.some.inj hr; exact h4
      | inr s =>
        rw [hx] at hr h4; obtain ⟨g1, g2, g3⟩ := zhj hok hv h hx; dsimp only at h4; rw [h4]; exact zeH hok hv h1 h2 h3 k _ _ _ _ _ M' g1 a6 a6 a6 hr
    | false =>
      rw [hw]; have h4 := h3 (gJ f (M' + 1)) S D dm cf n h h0 a6 hc
      cases hx : gY p hints b S D n with
      | inl q =>
        rw [hx] at hr h4; obtain rfl := Option.some.inj hr; exact h4
      | inr s =>
        rw [hx] at hr h4; obtain ⟨g1, g2, g3⟩ := zhj hok hv h hx; obtain ⟨dm', cf', h4⟩ := h4; rw [h4]; exact zeH hok hv h1 h2 h3 k _ _ _ _ _ (M' + 1) g1 a6 a6 a6 hr
theorem zkB (hf:100000≤fuel)(hok:eD p=true)(hv:ValidL hints){k:Nat}(hk:k≤fuel)(hk2:k<1000000)(hr:f9 p hints b k [] [] 0=some r):zct fuel p hints b=some r:=by
 unfold zct;refine zgV (p:=p) (hints:=hints) (b:=b) hok hv (fun next S D n e h h0 hn=>?_) k [] [] 0 _ fuel InvS.nil (Int.le_refl _) a6 hk hr;have hd:=h.dec.len;have hle:=h.le
 show (zcb fuel p S D).bind _=_
 rw [zhl hf hok h.ok h.dec,Option.bind_some];have hq:=zfC hok h.ok h.dec;unfold gY
 cases hc:(dU p S D).2 with
 |true=>
  have hsub:SubP p (dU p S D).1:=by
   rcases hq with ⟨_,_,q3,_⟩|⟨q1,_⟩
   ·exact q3
   ·rw [q1] at hc;cases hc
  simp only [Bool.not_true,cond_false,cond_true];rcases zhg (zf0 hok hsub) hv with ⟨c,e1,e2,x,hx,e3,e4,e5,e6⟩|⟨e1,e2,e3⟩
  ·rw [e1];simp only [Option.bind_some,Option.getD_some,Bool.not_true,cond_false,cond_true]
   cases hb:decide (n=b) with
   |true=>rfl
   |false=>
    simp only [cond_false];rw [fA (by unfold dv;rw [List.length_append,List.length_singleton];omega),zia a6]
  ·rw [e1];simp only [Option.bind_some,Option.getD_some,Bool.not_false,cond_false,cond_true];have hl:=hsub.len;have:=(zeV hok).n;rw [zmV a6,Option.bind_some]
 |false=>
  obtain ⟨x1,x2⟩:True∧True:=⟨trivial,trivial⟩;simp only [Bool.not_false,cond_false,cond_true]
  have hre:zbA fuel p S D=some (dl p S D.length D):=by
   obtain ⟨t,_,ht,_⟩:=zoH (fuel:=fuel) hf hok;exact (zhP (t:=⟨t.domains,(t.start.1,t.start.2),S⟩) hf hok ⟨ht.pr,ht.st,ht.tb,h.ok⟩ h.dec).2
  rw [hre,Option.bind_some];have hs:=zcJ (p:=p) (S:=S) D.length D;by_cases h4:S.length=4096
  ·rw [decide_eq_true (show (S.length:Int)=4096 by omega),decide_eq_true h4];rfl
  ·rw [decide_eq_false (show ¬(S.length:Int)=4096 by omega),decide_eq_false h4,cond_false,cond_false,ziP hok (h.dec.sub hs),Option.bind_some,fA (by unfold dv;rw [List.length_append,List.length_singleton];omega)];by_cases h5:dl p S D.length D=[]
   ·rw [h5];rfl
   ·have hl:(dl p S D.length D).length≠0:=fun e=>h5 (List.eq_nil_of_length_eq_zero e)
    have h6:(dl p S D.length D).isEmpty=false:=by
     cases he:dl p S D.length D with
     |nil=>exact absurd he h5
     |cons a t=>rfl
    obtain ⟨_,_,_,k4⟩:=zjO hs hl a6;rw [decide_eq_false (show ¬((dl p S D.length D).length:Int)=0 by omega),h6,cond_false,cond_false,k4,Option.bind_some]
theorem zmH {t:GStore}(h:StN p t){g:List GChoice}(hl:t.list.length=4096)(hg:iG p g=true):∃c:Int,c≠0∧zat t g=some (c,t.list):=by
 unfold zat zak;rw [cond_false,zhc h.tb,Option.bind_some,hg,Bool.not_true,cond_false,decide_eq_true a6,cond_true];exact ⟨_,by decide,rfl⟩
theorem znK {g:List GChoice}(h:iG p g=true):g.length≤512:=by
 obtain ⟨hv,hh⟩:=fY.1 h;refine DecP.len (p:=p) ⟨hv.good,hh,?_⟩;rw [List.Nodup,List.pairwise_map]; (exact (zoy hv.inc).imp fun {a b} hab e=>by rw [e] at hab;exact Int.lt_irrefl _ hab)
theorem zlW {t:GStore}{x:Gsearch}{T:List (List GChoice)}(h1:zaT fuel x.decisions t=some [])(h2:zat t []=some (0,T))(h3:∀x∈T,x.length≤512)(h4:x.result.Learned.length+T.length≤10000):zaB fuel t x=some (true,T,(x.decisions,2,x.result.Learned++T)):=by
 have e:lV []=some []:=zfT b2 b2;unfold zaB;rw [h1,Option.bind_some,e,Option.bind_some,h2,Option.bind_some];simp only [decide_eq_false (show ¬ ¬(0:Int)=0 by omega),cond_false,dV];have hl:decide ((([]:List GChoice).length:Int)=0)=true:=rfl;rw [hl,cond_true,fA (fun y hy=>by have:=h3 y hy;unfold dv;omega)];refine kO (fun i (s:List GChoice×Int×List (List GChoice))=>s=(x.decisions,2,x.result.Learned++T.take i)) (fun o=>o=_) b2 (fun s hs=>?_) (fun i s next hi hs hnx=>?_)
 ·rw [hs,Nat.sub_zero,List.take_length]
 ·rw [Nat.sub_zero] at hi;subst hs;dsimp only;rw [fA (by unfold dv;rw [List.length_append,List.length_append,List.length_singleton,List.length_take];omega)];exact hnx _ (by rw [mS hi,List.append_assoc])
theorem znJ (hf:100000≤fuel)(hok:eD p=true)(hv:ValidL hints)(hb:0≤b∧b≤100000){k:Nat}(hk:2*k≤fuel)(hk2:k<1000000)(hr:f9 p hints b k [] [] 0=some r):zbn fuel p hints b=some (r,0):=by
 have hp:kE hints=true:=by
  rw [zej];exact ex.2 hv
 obtain ⟨t,g1,g2,g3⟩:=zoH (fuel:=fuel) hf hok;have hst:∀ {S D},InvS p S D→StN p ⟨t.domains,(t.start.1,t.start.2),S⟩:=fun h=>⟨g2.pr,g2.st,g2.tb,h.ok⟩;unfold zbn;rw [hok,hp,decide_eq_false a6,decide_eq_false a6];simp only [Bool.not_true,Bool.or_self,cond_false,g1,Option.bind_some,Option.isSome_some,cond_true,Option.getD_some,decide_eq_false (show ¬ ¬(0:Int)=0 by omega)]
 have key:∃o,zmG o=r∧zaG fuel t (Gsearch.mk () hints b [] [] false (GResult.mk 0 [] [] 0))=some o:=by
  unfold zaG;simp only [g3];refine zeH (p:=p) (hints:=hints) (b:=b) hok hv (fun next S D dm cf n h h0 hn hc=>?_) (fun next S D n h h0 hn hc=>?_) (fun next S D dm cf n h h0 hn hc=>?_) k [] [] [] false 0 fuel InvS.nil (Int.le_refl _) a6 hk hr
  ·obtain ⟨r1,r2⟩:=zig (t:=⟨t.domains,(t.start.1,t.start.2),S⟩) hf hok (hst h) h.dec;dsimp only at r2 ⊢;simp only [dV,decide_true,cond_true];rw [r1,Option.bind_some,r2,Option.bind_some];simp only [hc,Bool.not_true,Bool.not_false,cond_true]
  ·have hq:=zfC hok h.ok h.dec;have hd:=h.dec.len
   have hsub:SubP p (dU p S D).1:=by
    rcases hq with ⟨_,_,q3,_⟩|⟨q1,_⟩
    ·exact q3
    ·rw [q1] at hc;cases hc
   have hcl:∀x∈(dU p S D).1,x.Channels≠[]:=by
    rcases hq with ⟨_,q2,_⟩|⟨q1,_⟩
    ·exact q2.cl.ne
    ·rw [q1] at hc;cases hc
   have hl:=hsub.len;have hn512:=(zeV hok).n;unfold gY;rw [hc,cond_true];have hu:∀(X Y Z:Option OuP),(bif decide ((2:Int)=0) then X else bif decide ((2:Int)=1) then Y else bif decide ((2:Int)=2) then Z else X)=Z:=fun _ _ _=>rfl;simp only [dV,decide_eq_false (show ¬(2:Int)=0 by decide),decide_eq_false (show ¬(2:Int)=1 by decide),decide_true,cond_false,cond_true];unfold zaM;dsimp only;rcases zhg (zf0 hok hsub) hv with ⟨c,e1,e2,x,hx,e3,e4,e5,e6⟩|⟨e1,e2,e3⟩
   ·rw [e1,e2];simp only [Option.bind_some,Option.getD_some,cond_true,decide_eq_false (show ¬ ¬(0:Int)=0 by omega),cond_false]
    cases hnb:decide (n=b) with
    |true=>exact ⟨_,rfl,rfl⟩
    |false=>
     simp only [cond_false];rw [fA (by unfold dv;rw [List.length_append,List.length_singleton];omega),zia a6];rfl
   ·rw [e1,e2];simp only [Option.bind_some,Option.getD_some,cond_false,decide_eq_true (show ¬(9:Int)=0 by omega),cond_true,dV];refine ⟨(S,(hints,b,D,(dU p S D).1,false,1,fm (dU p S D).1,[],n)),rfl,?_⟩;generalize hdm:(dU p S D).1=d at*
    have hfx:fm d=d.map fun x=>⟨x.Station,cH x.Channels 0⟩:=by
     unfold fm
     rw [List.filter_eq_self.2 (fun x hx=>decide_eq_true (by
      have h1:=e3 x hx;have h2:x.Channels.length≠0:=fun h0=>hcl x hx (List.eq_nil_of_length_eq_zero h0)
      omega))]
    refine kO (fun i (s:List GChoice×Int×List GChoice×List GDomain×Bool×Int×List GChoice×List (List GChoice)×Int)=>s=(hints,b,D,d,false,1,(d.take i).map (fun x=>(⟨x.Station,cH x.Channels 0⟩:GChoice)),[],n)) (fun o=>Option.bind o _=_) rfl (fun s hs=>?_) (fun i s next hi hs hnx=>?_)
    ·rw [hs,Nat.sub_zero,List.take_length,hfx];rfl
    ·rw [Nat.sub_zero] at hi;have h2:(cH d i).Channels.length≠0:=fun h0=>hcl _ (eF hi) (List.eq_nil_of_length_eq_zero h0); (have hlen:(d.take i).length≤512:=by rw [List.length_take];omega);subst hs;dsimp only;rw [fA ⟨by omega,by omega⟩,fA (by unfold dv;rw [List.length_append,List.length_singleton,List.length_map];omega)];exact hnx _ (by rw [mS hi,List.map_append];rfl)
  ·obtain ⟨r1,r2⟩:=zig (t:=⟨t.domains,(t.start.1,t.start.2),S⟩) hf hok (hst h) h.dec;obtain ⟨a1,_⟩:=zhP (t:=⟨t.domains,(t.start.1,t.start.2),S⟩) hf hok (hst h) h.dec;have hs:=zcJ (p:=p) (S:=S) D.length D;have hdr:=h.dec.sub hs;have hd:=h.dec.len;have hle:=h.le;have hrl:=hdr.len;have hkn:=ziQ hdr;have hsl:(gQ (dl p S D.length D)).length=(dl p S D.length D).length:=(ml _).length_eq;dsimp only at r2 a1
   have hrun:∀ {X:List GDomain×Bool×Int→Option OuP} {Y:List GChoice→Option OuP},((lV D).bind fun r21=>(zap fuel ⟨t.domains,(t.start.1,t.start.2),S⟩ r21).bind X)=X ((dU p S D).1,!(dU p S D).2,0):=fun {X Y}=>by
    rw [r1,Option.bind_some,r2,Option.bind_some]
   simp only [dV,decide_true,cond_true];rw [hrun (Y:=fun _=>none)];simp only [hc,Bool.not_true,Bool.not_false,cond_false];unfold gY;by_cases h5:S.length≠4096∧dl p S D.length D=[]
   ·obtain ⟨h4,h5⟩:=h5
    have hall:∀x∈S++[[]],x.length≤512:=fun x hx=>by
     rcases List.mem_append.1 hx with hx|hx
     ·exact znK (h.ok x hx)
     ·rw [List.mem_singleton.1 hx];simp
    have hadd:zat ⟨t.domains,(t.start.1,t.start.2),S⟩ []=some (0,S++[[]]):=by
     rw [zok (t:=⟨t.domains,(t.start.1,t.start.2),S⟩) (hst h) b3 b2,h5] at*
     rfl
    rw [zlW (by rw [a1,h5]) hadd hall (by rw [List.length_append,List.length_singleton];show 0+_≤_;omega),hc,cond_false,decide_eq_false h4,cond_false,h5];exact ⟨_,rfl,rfl⟩
   unfold zaB;dsimp only;rw [hc,cond_false,a1,Option.bind_some,zfT hdr.nd a6,Option.bind_some];by_cases h4:S.length=4096
   ·obtain ⟨c,c0,c1⟩:=zmH (t:=⟨t.domains,(t.start.1,t.start.2),S⟩) (hst h) h4 hkn;rw [c1,decide_eq_true h4];simp only [Option.bind_some,decide_eq_true c0,cond_true];exact ⟨_,rfl,rfl⟩
   ·rw [zok (t:=⟨t.domains,(t.start.1,t.start.2),S⟩) (hst h) b3 a6,hkn,decide_eq_false h4];simp only [Option.bind_some,cond_true,cond_false,decide_eq_false (show ¬ ¬(0:Int)=0 by omega)];by_cases h6:dl p S D.length D=[]
    ·exact absurd ⟨h4,h6⟩ h5
    ·have hl:(dl p S D.length D).length≠0:=fun e=>h6 (List.eq_nil_of_length_eq_zero e)
     have h7:(dl p S D.length D).isEmpty=false:=by
      cases he:dl p S D.length D with
      |nil=>exact absurd he h6
      |cons a t=>rfl
     obtain ⟨k1,_,k3,_⟩:=zjO hs hl a6;rw [decide_eq_false (show ¬((dl p S D.length D).length:Int)=0 by omega),h7,cond_false,cond_false,k3,fA ⟨by omega,by omega⟩,fA ⟨by omega,by omega⟩];exact ⟨_,_,rfl⟩
 obtain ⟨o,h1,h2⟩:=key;rw [h2,←h1];rfl
theorem zkK (hok:eD p=true→ValidL hints→¬(0≤b∧b≤100000)):zbn fuel p hints b=some (⟨0,[],[],0⟩,2):=by
 have e:((((!(eD p))||(!(kE hints)))||(decide (b<0)))||(decide (100000<b)))=true:=by
  cases h1:eD p with
  |false=>rfl
  |true=>
   cases h2:kE hints with
   |false=>rfl
   |true=>
    have hv:ValidL hints:=ex.1 (by rw [←zej];exact h2);have:=hok h1 hv;rw [Bool.not_true,Bool.or_self,Bool.false_or,Bool.or_eq_true,decide_eq_true_eq,decide_eq_true_eq];omega
 unfold zbn;rw [e];rfl
end
theorem zlu {p:GProblem}{fuel:Nat}(hf:100000≤fuel):∃r,zcz fuel p=some r:=by
 unfold zcz;obtain ⟨r,hr⟩:=znz (p:=p) (a:=9) (b:=40) (fuel:=fuel) a6;rw [hr];exact ⟨_,rfl⟩
theorem zlC (r:GResult):zbE r r=true:=by
 unfold zbE;rw [zfi,zmk];simp
theorem zj5 {p:GProblem}{hints:List GChoice}{b:Int}(hok:eD p=true)(hv:ValidL hints)(hb:0≤b∧b≤120):∃r,f9 p hints b 250 [] [] 0=some r:=
 zgB hok hv 250 [] [] 0 InvS.nil hb.1 (by show 2* (b - 0).toNat+0<250;omega)
theorem zhs {fuel:Nat}(hf:100000≤fuel)(p:GProblem)(hints:List GChoice)(budget:Int):zbN fuel p hints budget=some true:=by
 have hk:=zlN hf;obtain ⟨r,hr⟩:=zlu (p:=p) hf;unfold zbN;rw [hr,Option.bind_some]
 cases hc:(((!r)||(decide (20<(hints.length:Int))))||((decide (60<budget))&&(decide (budget≤100000)))) with
 |true=>rw [cond_true,hk];rfl
 |false=>
  rw [Bool.or_eq_false_iff,Bool.or_eq_false_iff,Bool.and_eq_false_iff,decide_eq_false_iff_not,decide_eq_false_iff_not,decide_eq_false_iff_not] at hc;obtain ⟨⟨_,h1⟩,h2⟩:=hc;rw [cond_false,fA (by unfold dv;rw [List.nil_append];omega)]; (have hsl:zaV ([]++hints) hints=true:=by rw [zfi];simp);rw [show ([]:List GChoice)++hints=hints from rfl] at hsl ⊢;rw [hsl,znu];simp only [dV,Bool.not_true,cond_false,Option.bind_some];by_cases hg:eD p=true∧zaO hints=true∧0≤budget∧budget≤100000
  ·obtain ⟨hok,hvl,hb1,hb2⟩:=hg;have hv:ValidL hints:=ex.1 (by rw [←zfy];exact hvl);obtain ⟨s,hs⟩:=zj5 hok hv (b:=budget) a6;rw [znJ hf hok hv ⟨hb1,hb2⟩ (k:=250) a6 a6 hs,zkB hf hok hv (k:=250) a6 a6 hs,hok,hvl,decide_eq_false a6,decide_eq_false a6];simp only [Bool.not_true,Bool.or_self,cond_false,Option.bind_some,decide_true,cond_true,zlC,hk]
  ·have hbad:((((!(eD p))||(!(zaO hints)))||(decide (budget<0)))||(decide (100000<budget)))=true:=by
    cases h3:eD p with
    |false=>rfl
    |true=>
     cases h4:zaO hints with
     |false=>rfl
     |true=>
      rw [Bool.not_true,Bool.or_self,Bool.false_or,Bool.or_eq_true,decide_eq_true_eq,decide_eq_true_eq];have:¬(0≤budget∧budget≤100000):=fun h5=>hg ⟨h3,h4,h5⟩;omega
   rw [zkK (fun h3 h4 h5=>hg ⟨h3,by rw [zfy];exact ex.2 h4,h5⟩),hbad];simp only [Option.bind_some,cond_true,zlC,decide_true,hk]
end Go.Proofs.YtgoeeefoinkepaaGreatDoor
namespace Go.Proofs.YtgoeeefoinkepaaGreatDoor
open Go.RowKit Go.ChangeShapes Go.WideShapes Go.Deep
def Opens {H:Type}(enc:TypeId×Value→H)(w:World)(base:Nat)(spare:Nat→Bool)(held:Bool)(t:TypeId){α:Type}(R:List Value→α→Prop):Prop:=
 ∀fuel cs y,DataW.trod enc Tryz.prog w base spare held fuel t cs=some y→∃x,R cs x
section
variable {H:Type}{enc:TypeId×Value→H}{w:World}{base:Nat}{spare:Nat→Bool}{held:Bool}
theorem Opens.int {t:TypeId}(ht:Tryz.prog.underlying t=some (.int .i64)):Opens enc w base spare held t (fun cs (x:Int)=>cs=[.int .i64 x]):=fun fuel cs y h=>by
 obtain ⟨k,hk,_⟩:=DataW.trod_int ht h;exact ⟨k,hk⟩
theorem znU {a:Addr}{v:Value}(h:w.cell? a=some v):Cb w a.block:=by
 unfold World.cell? at h
 split at h
 all_goals (first|exact ⟨_,_,_,by assumption⟩|simp at h|skip)
theorem Opens.any {t e : TypeId} {k : Nat} {α : Type} [Inhabited α] {R : List Value → α → Prop} (ht : Tryz.prog.underlying t = some (.slice e)) (hk : Tryz.prog.cellsOf e = k) (hpos : 0 < k) (ho : Opens enc w base spare held e R) :
    Opens enc w base spare held t (fun cs (l : List α) => ∃ v c, cs = [v] ∧ SlC (Frz.all w) v k c ∧ c.length = l.length ∧ ∀ i, i < l.length → R (cH c i) (cH l i)) := fun fuel cs y h => by
  rcases open_slice ht h with ⟨h0, _⟩ | ⟨a, len, cap, m, n, D, Pl, hcs, hb, hl, hm, hmm, _, hx⟩
  · exact ⟨[], _, [], h0, SlC.nil _ _, rfl, fun i hi => absurd hi (Nat.not_lt_zero i)⟩
  · subst hcs; (have hlm : len ≤ m := by rw [hmm]; split <;> omega)
    have each : ∀ i, i < m → ∃ x : List Value × α, x.1.length = k ∧ R x.1 x.2 ∧ ∀ j, j < k → w.cell? (a.add (i * k + j)) = x.1[j]? := fun i hi => by
      obtain ⟨cs', h1, h2⟩ := hx i hi; rw [hk] at h1; obtain ⟨_, hlen, hcell⟩ := World.cells?_some h1; obtain ⟨x, hR⟩ := ho _ _ _ h2; exact ⟨(cs', x), hlen, hR, fun j hj => by rw [← hcell j hj, add_add]⟩
    obtain ⟨X, hX⟩ := choose_lt each
    have hn : ∀ i, i < len → cH ((List.range len).map fun i => (X i).1) i = (X i).1 := fun i hi => by
      rw [d5 (by simpa using hi)]; simp
    have hn2 : ∀ i, i < len → cH ((List.range len).map fun i => (X i).2) i = (X i).2 := fun i hi => by
      rw [d5 (by simpa using hi)]; simp
    refine ⟨(List.range len).map fun i => (X i).2, _, (List.range len).map fun i => (X i).1, rfl, ⟨some a, cap, by simp, by simpa using hl, by unfold maxLen at hm; omega, fun c hc => ?_, fun hp => ?_⟩, by simp, fun i hi => ?_⟩
    · simp at hc; obtain ⟨i, hi, rfl⟩ := hc; exact (hX i a6).1
    · (have hp' : 0 < len := by simpa using hp); have c0 := (hX 0 a6).2.2 0 hpos; have hx0 := (hX 0 a6).1; rw [List.getElem?_eq_getElem a6] at c0; have hcb := znU c0; have hs := World.cell?_spot c0; simp [Addr.add] at hs hcb; obtain ⟨b, off, sp⟩ := a; simp at hs hcb; subst hs; refine ⟨b, off, rfl, hcb, fun i hi j hj => ?_⟩; simp at hi; rw [hn i hi] at hj ⊢; have hxi := hX i a6; have := hxi.2.2 j a6;refine Eq.trans ?_ this
      show w.cell? _ = _
      rw [lT, Nat.add_assoc]
    · simp at hi; rw [hn i hi, hn2 i hi]; exact (hX i a6).2.1
theorem gr {t e : TypeId} {k : Nat} {α : Type} [Inhabited α] {en : α → List Value} (ht : Tryz.prog.underlying t = some (.slice e)) (hk : Tryz.prog.cellsOf e = k) (hpos : 0 < k) (ho : Opens enc w base spare held e (fun cs (x : α) => cs = en x)) :
    Opens enc w base spare held t (fun cs (l : List α) => ∃ v, cs = [v] ∧ SlC (Frz.all w) v k (l.map en)) := fun fuel cs y h => by
  obtain ⟨l, v, c, h1, h2, h3, h4⟩ := Opens.any ht hk hpos ho _ _ _ h;refine ⟨l, v, h1, ?_⟩
  have : c = l.map en := by
    apply List.ext_getElem (by simpa using h3); intro i hi hi2; rw [← d5 hi, h4 i a6, List.getElem_map, d5 a6]
  rw [← this]; exact h2
theorem Opens.bytes {t e : TypeId} (ht : Tryz.prog.underlying t = some (.slice e)) (he : Tryz.prog.underlying e = some (.int .u8)) (hk : Tryz.prog.cellsOf e = 1) :
    Opens enc w base spare held t (fun cs (l : List Int) => ∃ v, cs = [v] ∧ SlC (Frz.all w) v 1 (l.map (eK .u8)) ∧ ∀ x ∈ l, 0 ≤ x ∧ x ≤ 255) := fun fuel cs y h => by
  have ho : Opens enc w base spare held e (fun cs (x : Int) => cs = eK .u8 x ∧ (0 ≤ x ∧ x ≤ 255)) := fun fuel cs y h => by
    obtain ⟨k, h1, _, h2⟩ := DataW.trod_int he h;refine ⟨k, h1, ?_⟩; (have e1 : IntKind.u8.min = 0 := by decide); (have e2 : IntKind.u8.max = 255 := by decide); simp only [Lit.wf, e1, e2, Bool.and_eq_true, decide_eq_true_eq] at h2; exact h2
  obtain ⟨l, v, c, h1, h2, h3, h4⟩ := Opens.any ht hk a7 ho _ _ _ h; refine ⟨l, v, h1, ?_, fun x hx => ?_⟩
  · have : c = l.map (eK .u8) := by
      apply List.ext_getElem (by simpa using h3); intro i hi hi2; rw [← d5 hi, (h4 i a6).1, List.getElem_map, d5 a6]
    rw [← this]; exact h2
  · obtain ⟨i, hi, e⟩ := List.mem_iff_getElem.1 hx; have := (h4 i hi).2; rw [d5 hi, e] at this; exact this
theorem lS {t e : TypeId} {k : Nat} {α : Type} [Inhabited α] {rep : Frz → List Value → α → Prop} (ht : Tryz.prog.underlying t = some (.slice e)) (hk : Tryz.prog.cellsOf e = k) (hpos : 0 < k) (ho : Opens enc w base spare held e (rep (Frz.all w))) :
    Opens enc w base spare held t (fun cs (l : List α) => ∃ v c, cs = [v] ∧ SlD rep (Frz.all w) v k c l) := fun fuel cs y h => by
  obtain ⟨l, v, c, h1, h2, h3, h4⟩ := Opens.any ht hk hpos ho _ _ _ h; exact ⟨l, v, c, h1, h2, h3, h4⟩
end
end Go.Proofs.YtgoeeefoinkepaaGreatDoor
