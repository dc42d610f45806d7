/- Nh Ni Of: shortened and put together by squeeze.py. -/
import Derived.Test.YtbpbhbkcahcdiaaGreatDoorQ11
import Derived.Deep.Slices
import Derived.ChangeArms
set_option maxRecDepth 100000
set_option maxHeartbeats 4000000
set_option linter.unusedVariables false
set_option linter.unusedSectionVars false
set_option linter.unusedSimpArgs false
namespace Go.Proofs.YtbpbhbkcahcdiaaGreatDoor
open Go.RowKit
def QN (p:GProblem)(S:List (List GChoice))(d:List GDomain)(r:List GDomain×Bool):Prop:=
 (r.2=true∧ClosedN p S r.1∧SubP p r.1∧SubD r.1 d∧∀e,ClosedN p S e→SubD e d→SubD e r.1)∨(r=([],false)∧∀e,ClosedN p S e→¬SubD e d)
def R21 (p:GProblem)(S:List (List GChoice))(d:List GDomain)(s c:Int):Bool:=(S.any fun g=>remN d g s c)||remP p d s c
section
variable {p:GProblem}{S S':List (List GChoice)}{d a b:List GDomain}{t:GStore}{fuel:Nat}{l:List GChoice}
theorem zlT (hok:okG p=true)(ha:SubP p a)(hb:SubP p b)(h1:SubD a b)(h2:SubD b a):a=b:=by
 obtain ⟨_,hbd,_,_⟩:=zht hok;refine zc8 h1.1 fun i hi=>?_; (have hi':i<b.length:=by rw [←h1.1];exact hi); (have hp:i<p.Domains.length:=by rw [←ha.len];exact hi);have hch:(nth a i).Channels=(nth b i).Channels:=zcG (ha.ord i hp) (hb.ord i hp) (hbd.ch _ (zak hp)).2 (fun x=>⟨(h1.2 i hi').2 x,(h2.2 i hi).2 x⟩);have hst:=(h1.2 i hi').1
 cases hx:nth a i;cases hy:nth b i
 rw [hx,hy] at hch hst;simp only at hch hst;rw [hch,hst]
theorem QN.eq {r r':List GDomain×Bool}(hok:okG p=true)(h:QN p S d r)(h':QN p S d r'):r=r':=by
 rcases h with ⟨h1,h2,h3,h4,h5⟩|⟨h1,h2⟩
 ·rcases h' with ⟨g1,g2,g3,g4,g5⟩|⟨g1,g2⟩
  ·exact Prod.ext (zlT hok h3 g3 (g5 _ h2 h4) (h5 _ g2 g4)) (h1.trans g1.symm)
  ·exact absurd h4 (g2 _ h2)
 ·rcases h' with ⟨g1,g2,g3,g4,g5⟩|⟨g1,g2⟩
  ·exact absurd g4 (h2 _ g2)
  ·rw [h1,g1]
theorem ClosedN.mono (h:ClosedN p S d)(hs:∀g∈S',g∈S):ClosedN p S' d:=⟨h.cl,fun g hg=>h.ne g (hs g hg),fun g hg=>h.calm g (hs g hg)⟩
theorem QN.congr {r:List GDomain×Bool}(h:QN p S d r)(hs:∀g,g∈S↔g∈S'):QN p S' d r:=by
 have f:∀ {e},ClosedN p S' e→ClosedN p S e:=fun he=>he.mono fun g hg=>(hs g).1 hg;rcases h with ⟨h1,h2,h3,h4,h5⟩|⟨h1,h2⟩
 ·exact .inl ⟨h1,h2.mono fun g hg=>(hs g).2 hg,h3,h4,fun e he=>h5 e (f he)⟩
 ·exact .inr ⟨h1,fun e he=>h2 e (f he)⟩
theorem R21.mono (hok:okG p=true):MonoR (R21 p S):=fun a b s c h hr=>by
 unfold R21 at hr ⊢;rw [Bool.or_eq_true,List.any_eq_true] at hr ⊢;rcases hr with ⟨g,hg,hr⟩|hr
 ·refine .inl ⟨g,hg,?_⟩;unfold remN at hr ⊢;rw [Bool.and_eq_true,List.all_eq_true] at hr ⊢;refine ⟨hr.1,fun x hx=>?_⟩;have:=hr.2 x hx;rw [Bool.or_eq_true] at this ⊢;exact this.imp id (zcy h)
 ·exact .inr (zfj (zht hok).1 h hr)
theorem zgb (hf:100000≤fuel)(hok:okG p=true)(h:StN p t)(hl:ValidL l)(hs:∀c∈l,zbK p c.Station=true):∃r:List GDomain×Bool,zae fuel t l=some (r.1,!r.2,0)∧QN p t.list (dK p l) r:=by
 rcases run_x hf hok h hl hs with ⟨m,q1,q2,q3,q4,q5⟩|⟨q1,q2⟩
 ·exact ⟨(m.1,true),q1, .inl ⟨rfl,q2,q3,q4,q5⟩⟩
 ·exact ⟨([],false),q1, .inr ⟨rfl,q2⟩⟩
theorem zes (hok:okG p=true)(h:StN p t)(hl:ValidL l)(hs:¬ ∀c∈l,zbK p c.Station=true):zae fuel t l=some ([],false,9):=by
 unfold zae zaf;rw [cond_false,zdo,validL_iff.2 hl,Bool.not_true,cond_false];simp only [zaw,Nat.sub_zero];refine za5 (fun i _=>∀j,j<i→zbK p (nth l j).Station=true) (fun o=>o=some ([],false,9)) (fun j hj=>absurd hj (Nat.not_lt_zero j)) (fun _ h=>?_) (fun i _ next hi hI hn=>?_)
 ·exact absurd (fun c hc=>by obtain ⟨j,hj,rfl⟩:=zaQ hc;exact h j hj) hs
 ·have hg:=hl.good _ (zak hi);rw [zaO (by omega),h.tb.zero (zgx hok) (by omega)]
  cases hh:zbK p (nth l i).Station with
  |false=>rfl
  |true=>
   rw [Bool.not_true,cond_false];refine hn () fun j hj=>?_;rcases Nat.lt_or_ge j i with h1|h1
   ·exact hI j h1
   ·rw [show j=i by omega];exact hh
theorem zlv {n:Nat}:SubD (dK p l) (dK p (l.take n)):=by
 have key:∀(r:List GChoice) (d:List GDomain),SubD (r.foldl (fun d c=>d.map (actC true c)) d) d:=by
  intro r
  induction r with
  |nil=>exact fun d=> .refl _
  |cons c r ih=>exact fun d=>(ih _).trans (zdG true c).subD.1
 have:=key (l.drop n) (dK p (l.take n));unfold dK at this ⊢;rw [←List.foldl_append,List.take_append_drop] at this;exact this
theorem ValidL.take (h:ValidL l)(n:Nat):ValidL (l.take n):=by
 refine ⟨fun x hx=>h.good x (List.mem_of_mem_take hx),fun i j hij hj=>?_⟩;rw [List.length_take] at hj;rw [zap (by rw [List.length_take];omega),zap (by rw [List.length_take];omega),List.getElem_take,List.getElem_take];have:=h.inc i j hij (by omega)
 rwa [zap (by omega),zap (by omega)] at this
end
section
variable {p:GProblem}{fuel:Nat}
theorem zkL (hf:100000≤fuel)(p:GProblem)(l:List (List GChoice)):∃b,zb3 fuel p l=some b∧(b=true→l.length≤12∧∀g∈l,g.length≤20):=by
 unfold zb3;obtain ⟨b,hb⟩:=zlk (p:=p) (a:=10) (b:=40) (fuel:=fuel) (by omega);obtain ⟨b2,hb2,hb3⟩:=zjo (fuel:=fuel) (l:=l) (most:=12) (by omega) hf;rw [hb];simp only [zaw,Option.bind_some,hb2];refine ⟨b&&b2,by cases b <;> rfl,fun h=>?_⟩;rw [Bool.and_eq_true] at h;have:=hb3 h.2;exact ⟨by omega,this.2⟩
theorem rev_x (l:List (List GChoice))(hl:l.length≤1000){ρ:Type}(k:List (List GChoice)→Option ρ):zeW (fun (i:Nat) (next:List (List GChoice)→Option ρ) (s:List (List GChoice))=>grd (room (s++[nth l i]).length 24) <| next (s++[nth l i])) (fun s=>k s) l.length []=k l.reverse:=by
 refine zhi (σ:=List (List GChoice)) (fun m s=>s=(l.drop m).reverse) (fun o=>o=k l.reverse) (by simp) (fun s hs=>by rw [hs,List.drop_zero]) (fun i s next hi hs hn=>?_); (have hlen:s.length≤1000:=by rw [hs,List.length_reverse,List.length_drop];omega);rw [zaO (by simp only [room,List.length_append,List.length_singleton];omega)];refine hn _ ?_;rw [hs,List.drop_eq_getElem_cons hi,List.reverse_cons,zap hi]
theorem zgP (hf:100000≤fuel)(l:List (List GChoice))(a:List GChoice)(n c:Int):zbz fuel p l a n c=some true:=by
 have hkn:=zjx hf;unfold zbz;obtain ⟨b,hb,hsz⟩:=zkL hf p l;rw [hb,Option.bind_some];simp only [zaw,hkn,Option.bind_some]
 cases b with
 |false=>rfl
 |true=>
  obtain ⟨z1,z2⟩:=hsz rfl;rw [Bool.not_true,cond_false];by_cases h1:(20:Int)<(a.length:Int)
  ·rw [decide_eq_true h1];rfl
  rw [decide_eq_false h1,cond_false];by_cases h2:n<0
  ·rw [decide_eq_true h2];rfl
  rw [decide_eq_false h2,cond_false];by_cases h3:(l.length:Int)<n
  ·rw [decide_eq_true h3];rfl
  rw [decide_eq_false h3,cond_false];by_cases h4:c<0
  ·rw [decide_eq_true h4];rfl
  rw [decide_eq_false h4,cond_false];by_cases h5:(a.length:Int)<c
  ·rw [decide_eq_true h5];rfl
  rw [decide_eq_false h5,cond_false,zi7,Option.bind_some]
  cases hok:okG p with
  |false=>rfl
  |true=>
   rw [Bool.not_true,cond_false,zeJ]
   cases hv:(List.range a.length).all (zeG a) with
   |false=>rfl
   |true=>
    have hl:=validL_iff.1 hv; (have sz:∀ {g},g∈l→g.length≤1000:=fun hg=>by have:=z2 _ hg;omega);obtain ⟨t,t1,t2,t3⟩:=zjg (p:=p) (fuel:=fuel) hf hok (l:=l) (by omega) (fun g hg=>sz hg);obtain ⟨u,u1,u2,u3⟩:=zjg (p:=p) (fuel:=fuel) hf hok (l:=l.reverse) (by rw [List.length_reverse];omega) (fun g hg=>sz (List.mem_reverse.1 hg));obtain ⟨v,v1,v2,v3⟩:=zjg (p:=p) (fuel:=fuel) hf hok (l:=l.take n.toNat) (by rw [List.length_take];omega) (fun g hg=>sz (List.mem_of_mem_take hg));rw [Bool.not_true,cond_false,rev_x l (by omega)];simp only [t1,u1,v1,Option.bind_some,Option.isSome_some,cond_true,Option.getD_some,Nat.sub_zero];rw [zaO (by omega)]; (have hmem:∀g,g∈u.list↔g∈t.list:=fun g=>by rw [t3,u3,List.mem_filter,List.mem_filter,List.mem_reverse])
    have hsub:∀g∈v.list,g∈t.list:=fun g hg=>by
     rw [v3,List.mem_filter] at hg;rw [t3,List.mem_filter];exact ⟨List.mem_of_mem_take hg.1,hg.2⟩
    have hlt:=hl.take c.toNat;by_cases hs:∀c∈a,zbK p c.Station=true
    ·obtain ⟨r,q1,q2⟩:=zgb hf hok t2 hl hs;obtain ⟨r',q3,q4⟩:=zgb hf hok u2 hl hs;obtain rfl:=q2.eq hok (q4.congr hmem);obtain ⟨y,q5,q6⟩:=zgb hf hok v2 hlt (fun x hx=>hs x (List.mem_of_mem_take hx));rw [q1,q3,Option.bind_some,Option.bind_some,zaO (by omega),q5,Option.bind_some];dsimp only;rw [zgf,decide_eq_true (show r.1=r.1 from rfl)];simp only [not_true_eq_false,decide_false,beq_self_eq_true,Bool.not_true,Bool.or_self,Bool.or_false,Bool.false_or,cond_false]
     cases h6:r.2 with
     |false=>rfl
     |true=>
      rw [Bool.not_true,cond_false];rcases q2 with ⟨_,g2,g3,g4,g5⟩|⟨h7,_⟩
      ·have hcv:=g2.mono hsub;have hdt:=g4.trans (zlv (n:=c.toNat));rcases q6 with ⟨y1,y2,y3,y4,y5⟩|⟨_,y2⟩
       ·have hry:=y5 _ hcv hdt;rw [y1,Bool.not_true,Bool.false_or,decide_eq_false (by rw [hry.1];simp),cond_false];refine za5 (fun _ _=>True) (fun o=>o=some true) trivial (fun _ _=>rfl) (fun i _ next hi _ hn=>?_);refine za5 (fun _ _=>True) (fun o=>o=some true) trivial (fun _ _=>hn () trivial) (fun k _ next' hk _ hn'=>?_);have h8:=(hry.2 i (by rw [←hry.1];exact hi)).2 _ (zak hk)
        have e:zbc (nth y.1 i).Channels (nth (nth r.1 i).Channels k)=true:=by
         rw [zlF,List.any_eq_true];exact ⟨_,h8,by simp⟩
        rw [e,Bool.not_true,cond_false];exact hn' () trivial
       ·exact absurd hdt (y2 _ hcv)
      ·rw [h7] at h6;cases h6
    ·rw [zes hok t2 hl hs,zes hok u2 hl hs,Option.bind_some,Option.bind_some,zaO (by omega)]
     have hy:∃y,zae fuel v (a.take c.toNat)=some y:=by
      by_cases hs':∀x∈a.take c.toNat,zbK p x.Station=true
      ·obtain ⟨y,h7,_⟩:=zgb hf hok v2 hlt hs';exact ⟨_,h7⟩
      ·exact ⟨_,zes hok v2 hlt hs'⟩
     obtain ⟨y,hy⟩:=hy;rw [hy,Option.bind_some]
     rfl
end
end Go.Proofs.YtbpbhbkcahcdiaaGreatDoor
namespace Go.Proofs.YtbpbhbkcahcdiaaGreatDoor
open Go.RowKit Go.ChangeShapes Go.WideShapes Go.Deep
def Opens {H:Type}(enc:TypeId×Value→H)(w:World)(base:Nat)(spare:Nat→Bool)(held:Bool)(t:TypeId){α:Type}(R:List Value→α→Prop):Prop:=
 ∀fuel cs y,DataW.trod enc Tryz.prog w base spare held fuel t cs=some y→∃x,R cs x
section
variable {H:Type}{enc:TypeId×Value→H}{w:World}{base:Nat}{spare:Nat→Bool}{held:Bool}
theorem Opens.int {t:TypeId}(ht:Tryz.prog.underlying t=some (.int .i64)):Opens enc w base spare held t (fun cs (x:Int)=>cs=[.int .i64 x]):=fun fuel cs y h=>by
 obtain ⟨k,hk,_⟩:=DataW.trod_int ht h;exact ⟨k,hk⟩
theorem zln {a:Addr}{v:Value}(h:w.cell? a=some v):Cb w a.block:=by
 unfold World.cell? at h
 split at h
 all_goals (first|exact ⟨_,_,_,by assumption⟩|simp at h|skip)
theorem Opens.any {t e : TypeId} {k : Nat} {α : Type} [Inhabited α] {R : List Value → α → Prop} (ht : Tryz.prog.underlying t = some (.slice e)) (hk : Tryz.prog.cellsOf e = k) (hpos : 0 < k) (ho : Opens enc w base spare held e R) :
    Opens enc w base spare held t (fun cs (l : List α) => ∃ v c, cs = [v] ∧ SlC (Frz.all w) v k c ∧ c.length = l.length ∧ ∀ i, i < l.length → R (nth c i) (nth l i)) := fun fuel cs y h => by
  rcases open_slice ht h with ⟨h0, _⟩ | ⟨a, len, cap, m, n, D, Pl, hcs, hb, hl, hm, hmm, _, hx⟩
  · exact ⟨[], _, [], h0, SlC.nil _ _, rfl, fun i hi => absurd hi (Nat.not_lt_zero i)⟩
  · subst hcs; (have hlm : len ≤ m := by rw [hmm]; split <;> omega)
    have each : ∀ i, i < m → ∃ x : List Value × α, x.1.length = k ∧ R x.1 x.2 ∧ ∀ j, j < k → w.cell? (a.add (i * k + j)) = x.1[j]? := fun i hi => by
      obtain ⟨cs', h1, h2⟩ := hx i hi; rw [hk] at h1; obtain ⟨_, hlen, hcell⟩ := World.cells?_some h1; obtain ⟨x, hR⟩ := ho _ _ _ h2; exact ⟨(cs', x), hlen, hR, fun j hj => by rw [← hcell j hj, add_add]⟩
    obtain ⟨X, hX⟩ := choose_lt each
    have hn : ∀ i, i < len → nth ((List.range len).map fun i => (X i).1) i = (X i).1 := fun i hi => by
      rw [zap (by simpa using hi)]; simp
    have hn2 : ∀ i, i < len → nth ((List.range len).map fun i => (X i).2) i = (X i).2 := fun i hi => by
      rw [zap (by simpa using hi)]; simp
    refine ⟨(List.range len).map fun i => (X i).2, _, (List.range len).map fun i => (X i).1, rfl, ⟨some a, cap, by simp, by simpa using hl, by unfold maxLen at hm; omega, fun c hc => ?_, fun hp => ?_⟩, by simp, fun i hi => ?_⟩
    · simp at hc; obtain ⟨i, hi, rfl⟩ := hc; exact (hX i (by omega)).1
    · (have hp' : 0 < len := by simpa using hp); have c0 := (hX 0 (by omega)).2.2 0 hpos; have hx0 := (hX 0 (by omega)).1; rw [List.getElem?_eq_getElem (by omega)] at c0; have hcb := zln c0; have hs := World.cell?_spot c0; simp [Addr.add] at hs hcb; obtain ⟨b, off, sp⟩ := a; simp at hs hcb; subst hs; refine ⟨b, off, rfl, hcb, fun i hi j hj => ?_⟩; simp at hi; rw [hn i hi] at hj ⊢; have hxi := hX i (by omega); have := hxi.2.2 j (by omega); refine Eq.trans ?_ this
      show w.cell? _ = _
      rw [zcQ, Nat.add_assoc]
    · simp at hi; rw [hn i hi, hn2 i hi]; exact (hX i (by omega)).2.1
theorem Opens.slC {t e : TypeId} {k : Nat} {α : Type} [Inhabited α] {en : α → List Value} (ht : Tryz.prog.underlying t = some (.slice e)) (hk : Tryz.prog.cellsOf e = k) (hpos : 0 < k) (ho : Opens enc w base spare held e (fun cs (x : α) => cs = en x)) :
    Opens enc w base spare held t (fun cs (l : List α) => ∃ v, cs = [v] ∧ SlC (Frz.all w) v k (l.map en)) := fun fuel cs y h => by
  obtain ⟨l, v, c, h1, h2, h3, h4⟩ := Opens.any ht hk hpos ho _ _ _ h; refine ⟨l, v, h1, ?_⟩
  have : c = l.map en := by
    apply List.ext_getElem (by simpa using h3); intro i hi hi2; rw [← zap hi, h4 i (by omega), List.getElem_map, zap (by omega)]
  rw [← this]; exact h2
theorem Opens.slD {t e : TypeId} {k : Nat} {α : Type} [Inhabited α] {rep : Frz → List Value → α → Prop} (ht : Tryz.prog.underlying t = some (.slice e)) (hk : Tryz.prog.cellsOf e = k) (hpos : 0 < k) (ho : Opens enc w base spare held e (rep (Frz.all w))) :
    Opens enc w base spare held t (fun cs (l : List α) => ∃ v c, cs = [v] ∧ SlD rep (Frz.all w) v k c l) := fun fuel cs y h => by
  obtain ⟨l, v, c, h1, h2, h3, h4⟩ := Opens.any ht hk hpos ho _ _ _ h; exact ⟨l, v, c, h1, h2, h3, h4⟩
end
end Go.Proofs.YtbpbhbkcahcdiaaGreatDoor
