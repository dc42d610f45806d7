/- Cc A B: shortened and put together by squeeze.py. -/
import Derived.Test.YtogbggmckmnlfaaGreatDoorQ03
set_option maxRecDepth 100000
set_option maxHeartbeats 4000000
set_option linter.unusedVariables false
set_option linter.unusedSectionVars false
set_option linter.unusedSimpArgs false
namespace Go.Proofs.YtogbggmckmnlfaaGreatDoor
open Go.RowKit
def zbh (fuel:Nat)(p:GProblem)(d:List GDomain):Option (List GDomain×Bool):=
 dH (fun (d_1:List GDomain)=>
  dH (fun (_:Unit)=>
   some (d_1,true))
  (fun k20=>
   c6 (fun (i_22:Nat) (next21:Unit→Option (List GDomain×Bool)) (_:Unit)=>
    (bif decide ((((cJ d_1 i_22).Channels).length:Int)=0) then
     some ([],false)
     else
     next21 ()))
   (fun (_:Unit)=>
    k20 ()) (d_1.length - 0) 0 ()))
 (fun k2=>
  iZ (fun (next5:(List GDomain×Bool)→Option (List GDomain×Bool)) (s5:List GDomain×Bool)=>
   (bif s5.2 then
    iZ (fun (next11:(List GDomain×Bool×Int)→Option (List GDomain×Bool)) (s11:List GDomain×Bool×Int)=>
     (bif decide (s11.2.2<(s11.1.length:Int)) then
      ej (0≤s11.2.2∧s11.2.2<(s11.1.length:Int)) <|
      ks (fun (k_17:Nat) (next16:(List GDomain×Bool)→Option (List GDomain×Bool)) (s16:List GDomain×Bool)=>
       ej (0≤s11.2.2∧s11.2.2<(s16.1.length:Int)) <|
       ej (0≤(k_17:Int)∧(k_17:Int)<(((cJ s16.1 s11.2.2.toNat).Channels).length:Int)) <|
       (bif (zbH p s16.1 ((cJ s16.1 s11.2.2.toNat).Station) (cJ ((cJ s16.1 s11.2.2.toNat).Channels) k_17)) then
        (zbx s16.1 ((cJ s16.1 s11.2.2.toNat).Station) (cJ ((cJ s16.1 s11.2.2.toNat).Channels) k_17)).bind fun r51=>
        next16 (r51,true)
        else
        next16 (s16.1,s16.2)))
      (fun (s16:List GDomain×Bool)=>
       next11 (s16.1,s16.2,(s11.2.2+1))) (((cJ s11.1 s11.2.2.toNat).Channels).length) (s11.1,s11.2.1)
      else
      next5 (s11.1,s11.2.1))) fuel (s5.1,false,0)
    else
    k2 s5.1)) fuel (d,true))
theorem fg {α:Type}[Inhabited α]{xs:List α}{k:Nat}(h:k<xs.length):cJ xs k∈xs:=by rw [dV h];exact List.getElem_mem _
theorem iv {α:Type}[Inhabited α]{xs:List α}{x:α}(h:x∈xs):∃k,k<xs.length∧cJ xs k=x:=by
 obtain ⟨k,hk,rfl⟩:=List.mem_iff_getElem.1 h;exact ⟨k,hk,dV hk⟩
theorem i5 {α β:Type}[Inhabited α][Inhabited β]{f:α→β}{xs:List α}{i:Nat}(h:i<xs.length):cJ (xs.map f) i=f (cJ xs i):=jI h
theorem zfc {α:Type}[Inhabited α]{a b:List α}(hl:a.length=b.length)(h:∀i,i<a.length→cJ a i=cJ b i):a=b:=by
 apply List.ext_getElem hl;intro i h1 h2;have:=h i h1
 rwa [dV h1,dV h2] at this
def SubD (a b:List GDomain):Prop:=a.length=b.length∧∀i,i<b.length→(cJ a i).Station=(cJ b i).Station∧∀c∈(cJ a i).Channels,c∈(cJ b i).Channels
theorem SubD.refl (a:List GDomain):SubD a a:=⟨rfl,fun _ _=>⟨rfl,fun _ h=>h⟩⟩
theorem SubD.trans {a b c:List GDomain}(h:SubD a b)(k:SubD b c):SubD a c:=⟨h.1.trans k.1,fun i hi=>⟨((h.2 i (by rw [k.1];exact hi)).1).trans (k.2 i hi).1,fun x hx=>(k.2 i hi).2 x ((h.2 i (by rw [k.1];exact hi)).2 x hx)⟩⟩
def WtP (p:GProblem):Prop:=p.Rules.Loads.length≤1024∧∀x∈p.Rules.Loads,0≤x.Weight∧x.Weight≤1073741824
section
variable {p:GProblem}{a b d:List GDomain}
theorem io {s c:Int}:jb d s c=true↔∀x∈d,x.Station=s→∀k∈x.Channels,k=c:=by
 unfold jb;simp only [List.all_eq_true,Bool.or_eq_true,decide_eq_true_eq];constructor
 ·intro h x hx hs k hk;rcases h x hx with h1|h1
  ·exact absurd hs h1
  ·exact h1 k hk
 ·intro h x hx;by_cases hs:x.Station=s
  ·exact .inr (h x hx hs)
  ·exact .inl hs
theorem zdt (h:SubD a b){s c:Int}(ho:jb b s c=true):jb a s c=true:=by
 rw [io] at ho ⊢;intro x hx hs k hk;obtain ⟨i,hi,rfl⟩:=iv hx;have h2:=h.2 i (by rw [←h.1];exact hi);exact ho (cJ b i) (fg (by rw [←h.1];exact hi)) (by rw [←h2.1];exact hs) k (h2.2 k hk)
theorem zgc {t c f : Int} (h : SubD a b) : ∀ (l : List GLoad), (∀ x ∈ l, 0 ≤ x.Weight ∧ x.Weight ≤ 1073741824) → ∀ n n' : Int, 0 ≤ n → n ≤ n' → n' + 1073741824 * (l.length : Int) ≤ 4611686018427387904 →
    l.foldl (fun n x => bif loadC b t c f x then wI (n + x.Weight) else n) n ≤ l.foldl (fun n x => bif loadC a t c f x then wI (n + x.Weight) else n) n'
  | [], _, n, n', _, hn, _ => hn
  | x :: r, hw, n, n', h0, hn, hb => by
    have h1 := hw x a9; simp only [List.length_cons] at hb; rw [List.foldl_cons, List.foldl_cons]; have e1 : wI (n + x.Weight) = n + x.Weight := zk2 a5; have e2 : wI (n' + x.Weight) = n' + x.Weight := zk2 a5; rw [e1, e2]
    have hc : loadC b t c f x = true → loadC a t c f x = true := by
      unfold loadC;simp only [Bool.and_eq_true, Bool.or_eq_true]; rintro ⟨h3, h4⟩; exact ⟨h3, h4.imp id (zdt h)⟩
    refine zgc h r (fun y hy => hw y (by simp [hy])) _ _ ?_ ?_ ?_
    · cases loadC b t c f x <;> simp <;> omega
    · cases hb' : loadC b t c f x
      · cases loadC a t c f x <;> simp <;> omega
      · rw [hc hb']; simp; omega
    · cases loadC a t c f x <;> simp <;> omega
theorem zi3 (hp:WtP p)(h:SubD a b){t c f:Int}:iR p b t c f≤iR p a t c f:=by
 unfold iR;have:=hp.1;exact zgc h _ hp.2 0 0 a5 a5 a5
theorem zhD {s c l l':Int}(hl:l≤l')(h:mS p s c l=true):mS p s c l'=true:=by
 unfold mS at h ⊢;rw [List.any_eq_true] at h ⊢;obtain ⟨x,hx,h⟩:=h;refine ⟨x,hx,?_⟩;simp only [Bool.and_eq_true,decide_eq_true_eq] at h ⊢;exact ⟨h.1,by omega⟩
theorem zhe (hp:WtP p)(h:SubD a b){s c:Int}(hr:jj p b s c=true):jj p a s c=true:=by
 unfold jj at hr ⊢;simp only [Bool.or_eq_true,List.any_eq_true] at hr ⊢;rcases hr with (⟨x,hx,hr⟩|hr)|⟨x,hx,hr⟩
 ·refine .inl (.inl ⟨x,hx,?_⟩);unfold zhW at hr ⊢;simp only [Bool.or_eq_true,Bool.and_eq_true] at hr ⊢;exact hr.imp (fun q=>⟨q.1,zdt h q.2⟩) (fun q=>⟨q.1,zdt h q.2⟩)
 ·exact .inl (.inr (zhD (zi3 hp h) hr))
 ·refine .inr ⟨x,hx,?_⟩;unfold loadR at hr ⊢;simp only [Bool.and_eq_true] at hr ⊢;exact ⟨⟨hr.1.1,zdt h hr.1.2⟩,zhD (zi3 hp h) hr.2⟩
structure ClosedD (p:GProblem) (d:List GDomain):Prop where
 ne:∀x∈d,x.Channels≠[]
 calm:∀x∈d,∀c∈x.Channels,jj p d x.Station c=false
def OrdD (a b:List GDomain):Prop:=∀i,i<b.length→(cJ a i).Channels.Sublist (cJ b i).Channels
def PropD (p:GProblem)(d:List GDomain)(r:List GDomain×Bool):Prop:=
 (r.2=true∧ClosedD p r.1∧(SubD r.1 d∧OrdD r.1 d)∧∀S,ClosedD p S→SubD S d→SubD S r.1)∨(r=([],false)∧∀S,ClosedD p S→¬SubD S d)
def zml (R:List GDomain→Int→Int→Bool)(d:List GDomain):Prop:=∀x∈d,∀c∈x.Channels,R d x.Station c=false
def MonoR (R:List GDomain→Int→Int→Bool):Prop:=∀a b s c,SubD a b→R b s c=true→R a s c=true
theorem zkV {R:List GDomain→Int→Int→Bool}(hp:MonoR R){S:List GDomain}(hS:zml R S)(h:SubD S d){s c:Int}(hr:R d s c=true):SubD S (d.map (jc s c)):=by
 refine ⟨by rw [h.1,List.length_map],fun i hi=>?_⟩;rw [List.length_map] at hi;rw [i5 hi];have h2:=h.2 i hi;refine ⟨h2.1,fun k hk=>?_⟩;unfold jc;rw [List.mem_filter];refine ⟨h2.2 k hk,?_⟩;simp only [Bool.or_eq_true,decide_eq_true_eq];by_cases hs:(cJ d i).Station=s
 ·refine .inr fun hkc=>?_;subst hkc;have hm:=fg (show i<S.length by rw [h.1];exact hi);have:=hS _ hm k hk;rw [h2.1,hs,hp _ _ _ _ h hr] at this
  cases this
 ·exact .inl hs
theorem drop_sub {s c:Int}:SubD (d.map (jc s c)) d:=by
 refine ⟨List.length_map _,fun i hi=>?_⟩;rw [i5 hi];exact ⟨rfl,fun k hk=>(List.mem_filter.1 hk).1⟩
def eD (d:List GDomain):Nat:=(d.map fun x=>x.Channels.length).sum
theorem zlz:∀(d:List GDomain) (f:GDomain→GDomain),(∀x∈d,(f x).Channels.length≤x.Channels.length)→eD (d.map f)≤eD d
 | [],_,_=>Nat.le_refl _
 |x :: r,f,h=>by
  have:=zlz r f (fun y hy=>h y (by simp [hy]));have h1:=h x a9;simp only [eD,List.map_cons,List.sum_cons] at this ⊢;omega
theorem zlA:∀(d:List GDomain) (f:GDomain→GDomain),(∀x∈d,(f x).Channels.length≤x.Channels.length)→(∃x∈d,(f x).Channels.length<x.Channels.length)→eD (d.map f)<eD d
 |x :: r,f,h,he=>by
  have h1:=h x a9;obtain ⟨y,hy,hlt⟩:=he;rcases List.mem_cons.1 hy with rfl|hy
  ·have:=zlz r f (fun z hz=>h z (by simp [hz]));simp only [eD,List.map_cons,List.sum_cons] at this ⊢;omega
  ·have:=zlA r f (fun z hz=>h z (by simp [hz])) ⟨y,hy,hlt⟩;simp only [eD,List.map_cons,List.sum_cons] at this ⊢;omega
theorem zhG {α:Type}{q:α→Bool}:∀ {l:List α} {x:α},x∈l→q x=false→(l.filter q).length<l.length
 |y :: r,x,hx,hq=>by
  rcases List.mem_cons.1 hx with rfl|hx
  ·rw [List.filter_cons,hq];have:=List.length_filter_le q r;simp;omega
  ·have:=zhG hx hq;rw [List.filter_cons];split <;> simp only [List.length_cons] <;> omega
theorem zlQ {s c:Int}{i:Nat}(hi:i<d.length)(hs:(cJ d i).Station=s)(hc:c∈(cJ d i).Channels):eD (d.map (jc s c))<eD d:=
 zlA d _ (fun x _=>List.length_filter_le _ _) ⟨cJ d i,fg hi,zhG hc (by simp [hs])⟩
structure Bd (d:List GDomain):Prop where
 len:d.length≤100000
 ch:∀x∈d,x.Channels.length≤100000∧x.Channels.Nodup
theorem Bd.drop (h:Bd d){s c:Int}:Bd (d.map (jc s c)):=by
 refine ⟨by rw [List.length_map];exact h.len,fun x hx=>?_⟩;obtain ⟨y,hy,rfl⟩:=List.mem_map.1 hx;exact ⟨Nat.le_trans (List.length_filter_le _ _) (h.ch y hy).1,(h.ch y hy).2.filter _⟩
theorem zkX {s c:Int}{i k:Nat}(hb:Bd d)(hi:i<d.length)(hk:k<(cJ d i).Channels.length)(hc:cJ (cJ d i).Channels k=c):k≤(cJ (d.map (jc s c)) i).Channels.length:=by
 rw [i5 hi];unfold jc;have hn:=(hb.ch _ (fg hi)).2;have e:(cJ d i).Channels=(cJ d i).Channels.take k++(cJ d i).Channels.drop k:=(List.take_append_drop k _).symm
 have hf:((cJ d i).Channels.take k).filter (fun q=>decide (¬(cJ d i).Station=s)||decide (¬q=c))=(cJ d i).Channels.take k:=by
  rw [List.filter_eq_self];intro q hq;simp only [Bool.or_eq_true,decide_eq_true_eq];refine .inr fun hqc=>?_;obtain ⟨j,hj,rfl⟩:=List.mem_iff_getElem.1 hq;simp only [List.length_take] at hj;rw [List.getElem_take] at hqc;rw [dV hk] at hc;have:=(List.getElem_inj (h₀:=by omega) (h₁:=hk) hn).1 (hqc.trans hc.symm);omega
 show k≤((cJ d i).Channels.filter _).length
 rw [e,List.filter_append,hf,List.length_append,List.length_take];omega
structure InvR (R:List GDomain→Int→Int→Bool) (d0 d:List GDomain):Prop where
 bd:Bd d
 sub:SubD d d0
 ord:OrdD d d0
 sup:∀S,zml R S→SubD S d0→SubD S d
theorem InvR.step {R:List GDomain→Int→Int→Bool}{d0:List GDomain}(hp:MonoR R)(h:InvR R d0 d){s c:Int}(hr:R d s c=true):InvR R d0 (d.map (jc s c)):=
 ⟨h.bd.drop,drop_sub.trans h.sub,fun i hi=>by
  rw [i5 (by rw [h.sub.1];exact hi)]
  exact (List.filter_sublist).trans (h.ord i hi),fun S hS hs=>zkV hp hS (h.sup S hS hs) hr⟩
theorem zmd {R : List GDomain → Int → Int → Bool} {ρ : Type} {fuel : Nat} {d0 : List GDomain} {k2 : List GDomain → Option ρ} (post : Option ρ → Prop) (hp : MonoR R) (hb : Bd d0) (hf1 : d0.length < fuel) (hf2 : eD d0 + 1 < fuel) (hend : ∀ d, InvR R d0 d → zml R d → post (k2 d)) :
    post (iZ (fun (next5 : (List GDomain × Bool) → Option ρ) (s5 : List GDomain × Bool) =>
      (bif s5.2 then
        iZ (fun (next11 : (List GDomain × Bool × Int) → Option ρ) (s11 : List GDomain × Bool × Int) =>
          (bif decide (s11.2.2 < (s11.1.length : Int)) then
            ej (0 ≤ s11.2.2 ∧ s11.2.2 < (s11.1.length : Int)) <|
            ks (fun (k_17 : Nat) (next16 : (List GDomain × Bool) → Option ρ) (s16 : List GDomain × Bool) =>
              ej (0 ≤ s11.2.2 ∧ s11.2.2 < (s16.1.length : Int)) <|
              ej (0 ≤ (k_17 : Int) ∧ (k_17 : Int) < (((cJ s16.1 s11.2.2.toNat).Channels).length : Int)) <|
              (bif (R s16.1 ((cJ s16.1 s11.2.2.toNat).Station) (cJ ((cJ s16.1 s11.2.2.toNat).Channels) k_17)) then
                (zbx s16.1 ((cJ s16.1 s11.2.2.toNat).Station) (cJ ((cJ s16.1 s11.2.2.toNat).Channels) k_17)).bind fun r51 =>
                next16 (r51, true)
                else
                next16 (s16.1, s16.2)))
            (fun (s16 : List GDomain × Bool) =>
              next11 (s16.1, s16.2, (s11.2.2 + 1))) (((cJ s11.1 s11.2.2.toNat).Channels).length) (s11.1, s11.2.1)
            else
            next5 (s11.1, s11.2.1))) fuel (s5.1, false, 0)
        else
        k2 s5.1)) fuel (d0, true)) := by
  refine zdS (σ := List GDomain × Bool) (I := fun s => InvR R d0 s.1 ∧ (s.2 = false → zml R s.1)) (μ := fun s => eD s.1 + (bif s.2 then 1 else 0)) (post := post) ⟨⟨hb, .refl _, fun _ _ => List.Sublist.refl _, fun S _ h => h⟩, fun h => by cases h⟩ hf2 ?_; rintro ⟨d, again⟩ next ⟨hI, hA⟩ hn; dsimp only at hI hA hn ⊢
  cases again with
  | false =>
    rw [cond_false]; exact hend d hI (hA rfl)
  | true =>
    rw [cond_true]
    -- one sweep over the stations
    refine zdS (σ := List GDomain × Bool × Int) (I := fun s => InvR R d0 s.1 ∧ 0 ≤ s.2.2 ∧ s.2.2 ≤ s.1.length ∧ s.1.length = d.length ∧ (s.2.1 = false → s.1 = d ∧ ∀ j : Nat, (j : Int) < s.2.2 → ∀ c ∈ (cJ d j).Channels, R d (cJ d j).Station c = false) ∧ (s.2.1 = true → eD s.1 < eD d)) (μ := fun s => (s.1.length - s.2.2).toNat) (post := post) ⟨hI, by simp, by simp, rfl, fun _ => ⟨rfl, fun j hj => absurd hj a9⟩, fun h => by cases h⟩ (by simp only [Int.sub_zero, Int.toNat_natCast]; rw [hI.sub.1]; exact hf1) ?_; rintro ⟨d1, ag, i⟩ next1 ⟨hI1, h0, h1, hl, hF, hT⟩ hn1; dsimp only at hI1 h0 h1 hl hF hT hn1 ⊢; by_cases hi : i < (d1.length : Int)
    · rw [decide_eq_true hi, cond_true, fE ⟨h0, hi⟩]; (have hin : i.toNat < d1.length := by omega); refine zha (σ := List GDomain × Bool) (I := fun m s => InvR R d0 s.1 ∧ s.1.length = d.length ∧ m ≤ (cJ s.1 i.toNat).Channels.length ∧ (s.2 = false → s.1 = d ∧ (∀ j : Nat, (j : Int) < i → ∀ c ∈ (cJ d j).Channels, R d (cJ d j).Station c = false) ∧ ∀ k, m ≤ k → k < (cJ d i.toNat).Channels.length → R d (cJ d i.toNat).Station (cJ (cJ d i.toNat).Channels k) = false) ∧ (s.2 = true → eD s.1 < eD d)) (post := post) ?_ ?_ ?_
      · dsimp only; refine ⟨hI1, hl, Nat.le_refl _, fun h => ?_, hT⟩; obtain ⟨h2, h3⟩ := hF h; subst h2; exact ⟨rfl, h3, fun k h4 h5 => absurd h5 a5⟩
      · rintro ⟨d2, ag2⟩ ⟨g1, g2, _, g4, g5⟩; dsimp only at g1 g2 g4 g5 ⊢; refine hn1 _ ⟨g1, by dsimp only; omega, by dsimp only; omega, g2, fun h => ?_, g5⟩ (by dsimp only; omega); dsimp only at h; obtain ⟨h2, h3, h4⟩ := g4 h; refine ⟨h2, fun j hj c hc => ?_⟩; dsimp only at hj; by_cases hji : (j : Int) < i
        · exact h3 j hji c hc
        · (obtain rfl : j = i.toNat := by omega); obtain ⟨k, hk, rfl⟩ := iv hc; exact h4 k (Nat.zero_le _) hk
      · rintro k ⟨d2, ag2⟩ nx hk ⟨g1, g2, g3, g4, g5⟩ hnx; dsimp only at g1 g2 g3 g4 g5 hnx ⊢; (have hid : i.toNat < d2.length := by omega); rw [fE ⟨h0, by omega⟩, fE ⟨by omega, by omega⟩]
        cases hr : R d2 (cJ d2 i.toNat).Station (cJ (cJ d2 i.toNat).Channels k) with
        | true =>
          rw [cond_true, zlS g1.bd.len (fun x hx => (g1.bd.ch x hx).1), Option.bind_some]; refine hnx _ ⟨g1.step hp hr, by dsimp only; rw [List.length_map]; exact g2, zkX g1.bd hid a5 rfl, (fun h => by cases h), fun _ => ?_⟩;dsimp only; have h6 := zlQ hid rfl (fg (show k < (cJ d2 i.toNat).Channels.length by omega))
          cases ag2 with
          | true => have := g5 rfl; omega
          | false => obtain ⟨h7, _⟩ := g4 rfl; subst h7; exact h6
        | false =>
          rw [cond_false]; refine hnx _ ⟨g1, g2, by dsimp only; omega, fun h => ?_, g5⟩; dsimp only at h ⊢; obtain ⟨h7, h8, h9⟩ := g4 h; refine ⟨h7, h8, fun q h10 h11 => ?_⟩; rcases Nat.lt_or_ge k q with h12 | h12
          · exact h9 q h12 h11
          · (obtain rfl : q = k := by omega); subst h7; exact hr
    · rw [decide_eq_false hi, cond_false]; (have hil : i = d1.length := by omega); refine hn (d1, ag) ⟨hI1, fun h => ?_⟩ ?_
      · dsimp only at h ⊢; obtain ⟨h2, h3⟩ := hF h; subst h2; intro x hx c hc; obtain ⟨j, hj, rfl⟩ := iv hx; exact h3 j a5 c hc
      · dsimp only
        cases ag with
        | true => have := hT rfl;simp only [cond_true]; omega
        | false => obtain ⟨h2, _⟩ := hF rfl; subst h2;simp only [cond_true, cond_false]; omega
theorem MonoR.rem (hp:WtP p):MonoR (jj p):=fun _ _ _ _ h hr=>zhe hp h hr
theorem zfb {fuel : Nat} {d0 : List GDomain} (hp : WtP p) (hb : Bd d0) (hf1 : d0.length < fuel) (hf2 : eD d0 + 1 < fuel) : ∃ r, zbh fuel p d0 = some r ∧ PropD p d0 r := by
  unfold zbh;simp only [dH, Nat.sub_zero, zju]; refine zmd (R := jj p) (k2 := fun d => c6 (fun (i : Nat) (next : Unit → Option (List GDomain × Bool)) (_ : Unit) => bif decide ((((cJ d i).Channels).length : Int) = 0) then some ([], false) else next ()) (fun (_ : Unit) => some (d, true)) d.length 0 ()) (fun o => ∃ r, o = some r ∧ PropD p d0 r) (.rem hp) hb hf1 hf2 fun d hI hA => ?_
  -- the end: is a domain empty?
  refine kj (σ := Unit) (I := fun i _ => ∀ j, j < i → (cJ d j).Channels ≠ []) (post := fun o => ∃ r, o = some r ∧ PropD p d0 r) (fun j hj => absurd hj (Nat.not_lt_zero j)) ?_ ?_
  · intro _ h; refine ⟨_, rfl, .inl ⟨rfl, ⟨fun x hx => ?_, hA⟩, ⟨hI.sub, hI.ord⟩, fun S hS => hI.sup S hS.calm⟩⟩; obtain ⟨i, hi, rfl⟩ := iv hx; exact h i hi
  · intro i _ nx hi h hnx; by_cases he : (cJ d i).Channels = []
    · rw [he]; refine ⟨_, rfl, .inr ⟨rfl, fun S hS hs => ?_⟩⟩; have h2 := hI.sup S hS.calm hs; have h3 := (h2.2 i hi).2; rw [he] at h3; have hm := fg (show i < S.length by rw [h2.1]; exact hi); apply hS.ne _ hm
      cases hc : (cJ S i).Channels with
      | nil => rfl
      | cons c r => exact absurd (h3 c (by rw [hc]; simp)) a9
    · have : ¬ ((cJ d i).Channels.length : Int) = 0 := fun h0 => he (List.eq_nil_of_length_eq_zero a5); rw [decide_eq_false this, cond_false]; refine hnx () (fun j hj => ?_); rcases Nat.lt_or_ge j i with h1 | h1
      · exact h j h1
      · rw [show j = i by omega]; exact he
end
def inB (n a b:Int):Bool:=decide (a≤n)&&decide (n≤b)
def fj (lo hi:Int):Bool:=decide (2≤lo)&&(decide (lo≤hi)&&decide (hi≤51))
def Ie (z:Int):List Value:=[.int .i64 z]
abbrev zgL (w:World)(v:Value)(l:List Int):Prop:=SlOf w v Ie 1 l
structure Dx where
 st:Int
 v:Value
 chs:List Int
instance:Inhabited Dx:=⟨⟨0, .slice none 0 0,[]⟩⟩
def Dx.cells (d:Dx):List Value:=[.int .i64 d.st,d.v]
structure Pr where
 a:Int
 b:Int
 off:Int
 lo:Int
 hi:Int
deriving DecidableEq,Inhabited
def Pr.cells (x:Pr):List Value:=[.int .i64 x.a, .int .i64 x.b, .int .i64 x.off, .int .i64 x.lo, .int .i64 x.hi]
structure Ld where
 to:Int
 fr:Int
 wt:Int
 lo:Int
 hi:Int
deriving DecidableEq,Inhabited
def Ld.cells (x:Ld):List Value:=[.int .i64 x.to, .int .i64 x.fr, .int .i64 x.wt, .int .i64 x.lo, .int .i64 x.hi]
structure Cp where
 st:Int
 mx:Int
 lo:Int
 hi:Int
deriving DecidableEq,Inhabited
def Cp.cells (x:Cp):List Value:=[.int .i64 x.st, .int .i64 x.mx, .int .i64 x.lo, .int .i64 x.hi]
structure Ch where
 st:Int
 ch:Int
deriving DecidableEq,Inhabited
def Ch.cells (x:Ch):List Value:=[.int .i64 x.st, .int .i64 x.ch]
abbrev PrsAt (w:World)(v:Value)(l:List Pr):Prop:=SlOf w v Pr.cells 5 l
abbrev LdsAt (w:World)(v:Value)(l:List Ld):Prop:=SlOf w v Ld.cells 5 l
abbrev CpsAt (w:World)(v:Value)(l:List Cp):Prop:=SlOf w v Cp.cells 4 l
structure DomsAt (w:World) (v:Value) (l:List Dx):Prop where
 sl:SlOf w v Dx.cells 2 l
 each:∀d∈l,zgL w d.v d.chs
theorem SlOf.one {α:Type}{w:World}{v:Value}{enc:α→List Value}{size:Nat}{xs:List α}(h:SlOf w v enc size xs):OneC v:=by
 obtain ⟨A,cap,rfl,_⟩:=h;exact inferInstance
theorem iY {α:Type}[Inhabited α]{xs:List α}{k:Nat}(h:k<xs.length):cJ xs k∈xs:=by rw [dV h];exact List.getElem_mem _
theorem DomsAt.at {w:World}{v:Value}{l:List Dx}(h:DomsAt w v l){k:Nat}(hk:k<l.length):zgL w (cJ l k).v (cJ l k).chs:=h.each _ (iY hk)
theorem DomsAt.kept {B w:World}{hs:HS}{v:Value}{l:List Dx}(hw:Hp B (fun _=>False) hs w)(h:DomsAt B v l):DomsAt w v l:=⟨h.sl.kept hw,fun d hd=>(h.each d hd).kept hw⟩
structure Pb where
 ds:List Dx
 ps:List Pr
 ls:List Ld
 cs:List Cp
structure RulesAt (w:World) (vp vl vc:Value) (P:Pb):Prop where
 ps:PrsAt w vp P.ps
 ls:LdsAt w vl P.ls
 cs:CpsAt w vc P.cs
 hps:P.ps.length≤9223372036854775807
 hls:P.ls.length≤9223372036854775807
 hcs:P.cs.length≤9223372036854775807
structure ProbAt (w:World) (vd vp vl vc:Value) (P:Pb):Prop where
 ds:DomsAt w vd P.ds
 ru:RulesAt w vp vl vc P
 hds:P.ds.length≤9223372036854775807
 hch:∀d∈P.ds,d.chs.length≤9223372036854775807
theorem RulesAt.kept {B w:World}{hs:HS}{vp vl vc:Value}{P:Pb}(hw:Hp B (fun _=>False) hs w)(h:RulesAt B vp vl vc P):RulesAt w vp vl vc P:=⟨h.ps.kept hw,h.ls.kept hw,h.cs.kept hw,h.hps,h.hls,h.hcs⟩
theorem ProbAt.kept {B w:World}{hs:HS}{vd vp vl vc:Value}{P:Pb}(hw:Hp B (fun _=>False) hs w)(h:ProbAt B vd vp vl vc P):ProbAt w vd vp vl vc P:=⟨h.ds.kept hw,h.ru.kept hw,h.hds,h.hch⟩
def dT (a b:Int):Int:=if a<b then -1 else if b<a then 1 else 0
def fG {α:Type}[Inhabited α](c:α→α→Int)(xs:List α):Bool:=(List.range xs.length).all fun k=>decide (k=0)|| !decide (0≤c (cJ xs (k - 1)) (cJ xs k))
def fU {α:Type}[Inhabited α](q:α→Bool)(xs:List α):Bool:=(List.range xs.length).all fun k=>q (cJ xs k)
def mI:List Int→Int
 | []=>0
 |x :: r=>if x=0 then mI r else x
theorem zkw {l:List Int}{k:Nat}(h:k<l.length):mI (l.drop k)=if cJ l k=0 then mI (l.drop (k+1)) else cJ l k:=by
 rw [List.drop_eq_getElem_cons h,dV h];rfl
theorem zdE (n a b:Int)(w:World):Calls Tryz.prog 80 #[.int .i64 n, .int .i64 a, .int .i64 b] w fun e w'=>e= .returned (.bool (inB n a b))∧Below w.heap.size w w':=by
 refine dt (M:=fun _=>False) (hs:=[]) Tryz.func80 rfl rfl rfl (Hp.refl _ _) ?_;refine mE ?_;refine TL.run 4 rfl ?_;refine du rfl rfl rfl (fun h1=>?_) (fun h1=>?_)
 ·have p1:=h1; (try simp only [cX] at p1);refine jY ?_;refine jY ?_;refine jY ?_;refine lq ?_;refine fw ?_;refine c4 rfl rfl (fun w' hw=>⟨?_,hw.isBelow⟩);exact q5C
 ·have p1:=h1; (try simp only [cX] at p1);refine q1v ?_;refine fw ?_;refine c4 rfl rfl (fun w' hw=>⟨?_,hw.isBelow⟩);exact q5C
theorem zcu (n:Int)(w:World):Calls Tryz.prog 79 #[.int .i64 n] w fun e w'=>e= .returned (.bool (inB n 0 511))∧Below w.heap.size w w':=by
 refine dt (M:=fun _=>False) (hs:=[]) Tryz.func79 rfl rfl rfl (Hp.refl _ _) ?_;refine q4G ?_; (refine cN (Wt.none) rfl rfl (cM rfl rfl rfl (fun w hw=>zdE _ _ _ _)) ?_;rintro _ _ ⟨rfl,rfl⟩);refine fw ?_;refine c4 rfl rfl (fun w' hw=>⟨?_,hw.isBelow⟩)
 rfl
theorem ze2 (lo hi:Int)(w:World):Calls Tryz.prog 151 #[.int .i64 lo, .int .i64 hi] w fun e w'=>e= .returned (.bool (fj lo hi))∧Below w.heap.size w w':=by
 refine dt (M:=fun _=>False) (hs:=[]) Tryz.func151 rfl rfl rfl (Hp.refl _ _) ?_;refine mE ?_;refine eB ?_;refine du rfl rfl rfl (fun h1=>?_) (fun h1=>?_)
 ·have p1:=h1; (try simp only [cX] at p1);refine jY ?_;refine jY ?_;refine jY ?_;refine lq ?_;refine di ?_;refine du rfl rfl rfl (fun h2=>?_) (fun h2=>?_)
  ·have p2:=h2; (try simp only [cX] at p2);refine mG ?_;refine mG ?_;refine q26 ?_;refine fw ?_;refine c4 rfl rfl (fun w' hw=>⟨?_,hw.isBelow⟩);exact q5q
  ·have p2:=h2; (try simp only [cX] at p2);refine q18 ?_;refine fw ?_;refine c4 rfl rfl (fun w' hw=>⟨?_,hw.isBelow⟩);exact q5q
 ·have p1:=h1; (try simp only [cX] at p1);refine q1v ?_;refine TL.run 5 rfl ?_;refine fW ?_;refine c4 rfl rfl (fun w' hw=>⟨?_,hw.isBelow⟩);exact q5q
theorem zjw (n:Int)(w:World):Calls Tryz.prog 140 #[.int .i64 n] w fun e w'=>e= .returned (.bool false)∧Below w.heap.size w w':=by
 refine dt (M:=fun _=>False) (hs:=[]) Tryz.func140 rfl rfl rfl (Hp.refl _ _) ?_;refine mE ?_;refine TL.run 4 rfl ?_;refine fW ?_;refine c4 rfl rfl (fun w' hw=>⟨?_,hw.isBelow⟩);exact km a9
theorem ll (a b:Int)(w:World):Calls Tryz.prog 107 #[.int .i64 a, .int .i64 b] w fun e w'=>e= .returned (.int .i64 (dT a b))∧Below w.heap.size w w':=by
 refine dt (M:=fun _=>False) (hs:=[]) Tryz.func107 rfl rfl rfl (Hp.refl _ _) ?_;refine q4G ?_; (refine cN (Wt.none) rfl rfl (cM rfl rfl rfl (fun w hw=>zjw _ _)) ?_;rintro _ _ ⟨rfl,rfl⟩);refine lO ?_; (refine cN (Wt.none) rfl rfl (cM rfl rfl rfl (fun w hw=>zjw _ _)) ?_;rintro _ _ ⟨rfl,rfl⟩);refine mX ?_;refine iK rfl rfl ?_;refine m5 ?_;refine iK rfl rfl ?_;refine lW ?_;refine eB ?_;refine db ?_;refine T.cond rfl (fun h1=>?_) (fun h1=>?_)
 ·have p1:=h1; (try simp only [cX] at p1);refine iw ?_;refine c4 rfl rfl (fun w' hw=>⟨?_,hw.isBelow⟩);exact q5r
 ·have p1:=h1; (try simp only [cX] at p1);refine lW ?_;refine eB ?_;refine db ?_;refine T.cond rfl (fun h2=>?_) (fun h2=>?_)
  ·have p2:=h2; (try simp only [cX] at p2);refine iw ?_;refine c4 rfl rfl (fun w' hw=>⟨?_,hw.isBelow⟩);exact q5r
  ·have p2:=h2; (try simp only [cX] at p2);refine iO ?_;refine fw ?_;refine c4 rfl rfl (fun w' hw=>⟨?_,hw.isBelow⟩);exact q5r
theorem zmy (l:List Int)(v:Value)(w:World)(h:zgL w v l)(hl:l.length≤9223372036854775807):Calls Tryz.prog 152 #[v] w fun e w'=>e= .returned (.int .i64 (mI l))∧Below w.heap.size w w':=by
 obtain ⟨A,cap,rfl,hsl⟩:=h.op;refine dt (M:=fun _=>False) (hs:=[]) Tryz.func152 rfl rfl rfl (Hp.refl _ _) ?_;refine mE ?_;refine nH ?_;refine j4 ?_;refine T.loop (ι:=Nat) (fun k=>[(3, .int .i64 0),(6, .slice A l.length cap),(7, .int .i64 (l.length:Int)),(8, .int .i64 (k:Int))]) (fun k=>[]) (fun k=>k≤l.length∧mI (l.drop k)=mI l) (fun k=>l.length - k) 0 ?_ ?_ ?_ ?_
 ·exact ⟨by omega,rfl⟩
 ·exact (by repeat (first|exact Sub.nil|refine Sub.cons rfl ?_))
 ·exact Sx
 ·intro k hphi;obtain ⟨hkl,hor⟩:=hphi;refine fb ?_;refine T.cond rfl (fun h1=>?_) (fun h1=>?_)
  ·have p1:=h1; (try simp only [cX] at p1);obtain ⟨g,off,rfl,hc⟩:=hsl a5;have hk:=hc k a5;simp only [Ie] at hk;refine fh ?_;refine q2q ?_;refine gF ?_;refine eB ?_;refine db ?_;refine T.cond rfl (fun h2=>?_) (fun h2=>?_)
   ·have p2:=h2; (try simp only [cX] at p2);refine jg ?_;refine q2p ?_;refine c4 rfl rfl (fun w' hw=>⟨?_,hw.isBelow⟩);exact zdj (by rw [zkw a5,if_neg cD] at hor;exact hor)
   ·have p2:=h2; (try simp only [cX] at p2);refine iz ?_;exact K.next (k+1) ⟨by omega,by rw [zkw a5,if_pos cD] at hor;exact hor⟩ a5 (by repeat (first|exact Sub.nil|refine Sub.cons rfl ?_)) Sx
  ·have p1:=h1; (try simp only [cX] at p1);refine q1a ?_;refine jT ?_;refine c4 rfl rfl (fun w' hw=>⟨?_,hw.isBelow⟩);exact zdj (by rw [List.drop_eq_nil_of_le a5] at hor;exact hor)
theorem znp {q:Dx→Bool}(xs:List Dx)(v:Value)(f:FuncId)(caps:Array Value)(w:World)(h:SlOf w v Dx.cells 2 xs)(ho1:∀k,k<xs.length→OneC (cJ xs k).v)[hE:Enters Tryz.prog f](hC:∀k,k<xs.length→∀w',Below w.heap.size w w'→Calls Tryz.prog f (.agg (Dx.cells (cJ xs k)).toArray :: caps.toList).toArray w' fun e w''=>e= .returned (.bool (q (cJ xs k)))∧Below w'.heap.size w' w'')(hl:xs.length≤9223372036854775807):Calls Tryz.prog 103 #[v, .func (.func f) #[] caps] w fun e w'=>e= .returned (.bool (fU q xs))∧Below w.heap.size w w':=by
 obtain ⟨A,cap,rfl,hsl⟩:=h.op;refine dt (M:=fun _=>False) (hs:=[]) Tryz.func103 rfl rfl rfl (Hp.refl _ _) ?_;refine jo ?_;refine j4 ?_;refine T.loop (ι:=Nat) (fun k=>[(1, .func (.func f) #[] caps),(7, .slice A xs.length cap),(8, .int .i64 (xs.length:Int)),(9, .int .i64 (k:Int))]) (fun k=>[]) (fun k=>k≤xs.length∧∀j,j<k→q (cJ xs j)=true) (fun k=>xs.length - k) 0 ?_ ?_ ?_ ?_
 ·exact q48
 ·exact (by repeat (first|exact Sub.nil|refine Sub.cons rfl ?_))
 ·exact Sx
 ·intro k hphi;obtain ⟨hkl,hall⟩:=hphi;refine fb ?_;refine T.cond rfl (fun h1=>?_) (fun h1=>?_)
  ·have p1:=h1; (try simp only [cX] at p1);obtain ⟨g,off,rfl,hc⟩:=hsl a5;have hk:=hc k a5;haveI:=ho1 k a5;simp only [Dx.cells] at hk;refine fh ?_;refine me ?_; (refine cN (Wt.none) rfl rfl (Ew.alloc) ?_;rintro _ _ ⟨g6,rfl,rfl⟩); (refine dP (Wt.none) rfl (dI 0) ?_;rintro _ _ ⟨rfl,rfl⟩);refine m7 ?_;refine ik ?_; (refine cN (Wt.none) rfl rfl (kH rfl rfl rfl (fun w hw=>hC k a5 w hw.isBelow)) ?_;rintro _ _ ⟨rfl,rfl⟩);refine dA ?_;refine T.cond rfl (fun h2=>?_) (fun h2=>?_)
   ·have p2:=h2; (try simp only [cX] at p2);refine gN ?_;refine c4 rfl rfl (fun w' hw=>⟨?_,hw.isBelow⟩);exact q49
   ·have p2:=h2; (try simp only [cX] at p2);refine iz ?_;exact K.next (k+1) ⟨by omega,zet hall (by simpa using p2)⟩ a5 (by repeat (first|exact Sub.nil|refine Sub.cons rfl ?_)) Sx
  ·have p1:=h1; (try simp only [cX] at p1);refine q4H ?_;refine c4 rfl rfl (fun w' hw=>⟨?_,hw.isBelow⟩);exact q5a
theorem zh9 {c:Dx→Dx→Int}(xs:List Dx)(v:Value)(f:FuncId)(w:World)(h:SlOf w v Dx.cells 2 xs)(ho1:∀k,k<xs.length→OneC (cJ xs k).v)[hE:Enters Tryz.prog f](hC:∀x y:Dx,OneC x.v→OneC y.v→∀w':World,Calls Tryz.prog f #[.agg (Dx.cells (x)).toArray, .agg (Dx.cells (y)).toArray] w' fun e w''=>e= .returned (.int .i64 (c x y))∧Below w'.heap.size w' w'')(hl:xs.length≤9223372036854775807):Calls Tryz.prog 108 #[v, .func (.func f) #[] #[]] w fun e w'=>e= .returned (.bool (fG c xs))∧Below w.heap.size w w':=by
 obtain ⟨A,cap,rfl,hsl⟩:=h.op;refine dt (M:=fun _=>False) (hs:=[]) Tryz.func108 rfl rfl rfl (Hp.refl _ _) ?_;refine jo ?_;refine db (T.block ?_);refine T.loop (ι:=Nat) (fun k=>[(0, .slice A xs.length cap),(1, .func (.func f) #[] #[]),(5, .int .i64 (k:Int))]) (fun k=>[]) (fun k=>1≤k∧∀j,j<k→j<xs.length→(decide (j=0)|| !decide (0≤c (cJ xs (j - 1)) (cJ xs j)))=true) (fun k=>xs.length - k) 1 ?_ ?_ ?_ ?_
 ·exact q5b
 ·exact (by repeat (first|exact Sub.nil|refine Sub.cons rfl ?_))
 ·exact Sx
 ·intro k hphi;obtain ⟨hk0,hall⟩:=hphi;refine iC ?_;refine mn ?_;refine dA ?_;refine T.cond rfl (fun h1=>?_) (fun h1=>?_)
  ·have p1:=h1; (try simp only [cX] at p1);obtain ⟨g,off,rfl,hc⟩:=hsl a5;have hk:=hc k a5;have hk1:=hc (k - 1) a5;have o1:=ho1 k a5;have o2:=ho1 (k - 1) a5;simp only [Dx.cells] at hk hk1;refine q0x ?_; (refine de rfl (Wt.none) rfl rfl (cM rfl rfl rfl (fun w hw=>hC (cJ xs (k - 1)) (cJ xs k) o2 o1 w)) ?_;rintro _ _ ⟨rfl,rfl⟩;refine ⟨Sx,?_⟩);refine kg ?_;refine T.cond rfl (fun h2=>?_) (fun h2=>?_)
   ·have p2:=h2; (try simp only [cX] at p2);refine gN ?_;refine c4 rfl rfl (fun w' hw=>⟨?_,hw.isBelow⟩);exact q5c
   ·have p2:=h2; (try simp only [cX] at p2);refine ga ?_;exact K.next (k+1) ⟨by omega,fun j hj hjl=>by rcases Nat.lt_or_ge j k with hh|hh;exact hall j hh hjl;rw [show j=k from by omega,decide_eq_false a5];simpa using p2⟩ a5 (by repeat (first|exact Sub.nil|refine Sub.cons rfl ?_)) Sx
  ·have p1:=h1; (try simp only [cX] at p1);refine q4H ?_;refine c4 rfl rfl (fun w' hw=>⟨?_,hw.isBelow⟩);exact q5d
theorem zlw {q:Pr→Bool}(xs:List Pr)(v:Value)(f:FuncId)(caps:Array Value)(w:World)(h:SlOf w v Pr.cells 5 xs)[hE:Enters Tryz.prog f](hC:∀k,k<xs.length→∀w',Below w.heap.size w w'→Calls Tryz.prog f (.agg (Pr.cells (cJ xs k)).toArray :: caps.toList).toArray w' fun e w''=>e= .returned (.bool (q (cJ xs k)))∧Below w'.heap.size w' w'')(hl:xs.length≤9223372036854775807):Calls Tryz.prog 110 #[v, .func (.func f) #[] caps] w fun e w'=>e= .returned (.bool (fU q xs))∧Below w.heap.size w w':=by
 obtain ⟨A,cap,rfl,hsl⟩:=h.op;refine dt (M:=fun _=>False) (hs:=[]) Tryz.func110 rfl rfl rfl (Hp.refl _ _) ?_;refine jo ?_;refine j4 ?_;refine T.loop (ι:=Nat) (fun k=>[(1, .func (.func f) #[] caps),(7, .slice A xs.length cap),(8, .int .i64 (xs.length:Int)),(9, .int .i64 (k:Int))]) (fun k=>[]) (fun k=>k≤xs.length∧∀j,j<k→q (cJ xs j)=true) (fun k=>xs.length - k) 0 ?_ ?_ ?_ ?_
 ·exact q48
 ·exact (by repeat (first|exact Sub.nil|refine Sub.cons rfl ?_))
 ·exact Sx
 ·intro k hphi;obtain ⟨hkl,hall⟩:=hphi;refine fb ?_;refine T.cond rfl (fun h1=>?_) (fun h1=>?_)
  ·have p1:=h1; (try simp only [cX] at p1);obtain ⟨g,off,rfl,hc⟩:=hsl a5;have hk:=hc k a5;simp only [Pr.cells] at hk;refine fh ?_;refine me ?_; (refine cN (Wt.none) rfl rfl (Ew.alloc) ?_;rintro _ _ ⟨g6,rfl,rfl⟩); (refine dP (Wt.none) rfl (dI 0) ?_;rintro _ _ ⟨rfl,rfl⟩);refine m7 ?_;refine ik ?_; (refine cN (Wt.none) rfl rfl (kH rfl rfl rfl (fun w hw=>hC k a5 w hw.isBelow)) ?_;rintro _ _ ⟨rfl,rfl⟩);refine dA ?_;refine T.cond rfl (fun h2=>?_) (fun h2=>?_)
   ·have p2:=h2; (try simp only [cX] at p2);refine gN ?_;refine c4 rfl rfl (fun w' hw=>⟨?_,hw.isBelow⟩);exact q49
   ·have p2:=h2; (try simp only [cX] at p2);refine iz ?_;exact K.next (k+1) ⟨by omega,zet hall (by simpa using p2)⟩ a5 (by repeat (first|exact Sub.nil|refine Sub.cons rfl ?_)) Sx
  ·have p1:=h1; (try simp only [cX] at p1);refine q4H ?_;refine c4 rfl rfl (fun w' hw=>⟨?_,hw.isBelow⟩);exact q5a
theorem zi4 {c:Pr→Pr→Int}(xs:List Pr)(v:Value)(f:FuncId)(w:World)(h:SlOf w v Pr.cells 5 xs)[hE:Enters Tryz.prog f](hC:∀x y:Pr,∀w':World,Calls Tryz.prog f #[.agg (Pr.cells (x)).toArray, .agg (Pr.cells (y)).toArray] w' fun e w''=>e= .returned (.int .i64 (c x y))∧Below w'.heap.size w' w'')(hl:xs.length≤9223372036854775807):Calls Tryz.prog 132 #[v, .func (.func f) #[] #[]] w fun e w'=>e= .returned (.bool (fG c xs))∧Below w.heap.size w w':=by
 obtain ⟨A,cap,rfl,hsl⟩:=h.op;refine dt (M:=fun _=>False) (hs:=[]) Tryz.func132 rfl rfl rfl (Hp.refl _ _) ?_;refine jo ?_;refine db (T.block ?_);refine T.loop (ι:=Nat) (fun k=>[(0, .slice A xs.length cap),(1, .func (.func f) #[] #[]),(5, .int .i64 (k:Int))]) (fun k=>[]) (fun k=>1≤k∧∀j,j<k→j<xs.length→(decide (j=0)|| !decide (0≤c (cJ xs (j - 1)) (cJ xs j)))=true) (fun k=>xs.length - k) 1 ?_ ?_ ?_ ?_
 ·exact q5b
 ·exact (by repeat (first|exact Sub.nil|refine Sub.cons rfl ?_))
 ·exact Sx
 ·intro k hphi;obtain ⟨hk0,hall⟩:=hphi;refine iC ?_;refine mn ?_;refine dA ?_;refine T.cond rfl (fun h1=>?_) (fun h1=>?_)
  ·have p1:=h1; (try simp only [cX] at p1);obtain ⟨g,off,rfl,hc⟩:=hsl a5;have hk:=hc k a5;have hk1:=hc (k - 1) a5;simp only [Pr.cells] at hk hk1;refine q0x ?_; (refine de rfl (Wt.none) rfl rfl (cM rfl rfl rfl (fun w hw=>hC (cJ xs (k - 1)) (cJ xs k) w)) ?_;rintro _ _ ⟨rfl,rfl⟩;refine ⟨Sx,?_⟩);refine kg ?_;refine T.cond rfl (fun h2=>?_) (fun h2=>?_)
   ·have p2:=h2; (try simp only [cX] at p2);refine gN ?_;refine c4 rfl rfl (fun w' hw=>⟨?_,hw.isBelow⟩);exact q5c
   ·have p2:=h2; (try simp only [cX] at p2);refine ga ?_;exact K.next (k+1) ⟨by omega,fun j hj hjl=>by rcases Nat.lt_or_ge j k with hh|hh;exact hall j hh hjl;rw [show j=k from by omega,decide_eq_false a5];simpa using p2⟩ a5 (by repeat (first|exact Sub.nil|refine Sub.cons rfl ?_)) Sx
  ·have p1:=h1; (try simp only [cX] at p1);refine q4H ?_;refine c4 rfl rfl (fun w' hw=>⟨?_,hw.isBelow⟩);exact q5d
theorem zmw {q:Ld→Bool}(xs:List Ld)(v:Value)(f:FuncId)(caps:Array Value)(w:World)(h:SlOf w v Ld.cells 5 xs)[hE:Enters Tryz.prog f](hC:∀k,k<xs.length→∀w',Below w.heap.size w w'→Calls Tryz.prog f (.agg (Ld.cells (cJ xs k)).toArray :: caps.toList).toArray w' fun e w''=>e= .returned (.bool (q (cJ xs k)))∧Below w'.heap.size w' w'')(hl:xs.length≤9223372036854775807):Calls Tryz.prog 112 #[v, .func (.func f) #[] caps] w fun e w'=>e= .returned (.bool (fU q xs))∧Below w.heap.size w w':=by
 obtain ⟨A,cap,rfl,hsl⟩:=h.op;refine dt (M:=fun _=>False) (hs:=[]) Tryz.func112 rfl rfl rfl (Hp.refl _ _) ?_;refine jo ?_;refine j4 ?_;refine T.loop (ι:=Nat) (fun k=>[(1, .func (.func f) #[] caps),(7, .slice A xs.length cap),(8, .int .i64 (xs.length:Int)),(9, .int .i64 (k:Int))]) (fun k=>[]) (fun k=>k≤xs.length∧∀j,j<k→q (cJ xs j)=true) (fun k=>xs.length - k) 0 ?_ ?_ ?_ ?_
 ·exact q48
 ·exact (by repeat (first|exact Sub.nil|refine Sub.cons rfl ?_))
 ·exact Sx
 ·intro k hphi;obtain ⟨hkl,hall⟩:=hphi;refine fb ?_;refine T.cond rfl (fun h1=>?_) (fun h1=>?_)
  ·have p1:=h1; (try simp only [cX] at p1);obtain ⟨g,off,rfl,hc⟩:=hsl a5;have hk:=hc k a5;simp only [Ld.cells] at hk;refine fh ?_;refine me ?_; (refine cN (Wt.none) rfl rfl (Ew.alloc) ?_;rintro _ _ ⟨g6,rfl,rfl⟩); (refine dP (Wt.none) rfl (dI 0) ?_;rintro _ _ ⟨rfl,rfl⟩);refine m7 ?_;refine ik ?_; (refine cN (Wt.none) rfl rfl (kH rfl rfl rfl (fun w hw=>hC k a5 w hw.isBelow)) ?_;rintro _ _ ⟨rfl,rfl⟩);refine dA ?_;refine T.cond rfl (fun h2=>?_) (fun h2=>?_)
   ·have p2:=h2; (try simp only [cX] at p2);refine gN ?_;refine c4 rfl rfl (fun w' hw=>⟨?_,hw.isBelow⟩);exact q49
   ·have p2:=h2; (try simp only [cX] at p2);refine iz ?_;exact K.next (k+1) ⟨by omega,zet hall (by simpa using p2)⟩ a5 (by repeat (first|exact Sub.nil|refine Sub.cons rfl ?_)) Sx
  ·have p1:=h1; (try simp only [cX] at p1);refine q4H ?_;refine c4 rfl rfl (fun w' hw=>⟨?_,hw.isBelow⟩);exact q5a
theorem zi1 {c:Ld→Ld→Int}(xs:List Ld)(v:Value)(f:FuncId)(w:World)(h:SlOf w v Ld.cells 5 xs)[hE:Enters Tryz.prog f](hC:∀x y:Ld,∀w':World,Calls Tryz.prog f #[.agg (Ld.cells (x)).toArray, .agg (Ld.cells (y)).toArray] w' fun e w''=>e= .returned (.int .i64 (c x y))∧Below w'.heap.size w' w'')(hl:xs.length≤9223372036854775807):Calls Tryz.prog 135 #[v, .func (.func f) #[] #[]] w fun e w'=>e= .returned (.bool (fG c xs))∧Below w.heap.size w w':=by
 obtain ⟨A,cap,rfl,hsl⟩:=h.op;refine dt (M:=fun _=>False) (hs:=[]) Tryz.func135 rfl rfl rfl (Hp.refl _ _) ?_;refine jo ?_;refine db (T.block ?_);refine T.loop (ι:=Nat) (fun k=>[(0, .slice A xs.length cap),(1, .func (.func f) #[] #[]),(5, .int .i64 (k:Int))]) (fun k=>[]) (fun k=>1≤k∧∀j,j<k→j<xs.length→(decide (j=0)|| !decide (0≤c (cJ xs (j - 1)) (cJ xs j)))=true) (fun k=>xs.length - k) 1 ?_ ?_ ?_ ?_
 ·exact q5b
 ·exact (by repeat (first|exact Sub.nil|refine Sub.cons rfl ?_))
 ·exact Sx
 ·intro k hphi;obtain ⟨hk0,hall⟩:=hphi;refine iC ?_;refine mn ?_;refine dA ?_;refine T.cond rfl (fun h1=>?_) (fun h1=>?_)
  ·have p1:=h1; (try simp only [cX] at p1);obtain ⟨g,off,rfl,hc⟩:=hsl a5;have hk:=hc k a5;have hk1:=hc (k - 1) a5;simp only [Ld.cells] at hk hk1;refine q0x ?_; (refine de rfl (Wt.none) rfl rfl (cM rfl rfl rfl (fun w hw=>hC (cJ xs (k - 1)) (cJ xs k) w)) ?_;rintro _ _ ⟨rfl,rfl⟩;refine ⟨Sx,?_⟩);refine kg ?_;refine T.cond rfl (fun h2=>?_) (fun h2=>?_)
   ·have p2:=h2; (try simp only [cX] at p2);refine gN ?_;refine c4 rfl rfl (fun w' hw=>⟨?_,hw.isBelow⟩);exact q5c
   ·have p2:=h2; (try simp only [cX] at p2);refine ga ?_;exact K.next (k+1) ⟨by omega,fun j hj hjl=>by rcases Nat.lt_or_ge j k with hh|hh;exact hall j hh hjl;rw [show j=k from by omega,decide_eq_false a5];simpa using p2⟩ a5 (by repeat (first|exact Sub.nil|refine Sub.cons rfl ?_)) Sx
  ·have p1:=h1; (try simp only [cX] at p1);refine q4H ?_;refine c4 rfl rfl (fun w' hw=>⟨?_,hw.isBelow⟩);exact q5d
theorem zll {q:Cp→Bool}(xs:List Cp)(v:Value)(f:FuncId)(caps:Array Value)(w:World)(h:SlOf w v Cp.cells 4 xs)[hE:Enters Tryz.prog f](hC:∀k,k<xs.length→∀w',Below w.heap.size w w'→Calls Tryz.prog f (.agg (Cp.cells (cJ xs k)).toArray :: caps.toList).toArray w' fun e w''=>e= .returned (.bool (q (cJ xs k)))∧Below w'.heap.size w' w'')(hl:xs.length≤9223372036854775807):Calls Tryz.prog 114 #[v, .func (.func f) #[] caps] w fun e w'=>e= .returned (.bool (fU q xs))∧Below w.heap.size w w':=by
 obtain ⟨A,cap,rfl,hsl⟩:=h.op;refine dt (M:=fun _=>False) (hs:=[]) Tryz.func114 rfl rfl rfl (Hp.refl _ _) ?_;refine jo ?_;refine j4 ?_;refine T.loop (ι:=Nat) (fun k=>[(1, .func (.func f) #[] caps),(7, .slice A xs.length cap),(8, .int .i64 (xs.length:Int)),(9, .int .i64 (k:Int))]) (fun k=>[]) (fun k=>k≤xs.length∧∀j,j<k→q (cJ xs j)=true) (fun k=>xs.length - k) 0 ?_ ?_ ?_ ?_
 ·exact q48
 ·exact (by repeat (first|exact Sub.nil|refine Sub.cons rfl ?_))
 ·exact Sx
 ·intro k hphi;obtain ⟨hkl,hall⟩:=hphi;refine fb ?_;refine T.cond rfl (fun h1=>?_) (fun h1=>?_)
  ·have p1:=h1; (try simp only [cX] at p1);obtain ⟨g,off,rfl,hc⟩:=hsl a5;have hk:=hc k a5;simp only [Cp.cells] at hk;refine fh ?_;refine me ?_; (refine cN (Wt.none) rfl rfl (Ew.alloc) ?_;rintro _ _ ⟨g6,rfl,rfl⟩); (refine dP (Wt.none) rfl (dI 0) ?_;rintro _ _ ⟨rfl,rfl⟩);refine m7 ?_;refine ik ?_; (refine cN (Wt.none) rfl rfl (kH rfl rfl rfl (fun w hw=>hC k a5 w hw.isBelow)) ?_;rintro _ _ ⟨rfl,rfl⟩);refine dA ?_;refine T.cond rfl (fun h2=>?_) (fun h2=>?_)
   ·have p2:=h2; (try simp only [cX] at p2);refine gN ?_;refine c4 rfl rfl (fun w' hw=>⟨?_,hw.isBelow⟩);exact q49
   ·have p2:=h2; (try simp only [cX] at p2);refine iz ?_;exact K.next (k+1) ⟨by omega,zet hall (by simpa using p2)⟩ a5 (by repeat (first|exact Sub.nil|refine Sub.cons rfl ?_)) Sx
  ·have p1:=h1; (try simp only [cX] at p1);refine q4H ?_;refine c4 rfl rfl (fun w' hw=>⟨?_,hw.isBelow⟩);exact q5a
theorem ziV {c:Cp→Cp→Int}(xs:List Cp)(v:Value)(f:FuncId)(w:World)(h:SlOf w v Cp.cells 4 xs)[hE:Enters Tryz.prog f](hC:∀x y:Cp,∀w':World,Calls Tryz.prog f #[.agg (Cp.cells (x)).toArray, .agg (Cp.cells (y)).toArray] w' fun e w''=>e= .returned (.int .i64 (c x y))∧Below w'.heap.size w' w'')(hl:xs.length≤9223372036854775807):Calls Tryz.prog 138 #[v, .func (.func f) #[] #[]] w fun e w'=>e= .returned (.bool (fG c xs))∧Below w.heap.size w w':=by
 obtain ⟨A,cap,rfl,hsl⟩:=h.op;refine dt (M:=fun _=>False) (hs:=[]) Tryz.func138 rfl rfl rfl (Hp.refl _ _) ?_;refine jo ?_;refine db (T.block ?_);refine T.loop (ι:=Nat) (fun k=>[(0, .slice A xs.length cap),(1, .func (.func f) #[] #[]),(5, .int .i64 (k:Int))]) (fun k=>[]) (fun k=>1≤k∧∀j,j<k→j<xs.length→(decide (j=0)|| !decide (0≤c (cJ xs (j - 1)) (cJ xs j)))=true) (fun k=>xs.length - k) 1 ?_ ?_ ?_ ?_
 ·exact q5b
 ·exact (by repeat (first|exact Sub.nil|refine Sub.cons rfl ?_))
 ·exact Sx
 ·intro k hphi;obtain ⟨hk0,hall⟩:=hphi;refine iC ?_;refine mn ?_;refine dA ?_;refine T.cond rfl (fun h1=>?_) (fun h1=>?_)
  ·have p1:=h1; (try simp only [cX] at p1);obtain ⟨g,off,rfl,hc⟩:=hsl a5;have hk:=hc k a5;have hk1:=hc (k - 1) a5;simp only [Cp.cells] at hk hk1;refine q0x ?_; (refine de rfl (Wt.none) rfl rfl (cM rfl rfl rfl (fun w hw=>hC (cJ xs (k - 1)) (cJ xs k) w)) ?_;rintro _ _ ⟨rfl,rfl⟩;refine ⟨Sx,?_⟩);refine kg ?_;refine T.cond rfl (fun h2=>?_) (fun h2=>?_)
   ·have p2:=h2; (try simp only [cX] at p2);refine gN ?_;refine c4 rfl rfl (fun w' hw=>⟨?_,hw.isBelow⟩);exact q5c
   ·have p2:=h2; (try simp only [cX] at p2);refine ga ?_;exact K.next (k+1) ⟨by omega,fun j hj hjl=>by rcases Nat.lt_or_ge j k with hh|hh;exact hall j hh hjl;rw [show j=k from by omega,decide_eq_false a5];simpa using p2⟩ a5 (by repeat (first|exact Sub.nil|refine Sub.cons rfl ?_)) Sx
  ·have p1:=h1; (try simp only [cX] at p1);refine q4H ?_;refine c4 rfl rfl (fun w' hw=>⟨?_,hw.isBelow⟩);exact q5d
theorem zns {q:Int→Bool}(xs:List Int)(v:Value)(f:FuncId)(caps:Array Value)(w:World)(h:SlOf w v Ie 1 xs)[hE:Enters Tryz.prog f](hC:∀k,k<xs.length→∀w',Below w.heap.size w w'→Calls Tryz.prog f (.int .i64 (cJ xs k) :: caps.toList).toArray w' fun e w''=>e= .returned (.bool (q (cJ xs k)))∧Below w'.heap.size w' w'')(hl:xs.length≤9223372036854775807):Calls Tryz.prog 122 #[v, .func (.func f) #[] caps] w fun e w'=>e= .returned (.bool (fU q xs))∧Below w.heap.size w w':=by
 obtain ⟨A,cap,rfl,hsl⟩:=h.op;refine dt (M:=fun _=>False) (hs:=[]) Tryz.func122 rfl rfl rfl (Hp.refl _ _) ?_;refine jo ?_;refine j4 ?_;refine T.loop (ι:=Nat) (fun k=>[(1, .func (.func f) #[] caps),(7, .slice A xs.length cap),(8, .int .i64 (xs.length:Int)),(9, .int .i64 (k:Int))]) (fun k=>[]) (fun k=>k≤xs.length∧∀j,j<k→q (cJ xs j)=true) (fun k=>xs.length - k) 0 ?_ ?_ ?_ ?_
 ·exact q48
 ·exact (by repeat (first|exact Sub.nil|refine Sub.cons rfl ?_))
 ·exact Sx
 ·intro k hphi;obtain ⟨hkl,hall⟩:=hphi;refine fb ?_;refine T.cond rfl (fun h1=>?_) (fun h1=>?_)
  ·have p1:=h1; (try simp only [cX] at p1);obtain ⟨g,off,rfl,hc⟩:=hsl a5;have hk:=hc k a5;simp only [Ie] at hk;refine fh ?_;refine q2q ?_;refine gF ?_;refine d8 ?_; (refine cN (Wt.none) rfl rfl (kH rfl rfl rfl (fun w hw=>hC k a5 w hw.isBelow)) ?_;rintro _ _ ⟨rfl,rfl⟩);refine dA ?_;refine T.cond rfl (fun h2=>?_) (fun h2=>?_)
   ·have p2:=h2; (try simp only [cX] at p2);refine gN ?_;refine c4 rfl rfl (fun w' hw=>⟨?_,hw.isBelow⟩);exact q49
   ·have p2:=h2; (try simp only [cX] at p2);refine iz ?_;exact K.next (k+1) ⟨by omega,zet hall (by simpa using p2)⟩ a5 (by repeat (first|exact Sub.nil|refine Sub.cons rfl ?_)) Sx
  ·have p1:=h1; (try simp only [cX] at p1);refine q4H ?_;refine c4 rfl rfl (fun w' hw=>⟨?_,hw.isBelow⟩);exact q5a
theorem zif {c:Int→Int→Int}(xs:List Int)(v:Value)(f:FuncId)(w:World)(h:SlOf w v Ie 1 xs)[hE:Enters Tryz.prog f](hC:∀x y:Int,∀w':World,Calls Tryz.prog f #[.int .i64 (x), .int .i64 (y)] w' fun e w''=>e= .returned (.int .i64 (c x y))∧Below w'.heap.size w' w'')(hl:xs.length≤9223372036854775807):Calls Tryz.prog 123 #[v, .func (.func f) #[] #[]] w fun e w'=>e= .returned (.bool (fG c xs))∧Below w.heap.size w w':=by
 obtain ⟨A,cap,rfl,hsl⟩:=h.op;refine dt (M:=fun _=>False) (hs:=[]) Tryz.func123 rfl rfl rfl (Hp.refl _ _) ?_;refine jo ?_;refine db (T.block ?_);refine T.loop (ι:=Nat) (fun k=>[(0, .slice A xs.length cap),(1, .func (.func f) #[] #[]),(5, .int .i64 (k:Int))]) (fun k=>[]) (fun k=>1≤k∧∀j,j<k→j<xs.length→(decide (j=0)|| !decide (0≤c (cJ xs (j - 1)) (cJ xs j)))=true) (fun k=>xs.length - k) 1 ?_ ?_ ?_ ?_
 ·exact q5b
 ·exact (by repeat (first|exact Sub.nil|refine Sub.cons rfl ?_))
 ·exact Sx
 ·intro k hphi;obtain ⟨hk0,hall⟩:=hphi;refine iC ?_;refine mn ?_;refine dA ?_;refine T.cond rfl (fun h1=>?_) (fun h1=>?_)
  ·have p1:=h1; (try simp only [cX] at p1);obtain ⟨g,off,rfl,hc⟩:=hsl a5;have hk:=hc k a5;have hk1:=hc (k - 1) a5;simp only [Ie] at hk hk1;refine je ?_;refine q3o ?_;refine q1i ?_;refine cQ rfl (gJ rfl rfl rfl (show (k:Int) - 1=((k - 1:Nat):Int) from by omega) a5) ?_;refine cQ rfl (d9 (j:=0) rfl rfl hk1 rfl rfl (fun h=>h)) ?_;refine gV ?_;refine q3h ?_;refine cQ rfl (d9 (j:=0) rfl rfl hk rfl rfl (fun h=>h)) ?_;refine dy ?_; (refine de rfl (Wt.none) rfl rfl (cM rfl rfl rfl (fun w hw=>hC (cJ xs (k - 1)) (cJ xs k) w)) ?_;rintro _ _ ⟨rfl,rfl⟩;refine ⟨Sx,?_⟩);refine kg ?_;refine T.cond rfl (fun h2=>?_) (fun h2=>?_)
   ·have p2:=h2; (try simp only [cX] at p2);refine gN ?_;refine c4 rfl rfl (fun w' hw=>⟨?_,hw.isBelow⟩);exact q5c
   ·have p2:=h2; (try simp only [cX] at p2);refine ga ?_;exact K.next (k+1) ⟨by omega,fun j hj hjl=>by rcases Nat.lt_or_ge j k with hh|hh;exact hall j hh hjl;rw [show j=k from by omega,decide_eq_false a5];simpa using p2⟩ a5 (by repeat (first|exact Sub.nil|refine Sub.cons rfl ?_)) Sx
  ·have p1:=h1; (try simp only [cX] at p1);refine q4H ?_;refine c4 rfl rfl (fun w' hw=>⟨?_,hw.isBelow⟩);exact q5d
def Pr.ok (x:Pr):Bool:=inB x.a 0 511&&(inB x.b 0 511&&(decide (x.a<x.b)&&(inB x.off (-1) 1&&fj x.lo x.hi)))
def Ld.ok (x:Ld):Bool:=inB x.to 0 511&&(inB x.fr 0 511&&(decide (¬x.to=x.fr)&&(inB x.wt 1 1073741824&&fj x.lo x.hi)))
def Cp.ok (x:Cp):Bool:=inB x.st 0 511&&(inB x.mx 0 1099511627776&&fj x.lo x.hi)
def Pr.cmp (x y:Pr):Int:=mI [dT x.a y.a,dT x.b y.b,dT x.off y.off,dT x.lo y.lo,dT x.hi y.hi]
def Ld.cmp (x y:Ld):Int:=mI [dT x.to y.to,dT x.fr y.fr,dT x.wt y.wt,dT x.lo y.lo,dT x.hi y.hi]
def Cp.cmp (x y:Cp):Int:=mI [dT x.st y.st,dT x.mx y.mx,dT x.lo y.lo,dT x.hi y.hi]
theorem zjp (x:Pr)(w:World):Calls Tryz.prog 131 #[.agg (Pr.cells x).toArray] w fun e w'=>e= .returned (.bool x.ok)∧Below w.heap.size w w':=by
 refine dt (M:=fun _=>False) (hs:=[]) Tryz.func131 rfl rfl rfl (Hp.refl _ _) ?_;simp only [Pr.cells];refine dh ?_; (refine cN (Wt.none) rfl rfl (dJ) ?_;rintro _ _ ⟨g1,rfl,rfl⟩);refine gF ?_;refine ef ?_; (refine cN (Wt.none) rfl rfl (cM rfl rfl rfl (fun w hw=>zcu _ _)) ?_;rintro _ _ ⟨rfl,rfl⟩);refine di ?_;refine du rfl rfl rfl (fun h1=>?_) (fun h1=>?_)
 ·have p1:=h1; (try simp only [cX] at p1);refine q0N ?_; (refine cN (Wt.some rfl rfl rfl h1) rfl rfl (cM rfl rfl rfl (fun w hw=>zcu _ _)) ?_;rintro _ _ ⟨rfl,rfl⟩);refine lq ?_;refine di ?_;refine du rfl rfl rfl (fun h2=>?_) (fun h2=>?_)
  ·have p2:=h2; (try simp only [cX] at p2);refine ny ?_;refine ny ?_;refine mG ?_;refine q26 ?_;refine di ?_;refine du rfl rfl rfl (fun h3=>?_) (fun h3=>?_)
   ·have p3:=h3; (try simp only [cX] at p3);refine q0Z ?_; (refine cN (Wt.some rfl rfl rfl h3) rfl rfl (cM rfl rfl rfl (fun w hw=>zdE _ _ _ _)) ?_;rintro _ _ ⟨rfl,rfl⟩);refine q4h ?_;refine di ?_;refine du rfl rfl rfl (fun h4=>?_) (fun h4=>?_)
    ·have p4:=h4; (try simp only [cX] at p4);refine q00 ?_;refine q00 ?_; (refine cN (Wt.some rfl rfl rfl h4) rfl rfl (cM rfl rfl rfl (fun w hw=>ze2 _ _ _)) ?_;rintro _ _ ⟨rfl,rfl⟩);refine cL (eV rfl rfl h4) ?_;refine fw ?_;refine c4 rfl rfl (fun w' hw=>⟨?_,hw.isBelow⟩);exact q5e
    ·have p4:=h4; (try simp only [cX] at p4);refine q2H ?_;refine fw ?_;refine c4 rfl rfl (fun w' hw=>⟨?_,hw.isBelow⟩);exact q5e
   ·have p3:=h3; (try simp only [cX] at p3);refine q0w ?_;refine cL (ek rfl rfl h3) ?_;refine TL.run 8 rfl ?_;refine fW ?_;refine c4 rfl rfl (fun w' hw=>⟨?_,hw.isBelow⟩);exact q5e
  ·have p2:=h2; (try simp only [cX] at p2);refine q0l ?_;refine q18 ?_;refine TL.run 13 rfl ?_;refine fW ?_;refine c4 rfl rfl (fun w' hw=>⟨?_,hw.isBelow⟩);exact q5e
 ·have p1:=h1; (try simp only [cX] at p1);refine q1v ?_;refine TL.run 20 rfl ?_;refine fW ?_;refine c4 rfl rfl (fun w' hw=>⟨?_,hw.isBelow⟩);exact q5e
theorem zgg (x y:Pr)(w:World):Calls Tryz.prog 133 #[.agg (Pr.cells x).toArray, .agg (Pr.cells y).toArray] w fun e w'=>e= .returned (.int .i64 (x.cmp y))∧Below w.heap.size w w':=by
 refine dt (M:=fun _=>False) (hs:=[]) Tryz.func133 rfl rfl rfl (Hp.refl _ _) ?_;simp only [Pr.cells];refine dh ?_; (refine cN (Wt.none) rfl rfl (dJ) ?_;rintro _ _ ⟨g2,rfl,rfl⟩); (refine cN (Wt.none) rfl rfl (dJ) ?_;rintro _ _ ⟨g3,rfl,rfl⟩);refine q1s ?_;refine dy ?_; (refine de rfl (Wt.none) rfl rfl (cM rfl rfl rfl (fun w hw=>ll _ _ _)) ?_;rintro _ _ ⟨rfl,rfl⟩;refine ⟨Sx,?_⟩);refine dy ?_; (refine de rfl (Wt.none) rfl rfl (cM rfl rfl rfl (fun w hw=>ll _ _ _)) ?_;rintro _ _ ⟨rfl,rfl⟩;refine ⟨Sx,?_⟩);refine dy ?_; (refine de rfl (Wt.none) rfl rfl (cM rfl rfl rfl (fun w hw=>ll _ _ _)) ?_;rintro _ _ ⟨rfl,rfl⟩;refine ⟨Sx,?_⟩);refine dy ?_; (refine de rfl (Wt.none) rfl rfl (cM rfl rfl rfl (fun w hw=>ll _ _ _)) ?_;rintro _ _ ⟨rfl,rfl⟩;refine ⟨Sx,?_⟩);refine dy ?_; (refine de rfl (Wt.none) rfl rfl (cM rfl rfl rfl (fun w hw=>ll _ _ _)) ?_;rintro _ _ ⟨rfl,rfl⟩;refine ⟨Sx,?_⟩);refine dy ?_; (refine de rfl (Wt.none) rfl rfl (Ew.buildSlice rfl rfl rfl a6) ?_;rintro _ _ ⟨g30,rfl,rfl⟩;refine ⟨Sx,?_⟩);refine dy ?_; (refine de rfl (Wt.none) rfl rfl (cM rfl rfl rfl (fun w hw=>zmy [dT x.a y.a,dT x.b y.b,dT x.off y.off,dT x.lo y.lo,dT x.hi y.hi] _ w (SlOf.lit (enc:=Ie) (size:=1) (fun _=>rfl) _ (c7.1 (hw.get (i:=0) rfl)) rfl rfl) a9)) ?_;rintro _ _ ⟨rfl,rfl⟩;refine ⟨Sx,?_⟩);refine q4O ?_;refine c4 rfl rfl (fun w' hw=>⟨?_,hw.isBelow⟩)
 rfl
theorem zjg (x:Ld)(w:World):Calls Tryz.prog 134 #[.agg (Ld.cells x).toArray] w fun e w'=>e= .returned (.bool x.ok)∧Below w.heap.size w w':=by
 refine dt (M:=fun _=>False) (hs:=[]) Tryz.func134 rfl rfl rfl (Hp.refl _ _) ?_;simp only [Ld.cells];refine dh ?_; (refine cN (Wt.none) rfl rfl (dJ) ?_;rintro _ _ ⟨g1,rfl,rfl⟩);refine gF ?_;refine ef ?_; (refine cN (Wt.none) rfl rfl (cM rfl rfl rfl (fun w hw=>zcu _ _)) ?_;rintro _ _ ⟨rfl,rfl⟩);refine di ?_;refine du rfl rfl rfl (fun h1=>?_) (fun h1=>?_)
 ·have p1:=h1; (try simp only [cX] at p1);refine q0N ?_; (refine cN (Wt.some rfl rfl rfl h1) rfl rfl (cM rfl rfl rfl (fun w hw=>zcu _ _)) ?_;rintro _ _ ⟨rfl,rfl⟩);refine lq ?_;refine di ?_;refine du rfl rfl rfl (fun h2=>?_) (fun h2=>?_)
  ·have p2:=h2; (try simp only [cX] at p2);refine ny ?_;refine ny ?_;refine mG ?_;refine q26 ?_;refine di ?_;refine du rfl rfl rfl (fun h3=>?_) (fun h3=>?_)
   ·have p3:=h3; (try simp only [cX] at p3);refine q0Z ?_; (refine cN (Wt.some rfl rfl rfl h3) rfl rfl (cM rfl rfl rfl (fun w hw=>zdE _ _ _ _)) ?_;rintro _ _ ⟨rfl,rfl⟩);refine q4h ?_;refine di ?_;refine du rfl rfl rfl (fun h4=>?_) (fun h4=>?_)
    ·have p4:=h4; (try simp only [cX] at p4);refine q00 ?_;refine q00 ?_; (refine cN (Wt.some rfl rfl rfl h4) rfl rfl (cM rfl rfl rfl (fun w hw=>ze2 _ _ _)) ?_;rintro _ _ ⟨rfl,rfl⟩);refine cL (eV rfl rfl h4) ?_;refine fw ?_;refine c4 rfl rfl (fun w' hw=>⟨?_,hw.isBelow⟩);exact q5f
    ·have p4:=h4; (try simp only [cX] at p4);refine q2H ?_;refine fw ?_;refine c4 rfl rfl (fun w' hw=>⟨?_,hw.isBelow⟩);exact q5f
   ·have p3:=h3; (try simp only [cX] at p3);refine q0w ?_;refine cL (ek rfl rfl h3) ?_;refine TL.run 8 rfl ?_;refine fW ?_;refine c4 rfl rfl (fun w' hw=>⟨?_,hw.isBelow⟩);exact q5f
  ·have p2:=h2; (try simp only [cX] at p2);refine q0l ?_;refine q18 ?_;refine TL.run 13 rfl ?_;refine fW ?_;refine c4 rfl rfl (fun w' hw=>⟨?_,hw.isBelow⟩);exact q5f
 ·have p1:=h1; (try simp only [cX] at p1);refine q1v ?_;refine TL.run 20 rfl ?_;refine fW ?_;refine c4 rfl rfl (fun w' hw=>⟨?_,hw.isBelow⟩);exact q5f
theorem zgp (x y:Ld)(w:World):Calls Tryz.prog 136 #[.agg (Ld.cells x).toArray, .agg (Ld.cells y).toArray] w fun e w'=>e= .returned (.int .i64 (x.cmp y))∧Below w.heap.size w w':=by
 refine dt (M:=fun _=>False) (hs:=[]) Tryz.func136 rfl rfl rfl (Hp.refl _ _) ?_;simp only [Ld.cells];refine dh ?_; (refine cN (Wt.none) rfl rfl (dJ) ?_;rintro _ _ ⟨g2,rfl,rfl⟩); (refine cN (Wt.none) rfl rfl (dJ) ?_;rintro _ _ ⟨g3,rfl,rfl⟩);refine q1s ?_;refine dy ?_; (refine de rfl (Wt.none) rfl rfl (cM rfl rfl rfl (fun w hw=>ll _ _ _)) ?_;rintro _ _ ⟨rfl,rfl⟩;refine ⟨Sx,?_⟩);refine dy ?_; (refine de rfl (Wt.none) rfl rfl (cM rfl rfl rfl (fun w hw=>ll _ _ _)) ?_;rintro _ _ ⟨rfl,rfl⟩;refine ⟨Sx,?_⟩);refine dy ?_; (refine de rfl (Wt.none) rfl rfl (cM rfl rfl rfl (fun w hw=>ll _ _ _)) ?_;rintro _ _ ⟨rfl,rfl⟩;refine ⟨Sx,?_⟩);refine dy ?_; (refine de rfl (Wt.none) rfl rfl (cM rfl rfl rfl (fun w hw=>ll _ _ _)) ?_;rintro _ _ ⟨rfl,rfl⟩;refine ⟨Sx,?_⟩);refine dy ?_; (refine de rfl (Wt.none) rfl rfl (cM rfl rfl rfl (fun w hw=>ll _ _ _)) ?_;rintro _ _ ⟨rfl,rfl⟩;refine ⟨Sx,?_⟩);refine dy ?_; (refine de rfl (Wt.none) rfl rfl (Ew.buildSlice rfl rfl rfl a6) ?_;rintro _ _ ⟨g30,rfl,rfl⟩;refine ⟨Sx,?_⟩);refine dy ?_; (refine de rfl (Wt.none) rfl rfl (cM rfl rfl rfl (fun w hw=>zmy [dT x.to y.to,dT x.fr y.fr,dT x.wt y.wt,dT x.lo y.lo,dT x.hi y.hi] _ w (SlOf.lit (enc:=Ie) (size:=1) (fun _=>rfl) _ (c7.1 (hw.get (i:=0) rfl)) rfl rfl) a9)) ?_;rintro _ _ ⟨rfl,rfl⟩;refine ⟨Sx,?_⟩);refine q4O ?_;refine c4 rfl rfl (fun w' hw=>⟨?_,hw.isBelow⟩)
 rfl
theorem zjQ (x:Cp)(w:World):Calls Tryz.prog 137 #[.agg (Cp.cells x).toArray] w fun e w'=>e= .returned (.bool x.ok)∧Below w.heap.size w w':=by
 refine dt (M:=fun _=>False) (hs:=[]) Tryz.func137 rfl rfl rfl (Hp.refl _ _) ?_;simp only [Cp.cells];refine dh ?_; (refine cN (Wt.none) rfl rfl (dJ) ?_;rintro _ _ ⟨g1,rfl,rfl⟩);refine gF ?_;refine ef ?_; (refine cN (Wt.none) rfl rfl (cM rfl rfl rfl (fun w hw=>zcu _ _)) ?_;rintro _ _ ⟨rfl,rfl⟩);refine di ?_;refine du rfl rfl rfl (fun h1=>?_) (fun h1=>?_)
 ·have p1:=h1; (try simp only [cX] at p1);refine q0N ?_; (refine cN (Wt.some rfl rfl rfl h1) rfl rfl (cM rfl rfl rfl (fun w hw=>zdE _ _ _ _)) ?_;rintro _ _ ⟨rfl,rfl⟩);refine lq ?_;refine di ?_;refine du rfl rfl rfl (fun h2=>?_) (fun h2=>?_)
  ·have p2:=h2; (try simp only [cX] at p2);refine ny ?_;refine ny ?_; (refine cN (Wt.some rfl rfl rfl h2) rfl rfl (cM rfl rfl rfl (fun w hw=>ze2 _ _ _)) ?_;rintro _ _ ⟨rfl,rfl⟩);refine q26 ?_;refine fw ?_;refine c4 rfl rfl (fun w' hw=>⟨?_,hw.isBelow⟩);exact q5s
  ·have p2:=h2; (try simp only [cX] at p2);refine q0l ?_;refine q18 ?_;refine fw ?_;refine c4 rfl rfl (fun w' hw=>⟨?_,hw.isBelow⟩);exact q5s
 ·have p1:=h1; (try simp only [cX] at p1);refine q1v ?_;refine TL.run 8 rfl ?_;refine fW ?_;refine c4 rfl rfl (fun w' hw=>⟨?_,hw.isBelow⟩);exact q5s
theorem zg2 (x y:Cp)(w:World):Calls Tryz.prog 139 #[.agg (Cp.cells x).toArray, .agg (Cp.cells y).toArray] w fun e w'=>e= .returned (.int .i64 (x.cmp y))∧Below w.heap.size w w':=by
 refine dt (M:=fun _=>False) (hs:=[]) Tryz.func139 rfl rfl rfl (Hp.refl _ _) ?_;simp only [Cp.cells];refine dh ?_; (refine cN (Wt.none) rfl rfl (dJ) ?_;rintro _ _ ⟨g2,rfl,rfl⟩); (refine cN (Wt.none) rfl rfl (dJ) ?_;rintro _ _ ⟨g3,rfl,rfl⟩);refine j9 ?_;refine dD (sN 0 4 (sN 5 4 (sN 10 4 (sN 15 4 (.eff 4 (.eff 9 (.eff 14 (.eff 19 (.eff 20 (.eff 21 (.still 22 .done))))))))))) _ a7 (List.Sublist.refl _) ?_;refine q0E ?_;refine fH ?_;refine cQ rfl (dc 1) ?_;refine m0 ?_; (refine de rfl (Wt.none) rfl rfl (cM rfl rfl rfl (fun w hw=>ll _ _ _)) ?_;rintro _ _ ⟨rfl,rfl⟩;refine ⟨Sx,?_⟩);refine dy ?_; (refine de rfl (Wt.none) rfl rfl (cM rfl rfl rfl (fun w hw=>ll _ _ _)) ?_;rintro _ _ ⟨rfl,rfl⟩;refine ⟨Sx,?_⟩);refine dy ?_; (refine de rfl (Wt.none) rfl rfl (cM rfl rfl rfl (fun w hw=>ll _ _ _)) ?_;rintro _ _ ⟨rfl,rfl⟩;refine ⟨Sx,?_⟩);refine dy ?_; (refine de rfl (Wt.none) rfl rfl (cM rfl rfl rfl (fun w hw=>ll _ _ _)) ?_;rintro _ _ ⟨rfl,rfl⟩;refine ⟨Sx,?_⟩);refine dy ?_; (refine de rfl (Wt.none) rfl rfl (Ew.buildSlice rfl rfl rfl a6) ?_;rintro _ _ ⟨g25,rfl,rfl⟩;refine ⟨Sx,?_⟩);refine dy ?_; (refine de rfl (Wt.none) rfl rfl (cM rfl rfl rfl (fun w hw=>zmy [dT x.st y.st,dT x.mx y.mx,dT x.lo y.lo,dT x.hi y.hi] _ w (SlOf.lit (enc:=Ie) (size:=1) (fun _=>rfl) _ (c7.1 (hw.get (i:=0) rfl)) rfl rfl) a9)) ?_;rintro _ _ ⟨rfl,rfl⟩;refine ⟨Sx,?_⟩);refine q4O ?_;refine c4 rfl rfl (fun w' hw=>⟨?_,hw.isBelow⟩)
 rfl
theorem Cs.later {w w':World}(hb:Below w.heap.size w w'){g p:Nat}{l:List Value}(h:Cs w g p l):Cs w' g p l:=h.kept (gX hb) (fun h=>h)
def Dx.ok (d:Dx):Bool:=inB d.st 0 511&&(fU (fun c=>inB c 2 51) d.chs&&fG dT d.chs)
def Pb.rulesOk (P:Pb):Bool:=decide ((P.ps.length:Int)≤4096)&&(fU Pr.ok P.ps&&(fG Pr.cmp P.ps&&(decide ((P.ls.length:Int)≤1024)&&(fU Ld.ok P.ls&&(fG Ld.cmp P.ls&&(decide ((P.cs.length:Int)≤1024)&&(fU Cp.ok P.cs&&fG Cp.cmp P.cs)))))))
abbrev Ws:=List (BitVec 64)
abbrev Ws.cells (ws:Ws):List Value:=ws.map fun b=>U b
def fx:Ws:=List.replicate 8 0#64
def d3 (ws:Ws)(i:Nat):Ws:=ws.set (i / 64) (cJ ws (i / 64) ||| 1#64 <<< (i % 64))
def eP (ws:Ws)(i:Nat):Bool:=(cJ ws (i / 64)).getLsbD (i % 64)
def jU (ws:Ws)(i:Int):Bool:=inB i 0 511&&eP ws i.toNat
def mr (l:List Int):Ws:=l.foldl (fun s i=>d3 s i.toNat) fx
theorem lz {ws:Ws}{i:Nat}:(d3 ws i).length=ws.length:=by simp [d3]
theorem lw (l:List Int):(mr l).length=8:=by
 have:∀(l:List Int) (s:Ws),(l.foldl (fun s i=>d3 s i.toNat) s).length=s.length:=by
  intro l
  induction l with
  |nil=>intro s;rfl
  |cons x r ih=>intro s;simp only [List.foldl_cons,ih,lz]
 exact this l fx
theorem zkP {l:List Int}{k:Nat}(h:k<l.length):mr (l.take (k+1))=d3 (mr (l.take k)) (cJ l k).toNat:=by
 unfold mr;rw [List.take_succ_eq_append_getElem h,dV h,List.foldl_append];rfl
theorem Ws.get {ws:Ws}{i p:Nat}(h:i<ws.length)(hp:p=i):ws.cells[p]?=some (U (cJ ws i)):=by
 subst hp;simp [cJ,h]
theorem Ws.put {ws:Ws}{i p:Nat}{b:BitVec 64}(hp:p=i):ws.cells.set p (U b)=Ws.cells (ws.set i b):=by
 subst hp;simp [List.map_set]
theorem ziT (a:BitVec 64)(j:Nat):decide (((((a >>> j) &&& 1#64).toNat:Nat):Int)=1)=a.getLsbD j:=by
 rw [BitVec.toNat_and,BitVec.toNat_ushiftRight]
 show decide ((((a.toNat >>> j &&& 1):Nat):Int)=1)=a.toNat.testBit j
 rw [Nat.and_one_is_mod,Nat.testBit,Nat.and_comm,Nat.and_one_is_mod];rcases Nat.mod_two_eq_zero_or_one (a.toNat >>> j) with h|h <;> rw [h] <;> rfl
theorem zgz {ws:Ws}{i j:Nat}(hl:ws.length=8)(hi:i<512)(hj:j<512):eP (d3 ws i) j=(eP ws j||decide (i=j)):=by
 unfold eP d3 cJ;simp only [List.getD_eq_getElem?_getD];by_cases h:i / 64=j / 64
 ·rw [h,List.getElem?_set_self a5];simp only [Option.getD_some,BitVec.getLsbD_or,BitVec.getLsbD_shiftLeft];by_cases h2:i=j
  ·subst h2;have hm:i % 64<64:=Nat.mod_lt _ a6;simp [hm]
  ·(have hm:¬i % 64=j % 64:=by omega);rw [decide_eq_false h2,Bool.or_false]
   have:(decide (j % 64<64)&& !decide (j % 64<i % 64)&&(1#64).getLsbD (j % 64 - i % 64))=false:=by
    by_cases h3:j % 64<i % 64
    ·simp [h3]
    ·rw [show (1#64).getLsbD (j % 64 - i % 64)=false from by rw [BitVec.getLsbD_one];simp;omega];simp
   rw [this,Bool.or_false]
 ·rw [List.getElem?_set_ne h,decide_eq_false (by intro hh;subst hh;exact h rfl),Bool.or_false]
theorem zeg (j:Nat):eP fx j=false:=by
 unfold eP fx cJ;rw [List.getD_eq_getElem?_getD,List.getElem?_replicate]
 split
 ·simp
 ·exact BitVec.getLsbD_zero
theorem zjs (l:List Int)(hl:∀x∈l,0≤x∧x≤511)(j:Int):jU (mr l) j=true↔j∈l:=by
 have key:∀(l:List Int) (s:Ws),s.length=8→(∀x∈l,0≤x∧x≤511)→∀j:Nat,j<512→(eP (l.foldl (fun s i=>d3 s i.toNat) s) j=true↔eP s j=true∨(j:Int)∈l):=by
  intro l
  induction l with
  |nil=>intro s _ _ j _;simp
  |cons x r ih=>
   intro s hs hx j hj;have h1:=hx x a9;rw [List.foldl_cons,ih _ (by rw [lz,hs]) (fun y hy=>hx y (by simp [hy])) j hj,zgz hs a5 hj];simp only [Bool.or_eq_true,decide_eq_true_eq,List.mem_cons];constructor
   ·rintro ((h|h)|h)
    ·exact .inl h
    ·exact .inr (.inl a5)
    ·exact .inr (.inr h)
   ·rintro (h|h|h)
    ·exact .inl (.inl h)
    ·exact .inl (.inr a5)
    ·exact .inr h
 unfold jU inB;by_cases h:0≤j∧j≤511
 ·rw [decide_eq_true h.1,decide_eq_true h.2,Bool.and_true,Bool.true_and,show eP (mr l) j.toNat=true↔_ from key l fx (by rfl) hl j.toNat a5,zeg,Int.toNat_of_nonneg h.1];simp
 ·constructor
  ·intro hh;simp only [Bool.and_eq_true,decide_eq_true_eq] at hh;exact absurd hh.1 h
  ·intro hm;exact absurd (hl j hm) h
def Pb.has (P:Pb)(i:Int):Bool:=jU (mr (P.ds.map (·.st))) i
def Pb.ok (P:Pb):Bool:=fU Dx.ok P.ds&&(P.rulesOk&&(fG (fun a b=>dT a.st b.st) P.ds&&(fU (fun x:Pr=>P.has x.a&&P.has x.b) P.ps&&(fU (fun x:Ld=>P.has x.to&&P.has x.fr) P.ls&&fU (fun x:Cp=>P.has x.st) P.cs))))
theorem zfg {α:Type}[Inhabited α]{q:α→Bool}{xs:List α}:fU q xs=true↔∀k,k<xs.length→q (cJ xs k)=true:=by
 unfold fU;rw [List.all_eq_true];simp only [List.mem_range]
theorem em {α:Type}[Inhabited α]{q:α→Bool}{xs:List α}:fU q xs=true↔∀x∈xs,q x=true:=by
 rw [zfg];constructor
 ·intro h x hx;obtain ⟨k,hk,rfl⟩:=List.mem_iff_getElem.1 hx;rw [←dV hk];exact h k hk
 ·intro h k hk;exact h _ (iY hk)
theorem kL {α:Type}[Inhabited α]{c:α→α→Int}{xs:List α}:fG c xs=true↔∀k,k+1<xs.length→c (cJ xs k) (cJ xs (k+1))<0:=by
 unfold fG;rw [List.all_eq_true];simp only [List.mem_range];constructor
 ·intro h k hk;have:=h (k+1) hk;simp at this;omega
 ·intro h k hk
  cases k with
  |zero=>rfl
  |succ k=>have:=h k hk;simp;omega
theorem kN {a b:Int}:dT a b<0↔a<b:=by unfold dT;split <;> (try split) <;> omega
theorem zmt {α:Type}[Inhabited α]{f:α→Int}{xs:List α}(hi:fG (fun a b=>dT (f a) (f b)) xs=true)(h0:∀x∈xs,0≤f x):∀k,k<xs.length→(k:Int)≤f (cJ xs k)
 |0,h=>h0 _ (iY h)
 |k+1,h=>by
  have h1:=zmt hi h0 k a5;have h2:=kN.1 (kL.1 hi k h);omega
theorem zmL {xs:List Dx}(hi:fG (fun a b:Dx=>dT a.st b.st) xs=true)(hr:fU Dx.ok xs=true):xs.length≤512:=by
 have hst:∀x∈xs,0≤x.st∧x.st≤511:=fun x hx=>by
  have:=em.1 hr x hx;simp only [Dx.ok,inB,Bool.and_eq_true,decide_eq_true_eq] at this;exact this.1
 rcases Nat.lt_or_ge 512 xs.length with h|h
 ·have h1:=zmt (f:=Dx.st) hi (fun x hx=>(hst x hx).1) 512 h;have h2:=hst _ (iY h);omega
 ·exact h
theorem zkN (c:Int)(w:World):Calls Tryz.prog 130 #[.int .i64 c] w fun e w'=>e= .returned (.bool (inB c 2 51))∧Below w.heap.size w w':=by
 refine dt (M:=fun _=>False) (hs:=[]) Tryz.func130 rfl rfl rfl (Hp.refl _ _) ?_;refine q4G ?_; (refine cN (Wt.none) rfl rfl (cM rfl rfl rfl (fun w hw=>zdE _ _ _ _)) ?_;rintro _ _ ⟨rfl,rfl⟩);refine fw ?_;refine c4 rfl rfl (fun w' hw=>⟨?_,hw.isBelow⟩)
 rfl
theorem zhr (d:Dx)(w:World)(h:zgL w d.v d.chs)(hl:d.chs.length≤9223372036854775807):Calls Tryz.prog 104 #[.agg (Dx.cells d).toArray] w fun e w'=>e= .returned (.bool d.ok)∧Below w.heap.size w w':=by
 haveI:=h.one;refine dt (M:=fun _=>False) (hs:=[]) Tryz.func104 rfl rfl rfl (Hp.refl _ _) ?_;simp only [Dx.cells];refine dh ?_; (refine cN (Wt.none) rfl rfl (dJ) ?_;rintro _ _ ⟨g1,rfl,rfl⟩);refine gF ?_;refine gF ?_;refine ef ?_; (refine cN (Wt.none) rfl rfl (cM rfl rfl rfl (fun w hw=>zcu _ _)) ?_;rintro _ _ ⟨rfl,rfl⟩);refine di ?_;refine du rfl rfl rfl (fun h1=>?_) (fun h1=>?_)
 ·have p1:=h1; (try simp only [cX] at p1);refine q0N ?_;refine jY ?_; (refine cN (Wt.some rfl rfl rfl h1) rfl rfl (cM rfl rfl rfl (fun w hw=>zns (q:=fun c=>inB c 2 51) d.chs _ _ #[] w (h.kept hw) (fun k hk w1 hb=>zkN _ w1) hl)) ?_;rintro _ _ ⟨rfl,rfl⟩);refine lq ?_;refine di ?_;refine du rfl rfl rfl (fun h2=>?_) (fun h2=>?_)
  ·have p2:=h2; (try simp only [cX] at p2);refine ny ?_; (refine cN (Wt.some rfl rfl rfl h2) rfl rfl (cM rfl rfl rfl (fun w hw=>zif (c:=dT) d.chs _ _ w (h.kept hw) (fun x y w1=>ll x y w1) hl)) ?_;rintro _ _ ⟨rfl,rfl⟩);refine q26 ?_;refine fw ?_;refine c4 rfl rfl (fun w' hw=>⟨?_,hw.isBelow⟩);exact q5t
  ·have p2:=h2; (try simp only [cX] at p2);refine q0l ?_;refine q4N ?_;refine fw ?_;refine c4 rfl rfl (fun w' hw=>⟨?_,hw.isBelow⟩);exact q5t
 ·have p1:=h1; (try simp only [cX] at p1);refine kw ?_;refine kw ?_;refine q3p ?_;refine TL.run 6 rfl ?_;refine fW ?_;refine c4 rfl rfl (fun w' hw=>⟨?_,hw.isBelow⟩);exact q5t
theorem zim (x y:Dx)(hx:OneC x.v)(hy:OneC y.v)(w:World):Calls Tryz.prog 106 #[.agg (Dx.cells x).toArray, .agg (Dx.cells y).toArray] w fun e w'=>e= .returned (.int .i64 (dT x.st y.st))∧Below w.heap.size w w':=by
 refine dt (M:=fun _=>False) (hs:=[]) Tryz.func106 rfl rfl rfl (Hp.refl _ _) ?_;simp only [Dx.cells];refine dh ?_; (refine cN (Wt.none) rfl rfl (dJ) ?_;rintro _ _ ⟨g2,rfl,rfl⟩); (refine cN (Wt.none) rfl rfl (dJ) ?_;rintro _ _ ⟨g3,rfl,rfl⟩);refine gF ?_;refine la ?_;refine ef ?_; (refine cN (Wt.none) rfl rfl (cM rfl rfl rfl (fun w hw=>ll _ _ _)) ?_;rintro _ _ ⟨rfl,rfl⟩);refine fw ?_;refine c4 rfl rfl (fun w' hw=>⟨?_,hw.isBelow⟩)
 rfl
theorem zhs (P:Pb)(vp vl vc:Value)(w:World)(h:RulesAt w vp vl vc P):Calls Tryz.prog 105 #[.agg [vp,vl,vc].toArray] w fun e w'=>e= .returned (.bool P.rulesOk)∧Below w.heap.size w w':=by
 obtain ⟨A1,cap1,rfl, -⟩:=h.ps.op;obtain ⟨A2,cap2,rfl, -⟩:=h.ls.op;obtain ⟨A3,cap3,rfl, -⟩:=h.cs.op;refine dt (M:=fun _=>False) (hs:=[]) Tryz.func105 rfl rfl rfl (Hp.refl _ _) ?_;refine dh ?_; (refine cN (Wt.none) rfl rfl (dJ) ?_;rintro _ _ ⟨g1,rfl,rfl⟩);refine gF ?_;refine ef ?_;refine mn ?_;refine d8 ?_;refine du rfl rfl rfl (fun h1=>?_) (fun h1=>?_)
 ·have p1:=h1; (try simp only [cX] at p1);refine q0N ?_; (refine cN (Wt.some rfl rfl rfl h1) rfl rfl (cM rfl rfl rfl (fun w hw=>zlw (q:=Pr.ok) P.ps _ 131 #[] w (h.ps.kept hw) (fun k hk w1 hb=>zjp _ w1) h.hps)) ?_;rintro _ _ ⟨rfl,rfl⟩);refine lq ?_;refine di ?_;refine du rfl rfl rfl (fun h2=>?_) (fun h2=>?_)
  ·have p2:=h2; (try simp only [cX] at p2);refine ny ?_; (refine cN (Wt.some rfl rfl rfl h2) rfl rfl (cM rfl rfl rfl (fun w hw=>zi4 (c:=Pr.cmp) P.ps _ 133 w (h.ps.kept hw) (fun x y w1=>zgg x y w1) h.hps)) ?_;rintro _ _ ⟨rfl,rfl⟩);refine q26 ?_;refine di ?_;refine du rfl rfl rfl (fun h3=>?_) (fun h3=>?_)
   ·have p3:=h3; (try simp only [cX] at p3);refine q0Z ?_;refine da (Wt.some rfl rfl rfl h3) rfl rfl (iD rfl rfl) ?_;refine q15 ?_;refine q4h ?_;refine di ?_;refine du rfl rfl rfl (fun h4=>?_) (fun h4=>?_)
    ·have p4:=h4; (try simp only [cX] at p4);refine q00 ?_; (refine cN (Wt.some rfl rfl rfl h4) rfl rfl (cM rfl rfl rfl (fun w hw=>zmw (q:=Ld.ok) P.ls _ 134 #[] w (h.ls.kept hw) (fun k hk w1 hb=>zjg _ w1) h.hls)) ?_;rintro _ _ ⟨rfl,rfl⟩);refine cL (eV rfl rfl h4) ?_;refine di ?_;refine du rfl rfl rfl (fun h5=>?_) (fun h5=>?_)
     ·have p5:=h5; (try simp only [cX] at p5);refine da (Wt.some rfl rfl rfl h5) rfl rfl (Yv.fieldAddr) ?_;refine da (Wt.some rfl rfl rfl h5) rfl rfl (dc 0) ?_; (refine cN (Wt.some rfl rfl rfl h5) rfl rfl (cM rfl rfl rfl (fun w hw=>zi1 (c:=Ld.cmp) P.ls _ 136 w (h.ls.kept hw) (fun x y w1=>zgp x y w1) h.hls)) ?_;rintro _ _ ⟨rfl,rfl⟩);refine cL (eV rfl rfl h5) ?_;refine di ?_;refine du rfl rfl rfl (fun h6=>?_) (fun h6=>?_)
      ·have p6:=h6; (try simp only [cX] at p6);refine da (Wt.some rfl rfl rfl h6) rfl rfl (Yv.fieldAddr) ?_;refine da (Wt.some rfl rfl rfl h6) rfl rfl (dc 0) ?_;refine da (Wt.some rfl rfl rfl h6) rfl rfl (iD rfl rfl) ?_;refine da (Wt.some rfl rfl rfl h6) rfl rfl (d6) ?_;refine cL (eV rfl rfl h6) ?_;refine di ?_;refine du rfl rfl rfl (fun h7=>?_) (fun h7=>?_)
       ·have p7:=h7; (try simp only [cX] at p7);refine q4z ?_; (refine cN (Wt.some rfl rfl rfl h7) rfl rfl (cM rfl rfl rfl (fun w hw=>zll (q:=Cp.ok) P.cs _ 137 #[] w (h.cs.kept hw) (fun k hk w1 hb=>zjQ _ w1) h.hcs)) ?_;rintro _ _ ⟨rfl,rfl⟩);refine cL (eV rfl rfl h7) ?_;refine di ?_;refine du rfl rfl rfl (fun h8=>?_) (fun h8=>?_)
        ·have p8:=h8; (try simp only [cX] at p8);refine q4A ?_; (refine cN (Wt.some rfl rfl rfl h8) rfl rfl (cM rfl rfl rfl (fun w hw=>ziV (c:=Cp.cmp) P.cs _ 139 w (h.cs.kept hw) (fun x y w1=>zg2 x y w1) h.hcs)) ?_;rintro _ _ ⟨rfl,rfl⟩);refine cL (eV rfl rfl h8) ?_;refine fw ?_;refine c4 rfl rfl (fun w' hw=>⟨?_,hw.isBelow⟩);exact q4X
        ·have p8:=h8; (try simp only [cX] at p8);refine q1u ?_;refine cL (ek rfl rfl h8) ?_;refine fw ?_;refine c4 rfl rfl (fun w' hw=>⟨?_,hw.isBelow⟩);exact q4X
       ·have p7:=h7; (try simp only [cX] at p7);refine q1V ?_;refine TL.off (Wt.not rfl rfl rfl h7) rfl rfl ?_;refine cL (ek rfl rfl h7) ?_;refine TL.run 6 rfl ?_;refine fW ?_;refine c4 rfl rfl (fun w' hw=>⟨?_,hw.isBelow⟩);exact q4X
      ·have p6:=h6; (try simp only [cX] at p6);refine q1f ?_;refine q1f ?_;refine cL (ek rfl rfl h6) ?_;refine TL.run 11 rfl ?_;refine fW ?_;refine c4 rfl rfl (fun w' hw=>⟨?_,hw.isBelow⟩);exact q4X
     ·have p5:=h5; (try simp only [cX] at p5);refine q1W ?_;refine TL.off (Wt.not rfl rfl rfl h5) rfl rfl ?_;refine cL (ek rfl rfl h5) ?_;refine TL.run 17 rfl ?_;refine fW ?_;refine c4 rfl rfl (fun w' hw=>⟨?_,hw.isBelow⟩);exact q4X
    ·have p4:=h4; (try simp only [cX] at p4);refine q0v ?_;refine cL (ek rfl rfl h4) ?_;refine TL.run 22 rfl ?_;refine fW ?_;refine c4 rfl rfl (fun w' hw=>⟨?_,hw.isBelow⟩);exact q4X
   ·have p3:=h3; (try simp only [cX] at p3);refine q3O ?_;refine TL.run 27 rfl ?_;refine fW ?_;refine c4 rfl rfl (fun w' hw=>⟨?_,hw.isBelow⟩);exact q4X
  ·have p2:=h2; (try simp only [cX] at p2);refine q0l ?_;refine q4N ?_;refine TL.run 33 rfl ?_;refine fW ?_;refine c4 rfl rfl (fun w' hw=>⟨?_,hw.isBelow⟩);exact q4X
 ·have p1:=h1; (try simp only [cX] at p1);refine q1v ?_;refine TL.run 38 rfl ?_;refine fW ?_;refine c4 rfl rfl (fun w' hw=>⟨?_,hw.isBelow⟩);exact q4X
theorem ze8 (i:Int)(w:World):Calls Tryz.prog 78 #[.int .i64 i] w fun e w'=>e= .returned (.bool (inB i 0 511))∧Below w.heap.size w w':=by
 refine dt (M:=fun _=>False) (hs:=[]) Tryz.func78 rfl rfl rfl (Hp.refl _ _) ?_;refine dh ?_;refine TL.run 1 rfl ?_;refine dX ?_;refine TL.run 3 rfl ?_;refine du rfl rfl rfl (fun h1=>?_) (fun h1=>?_)
 ·have p1:=h1; (try simp only [cX] at p1);refine da (Wt.some rfl rfl rfl h1) rfl rfl (d6 rfl) ?_;refine da (Wt.some rfl rfl rfl h1) rfl rfl (d6 rfl) ?_;refine cL (eV rfl rfl h1 rfl) ?_;refine TL.run 1 rfl ?_;refine db (T.ret ?_);refine c4 rfl rfl (fun w' hw=>⟨?_,hw.isBelow⟩);refine km ?_;simp only [inB, *,Bool.not_true,Bool.not_false,Bool.or_false,Bool.false_or,Bool.or_true,Bool.true_or,Bool.and_false,Bool.false_and,Bool.true_and,Bool.and_true,Bool.or_self,Bool.and_self,Bool.not_not,decide_true,decide_false,not_true_eq_false,not_false_eq_true,cond_true,cond_false]; (try exact decide_eq_decide.2 (by omega))
 ·have p1:=h1; (try simp only [cX] at p1);refine TL.off (Wt.not rfl rfl rfl h1) rfl rfl ?_;refine TL.off (Wt.not rfl rfl rfl h1) rfl rfl ?_;refine cL (ek rfl rfl h1 rfl) ?_;refine TL.run 1 rfl ?_;refine db (T.ret ?_);refine c4 rfl rfl (fun w' hw=>⟨?_,hw.isBelow⟩);refine km ?_;simp only [inB, *,Bool.not_true,Bool.not_false,Bool.or_false,Bool.false_or,Bool.or_true,Bool.true_or,Bool.and_false,Bool.false_and,Bool.true_and,Bool.and_true,Bool.or_self,Bool.and_self,Bool.not_not,decide_true,decide_false,not_true_eq_false,not_false_eq_true,cond_true,cond_false]; (try exact decide_eq_decide.2 (by omega))
theorem zgT (ws:Ws)(hws:ws.length=8)(i:Int)(w:World):Calls Tryz.prog 43 #[.agg ws.cells.toArray, .int .i64 i] w fun e w'=>e= .returned (.bool (jU ws i))∧Below w.heap.size w w':=by
 refine dt (M:=fun _=>False) (hs:=[]) Tryz.func43 rfl rfl rfl (Hp.refl _ _) ?_;refine dh ?_; (refine cN (Wt.none) rfl rfl (dJ) ?_;rintro _ _ ⟨g2,rfl,rfl⟩);refine lO ?_; (refine cN (Wt.none) rfl rfl (cM rfl rfl rfl (fun w hw=>ze8 _ _)) ?_;rintro _ _ ⟨rfl,rfl⟩);refine di ?_;refine du rfl rfl rfl (fun h1=>?_) (fun h1=>?_)
 ·have p1:=h1; (try simp only [cX] at p1); (try simp only [inB,Bool.and_eq_true,decide_eq_true_eq] at p1); (try have hld:=Ws.get (ws:=ws) (i:=i.toNat / 64) (p:=0+0+i.toNat / 64*1) a5 a5);refine jY ?_;refine da (Wt.some rfl rfl rfl h1) rfl rfl (j5 rfl rfl rfl a5) ?_;refine da (Wt.some rfl rfl rfl h1) rfl rfl (Yv.fieldAddr) ?_;refine da (Wt.some rfl rfl rfl h1) rfl rfl (ec rfl rfl rfl (show i / 64=((i.toNat / 64:Nat):Int) from by omega) a5) ?_;refine da (Wt.some rfl rfl rfl h1) rfl rfl (dc 0 rfl rfl rfl hld) ?_;refine jY ?_;refine da (Wt.some rfl rfl rfl h1) rfl rfl (jC rfl rfl rfl a5) ?_;refine da (Wt.some rfl rfl rfl h1) rfl rfl (fZ (i.toNat % 64) rfl rfl rfl a5 a5) ?_;refine da (Wt.some rfl rfl rfl h1) rfl rfl (gj (b:=1#64)) ?_;refine jY ?_;refine lq ?_;refine fw ?_;refine c4 rfl rfl (fun w' hw=>⟨?_,hw.isBelow⟩);exact q5D
 ·have p1:=h1; (try simp only [cX] at p1); (try simp only [inB,Bool.and_eq_true,decide_eq_true_eq] at p1); (try have hld:=Ws.get (ws:=ws) (i:=i.toNat / 64) (p:=0+0+i.toNat / 64*1) a5 a5);refine kw ?_;refine kw ?_;refine kw ?_;refine kw ?_;refine kw ?_;refine q3p ?_;refine fw ?_;refine c4 rfl rfl (fun w' hw=>⟨?_,hw.isBelow⟩);exact q5D
theorem zpj (l:List Int)(v:Value)(w:World)(h:zgL w v l)(hl:l.length≤9223372036854775807)(hr:∀x∈l,0≤x∧x≤511):Calls Tryz.prog 41 #[v] w fun e w'=>e= .returned (.tuple #[.agg (Ws.cells (mr l)).toArray, .int .i64 0])∧Below w.heap.size w w':=by
 obtain ⟨A,cap,rfl,hsl⟩:=h.op;refine dt (M:=fun _=>False) (hs:=[]) Tryz.func41 rfl rfl rfl (Hp.refl _ _) ?_;refine dh ?_; (refine cN (Wt.none) rfl rfl (Ew.alloc) ?_;rintro _ _ ⟨g2,rfl,rfl⟩);refine gF ?_; (refine cN (Wt.none) rfl rfl (Ew.alloc) ?_;rintro _ _ ⟨g4,rfl,rfl⟩);refine jq ?_;refine di ?_;refine j4 ?_;refine T.loop (ι:=Nat) (fun k=>[(2, .pointer (some ⟨g2,0,none⟩)),(4, .pointer (some ⟨g4,0,none⟩)),(7, .slice A l.length cap),(8, .int .i64 (l.length:Int)),(9, .int .i64 (k:Int))]) (fun k=>[.row g4 83 (Ws.cells (mr (l.take k))), .row g2 83 (Ws.cells fx)]) (fun k=>k≤l.length) (fun k=>l.length - k) 0 ?_ ?_ ?_ ?_
 ·omega
 ·exact (by repeat (first|exact Sub.nil|refine Sub.cons rfl ?_))
 ·exact Sx
 ·intro k hphi;have hlen:=lw (l.take k); (have hsl8:(Ws.cells (mr (l.take k))).length=8:=by rw [List.length_map,hlen]);refine fb ?_;refine T.cond rfl (fun h1=>?_) (fun h1=>?_)
  ·have p1:=h1; (try simp only [cX] at p1);obtain ⟨g,off,rfl,hc⟩:=hsl a5;have hk:=hc k a5;simp only [Ie] at hk;have hr1:=hr _ (iY (xs:=l) (k:=k) a5);have hld:=Ws.get (ws:=mr (l.take k)) (i:=(cJ l k).toNat / 64) (p:=0+0+(cJ l k).toNat / 64*1) a5 a5;refine fh ?_;refine q2q ?_;refine nH ?_; (refine cN (Wt.none) rfl rfl (cM rfl rfl rfl (fun w hw=>ze8 _ _)) ?_;rintro _ _ ⟨rfl,rfl⟩);refine dA ?_;refine iK rfl (by rw [inB,decide_eq_true hr1.1,decide_eq_true hr1.2];rfl) ?_;refine mR ?_;refine dD (sN 0 4 (sN 5 3 (.still 9 (.eff 4 (.still 8 (.still 10 (.eff 11 .done))))))) [.row g2 83 (Ws.cells fx)] a7 Sx ?_;refine fK ?_;refine cQ rfl (j5 rfl rfl rfl a5) ?_;refine fH ?_;refine cQ rfl (ec rfl rfl rfl (show (cJ l k) / 64=(((cJ l k).toNat / 64:Nat):Int) from by omega) a5) ?_;refine fK ?_;refine cQ rfl (jC rfl rfl rfl a5) ?_;refine cQ rfl (gU (a:=1#64) ((cJ l k).toNat % 64) rfl rfl rfl a5 a5) ?_;refine lC ?_;refine eT rfl (Wt.none) rfl rfl (dc 0 rfl rfl rfl hld) Sx ?_;refine cQ rfl (i8) ?_;refine cQ rfl (ec rfl rfl rfl (show (cJ l k) / 64=(((cJ l k).toNat / 64:Nat):Int) from by omega) a5) ?_;refine dy ?_; (refine dL rfl (Wt.none) rfl (iA 0 (Ws.cells (d3 (mr (l.take k)) (cJ l k).toNat)) rfl rfl rfl rfl (by rw [List.length_map,hlen];omega) (Ws.put a5)) ?_;rintro _ _ ⟨rfl,rfl⟩;refine ⟨Sx,?_⟩);refine q1J ?_;exact K.next (k+1) a5 a5 (by repeat (first|exact Sub.nil|refine Sub.cons rfl ?_)) (by rw [zkP a5];exact Sx)
  ·have p1:=h1; (try simp only [cX] at p1);refine q1a ?_;refine cL (dO 0 rfl rfl rfl hsl8) ?_; (refine dP (Wt.none) rfl (dI 1 rfl rfl rfl rfl (by rw [List.length_map,lw]) (by rw [List.length_map,lw];rfl)) ?_;rintro _ _ ⟨rfl,rfl⟩);refine fw ?_;exact gZ 1 rfl rfl rfl rfl (by rw [List.length_map,lw]) (fun w' hw=>⟨by rw [List.take_of_length_le a5],hw.isBelow⟩)
end Go.Proofs.YtogbggmckmnlfaaGreatDoor
