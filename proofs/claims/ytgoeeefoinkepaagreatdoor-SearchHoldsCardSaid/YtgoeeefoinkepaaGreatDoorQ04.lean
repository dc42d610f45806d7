/- Cc A B: shortened and put together by squeeze.py. -/
import Derived.Test.YtgoeeefoinkepaaGreatDoorQ03
set_option maxRecDepth 100000
set_option maxHeartbeats 4000000
set_option linter.unusedVariables false
set_option linter.unusedSectionVars false
set_option linter.unusedSimpArgs false
namespace Go.Proofs.YtgoeeefoinkepaaGreatDoor
open Go.RowKit
def za8 (fuel:Nat)(p:GProblem)(d:List GDomain):Option (List GDomain×Bool):=
 dQ (fun (d_1:List GDomain)=>
  dQ (fun (_:Unit)=>
   some (d_1,true))
  (fun k20=>
   dk (fun (i_22:Nat) (next21:Unit→Option (List GDomain×Bool)) (_:Unit)=>
    (bif decide ((((cI d_1 i_22).Channels).length:Int)=0) then
     some ([],false)
     else
     next21 ()))
   (fun (_:Unit)=>
    k20 ()) (d_1.length - 0) 0 ()))
 (fun k2=>
  iC (fun (next5:(List GDomain×Bool)→Option (List GDomain×Bool)) (s5:List GDomain×Bool)=>
   (bif s5.2 then
    iC (fun (next11:(List GDomain×Bool×Int)→Option (List GDomain×Bool)) (s11:List GDomain×Bool×Int)=>
     (bif decide (s11.2.2<(s11.1.length:Int)) then
      eG (0≤s11.2.2∧s11.2.2<(s11.1.length:Int)) <|
      kh (fun (k_17:Nat) (next16:(List GDomain×Bool)→Option (List GDomain×Bool)) (s16:List GDomain×Bool)=>
       eG (0≤s11.2.2∧s11.2.2<(s16.1.length:Int)) <|
       eG (0≤(k_17:Int)∧(k_17:Int)<(((cI s16.1 s11.2.2.toNat).Channels).length:Int)) <|
       (bif (zbh p s16.1 ((cI s16.1 s11.2.2.toNat).Station) (cI ((cI s16.1 s11.2.2.toNat).Channels) k_17)) then
        (mU s16.1 ((cI s16.1 s11.2.2.toNat).Station) (cI ((cI s16.1 s11.2.2.toNat).Channels) k_17)).bind fun r51=>
        next16 (r51,true)
        else
        next16 (s16.1,s16.2)))
      (fun (s16:List GDomain×Bool)=>
       next11 (s16.1,s16.2,(s11.2.2+1))) (((cI s11.1 s11.2.2.toNat).Channels).length) (s11.1,s11.2.1)
      else
      next5 (s11.1,s11.2.1))) fuel (s5.1,false,0)
    else
    k2 s5.1)) fuel (d,true))
theorem eo {α:Type}[Inhabited α]{xs:List α}{k:Nat}(h:k<xs.length):cI xs k∈xs:=by rw [d9 h];exact List.getElem_mem _
theorem gp {α:Type}[Inhabited α]{xs:List α}{x:α}(h:x∈xs):∃k,k<xs.length∧cI xs k=x:=by
 obtain ⟨k,hk,rfl⟩:=List.mem_iff_getElem.1 h;exact ⟨k,hk,d9 hk⟩
theorem ie {α β:Type}[Inhabited α][Inhabited β]{f:α→β}{xs:List α}{i:Nat}(h:i<xs.length):cI (xs.map f) i=f (cI xs i):=jH h
theorem zd8 {α:Type}[Inhabited α]{a b:List α}(hl:a.length=b.length)(h:∀i,i<a.length→cI a i=cI b i):a=b:=by
 apply List.ext_getElem hl;intro i h1 h2;have:=h i h1
 rwa [d9 h1,d9 h2] at this
def SubD (a b:List GDomain):Prop:=a.length=b.length∧∀i,i<b.length→(cI a i).Station=(cI b i).Station∧∀c∈(cI a i).Channels,c∈(cI b i).Channels
theorem SubD.refl (a:List GDomain):SubD a a:=⟨rfl,fun _ _=>⟨rfl,fun _ h=>h⟩⟩
theorem SubD.trans {a b c:List GDomain}(h:SubD a b)(k:SubD b c):SubD a c:=⟨h.1.trans k.1,fun i hi=>⟨((h.2 i (by rw [k.1];exact hi)).1).trans (k.2 i hi).1,fun x hx=>(k.2 i hi).2 x ((h.2 i (by rw [k.1];exact hi)).2 x hx)⟩⟩
def WtP (p:GProblem):Prop:=p.Rules.Loads.length≤1024∧∀x∈p.Rules.Loads,0≤x.Weight∧x.Weight≤1073741824
section
variable {p:GProblem}{a b d:List GDomain}
theorem eT {s c:Int}:iQ d s c=true↔∀x∈d,x.Station=s→∀k∈x.Channels,k=c:=by
 unfold iQ;simp only [List.all_eq_true,Bool.or_eq_true,decide_eq_true_eq];constructor
 ·intro h x hx hs k hk;rcases h x hx with h1|h1
  ·exact absurd hs h1
  ·exact h1 k hk
 ·intro h x hx;by_cases hs:x.Station=s
  ·exact .inr (h x hx hs)
  ·exact .inl hs
theorem zcq (h:SubD a b){s c:Int}(ho:iQ b s c=true):iQ a s c=true:=by
 rw [eT] at ho ⊢;intro x hx hs k hk;obtain ⟨i,hi,rfl⟩:=gp hx;have h2:=h.2 i (by rw [←h.1];exact hi);exact ho (cI b i) (eo (by rw [←h.1];exact hi)) (by rw [←h2.1];exact hs) k (h2.2 k hk)
theorem zfM {t c f : Int} (h : SubD a b) : ∀ (l : List GLoad), (∀ x ∈ l, 0 ≤ x.Weight ∧ x.Weight ≤ 1073741824) → ∀ n n' : Int, 0 ≤ n → n ≤ n' → n' + 1073741824 * (l.length : Int) ≤ 4611686018427387904 →
    l.foldl (fun n x => bif loadC b t c f x then wI (n + x.Weight) else n) n ≤ l.foldl (fun n x => bif loadC a t c f x then wI (n + x.Weight) else n) n'
  | [], _, n, n', _, hn, _ => hn
  | x :: r, hw, n, n', h0, hn, hb => by
    have h1 := hw x b2; simp only [List.length_cons] at hb; rw [List.foldl_cons, List.foldl_cons]; have e1 : wI (n + x.Weight) = n + x.Weight := nh a6; have e2 : wI (n' + x.Weight) = n' + x.Weight := nh a6; rw [e1, e2]
    have hc : loadC b t c f x = true → loadC a t c f x = true := by
      unfold loadC;simp only [Bool.and_eq_true, Bool.or_eq_true]; rintro ⟨h3, h4⟩; exact ⟨h3, h4.imp id (zcq h)⟩
    refine zfM h r (fun y hy => hw y (by simp [hy])) _ _ ?_ ?_ ?_
    · cases loadC b t c f x <;> simp <;> omega
    · cases hb' : loadC b t c f x
      · cases loadC a t c f x <;> simp <;> omega
      · rw [hc hb']; simp; omega
    · cases loadC a t c f x <;> simp <;> omega
theorem zh3 (hp:WtP p)(h:SubD a b){t c f:Int}:ii p b t c f≤ii p a t c f:=by
 unfold ii;have:=hp.1;exact zfM h _ hp.2 0 0 a6 a6 a6
theorem zgY {s c l l':Int}(hl:l≤l')(h:kP p s c l=true):kP p s c l'=true:=by
 unfold kP at h ⊢;rw [List.any_eq_true] at h ⊢;obtain ⟨x,hx,h⟩:=h;refine ⟨x,hx,?_⟩;simp only [Bool.and_eq_true,decide_eq_true_eq] at h ⊢;exact ⟨h.1,by omega⟩
theorem zgm (hp:WtP p)(h:SubD a b){s c:Int}(hr:iA p b s c=true):iA p a s c=true:=by
 unfold iA at hr ⊢;simp only [Bool.or_eq_true,List.any_eq_true] at hr ⊢;rcases hr with (⟨x,hx,hr⟩|hr)|⟨x,hx,hr⟩
 ·refine .inl (.inl ⟨x,hx,?_⟩);unfold mL at hr ⊢;simp only [Bool.or_eq_true,Bool.and_eq_true] at hr ⊢;exact hr.imp (fun q=>⟨q.1,zcq h q.2⟩) (fun q=>⟨q.1,zcq h q.2⟩)
 ·exact .inl (.inr (zgY (zh3 hp h) hr))
 ·refine .inr ⟨x,hx,?_⟩;unfold loadR at hr ⊢;simp only [Bool.and_eq_true] at hr ⊢;exact ⟨⟨hr.1.1,zcq h hr.1.2⟩,zgY (zh3 hp h) hr.2⟩
structure ClosedD (p:GProblem) (d:List GDomain):Prop where
 ne:∀x∈d,x.Channels≠[]
 calm:∀x∈d,∀c∈x.Channels,iA p d x.Station c=false
def OrdD (a b:List GDomain):Prop:=∀i,i<b.length→(cI a i).Channels.Sublist (cI b i).Channels
def PropD (p:GProblem)(d:List GDomain)(r:List GDomain×Bool):Prop:=
 (r.2=true∧ClosedD p r.1∧(SubD r.1 d∧OrdD r.1 d)∧∀S,ClosedD p S→SubD S d→SubD S r.1)∨(r=([],false)∧∀S,ClosedD p S→¬SubD S d)
def zlx (R:List GDomain→Int→Int→Bool)(d:List GDomain):Prop:=∀x∈d,∀c∈x.Channels,R d x.Station c=false
def MonoR (R:List GDomain→Int→Int→Bool):Prop:=∀a b s c,SubD a b→R b s c=true→R a s c=true
theorem zkH {R:List GDomain→Int→Int→Bool}(hp:MonoR R){S:List GDomain}(hS:zlx R S)(h:SubD S d){s c:Int}(hr:R d s c=true):SubD S (d.map (je s c)):=by
 refine ⟨by rw [h.1,List.length_map],fun i hi=>?_⟩;rw [List.length_map] at hi;rw [ie hi];have h2:=h.2 i hi;refine ⟨h2.1,fun k hk=>?_⟩;unfold je;rw [List.mem_filter];refine ⟨h2.2 k hk,?_⟩;simp only [Bool.or_eq_true,decide_eq_true_eq];by_cases hs:(cI d i).Station=s
 ·refine .inr fun hkc=>?_;subst hkc;have hm:=eo (show i<S.length by rw [h.1];exact hi);have:=hS _ hm k hk;rw [h2.1,hs,hp _ _ _ _ h hr] at this
  cases this
 ·exact .inl hs
theorem drop_sub {s c:Int}:SubD (d.map (je s c)) d:=by
 refine ⟨List.length_map _,fun i hi=>?_⟩;rw [ie hi];exact ⟨rfl,fun k hk=>(List.mem_filter.1 hk).1⟩
def ey (d:List GDomain):Nat:=(d.map fun x=>x.Channels.length).sum
theorem zlX:∀(d:List GDomain) (f:GDomain→GDomain),(∀x∈d,(f x).Channels.length≤x.Channels.length)→ey (d.map f)≤ey d
 | [],_,_=>Nat.le_refl _
 |x :: r,f,h=>by
  have:=zlX r f (fun y hy=>h y (by simp [hy]));have h1:=h x b2;simp only [ey,List.map_cons,List.sum_cons] at this ⊢;omega
theorem zlC:∀(d:List GDomain) (f:GDomain→GDomain),(∀x∈d,(f x).Channels.length≤x.Channels.length)→(∃x∈d,(f x).Channels.length<x.Channels.length)→ey (d.map f)<ey d
 |x :: r,f,h,he=>by
  have h1:=h x b2;obtain ⟨y,hy,hlt⟩:=he;rcases List.mem_cons.1 hy with rfl|hy
  ·have:=zlX r f (fun z hz=>h z (by simp [hz]));simp only [ey,List.map_cons,List.sum_cons] at this ⊢;omega
  ·have:=zlC r f (fun z hz=>h z (by simp [hz])) ⟨y,hy,hlt⟩;simp only [ey,List.map_cons,List.sum_cons] at this ⊢;omega
theorem zgV {α:Type}{q:α→Bool}:∀ {l:List α} {x:α},x∈l→q x=false→(l.filter q).length<l.length
 |y :: r,x,hx,hq=>by
  rcases List.mem_cons.1 hx with rfl|hx
  ·rw [List.filter_cons,hq];have:=List.length_filter_le q r;simp;omega
  ·have:=zgV hx hq;rw [List.filter_cons];split <;> simp only [List.length_cons] <;> omega
theorem zmt {s c:Int}{i:Nat}(hi:i<d.length)(hs:(cI d i).Station=s)(hc:c∈(cI d i).Channels):ey (d.map (je s c))<ey d:=
 zlC d _ (fun x _=>List.length_filter_le _ _) ⟨cI d i,eo hi,zgV hc (by simp [hs])⟩
structure Bd (d:List GDomain):Prop where
 len:d.length≤100000
 ch:∀x∈d,x.Channels.length≤100000∧x.Channels.Nodup
theorem Bd.drop (h:Bd d){s c:Int}:Bd (d.map (je s c)):=by
 refine ⟨by rw [List.length_map];exact h.len,fun x hx=>?_⟩;obtain ⟨y,hy,rfl⟩:=List.mem_map.1 hx;exact ⟨Nat.le_trans (List.length_filter_le _ _) (h.ch y hy).1,(h.ch y hy).2.filter _⟩
theorem zkM {s c:Int}{i k:Nat}(hb:Bd d)(hi:i<d.length)(hk:k<(cI d i).Channels.length)(hc:cI (cI d i).Channels k=c):k≤(cI (d.map (je s c)) i).Channels.length:=by
 rw [ie hi];unfold je;have hn:=(hb.ch _ (eo hi)).2;have e:(cI d i).Channels=(cI d i).Channels.take k++(cI d i).Channels.drop k:=(List.take_append_drop k _).symm
 have hf:((cI d i).Channels.take k).filter (fun q=>decide (¬(cI d i).Station=s)||decide (¬q=c))=(cI d i).Channels.take k:=by
  rw [List.filter_eq_self];intro q hq;simp only [Bool.or_eq_true,decide_eq_true_eq];refine .inr fun hqc=>?_;obtain ⟨j,hj,rfl⟩:=List.mem_iff_getElem.1 hq;simp only [List.length_take] at hj;rw [List.getElem_take] at hqc;rw [d9 hk] at hc;have:=(List.getElem_inj (h₀:=by omega) (h₁:=hk) hn).1 (hqc.trans hc.symm);omega
 show k≤((cI d i).Channels.filter _).length
 rw [e,List.filter_append,hf,List.length_append,List.length_take];omega
structure InvR (R:List GDomain→Int→Int→Bool) (d0 d:List GDomain):Prop where
 bd:Bd d
 sub:SubD d d0
 ord:OrdD d d0
 sup:∀S,zlx R S→SubD S d0→SubD S d
theorem InvR.step {R:List GDomain→Int→Int→Bool}{d0:List GDomain}(hp:MonoR R)(h:InvR R d0 d){s c:Int}(hr:R d s c=true):InvR R d0 (d.map (je s c)):=
 ⟨h.bd.drop,drop_sub.trans h.sub,fun i hi=>by
  rw [ie (by rw [h.sub.1];exact hi)]
  exact (List.filter_sublist).trans (h.ord i hi),fun S hS hs=>zkH hp hS (h.sup S hS hs) hr⟩
theorem zml {R : List GDomain → Int → Int → Bool} {ρ : Type} {fuel : Nat} {d0 : List GDomain} {k2 : List GDomain → Option ρ} (post : Option ρ → Prop) (hp : MonoR R) (hb : Bd d0) (hf1 : d0.length < fuel) (hf2 : ey d0 + 1 < fuel) (hend : ∀ d, InvR R d0 d → zlx R d → post (k2 d)) :
    post (iC (fun (next5 : (List GDomain × Bool) → Option ρ) (s5 : List GDomain × Bool) =>
      (bif s5.2 then
        iC (fun (next11 : (List GDomain × Bool × Int) → Option ρ) (s11 : List GDomain × Bool × Int) =>
          (bif decide (s11.2.2 < (s11.1.length : Int)) then
            eG (0 ≤ s11.2.2 ∧ s11.2.2 < (s11.1.length : Int)) <|
            kh (fun (k_17 : Nat) (next16 : (List GDomain × Bool) → Option ρ) (s16 : List GDomain × Bool) =>
              eG (0 ≤ s11.2.2 ∧ s11.2.2 < (s16.1.length : Int)) <|
              eG (0 ≤ (k_17 : Int) ∧ (k_17 : Int) < (((cI s16.1 s11.2.2.toNat).Channels).length : Int)) <|
              (bif (R s16.1 ((cI s16.1 s11.2.2.toNat).Station) (cI ((cI s16.1 s11.2.2.toNat).Channels) k_17)) then
                (mU s16.1 ((cI s16.1 s11.2.2.toNat).Station) (cI ((cI s16.1 s11.2.2.toNat).Channels) k_17)).bind fun r51 =>
                next16 (r51, true)
                else
                next16 (s16.1, s16.2)))
            (fun (s16 : List GDomain × Bool) =>
              next11 (s16.1, s16.2, (s11.2.2 + 1))) (((cI s11.1 s11.2.2.toNat).Channels).length) (s11.1, s11.2.1)
            else
            next5 (s11.1, s11.2.1))) fuel (s5.1, false, 0)
        else
        k2 s5.1)) fuel (d0, true)) := by
  refine zeo (σ := List GDomain × Bool) (I := fun s => InvR R d0 s.1 ∧ (s.2 = false → zlx R s.1)) (μ := fun s => ey s.1 + (bif s.2 then 1 else 0)) (post := post) ⟨⟨hb, .refl _, fun _ _ => List.Sublist.refl _, fun S _ h => h⟩, fun h => by cases h⟩ hf2 ?_; rintro ⟨d, again⟩ next ⟨hI, hA⟩ hn; dsimp only at hI hA hn ⊢
  cases again with
  | false =>
    rw [cond_false]; exact hend d hI (hA rfl)
  | true =>
    rw [cond_true]
    -- one sweep over the stations
    refine zeo (σ := List GDomain × Bool × Int) (I := fun s => InvR R d0 s.1 ∧ 0 ≤ s.2.2 ∧ s.2.2 ≤ s.1.length ∧ s.1.length = d.length ∧ (s.2.1 = false → s.1 = d ∧ ∀ j : Nat, (j : Int) < s.2.2 → ∀ c ∈ (cI d j).Channels, R d (cI d j).Station c = false) ∧ (s.2.1 = true → ey s.1 < ey d)) (μ := fun s => (s.1.length - s.2.2).toNat) (post := post) ⟨hI, by simp, by simp, rfl, fun _ => ⟨rfl, fun j hj => absurd hj b2⟩, fun h => by cases h⟩ (by simp only [Int.sub_zero, Int.toNat_natCast]; rw [hI.sub.1]; exact hf1) ?_; rintro ⟨d1, ag, i⟩ next1 ⟨hI1, h0, h1, hl, hF, hT⟩ hn1; dsimp only at hI1 h0 h1 hl hF hT hn1 ⊢; by_cases hi : i < (d1.length : Int)
    · rw [decide_eq_true hi, cond_true, fN ⟨h0, hi⟩]; (have hin : i.toNat < d1.length := by omega); refine zlE (σ := List GDomain × Bool) (I := fun m s => InvR R d0 s.1 ∧ s.1.length = d.length ∧ m ≤ (cI s.1 i.toNat).Channels.length ∧ (s.2 = false → s.1 = d ∧ (∀ j : Nat, (j : Int) < i → ∀ c ∈ (cI d j).Channels, R d (cI d j).Station c = false) ∧ ∀ k, m ≤ k → k < (cI d i.toNat).Channels.length → R d (cI d i.toNat).Station (cI (cI d i.toNat).Channels k) = false) ∧ (s.2 = true → ey s.1 < ey d)) (post := post) ?_ ?_ ?_
      · dsimp only; refine ⟨hI1, hl, Nat.le_refl _, fun h => ?_, hT⟩; obtain ⟨h2, h3⟩ := hF h; subst h2; exact ⟨rfl, h3, fun k h4 h5 => absurd h5 a6⟩
      · rintro ⟨d2, ag2⟩ ⟨g1, g2, _, g4, g5⟩; dsimp only at g1 g2 g4 g5 ⊢; refine hn1 _ ⟨g1, by dsimp only; omega, by dsimp only; omega, g2, fun h => ?_, g5⟩ (by dsimp only; omega); dsimp only at h; obtain ⟨h2, h3, h4⟩ := g4 h; refine ⟨h2, fun j hj c hc => ?_⟩; dsimp only at hj; by_cases hji : (j : Int) < i
        · exact h3 j hji c hc
        · (obtain rfl : j = i.toNat := by omega); obtain ⟨k, hk, rfl⟩ := gp hc; exact h4 k (Nat.zero_le _) hk
      · rintro k ⟨d2, ag2⟩ nx hk ⟨g1, g2, g3, g4, g5⟩ hnx; dsimp only at g1 g2 g3 g4 g5 hnx ⊢; (have hid : i.toNat < d2.length := by omega); rw [fN ⟨h0, by omega⟩, fN ⟨by omega, by omega⟩]
        cases hr : R d2 (cI d2 i.toNat).Station (cI (cI d2 i.toNat).Channels k) with
        | true =>
          rw [cond_true, zmf g1.bd.len (fun x hx => (g1.bd.ch x hx).1), Option.bind_some]; refine hnx _ ⟨g1.step hp hr, by dsimp only; rw [List.length_map]; exact g2, zkM g1.bd hid a6 rfl, (fun h => by cases h), fun _ => ?_⟩;dsimp only; have h6 := zmt hid rfl (eo (show k < (cI d2 i.toNat).Channels.length by omega))
          cases ag2 with
          | true => have := g5 rfl; omega
          | false => obtain ⟨h7, _⟩ := g4 rfl; subst h7; exact h6
        | false =>
          rw [cond_false]; refine hnx _ ⟨g1, g2, by dsimp only; omega, fun h => ?_, g5⟩; dsimp only at h ⊢; obtain ⟨h7, h8, h9⟩ := g4 h; refine ⟨h7, h8, fun q h10 h11 => ?_⟩; rcases Nat.lt_or_ge k q with h12 | h12
          · exact h9 q h12 h11
          · (obtain rfl : q = k := by omega); subst h7; exact hr
    · rw [decide_eq_false hi, cond_false]; (have hil : i = d1.length := by omega); refine hn (d1, ag) ⟨hI1, fun h => ?_⟩ ?_
      · dsimp only at h ⊢; obtain ⟨h2, h3⟩ := hF h; subst h2; intro x hx c hc; obtain ⟨j, hj, rfl⟩ := gp hx; exact h3 j a6 c hc
      · dsimp only
        cases ag with
        | true => have := hT rfl;simp only [cond_true]; omega
        | false => obtain ⟨h2, _⟩ := hF rfl; subst h2;simp only [cond_true, cond_false]; omega
theorem MonoR.rem (hp:WtP p):MonoR (iA p):=fun _ _ _ _ h hr=>zgm hp h hr
theorem zeJ {fuel : Nat} {d0 : List GDomain} (hp : WtP p) (hb : Bd d0) (hf1 : d0.length < fuel) (hf2 : ey d0 + 1 < fuel) : ∃ r, za8 fuel p d0 = some r ∧ PropD p d0 r := by
  unfold za8;simp only [dQ, Nat.sub_zero, zie]; refine zml (R := iA p) (k2 := fun d => dk (fun (i : Nat) (next : Unit → Option (List GDomain × Bool)) (_ : Unit) => bif decide ((((cI d i).Channels).length : Int) = 0) then some ([], false) else next ()) (fun (_ : Unit) => some (d, true)) d.length 0 ()) (fun o => ∃ r, o = some r ∧ PropD p d0 r) (.rem hp) hb hf1 hf2 fun d hI hA => ?_
  -- the end: is a domain empty?
  refine kv (σ := Unit) (I := fun i _ => ∀ j, j < i → (cI d j).Channels ≠ []) (post := fun o => ∃ r, o = some r ∧ PropD p d0 r) (fun j hj => absurd hj (Nat.not_lt_zero j)) ?_ ?_
  · intro _ h; refine ⟨_, rfl, .inl ⟨rfl, ⟨fun x hx => ?_, hA⟩, ⟨hI.sub, hI.ord⟩, fun S hS => hI.sup S hS.calm⟩⟩; obtain ⟨i, hi, rfl⟩ := gp hx; exact h i hi
  · intro i _ nx hi h hnx; by_cases he : (cI d i).Channels = []
    · rw [he]; refine ⟨_, rfl, .inr ⟨rfl, fun S hS hs => ?_⟩⟩; have h2 := hI.sup S hS.calm hs; have h3 := (h2.2 i hi).2; rw [he] at h3; have hm := eo (show i < S.length by rw [h2.1]; exact hi); apply hS.ne _ hm
      cases hc : (cI S i).Channels with
      | nil => rfl
      | cons c r => exact absurd (h3 c (by rw [hc]; simp)) b2
    · have : ¬ ((cI d i).Channels.length : Int) = 0 := fun h0 => he (List.eq_nil_of_length_eq_zero a6); rw [decide_eq_false this, cond_false]; refine hnx () (fun j hj => ?_); rcases Nat.lt_or_ge j i with h1 | h1
      · exact h j h1
      · rw [show j = i by omega]; exact he
end
def inB (n a b:Int):Bool:=decide (a≤n)&&decide (n≤b)
def fh (lo hi:Int):Bool:=decide (2≤lo)&&(decide (lo≤hi)&&decide (hi≤51))
def Ie (z:Int):List Value:=[.int .i64 z]
abbrev zgF (w:World)(v:Value)(l:List Int):Prop:=SlOf w v Ie 1 l
structure Dx where
 st:Int
 v:Value
 chs:List Int
instance:Inhabited Dx:=⟨⟨0, .slice none 0 0,[]⟩⟩
def Dx.cells (d:Dx):List Value:=[.int .i64 d.st,d.v]
structure Pr where
 a:Int
 b:Int
 off:Int
 lo:Int
 hi:Int
deriving DecidableEq,Inhabited
def Pr.cells (x:Pr):List Value:=[.int .i64 x.a, .int .i64 x.b, .int .i64 x.off, .int .i64 x.lo, .int .i64 x.hi]
structure Ld where
 to:Int
 fr:Int
 wt:Int
 lo:Int
 hi:Int
deriving DecidableEq,Inhabited
def Ld.cells (x:Ld):List Value:=[.int .i64 x.to, .int .i64 x.fr, .int .i64 x.wt, .int .i64 x.lo, .int .i64 x.hi]
structure Cp where
 st:Int
 mx:Int
 lo:Int
 hi:Int
deriving DecidableEq,Inhabited
def Cp.cells (x:Cp):List Value:=[.int .i64 x.st, .int .i64 x.mx, .int .i64 x.lo, .int .i64 x.hi]
structure Ch where
 st:Int
 ch:Int
deriving DecidableEq,Inhabited
def Ch.cells (x:Ch):List Value:=[.int .i64 x.st, .int .i64 x.ch]
abbrev PrsAt (w:World)(v:Value)(l:List Pr):Prop:=SlOf w v Pr.cells 5 l
abbrev LdsAt (w:World)(v:Value)(l:List Ld):Prop:=SlOf w v Ld.cells 5 l
abbrev CpsAt (w:World)(v:Value)(l:List Cp):Prop:=SlOf w v Cp.cells 4 l
structure DomsAt (w:World) (v:Value) (l:List Dx):Prop where
 sl:SlOf w v Dx.cells 2 l
 each:∀d∈l,zgF w d.v d.chs
theorem SlOf.one {α:Type}{w:World}{v:Value}{enc:α→List Value}{size:Nat}{xs:List α}(h:SlOf w v enc size xs):OneC v:=by
 obtain ⟨A,cap,rfl,_⟩:=h;exact inferInstance
theorem i4 {α:Type}[Inhabited α]{xs:List α}{k:Nat}(h:k<xs.length):cI xs k∈xs:=by rw [d9 h];exact List.getElem_mem _
theorem DomsAt.at {w:World}{v:Value}{l:List Dx}(h:DomsAt w v l){k:Nat}(hk:k<l.length):zgF w (cI l k).v (cI l k).chs:=h.each _ (i4 hk)
theorem DomsAt.kept {B w:World}{hs:HS}{v:Value}{l:List Dx}(hw:Hp B (fun _=>False) hs w)(h:DomsAt B v l):DomsAt w v l:=⟨h.sl.kept hw,fun d hd=>(h.each d hd).kept hw⟩
structure Pb where
 ds:List Dx
 ps:List Pr
 ls:List Ld
 cs:List Cp
structure RulesAt (w:World) (vp vl vc:Value) (P:Pb):Prop where
 ps:PrsAt w vp P.ps
 ls:LdsAt w vl P.ls
 cs:CpsAt w vc P.cs
 hps:P.ps.length≤9223372036854775807
 hls:P.ls.length≤9223372036854775807
 hcs:P.cs.length≤9223372036854775807
structure ProbAt (w:World) (vd vp vl vc:Value) (P:Pb):Prop where
 ds:DomsAt w vd P.ds
 ru:RulesAt w vp vl vc P
 hds:P.ds.length≤9223372036854775807
 hch:∀d∈P.ds,d.chs.length≤9223372036854775807
theorem RulesAt.kept {B w:World}{hs:HS}{vp vl vc:Value}{P:Pb}(hw:Hp B (fun _=>False) hs w)(h:RulesAt B vp vl vc P):RulesAt w vp vl vc P:=⟨h.ps.kept hw,h.ls.kept hw,h.cs.kept hw,h.hps,h.hls,h.hcs⟩
theorem ProbAt.kept {B w:World}{hs:HS}{vd vp vl vc:Value}{P:Pb}(hw:Hp B (fun _=>False) hs w)(h:ProbAt B vd vp vl vc P):ProbAt w vd vp vl vc P:=⟨h.ds.kept hw,h.ru.kept hw,h.hds,h.hch⟩
def dL (a b:Int):Int:=if a<b then -1 else if b<a then 1 else 0
def fy {α:Type}[Inhabited α](c:α→α→Int)(xs:List α):Bool:=(List.range xs.length).all fun k=>decide (k=0)|| !decide (0≤c (cI xs (k - 1)) (cI xs k))
def fM {α:Type}[Inhabited α](q:α→Bool)(xs:List α):Bool:=(List.range xs.length).all fun k=>q (cI xs k)
def kq:List Int→Int
 | []=>0
 |x :: r=>if x=0 then kq r else x
theorem zkd {l:List Int}{k:Nat}(h:k<l.length):kq (l.drop k)=if cI l k=0 then kq (l.drop (k+1)) else cI l k:=by
 rw [List.drop_eq_getElem_cons h,d9 h];rfl
theorem zdi (n a b:Int)(w:World):Calls Tryz.prog 60 #[.int .i64 n, .int .i64 a, .int .i64 b] w fun e w'=>e= .returned (.bool (inB n a b))∧Below w.heap.size w w':=by
 refine dA (M:=fun _=>False) (hs:=[]) Tryz.func60 rfl rfl rfl (Hp.refl _ _) ?_;refine gM ?_;refine du ?_;refine kV ?_;refine dv rfl rfl rfl (fun h1=>?_) (fun h1=>?_)
 ·have p1:=h1; (try simp only [cT] at p1);refine jV ?_;refine jV ?_;refine jV ?_;refine la ?_;refine fI ?_;refine cV rfl rfl (fun w' hw=>⟨?_,hw.isBelow⟩);exact q5m
 ·have p1:=h1; (try simp only [cT] at p1);refine q1p ?_;refine fI ?_;refine cV rfl rfl (fun w' hw=>⟨?_,hw.isBelow⟩);exact q5m
theorem zch (n:Int)(w:World):Calls Tryz.prog 59 #[.int .i64 n] w fun e w'=>e= .returned (.bool (inB n 0 511))∧Below w.heap.size w w':=by
 refine dA (M:=fun _=>False) (hs:=[]) Tryz.func59 rfl rfl rfl (Hp.refl _ _) ?_;refine kZ ?_; (refine cN (Wt.none) rfl rfl (cM rfl rfl rfl (fun w hw=>zdi _ _ _ _)) ?_;rintro _ _ ⟨rfl,rfl⟩);refine fI ?_;refine cV rfl rfl (fun w' hw=>⟨?_,hw.isBelow⟩)
 rfl
theorem zeP (lo hi:Int)(w:World):Calls Tryz.prog 110 #[.int .i64 lo, .int .i64 hi] w fun e w'=>e= .returned (.bool (fh lo hi))∧Below w.heap.size w w':=by
 refine dA (M:=fun _=>False) (hs:=[]) Tryz.func110 rfl rfl rfl (Hp.refl _ _) ?_;refine gM ?_;refine du ?_;refine ft ?_;refine dv rfl rfl rfl (fun h1=>?_) (fun h1=>?_)
 ·have p1:=h1; (try simp only [cT] at p1);refine jV ?_;refine jV ?_;refine jV ?_;refine la ?_;refine di ?_;refine dv rfl rfl rfl (fun h2=>?_) (fun h2=>?_)
  ·have p2:=h2; (try simp only [cT] at p2);refine mJ ?_;refine mJ ?_;refine q2V ?_;refine fI ?_;refine cV rfl rfl (fun w' hw=>⟨?_,hw.isBelow⟩);exact q48
  ·have p2:=h2; (try simp only [cT] at p2);refine q1X ?_;refine fI ?_;refine cV rfl rfl (fun w' hw=>⟨?_,hw.isBelow⟩);exact q48
 ·have p1:=h1; (try simp only [cT] at p1);refine q1p ?_;refine TL.run 5 rfl ?_;refine gj ?_;refine cV rfl rfl (fun w' hw=>⟨?_,hw.isBelow⟩);exact q48
theorem zh2 (n:Int)(w:World):Calls Tryz.prog 90 #[.int .i64 n] w fun e w'=>e= .returned (.bool false)∧Below w.heap.size w w':=by
 refine dA (M:=fun _=>False) (hs:=[]) Tryz.func90 rfl rfl rfl (Hp.refl _ _) ?_;refine gM ?_;refine du ?_;refine kV ?_;refine gj ?_;refine cV rfl rfl (fun w' hw=>⟨?_,hw.isBelow⟩);exact ki b2
theorem kR (a b:Int)(w:World):Calls Tryz.prog 49 #[.int .i64 a, .int .i64 b] w fun e w'=>e= .returned (.int .i64 (dL a b))∧Below w.heap.size w w':=by
 refine dA (M:=fun _=>False) (hs:=[]) Tryz.func49 rfl rfl rfl (Hp.refl _ _) ?_;refine kZ ?_; (refine cN (Wt.none) rfl rfl (cM rfl rfl rfl (fun w hw=>zh2 _ _)) ?_;rintro _ _ ⟨rfl,rfl⟩);refine gn ?_;refine di ?_; (refine cN (Wt.none) rfl rfl (cM rfl rfl rfl (fun w hw=>zh2 _ _)) ?_;rintro _ _ ⟨rfl,rfl⟩);refine q4l ?_;refine iy rfl rfl ?_;refine jT ?_;refine dM ?_;refine iy rfl rfl ?_;refine jT ?_;refine ft ?_;refine cS ?_;refine T.cond rfl (fun h1=>?_) (fun h1=>?_)
 ·have p1:=h1; (try simp only [cT] at p1);refine jc ?_;refine cV rfl rfl (fun w' hw=>⟨?_,hw.isBelow⟩);exact q49
 ·have p1:=h1; (try simp only [cT] at p1);refine jT ?_;refine ft ?_;refine cS ?_;refine T.cond rfl (fun h2=>?_) (fun h2=>?_)
  ·have p2:=h2; (try simp only [cT] at p2);refine jc ?_;refine cV rfl rfl (fun w' hw=>⟨?_,hw.isBelow⟩);exact q49
  ·have p2:=h2; (try simp only [cT] at p2);refine ja ?_;refine fI ?_;refine cV rfl rfl (fun w' hw=>⟨?_,hw.isBelow⟩);exact q49
theorem zma (l:List Int)(v:Value)(w:World)(h:zgF w v l)(hl:l.length≤9223372036854775807):Calls Tryz.prog 111 #[v] w fun e w'=>e= .returned (.int .i64 (kq l))∧Below w.heap.size w w':=by
 obtain ⟨A,cap,rfl,hsl⟩:=h.op;refine dA (M:=fun _=>False) (hs:=[]) Tryz.func111 rfl rfl rfl (Hp.refl _ _) ?_;refine kZ ?_;refine i7 ?_;refine di ?_;refine jG ?_;refine T.loop (ι:=Nat) (fun k=>[(3, .int .i64 0),(6, .slice A l.length cap),(7, .int .i64 (l.length:Int)),(8, .int .i64 (k:Int))]) (fun k=>[]) (fun k=>k≤l.length∧kq (l.drop k)=kq l) (fun k=>l.length - k) 0 ?_ ?_ ?_ ?_
 ·exact ⟨by omega,rfl⟩
 ·exact (by repeat (first|exact Sub.nil|refine Sub.cons rfl ?_))
 ·exact Sx
 ·intro k hphi;obtain ⟨hkl,hor⟩:=hphi;refine fA ?_;refine T.cond rfl (fun h1=>?_) (fun h1=>?_)
  ·have p1:=h1; (try simp only [cT] at p1);obtain ⟨g,off,rfl,hc⟩:=hsl a6;have hk:=hc k a6;simp only [Ie] at hk;refine fS ?_;refine q1S ?_;refine gn ?_;refine ft ?_;refine cS ?_;refine T.cond rfl (fun h2=>?_) (fun h2=>?_)
   ·have p2:=h2; (try simp only [cT] at p2);refine iv ?_;refine mE ?_;refine cV rfl rfl (fun w' hw=>⟨?_,hw.isBelow⟩);exact zc1 (by rw [zkd a6,if_neg b7] at hor;exact hor)
   ·have p2:=h2; (try simp only [cT] at p2);refine i3 ?_;exact K.next (k+1) ⟨by omega,by rw [zkd a6,if_pos b7] at hor;exact hor⟩ a6 (by repeat (first|exact Sub.nil|refine Sub.cons rfl ?_)) Sx
  ·have p1:=h1; (try simp only [cT] at p1);refine mC ?_;refine jS ?_;refine cV rfl rfl (fun w' hw=>⟨?_,hw.isBelow⟩);exact zc1 (by rw [List.drop_eq_nil_of_le a6] at hor;exact hor)
theorem zmF {q:Dx→Bool}(xs:List Dx)(v:Value)(f:FuncId)(caps:Array Value)(w:World)(h:SlOf w v Dx.cells 2 xs)(ho1:∀k,k<xs.length→OneC (cI xs k).v)[hE:Enters Tryz.prog f](hC:∀k,k<xs.length→∀w',Below w.heap.size w w'→Calls Tryz.prog f (.agg (Dx.cells (cI xs k)).toArray :: caps.toList).toArray w' fun e w''=>e= .returned (.bool (q (cI xs k)))∧Below w'.heap.size w' w'')(hl:xs.length≤9223372036854775807):Calls Tryz.prog 45 #[v, .func (.func f) #[] caps] w fun e w'=>e= .returned (.bool (fM q xs))∧Below w.heap.size w w':=by
 obtain ⟨A,cap,rfl,hsl⟩:=h.op;refine dA (M:=fun _=>False) (hs:=[]) Tryz.func45 rfl rfl rfl (Hp.refl _ _) ?_;refine jD ?_;refine jG ?_;refine T.loop (ι:=Nat) (fun k=>[(1, .func (.func f) #[] caps),(7, .slice A xs.length cap),(8, .int .i64 (xs.length:Int)),(9, .int .i64 (k:Int))]) (fun k=>[]) (fun k=>k≤xs.length∧∀j,j<k→q (cI xs j)=true) (fun k=>xs.length - k) 0 ?_ ?_ ?_ ?_
 ·exact q4Q
 ·exact (by repeat (first|exact Sub.nil|refine Sub.cons rfl ?_))
 ·exact Sx
 ·intro k hphi;obtain ⟨hkl,hall⟩:=hphi;refine fA ?_;refine T.cond rfl (fun h1=>?_) (fun h1=>?_)
  ·have p1:=h1; (try simp only [cT] at p1);obtain ⟨g,off,rfl,hc⟩:=hsl a6;have hk:=hc k a6;haveI:=ho1 k a6;simp only [Dx.cells] at hk;refine fS ?_;refine lS ?_; (refine cN (Wt.none) rfl rfl (Ew.alloc) ?_;rintro _ _ ⟨g6,rfl,rfl⟩); (refine dO (Wt.none) rfl (dH 0) ?_;rintro _ _ ⟨rfl,rfl⟩);refine du ?_;refine di ?_;refine iN ?_; (refine cN (Wt.none) rfl rfl (kK rfl rfl rfl (fun w hw=>hC k a6 w hw.isBelow)) ?_;rintro _ _ ⟨rfl,rfl⟩);refine dM ?_;refine T.cond rfl (fun h2=>?_) (fun h2=>?_)
   ·have p2:=h2; (try simp only [cT] at p2);refine iT ?_;refine cV rfl rfl (fun w' hw=>⟨?_,hw.isBelow⟩);exact q4R
   ·have p2:=h2; (try simp only [cT] at p2);refine i3 ?_;exact K.next (k+1) ⟨by omega,zel hall (by simpa using p2)⟩ a6 (by repeat (first|exact Sub.nil|refine Sub.cons rfl ?_)) Sx
  ·have p1:=h1; (try simp only [cT] at p1);refine q4q ?_;refine cV rfl rfl (fun w' hw=>⟨?_,hw.isBelow⟩);exact q4S
theorem zhx {c:Dx→Dx→Int}(xs:List Dx)(v:Value)(f:FuncId)(w:World)(h:SlOf w v Dx.cells 2 xs)(ho1:∀k,k<xs.length→OneC (cI xs k).v)[hE:Enters Tryz.prog f](hC:∀x y:Dx,OneC x.v→OneC y.v→∀w':World,Calls Tryz.prog f #[.agg (Dx.cells (x)).toArray, .agg (Dx.cells (y)).toArray] w' fun e w''=>e= .returned (.int .i64 (c x y))∧Below w'.heap.size w' w'')(hl:xs.length≤9223372036854775807):Calls Tryz.prog 50 #[v, .func (.func f) #[] #[]] w fun e w'=>e= .returned (.bool (fy c xs))∧Below w.heap.size w w':=by
 obtain ⟨A,cap,rfl,hsl⟩:=h.op;refine dA (M:=fun _=>False) (hs:=[]) Tryz.func50 rfl rfl rfl (Hp.refl _ _) ?_;refine jD ?_;refine cS (T.block ?_);refine T.loop (ι:=Nat) (fun k=>[(0, .slice A xs.length cap),(1, .func (.func f) #[] #[]),(5, .int .i64 (k:Int))]) (fun k=>[]) (fun k=>1≤k∧∀j,j<k→j<xs.length→(decide (j=0)|| !decide (0≤c (cI xs (j - 1)) (cI xs j)))=true) (fun k=>xs.length - k) 1 ?_ ?_ ?_ ?_
 ·exact q4T
 ·exact (by repeat (first|exact Sub.nil|refine Sub.cons rfl ?_))
 ·exact Sx
 ·intro k hphi;obtain ⟨hk0,hall⟩:=hphi;refine iZ ?_;refine lK ?_;refine dM ?_;refine T.cond rfl (fun h1=>?_) (fun h1=>?_)
  ·have p1:=h1; (try simp only [cT] at p1);obtain ⟨g,off,rfl,hc⟩:=hsl a6;have hk:=hc k a6;have hk1:=hc (k - 1) a6;have o1:=ho1 k a6;have o2:=ho1 (k - 1) a6;simp only [Dx.cells] at hk hk1;refine q0v ?_; (refine da rfl (Wt.none) rfl rfl (cM rfl rfl rfl (fun w hw=>hC (cI xs (k - 1)) (cI xs k) o2 o1 w)) ?_;rintro _ _ ⟨rfl,rfl⟩;refine ⟨Sx,?_⟩);refine kx ?_;refine T.cond rfl (fun h2=>?_) (fun h2=>?_)
   ·have p2:=h2; (try simp only [cT] at p2);refine iT ?_;refine cV rfl rfl (fun w' hw=>⟨?_,hw.isBelow⟩);exact q4U
   ·have p2:=h2; (try simp only [cT] at p2);refine gY ?_;exact K.next (k+1) ⟨by omega,fun j hj hjl=>by rcases Nat.lt_or_ge j k with hh|hh;exact hall j hh hjl;rw [show j=k from by omega,decide_eq_false a6];simpa using p2⟩ a6 (by repeat (first|exact Sub.nil|refine Sub.cons rfl ?_)) Sx
  ·have p1:=h1; (try simp only [cT] at p1);refine q4q ?_;refine cV rfl rfl (fun w' hw=>⟨?_,hw.isBelow⟩);exact q4V
theorem zlI {q:Pr→Bool}(xs:List Pr)(v:Value)(f:FuncId)(caps:Array Value)(w:World)(h:SlOf w v Pr.cells 5 xs)[hE:Enters Tryz.prog f](hC:∀k,k<xs.length→∀w',Below w.heap.size w w'→Calls Tryz.prog f (.agg (Pr.cells (cI xs k)).toArray :: caps.toList).toArray w' fun e w''=>e= .returned (.bool (q (cI xs k)))∧Below w'.heap.size w' w'')(hl:xs.length≤9223372036854775807):Calls Tryz.prog 52 #[v, .func (.func f) #[] caps] w fun e w'=>e= .returned (.bool (fM q xs))∧Below w.heap.size w w':=by
 obtain ⟨A,cap,rfl,hsl⟩:=h.op;refine dA (M:=fun _=>False) (hs:=[]) Tryz.func52 rfl rfl rfl (Hp.refl _ _) ?_;refine jD ?_;refine jG ?_;refine T.loop (ι:=Nat) (fun k=>[(1, .func (.func f) #[] caps),(7, .slice A xs.length cap),(8, .int .i64 (xs.length:Int)),(9, .int .i64 (k:Int))]) (fun k=>[]) (fun k=>k≤xs.length∧∀j,j<k→q (cI xs j)=true) (fun k=>xs.length - k) 0 ?_ ?_ ?_ ?_
 ·exact q4Q
 ·exact (by repeat (first|exact Sub.nil|refine Sub.cons rfl ?_))
 ·exact Sx
 ·intro k hphi;obtain ⟨hkl,hall⟩:=hphi;refine fA ?_;refine T.cond rfl (fun h1=>?_) (fun h1=>?_)
  ·have p1:=h1; (try simp only [cT] at p1);obtain ⟨g,off,rfl,hc⟩:=hsl a6;have hk:=hc k a6;simp only [Pr.cells] at hk;refine fS ?_;refine lS ?_; (refine cN (Wt.none) rfl rfl (Ew.alloc) ?_;rintro _ _ ⟨g6,rfl,rfl⟩); (refine dO (Wt.none) rfl (dH 0) ?_;rintro _ _ ⟨rfl,rfl⟩);refine du ?_;refine di ?_;refine iN ?_; (refine cN (Wt.none) rfl rfl (kK rfl rfl rfl (fun w hw=>hC k a6 w hw.isBelow)) ?_;rintro _ _ ⟨rfl,rfl⟩);refine dM ?_;refine T.cond rfl (fun h2=>?_) (fun h2=>?_)
   ·have p2:=h2; (try simp only [cT] at p2);refine iT ?_;refine cV rfl rfl (fun w' hw=>⟨?_,hw.isBelow⟩);exact q4R
   ·have p2:=h2; (try simp only [cT] at p2);refine i3 ?_;exact K.next (k+1) ⟨by omega,zel hall (by simpa using p2)⟩ a6 (by repeat (first|exact Sub.nil|refine Sub.cons rfl ?_)) Sx
  ·have p1:=h1; (try simp only [cT] at p1);refine q4q ?_;refine cV rfl rfl (fun w' hw=>⟨?_,hw.isBelow⟩);exact q4S
theorem zhS {c:Pr→Pr→Int}(xs:List Pr)(v:Value)(f:FuncId)(w:World)(h:SlOf w v Pr.cells 5 xs)[hE:Enters Tryz.prog f](hC:∀x y:Pr,∀w':World,Calls Tryz.prog f #[.agg (Pr.cells (x)).toArray, .agg (Pr.cells (y)).toArray] w' fun e w''=>e= .returned (.int .i64 (c x y))∧Below w'.heap.size w' w'')(hl:xs.length≤9223372036854775807):Calls Tryz.prog 82 #[v, .func (.func f) #[] #[]] w fun e w'=>e= .returned (.bool (fy c xs))∧Below w.heap.size w w':=by
 obtain ⟨A,cap,rfl,hsl⟩:=h.op;refine dA (M:=fun _=>False) (hs:=[]) Tryz.func82 rfl rfl rfl (Hp.refl _ _) ?_;refine jD ?_;refine cS (T.block ?_);refine T.loop (ι:=Nat) (fun k=>[(0, .slice A xs.length cap),(1, .func (.func f) #[] #[]),(5, .int .i64 (k:Int))]) (fun k=>[]) (fun k=>1≤k∧∀j,j<k→j<xs.length→(decide (j=0)|| !decide (0≤c (cI xs (j - 1)) (cI xs j)))=true) (fun k=>xs.length - k) 1 ?_ ?_ ?_ ?_
 ·exact q4T
 ·exact (by repeat (first|exact Sub.nil|refine Sub.cons rfl ?_))
 ·exact Sx
 ·intro k hphi;obtain ⟨hk0,hall⟩:=hphi;refine iZ ?_;refine lK ?_;refine dM ?_;refine T.cond rfl (fun h1=>?_) (fun h1=>?_)
  ·have p1:=h1; (try simp only [cT] at p1);obtain ⟨g,off,rfl,hc⟩:=hsl a6;have hk:=hc k a6;have hk1:=hc (k - 1) a6;simp only [Pr.cells] at hk hk1;refine q0v ?_; (refine da rfl (Wt.none) rfl rfl (cM rfl rfl rfl (fun w hw=>hC (cI xs (k - 1)) (cI xs k) w)) ?_;rintro _ _ ⟨rfl,rfl⟩;refine ⟨Sx,?_⟩);refine kx ?_;refine T.cond rfl (fun h2=>?_) (fun h2=>?_)
   ·have p2:=h2; (try simp only [cT] at p2);refine iT ?_;refine cV rfl rfl (fun w' hw=>⟨?_,hw.isBelow⟩);exact q4U
   ·have p2:=h2; (try simp only [cT] at p2);refine gY ?_;exact K.next (k+1) ⟨by omega,fun j hj hjl=>by rcases Nat.lt_or_ge j k with hh|hh;exact hall j hh hjl;rw [show j=k from by omega,decide_eq_false a6];simpa using p2⟩ a6 (by repeat (first|exact Sub.nil|refine Sub.cons rfl ?_)) Sx
  ·have p1:=h1; (try simp only [cT] at p1);refine q4q ?_;refine cV rfl rfl (fun w' hw=>⟨?_,hw.isBelow⟩);exact q4V
theorem zlZ {q:Ld→Bool}(xs:List Ld)(v:Value)(f:FuncId)(caps:Array Value)(w:World)(h:SlOf w v Ld.cells 5 xs)[hE:Enters Tryz.prog f](hC:∀k,k<xs.length→∀w',Below w.heap.size w w'→Calls Tryz.prog f (.agg (Ld.cells (cI xs k)).toArray :: caps.toList).toArray w' fun e w''=>e= .returned (.bool (q (cI xs k)))∧Below w'.heap.size w' w'')(hl:xs.length≤9223372036854775807):Calls Tryz.prog 55 #[v, .func (.func f) #[] caps] w fun e w'=>e= .returned (.bool (fM q xs))∧Below w.heap.size w w':=by
 obtain ⟨A,cap,rfl,hsl⟩:=h.op;refine dA (M:=fun _=>False) (hs:=[]) Tryz.func55 rfl rfl rfl (Hp.refl _ _) ?_;refine jD ?_;refine jG ?_;refine T.loop (ι:=Nat) (fun k=>[(1, .func (.func f) #[] caps),(7, .slice A xs.length cap),(8, .int .i64 (xs.length:Int)),(9, .int .i64 (k:Int))]) (fun k=>[]) (fun k=>k≤xs.length∧∀j,j<k→q (cI xs j)=true) (fun k=>xs.length - k) 0 ?_ ?_ ?_ ?_
 ·exact q4Q
 ·exact (by repeat (first|exact Sub.nil|refine Sub.cons rfl ?_))
 ·exact Sx
 ·intro k hphi;obtain ⟨hkl,hall⟩:=hphi;refine fA ?_;refine T.cond rfl (fun h1=>?_) (fun h1=>?_)
  ·have p1:=h1; (try simp only [cT] at p1);obtain ⟨g,off,rfl,hc⟩:=hsl a6;have hk:=hc k a6;simp only [Ld.cells] at hk;refine fS ?_;refine lS ?_; (refine cN (Wt.none) rfl rfl (Ew.alloc) ?_;rintro _ _ ⟨g6,rfl,rfl⟩); (refine dO (Wt.none) rfl (dH 0) ?_;rintro _ _ ⟨rfl,rfl⟩);refine du ?_;refine di ?_;refine iN ?_; (refine cN (Wt.none) rfl rfl (kK rfl rfl rfl (fun w hw=>hC k a6 w hw.isBelow)) ?_;rintro _ _ ⟨rfl,rfl⟩);refine dM ?_;refine T.cond rfl (fun h2=>?_) (fun h2=>?_)
   ·have p2:=h2; (try simp only [cT] at p2);refine iT ?_;refine cV rfl rfl (fun w' hw=>⟨?_,hw.isBelow⟩);exact q4R
   ·have p2:=h2; (try simp only [cT] at p2);refine i3 ?_;exact K.next (k+1) ⟨by omega,zel hall (by simpa using p2)⟩ a6 (by repeat (first|exact Sub.nil|refine Sub.cons rfl ?_)) Sx
  ·have p1:=h1; (try simp only [cT] at p1);refine q4q ?_;refine cV rfl rfl (fun w' hw=>⟨?_,hw.isBelow⟩);exact q4S
theorem zhW {c:Ld→Ld→Int}(xs:List Ld)(v:Value)(f:FuncId)(w:World)(h:SlOf w v Ld.cells 5 xs)[hE:Enters Tryz.prog f](hC:∀x y:Ld,∀w':World,Calls Tryz.prog f #[.agg (Ld.cells (x)).toArray, .agg (Ld.cells (y)).toArray] w' fun e w''=>e= .returned (.int .i64 (c x y))∧Below w'.heap.size w' w'')(hl:xs.length≤9223372036854775807):Calls Tryz.prog 85 #[v, .func (.func f) #[] #[]] w fun e w'=>e= .returned (.bool (fy c xs))∧Below w.heap.size w w':=by
 obtain ⟨A,cap,rfl,hsl⟩:=h.op;refine dA (M:=fun _=>False) (hs:=[]) Tryz.func85 rfl rfl rfl (Hp.refl _ _) ?_;refine jD ?_;refine cS (T.block ?_);refine T.loop (ι:=Nat) (fun k=>[(0, .slice A xs.length cap),(1, .func (.func f) #[] #[]),(5, .int .i64 (k:Int))]) (fun k=>[]) (fun k=>1≤k∧∀j,j<k→j<xs.length→(decide (j=0)|| !decide (0≤c (cI xs (j - 1)) (cI xs j)))=true) (fun k=>xs.length - k) 1 ?_ ?_ ?_ ?_
 ·exact q4T
 ·exact (by repeat (first|exact Sub.nil|refine Sub.cons rfl ?_))
 ·exact Sx
 ·intro k hphi;obtain ⟨hk0,hall⟩:=hphi;refine iZ ?_;refine lK ?_;refine dM ?_;refine T.cond rfl (fun h1=>?_) (fun h1=>?_)
  ·have p1:=h1; (try simp only [cT] at p1);obtain ⟨g,off,rfl,hc⟩:=hsl a6;have hk:=hc k a6;have hk1:=hc (k - 1) a6;simp only [Ld.cells] at hk hk1;refine q0v ?_; (refine da rfl (Wt.none) rfl rfl (cM rfl rfl rfl (fun w hw=>hC (cI xs (k - 1)) (cI xs k) w)) ?_;rintro _ _ ⟨rfl,rfl⟩;refine ⟨Sx,?_⟩);refine kx ?_;refine T.cond rfl (fun h2=>?_) (fun h2=>?_)
   ·have p2:=h2; (try simp only [cT] at p2);refine iT ?_;refine cV rfl rfl (fun w' hw=>⟨?_,hw.isBelow⟩);exact q4U
   ·have p2:=h2; (try simp only [cT] at p2);refine gY ?_;exact K.next (k+1) ⟨by omega,fun j hj hjl=>by rcases Nat.lt_or_ge j k with hh|hh;exact hall j hh hjl;rw [show j=k from by omega,decide_eq_false a6];simpa using p2⟩ a6 (by repeat (first|exact Sub.nil|refine Sub.cons rfl ?_)) Sx
  ·have p1:=h1; (try simp only [cT] at p1);refine q4q ?_;refine cV rfl rfl (fun w' hw=>⟨?_,hw.isBelow⟩);exact q4V
theorem zlO {q:Cp→Bool}(xs:List Cp)(v:Value)(f:FuncId)(caps:Array Value)(w:World)(h:SlOf w v Cp.cells 4 xs)[hE:Enters Tryz.prog f](hC:∀k,k<xs.length→∀w',Below w.heap.size w w'→Calls Tryz.prog f (.agg (Cp.cells (cI xs k)).toArray :: caps.toList).toArray w' fun e w''=>e= .returned (.bool (q (cI xs k)))∧Below w'.heap.size w' w'')(hl:xs.length≤9223372036854775807):Calls Tryz.prog 57 #[v, .func (.func f) #[] caps] w fun e w'=>e= .returned (.bool (fM q xs))∧Below w.heap.size w w':=by
 obtain ⟨A,cap,rfl,hsl⟩:=h.op;refine dA (M:=fun _=>False) (hs:=[]) Tryz.func57 rfl rfl rfl (Hp.refl _ _) ?_;refine jD ?_;refine jG ?_;refine T.loop (ι:=Nat) (fun k=>[(1, .func (.func f) #[] caps),(7, .slice A xs.length cap),(8, .int .i64 (xs.length:Int)),(9, .int .i64 (k:Int))]) (fun k=>[]) (fun k=>k≤xs.length∧∀j,j<k→q (cI xs j)=true) (fun k=>xs.length - k) 0 ?_ ?_ ?_ ?_
 ·exact q4Q
 ·exact (by repeat (first|exact Sub.nil|refine Sub.cons rfl ?_))
 ·exact Sx
 ·intro k hphi;obtain ⟨hkl,hall⟩:=hphi;refine fA ?_;refine T.cond rfl (fun h1=>?_) (fun h1=>?_)
  ·have p1:=h1; (try simp only [cT] at p1);obtain ⟨g,off,rfl,hc⟩:=hsl a6;have hk:=hc k a6;simp only [Cp.cells] at hk;refine fS ?_;refine lS ?_; (refine cN (Wt.none) rfl rfl (Ew.alloc) ?_;rintro _ _ ⟨g6,rfl,rfl⟩); (refine dO (Wt.none) rfl (dH 0) ?_;rintro _ _ ⟨rfl,rfl⟩);refine du ?_;refine di ?_;refine iN ?_; (refine cN (Wt.none) rfl rfl (kK rfl rfl rfl (fun w hw=>hC k a6 w hw.isBelow)) ?_;rintro _ _ ⟨rfl,rfl⟩);refine dM ?_;refine T.cond rfl (fun h2=>?_) (fun h2=>?_)
   ·have p2:=h2; (try simp only [cT] at p2);refine iT ?_;refine cV rfl rfl (fun w' hw=>⟨?_,hw.isBelow⟩);exact q4R
   ·have p2:=h2; (try simp only [cT] at p2);refine i3 ?_;exact K.next (k+1) ⟨by omega,zel hall (by simpa using p2)⟩ a6 (by repeat (first|exact Sub.nil|refine Sub.cons rfl ?_)) Sx
  ·have p1:=h1; (try simp only [cT] at p1);refine q4q ?_;refine cV rfl rfl (fun w' hw=>⟨?_,hw.isBelow⟩);exact q4S
theorem zis {c:Cp→Cp→Int}(xs:List Cp)(v:Value)(f:FuncId)(w:World)(h:SlOf w v Cp.cells 4 xs)[hE:Enters Tryz.prog f](hC:∀x y:Cp,∀w':World,Calls Tryz.prog f #[.agg (Cp.cells (x)).toArray, .agg (Cp.cells (y)).toArray] w' fun e w''=>e= .returned (.int .i64 (c x y))∧Below w'.heap.size w' w'')(hl:xs.length≤9223372036854775807):Calls Tryz.prog 88 #[v, .func (.func f) #[] #[]] w fun e w'=>e= .returned (.bool (fy c xs))∧Below w.heap.size w w':=by
 obtain ⟨A,cap,rfl,hsl⟩:=h.op;refine dA (M:=fun _=>False) (hs:=[]) Tryz.func88 rfl rfl rfl (Hp.refl _ _) ?_;refine jD ?_;refine cS (T.block ?_);refine T.loop (ι:=Nat) (fun k=>[(0, .slice A xs.length cap),(1, .func (.func f) #[] #[]),(5, .int .i64 (k:Int))]) (fun k=>[]) (fun k=>1≤k∧∀j,j<k→j<xs.length→(decide (j=0)|| !decide (0≤c (cI xs (j - 1)) (cI xs j)))=true) (fun k=>xs.length - k) 1 ?_ ?_ ?_ ?_
 ·exact q4T
 ·exact (by repeat (first|exact Sub.nil|refine Sub.cons rfl ?_))
 ·exact Sx
 ·intro k hphi;obtain ⟨hk0,hall⟩:=hphi;refine iZ ?_;refine lK ?_;refine dM ?_;refine T.cond rfl (fun h1=>?_) (fun h1=>?_)
  ·have p1:=h1; (try simp only [cT] at p1);obtain ⟨g,off,rfl,hc⟩:=hsl a6;have hk:=hc k a6;have hk1:=hc (k - 1) a6;simp only [Cp.cells] at hk hk1;refine q0v ?_; (refine da rfl (Wt.none) rfl rfl (cM rfl rfl rfl (fun w hw=>hC (cI xs (k - 1)) (cI xs k) w)) ?_;rintro _ _ ⟨rfl,rfl⟩;refine ⟨Sx,?_⟩);refine kx ?_;refine T.cond rfl (fun h2=>?_) (fun h2=>?_)
   ·have p2:=h2; (try simp only [cT] at p2);refine iT ?_;refine cV rfl rfl (fun w' hw=>⟨?_,hw.isBelow⟩);exact q4U
   ·have p2:=h2; (try simp only [cT] at p2);refine gY ?_;exact K.next (k+1) ⟨by omega,fun j hj hjl=>by rcases Nat.lt_or_ge j k with hh|hh;exact hall j hh hjl;rw [show j=k from by omega,decide_eq_false a6];simpa using p2⟩ a6 (by repeat (first|exact Sub.nil|refine Sub.cons rfl ?_)) Sx
  ·have p1:=h1; (try simp only [cT] at p1);refine q4q ?_;refine cV rfl rfl (fun w' hw=>⟨?_,hw.isBelow⟩);exact q4V
theorem znf {q:Int→Bool}(xs:List Int)(v:Value)(f:FuncId)(caps:Array Value)(w:World)(h:SlOf w v Ie 1 xs)[hE:Enters Tryz.prog f](hC:∀k,k<xs.length→∀w',Below w.heap.size w w'→Calls Tryz.prog f (.int .i64 (cI xs k) :: caps.toList).toArray w' fun e w''=>e= .returned (.bool (q (cI xs k)))∧Below w'.heap.size w' w'')(hl:xs.length≤9223372036854775807):Calls Tryz.prog 79 #[v, .func (.func f) #[] caps] w fun e w'=>e= .returned (.bool (fM q xs))∧Below w.heap.size w w':=by
 obtain ⟨A,cap,rfl,hsl⟩:=h.op;refine dA (M:=fun _=>False) (hs:=[]) Tryz.func79 rfl rfl rfl (Hp.refl _ _) ?_;refine jD ?_;refine jG ?_;refine T.loop (ι:=Nat) (fun k=>[(1, .func (.func f) #[] caps),(7, .slice A xs.length cap),(8, .int .i64 (xs.length:Int)),(9, .int .i64 (k:Int))]) (fun k=>[]) (fun k=>k≤xs.length∧∀j,j<k→q (cI xs j)=true) (fun k=>xs.length - k) 0 ?_ ?_ ?_ ?_
 ·exact q4Q
 ·exact (by repeat (first|exact Sub.nil|refine Sub.cons rfl ?_))
 ·exact Sx
 ·intro k hphi;obtain ⟨hkl,hall⟩:=hphi;refine fA ?_;refine T.cond rfl (fun h1=>?_) (fun h1=>?_)
  ·have p1:=h1; (try simp only [cT] at p1);obtain ⟨g,off,rfl,hc⟩:=hsl a6;have hk:=hc k a6;simp only [Ie] at hk;refine fS ?_;refine q1S ?_;refine gn ?_;refine ef ?_; (refine cN (Wt.none) rfl rfl (kK rfl rfl rfl (fun w hw=>hC k a6 w hw.isBelow)) ?_;rintro _ _ ⟨rfl,rfl⟩);refine dM ?_;refine T.cond rfl (fun h2=>?_) (fun h2=>?_)
   ·have p2:=h2; (try simp only [cT] at p2);refine iT ?_;refine cV rfl rfl (fun w' hw=>⟨?_,hw.isBelow⟩);exact q4R
   ·have p2:=h2; (try simp only [cT] at p2);refine i3 ?_;exact K.next (k+1) ⟨by omega,zel hall (by simpa using p2)⟩ a6 (by repeat (first|exact Sub.nil|refine Sub.cons rfl ?_)) Sx
  ·have p1:=h1; (try simp only [cT] at p1);refine q4q ?_;refine cV rfl rfl (fun w' hw=>⟨?_,hw.isBelow⟩);exact q4S
theorem zhH {c:Int→Int→Int}(xs:List Int)(v:Value)(f:FuncId)(w:World)(h:SlOf w v Ie 1 xs)[hE:Enters Tryz.prog f](hC:∀x y:Int,∀w':World,Calls Tryz.prog f #[.int .i64 (x), .int .i64 (y)] w' fun e w''=>e= .returned (.int .i64 (c x y))∧Below w'.heap.size w' w'')(hl:xs.length≤9223372036854775807):Calls Tryz.prog 80 #[v, .func (.func f) #[] #[]] w fun e w'=>e= .returned (.bool (fy c xs))∧Below w.heap.size w w':=by
 obtain ⟨A,cap,rfl,hsl⟩:=h.op;refine dA (M:=fun _=>False) (hs:=[]) Tryz.func80 rfl rfl rfl (Hp.refl _ _) ?_;refine jD ?_;refine cS (T.block ?_);refine T.loop (ι:=Nat) (fun k=>[(0, .slice A xs.length cap),(1, .func (.func f) #[] #[]),(5, .int .i64 (k:Int))]) (fun k=>[]) (fun k=>1≤k∧∀j,j<k→j<xs.length→(decide (j=0)|| !decide (0≤c (cI xs (j - 1)) (cI xs j)))=true) (fun k=>xs.length - k) 1 ?_ ?_ ?_ ?_
 ·exact q4T
 ·exact (by repeat (first|exact Sub.nil|refine Sub.cons rfl ?_))
 ·exact Sx
 ·intro k hphi;obtain ⟨hk0,hall⟩:=hphi;refine iZ ?_;refine lK ?_;refine dM ?_;refine T.cond rfl (fun h1=>?_) (fun h1=>?_)
  ·have p1:=h1; (try simp only [cT] at p1);obtain ⟨g,off,rfl,hc⟩:=hsl a6;have hk:=hc k a6;have hk1:=hc (k - 1) a6;simp only [Ie] at hk hk1;refine kB ?_;refine q3j ?_;refine ik ?_;refine nm ?_;refine cO rfl (gy rfl rfl rfl (show (k:Int) - 1=((k - 1:Nat):Int) from by omega) a6) ?_;refine cO rfl (d4 (j:=0) rfl rfl hk1 rfl rfl (fun h=>h)) ?_;refine gG ?_;refine q2s ?_;refine cO rfl (d4 (j:=0) rfl rfl hk rfl rfl (fun h=>h)) ?_;refine dw ?_; (refine da rfl (Wt.none) rfl rfl (cM rfl rfl rfl (fun w hw=>hC (cI xs (k - 1)) (cI xs k) w)) ?_;rintro _ _ ⟨rfl,rfl⟩;refine ⟨Sx,?_⟩);refine kx ?_;refine T.cond rfl (fun h2=>?_) (fun h2=>?_)
   ·have p2:=h2; (try simp only [cT] at p2);refine iT ?_;refine cV rfl rfl (fun w' hw=>⟨?_,hw.isBelow⟩);exact q4U
   ·have p2:=h2; (try simp only [cT] at p2);refine gY ?_;exact K.next (k+1) ⟨by omega,fun j hj hjl=>by rcases Nat.lt_or_ge j k with hh|hh;exact hall j hh hjl;rw [show j=k from by omega,decide_eq_false a6];simpa using p2⟩ a6 (by repeat (first|exact Sub.nil|refine Sub.cons rfl ?_)) Sx
  ·have p1:=h1; (try simp only [cT] at p1);refine q4q ?_;refine cV rfl rfl (fun w' hw=>⟨?_,hw.isBelow⟩);exact q4V
def Pr.ok (x:Pr):Bool:=inB x.a 0 511&&(inB x.b 0 511&&(decide (x.a<x.b)&&(inB x.off (-1) 1&&fh x.lo x.hi)))
def Ld.ok (x:Ld):Bool:=inB x.to 0 511&&(inB x.fr 0 511&&(decide (¬x.to=x.fr)&&(inB x.wt 1 1073741824&&fh x.lo x.hi)))
def Cp.ok (x:Cp):Bool:=inB x.st 0 511&&(inB x.mx 0 1099511627776&&fh x.lo x.hi)
def Pr.cmp (x y:Pr):Int:=kq [dL x.a y.a,dL x.b y.b,dL x.off y.off,dL x.lo y.lo,dL x.hi y.hi]
def Ld.cmp (x y:Ld):Int:=kq [dL x.to y.to,dL x.fr y.fr,dL x.wt y.wt,dL x.lo y.lo,dL x.hi y.hi]
def Cp.cmp (x y:Cp):Int:=kq [dL x.st y.st,dL x.mx y.mx,dL x.lo y.lo,dL x.hi y.hi]
theorem zif (x:Pr)(w:World):Calls Tryz.prog 81 #[.agg (Pr.cells x).toArray] w fun e w'=>e= .returned (.bool x.ok)∧Below w.heap.size w w':=by
 refine dA (M:=fun _=>False) (hs:=[]) Tryz.func81 rfl rfl rfl (Hp.refl _ _) ?_;simp only [Pr.cells];refine df ?_; (refine cN (Wt.none) rfl rfl (dC) ?_;rintro _ _ ⟨g1,rfl,rfl⟩);refine gn ?_;refine eB ?_; (refine cN (Wt.none) rfl rfl (cM rfl rfl rfl (fun w hw=>zch _ _)) ?_;rintro _ _ ⟨rfl,rfl⟩);refine di ?_;refine dv rfl rfl rfl (fun h1=>?_) (fun h1=>?_)
 ·have p1:=h1; (try simp only [cT] at p1);refine q0J ?_; (refine cN (Wt.some rfl rfl rfl h1) rfl rfl (cM rfl rfl rfl (fun w hw=>zch _ _)) ?_;rintro _ _ ⟨rfl,rfl⟩);refine la ?_;refine di ?_;refine dv rfl rfl rfl (fun h2=>?_) (fun h2=>?_)
  ·have p2:=h2; (try simp only [cT] at p2);refine m0 ?_;refine m0 ?_;refine mJ ?_;refine q2V ?_;refine di ?_;refine dv rfl rfl rfl (fun h3=>?_) (fun h3=>?_)
   ·have p3:=h3; (try simp only [cT] at p3);refine q0U ?_; (refine cN (Wt.some rfl rfl rfl h3) rfl rfl (cM rfl rfl rfl (fun w hw=>zdi _ _ _ _)) ?_;rintro _ _ ⟨rfl,rfl⟩);refine q3Z ?_;refine di ?_;refine dv rfl rfl rfl (fun h4=>?_) (fun h4=>?_)
    ·have p4:=h4; (try simp only [cT] at p4);refine q0V ?_;refine q0V ?_; (refine cN (Wt.some rfl rfl rfl h4) rfl rfl (cM rfl rfl rfl (fun w hw=>zeP _ _ _)) ?_;rintro _ _ ⟨rfl,rfl⟩);refine cL (eJ rfl rfl h4) ?_;refine fI ?_;refine cV rfl rfl (fun w' hw=>⟨?_,hw.isBelow⟩);exact q4W
    ·have p4:=h4; (try simp only [cT] at p4);refine q2x ?_;refine fI ?_;refine cV rfl rfl (fun w' hw=>⟨?_,hw.isBelow⟩);exact q4W
   ·have p3:=h3; (try simp only [cT] at p3);refine q0u ?_;refine cL (ek rfl rfl h3) ?_;refine TL.run 8 rfl ?_;refine gj ?_;refine cV rfl rfl (fun w' hw=>⟨?_,hw.isBelow⟩);exact q4W
  ·have p2:=h2; (try simp only [cT] at p2);refine q0l ?_;refine q1X ?_;refine TL.run 13 rfl ?_;refine gj ?_;refine cV rfl rfl (fun w' hw=>⟨?_,hw.isBelow⟩);exact q4W
 ·have p1:=h1; (try simp only [cT] at p1);refine q1p ?_;refine TL.run 20 rfl ?_;refine gj ?_;refine cV rfl rfl (fun w' hw=>⟨?_,hw.isBelow⟩);exact q4W
theorem zfV (x y:Pr)(w:World):Calls Tryz.prog 83 #[.agg (Pr.cells x).toArray, .agg (Pr.cells y).toArray] w fun e w'=>e= .returned (.int .i64 (x.cmp y))∧Below w.heap.size w w':=by
 refine dA (M:=fun _=>False) (hs:=[]) Tryz.func83 rfl rfl rfl (Hp.refl _ _) ?_;simp only [Pr.cells];refine df ?_; (refine cN (Wt.none) rfl rfl (dC) ?_;rintro _ _ ⟨g2,rfl,rfl⟩); (refine cN (Wt.none) rfl rfl (dC) ?_;rintro _ _ ⟨g3,rfl,rfl⟩);refine q1q ?_; (refine da rfl (Wt.none) rfl rfl (cM rfl rfl rfl (fun w hw=>kR _ _ _)) ?_;rintro _ _ ⟨rfl,rfl⟩;refine ⟨Sx,?_⟩);refine dw ?_; (refine da rfl (Wt.none) rfl rfl (cM rfl rfl rfl (fun w hw=>kR _ _ _)) ?_;rintro _ _ ⟨rfl,rfl⟩;refine ⟨Sx,?_⟩);refine dw ?_; (refine da rfl (Wt.none) rfl rfl (cM rfl rfl rfl (fun w hw=>kR _ _ _)) ?_;rintro _ _ ⟨rfl,rfl⟩;refine ⟨Sx,?_⟩);refine dw ?_; (refine da rfl (Wt.none) rfl rfl (cM rfl rfl rfl (fun w hw=>kR _ _ _)) ?_;rintro _ _ ⟨rfl,rfl⟩;refine ⟨Sx,?_⟩);refine dw ?_; (refine da rfl (Wt.none) rfl rfl (cM rfl rfl rfl (fun w hw=>kR _ _ _)) ?_;rintro _ _ ⟨rfl,rfl⟩;refine ⟨Sx,?_⟩);refine dw ?_; (refine da rfl (Wt.none) rfl rfl (Ew.buildSlice rfl rfl rfl a7) ?_;rintro _ _ ⟨g30,rfl,rfl⟩;refine ⟨Sx,?_⟩);refine dw ?_; (refine da rfl (Wt.none) rfl rfl (cM rfl rfl rfl (fun w hw=>zma [dL x.a y.a,dL x.b y.b,dL x.off y.off,dL x.lo y.lo,dL x.hi y.hi] _ w (SlOf.lit (enc:=Ie) (size:=1) (fun _=>rfl) _ (cW.1 (hw.get (i:=0) rfl)) rfl rfl) b2)) ?_;rintro _ _ ⟨rfl,rfl⟩;refine ⟨Sx,?_⟩);refine q4x ?_;refine cV rfl rfl (fun w' hw=>⟨?_,hw.isBelow⟩)
 rfl
theorem zhY (x:Ld)(w:World):Calls Tryz.prog 84 #[.agg (Ld.cells x).toArray] w fun e w'=>e= .returned (.bool x.ok)∧Below w.heap.size w w':=by
 refine dA (M:=fun _=>False) (hs:=[]) Tryz.func84 rfl rfl rfl (Hp.refl _ _) ?_;simp only [Ld.cells];refine df ?_; (refine cN (Wt.none) rfl rfl (dC) ?_;rintro _ _ ⟨g1,rfl,rfl⟩);refine gn ?_;refine eB ?_; (refine cN (Wt.none) rfl rfl (cM rfl rfl rfl (fun w hw=>zch _ _)) ?_;rintro _ _ ⟨rfl,rfl⟩);refine di ?_;refine dv rfl rfl rfl (fun h1=>?_) (fun h1=>?_)
 ·have p1:=h1; (try simp only [cT] at p1);refine q0J ?_; (refine cN (Wt.some rfl rfl rfl h1) rfl rfl (cM rfl rfl rfl (fun w hw=>zch _ _)) ?_;rintro _ _ ⟨rfl,rfl⟩);refine la ?_;refine di ?_;refine dv rfl rfl rfl (fun h2=>?_) (fun h2=>?_)
  ·have p2:=h2; (try simp only [cT] at p2);refine m0 ?_;refine m0 ?_;refine mJ ?_;refine q2V ?_;refine di ?_;refine dv rfl rfl rfl (fun h3=>?_) (fun h3=>?_)
   ·have p3:=h3; (try simp only [cT] at p3);refine q0U ?_; (refine cN (Wt.some rfl rfl rfl h3) rfl rfl (cM rfl rfl rfl (fun w hw=>zdi _ _ _ _)) ?_;rintro _ _ ⟨rfl,rfl⟩);refine q3Z ?_;refine di ?_;refine dv rfl rfl rfl (fun h4=>?_) (fun h4=>?_)
    ·have p4:=h4; (try simp only [cT] at p4);refine q0V ?_;refine q0V ?_; (refine cN (Wt.some rfl rfl rfl h4) rfl rfl (cM rfl rfl rfl (fun w hw=>zeP _ _ _)) ?_;rintro _ _ ⟨rfl,rfl⟩);refine cL (eJ rfl rfl h4) ?_;refine fI ?_;refine cV rfl rfl (fun w' hw=>⟨?_,hw.isBelow⟩);exact q4X
    ·have p4:=h4; (try simp only [cT] at p4);refine q2x ?_;refine fI ?_;refine cV rfl rfl (fun w' hw=>⟨?_,hw.isBelow⟩);exact q4X
   ·have p3:=h3; (try simp only [cT] at p3);refine q0u ?_;refine cL (ek rfl rfl h3) ?_;refine TL.run 8 rfl ?_;refine gj ?_;refine cV rfl rfl (fun w' hw=>⟨?_,hw.isBelow⟩);exact q4X
  ·have p2:=h2; (try simp only [cT] at p2);refine q0l ?_;refine q1X ?_;refine TL.run 13 rfl ?_;refine gj ?_;refine cV rfl rfl (fun w' hw=>⟨?_,hw.isBelow⟩);exact q4X
 ·have p1:=h1; (try simp only [cT] at p1);refine q1p ?_;refine TL.run 20 rfl ?_;refine gj ?_;refine cV rfl rfl (fun w' hw=>⟨?_,hw.isBelow⟩);exact q4X
theorem zfU (x y:Ld)(w:World):Calls Tryz.prog 86 #[.agg (Ld.cells x).toArray, .agg (Ld.cells y).toArray] w fun e w'=>e= .returned (.int .i64 (x.cmp y))∧Below w.heap.size w w':=by
 refine dA (M:=fun _=>False) (hs:=[]) Tryz.func86 rfl rfl rfl (Hp.refl _ _) ?_;simp only [Ld.cells];refine df ?_; (refine cN (Wt.none) rfl rfl (dC) ?_;rintro _ _ ⟨g2,rfl,rfl⟩); (refine cN (Wt.none) rfl rfl (dC) ?_;rintro _ _ ⟨g3,rfl,rfl⟩);refine q1q ?_; (refine da rfl (Wt.none) rfl rfl (cM rfl rfl rfl (fun w hw=>kR _ _ _)) ?_;rintro _ _ ⟨rfl,rfl⟩;refine ⟨Sx,?_⟩);refine dw ?_; (refine da rfl (Wt.none) rfl rfl (cM rfl rfl rfl (fun w hw=>kR _ _ _)) ?_;rintro _ _ ⟨rfl,rfl⟩;refine ⟨Sx,?_⟩);refine dw ?_; (refine da rfl (Wt.none) rfl rfl (cM rfl rfl rfl (fun w hw=>kR _ _ _)) ?_;rintro _ _ ⟨rfl,rfl⟩;refine ⟨Sx,?_⟩);refine dw ?_; (refine da rfl (Wt.none) rfl rfl (cM rfl rfl rfl (fun w hw=>kR _ _ _)) ?_;rintro _ _ ⟨rfl,rfl⟩;refine ⟨Sx,?_⟩);refine dw ?_; (refine da rfl (Wt.none) rfl rfl (cM rfl rfl rfl (fun w hw=>kR _ _ _)) ?_;rintro _ _ ⟨rfl,rfl⟩;refine ⟨Sx,?_⟩);refine dw ?_; (refine da rfl (Wt.none) rfl rfl (Ew.buildSlice rfl rfl rfl a7) ?_;rintro _ _ ⟨g30,rfl,rfl⟩;refine ⟨Sx,?_⟩);refine dw ?_; (refine da rfl (Wt.none) rfl rfl (cM rfl rfl rfl (fun w hw=>zma [dL x.to y.to,dL x.fr y.fr,dL x.wt y.wt,dL x.lo y.lo,dL x.hi y.hi] _ w (SlOf.lit (enc:=Ie) (size:=1) (fun _=>rfl) _ (cW.1 (hw.get (i:=0) rfl)) rfl rfl) b2)) ?_;rintro _ _ ⟨rfl,rfl⟩;refine ⟨Sx,?_⟩);refine q4x ?_;refine cV rfl rfl (fun w' hw=>⟨?_,hw.isBelow⟩)
 rfl
theorem zjC (x:Cp)(w:World):Calls Tryz.prog 87 #[.agg (Cp.cells x).toArray] w fun e w'=>e= .returned (.bool x.ok)∧Below w.heap.size w w':=by
 refine dA (M:=fun _=>False) (hs:=[]) Tryz.func87 rfl rfl rfl (Hp.refl _ _) ?_;simp only [Cp.cells];refine df ?_; (refine cN (Wt.none) rfl rfl (dC) ?_;rintro _ _ ⟨g1,rfl,rfl⟩);refine gn ?_;refine eB ?_; (refine cN (Wt.none) rfl rfl (cM rfl rfl rfl (fun w hw=>zch _ _)) ?_;rintro _ _ ⟨rfl,rfl⟩);refine di ?_;refine dv rfl rfl rfl (fun h1=>?_) (fun h1=>?_)
 ·have p1:=h1; (try simp only [cT] at p1);refine q0J ?_; (refine cN (Wt.some rfl rfl rfl h1) rfl rfl (cM rfl rfl rfl (fun w hw=>zdi _ _ _ _)) ?_;rintro _ _ ⟨rfl,rfl⟩);refine la ?_;refine di ?_;refine dv rfl rfl rfl (fun h2=>?_) (fun h2=>?_)
  ·have p2:=h2; (try simp only [cT] at p2);refine m0 ?_;refine m0 ?_; (refine cN (Wt.some rfl rfl rfl h2) rfl rfl (cM rfl rfl rfl (fun w hw=>zeP _ _ _)) ?_;rintro _ _ ⟨rfl,rfl⟩);refine q2V ?_;refine fI ?_;refine cV rfl rfl (fun w' hw=>⟨?_,hw.isBelow⟩);exact q5a
  ·have p2:=h2; (try simp only [cT] at p2);refine q0l ?_;refine q1X ?_;refine fI ?_;refine cV rfl rfl (fun w' hw=>⟨?_,hw.isBelow⟩);exact q5a
 ·have p1:=h1; (try simp only [cT] at p1);refine q1p ?_;refine TL.run 8 rfl ?_;refine gj ?_;refine cV rfl rfl (fun w' hw=>⟨?_,hw.isBelow⟩);exact q5a
theorem zgJ (x y:Cp)(w:World):Calls Tryz.prog 89 #[.agg (Cp.cells x).toArray, .agg (Cp.cells y).toArray] w fun e w'=>e= .returned (.int .i64 (x.cmp y))∧Below w.heap.size w w':=by
 refine dA (M:=fun _=>False) (hs:=[]) Tryz.func89 rfl rfl rfl (Hp.refl _ _) ?_;simp only [Cp.cells];refine df ?_; (refine cN (Wt.none) rfl rfl (dC) ?_;rintro _ _ ⟨g2,rfl,rfl⟩); (refine cN (Wt.none) rfl rfl (dC) ?_;rintro _ _ ⟨g3,rfl,rfl⟩);refine jr ?_;refine dF (sN 0 4 (sN 5 4 (sN 10 4 (sN 15 4 (.eff 4 (.eff 9 (.eff 14 (.eff 19 (.eff 20 (.eff 21 (.still 22 .done))))))))))) _ a8 (List.Sublist.refl _) ?_;refine q0C ?_;refine gg ?_;refine cO rfl (cY 1) ?_;refine lR ?_; (refine da rfl (Wt.none) rfl rfl (cM rfl rfl rfl (fun w hw=>kR _ _ _)) ?_;rintro _ _ ⟨rfl,rfl⟩;refine ⟨Sx,?_⟩);refine dw ?_; (refine da rfl (Wt.none) rfl rfl (cM rfl rfl rfl (fun w hw=>kR _ _ _)) ?_;rintro _ _ ⟨rfl,rfl⟩;refine ⟨Sx,?_⟩);refine dw ?_; (refine da rfl (Wt.none) rfl rfl (cM rfl rfl rfl (fun w hw=>kR _ _ _)) ?_;rintro _ _ ⟨rfl,rfl⟩;refine ⟨Sx,?_⟩);refine dw ?_; (refine da rfl (Wt.none) rfl rfl (cM rfl rfl rfl (fun w hw=>kR _ _ _)) ?_;rintro _ _ ⟨rfl,rfl⟩;refine ⟨Sx,?_⟩);refine dw ?_; (refine da rfl (Wt.none) rfl rfl (Ew.buildSlice rfl rfl rfl a7) ?_;rintro _ _ ⟨g25,rfl,rfl⟩;refine ⟨Sx,?_⟩);refine dw ?_; (refine da rfl (Wt.none) rfl rfl (cM rfl rfl rfl (fun w hw=>zma [dL x.st y.st,dL x.mx y.mx,dL x.lo y.lo,dL x.hi y.hi] _ w (SlOf.lit (enc:=Ie) (size:=1) (fun _=>rfl) _ (cW.1 (hw.get (i:=0) rfl)) rfl rfl) b2)) ?_;rintro _ _ ⟨rfl,rfl⟩;refine ⟨Sx,?_⟩);refine q4x ?_;refine cV rfl rfl (fun w' hw=>⟨?_,hw.isBelow⟩)
 rfl
theorem Cs.later {w w':World}(hb:Below w.heap.size w w'){g p:Nat}{l:List Value}(h:Cs w g p l):Cs w' g p l:=h.kept (il hb) (fun h=>h)
def Dx.ok (d:Dx):Bool:=inB d.st 0 511&&(fM (fun c=>inB c 2 51) d.chs&&fy dL d.chs)
def Pb.rulesOk (P:Pb):Bool:=decide ((P.ps.length:Int)≤4096)&&(fM Pr.ok P.ps&&(fy Pr.cmp P.ps&&(decide ((P.ls.length:Int)≤1024)&&(fM Ld.ok P.ls&&(fy Ld.cmp P.ls&&(decide ((P.cs.length:Int)≤1024)&&(fM Cp.ok P.cs&&fy Cp.cmp P.cs)))))))
abbrev Ws:=List (BitVec 64)
abbrev Ws.cells (ws:Ws):List Value:=ws.map fun b=>U b
def fB:Ws:=List.replicate 8 0#64
def dY (ws:Ws)(i:Nat):Ws:=ws.set (i / 64) (cI ws (i / 64) ||| 1#64 <<< (i % 64))
def eF (ws:Ws)(i:Nat):Bool:=(cI ws (i / 64)).getLsbD (i % 64)
def jL (ws:Ws)(i:Int):Bool:=inB i 0 511&&eF ws i.toNat
def mj (l:List Int):Ws:=l.foldl (fun s i=>dY s i.toNat) fB
theorem lx {ws:Ws}{i:Nat}:(dY ws i).length=ws.length:=by simp [dY]
theorem lk (l:List Int):(mj l).length=8:=by
 have:∀(l:List Int) (s:Ws),(l.foldl (fun s i=>dY s i.toNat) s).length=s.length:=by
  intro l
  induction l with
  |nil=>intro s;rfl
  |cons x r ih=>intro s;simp only [List.foldl_cons,ih,lx]
 exact this l fB
theorem zkn {l:List Int}{k:Nat}(h:k<l.length):mj (l.take (k+1))=dY (mj (l.take k)) (cI l k).toNat:=by
 unfold mj;rw [List.take_succ_eq_append_getElem h,d9 h,List.foldl_append];rfl
theorem Ws.get {ws:Ws}{i p:Nat}(h:i<ws.length)(hp:p=i):ws.cells[p]?=some (U (cI ws i)):=by
 subst hp;simp [cI,h]
theorem Ws.put {ws:Ws}{i p:Nat}{b:BitVec 64}(hp:p=i):ws.cells.set p (U b)=Ws.cells (ws.set i b):=by
 subst hp;simp [List.map_set]
theorem ziH (a:BitVec 64)(j:Nat):decide (((((a >>> j) &&& 1#64).toNat:Nat):Int)=1)=a.getLsbD j:=by
 rw [BitVec.toNat_and,BitVec.toNat_ushiftRight]
 show decide ((((a.toNat >>> j &&& 1):Nat):Int)=1)=a.toNat.testBit j
 rw [Nat.and_one_is_mod,Nat.testBit,Nat.and_comm,Nat.and_one_is_mod];rcases Nat.mod_two_eq_zero_or_one (a.toNat >>> j) with h|h <;> rw [h] <;> rfl
theorem zf5 {ws:Ws}{i j:Nat}(hl:ws.length=8)(hi:i<512)(hj:j<512):eF (dY ws i) j=(eF ws j||decide (i=j)):=by
 unfold eF dY cI;simp only [List.getD_eq_getElem?_getD];by_cases h:i / 64=j / 64
 ·rw [h,List.getElem?_set_self a6];simp only [Option.getD_some,BitVec.getLsbD_or,BitVec.getLsbD_shiftLeft];by_cases h2:i=j
  ·subst h2;have hm:i % 64<64:=Nat.mod_lt _ a7;simp [hm]
  ·(have hm:¬i % 64=j % 64:=by omega);rw [decide_eq_false h2,Bool.or_false]
   have:(decide (j % 64<64)&& !decide (j % 64<i % 64)&&(1#64).getLsbD (j % 64 - i % 64))=false:=by
    by_cases h3:j % 64<i % 64
    ·simp [h3]
    ·rw [show (1#64).getLsbD (j % 64 - i % 64)=false from by rw [BitVec.getLsbD_one];simp;omega];simp
   rw [this,Bool.or_false]
 ·rw [List.getElem?_set_ne h,decide_eq_false (by intro hh;subst hh;exact h rfl),Bool.or_false]
theorem zdN (j:Nat):eF fB j=false:=by
 unfold eF fB cI;rw [List.getD_eq_getElem?_getD,List.getElem?_replicate]
 split
 ·simp
 ·exact BitVec.getLsbD_zero
theorem ziO (l:List Int)(hl:∀x∈l,0≤x∧x≤511)(j:Int):jL (mj l) j=true↔j∈l:=by
 have key:∀(l:List Int) (s:Ws),s.length=8→(∀x∈l,0≤x∧x≤511)→∀j:Nat,j<512→(eF (l.foldl (fun s i=>dY s i.toNat) s) j=true↔eF s j=true∨(j:Int)∈l):=by
  intro l
  induction l with
  |nil=>intro s _ _ j _;simp
  |cons x r ih=>
   intro s hs hx j hj;have h1:=hx x b2;rw [List.foldl_cons,ih _ (by rw [lx,hs]) (fun y hy=>hx y (by simp [hy])) j hj,zf5 hs a6 hj];simp only [Bool.or_eq_true,decide_eq_true_eq,List.mem_cons];constructor
   ·rintro ((h|h)|h)
    ·exact .inl h
    ·exact .inr (.inl a6)
    ·exact .inr (.inr h)
   ·rintro (h|h|h)
    ·exact .inl (.inl h)
    ·exact .inl (.inr a6)
    ·exact .inr h
 unfold jL inB;by_cases h:0≤j∧j≤511
 ·rw [decide_eq_true h.1,decide_eq_true h.2,Bool.and_true,Bool.true_and,show eF (mj l) j.toNat=true↔_ from key l fB (by rfl) hl j.toNat a6,zdN,Int.toNat_of_nonneg h.1];simp
 ·constructor
  ·intro hh;simp only [Bool.and_eq_true,decide_eq_true_eq] at hh;exact absurd hh.1 h
  ·intro hm;exact absurd (hl j hm) h
def Pb.has (P:Pb)(i:Int):Bool:=jL (mj (P.ds.map (·.st))) i
def Pb.ok (P:Pb):Bool:=fM Dx.ok P.ds&&(P.rulesOk&&(fy (fun a b=>dL a.st b.st) P.ds&&(fM (fun x:Pr=>P.has x.a&&P.has x.b) P.ps&&(fM (fun x:Ld=>P.has x.to&&P.has x.fr) P.ls&&fM (fun x:Cp=>P.has x.st) P.cs))))
theorem zen {α:Type}[Inhabited α]{q:α→Bool}{xs:List α}:fM q xs=true↔∀k,k<xs.length→q (cI xs k)=true:=by
 unfold fM;rw [List.all_eq_true];simp only [List.mem_range]
theorem d5 {α:Type}[Inhabited α]{q:α→Bool}{xs:List α}:fM q xs=true↔∀x∈xs,q x=true:=by
 rw [zen];constructor
 ·intro h x hx;obtain ⟨k,hk,rfl⟩:=List.mem_iff_getElem.1 hx;rw [←d9 hk];exact h k hk
 ·intro h k hk;exact h _ (i4 hk)
theorem io {α:Type}[Inhabited α]{c:α→α→Int}{xs:List α}:fy c xs=true↔∀k,k+1<xs.length→c (cI xs k) (cI xs (k+1))<0:=by
 unfold fy;rw [List.all_eq_true];simp only [List.mem_range];constructor
 ·intro h k hk;have:=h (k+1) hk;simp at this;omega
 ·intro h k hk
  cases k with
  |zero=>rfl
  |succ k=>have:=h k hk;simp;omega
theorem kD {a b:Int}:dL a b<0↔a<b:=by unfold dL;split <;> (try split) <;> omega
theorem zlb {α:Type}[Inhabited α]{f:α→Int}{xs:List α}(hi:fy (fun a b=>dL (f a) (f b)) xs=true)(h0:∀x∈xs,0≤f x):∀k,k<xs.length→(k:Int)≤f (cI xs k)
 |0,h=>h0 _ (i4 h)
 |k+1,h=>by
  have h1:=zlb hi h0 k a6;have h2:=kD.1 (io.1 hi k h);omega
theorem zl4 {xs:List Dx}(hi:fy (fun a b:Dx=>dL a.st b.st) xs=true)(hr:fM Dx.ok xs=true):xs.length≤512:=by
 have hst:∀x∈xs,0≤x.st∧x.st≤511:=fun x hx=>by
  have:=d5.1 hr x hx;simp only [Dx.ok,inB,Bool.and_eq_true,decide_eq_true_eq] at this;exact this.1
 rcases Nat.lt_or_ge 512 xs.length with h|h
 ·have h1:=zlb (f:=Dx.st) hi (fun x hx=>(hst x hx).1) 512 h;have h2:=hst _ (i4 h);omega
 ·exact h
theorem zkN (c:Int)(w:World):Calls Tryz.prog 78 #[.int .i64 c] w fun e w'=>e= .returned (.bool (inB c 2 51))∧Below w.heap.size w w':=by
 refine dA (M:=fun _=>False) (hs:=[]) Tryz.func78 rfl rfl rfl (Hp.refl _ _) ?_;refine kZ ?_; (refine cN (Wt.none) rfl rfl (cM rfl rfl rfl (fun w hw=>zdi _ _ _ _)) ?_;rintro _ _ ⟨rfl,rfl⟩);refine fI ?_;refine cV rfl rfl (fun w' hw=>⟨?_,hw.isBelow⟩)
 rfl
theorem zgQ (d:Dx)(w:World)(h:zgF w d.v d.chs)(hl:d.chs.length≤9223372036854775807):Calls Tryz.prog 46 #[.agg (Dx.cells d).toArray] w fun e w'=>e= .returned (.bool d.ok)∧Below w.heap.size w w':=by
 haveI:=h.one;refine dA (M:=fun _=>False) (hs:=[]) Tryz.func46 rfl rfl rfl (Hp.refl _ _) ?_;simp only [Dx.cells];refine df ?_; (refine cN (Wt.none) rfl rfl (dC) ?_;rintro _ _ ⟨g1,rfl,rfl⟩);refine gn ?_;refine gn ?_;refine eB ?_; (refine cN (Wt.none) rfl rfl (cM rfl rfl rfl (fun w hw=>zch _ _)) ?_;rintro _ _ ⟨rfl,rfl⟩);refine di ?_;refine dv rfl rfl rfl (fun h1=>?_) (fun h1=>?_)
 ·have p1:=h1; (try simp only [cT] at p1);refine q0J ?_;refine jV ?_; (refine cN (Wt.some rfl rfl rfl h1) rfl rfl (cM rfl rfl rfl (fun w hw=>znf (q:=fun c=>inB c 2 51) d.chs _ _ #[] w (h.kept hw) (fun k hk w1 hb=>zkN _ w1) hl)) ?_;rintro _ _ ⟨rfl,rfl⟩);refine la ?_;refine di ?_;refine dv rfl rfl rfl (fun h2=>?_) (fun h2=>?_)
  ·have p2:=h2; (try simp only [cT] at p2);refine m0 ?_; (refine cN (Wt.some rfl rfl rfl h2) rfl rfl (cM rfl rfl rfl (fun w hw=>zhH (c:=dL) d.chs _ _ w (h.kept hw) (fun x y w1=>kR x y w1) hl)) ?_;rintro _ _ ⟨rfl,rfl⟩);refine q2V ?_;refine fI ?_;refine cV rfl rfl (fun w' hw=>⟨?_,hw.isBelow⟩);exact q5b
  ·have p2:=h2; (try simp only [cT] at p2);refine q0l ?_;refine q4y ?_;refine fI ?_;refine cV rfl rfl (fun w' hw=>⟨?_,hw.isBelow⟩);exact q5b
 ·have p1:=h1; (try simp only [cT] at p1);refine kl ?_;refine kl ?_;refine q28 ?_;refine TL.run 6 rfl ?_;refine gj ?_;refine cV rfl rfl (fun w' hw=>⟨?_,hw.isBelow⟩);exact q5b
theorem zhn (x y:Dx)(hx:OneC x.v)(hy:OneC y.v)(w:World):Calls Tryz.prog 48 #[.agg (Dx.cells x).toArray, .agg (Dx.cells y).toArray] w fun e w'=>e= .returned (.int .i64 (dL x.st y.st))∧Below w.heap.size w w':=by
 refine dA (M:=fun _=>False) (hs:=[]) Tryz.func48 rfl rfl rfl (Hp.refl _ _) ?_;simp only [Dx.cells];refine df ?_; (refine cN (Wt.none) rfl rfl (dC) ?_;rintro _ _ ⟨g2,rfl,rfl⟩); (refine cN (Wt.none) rfl rfl (dC) ?_;rintro _ _ ⟨g3,rfl,rfl⟩);refine gn ?_;refine lz ?_;refine eB ?_; (refine cN (Wt.none) rfl rfl (cM rfl rfl rfl (fun w hw=>kR _ _ _)) ?_;rintro _ _ ⟨rfl,rfl⟩);refine fI ?_;refine cV rfl rfl (fun w' hw=>⟨?_,hw.isBelow⟩)
 rfl
theorem zgR (P:Pb)(vp vl vc:Value)(w:World)(h:RulesAt w vp vl vc P):Calls Tryz.prog 47 #[.agg [vp,vl,vc].toArray] w fun e w'=>e= .returned (.bool P.rulesOk)∧Below w.heap.size w w':=by
 obtain ⟨A1,cap1,rfl, -⟩:=h.ps.op;obtain ⟨A2,cap2,rfl, -⟩:=h.ls.op;obtain ⟨A3,cap3,rfl, -⟩:=h.cs.op;refine dA (M:=fun _=>False) (hs:=[]) Tryz.func47 rfl rfl rfl (Hp.refl _ _) ?_;refine df ?_; (refine cN (Wt.none) rfl rfl (dC) ?_;rintro _ _ ⟨g1,rfl,rfl⟩);refine gn ?_;refine eB ?_;refine lK ?_;refine ef ?_;refine dv rfl rfl rfl (fun h1=>?_) (fun h1=>?_)
 ·have p1:=h1; (try simp only [cT] at p1);refine q0J ?_; (refine cN (Wt.some rfl rfl rfl h1) rfl rfl (cM rfl rfl rfl (fun w hw=>zlI (q:=Pr.ok) P.ps _ 81 #[] w (h.ps.kept hw) (fun k hk w1 hb=>zif _ w1) h.hps)) ?_;rintro _ _ ⟨rfl,rfl⟩);refine la ?_;refine di ?_;refine dv rfl rfl rfl (fun h2=>?_) (fun h2=>?_)
  ·have p2:=h2; (try simp only [cT] at p2);refine m0 ?_; (refine cN (Wt.some rfl rfl rfl h2) rfl rfl (cM rfl rfl rfl (fun w hw=>zhS (c:=Pr.cmp) P.ps _ 83 w (h.ps.kept hw) (fun x y w1=>zfV x y w1) h.hps)) ?_;rintro _ _ ⟨rfl,rfl⟩);refine q2V ?_;refine di ?_;refine dv rfl rfl rfl (fun h3=>?_) (fun h3=>?_)
   ·have p3:=h3; (try simp only [cT] at p3);refine q0U ?_;refine cZ (Wt.some rfl rfl rfl h3) rfl rfl (iK rfl rfl) ?_;refine q1U ?_;refine q3Z ?_;refine di ?_;refine dv rfl rfl rfl (fun h4=>?_) (fun h4=>?_)
    ·have p4:=h4; (try simp only [cT] at p4);refine q0V ?_; (refine cN (Wt.some rfl rfl rfl h4) rfl rfl (cM rfl rfl rfl (fun w hw=>zlZ (q:=Ld.ok) P.ls _ 84 #[] w (h.ls.kept hw) (fun k hk w1 hb=>zhY _ w1) h.hls)) ?_;rintro _ _ ⟨rfl,rfl⟩);refine cL (eJ rfl rfl h4) ?_;refine di ?_;refine dv rfl rfl rfl (fun h5=>?_) (fun h5=>?_)
     ·have p5:=h5; (try simp only [cT] at p5);refine cZ (Wt.some rfl rfl rfl h5) rfl rfl (Yv.fieldAddr) ?_;refine cZ (Wt.some rfl rfl rfl h5) rfl rfl (cY 0) ?_; (refine cN (Wt.some rfl rfl rfl h5) rfl rfl (cM rfl rfl rfl (fun w hw=>zhW (c:=Ld.cmp) P.ls _ 86 w (h.ls.kept hw) (fun x y w1=>zfU x y w1) h.hls)) ?_;rintro _ _ ⟨rfl,rfl⟩);refine cL (eJ rfl rfl h5) ?_;refine di ?_;refine dv rfl rfl rfl (fun h6=>?_) (fun h6=>?_)
      ·have p6:=h6; (try simp only [cT] at p6);refine cZ (Wt.some rfl rfl rfl h6) rfl rfl (Yv.fieldAddr) ?_;refine cZ (Wt.some rfl rfl rfl h6) rfl rfl (cY 0) ?_;refine cZ (Wt.some rfl rfl rfl h6) rfl rfl (iK rfl rfl) ?_;refine cZ (Wt.some rfl rfl rfl h6) rfl rfl (d6) ?_;refine cL (eJ rfl rfl h6) ?_;refine di ?_;refine dv rfl rfl rfl (fun h7=>?_) (fun h7=>?_)
       ·have p7:=h7; (try simp only [cT] at p7);refine q4f ?_; (refine cN (Wt.some rfl rfl rfl h7) rfl rfl (cM rfl rfl rfl (fun w hw=>zlO (q:=Cp.ok) P.cs _ 87 #[] w (h.cs.kept hw) (fun k hk w1 hb=>zjC _ w1) h.hcs)) ?_;rintro _ _ ⟨rfl,rfl⟩);refine cL (eJ rfl rfl h7) ?_;refine di ?_;refine dv rfl rfl rfl (fun h8=>?_) (fun h8=>?_)
        ·have p8:=h8; (try simp only [cT] at p8);refine q4g ?_; (refine cN (Wt.some rfl rfl rfl h8) rfl rfl (cM rfl rfl rfl (fun w hw=>zis (c:=Cp.cmp) P.cs _ 89 w (h.cs.kept hw) (fun x y w1=>zgJ x y w1) h.hcs)) ?_;rintro _ _ ⟨rfl,rfl⟩);refine cL (eJ rfl rfl h8) ?_;refine fI ?_;refine cV rfl rfl (fun w' hw=>⟨?_,hw.isBelow⟩);exact q4I
        ·have p8:=h8; (try simp only [cT] at p8);refine q1o ?_;refine cL (ek rfl rfl h8) ?_;refine fI ?_;refine cV rfl rfl (fun w' hw=>⟨?_,hw.isBelow⟩);exact q4I
       ·have p7:=h7; (try simp only [cT] at p7);refine q1K ?_;refine TL.off (Wt.not rfl rfl rfl h7) rfl rfl ?_;refine cL (ek rfl rfl h7) ?_;refine TL.run 6 rfl ?_;refine gj ?_;refine cV rfl rfl (fun w' hw=>⟨?_,hw.isBelow⟩);exact q4I
      ·have p6:=h6; (try simp only [cT] at p6);refine q1b ?_;refine q1b ?_;refine cL (ek rfl rfl h6) ?_;refine TL.run 11 rfl ?_;refine gj ?_;refine cV rfl rfl (fun w' hw=>⟨?_,hw.isBelow⟩);exact q4I
     ·have p5:=h5; (try simp only [cT] at p5);refine q1L ?_;refine TL.off (Wt.not rfl rfl rfl h5) rfl rfl ?_;refine cL (ek rfl rfl h5) ?_;refine TL.run 17 rfl ?_;refine gj ?_;refine cV rfl rfl (fun w' hw=>⟨?_,hw.isBelow⟩);exact q4I
    ·have p4:=h4; (try simp only [cT] at p4);refine q0t ?_;refine cL (ek rfl rfl h4) ?_;refine TL.run 22 rfl ?_;refine gj ?_;refine cV rfl rfl (fun w' hw=>⟨?_,hw.isBelow⟩);exact q4I
   ·have p3:=h3; (try simp only [cT] at p3);refine q3q ?_;refine TL.run 27 rfl ?_;refine gj ?_;refine cV rfl rfl (fun w' hw=>⟨?_,hw.isBelow⟩);exact q4I
  ·have p2:=h2; (try simp only [cT] at p2);refine q0l ?_;refine q4y ?_;refine TL.run 33 rfl ?_;refine gj ?_;refine cV rfl rfl (fun w' hw=>⟨?_,hw.isBelow⟩);exact q4I
 ·have p1:=h1; (try simp only [cT] at p1);refine q1p ?_;refine TL.run 38 rfl ?_;refine gj ?_;refine cV rfl rfl (fun w' hw=>⟨?_,hw.isBelow⟩);exact q4I
theorem zeL (i:Int)(w:World):Calls Tryz.prog 92 #[.int .i64 i] w fun e w'=>e= .returned (.bool (inB i 0 511))∧Below w.heap.size w w':=by
 refine dA (M:=fun _=>False) (hs:=[]) Tryz.func92 rfl rfl rfl (Hp.refl _ _) ?_;refine df ?_;refine TL.run 1 rfl ?_;refine du ?_;refine TL.run 3 rfl ?_;refine dv rfl rfl rfl (fun h1=>?_) (fun h1=>?_)
 ·have p1:=h1; (try simp only [cT] at p1);refine cZ (Wt.some rfl rfl rfl h1) rfl rfl (d6 rfl) ?_;refine cZ (Wt.some rfl rfl rfl h1) rfl rfl (d6 rfl) ?_;refine cL (eJ rfl rfl h1 rfl) ?_;refine TL.run 1 rfl ?_;refine cS (T.ret ?_);refine cV rfl rfl (fun w' hw=>⟨?_,hw.isBelow⟩);refine ki ?_;simp only [inB, *,Bool.not_true,Bool.not_false,Bool.or_false,Bool.false_or,Bool.or_true,Bool.true_or,Bool.and_false,Bool.false_and,Bool.true_and,Bool.and_true,Bool.or_self,Bool.and_self,Bool.not_not,decide_true,decide_false,not_true_eq_false,not_false_eq_true,cond_true,cond_false]; (try exact decide_eq_decide.2 (by omega))
 ·have p1:=h1; (try simp only [cT] at p1);refine TL.off (Wt.not rfl rfl rfl h1) rfl rfl ?_;refine TL.off (Wt.not rfl rfl rfl h1) rfl rfl ?_;refine cL (ek rfl rfl h1 rfl) ?_;refine TL.run 1 rfl ?_;refine cS (T.ret ?_);refine cV rfl rfl (fun w' hw=>⟨?_,hw.isBelow⟩);refine ki ?_;simp only [inB, *,Bool.not_true,Bool.not_false,Bool.or_false,Bool.false_or,Bool.or_true,Bool.true_or,Bool.and_false,Bool.false_and,Bool.true_and,Bool.and_true,Bool.or_self,Bool.and_self,Bool.not_not,decide_true,decide_false,not_true_eq_false,not_false_eq_true,cond_true,cond_false]; (try exact decide_eq_decide.2 (by omega))
theorem zgf (ws:Ws)(hws:ws.length=8)(i:Int)(w:World):Calls Tryz.prog 54 #[.agg ws.cells.toArray, .int .i64 i] w fun e w'=>e= .returned (.bool (jL ws i))∧Below w.heap.size w w':=by
 refine dA (M:=fun _=>False) (hs:=[]) Tryz.func54 rfl rfl rfl (Hp.refl _ _) ?_;refine df ?_; (refine cN (Wt.none) rfl rfl (dC) ?_;rintro _ _ ⟨g2,rfl,rfl⟩);refine gn ?_;refine di ?_; (refine cN (Wt.none) rfl rfl (cM rfl rfl rfl (fun w hw=>zeL _ _)) ?_;rintro _ _ ⟨rfl,rfl⟩);refine di ?_;refine dv rfl rfl rfl (fun h1=>?_) (fun h1=>?_)
 ·have p1:=h1; (try simp only [cT] at p1); (try simp only [inB,Bool.and_eq_true,decide_eq_true_eq] at p1); (try have hld:=Ws.get (ws:=ws) (i:=i.toNat / 64) (p:=0+0+i.toNat / 64*1) a6 a6);refine jV ?_;refine cZ (Wt.some rfl rfl rfl h1) rfl rfl (lY rfl rfl rfl a6) ?_;refine cZ (Wt.some rfl rfl rfl h1) rfl rfl (Yv.fieldAddr) ?_;refine cZ (Wt.some rfl rfl rfl h1) rfl rfl (ei rfl rfl rfl (show i / 64=((i.toNat / 64:Nat):Int) from by omega) a6) ?_;refine cZ (Wt.some rfl rfl rfl h1) rfl rfl (cY 0 rfl rfl rfl hld) ?_;refine jV ?_;refine cZ (Wt.some rfl rfl rfl h1) rfl rfl (kF rfl rfl rfl a6) ?_;refine cZ (Wt.some rfl rfl rfl h1) rfl rfl (gW (i.toNat % 64) rfl rfl rfl a6 a6) ?_;refine cZ (Wt.some rfl rfl rfl h1) rfl rfl (gu (b:=1#64)) ?_;refine jV ?_;refine la ?_;refine fI ?_;refine cV rfl rfl (fun w' hw=>⟨?_,hw.isBelow⟩);exact q5n
 ·have p1:=h1; (try simp only [cT] at p1); (try simp only [inB,Bool.and_eq_true,decide_eq_true_eq] at p1); (try have hld:=Ws.get (ws:=ws) (i:=i.toNat / 64) (p:=0+0+i.toNat / 64*1) a6 a6);refine kl ?_;refine kl ?_;refine kl ?_;refine kl ?_;refine kl ?_;refine q28 ?_;refine fI ?_;refine cV rfl rfl (fun w' hw=>⟨?_,hw.isBelow⟩);exact q5n
theorem zoT (l:List Int)(v:Value)(w:World)(h:zgF w v l)(hl:l.length≤9223372036854775807)(hr:∀x∈l,0≤x∧x≤511):Calls Tryz.prog 91 #[v] w fun e w'=>e= .returned (.tuple #[.agg (Ws.cells (mj l)).toArray, .int .i64 0])∧Below w.heap.size w w':=by
 obtain ⟨A,cap,rfl,hsl⟩:=h.op;refine dA (M:=fun _=>False) (hs:=[]) Tryz.func91 rfl rfl rfl (Hp.refl _ _) ?_;refine df ?_; (refine cN (Wt.none) rfl rfl (Ew.alloc) ?_;rintro _ _ ⟨g2,rfl,rfl⟩);refine gn ?_; (refine cN (Wt.none) rfl rfl (Ew.alloc) ?_;rintro _ _ ⟨g4,rfl,rfl⟩);refine i7 ?_;refine di ?_;refine jG ?_;refine T.loop (ι:=Nat) (fun k=>[(2, .pointer (some ⟨g2,0,none⟩)),(4, .pointer (some ⟨g4,0,none⟩)),(7, .slice A l.length cap),(8, .int .i64 (l.length:Int)),(9, .int .i64 (k:Int))]) (fun k=>[.row g4 101 (Ws.cells (mj (l.take k))), .row g2 101 (Ws.cells fB)]) (fun k=>k≤l.length) (fun k=>l.length - k) 0 ?_ ?_ ?_ ?_
 ·omega
 ·exact (by repeat (first|exact Sub.nil|refine Sub.cons rfl ?_))
 ·exact Sx
 ·intro k hphi;have hlen:=lk (l.take k); (have hsl8:(Ws.cells (mj (l.take k))).length=8:=by rw [List.length_map,hlen]);refine fA ?_;refine T.cond rfl (fun h1=>?_) (fun h1=>?_)
  ·have p1:=h1; (try simp only [cT] at p1);obtain ⟨g,off,rfl,hc⟩:=hsl a6;have hk:=hc k a6;simp only [Ie] at hk;have hr1:=hr _ (i4 (xs:=l) (k:=k) a6);have hld:=Ws.get (ws:=mj (l.take k)) (i:=(cI l k).toNat / 64) (p:=0+0+(cI l k).toNat / 64*1) a6 a6;refine fS ?_;refine q1S ?_;refine kA ?_;refine di ?_; (refine cN (Wt.none) rfl rfl (cM rfl rfl rfl (fun w hw=>zeL _ _)) ?_;rintro _ _ ⟨rfl,rfl⟩);refine dM ?_;refine iy rfl (by rw [inB,decide_eq_true hr1.1,decide_eq_true hr1.2];rfl) ?_;refine T.skip (K.seq ?_);refine dF (sN 0 4 (sN 5 3 (.still 9 (.eff 4 (.still 8 (.still 10 (.eff 11 .done))))))) [.row g2 101 (Ws.cells fB)] a8 Sx ?_;refine eY ?_;refine cO rfl (lY rfl rfl rfl a6) ?_;refine gg ?_;refine cO rfl (ei rfl rfl rfl (show (cI l k) / 64=(((cI l k).toNat / 64:Nat):Int) from by omega) a6) ?_;refine eY ?_;refine cO rfl (kF rfl rfl rfl a6) ?_;refine cO rfl (iH (a:=1#64) ((cI l k).toNat % 64) rfl rfl rfl a6 a6) ?_;refine lM ?_;refine eE rfl (Wt.none) rfl rfl (cY 0 rfl rfl rfl hld) Sx ?_;refine cO rfl (jw) ?_;refine cO rfl (ei rfl rfl rfl (show (cI l k) / 64=(((cI l k).toNat / 64:Nat):Int) from by omega) a6) ?_;refine dw ?_; (refine dJ rfl (Wt.none) rfl (iV 0 (Ws.cells (dY (mj (l.take k)) (cI l k).toNat)) rfl rfl rfl rfl (by rw [List.length_map,hlen];omega) (Ws.put a6)) ?_;rintro _ _ ⟨rfl,rfl⟩;refine ⟨Sx,?_⟩);refine q2c ?_;exact K.next (k+1) a6 a6 (by repeat (first|exact Sub.nil|refine Sub.cons rfl ?_)) (by rw [zkn a6];exact Sx)
  ·have p1:=h1; (try simp only [cT] at p1);refine mC ?_;refine cL (gA 0 rfl rfl rfl hsl8) ?_; (refine dO (Wt.none) rfl (dH 1 rfl rfl rfl rfl (by rw [List.length_map,lk]) (by rw [List.length_map,lk];rfl)) ?_;rintro _ _ ⟨rfl,rfl⟩);refine fI ?_;exact jO 1 rfl rfl rfl rfl (by rw [List.length_map,lk]) (fun w' hw=>⟨by rw [List.take_of_length_le a6],hw.isBelow⟩)
end Go.Proofs.YtgoeeefoinkepaaGreatDoor
