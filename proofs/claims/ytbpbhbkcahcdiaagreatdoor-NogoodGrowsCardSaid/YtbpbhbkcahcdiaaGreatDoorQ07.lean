/- Cc M8 Pf Cd Ce Sa Sb Yb: shortened and put together by squeeze.py. -/
import Derived.Test.YtbpbhbkcahcdiaaGreatDoorQ06
set_option maxRecDepth 100000
set_option maxHeartbeats 4000000
set_option linter.unusedVariables false
set_option linter.unusedSectionVars false
set_option linter.unusedSimpArgs false
namespace Go.Proofs.YtbpbhbkcahcdiaaGreatDoor
open Go.RowKit
def zaZ (fuel:Nat)(p:GProblem)(d:List GDomain):Option (List GDomain×Bool):=
 zaw (fun (d_1:List GDomain)=>
  zaw (fun (_:Unit)=>
   some (d_1,true))
  (fun k20=>
   zal (fun (i_22:Nat) (next21:Unit→Option (List GDomain×Bool)) (_:Unit)=>
    (bif decide ((((nth d_1 i_22).Channels).length:Int)=0) then
     some ([],false)
     else
     next21 ()))
   (fun (_:Unit)=>
    k20 ()) (d_1.length - 0) 0 ()))
 (fun k2=>
  zbD (fun (next5:(List GDomain×Bool)→Option (List GDomain×Bool)) (s5:List GDomain×Bool)=>
   (bif s5.2 then
    zbD (fun (next11:(List GDomain×Bool×Int)→Option (List GDomain×Bool)) (s11:List GDomain×Bool×Int)=>
     (bif decide (s11.2.2<(s11.1.length:Int)) then
      grd (0≤s11.2.2∧s11.2.2<(s11.1.length:Int)) <|
      zeW (fun (k_17:Nat) (next16:(List GDomain×Bool)→Option (List GDomain×Bool)) (s16:List GDomain×Bool)=>
       grd (0≤s11.2.2∧s11.2.2<(s16.1.length:Int)) <|
       grd (0≤(k_17:Int)∧(k_17:Int)<(((nth s16.1 s11.2.2.toNat).Channels).length:Int)) <|
       (bif (zcz p s16.1 ((nth s16.1 s11.2.2.toNat).Station) (nth ((nth s16.1 s11.2.2.toNat).Channels) k_17)) then
        (zbF s16.1 ((nth s16.1 s11.2.2.toNat).Station) (nth ((nth s16.1 s11.2.2.toNat).Channels) k_17)).bind fun r51=>
        next16 (r51,true)
        else
        next16 (s16.1,s16.2)))
      (fun (s16:List GDomain×Bool)=>
       next11 (s16.1,s16.2,(s11.2.2+1))) (((nth s11.1 s11.2.2.toNat).Channels).length) (s11.1,s11.2.1)
      else
      next5 (s11.1,s11.2.1))) fuel (s5.1,false,0)
    else
    k2 s5.1)) fuel (d,true))
theorem zak {α:Type}[Inhabited α]{xs:List α}{k:Nat}(h:k<xs.length):nth xs k∈xs:=by rw [zap h];exact List.getElem_mem _
theorem zaQ {α:Type}[Inhabited α]{xs:List α}{x:α}(h:x∈xs):∃k,k<xs.length∧nth xs k=x:=by
 obtain ⟨k,hk,rfl⟩:=List.mem_iff_getElem.1 h;exact ⟨k,hk,zap hk⟩
theorem zaL {α β:Type}[Inhabited α][Inhabited β]{f:α→β}{xs:List α}{i:Nat}(h:i<xs.length):nth (xs.map f) i=f (nth xs i):=zaY h
theorem zc8 {α:Type}[Inhabited α]{a b:List α}(hl:a.length=b.length)(h:∀i,i<a.length→nth a i=nth b i):a=b:=by
 apply List.ext_getElem hl;intro i h1 h2;have:=h i h1
 rwa [zap h1,zap h2] at this
def SubD (a b:List GDomain):Prop:=a.length=b.length∧∀i,i<b.length→(nth a i).Station=(nth b i).Station∧∀c∈(nth a i).Channels,c∈(nth b i).Channels
theorem SubD.refl (a:List GDomain):SubD a a:=⟨rfl,fun _ _=>⟨rfl,fun _ h=>h⟩⟩
theorem SubD.trans {a b c:List GDomain}(h:SubD a b)(k:SubD b c):SubD a c:=⟨h.1.trans k.1,fun i hi=>⟨((h.2 i (by rw [k.1];exact hi)).1).trans (k.2 i hi).1,fun x hx=>(k.2 i hi).2 x ((h.2 i (by rw [k.1];exact hi)).2 x hx)⟩⟩
def WtP (p:GProblem):Prop:=p.Rules.Loads.length≤1024∧∀x∈p.Rules.Loads,0≤x.Weight∧x.Weight≤1073741824
section
variable {p:GProblem}{a b d:List GDomain}
theorem onlyP_iff {s c:Int}:zcB d s c=true↔∀x∈d,x.Station=s→∀k∈x.Channels,k=c:=by
 unfold zcB;simp only [List.all_eq_true,Bool.or_eq_true,decide_eq_true_eq];constructor
 ·intro h x hx hs k hk;rcases h x hx with h1|h1
  ·exact absurd hs h1
  ·exact h1 k hk
 ·intro h x hx;by_cases hs:x.Station=s
  ·exact .inr (h x hx hs)
  ·exact .inl hs
theorem zcy (h:SubD a b){s c:Int}(ho:zcB b s c=true):zcB a s c=true:=by
 rw [onlyP_iff] at ho ⊢;intro x hx hs k hk;obtain ⟨i,hi,rfl⟩:=zaQ hx;have h2:=h.2 i (by rw [←h.1];exact hi);exact ho (nth b i) (zak (by rw [←h.1];exact hi)) (by rw [←h2.1];exact hs) k (h2.2 k hk)
theorem zeM {t c f : Int} (h : SubD a b) : ∀ (l : List GLoad), (∀ x ∈ l, 0 ≤ x.Weight ∧ x.Weight ≤ 1073741824) → ∀ n n' : Int, 0 ≤ n → n ≤ n' → n' + 1073741824 * (l.length : Int) ≤ 4611686018427387904 →
    l.foldl (fun n x => bif loadC b t c f x then wI (n + x.Weight) else n) n ≤ l.foldl (fun n x => bif loadC a t c f x then wI (n + x.Weight) else n) n'
  | [], _, n, n', _, hn, _ => hn
  | x :: r, hw, n, n', h0, hn, hb => by
    have h1 := hw x (by simp); simp only [List.length_cons] at hb; rw [List.foldl_cons, List.foldl_cons]; have e1 : wI (n + x.Weight) = n + x.Weight := ziZ (by omega); have e2 : wI (n' + x.Weight) = n' + x.Weight := ziZ (by omega); rw [e1, e2]
    have hc : loadC b t c f x = true → loadC a t c f x = true := by
      unfold loadC; simp only [Bool.and_eq_true, Bool.or_eq_true]; rintro ⟨h3, h4⟩; exact ⟨h3, h4.imp id (zcy h)⟩
    refine zeM h r (fun y hy => hw y (by simp [hy])) _ _ ?_ ?_ ?_
    · cases loadC b t c f x <;> simp <;> omega
    · cases hb' : loadC b t c f x
      · cases loadC a t c f x <;> simp <;> omega
      · rw [hc hb']; simp; omega
    · cases loadC a t c f x <;> simp <;> omega
theorem zhk (hp:WtP p)(h:SubD a b){t c f:Int}:sumP p b t c f≤sumP p a t c f:=by
 unfold sumP;have:=hp.1;exact zeM h _ hp.2 0 0 (by omega) (by omega) (by omega)
theorem zfF {s c l l':Int}(hl:l≤l')(h:zeP p s c l=true):zeP p s c l'=true:=by
 unfold zeP at h ⊢;rw [List.any_eq_true] at h ⊢;obtain ⟨x,hx,h⟩:=h;refine ⟨x,hx,?_⟩;simp only [Bool.and_eq_true,decide_eq_true_eq] at h ⊢;exact ⟨h.1,by omega⟩
theorem zfj (hp:WtP p)(h:SubD a b){s c:Int}(hr:remP p b s c=true):remP p a s c=true:=by
 unfold remP at hr ⊢;simp only [Bool.or_eq_true,List.any_eq_true] at hr ⊢;rcases hr with (⟨x,hx,hr⟩|hr)|⟨x,hx,hr⟩
 ·refine .inl (.inl ⟨x,hx,?_⟩);unfold zfY at hr ⊢;simp only [Bool.or_eq_true,Bool.and_eq_true] at hr ⊢;exact hr.imp (fun q=>⟨q.1,zcy h q.2⟩) (fun q=>⟨q.1,zcy h q.2⟩)
 ·exact .inl (.inr (zfF (zhk hp h) hr))
 ·refine .inr ⟨x,hx,?_⟩;unfold loadR at hr ⊢;simp only [Bool.and_eq_true] at hr ⊢;exact ⟨⟨hr.1.1,zcy h hr.1.2⟩,zfF (zhk hp h) hr.2⟩
structure ClosedD (p:GProblem) (d:List GDomain):Prop where
 ne:∀x∈d,x.Channels≠[]
 calm:∀x∈d,∀c∈x.Channels,remP p d x.Station c=false
def OrdD (a b:List GDomain):Prop:=∀i,i<b.length→(nth a i).Channels.Sublist (nth b i).Channels
def PropD (p:GProblem)(d:List GDomain)(r:List GDomain×Bool):Prop:=
 (r.2=true∧ClosedD p r.1∧(SubD r.1 d∧OrdD r.1 d)∧∀S,ClosedD p S→SubD S d→SubD S r.1)∨(r=([],false)∧∀S,ClosedD p S→¬SubD S d)
def zkN (R:List GDomain→Int→Int→Bool)(d:List GDomain):Prop:=∀x∈d,∀c∈x.Channels,R d x.Station c=false
def MonoR (R:List GDomain→Int→Int→Bool):Prop:=∀a b s c,SubD a b→R b s c=true→R a s c=true
theorem ziC {R:List GDomain→Int→Int→Bool}(hp:MonoR R){S:List GDomain}(hS:zkN R S)(h:SubD S d){s c:Int}(hr:R d s c=true):SubD S (d.map (zcq s c)):=by
 refine ⟨by rw [h.1,List.length_map],fun i hi=>?_⟩;rw [List.length_map] at hi;rw [zaL hi];have h2:=h.2 i hi;refine ⟨h2.1,fun k hk=>?_⟩;unfold zcq;rw [List.mem_filter];refine ⟨h2.2 k hk,?_⟩;simp only [Bool.or_eq_true,decide_eq_true_eq];by_cases hs:(nth d i).Station=s
 ·refine .inr fun hkc=>?_;subst hkc;have hm:=zak (show i<S.length by rw [h.1];exact hi);have:=hS _ hm k hk;rw [h2.1,hs,hp _ _ _ _ h hr] at this
  cases this
 ·exact .inl hs
theorem drop_sub {s c:Int}:SubD (d.map (zcq s c)) d:=by
 refine ⟨List.length_map _,fun i hi=>?_⟩;rw [zaL hi];exact ⟨rfl,fun k hk=>(List.mem_filter.1 hk).1⟩
def totG (d:List GDomain):Nat:=(d.map fun x=>x.Channels.length).sum
theorem zjl:∀(d:List GDomain) (f:GDomain→GDomain),(∀x∈d,(f x).Channels.length≤x.Channels.length)→totG (d.map f)≤totG d
 | [],_,_=>Nat.le_refl _
 |x :: r,f,h=>by
  have:=zjl r f (fun y hy=>h y (by simp [hy]));have h1:=h x (by simp);simp only [totG,List.map_cons,List.sum_cons] at this ⊢;omega
theorem zjc:∀(d:List GDomain) (f:GDomain→GDomain),(∀x∈d,(f x).Channels.length≤x.Channels.length)→(∃x∈d,(f x).Channels.length<x.Channels.length)→totG (d.map f)<totG d
 |x :: r,f,h,he=>by
  have h1:=h x (by simp);obtain ⟨y,hy,hlt⟩:=he;rcases List.mem_cons.1 hy with rfl|hy
  ·have:=zjl r f (fun z hz=>h z (by simp [hz]));simp only [totG,List.map_cons,List.sum_cons] at this ⊢;omega
  ·have:=zjc r f (fun z hz=>h z (by simp [hz])) ⟨y,hy,hlt⟩;simp only [totG,List.map_cons,List.sum_cons] at this ⊢;omega
theorem zfM {α:Type}{q:α→Bool}:∀ {l:List α} {x:α},x∈l→q x=false→(l.filter q).length<l.length
 |y :: r,x,hx,hq=>by
  rcases List.mem_cons.1 hx with rfl|hx
  ·rw [List.filter_cons,hq];have:=List.length_filter_le q r;simp;omega
  ·have:=zfM hx hq;rw [List.filter_cons];split <;> simp only [List.length_cons] <;> omega
theorem zjU {s c:Int}{i:Nat}(hi:i<d.length)(hs:(nth d i).Station=s)(hc:c∈(nth d i).Channels):totG (d.map (zcq s c))<totG d:=
 zjc d _ (fun x _=>List.length_filter_le _ _) ⟨nth d i,zak hi,zfM hc (by simp [hs])⟩
structure Bd (d:List GDomain):Prop where
 len:d.length≤100000
 ch:∀x∈d,x.Channels.length≤100000∧x.Channels.Nodup
theorem Bd.drop (h:Bd d){s c:Int}:Bd (d.map (zcq s c)):=by
 refine ⟨by rw [List.length_map];exact h.len,fun x hx=>?_⟩;obtain ⟨y,hy,rfl⟩:=List.mem_map.1 hx;exact ⟨Nat.le_trans (List.length_filter_le _ _) (h.ch y hy).1,(h.ch y hy).2.filter _⟩
theorem ziB {s c:Int}{i k:Nat}(hb:Bd d)(hi:i<d.length)(hk:k<(nth d i).Channels.length)(hc:nth (nth d i).Channels k=c):k≤(nth (d.map (zcq s c)) i).Channels.length:=by
 rw [zaL hi];unfold zcq;have hn:=(hb.ch _ (zak hi)).2;have e:(nth d i).Channels=(nth d i).Channels.take k++(nth d i).Channels.drop k:=(List.take_append_drop k _).symm
 have hf:((nth d i).Channels.take k).filter (fun q=>decide (¬(nth d i).Station=s)||decide (¬q=c))=(nth d i).Channels.take k:=by
  rw [List.filter_eq_self];intro q hq;simp only [Bool.or_eq_true,decide_eq_true_eq];refine .inr fun hqc=>?_;obtain ⟨j,hj,rfl⟩:=List.mem_iff_getElem.1 hq;simp only [List.length_take] at hj;rw [List.getElem_take] at hqc;rw [zap hk] at hc;have:=(List.getElem_inj (h₀:=by omega) (h₁:=hk) hn).1 (hqc.trans hc.symm);omega
 show k≤((nth d i).Channels.filter _).length
 rw [e,List.filter_append,hf,List.length_append,List.length_take];omega
structure InvR (R:List GDomain→Int→Int→Bool) (d0 d:List GDomain):Prop where
 bd:Bd d
 sub:SubD d d0
 ord:OrdD d d0
 sup:∀S,zkN R S→SubD S d0→SubD S d
theorem InvR.step {R:List GDomain→Int→Int→Bool}{d0:List GDomain}(hp:MonoR R)(h:InvR R d0 d){s c:Int}(hr:R d s c=true):InvR R d0 (d.map (zcq s c)):=
 ⟨h.bd.drop,drop_sub.trans h.sub,fun i hi=>by
  rw [zaL (by rw [h.sub.1];exact hi)]
  exact (List.filter_sublist).trans (h.ord i hi),fun S hS hs=>ziC hp hS (h.sup S hS hs) hr⟩
theorem zlC {R : List GDomain → Int → Int → Bool} {ρ : Type} {fuel : Nat} {d0 : List GDomain} {k2 : List GDomain → Option ρ} (post : Option ρ → Prop) (hp : MonoR R) (hb : Bd d0) (hf1 : d0.length < fuel) (hf2 : totG d0 + 1 < fuel) (hend : ∀ d, InvR R d0 d → zkN R d → post (k2 d)) :
    post (zbD (fun (next5 : (List GDomain × Bool) → Option ρ) (s5 : List GDomain × Bool) =>
      (bif s5.2 then
        zbD (fun (next11 : (List GDomain × Bool × Int) → Option ρ) (s11 : List GDomain × Bool × Int) =>
          (bif decide (s11.2.2 < (s11.1.length : Int)) then
            grd (0 ≤ s11.2.2 ∧ s11.2.2 < (s11.1.length : Int)) <|
            zeW (fun (k_17 : Nat) (next16 : (List GDomain × Bool) → Option ρ) (s16 : List GDomain × Bool) =>
              grd (0 ≤ s11.2.2 ∧ s11.2.2 < (s16.1.length : Int)) <|
              grd (0 ≤ (k_17 : Int) ∧ (k_17 : Int) < (((nth s16.1 s11.2.2.toNat).Channels).length : Int)) <|
              (bif (R s16.1 ((nth s16.1 s11.2.2.toNat).Station) (nth ((nth s16.1 s11.2.2.toNat).Channels) k_17)) then
                (zbF s16.1 ((nth s16.1 s11.2.2.toNat).Station) (nth ((nth s16.1 s11.2.2.toNat).Channels) k_17)).bind fun r51 =>
                next16 (r51, true)
                else
                next16 (s16.1, s16.2)))
            (fun (s16 : List GDomain × Bool) =>
              next11 (s16.1, s16.2, (s11.2.2 + 1))) (((nth s11.1 s11.2.2.toNat).Channels).length) (s11.1, s11.2.1)
            else
            next5 (s11.1, s11.2.1))) fuel (s5.1, false, 0)
        else
        k2 s5.1)) fuel (d0, true)) := by
  refine zca (σ := List GDomain × Bool) (I := fun s => InvR R d0 s.1 ∧ (s.2 = false → zkN R s.1)) (μ := fun s => totG s.1 + (bif s.2 then 1 else 0)) (post := post) ⟨⟨hb, .refl _, fun _ _ => List.Sublist.refl _, fun S _ h => h⟩, fun h => by cases h⟩ hf2 ?_; rintro ⟨d, again⟩ next ⟨hI, hA⟩ hn; dsimp only at hI hA hn ⊢
  cases again with
  | false =>
    rw [cond_false]; exact hend d hI (hA rfl)
  | true =>
    rw [cond_true]
    -- one sweep over the stations
    refine zca (σ := List GDomain × Bool × Int) (I := fun s => InvR R d0 s.1 ∧ 0 ≤ s.2.2 ∧ s.2.2 ≤ s.1.length ∧ s.1.length = d.length ∧ (s.2.1 = false → s.1 = d ∧ ∀ j : Nat, (j : Int) < s.2.2 → ∀ c ∈ (nth d j).Channels, R d (nth d j).Station c = false) ∧ (s.2.1 = true → totG s.1 < totG d)) (μ := fun s => (s.1.length - s.2.2).toNat) (post := post) ⟨hI, by simp, by simp, rfl, fun _ => ⟨rfl, fun j hj => absurd hj (by simp)⟩, fun h => by cases h⟩ (by simp only [Int.sub_zero, Int.toNat_natCast]; rw [hI.sub.1]; exact hf1) ?_; rintro ⟨d1, ag, i⟩ next1 ⟨hI1, h0, h1, hl, hF, hT⟩ hn1; dsimp only at hI1 h0 h1 hl hF hT hn1 ⊢; by_cases hi : i < (d1.length : Int)
    · rw [decide_eq_true hi, cond_true, zaO ⟨h0, hi⟩]; (have hin : i.toNat < d1.length := by omega); refine zhi (σ := List GDomain × Bool) (I := fun m s => InvR R d0 s.1 ∧ s.1.length = d.length ∧ m ≤ (nth s.1 i.toNat).Channels.length ∧ (s.2 = false → s.1 = d ∧ (∀ j : Nat, (j : Int) < i → ∀ c ∈ (nth d j).Channels, R d (nth d j).Station c = false) ∧ ∀ k, m ≤ k → k < (nth d i.toNat).Channels.length → R d (nth d i.toNat).Station (nth (nth d i.toNat).Channels k) = false) ∧ (s.2 = true → totG s.1 < totG d)) (post := post) ?_ ?_ ?_
      · dsimp only; refine ⟨hI1, hl, Nat.le_refl _, fun h => ?_, hT⟩; obtain ⟨h2, h3⟩ := hF h; subst h2; exact ⟨rfl, h3, fun k h4 h5 => absurd h5 (by omega)⟩
      · rintro ⟨d2, ag2⟩ ⟨g1, g2, _, g4, g5⟩; dsimp only at g1 g2 g4 g5 ⊢; refine hn1 _ ⟨g1, by dsimp only; omega, by dsimp only; omega, g2, fun h => ?_, g5⟩ (by dsimp only; omega); dsimp only at h; obtain ⟨h2, h3, h4⟩ := g4 h; refine ⟨h2, fun j hj c hc => ?_⟩; dsimp only at hj; by_cases hji : (j : Int) < i
        · exact h3 j hji c hc
        · (obtain rfl : j = i.toNat := by omega); obtain ⟨k, hk, rfl⟩ := zaQ hc; exact h4 k (Nat.zero_le _) hk
      · rintro k ⟨d2, ag2⟩ nx hk ⟨g1, g2, g3, g4, g5⟩ hnx; dsimp only at g1 g2 g3 g4 g5 hnx ⊢; (have hid : i.toNat < d2.length := by omega); rw [zaO ⟨h0, by omega⟩, zaO ⟨by omega, by omega⟩]
        cases hr : R d2 (nth d2 i.toNat).Station (nth (nth d2 i.toNat).Channels k) with
        | true =>
          rw [cond_true, zjH g1.bd.len (fun x hx => (g1.bd.ch x hx).1), Option.bind_some]; refine hnx _ ⟨g1.step hp hr, by dsimp only; rw [List.length_map]; exact g2, ziB g1.bd hid (by omega) rfl, (fun h => by cases h), fun _ => ?_⟩; dsimp only; have h6 := zjU hid rfl (zak (show k < (nth d2 i.toNat).Channels.length by omega))
          cases ag2 with
          | true => have := g5 rfl; omega
          | false => obtain ⟨h7, _⟩ := g4 rfl; subst h7; exact h6
        | false =>
          rw [cond_false]; refine hnx _ ⟨g1, g2, by dsimp only; omega, fun h => ?_, g5⟩; dsimp only at h ⊢; obtain ⟨h7, h8, h9⟩ := g4 h; refine ⟨h7, h8, fun q h10 h11 => ?_⟩; rcases Nat.lt_or_ge k q with h12 | h12
          · exact h9 q h12 h11
          · (obtain rfl : q = k := by omega); subst h7; exact hr
    · rw [decide_eq_false hi, cond_false]; (have hil : i = d1.length := by omega); refine hn (d1, ag) ⟨hI1, fun h => ?_⟩ ?_
      · dsimp only at h ⊢; obtain ⟨h2, h3⟩ := hF h; subst h2; intro x hx c hc; obtain ⟨j, hj, rfl⟩ := zaQ hx; exact h3 j (by omega) c hc
      · dsimp only
        cases ag with
        | true => have := hT rfl; simp only [cond_true]; omega
        | false => obtain ⟨h2, _⟩ := hF rfl; subst h2; simp only [cond_true, cond_false]; omega
theorem MonoR.rem (hp:WtP p):MonoR (remP p):=fun _ _ _ _ h hr=>zfj hp h hr
theorem zdR {fuel : Nat} {d0 : List GDomain} (hp : WtP p) (hb : Bd d0) (hf1 : d0.length < fuel) (hf2 : totG d0 + 1 < fuel) : ∃ r, zaZ fuel p d0 = some r ∧ PropD p d0 r := by
  unfold zaZ; simp only [zaw, Nat.sub_zero, zjB]; refine zlC (R := remP p) (k2 := fun d => zal (fun (i : Nat) (next : Unit → Option (List GDomain × Bool)) (_ : Unit) => bif decide ((((nth d i).Channels).length : Int) = 0) then some ([], false) else next ()) (fun (_ : Unit) => some (d, true)) d.length 0 ()) (fun o => ∃ r, o = some r ∧ PropD p d0 r) (.rem hp) hb hf1 hf2 fun d hI hA => ?_
  -- the end: is a domain empty?
  refine za5 (σ := Unit) (I := fun i _ => ∀ j, j < i → (nth d j).Channels ≠ []) (post := fun o => ∃ r, o = some r ∧ PropD p d0 r) (fun j hj => absurd hj (Nat.not_lt_zero j)) ?_ ?_
  · intro _ h; refine ⟨_, rfl, .inl ⟨rfl, ⟨fun x hx => ?_, hA⟩, ⟨hI.sub, hI.ord⟩, fun S hS => hI.sup S hS.calm⟩⟩; obtain ⟨i, hi, rfl⟩ := zaQ hx; exact h i hi
  · intro i _ nx hi h hnx; by_cases he : (nth d i).Channels = []
    · rw [he]; refine ⟨_, rfl, .inr ⟨rfl, fun S hS hs => ?_⟩⟩; have h2 := hI.sup S hS.calm hs; have h3 := (h2.2 i hi).2; rw [he] at h3; have hm := zak (show i < S.length by rw [h2.1]; exact hi); apply hS.ne _ hm
      cases hc : (nth S i).Channels with
      | nil => rfl
      | cons c r => exact absurd (h3 c (by rw [hc]; simp)) (by simp)
    · have : ¬ ((nth d i).Channels.length : Int) = 0 := fun h0 => he (List.eq_nil_of_length_eq_zero (by omega)); rw [decide_eq_false this, cond_false]; refine hnx () (fun j hj => ?_); rcases Nat.lt_or_ge j i with h1 | h1
      · exact h j h1
      · rw [show j = i by omega]; exact he
end
theorem zl2 (ds:List Dx):∀k j,0≤ixAt ds k j∧ixAt ds k j≤(k:Int)
 |0,j=>by simp [ixAt]
 |k+1,j=>by
  have:=zl2 ds k j
  show 0≤(if j=(nth ds k).st.toNat then (k:Int)+1 else ixAt ds k j)∧(if j=(nth ds k).st.toNat then (k:Int)+1 else ixAt ds k j)≤((k+1:Nat):Int)
  split <;> omega
theorem TbOf.n {P:Pb}{Y:Tb}(h:TbOf P Y):Y.n=P.ds.length:=by unfold Tb.n;rw [h.st];simp
theorem TbOf.ixn {P:Pb}{Y:Tb}(h:TbOf P Y):∀j,0≤Y.ix j∧Y.ix j≤Y.n:=fun j=>by rw [h.ix,h.n];exact zl2 _ _ _
theorem NewIs.is {P:Pb}{Y:Tb}{L:Ws}{c:Bool}{tp:Nat}{w0:World}(hG:P.Good)(h:NewIs P Y L c tp w0):Is Y P.left L c:=Is.of (h.tb.ok hG) (by rw [h.tb.n];simp [Pb.left]) h.post
theorem zju {Y:Tb}{T L L':Ws}{c:Bool}{i:Nat}{g:BitVec 64}(hok:Y.Ok)(hi:i<Y.n)(h:Is Y T L false)(k:SPost Y (cutL L i g) L' c):Is Y (cutL T i g) L' c:=
 h.cut hok hi (Is.of hok (by unfold cutL;rw [List.length_set,h.len]) k)
structure Ac where
 kind:Int
 ch:Ch
deriving DecidableEq,Inhabited
def Ac.cells (a:Ac):List Value:=[.int .i64 a.kind, .int .i64 a.ch.st, .int .i64 a.ch.ch]
def Ac.bits (a:Ac):BitVec 64:=if a.kind=0 then ~~~(1#64 <<< a.ch.ch.toNat) else 1#64 <<< a.ch.ch.toNat
def actT (Y:Tb)(T:Ws)(a:Ac):Ws:=if (zaU Y false a.ch).2=0 then cutL T (zaU Y false a.ch).1.toNat a.bits else T
structure Fin (Y:Tb) (T L:Ws) (c:Bool):Prop where
 tlen:T.length=Y.n
 len:L.length=Y.n
 good:c=false→Is Y T L false
 bad:c=true→∀S,Closed Y S→¬Le' S T
section
variable {Y:Tb}{T L L':Ws}{c c':Bool}
theorem Is.fin (h:Is Y T L c):Fin Y T L c where
 tlen:=h.tlen
 len:=h.len
 good hc:=hc▸h
 bad hc S hS hle:=by
  obtain ⟨i,hi,h0⟩:=h.bad hc;apply hS.ne i hi;apply BitVec.eq_of_getLsbD_eq;intro j _
  cases hh:(nth S i).getLsbD j with
  |false=>rw [BitVec.getLsbD_zero]
  |true=>have:=h.best S hS hle i j hh;rw [h0,BitVec.getLsbD_zero] at this;cases this
theorem zi3 {i:Nat}{g:BitVec 64}:Le' (cutL T i g) T:=fun a j hj=>by
 unfold cutL at hj;by_cases hi:i<T.length
 ·rw [zbO hi] at hj
  split at hj
  ·rename_i e;subst e;rw [BitVec.getLsbD_and,Bool.and_eq_true] at hj;exact hj.1
  ·exact hj
 ·rw [List.set_eq_of_length_le (by omega)] at hj;exact hj
theorem zlH {a:Ac}:Le' (actT Y T a) T:=by
 unfold actT;split
 ·exact zi3
 ·exact fun _ _ h=>h
theorem zkn {a:Ac}:(actT Y T a).length=T.length:=by
 unfold actT cutL;split <;> simp
theorem Fin.skip {a:Ac}(h:Fin Y T L true):Fin Y (actT Y T a) L true:=
 ⟨by rw [zkn,h.tlen],h.len,(fun hh=>by cases hh),fun _ S hS hle=>h.bad rfl S hS (fun i j hj=>zlH i j (hle i j hj))⟩
theorem Fin.step {a:Ac}(hok:Y.Ok)(hix:∀j,0≤Y.ix j∧Y.ix j≤Y.n)(h:Fin Y T L false)(he:(zaU Y false a.ch).2=0)(hp:SPost Y (cutL L (zaU Y false a.ch).1.toNat a.bits) L' c'):Fin Y (actT Y T a) L' c':=by
 unfold actT;rw [if_pos he];have:=zcF hix he;exact (zju hok (by omega) (h.good rfl) hp).fin
theorem Fin.same (h:Fin Y T L c)(h':Fin Y T L' c'):c=c'∧(c=false→L=L'):=by
 have hc:c=c':=by
  cases c with
  |true=>
   cases c' with
   |true=>rfl
   |false=>exact absurd (h'.good rfl).sub (h.bad rfl L' ((h'.good rfl).good rfl))
  |false=>
   cases c' with
   |false=>rfl
   |true=>exact absurd (h.good rfl).sub (h'.bad rfl L ((h.good rfl).good rfl))
 subst hc;refine ⟨rfl,fun hf=>?_⟩;have a:=h.good hf;have b:=h'.good hf;exact Le'.antisymm (b.best L (a.good rfl) a.sub) (a.best L' (b.good rfl) b.sub) (by rw [h.len,h'.len])
end
def Pr.er (x:Pr):GPair:=⟨x.a,x.b,x.off,x.lo,x.hi⟩
def Ld.er (x:Ld):GLoad:=⟨x.to,x.fr,x.wt,x.lo,x.hi⟩
def Cp.er (x:Cp):GCap:=⟨x.st,x.mx,x.lo,x.hi⟩
def Dx.er (x:Dx):GDomain:=⟨x.st,x.chs⟩
def Pb.er (P:Pb):GProblem:=⟨P.ds.map Dx.er,⟨P.ps.map Pr.er,P.ls.map Ld.er,P.cs.map Cp.er⟩⟩
def gd (Y:Tb)(L:Ws):List GDomain:=(List.range Y.n).map fun i=>⟨nth Y.st i,(chansN (nth L i)).map fun j:Nat=>(j:Int)⟩
theorem zbg {Y:Tb}{L:Ws}:(gd Y L).length=Y.n:=by simp [gd]
theorem zbA {Y:Tb}{L:Ws}{i:Nat}(h:i<Y.n):nth (gd Y L) i=⟨nth Y.st i,(chansN (nth L i)).map fun j:Nat=>(j:Int)⟩:=by
 rw [zap (by rw [zbg];exact h)];simp [gd]
theorem zf1 {b:BitVec 64}(hb:b≠0#64){c:Int}(hc:c≠0):(∀j∈chansN b,(j:Int)=c)↔((zcf b:Nat):Int)=c:=by
 have hz:=(zdg hb 0).1;constructor
 ·intro h;have h1:=h (ctz b) (chansN_mem.2 hz)
  have h2:b &&& (b - 1#64)=0#64:=by
   apply BitVec.eq_of_getLsbD_eq;intro j _;rw [zeD hb,BitVec.getLsbD_zero]
   cases hj:b.getLsbD j with
   |false=>rfl
   |true=>have:=h j (chansN_mem.2 hj);simp;omega
  unfold zcf;rw [if_pos ⟨hb,h2⟩];exact h1
 ·intro h j hj;unfold zcf at h
  split at h
  ·rename_i h2;have h3:=congrArg (fun v=>BitVec.getLsbD v j) h2.2;simp only [zeD hb,BitVec.getLsbD_zero,chansN_mem.1 hj,Bool.true_and,Bool.not_eq_false',decide_eq_true_eq] at h3;rw [h3];exact h
  ·exact absurd h.symm hc
theorem zeA {α:Type}{p q:α→Bool}:∀ {l:List α},(∀x∈l,p x=q x)→l.any p=l.any q
 | [],_=>rfl
 |x :: r,h=>by rw [List.any_cons,List.any_cons,h x (by simp),zeA (l:=r) (fun y hy=>h y (by simp [hy]))]
theorem zll {P:Pb}(h:P.ok=true):P.ls.length≤1024:=by
 simp only [Pb.ok,Pb.rulesOk,Bool.and_eq_true,decide_eq_true_eq] at h;omega
section
variable {P:Pb}{Y:Tb}{L:Ws}
theorem TbOf.nth_st (hY:TbOf P Y){i:Nat}(hi:i<Y.n):nth Y.st i=(nth P.ds i).st:=by
 rw [hY.st];exact zaY (by rw [←hY.n];exact hi)
theorem zee (hG:P.Good)(hY:TbOf P Y){i j:Nat}(hi:i<Y.n)(hj:j<Y.n)(h:nth Y.st i=nth Y.st j):i=j:=by
 rw [hY.nth_st hi,hY.nth_st hj] at h;have hn:=hY.n;rcases Nat.lt_trichotomy i j with h1|h1|h1
 ·have:=hG.inc i j h1 (by omega);omega
 ·exact h1
 ·have:=hG.inc j i h1 (by omega);omega
theorem zdU (hG:P.Good)(hY:TbOf P Y)(hne:∀i,i<Y.n→nth L i≠0#64){k:Nat}(hk:k<Y.n){c:Int}(hc:c≠0):zcB (gd Y L) (nth Y.st k) c=true↔((only L k:Nat):Int)=c:=by
 rw [onlyP_iff];unfold only;rw [←zf1 (hne k hk) hc];constructor
 ·intro h j hj;exact h (nth (gd Y L) k) (zak (by rw [zbg];exact hk)) (by rw [zbA hk]) j (by rw [zbA hk];exact List.mem_map.2 ⟨j,hj,rfl⟩)
 ·intro h x hx hs q hq;obtain ⟨i,hi,rfl⟩:=zaQ hx;rw [zbg] at hi;rw [zbA hi] at hs hq;obtain rfl:=zee hG hY hi hk hs;obtain ⟨j,hj,rfl⟩:=List.mem_map.1 hq;exact h j hj
theorem zhO (hG:P.Good)(hY:TbOf P Y){i:Nat}(hi:i<Y.n):P.ix (nth Y.st i)=(i:Int):=by
 rw [hY.nth_st hi];exact Pb.ix_of hG (by rw [←hY.n];exact hi)
theorem zkO (hG:P.Good)(hY:TbOf P Y)(hne:∀i,i<Y.n→nth L i≠0#64){i j:Nat}(hi:i<Y.n)(hj:j<64):P.er.Rules.Pairs.any (zfY (gd Y L) (nth Y.st i) j)=(Y.ps i).any (zd3 L i j):=by
 have hn:=hY.n
 have key:∀x∈P.ps,((decide ((P.rp x).a=(i:Int))||decide ((P.rp x).b=(i:Int)))&&zd3 L i j (P.rp x))=zfY (gd Y L) (nth Y.st i) j x.er:=by
  intro x hx;obtain ⟨hok,⟨ia,hia,ha⟩,⟨ib,hib,hb⟩⟩:=hG.ps x hx;simp only [Pr.ok,rngB,inB,Bool.and_eq_true,decide_eq_true_eq] at hok; (have hsa:x.a=nth Y.st ia:=by rw [hY.nth_st (by omega)];exact ha); (have hsb:x.b=nth Y.st ib:=by rw [hY.nth_st (by omega)];exact hb); (have e1:(P.rp x).a=(ia:Int):=by unfold Pb.rp;dsimp only;rw [hsa,zhO hG hY (by omega)]); (have e2:(P.rp x).b=(ib:Int):=by unfold Pb.rp;dsimp only;rw [hsb,zhO hG hY (by omega)]);have e3:(P.rp x).off=x.off:=rfl;have e4:(P.rp x).lo=x.lo:=rfl;have e5:(P.rp x).hi=x.hi:=rfl;have ea:x.a=nth Y.st i↔ia=i:=⟨fun h=>zee hG hY (by omega) hi (hsa.symm.trans h),fun h=>by rw [hsa,h]⟩;have eb:x.b=nth Y.st i↔ib=i:=⟨fun h=>zee hG hY (by omega) hi (hsb.symm.trans h),fun h=>by rw [hsb,h]⟩;have w1:wI ((j:Int)+x.off)=(j:Int)+x.off:=ziZ (by omega);have w2:wI ((j:Int) - x.off)=(j:Int) - x.off:=ziZ (by omega);rw [Bool.eq_iff_iff];unfold zd3 zfY Pr.er;simp only [e1,e2,e3,e4,e5,w1,w2,Bool.and_eq_true,Bool.or_eq_true,decide_eq_true_eq,ea,eb,Int.toNat_natCast]; (have hab:ia≠ib:=fun h=>by subst h;omega);by_cases h1:ia=i
  ·subst h1;rw [if_pos rfl];simp only [decide_eq_true_eq];rw [hsb];constructor
   ·rintro ⟨_,h2,h3,h4,h5⟩;exact .inl ⟨⟨trivial,by omega,by omega⟩,(zdU hG hY hne (by omega) (by omega)).2 (by omega)⟩
   ·rintro (⟨⟨_,h2⟩,h3⟩|⟨⟨h2,_⟩,_⟩)
    ·have:=(zdU hG hY hne (k:=ib) (by omega) (by omega)).1 h3;exact ⟨.inl trivial,by omega,by omega,by omega,by omega⟩
    ·exact absurd h2.symm hab
  ·rw [if_neg (by omega)];simp only [decide_eq_true_eq];rw [hsa];constructor
   ·rintro ⟨h2,h3,h4,h5⟩;exact .inr ⟨⟨by omega,by omega,by omega⟩,(zdU hG hY hne (by omega) (by omega)).2 (by omega)⟩
   ·rintro (⟨⟨h2,_⟩,_⟩|⟨⟨h2,h3⟩,h4⟩)
    ·exact absurd h2 h1
    ·have:=(zdU hG hY hne (k:=ia) (by omega) (by omega)).1 h4;exact ⟨.inr (by omega),by omega,by omega,by omega⟩
 show (P.ps.map Pr.er).any _=_
 rw [hY.ps];unfold Pb.psA;rw [List.take_length,List.any_map,List.any_filter,List.any_map];exact zeA fun x hx=>(key x hx).symm
theorem zhY (hG:P.Good)(hY:TbOf P Y){x:Ld}(hx:x∈P.ls):∃a b,a<Y.n∧b<Y.n∧x.to=nth Y.st a∧x.fr=nth Y.st b∧(P.rl x).to=(a:Int)∧(P.rl x).fr=(b:Int)∧0≤x.fr∧1≤x.wt∧x.wt≤1073741824∧2≤x.lo:=by
 have hn:=hY.n;obtain ⟨hok,⟨ia,hia,ha⟩,⟨ib,hib,hb⟩⟩:=hG.ls x hx;simp only [Ld.ok,rngB,inB,Bool.and_eq_true,decide_eq_true_eq] at hok; (have hsa:x.to=nth Y.st ia:=by rw [hY.nth_st (by omega)];exact ha); (have hsb:x.fr=nth Y.st ib:=by rw [hY.nth_st (by omega)];exact hb);refine ⟨ia,ib,by omega,by omega,hsa,hsb,?_,?_,by omega,by omega,by omega,by omega⟩
 ·unfold Pb.rl;dsimp only;rw [hsa,zhO hG hY (by omega)]
 ·unfold Pb.rl;dsimp only;rw [hsb,zhO hG hY (by omega)]
theorem zhL (hG : P.Good) (hY : TbOf P Y) (hne : ∀ i, i < Y.n → nth L i ≠ 0#64) {t j : Nat} (ht : t < Y.n) (hj0 : j ≠ 0) : ∀ (l : List Ld), (∀ x ∈ l, x ∈ P.ls) → ∀ (f : Nat → Int), 0 ≤ f j → f j + 1073741824 * (l.length : Int) ≤ 4611686018427387904 →
    (l.map Ld.er).foldl (fun n x => bif loadC (gd Y L) (nth Y.st t) j (-1) x then wI (n + x.Weight) else n) (f j) = ((l.map P.rl).filter fun x => decide (x.to = (t : Int))).foldl (za3 L) f j
  | [], _, f, _, _ => rfl
  | x :: r, hl, f, h0, hb => by
    obtain ⟨a, b, ha, hbn, hsa, hsb, e1, e2, h1, h2, h3, h4⟩ := zhY hG hY (hl x (by simp)); simp only [List.length_cons] at hb; have hw : wI (f j + x.wt) = f j + x.wt := ziZ (by omega); have hto : x.to = nth Y.st t ↔ a = t := ⟨fun h => zee hG hY ha ht (hsa.symm.trans h), fun h => by rw [hsa, h]⟩
    have hon : zcB (gd Y L) x.fr j = true ↔ only L b = j := by
      rw [hsb, zdU hG hY hne hbn (by omega)]; omega
    rw [List.map_cons, List.map_cons, List.foldl_cons, List.filter_cons]
    have hc : loadC (gd Y L) (nth Y.st t) j (-1) x.er = decide (a = t ∧ (x.lo ≤ (j : Int) ∧ (j : Int) ≤ x.hi) ∧ only L b = j) := by
      rw [Bool.eq_iff_iff]; unfold loadC Ld.er; simp only [Bool.and_eq_true, Bool.or_eq_true, decide_eq_true_eq, hto, hon]; constructor
      · rintro ⟨⟨h5, h6⟩, h7 | h7⟩
        · omega
        · exact ⟨h5, h6, h7⟩
      · rintro ⟨h5, h6, h7⟩; exact ⟨⟨h5, h6⟩, .inr h7⟩
    rw [hc]; by_cases hat : a = t
    · subst hat; rw [if_pos (by rw [e1]; simp), List.foldl_cons]
      have hs : za3 L f (P.rl x) j = bif decide (a = a ∧ (x.lo ≤ (j : Int) ∧ (j : Int) ≤ x.hi) ∧ only L b = j) then wI (f j + x.er.Weight) else f j := by
        show (if x.lo ≤ (only L (P.rl x).fr.toNat : Int) ∧ (only L (P.rl x).fr.toNat : Int) ≤ x.hi ∧ only L (P.rl x).fr.toNat = j then f j + x.wt else f j) = _
        rw [e2, Int.toNat_natCast]; by_cases h5 : (x.lo ≤ (j : Int) ∧ (j : Int) ≤ x.hi) ∧ only L b = j
        · rw [if_pos ⟨by rw [h5.2]; omega, by rw [h5.2]; omega, h5.2⟩, decide_eq_true ⟨rfl, h5⟩, cond_true]; exact hw.symm
        · rw [if_neg (fun h6 => h5 ⟨by rw [← h6.2.2]; omega, h6.2.2⟩), decide_eq_false (fun h6 => h5 h6.2), cond_false]
      rw [← hs]; refine zhL hG hY hne ht hj0 r (fun y hy => hl y (by simp [hy])) (za3 L f (P.rl x)) ?_ ?_
      · rw [hs]; cases decide (a = a ∧ (x.lo ≤ (j : Int) ∧ (j : Int) ≤ x.hi) ∧ only L b = j)
        · exact h0
        · show 0 ≤ wI (f j + x.wt); rw [hw]; omega
      · rw [hs]; cases decide (a = a ∧ (x.lo ≤ (j : Int) ∧ (j : Int) ≤ x.hi) ∧ only L b = j)
        · rw [cond_false]; omega
        · show wI (f j + x.wt) + _ ≤ _; rw [hw]; omega
    · rw [if_neg (by rw [e1]; simp; omega), decide_eq_false (fun h => hat h.1), cond_false]; exact zhL hG hY hne ht hj0 r (fun y hy => hl y (by simp [hy])) f h0 (by omega)
theorem zj6 (hG : P.Good) (hY : TbOf P Y) (hne : ∀ i, i < Y.n → nth L i ≠ 0#64) {t i j : Nat} (ht : t < Y.n) (hi : i < Y.n) (hj0 : j ≠ 0) : ∀ (l : List Ld), (∀ x ∈ l, x ∈ P.ls) → ∀ (n : Int), 0 ≤ n → n + 1073741824 * (l.length : Int) ≤ 4611686018427387904 →
    (l.map Ld.er).foldl (fun n x => bif loadC (gd Y L) (nth Y.st t) j (nth Y.st i) x then wI (n + x.Weight) else n) n = ((l.map P.rl).filter fun x => decide (x.to = (t : Int))).foldl (zbp L i j) n
  | [], _, n, _, _ => rfl
  | x :: r, hl, n, h0, hb => by
    obtain ⟨a, b, ha, hbn, hsa, hsb, e1, e2, h1, h2, h3, h4⟩ := zhY hG hY (hl x (by simp)); simp only [List.length_cons] at hb; have hw : wI (n + x.wt) = n + x.wt := ziZ (by omega); have hto : x.to = nth Y.st t ↔ a = t := ⟨fun h => zee hG hY ha ht (hsa.symm.trans h), fun h => by rw [hsa, h]⟩; have hfr : x.fr = nth Y.st i ↔ b = i := ⟨fun h => zee hG hY hbn hi (hsb.symm.trans h), fun h => by rw [hsb, h]⟩
    have hon : zcB (gd Y L) x.fr j = true ↔ only L b = j := by
      rw [hsb, zdU hG hY hne hbn (by omega)]; omega
    rw [List.map_cons, List.map_cons, List.foldl_cons, List.filter_cons]
    have hc : loadC (gd Y L) (nth Y.st t) j (nth Y.st i) x.er = decide (a = t ∧ (x.lo ≤ (j : Int) ∧ (j : Int) ≤ x.hi) ∧ (b = i ∨ only L b = j)) := by
      rw [Bool.eq_iff_iff]; unfold loadC Ld.er; simp only [Bool.and_eq_true, Bool.or_eq_true, decide_eq_true_eq, hto, hon, hfr, and_assoc]
    rw [hc]; by_cases hat : a = t
    · subst hat; rw [if_pos (by rw [e1]; simp), List.foldl_cons]
      have hs : zbp L i j n (P.rl x) = bif decide (a = a ∧ (x.lo ≤ (j : Int) ∧ (j : Int) ≤ x.hi) ∧ (b = i ∨ only L b = j)) then wI (n + x.er.Weight) else n := by
        show (if (x.lo ≤ (j : Int) ∧ (j : Int) ≤ x.hi) ∧ ((P.rl x).fr = (i : Int) ∨ only L (P.rl x).fr.toNat = j) then n + x.wt else n) = _
        rw [e2, Int.toNat_natCast]; by_cases h5 : (x.lo ≤ (j : Int) ∧ (j : Int) ≤ x.hi) ∧ (b = i ∨ only L b = j)
        · rw [if_pos ⟨h5.1, h5.2.imp (fun h => by omega) id⟩, decide_eq_true ⟨rfl, h5⟩, cond_true]; exact hw.symm
        · rw [if_neg (fun h6 => h5 ⟨h6.1, h6.2.imp (fun h => by omega) id⟩), decide_eq_false (fun h6 => h5 h6.2), cond_false]
      rw [← hs]; refine zj6 hG hY hne ht hi hj0 r (fun y hy => hl y (by simp [hy])) _ ?_ ?_
      · rw [hs]; cases decide (a = a ∧ (x.lo ≤ (j : Int) ∧ (j : Int) ≤ x.hi) ∧ (b = i ∨ only L b = j))
        · exact h0
        · show 0 ≤ wI (n + x.wt); rw [hw]; omega
      · rw [hs]; cases decide (a = a ∧ (x.lo ≤ (j : Int) ∧ (j : Int) ≤ x.hi) ∧ (b = i ∨ only L b = j))
        · rw [cond_false]; omega
        · show wI (n + x.wt) + _ ≤ _; rw [hw]; omega
    · rw [if_neg (by rw [e1]; simp; omega), decide_eq_false (fun h => hat h.1), cond_false]; exact zj6 hG hY hne ht hi hj0 r (fun y hy => hl y (by simp [hy])) n h0 (by omega)
theorem zkh (hG:P.Good)(hY:TbOf P Y){t j:Nat}(ht:t<Y.n){l:Int}:zeP P.er (nth Y.st t) j l=true↔∃x∈Y.cs t,(x.lo≤(j:Int)∧(j:Int)≤x.hi)∧x.mx<l:=by
 have hn:=hY.n;unfold zeP
 show (P.cs.map Cp.er).any _=true↔_
 rw [hY.cs,List.any_eq_true];unfold Pb.csA;rw [List.take_length];constructor
 ·rintro ⟨y,hy,h⟩;obtain ⟨x,hx,rfl⟩:=List.mem_map.1 hy;rw [Bool.and_eq_true,Bool.and_eq_true] at h;have h1:x.st=nth Y.st t:=of_decide_eq_true h.1.1;refine ⟨P.rc x,List.mem_filter.2 ⟨List.mem_map.2 ⟨x,hx,rfl⟩,?_⟩,of_decide_eq_true h.1.2,of_decide_eq_true h.2⟩;unfold Pb.rc;dsimp only;rw [h1,zhO hG hY ht];simp
 ·rintro ⟨y,hy,h⟩;obtain ⟨h1,h2⟩:=List.mem_filter.1 hy;obtain ⟨x,hx,rfl⟩:=List.mem_map.1 h1;refine ⟨x.er,List.mem_map.2 ⟨x,hx,rfl⟩,?_⟩;obtain ⟨_,k,hk,hs⟩:=hG.cs x hx; (have hs':x.st=nth Y.st k:=by rw [hY.nth_st (by omega)];exact hs);have h3:P.ix x.st=(t:Int):=of_decide_eq_true h2;rw [hs',zhO hG hY (by omega)] at h3; (have:k=t:=by omega);subst this;rw [Bool.and_eq_true,Bool.and_eq_true];exact ⟨⟨decide_eq_true hs',decide_eq_true h.1⟩,decide_eq_true h.2⟩
theorem zj0 (hG:P.Good)(hok:P.ok=true)(hY:TbOf P Y)(hne:∀i,i<Y.n→nth L i≠0#64){t j:Nat}(ht:t<Y.n)(hj0:j≠0):sumP P.er (gd Y L) (nth Y.st t) j (-1)=za8 L (Y.inn t) j:=by
 have hl:=zll hok;unfold sumP za8;rw [hY.inn];unfold Pb.inA;rw [List.take_length];exact zhL hG hY hne ht hj0 P.ls (fun _ h=>h) (fun _=>0) (Int.le_refl _) (by omega)
theorem zkE (hG:P.Good)(hok:P.ok=true)(hY:TbOf P Y)(hne:∀i,i<Y.n→nth L i≠0#64){t i j:Nat}(ht:t<Y.n)(hi:i<Y.n)(hj0:j≠0):sumP P.er (gd Y L) (nth Y.st t) j (nth Y.st i)=zc2 L i j (Y.inn t):=by
 have hl:=zll hok;unfold sumP zc2;rw [hY.inn];unfold Pb.inA;rw [List.take_length];exact zj6 hG hY hne ht hi hj0 P.ls (fun _ h=>h) 0 (Int.le_refl _) (by omega)
theorem zh7 (hok:P.ok=true)(hY:TbOf P Y)(hne:∀i,i<Y.n→nth L i≠0#64){i j:Nat}(hi:i<Y.n)(hj0:j≠0)(hj:j<64):remP P.er (gd Y L) (nth Y.st i) j=(zcA Y L i).getLsbD j:=by
 have hG:=Pb.good hok;have hYo:=hY.ok hG;unfold remP zcA;rw [BitVec.getLsbD_or,BitVec.getLsbD_or,zhl hj,zis hYo hi hj,zgH hj,zkO hG hY hne hi hj]
 congr 1
 ·congr 1
  rw [Bool.eq_iff_iff,zj0 hG hok hY hne hi hj0,zkh hG hY hi,List.any_eq_true];simp only [decide_eq_true_eq,and_assoc]
 ·have key:∀x∈P.ls,(decide ((P.rl x).fr=(i:Int))&&zd1 Y L i j (P.rl x))=loadR P.er (gd Y L) (nth Y.st i) j x.er:=by
   intro x hx;obtain ⟨a,b,ha,hbn,hsa,hsb,e1,e2,h1,h2,h3,h4⟩:=zhY hG hY hx;have hfr:x.fr=nth Y.st i↔b=i:=⟨fun h=>zee hG hY hbn hi (hsb.symm.trans h),fun h=>by rw [hsb,h]⟩
   have hon:zcB (gd Y L) x.to j=true↔only L a=j:=by
    rw [hsa,zdU hG hY hne ha (by omega)];omega
   have hov:zeP P.er x.to j (sumP P.er (gd Y L) x.to j (nth Y.st i))=true↔∃c∈Y.cs a,(c.lo≤(j:Int)∧(j:Int)≤c.hi)∧c.mx<zc2 L i j (Y.inn a):=by
    rw [hsa,zkE hG hok hY hne ha hi hj0,zkh hG hY ha]
   rw [Bool.eq_iff_iff];unfold loadR;simp only [Bool.and_eq_true,decide_eq_true_eq]
   show _↔((x.fr=nth Y.st i∧x.lo≤(j:Int)∧(j:Int)≤x.hi)∧zcB (gd Y L) x.to j=true)∧zeP P.er x.to j (sumP P.er (gd Y L) x.to j (nth Y.st i))=true
   rw [hfr,hon,hov];unfold zd1;rw [decide_eq_true_eq,e1,e2,Int.toNat_natCast]
   show _∧x.lo≤(only L a:Int)∧(only L a:Int)≤x.hi∧_↔_
   constructor
   ·rintro ⟨h5,h6,h7,h8,h9⟩;exact ⟨⟨⟨by omega,by omega,by omega⟩,h8⟩,h9⟩
   ·rintro ⟨⟨⟨h5,h6,h7⟩,h8⟩,h9⟩;exact ⟨by omega,by omega,by omega,h8,h9⟩
  show (P.ls.map Ld.er).any _=_
  rw [hY.out];unfold Pb.ouA;rw [List.take_length,List.any_map,List.any_filter,List.any_map];exact zeA fun x hx=>(key x hx).symm
end
theorem chansN_sub {b:BitVec 64}:(chansN b).Sublist (List.range' 0 64):=by unfold chansN;exact List.filter_sublist
theorem zdq (b:BitVec 64):(chansN b).Nodup:=List.Nodup.sublist chansN_sub List.nodup_range'
theorem zgK (b:BitVec 64):(chansN b).length≤64:=by have:=(chansN_sub (b:=b)).length_le;simpa using this
theorem zgB {b:BitVec 64}(h:b≠0#64):chansN b≠[]:=fun e=>by
 have:=chansN_mem.2 (zdg h 0).1;rw [e] at this;cases this
theorem zd9 {b c:BitVec 64}(h:∀j,c.getLsbD j=true→b.getLsbD j=true):chansN c=(chansN b).filter c.getLsbD:=by
 unfold chansN;rw [List.filter_filter];apply List.filter_congr;intro j _
 cases hc:c.getLsbD j with
 |false=>rfl
 |true=>rw [h j hc];rfl
theorem zcg {α:Type}[DecidableEq α]:∀ {a l:List α},a.Sublist l→l.Nodup→a=l.filter fun x=>decide (x∈a)
 |a,[],h,_=>by cases h;rfl
 |a,y :: l,h,hn=>by
  rw [List.nodup_cons] at hn
  cases h with
  |cons _ h=>
   have:y∉a:=fun hy=>hn.1 (h.subset hy);rw [List.filter_cons,if_neg (by simpa using this)];exact zcg h hn.2
  |cons_cons _ h=>
   rename_i a';rw [List.filter_cons,if_pos (by simp)]
   congr 1
   conv=>lhs;rw [zcg h hn.2]
   apply List.filter_congr;intro x hx;have:x≠y:=fun e=>hn.1 (e▸hx);simp [this]
theorem zcG {α:Type}[DecidableEq α]{a b l:List α}(ha:a.Sublist l)(hb:b.Sublist l)(hn:l.Nodup)(h:∀x,x∈a↔x∈b):a=b:=by
 rw [zcg ha hn,zcg hb hn];apply List.filter_congr;intro x _;exact decide_eq_decide.2 (h x)
theorem mapI_mem {l:List Nat}{c:Int}:c∈l.map (fun j:Nat=>(j:Int))↔∃j∈l,c=(j:Int):=by
 rw [List.mem_map];exact ⟨fun ⟨j,h,e⟩=>⟨j,h,e.symm⟩,fun ⟨j,h,e⟩=>⟨j,h,e.symm⟩⟩
theorem zdE {l:List Nat}(h:l.Nodup):(l.map fun j:Nat=>(j:Int)).Nodup:=List.Pairwise.map _ (fun a b h e=>h (by omega)) h
theorem ze8 (j:Nat)(hj:j<64):∀(l:List Int) (m:BitVec 64),(l.foldl (fun m c=>m ||| 1#64 <<< c.toNat) m).getLsbD j=(m.getLsbD j||l.any fun c=>decide (c.toNat=j))
 | [],m=>by simp
 |x :: r,m=>by rw [List.foldl_cons,ze8 j hj r,zg8 hj,List.any_cons,Bool.or_assoc]
theorem zdC {l:List Int}{j:Nat}(hl:∀c∈l,0≤c∧c<64):(zbV l).getLsbD j=true↔(j:Int)∈l:=by
 constructor
 ·intro h;have hj:=BitVec.lt_of_getLsbD h;unfold zbV at h;rw [ze8 j hj,BitVec.getLsbD_zero,Bool.false_or,List.any_eq_true] at h;obtain ⟨c,hc,h⟩:=h;have:=hl c hc;have h2:=of_decide_eq_true h;rw [show (j:Int)=c by omega];exact hc
 ·intro h;have:=hl _ h;unfold zbV;rw [ze8 j (by omega),BitVec.getLsbD_zero,Bool.false_or,List.any_eq_true];exact ⟨_,h,by simp⟩
section
variable {P:Pb}{Y:Tb}{L T:Ws}{c:Bool}
def In51 (T:Ws):Prop:=∀i j,(nth T i).getLsbD j=true→2≤j∧j≤51
theorem In51.le {S:Ws}(h:In51 T)(k:Le' S T):In51 S:=fun i j hj=>h i j (k i j hj)
theorem zfh {i:Nat}(hi:i<Y.n){q:Int}:q∈(nth (gd Y L) i).Channels↔∃j:Nat,(nth L i).getLsbD j=true∧q=(j:Int):=by
 rw [zbA hi]
 show q∈(chansN (nth L i)).map (fun j:Nat=>(j:Int))↔_
 rw [mapI_mem];exact ⟨fun ⟨j,h,e⟩=>⟨j,chansN_mem.1 h,e⟩,fun ⟨j,h,e⟩=>⟨j,chansN_mem.2 h,e⟩⟩
theorem zjG {S:Ws}(h:Le' S T):SubD (gd Y S) (gd Y T):=by
 refine ⟨by rw [zbg,zbg],fun i hi=>?_⟩;rw [zbg] at hi;refine ⟨by rw [zbA hi,zbA hi],fun q hq=>?_⟩;obtain ⟨j,hj,rfl⟩:=(zfh hi).1 hq;exact (zfh hi).2 ⟨j,h i j hj,rfl⟩
theorem zme (hn:Y.n≤512):Bd (gd Y L):=by
 refine ⟨by rw [zbg];omega,fun x hx=>?_⟩;obtain ⟨i,hi,rfl⟩:=zaQ hx;rw [zbg] at hi;rw [zbA hi];refine ⟨?_,zdE (zdq _)⟩;have:=zgK (nth L i);simp;omega
theorem zlq (hok:P.ok=true):WtP P.er:=by
 refine ⟨?_,fun x hx=>?_⟩
 ·show (P.ls.map Ld.er).length≤1024
  rw [List.length_map];exact zll hok
 ·obtain ⟨y,hy,rfl⟩:=List.mem_map.1 hx;have hok':=((Pb.good hok).ls y hy).1;simp only [Ld.ok,rngB,inB,Bool.and_eq_true,decide_eq_true_eq] at hok'
  show 0≤y.wt∧y.wt≤1073741824
  omega
theorem zhf (hok:P.ok=true)(hY:TbOf P Y)(h:Closed Y L)(hb:In51 L):ClosedD P.er (gd Y L):=by
 refine ⟨fun x hx=>?_,fun x hx q hq=>?_⟩
 ·obtain ⟨i,hi,rfl⟩:=zaQ hx;rw [zbg] at hi;rw [zbA hi];have:=zgB (h.ne i hi);simpa using this
 ·obtain ⟨i,hi,rfl⟩:=zaQ hx;rw [zbg] at hi;obtain ⟨j,hj,rfl⟩:=(zfh hi).1 hq;have h2:=hb i j hj;rw [zbA hi]
  show remP P.er (gd Y L) (nth Y.st i) j=false
  rw [zh7 hok hY h.ne hi (by omega) (by omega)];have h3:=congrArg (fun v=>BitVec.getLsbD v j) (h.calm i hi).2;simp only [BitVec.getLsbD_and,BitVec.getLsbD_zero,hj,Bool.true_and] at h3;exact h3
theorem zhd (hok:P.ok=true)(hY:TbOf P Y)(hb:In51 T){S:List GDomain}(hS:ClosedD P.er S)(hs:SubD S (gd Y T)):∃S':Ws,Closed Y S'∧Le' S' T∧SubD S (gd Y S'):=by
 (have hl:S.length=Y.n:=by rw [hs.1,zbg]);have hch:∀i,i<Y.n→∀q∈(nth S i).Channels,∃j:Nat,(nth T i).getLsbD j=true∧q=(j:Int):=fun i hi q hq=>(zfh hi).1 ((hs.2 i (by rw [zbg];exact hi)).2 q hq)
 have hbit:∀i j,i<Y.n→((nth (S.map fun x=>zbV x.Channels) i).getLsbD j=true↔(j:Int)∈(nth S i).Channels):=fun i j hi=>by
  rw [zaL (by rw [hl];exact hi)];refine zdC fun q hq=>?_;obtain ⟨k,hk,rfl⟩:=hch i hi q hq;have:=hb i k hk;omega
 (have hlen:(S.map fun x=>zbV x.Channels).length=Y.n:=by rw [List.length_map,hl])
 have hle:Le' (S.map fun x=>zbV x.Channels) T:=fun i j hj=>by
  rcases Nat.lt_or_ge i Y.n with hi|hi
  ·obtain ⟨k,hk,e⟩:=hch i hi _ ((hbit i j hi).1 hj);rw [show j=k by omega];exact hk
  ·unfold nth at hj;rw [List.getD_eq_getElem?_getD,List.getElem?_eq_none (by rw [hlen];exact hi)] at hj;have hj':(0#64).getLsbD j=true:=hj;rw [BitVec.getLsbD_zero] at hj'
   cases hj'
 have hsub:SubD S (gd Y (S.map fun x=>zbV x.Channels)):=by
  refine ⟨by rw [hl,zbg],fun i hi=>?_⟩;rw [zbg] at hi;refine ⟨?_,fun q hq=>?_⟩
  ·rw [(hs.2 i (by rw [zbg];exact hi)).1,zbA hi,zbA hi]
  ·obtain ⟨j,hj,rfl⟩:=hch i hi q hq;exact (zfh hi).2 ⟨j,(hbit i j hi).2 hq,rfl⟩
 have hne:∀i,i<Y.n→nth (S.map fun x=>zbV x.Channels) i≠0#64:=fun i hi e=>by
  have h1:=hS.ne _ (zak (show i<S.length by rw [hl];exact hi))
  cases hc:(nth S i).Channels with
  |nil=>exact h1 hc
  |cons q r=>
   (have hq:q∈(nth S i).Channels:=by rw [hc];simp);obtain ⟨j,hj,rfl⟩:=hch i hi q hq;have:=(hbit i j hi).2 hq;rw [e,BitVec.getLsbD_zero] at this
   cases this
 refine ⟨_,⟨hlen,fun i hi=>⟨hne i hi,?_⟩⟩,hle,hsub⟩;apply BitVec.eq_of_getLsbD_eq;intro j hj;rw [BitVec.getLsbD_and,BitVec.getLsbD_zero]
 cases h1:(nth (S.map fun x=>zbV x.Channels) i).getLsbD j with
 |false=>rfl
 |true=>
  have h2:=(hb.le hle) i j h1
  cases h3:(zcA Y (S.map fun x=>zbV x.Channels) i).getLsbD j with
  |false=>rfl
  |true=>
   rw [←zh7 hok hY hne hi (by omega) (by omega)] at h3;have h4:=zfj (zlq hok) hsub h3;have h5:=hS.calm _ (zak (show i<S.length by rw [hl];exact hi)) _ ((hbit i j hi).1 h1);rw [(hs.2 i (by rw [zbg];exact hi)).1,zbA hi] at h5;rw [h4] at h5
   cases h5
theorem zk1 (hok:P.ok=true)(hY:TbOf P Y)(hb:In51 T)(hF:Fin Y T L c){r:List GDomain×Bool}(hr:PropD P.er (gd Y T) r):r=if c then ([],false) else (gd Y L,true):=by
 cases c with
 |true=>
  rcases hr with ⟨_,h2,h3,_⟩|⟨h,_⟩
  ·obtain ⟨S',h4,h5,_⟩:=zhd hok hY hb h2 h3.1;exact absurd h5 (hF.bad rfl S' h4)
  ·exact h
 |false=>
  have hI:=hF.good rfl;have hC:=hI.good rfl;have hbL:=hb.le hI.sub;rcases hr with ⟨h1,h2,h3,h4⟩|⟨_,h⟩
  ·have h5:=h4 _ (zhf hok hY hC hbL) (zjG hI.sub);obtain ⟨S',h6,h7,h8⟩:=zhd hok hY hb h2 h3.1;have h9:SubD r.1 (gd Y L):=h8.trans (zjG (hI.best S' h6 h7))
   have e:r.1=gd Y L:=by
    refine zc8 (by rw [h9.1]) fun i hi=>?_; (have hi':i<Y.n:=by rw [h9.1,zbg] at hi;exact hi);have a1:=h9.2 i (by rw [zbg];exact hi');have a2:=h5.2 i hi
    have hsub:(nth (gd Y L) i).Channels.Sublist (nth (gd Y T) i).Channels:=by
     rw [zbA hi',zbA hi']
     show ((chansN (nth L i)).map _).Sublist ((chansN (nth T i)).map _)
     rw [zd9 (hI.sub i)];exact List.filter_sublist.map _
    have hch:(nth r.1 i).Channels=(nth (gd Y L) i).Channels:=by
     refine zcG (h3.2 i (by rw [zbg];exact hi')) hsub ?_ (fun x=>⟨a1.2 x,a2.2 x⟩);rw [zbA hi'];exact zdE (zdq _)
    cases hx:nth r.1 i with
    |mk s1 c1=>
     cases hy:nth (gd Y L) i with
     |mk s2 c2=>
      have b1:=a1.1;rw [hx,hy] at b1 hch;simp only at b1 hch;rw [b1,hch]
   rw [if_neg (by simp),←e,←h1]
  ·exact absurd (zjG hI.sub) (h _ (zhf hok hY hC hbL))
end
theorem SlC.slof {α:Type}[Inhabited α]{F:Frz}{w:World}{v:Value}{size:Nat}{enc:α→List Value}{xs:List α}(h:SlC F v size (xs.map enc))(hF:F.At w):SlOf w v enc size xs:=by
 obtain ⟨A,cap,h1,h2,h3,h4,h5⟩:=h;rw [List.length_map] at h1 h5;refine ⟨A,cap,h1,fun hl=>?_⟩;obtain ⟨g,off,rfl,hg,hc⟩:=h5 hl;refine ⟨g,off,rfl,fun i hi=>?_⟩;have:=Cs.at hF hg (hc i hi)
 rwa [zaY hi,zap hi] at this
def GPair.b (x:GPair):Pr:=⟨x.A,x.B,x.Offset,x.Low,x.High⟩
def GLoad.b (x:GLoad):Ld:=⟨x.To,x.From,x.Weight,x.Low,x.High⟩
def GCap.b (x:GCap):Cp:=⟨x.Station,x.Max,x.Low,x.High⟩
def GChoice.b (x:GChoice):Ch:=⟨x.Station,x.Channel⟩
def Ch.er (x:Ch):GChoice:=⟨x.st,x.ch⟩
theorem zdL {α β:Type}{f:α→β}{g:β→α}(h:∀x,g (f x)=x)(l:List α):(l.map f).map g=l:=by
 rw [List.map_map]
 conv=>rhs;rw [←List.map_id l]
 congr 1
 funext x
 exact h x
theorem SlOf.ofMap {α β:Type}{w:World}{v:Value}{size:Nat}{enc:α→List Value}{enc':β→List Value}{f:α→β}(he:∀x,enc' (f x)=enc x){xs:List α}(h:SlOf w v enc size xs):SlOf w v enc' size (xs.map f):=by
 obtain ⟨A,cap,h1,h2⟩:=h;refine ⟨A,cap,by rw [List.length_map];exact h1,fun hl=>?_⟩;rw [List.length_map] at hl;obtain ⟨g,off,hA,hc⟩:=h2 hl;refine ⟨g,off,hA,fun i hi=>?_⟩;rw [List.length_map] at hi;rw [List.getElem_map,he];exact hc i hi
structure PbF (F:Frz) (vd:Value) (cd:List (List Value)) (vp vl vc:Value) (p:GProblem):Prop where
 ds:SlD GDomain.rep F vd 2 cd p.Domains
 ps:SlC F vp 5 (p.Rules.Pairs.map GPair.enc)
 ls:SlC F vl 5 (p.Rules.Loads.map GLoad.enc)
 cs:SlC F vc 4 (p.Rules.Caps.map GCap.enc)
theorem zjy {F:Frz}{w:World}{vd vp vl vc:Value}{cd:List (List Value)}{p:GProblem}(h:PbF F vd cd vp vl vc p)(hF:F.At w):∃P:Pb,P.er=p∧ProbAt w vd vp vl vc P:=by
 obtain ⟨hd,hp,hl,hc⟩:=h;have hlen:=hd.2.1
 have hrow:∀i,i<p.Domains.length→nth cd i=[.int .i64 (nth p.Domains i).Station,nth (nth cd i) 1]∧SlC F (nth (nth cd i) 1) 1 ((nth p.Domains i).Channels.map eI):=fun i hi=>by
  obtain ⟨v1,h0,h1⟩:=hd.2.2 i hi;rw [h0];exact ⟨rfl,h1⟩
 have eds:((List.range p.Domains.length).map fun i=>(⟨(nth p.Domains i).Station,nth (nth cd i) 1,(nth p.Domains i).Channels⟩:Dx)).map Dx.er=p.Domains:=by
  refine zc8 (by simp) fun i hi=>?_;simp at hi;rw [zaL (by simpa using hi),zap (by simpa using hi)];simp [Dx.er]
 refine ⟨⟨(List.range p.Domains.length).map fun i=>⟨(nth p.Domains i).Station,nth (nth cd i) 1,(nth p.Domains i).Channels⟩,p.Rules.Pairs.map GPair.b,p.Rules.Loads.map GLoad.b,p.Rules.Caps.map GCap.b⟩,?_,?_⟩
 ·unfold Pb.er;dsimp only;rw [eds,zdL (g:=Pr.er) (fun _=>rfl),zdL (g:=Ld.er) (fun _=>rfl),zdL (g:=Cp.er) (fun _=>rfl)]
 ·refine ⟨⟨?_,?_⟩,⟨(hp.slof hF).ofMap (f:=GPair.b) (enc':=Pr.cells) (fun _=>rfl),(hl.slof hF).ofMap (f:=GLoad.b) (enc':=Ld.cells) (fun _=>rfl),(hc.slof hF).ofMap (f:=GCap.b) (enc':=Cp.cells) (fun _=>rfl),?_,?_,?_⟩,?_,?_⟩
  ·obtain ⟨A,cap,h1,h2,h3,h4,h5⟩:=hd.1;dsimp only;refine ⟨A,cap,by rw [h1,hlen];simp,fun hl0=>?_⟩;simp at hl0;obtain ⟨g,off,rfl,hg,hcs⟩:=h5 (by omega);refine ⟨g,off,rfl,fun i hi=>?_⟩;simp at hi;have:=Cs.at hF hg (hcs i (by omega));rw [(hrow i hi).1] at this;simpa [Dx.cells] using this
  ·intro d hd';obtain ⟨i,hi,rfl⟩:=List.mem_map.1 hd';have hi':=List.mem_range.1 hi; (exact ((hrow i hi').2.slof hF).ofMap (f:=fun x=>x) (enc':=Ie) (fun _=>rfl) |> fun q=>by simpa using q)
  ·have:=hp.max;simpa using this
  ·have:=hl.max;simpa using this
  ·have:=hc.max;simpa using this
  ·have:=hd.1.max;simp;omega
  ·intro d hd';obtain ⟨i,hi,rfl⟩:=List.mem_map.1 hd';have:=(hrow i (List.mem_range.1 hi)).2.max;simpa using this
theorem Fx.hp {F:Frz}{w w':World}{es:HS}(hF:F.At w)(h:Hp w (fun _=>False) es w'):∃G:Frz,Fx F w G w'∧G.w=w'∧∀e∈es,∀g,e.fp g→Cb w' g→G.S g:=by
 have hb:=h.isBelow;have hF':=hF.below hb;refine ⟨⟨fun g=>F.S g∨((∃ e∈es,e.fp g)∧Cb w' g),w',fun g hg=>hg.elim (fun h=>hF'.cb h) (fun h=>h.2)⟩,⟨fun g hg=>⟨.inl hg,hF' g hg⟩,fun g _=>rfl,fun g hg=>?_,hb⟩,rfl,fun e he g hg hc=> .inr ⟨⟨e,he,hg⟩,hc⟩⟩;rcases hg with h1|⟨⟨e,he,hg⟩,_⟩
 ·exact .inl h1
 ·exact .inr ((h.new e he g hg).elim (fun h=>h.elim) id)
theorem SlK.ent {G:Frz}{w':World}{v:Value}{e:TypeId}{size k:Nat}{l:List Value}(hok:(Ent.sl v e size k l).ok w')(hw:G.w=w')(hS:∀g,(Ent.sl v e size k l).fp g→Cb w' g→G.S g):SlK G v size k l:=by
 have ho:=Ent.sl_ok.1 hok;rcases ho.2 with ⟨rfl,h0⟩|⟨g,cap,cur,rfl,hb,hg,hnc,hcm,hcs,htake⟩
 ·subst h0;exact ⟨ho.1,none,0,rfl,Nat.le_refl _,by omega,fun h=>by omega⟩
 ·refine ⟨ho.1,_,cap,rfl,hnc,by unfold maxLen at hcm;omega,fun _=>⟨g,rfl,hS g (Ent.sl_fp.2 rfl) ⟨_,_,_,hg⟩,fun q hq=>?_⟩⟩;rw [hw,Nat.zero_add,World.ownsRow.cellAt ho q (by rw [←ho.1];exact hq)]
theorem zk0 {F:Frz}{w w':World}{v:Value}{xs:List Dx}(hF:F.At w)(h:Hp w (fun _=>False) [.sl v 48 2 xs.length (xs.flatMap Dx.cells), .bag (xs.map dE)] w'):∃G:Frz,Fx F w G w'∧∃cs,SlD GDomain.rep G v 2 cs (xs.map Dx.er):=by
 obtain ⟨G,h1,h2,h3⟩:=Fx.hp hF h;refine ⟨G,h1,xs.map Dx.cells,?_⟩;have h4:=SlK.ent (G:=G) (h.own (.sl v 48 2 xs.length (xs.flatMap Dx.cells)) (by simp)) h2 (h3 _ (by simp));have hb:=Ent.bag_ok.1 (h.own (.bag (xs.map dE)) (by simp));have h5:=h4.toC (cs:=xs.map Dx.cells) (List.flatMap_def ..) (by simp) (fun c hc=>by obtain ⟨x,_,rfl⟩:=List.mem_map.1 hc;rfl);refine ⟨h5,by simp,fun i hi=>?_⟩;simp at hi;rw [zaY hi,zaY hi];have hm:nth xs i∈xs:=zak hi;have h6:=hb.1 (dE (nth xs i)) (List.mem_map.2 ⟨_,hm,rfl⟩);have h7:=SlK.ent (G:=G) h6 h2 (fun g hg hc=>h3 (.bag (xs.map dE)) (by simp) g (Ent.bag_fp.2 ⟨_,List.mem_map.2 ⟨_,hm,rfl⟩,hg⟩) hc);exact ⟨(nth xs i).v,rfl,h7.toF rfl (fun _=>rfl)⟩
theorem zlO {F:Frz}{w w':World}{v:Value}{xs:List Ch}(hF:F.At w)(h:Hp w (fun _=>False) [.sl v 50 2 xs.length (xs.flatMap Ch.cells)] w'):∃G:Frz,Fx F w G w'∧SlC G v 2 ((xs.map Ch.er).map GChoice.enc):=by
 obtain ⟨G,h1,h2,h3⟩:=Fx.hp hF h;refine ⟨G,h1,?_⟩;have h4:=SlK.ent (G:=G) (h.own (.sl v 50 2 xs.length (xs.flatMap Ch.cells)) (by simp)) h2 (h3 _ (by simp))
 have e:xs.flatMap Ch.cells=(xs.map Ch.er).flatMap GChoice.enc:=by
  rw [List.flatMap_map];rfl
 rw [e] at h4;exact h4.toF (by simp) GChoice.len
theorem zkD {w w':World}{es es' rest:HS}(h:(Ent.bag (es++rest)).ok w)(hk:Hp w (fps es) es' w'):Hp w (Ent.bag (es++rest)).fp [.bag (es'++rest)] w':=by
 obtain ⟨hok,hap⟩:=Ent.bag_ok.1 h;obtain ⟨a1,a2,a3⟩:=List.pairwise_append.1 hap;have hold:∀e∈rest,∀g,e.fp g→w'.heap[g]?=w.heap[g]?:=fun e he g hg=>hk.base g (e.lt (hok e (List.mem_append_right _ he)) g hg) (fun ⟨f,hf,hfg⟩=>a3 f hf e he g hfg hg);refine ⟨hk.os,hk.tape,hk.output,hk.size,fun k hk1 hk2=>hk.base k hk1 (fun ⟨e,he,hg⟩=>hk2 (Ent.bag_fp.2 ⟨e,List.mem_append_left _ he,hg⟩)),?_,?_,List.pairwise_singleton _ _⟩
 ·intro e he;simp at he;subst he;refine Ent.bag_ok.2 ⟨fun e he=>?_,List.pairwise_append.2 ⟨hk.apart,a2,fun e he f hf g hg hfg=>?_⟩⟩
  ·rcases List.mem_append.1 he with he|he
   ·exact hk.own e he
   ·exact e.loc (hold e he) (hok e (List.mem_append_right _ he))
  ·rcases hk.new e he g hg with ⟨x,hx,hxg⟩|hn
   ·exact a3 x hx f hf g hxg hfg
   ·have:=f.lt (hok f (List.mem_append_right _ hf)) g hfg;omega
 ·intro e he g hg;simp at he;subst he;obtain ⟨f,hf,hfg⟩:=Ent.bag_fp.1 hg;rcases List.mem_append.1 hf with hf|hf
  ·rcases hk.new f hf g hfg with ⟨x,hx,hxg⟩|hn
   ·exact .inl (Ent.bag_fp.2 ⟨x,List.mem_append_left _ hx,hxg⟩)
   ·exact .inr hn
  ·exact .inl (Ent.bag_fp.2 ⟨f,List.mem_append_right _ hf,hfg⟩)
theorem zhF {w w':World}{es:HS}(h:Hp w (fun _=>False) es w'):Hp w (fun _=>False) [.bag es] w':=
 ⟨h.os,h.tape,h.output,h.size,h.base,fun e he=>by simp at he;subst he;exact Ent.bag_ok.2 ⟨h.own,h.apart⟩,fun e he g hg=>by
  simp at he;subst he;obtain ⟨f,hf,hfg⟩:=Ent.bag_fp.1 hg
  exact h.new f hf g hfg,List.pairwise_singleton _ _⟩
theorem zey {α:Type}{p q:α→Bool}:∀ {l:List α},(∀x∈l,p x=q x)→l.all p=l.all q
 | [],_=>rfl
 |x :: r,h=>by rw [List.all_cons,List.all_cons,h x (by simp),zey (l:=r) (fun y hy=>h y (by simp [hy]))]
theorem zma {Y:Tb}{L:Ws}:totG (gd Y L)≤Y.n*64:=by
 unfold totG gd;rw [List.map_map]
 have:∀l:List Nat,(l.map ((fun x:GDomain=>x.Channels.length)∘fun i=>(⟨nth Y.st i,(chansN (nth L i)).map fun j:Nat=>(j:Int)⟩:GDomain))).sum≤l.length*64:=by
  intro l
  induction l with
  |nil=>simp
  |cons i r ih=>
   have:=zgK (nth L i);simp only [List.map_cons,List.sum_cons,List.length_cons,Function.comp,List.length_map] at ih ⊢;omega
 have h:=this (List.range Y.n)
 rwa [List.length_range] at h
theorem zdS:∀(n a:Nat) (l:List Int),(∀q∈l,(a:Int)≤q∧q<(a:Int)+n)→l.Pairwise (· < ·)→l.Sublist ((List.range' a n).map fun j:Nat=>(j:Int))
 |0,a,l,h,_=>by
  cases l with
  |nil=>exact List.Sublist.refl _
  |cons q r=>have:=h q (by simp);omega
 |n+1,a,l,h,hp=>by
  rw [List.range'_succ,List.map_cons]
  cases l with
  |nil=>exact List.nil_sublist _
  |cons q r=>
   have hq:=h q (by simp);have hr:=List.pairwise_cons.1 hp;by_cases e:q=(a:Int)
   ·subst e;refine List.Sublist.cons_cons _ (zdS n (a+1) r (fun x hx=>?_) hr.2);have h1:=h x (by simp [hx]);have h2:=hr.1 x hx;omega
   ·refine List.Sublist.cons _ (zdS n (a+1) (q :: r) (fun x hx=>?_) hp);have h1:=h x hx;rcases List.mem_cons.1 hx with rfl|hx
    ·omega
    ·have h2:=hr.1 x hx;omega
theorem zlL {l:List Int}(h:incB cmpI l=true):l.Pairwise (· < ·):=by
 unfold incB at h;rw [List.all_eq_true] at h
 have step:∀k,k+1<l.length→nth l k<nth l (k+1):=fun k hk=>by
  have:=h (k+1) (List.mem_range.2 hk);simp only [Bool.or_eq_true,decide_eq_true_eq,Bool.not_eq_true',decide_eq_false_iff_not,Nat.add_sub_cancel] at this;rcases this with h1|h1
  ·omega
  ·unfold cmpI at h1;split at h1
   ·assumption
   ·split at h1 <;> omega
 rw [List.pairwise_iff_getElem];intro i j hi hj hij
 have key:∀m,i+m+1<l.length→nth l i<nth l (i+m+1):=by
  intro m
  induction m with
  |zero=>intro h;exact step i h
  |succ m ih=>intro h;exact Int.lt_trans (ih (by omega)) (step (i+m+1) (by omega))
 have:=key (j - i - 1) (by omega);rw [show i+(j - i - 1)+1=j by omega,zap hi,zap hj] at this;exact this
theorem zj2 {P:Pb}(hok:P.ok=true){i:Nat}(hi:i<P.ds.length):(nth P.ds i).chs.Sublist ((List.range' 0 64).map fun j:Nat=>(j:Int)):=by
 have hb:=((Pb.good hok).chs _ (zak hi)).2;refine zdS 64 0 _ (fun q hq=>by have:=hb q hq;omega) (zlL ?_);simp only [Pb.ok,Bool.and_eq_true] at hok;have:=allB_mem.1 hok.1 _ (zak hi);simp only [Dx.ok,Bool.and_eq_true] at this;exact this.2.2
def GDomain.b (x:GDomain):Dx:=⟨x.Station, .slice none 0 0,x.Channels⟩
def pbG (p:GProblem):Pb:=⟨p.Domains.map GDomain.b,p.Rules.Pairs.map GPair.b,p.Rules.Loads.map GLoad.b,p.Rules.Caps.map GCap.b⟩
def okG (p:GProblem):Bool:=(pbG p).ok
theorem zmd (P:Pb):P.ok=okG P.er:=by
 have e1:(pbG P.er).ps=P.ps:=zdL (fun _=>rfl) P.ps;have e2:(pbG P.er).ls=P.ls:=zdL (fun _=>rfl) P.ls;have e3:(pbG P.er).cs=P.cs:=zdL (fun _=>rfl) P.cs
 have e4:(pbG P.er).ds=P.ds.map fun d=>⟨d.st, .slice none 0 0,d.chs⟩:=by
  show (P.ds.map Dx.er).map GDomain.b=_
  rw [List.map_map];rfl
 (have e5:(pbG P.er).ds.map (·.st)=P.ds.map (·.st):=by rw [e4,List.map_map];rfl); (have e6:(pbG P.er).has=P.has:=by funext i;unfold Pb.has;rw [e5]); (have hn:∀k,k<P.ds.length→nth (pbG P.er).ds k=⟨(nth P.ds k).st, .slice none 0 0,(nth P.ds k).chs⟩:=fun k hk=>by rw [e4,zaY hk]); (have hl:(pbG P.er).ds.length=P.ds.length:=by rw [e4,List.length_map])
 have e7:allB Dx.ok (pbG P.er).ds=allB Dx.ok P.ds:=by
  unfold allB;rw [hl];refine zey fun k hk=>?_;rw [hn k (List.mem_range.1 hk)];rfl
 have e8:incB (fun a b=>cmpI a.st b.st) (pbG P.er).ds=incB (fun a b=>cmpI a.st b.st) P.ds:=by
  unfold incB;rw [hl];refine zey fun k hk=>?_;have:=List.mem_range.1 hk;rw [hn k this,hn (k - 1) (by omega)]
 unfold okG Pb.ok Pb.rulesOk;rw [e1,e2,e3,e6,e7,e8]
theorem zlK {P : Pb} {Y : Tb} (hok : P.ok = true) (hY : TbOf P Y) : gd Y P.left = P.er.Domains ∧ In51 P.left := by
  have hG := Pb.good hok; have hn := hY.n; have hb : ∀ i, i < P.ds.length → ∀ q ∈ (nth P.ds i).chs, 2 ≤ q ∧ q ≤ 51 := fun i hi => (hG.chs _ (zak hi)).2; (have hleft : ∀ i, i < P.ds.length → nth P.left i = zbV (nth P.ds i).chs := fun i hi => by unfold Pb.left; rw [zaY hi]); constructor
  · refine zc8 (by rw [zbg, hn]; simp [Pb.er]) fun i hi => ?_; rw [zbg] at hi; (have hi' : i < P.ds.length := by omega); rw [zbA hi, hleft i hi']
    show _ = nth (P.ds.map Dx.er) i
    rw [zaL hi', hY.nth_st hi]; unfold Dx.er
    congr 1
    -- the channels of the word are the channels
    refine zcG (l := (List.range' 0 64).map fun j : Nat => (j : Int)) (chansN_sub.map _) ?_ (zdE List.nodup_range') (fun q => ?_)
    · exact zj2 hok hi'
    · rw [mapI_mem]; constructor
      · rintro ⟨j, hj, rfl⟩; exact (zdC (fun c hc => by have := hb i hi' c hc; omega)).1 (chansN_mem.1 hj)
      · intro hq; have h2 := hb i hi' q hq; refine ⟨q.toNat, chansN_mem.2 ((zdC (fun c hc => by have := hb i hi' c hc; omega)).2 ?_), by omega⟩; rw [Int.toNat_of_nonneg (by omega)]; exact hq
  · intro i j hj; rcases Nat.lt_or_ge i P.ds.length with hi | hi
    · rw [hleft i hi] at hj; have := hb i hi _ ((zdC (fun c hc => by have := hb i hi c hc; omega)).1 hj); omega
    · unfold nth at hj; rw [List.getD_eq_getElem?_getD, List.getElem?_eq_none (by unfold Pb.left; rw [List.length_map]; exact hi)] at hj; have hj' : (0#64).getLsbD j = true := hj; rw [BitVec.getLsbD_zero] at hj'
      cases hj'
structure SK where
 sp:Nat
 gl:GL
 tp:Nat
 w0:World
 Y:Tb
abbrev stL (k:SK)(L:Ws)(b:Bool):HS:=[sRow k.sp k.gl k.tp k.Y.n b,zaR k.gl k.Y.n L,Ent.fz k.w0]
abbrev stE (k:SK)(L:Ws)(b:Bool):Ent:= .bag (stL k L b)
structure SI (p:GProblem) (m:List GDomain×Bool) (k:SK) (L:Ws):Prop where
 pb:∃P:Pb,P.er=p∧P.ok=true∧TbOf P k.Y
 tb:TablesAt k.w0 k.tp k.Y
 len:L.length=k.Y.n
 good:m.2=true→Closed k.Y L∧In51 L∧m.1=gd k.Y L
 bad:m.2=false→m.1=[]
theorem SI.of {P:Pb}{k:SK}{T L:Ws}{c:Bool}(hok:P.ok=true)(hY:TbOf P k.Y)(ht:TablesAt k.w0 k.tp k.Y)(hT:T.length=k.Y.n)(hb:In51 T)(hI:Is k.Y T L c){fuel:Nat}(hf:100000≤fuel){r:List GDomain×Bool}(hr:zaZ fuel P.er (gd k.Y T)=some r):SI P.er r k L∧c= !r.2:=by
 have hG:=Pb.good hok;have hn:=hY.n;have h512:=hG.n
 obtain ⟨r',h1,h2⟩:=zdR (fuel:=fuel) (zlq hok) (zme (Y:=k.Y) (L:=T) (by omega)) (by rw [zbg];omega) (by
  have:totG (gd k.Y T)≤k.Y.n*64:=zma
  omega)
 rw [hr] at h1;obtain rfl:=Option.some.inj h1;have h3:=zk1 hok hY hb hI.fin h2
 cases c with
 |true=>
  rw [if_pos rfl] at h3;subst h3;exact ⟨⟨⟨P,rfl,hok,hY⟩,ht,hI.len,(fun h=>by cases h),fun _=>rfl⟩,rfl⟩
 |false=>
  rw [if_neg (by simp)] at h3;subst h3;exact ⟨⟨⟨P,rfl,hok,hY⟩,ht,hI.len,fun _=>⟨hI.good rfl,hb.le hI.sub,rfl⟩,(fun h=>by cases h)⟩,rfl⟩
section
variable {F0:Frz}{w:World}
theorem zmu {vd vp vl vc : Value} {cd : List (List Value)} {p : GProblem} (hF0 : F0.At w) (h : PbF F0 vd cd vp vl vc p) (htab : Tab w) (hv : okG p = true) {fuel : Nat} (hf : 100000 ≤ fuel) {r : List GDomain × Bool} (hr : zaZ fuel p p.Domains = some r) :
    Calls Tryz.prog 40 #[.agg [vd, vp, vl, vc].toArray] w fun e w' => ∃ y : SK × Ws, SI p r y.1 y.2 ∧ e = .returned (.tuple #[.pointer (some ⟨y.1.sp, 0, none⟩), .int .i64 0]) ∧ Hp w (fun _ => False) [stE y.1 y.2 (!r.2)] w' := by
  obtain ⟨P, rfl, hP⟩ := zjy h hF0; (have hok : P.ok = true := by rw [zmd]; exact hv); refine (zmv P vd vp vl vc w hP htab hok).mono ?_; rintro e w' ⟨⟨sp, gl, tp, Y, L, c, w0⟩, hN, rfl, hw⟩; dsimp only at hN hw ⊢; have hI := hN.is (Pb.good hok); obtain ⟨h1, h2⟩ := zlK hok hN.tb; rw [← h1] at hr; obtain ⟨h3, h4⟩ := SI.of (k := ⟨sp, gl, tp, w0, Y⟩) hok hN.tb hN.at' hI.tlen h2 hI hf hr; refine ⟨⟨⟨sp, gl, tp, w0, Y⟩, L⟩, h3, rfl, zhF ?_⟩
  show Hp w (fun _ => False) [sRow sp gl tp Y.n (!r.2), zaR gl Y.n L, Ent.fz w0] w'
  rw [hN.tb.n, ← h4]; exact hw
theorem zjh {vd vp vl vc : Value} {cd : List (List Value)} {p : GProblem} (hF0 : F0.At w) (h : PbF F0 vd cd vp vl vc p) (hv : okG p = false) :
    Calls Tryz.prog 40 #[.agg [vd, vp, vl, vc].toArray] w fun e w' => e = .returned (.tuple #[.pointer none, .int .i64 2]) ∧ Below w.heap.size w w' := by
  obtain ⟨P, rfl, hP⟩ := zjy h hF0; exact zlp P vd vp vl vc w hP (by rw [zmd]; exact hv)
end
def zbl (r_:GRules):Option Bool:=
 (bif (((decide (4096<(r_.Pairs.length:Int)))||(decide (1024<(r_.Loads.length:Int))))||(decide (1024<(r_.Caps.length:Int)))) then
  some false
  else
  zaw (fun (_:Unit)=>
   zaw (fun (_:Unit)=>
    zaw (fun (_:Unit)=>
     some true)
    (fun k32=>
     zal (fun (i_34:Nat) (next33:Unit→Option Bool) (_:Unit)=>
      zaw (fun (x_36:Bool)=>
       (bif x_36 then
        some false
        else
        next33 ()))
      (fun k37=>
       (bif !(zao ((nth r_.Caps i_34).Station)) then
        k37 true
        else
        (bif decide ((nth r_.Caps i_34).Max<0) then
         k37 true
         else
         (bif decide (1099511627776<(nth r_.Caps i_34).Max) then
          k37 true
          else
          (bif !(za0 ((nth r_.Caps i_34).Low) ((nth r_.Caps i_34).High)) then
           k37 true
           else
           (bif decide (0<(i_34:Int)) then
            (za7 (zaI (nth r_.Caps (((i_34:Int) - 1).toNat))) (zaI (nth r_.Caps i_34))).bind fun r200=>
            k37 (!r200)
            else
            k37 false)))))))
     (fun (_:Unit)=>
      k32 ()) (r_.Caps.length - 0) 0 ()))
   (fun k18=>
    zal (fun (i_20:Nat) (next19:Unit→Option Bool) (_:Unit)=>
     zaw (fun (x_22:Bool)=>
      (bif x_22 then
       some false
       else
       next19 ()))
     (fun k23=>
      (bif !(zao ((nth r_.Loads i_20).To)) then
       k23 true
       else
       (bif !(zao ((nth r_.Loads i_20).From)) then
        k23 true
        else
        (bif decide ((nth r_.Loads i_20).To=(nth r_.Loads i_20).From) then
         k23 true
         else
         (bif decide ((nth r_.Loads i_20).Weight<1) then
          k23 true
          else
          (bif decide (1073741824<(nth r_.Loads i_20).Weight) then
           k23 true
           else
           (bif !(za0 ((nth r_.Loads i_20).Low) ((nth r_.Loads i_20).High)) then
            k23 true
            else
            (bif decide (0<(i_20:Int)) then
             (za7 (zaz (nth r_.Loads (((i_20:Int) - 1).toNat))) (zaz (nth r_.Loads i_20))).bind fun r149=>
             k23 (!r149)
             else
             k23 false)))))))))
    (fun (_:Unit)=>
     k18 ()) (r_.Loads.length - 0) 0 ()))
  (fun k4=>
   zal (fun (i_6:Nat) (next5:Unit→Option Bool) (_:Unit)=>
    zaw (fun (x_8:Bool)=>
     (bif x_8 then
      some false
      else
      next5 ()))
    (fun k9=>
     (bif !(zao ((nth r_.Pairs i_6).A)) then
      k9 true
      else
      (bif !(zao ((nth r_.Pairs i_6).B)) then
       k9 true
       else
       (bif decide ((nth r_.Pairs i_6).B≤(nth r_.Pairs i_6).A) then
        k9 true
        else
        (bif decide ((nth r_.Pairs i_6).Offset<(-1)) then
         k9 true
         else
         (bif decide (1<(nth r_.Pairs i_6).Offset) then
          k9 true
          else
          (bif !(za0 ((nth r_.Pairs i_6).Low) ((nth r_.Pairs i_6).High)) then
           k9 true
           else
           (bif decide (0<(i_6:Int)) then
            (za7 (zaA (nth r_.Pairs (((i_6:Int) - 1).toNat))) (zaA (nth r_.Pairs i_6))).bind fun r85=>
            k9 (!r85)
            else
            k9 false)))))))))
   (fun (_:Unit)=>
    k4 ()) (r_.Pairs.length - 0) 0 ()))
theorem zen (F0:Frz)(w:World)(hF0:F0.At w)(r_:GRules)(vr__0:Value)(hr__0:SlC F0 vr__0 5 (r_.Pairs.map GPair.enc))(vr__1:Value)(hr__1:SlC F0 vr__1 5 (r_.Loads.map GLoad.enc))(vr__2:Value)(hr__2:SlC F0 vr__2 4 (r_.Caps.map GCap.enc))(r:Bool)(hr:zbl r_=some r):Calls Tryz.prog 35 #[.agg [vr__0,vr__1,vr__2].toArray] w fun e w'=>e= .returned (.bool r)∧Below w.heap.size w w':=by
 have hk:=hr;unfold zbl at hk;haveI:=hr__0.oneC;haveI:=hr__1.oneC;haveI:=hr__2.oneC;obtain ⟨S0,F1,rfl,hS0,hp0⟩:=zau hF0;refine zac Tryz.func35 rfl rfl rfl hp0 ?_;refine T.sr ?_;refine TL.e (Ew.aC rfl rfl) ?_;rintro _ _ ⟨g1,rfl,rfl⟩;refine TL.run 1 rfl ?_;refine TL.ns (T.seq (T.seq ?_));refine T.am (ι:=Unit) (fun z=>[(1, .pointer (some ⟨g1,0,none⟩)),(24, .bool (((decide (4096<(r_.Pairs.length:Int)))||(decide (1024<(r_.Loads.length:Int))))||(decide (1024<(r_.Caps.length:Int)))))]) (fun z=>[.row g1 27 [vr__0,vr__1,vr__2], .fr F1]) (fun z=>True) ?_ ?_
 ·refine T.region ?_;refine TL.y (Yv.fieldAddr rfl rfl) ?_;refine TL.y (Yv.ac 0 rfl rfl rfl rfl) ?_;refine TL.y (Yv.ax rfl rfl hr__0 (List.length_map _)) ?_;have hm11:r_.Pairs.length≤9223372036854775807:=(List.length_map _)▸hr__0.max;refine TL.run 2 rfl ?_;refine TL.gs rfl rfl rfl (fun h1=>?_) (fun h1=>?_)
  ·have p1:=of_decide_eq_true h1;refine TL.run 11 rfl ?_;refine TL.nil ?_;exact K.aj () trivial (.c (.b (zby (zby h1)).symm .nil)) (List.Sublist.refl _)
  ·have p1:=of_decide_eq_false h1;refine TL.y (Yv.fieldAddr rfl rfl) ?_;refine TL.y (Yv.ac 0 rfl rfl rfl rfl) ?_;refine TL.y (Yv.ax rfl rfl hr__1 (List.length_map _)) ?_;have hm16:r_.Loads.length≤9223372036854775807:=(List.length_map _)▸hr__1.max;refine TL.run 3 rfl ?_;refine TL.gs rfl rfl rfl (fun h2=>?_) (fun h2=>?_)
   ·have p2:=of_decide_eq_true h2;refine TL.run 5 rfl ?_;refine TL.nil ?_;exact K.aj () trivial (.c (.b (zby (zb1 h1 h2)).symm .nil)) (List.Sublist.refl _)
   ·have p2:=of_decide_eq_false h2;refine TL.y (Yv.fieldAddr rfl rfl) ?_;refine TL.y (Yv.ac 0 rfl rfl rfl rfl) ?_;refine TL.y (Yv.ax rfl rfl hr__2 (List.length_map _)) ?_;have hm22:r_.Caps.length≤9223372036854775807:=(List.length_map _)▸hr__2.max;refine TL.run 2 rfl ?_;refine TL.nil ?_;exact K.aj () trivial (.c (.b (or_f (zb1 h1 h2)) .nil)) (List.Sublist.refl _)
 ·rintro _ _;have hm11:r_.Pairs.length≤9223372036854775807:=(List.length_map _)▸hr__0.max;have hm16:r_.Loads.length≤9223372036854775807:=(List.length_map _)▸hr__1.max;have hm22:r_.Caps.length≤9223372036854775807:=(List.length_map _)▸hr__2.max;refine T.cond rfl (fun h3=>?_) (fun h3=>?_)
  ·replace hk:=zab hk h3;refine T.sr ?_;refine TL.run 1 rfl ?_;refine TL.ns (T.ret (K.aa ?_));obtain rfl:=Option.some.inj hk;exact K.ag rfl rfl (fun w' hw=>⟨rfl,hw.isBelow⟩)
  ·have p3:=h3; (try simp only [nfB] at p3);replace hk:=zaa hk h3;refine T.skip (K.seq (T.seq (T.sr ?_)));refine TL.run 1 rfl ?_;refine TL.ns ?_;have hq:=zai hk;clear hk;obtain ⟨k4,hk4,hk⟩:=hq; (try dsimp only at hk);refine T.am (ι:=FzB w (fun _=>False) S0) (fun z=>[(1, .pointer (some ⟨g1,0,none⟩))]) (fun z=>[.row g1 27 [vr__0,vr__1,vr__2], .fr z]) (fun z=>k4 ()=some r∧F1.toFrz.Le z.toFrz) ?_ ?_
   ·have hq:=zar hk;clear hk;obtain ⟨f5,kk5,hf5,hkk5,hk⟩:=hq;refine T.block ?_;refine T.loop (ι:=Nat×FzB w (fun _=>False) S0) (fun z=>[(1, .pointer (some ⟨g1,0,none⟩)),(3, .int .i64 (z.1:Int))]) (fun z=>[.row g1 27 [vr__0,vr__1,vr__2], .fr z.2]) (fun z=>zal f5 kk5 (r_.Pairs.length - z.1) z.1 ()=some r∧F1.toFrz.Le z.2.toFrz) (fun z=>r_.Pairs.length - z.1) (0,F1) ?_ ?_ ?_ ?_
    ·exact ⟨hk,(Frz.Le.refl _)⟩
    ·exact (.c (.c .nil))
    ·exact List.Sublist.refl _
    ·rintro ⟨i_6,F3⟩ ⟨hk,le1_3⟩; (try dsimp only at *);refine T.seq (T.sr ?_);refine TL.run 1 rfl ?_;refine TL.y (Yv.fieldAddr rfl rfl) ?_;refine TL.y (Yv.ac 0 rfl rfl rfl rfl) ?_;refine TL.y (Yv.ax rfl rfl (SlC.mono hr__0 le1_3) (List.length_map _)) ?_;refine TL.run 1 rfl ?_;refine TL.ns ?_;refine T.cond rfl (fun h7=>?_) (fun h7=>?_)
     ·have p7:=of_decide_eq_true h7;rw [zaD (by omega)] at hk;generalize hn5:zal f5 kk5 (r_.Pairs.length - (i_6+1)) (i_6+1)=next5 at hk;rw [←hf5] at hk; (try dsimp only at hk);refine T.skip (K.seq (T.seq (T.block (T.sr ?_))));refine TL.y (Yv.fieldAddr rfl rfl) ?_;refine TL.y (Yv.ac 0 rfl rfl rfl rfl) ?_;refine TL.run 1 rfl ?_;refine TL.y (Yv.aw (i:=i_6) rfl rfl rfl (SlC.mono hr__0 le1_3) (List.length_map _) rfl (by omega)) ?_;refine TL.y (Yv.aN 1 (i:=i_6) rfl rfl rfl (SlC.mono hr__0 le1_3) (by omega) rfl rfl rfl) ?_;refine TL.e (Ew.alloc rfl) ?_;rintro _ _ ⟨g4,rfl,rfl⟩;refine TL.e0 (Ew.ak 0 rfl rfl rfl rfl rfl rfl) ?_;rintro _ _ ⟨rfl,rfl⟩;refine TL.ns (T.seq ?_); (try dsimp only at hk);have hq:=zai hk;clear hk;obtain ⟨k9,hk9,hk⟩:=hq; (try dsimp only at hk);refine T.am (ι:=Bool×FzB w (fun _=>False) S0) (fun z=>[(1, .pointer (some ⟨g1,0,none⟩)),(3, .int .i64 (i_6:Int)),(88, .bool z.1)]) (fun z=>[.row g1 27 [vr__0,vr__1,vr__2], .fr z.2]) (fun z=>k9 z.1=some r∧F3.toFrz.Le z.2.toFrz) ?_ ?_
      ·refine T.aq (.still 0 (.still 1 (.eff 2 (.still 3 (.still 4 (.still 5 (.still 6 (.eff 7 (.still 8 (.still 9 (.still 10 (.still 11 (.still 12 (.still 13 (.still 14 (.still 15 (.still 16 (.still 17 (.still 18 (.still 19 (.still 20 (.still 21 (.still 22 (.still 23 (.still 24 (.still 25 (.still 26 (.still 27 (.still 28 (.still 29 (.still 30 (.still 31 (.eff 32 (.still 33 (.still 34 (.still 35 (.still 36 (.still 37 (.still 38 (.still 39 (.still 40 (.still 41 (.still 42 (.still 43 (.still 44 (.still 46 (.eff 45 (.eff 47 (.eff 48 (.still 49 (.still 50 (.still 51 .done)))))))))))))))))))))))))))))))))))))))))))))))))))) _ (by kernel_rfl) (List.Sublist.refl _) ?_;refine TS.y rfl (Yv.fieldAddr rfl rfl) ?_;refine TS.y rfl (Yv.ac 0 rfl rfl rfl rfl) ?_;refine TS.eff ?_;refine TSo.aF rfl (Wt.none rfl) rfl rfl (Ew.af rfl rfl rfl (fun w hw=>zbf _ w (hw.fr (i:=2) rfl) ((nth r_.Pairs i_6).A))) ?_;rintro _ _ ⟨rfl,rfl⟩;refine ⟨(fun w hw=>hw.sub Sx),?_⟩;refine TS.run 2 rfl ?_;refine TS.gs rfl rfl rfl rfl (fun h10=>?_) (fun h10=>?_)
       ·replace hk:=zab hk h10;refine TS.run 2 rfl ?_;refine TS.eff ?_;refine TSo.off rfl (Wt.not rfl rfl rfl rfl) rfl rfl ?_;refine TS.run 24 rfl ?_;refine TS.eff ?_;refine TSo.off rfl (Wt.not rfl rfl rfl rfl) rfl rfl ?_;refine TS.run 13 rfl ?_;refine TS.eff ?_;refine TSo.off rfl (Wt.undef rfl rfl rfl) rfl rfl ?_;refine TS.eff ?_;refine TSo.off rfl (Wt.undef rfl rfl rfl) rfl rfl ?_;refine TS.eff ?_;refine TSo.off rfl (Wt.undef rfl rfl rfl) rfl rfl ?_;refine TS.run 3 rfl ?_;refine TS.done ?_;refine K.pick [1,2] rfl (by decide) ?_;exact K.aj (true,F3) ⟨hk,(Frz.Le.refl _)⟩ (.c (.c (.c .nil))) (List.Sublist.refl _)
       ·replace hk:=zaa hk h10;refine TS.y rfl (Yv.fieldAddr rfl rfl) ?_;refine TS.y rfl (Yv.ac 0 rfl rfl rfl rfl) ?_;refine TS.eff ?_;refine TSo.aF rfl (Wt.some rfl rfl rfl rfl) rfl rfl (Ew.af rfl rfl rfl (fun w hw=>zbf _ w (hw.fr (i:=2) rfl) ((nth r_.Pairs i_6).B))) ?_;rintro _ _ ⟨rfl,rfl⟩;refine ⟨(fun w hw=>hw.sub Sx),?_⟩;refine TS.run 3 rfl ?_;refine TS.gs rfl rfl rfl rfl (fun h11=>?_) (fun h11=>?_)
        ·replace hk:=zab hk h11;refine TS.run 21 rfl ?_;refine TS.eff ?_;refine TSo.off rfl (Wt.not rfl rfl rfl rfl) rfl rfl ?_;refine TS.run 13 rfl ?_;refine TS.eff ?_;refine TSo.off rfl (Wt.undef rfl rfl rfl) rfl rfl ?_;refine TS.eff ?_;refine TSo.off rfl (Wt.undef rfl rfl rfl) rfl rfl ?_;refine TS.eff ?_;refine TSo.off rfl (Wt.undef rfl rfl rfl) rfl rfl ?_;refine TS.run 3 rfl ?_;refine TS.done ?_;refine K.pick [1,2] rfl (by decide) ?_;exact K.aj (true,F3) ⟨hk,(Frz.Le.refl _)⟩ (.c (.c (.c .nil))) (List.Sublist.refl _)
        ·replace hk:=zaa hk h11;refine TS.y rfl (Yv.fieldAddr rfl rfl) ?_;refine TS.y rfl (Yv.ac 0 rfl rfl rfl rfl) ?_;refine TS.y rfl (Yv.fieldAddr rfl rfl) ?_;refine TS.y rfl (Yv.ac 0 rfl rfl rfl rfl) ?_;refine TS.run 3 rfl ?_;refine TS.gs rfl rfl rfl rfl (fun h12=>?_) (fun h12=>?_)
         ·have p12:=of_decide_eq_true h12;replace hk:=zab hk h12;refine TS.run 14 rfl ?_;refine TS.eff ?_;refine TSo.off rfl (Wt.not rfl rfl rfl rfl) rfl rfl ?_;refine TS.run 13 rfl ?_;refine TS.eff ?_;refine TSo.off rfl (Wt.undef rfl rfl rfl) rfl rfl ?_;refine TS.eff ?_;refine TSo.off rfl (Wt.undef rfl rfl rfl) rfl rfl ?_;refine TS.eff ?_;refine TSo.off rfl (Wt.undef rfl rfl rfl) rfl rfl ?_;refine TS.run 3 rfl ?_;refine TS.done ?_;refine K.pick [1,2] rfl (by decide) ?_;exact K.aj (true,F3) ⟨hk,(Frz.Le.refl _)⟩ (.c (.c (.c .nil))) (List.Sublist.refl _)
         ·have p12:=of_decide_eq_false h12;replace hk:=zaa hk h12;refine TS.y rfl (Yv.fieldAddr rfl rfl) ?_;refine TS.y rfl (Yv.ac 0 rfl rfl rfl rfl) ?_;refine TS.run 3 rfl ?_;refine TS.gs rfl rfl rfl rfl (fun h13=>?_) (fun h13=>?_)
          ·have p13:=of_decide_eq_true h13;replace hk:=zab hk h13;refine TS.run 9 rfl ?_;refine TS.eff ?_;refine TSo.off rfl (Wt.not rfl rfl rfl rfl) rfl rfl ?_;refine TS.run 13 rfl ?_;refine TS.eff ?_;refine TSo.off rfl (Wt.undef rfl rfl rfl) rfl rfl ?_;refine TS.eff ?_;refine TSo.off rfl (Wt.undef rfl rfl rfl) rfl rfl ?_;refine TS.eff ?_;refine TSo.off rfl (Wt.undef rfl rfl rfl) rfl rfl ?_;refine TS.run 3 rfl ?_;refine TS.done ?_;refine K.pick [1,2] rfl (by decide) ?_;exact K.aj (true,F3) ⟨hk,(Frz.Le.refl _)⟩ (.c (.c (.c .nil))) (List.Sublist.refl _)
          ·have p13:=of_decide_eq_false h13;replace hk:=zaa hk h13;refine TS.y rfl (Yv.fieldAddr rfl rfl) ?_;refine TS.y rfl (Yv.ac 0 rfl rfl rfl rfl) ?_;refine TS.run 3 rfl ?_;refine TS.gs rfl rfl rfl rfl (fun h14=>?_) (fun h14=>?_)
           ·have p14:=of_decide_eq_true h14;replace hk:=zab hk h14;refine TS.run 4 rfl ?_;refine TS.eff ?_;refine TSo.off rfl (Wt.not rfl rfl rfl rfl) rfl rfl ?_;refine TS.run 13 rfl ?_;refine TS.eff ?_;refine TSo.off rfl (Wt.undef rfl rfl rfl) rfl rfl ?_;refine TS.eff ?_;refine TSo.off rfl (Wt.undef rfl rfl rfl) rfl rfl ?_;refine TS.eff ?_;refine TSo.off rfl (Wt.undef rfl rfl rfl) rfl rfl ?_;refine TS.run 3 rfl ?_;refine TS.done ?_;refine K.pick [1,2] rfl (by decide) ?_;exact K.aj (true,F3) ⟨hk,(Frz.Le.refl _)⟩ (.c (.c (.c .nil))) (List.Sublist.refl _)
           ·have p14:=of_decide_eq_false h14;replace hk:=zaa hk h14;refine TS.y rfl (Yv.fieldAddr rfl rfl) ?_;refine TS.y rfl (Yv.ac 0 rfl rfl rfl rfl) ?_;refine TS.y rfl (Yv.fieldAddr rfl rfl) ?_;refine TS.y rfl (Yv.ac 0 rfl rfl rfl rfl) ?_;refine TS.eff ?_;refine TSo.aF rfl (Wt.some rfl rfl rfl rfl) rfl rfl (Ew.af rfl rfl rfl (fun w hw=>zdr _ w (hw.fr (i:=2) rfl) ((nth r_.Pairs i_6).Low) ((nth r_.Pairs i_6).High))) ?_;rintro _ _ ⟨rfl,rfl⟩;refine ⟨(fun w hw=>hw.sub Sx),?_⟩;refine TS.run 3 rfl ?_;refine TS.gs rfl rfl rfl rfl (fun h15=>?_) (fun h15=>?_)
            ·replace hk:=zab hk h15;refine TS.run 10 rfl ?_;refine TS.eff ?_;refine TSo.off rfl (Wt.undef rfl rfl rfl) rfl rfl ?_;refine TS.eff ?_;refine TSo.off rfl (Wt.undef rfl rfl rfl) rfl rfl ?_;refine TS.eff ?_;refine TSo.off rfl (Wt.undef rfl rfl rfl) rfl rfl ?_;refine TS.run 3 rfl ?_;refine TS.done ?_;refine K.pick [1,2] rfl (by decide) ?_;exact K.aj (true,F3) ⟨hk,(Frz.Le.refl _)⟩ (.c (.c (.c .nil))) (List.Sublist.refl _)
            ·replace hk:=zaa hk h15;refine TS.run 3 rfl ?_;refine TS.gs rfl rfl rfl rfl (fun h16=>?_) (fun h16=>?_)
             ·have p16:=of_decide_eq_true h16;replace hk:=zab hk h16;refine TS.y rfl (Yv.fieldAddr rfl rfl) ?_;refine TS.y rfl (Yv.ac 1 rfl rfl rfl rfl) ?_;refine TS.run 1 rfl ?_;refine TS.y rfl (Yv.aQ rfl rfl rfl (by omega)) ?_;refine TS.y rfl (Yv.aw (i:=((i_6:Int) - 1).toNat) rfl rfl rfl (SlC.mono hr__0 le1_3) (List.length_map _) (by omega) (by omega)) ?_;refine TS.y rfl (Yv.aN 2 (i:=((i_6:Int) - 1).toNat) rfl rfl rfl (SlC.mono hr__0 le1_3) (by omega) rfl rfl rfl) ?_;refine TS.y rfl (Yv.al 0 rfl rfl rfl rfl) ?_;refine TS.eff ?_;refine TSo.aF rfl (Wt.some rfl rfl rfl rfl) rfl rfl (Ew.aU 2 rfl rfl rfl rfl (fun w hw hF=>zdN _ w hF (nth r_.Pairs (((i_6:Int) - 1).toNat)))) ?_;rintro _ _ ⟨v82_0_0,F5,le3_5,hf82_0_0,hq,rfl⟩;obtain rfl:=hq.symm;haveI:=hf82_0_0.oneC;refine ⟨(fun w hw=>(hw.frLe (i:=2) rfl le3_5).sub Sx),?_⟩;refine TS.eff ?_;refine TSo.aF rfl (Wt.some rfl rfl rfl rfl) rfl rfl (Ew.aU 2 rfl rfl rfl rfl (fun w hw hF=>zdN _ w hF (nth r_.Pairs i_6))) ?_;rintro _ _ ⟨v84_0_0,F6,le5_6,hf84_0_0,hq,rfl⟩;obtain rfl:=hq.symm;have le3_6:=le3_5.trans le5_6;haveI:=hf84_0_0.oneC;refine ⟨(fun w hw=>(hw.frLe (i:=2) rfl le3_6).sub Sx),?_⟩;refine TS.eff ?_;have hq:=zah hk;clear hk;obtain ⟨r85,hr85,hk⟩:=hq;refine TSo.aF rfl (Wt.some rfl rfl rfl rfl) rfl rfl (Ew.af rfl rfl rfl (fun w hw=>zdi _ w (hw.fr (i:=2) rfl) (zaA (nth r_.Pairs (((i_6:Int) - 1).toNat))) v82_0_0 (SlC.mono hf82_0_0 le5_6) (zaA (nth r_.Pairs i_6)) v84_0_0 hf84_0_0 r85 hr85)) ?_;rintro _ _ ⟨rfl,rfl⟩;refine ⟨(fun w hw=>(hw.frLe (i:=2) rfl le3_6).sub Sx),?_⟩;refine TS.run 3 rfl ?_;refine TS.done ?_;refine K.pick [1,2] rfl (by decide) ?_;exact K.aj (!r85,F6) ⟨hk,le3_6⟩ (.c (.c (.c .nil))) (List.Sublist.refl _)
             ·have p16:=of_decide_eq_false h16;replace hk:=zaa hk h16;refine TS.run 7 rfl ?_;refine TS.eff ?_;refine TSo.off rfl (Wt.not rfl rfl rfl rfl) rfl rfl ?_;refine TS.eff ?_;refine TSo.off rfl (Wt.not rfl rfl rfl rfl) rfl rfl ?_;refine TS.eff ?_;refine TSo.off rfl (Wt.not rfl rfl rfl rfl) rfl rfl ?_;refine TS.run 3 rfl ?_;refine TS.done ?_;refine K.pick [1,2] rfl (by decide) ?_;exact K.aj (false,F3) ⟨hk,(Frz.Le.refl _)⟩ (.c (.c (.c .nil))) (List.Sublist.refl _)
      ·rintro ⟨x_8,F4⟩ ⟨hk,le3_4⟩; (try dsimp only at *);rw [←hk9] at hk; (try dsimp only at hk);have le1_4:=le1_3.trans le3_4;refine T.cond rfl (fun h17=>?_) (fun h17=>?_)
       ·replace hk:=zab hk h17;refine T.sr ?_;refine TL.run 1 rfl ?_;refine TL.ns (T.ret (K.ah (K.aa (K.aa (K.ah (K.aa ?_))))));obtain rfl:=Option.some.inj hk;exact K.ag rfl rfl (fun w' hw=>⟨rfl,hw.isBelow⟩)
       ·replace hk:=zaa hk h17;refine T.skip (K.ad (K.seq (T.region ?_)));refine TL.run 1 rfl ?_;refine TL.y (Yv.an rfl rfl rfl (by omega)) ?_;refine TL.run 1 rfl ?_;refine TL.nil ?_;rw [←hn5] at hk;exact K.next ((i_6+1),F4) ⟨hk,le1_4⟩ (by dsimp only;omega) (.c (.c .nil)) (List.Sublist.refl _)
     ·have p7:=of_decide_eq_false h7;rw [zaF (by omega),←hkk5] at hk; (try dsimp only at hk);refine T.exit (K.ab (K.ab (K.ae ?_)));exact K.aj F3 ⟨hk,le1_3⟩ (.c .nil) (List.Sublist.refl _)
   ·rintro F2 ⟨hk,le1_2⟩;rw [←hk4] at hk; (try dsimp only at hk);refine T.seq (T.sr ?_);refine TL.run 1 rfl ?_;refine TL.ns ?_;have hq:=zai hk;clear hk;obtain ⟨k18,hk18,hk⟩:=hq; (try dsimp only at hk);refine T.am (ι:=FzB w (fun _=>False) S0) (fun z=>[(1, .pointer (some ⟨g1,0,none⟩))]) (fun z=>[.row g1 27 [vr__0,vr__1,vr__2], .fr z]) (fun z=>k18 ()=some r∧F2.toFrz.Le z.toFrz) ?_ ?_
    ·have hq:=zar hk;clear hk;obtain ⟨f19,kk19,hf19,hkk19,hk⟩:=hq;refine T.block ?_;refine T.loop (ι:=Nat×FzB w (fun _=>False) S0) (fun z=>[(1, .pointer (some ⟨g1,0,none⟩)),(5, .int .i64 (z.1:Int))]) (fun z=>[.row g1 27 [vr__0,vr__1,vr__2], .fr z.2]) (fun z=>zal f19 kk19 (r_.Loads.length - z.1) z.1 ()=some r∧F2.toFrz.Le z.2.toFrz) (fun z=>r_.Loads.length - z.1) (0,F2) ?_ ?_ ?_ ?_
     ·exact ⟨hk,(Frz.Le.refl _)⟩
     ·exact (.c (.c .nil))
     ·exact List.Sublist.refl _
     ·rintro ⟨i_20,F8⟩ ⟨hk,le2_8⟩; (try dsimp only at *);have le1_8:=le1_2.trans le2_8;refine T.seq (T.sr ?_);refine TL.run 1 rfl ?_;refine TL.y (Yv.fieldAddr rfl rfl) ?_;refine TL.y (Yv.ac 0 rfl rfl rfl rfl) ?_;refine TL.y (Yv.ax rfl rfl (SlC.mono hr__1 le1_8) (List.length_map _)) ?_;refine TL.run 1 rfl ?_;refine TL.ns ?_;refine T.cond rfl (fun h21=>?_) (fun h21=>?_)
      ·have p21:=of_decide_eq_true h21;rw [zaD (by omega)] at hk;generalize hn19:zal f19 kk19 (r_.Loads.length - (i_20+1)) (i_20+1)=next19 at hk;rw [←hf19] at hk; (try dsimp only at hk);refine T.skip (K.seq (T.seq (T.block (T.sr ?_))));refine TL.y (Yv.fieldAddr rfl rfl) ?_;refine TL.y (Yv.ac 0 rfl rfl rfl rfl) ?_;refine TL.run 1 rfl ?_;refine TL.y (Yv.aw (i:=i_20) rfl rfl rfl (SlC.mono hr__1 le1_8) (List.length_map _) rfl (by omega)) ?_;refine TL.y (Yv.aN 1 (i:=i_20) rfl rfl rfl (SlC.mono hr__1 le1_8) (by omega) rfl rfl rfl) ?_;refine TL.e (Ew.alloc rfl) ?_;rintro _ _ ⟨g6,rfl,rfl⟩;refine TL.e0 (Ew.ak 0 rfl rfl rfl rfl rfl rfl) ?_;rintro _ _ ⟨rfl,rfl⟩;refine TL.ns (T.seq ?_); (try dsimp only at hk);have hq:=zai hk;clear hk;obtain ⟨k23,hk23,hk⟩:=hq; (try dsimp only at hk);refine T.am (ι:=Bool×FzB w (fun _=>False) S0) (fun z=>[(1, .pointer (some ⟨g1,0,none⟩)),(5, .int .i64 (i_20:Int)),(152, .bool z.1)]) (fun z=>[.row g1 27 [vr__0,vr__1,vr__2], .fr z.2]) (fun z=>k23 z.1=some r∧F8.toFrz.Le z.2.toFrz) ?_ ?_
       ·refine T.aq (.still 0 (.still 1 (.eff 2 (.still 3 (.still 4 (.still 5 (.still 6 (.eff 7 (.still 8 (.still 9 (.still 10 (.still 11 (.still 12 (.still 13 (.still 14 (.still 15 (.still 16 (.still 17 (.still 18 (.still 19 (.still 20 (.still 21 (.still 22 (.still 23 (.still 24 (.still 25 (.still 26 (.still 27 (.still 28 (.still 29 (.still 30 (.still 31 (.eff 32 (.still 33 (.still 34 (.still 35 (.still 36 (.still 37 (.still 38 (.still 39 (.still 40 (.still 41 (.still 42 (.still 43 (.still 44 (.still 46 (.eff 45 (.eff 47 (.eff 48 (.still 49 (.still 50 (.still 51 .done)))))))))))))))))))))))))))))))))))))))))))))))))))) _ (by kernel_rfl) (List.Sublist.refl _) ?_;refine TS.y rfl (Yv.fieldAddr rfl rfl) ?_;refine TS.y rfl (Yv.ac 0 rfl rfl rfl rfl) ?_;refine TS.eff ?_;refine TSo.aF rfl (Wt.none rfl) rfl rfl (Ew.af rfl rfl rfl (fun w hw=>zbf _ w (hw.fr (i:=2) rfl) ((nth r_.Loads i_20).To))) ?_;rintro _ _ ⟨rfl,rfl⟩;refine ⟨(fun w hw=>hw.sub Sx),?_⟩;refine TS.run 2 rfl ?_;refine TS.gs rfl rfl rfl rfl (fun h24=>?_) (fun h24=>?_)
        ·replace hk:=zab hk h24;refine TS.run 2 rfl ?_;refine TS.eff ?_;refine TSo.off rfl (Wt.not rfl rfl rfl rfl) rfl rfl ?_;refine TS.run 24 rfl ?_;refine TS.eff ?_;refine TSo.off rfl (Wt.not rfl rfl rfl rfl) rfl rfl ?_;refine TS.run 13 rfl ?_;refine TS.eff ?_;refine TSo.off rfl (Wt.undef rfl rfl rfl) rfl rfl ?_;refine TS.eff ?_;refine TSo.off rfl (Wt.undef rfl rfl rfl) rfl rfl ?_;refine TS.eff ?_;refine TSo.off rfl (Wt.undef rfl rfl rfl) rfl rfl ?_;refine TS.run 3 rfl ?_;refine TS.done ?_;refine K.pick [1,2] rfl (by decide) ?_;exact K.aj (true,F8) ⟨hk,(Frz.Le.refl _)⟩ (.c (.c (.c .nil))) (List.Sublist.refl _)
        ·replace hk:=zaa hk h24;refine TS.y rfl (Yv.fieldAddr rfl rfl) ?_;refine TS.y rfl (Yv.ac 0 rfl rfl rfl rfl) ?_;refine TS.eff ?_;refine TSo.aF rfl (Wt.some rfl rfl rfl rfl) rfl rfl (Ew.af rfl rfl rfl (fun w hw=>zbf _ w (hw.fr (i:=2) rfl) ((nth r_.Loads i_20).From))) ?_;rintro _ _ ⟨rfl,rfl⟩;refine ⟨(fun w hw=>hw.sub Sx),?_⟩;refine TS.run 3 rfl ?_;refine TS.gs rfl rfl rfl rfl (fun h25=>?_) (fun h25=>?_)
         ·replace hk:=zab hk h25;refine TS.run 21 rfl ?_;refine TS.eff ?_;refine TSo.off rfl (Wt.not rfl rfl rfl rfl) rfl rfl ?_;refine TS.run 13 rfl ?_;refine TS.eff ?_;refine TSo.off rfl (Wt.undef rfl rfl rfl) rfl rfl ?_;refine TS.eff ?_;refine TSo.off rfl (Wt.undef rfl rfl rfl) rfl rfl ?_;refine TS.eff ?_;refine TSo.off rfl (Wt.undef rfl rfl rfl) rfl rfl ?_;refine TS.run 3 rfl ?_;refine TS.done ?_;refine K.pick [1,2] rfl (by decide) ?_;exact K.aj (true,F8) ⟨hk,(Frz.Le.refl _)⟩ (.c (.c (.c .nil))) (List.Sublist.refl _)
         ·replace hk:=zaa hk h25;refine TS.y rfl (Yv.fieldAddr rfl rfl) ?_;refine TS.y rfl (Yv.ac 0 rfl rfl rfl rfl) ?_;refine TS.y rfl (Yv.fieldAddr rfl rfl) ?_;refine TS.y rfl (Yv.ac 0 rfl rfl rfl rfl) ?_;refine TS.run 3 rfl ?_;refine TS.gs rfl rfl rfl rfl (fun h26=>?_) (fun h26=>?_)
          ·have p26:=of_decide_eq_true h26;replace hk:=zab hk h26;refine TS.run 14 rfl ?_;refine TS.eff ?_;refine TSo.off rfl (Wt.not rfl rfl rfl rfl) rfl rfl ?_;refine TS.run 13 rfl ?_;refine TS.eff ?_;refine TSo.off rfl (Wt.undef rfl rfl rfl) rfl rfl ?_;refine TS.eff ?_;refine TSo.off rfl (Wt.undef rfl rfl rfl) rfl rfl ?_;refine TS.eff ?_;refine TSo.off rfl (Wt.undef rfl rfl rfl) rfl rfl ?_;refine TS.run 3 rfl ?_;refine TS.done ?_;refine K.pick [1,2] rfl (by decide) ?_;exact K.aj (true,F8) ⟨hk,(Frz.Le.refl _)⟩ (.c (.c (.c .nil))) (List.Sublist.refl _)
          ·have p26:=of_decide_eq_false h26;replace hk:=zaa hk h26;refine TS.y rfl (Yv.fieldAddr rfl rfl) ?_;refine TS.y rfl (Yv.ac 0 rfl rfl rfl rfl) ?_;refine TS.run 3 rfl ?_;refine TS.gs rfl rfl rfl rfl (fun h27=>?_) (fun h27=>?_)
           ·have p27:=of_decide_eq_true h27;replace hk:=zab hk h27;refine TS.run 9 rfl ?_;refine TS.eff ?_;refine TSo.off rfl (Wt.not rfl rfl rfl rfl) rfl rfl ?_;refine TS.run 13 rfl ?_;refine TS.eff ?_;refine TSo.off rfl (Wt.undef rfl rfl rfl) rfl rfl ?_;refine TS.eff ?_;refine TSo.off rfl (Wt.undef rfl rfl rfl) rfl rfl ?_;refine TS.eff ?_;refine TSo.off rfl (Wt.undef rfl rfl rfl) rfl rfl ?_;refine TS.run 3 rfl ?_;refine TS.done ?_;refine K.pick [1,2] rfl (by decide) ?_;exact K.aj (true,F8) ⟨hk,(Frz.Le.refl _)⟩ (.c (.c (.c .nil))) (List.Sublist.refl _)
           ·have p27:=of_decide_eq_false h27;replace hk:=zaa hk h27;refine TS.y rfl (Yv.fieldAddr rfl rfl) ?_;refine TS.y rfl (Yv.ac 0 rfl rfl rfl rfl) ?_;refine TS.run 3 rfl ?_;refine TS.gs rfl rfl rfl rfl (fun h28=>?_) (fun h28=>?_)
            ·have p28:=of_decide_eq_true h28;replace hk:=zab hk h28;refine TS.run 4 rfl ?_;refine TS.eff ?_;refine TSo.off rfl (Wt.not rfl rfl rfl rfl) rfl rfl ?_;refine TS.run 13 rfl ?_;refine TS.eff ?_;refine TSo.off rfl (Wt.undef rfl rfl rfl) rfl rfl ?_;refine TS.eff ?_;refine TSo.off rfl (Wt.undef rfl rfl rfl) rfl rfl ?_;refine TS.eff ?_;refine TSo.off rfl (Wt.undef rfl rfl rfl) rfl rfl ?_;refine TS.run 3 rfl ?_;refine TS.done ?_;refine K.pick [1,2] rfl (by decide) ?_;exact K.aj (true,F8) ⟨hk,(Frz.Le.refl _)⟩ (.c (.c (.c .nil))) (List.Sublist.refl _)
            ·have p28:=of_decide_eq_false h28;replace hk:=zaa hk h28;refine TS.y rfl (Yv.fieldAddr rfl rfl) ?_;refine TS.y rfl (Yv.ac 0 rfl rfl rfl rfl) ?_;refine TS.y rfl (Yv.fieldAddr rfl rfl) ?_;refine TS.y rfl (Yv.ac 0 rfl rfl rfl rfl) ?_;refine TS.eff ?_;refine TSo.aF rfl (Wt.some rfl rfl rfl rfl) rfl rfl (Ew.af rfl rfl rfl (fun w hw=>zdr _ w (hw.fr (i:=2) rfl) ((nth r_.Loads i_20).Low) ((nth r_.Loads i_20).High))) ?_;rintro _ _ ⟨rfl,rfl⟩;refine ⟨(fun w hw=>hw.sub Sx),?_⟩;refine TS.run 3 rfl ?_;refine TS.gs rfl rfl rfl rfl (fun h29=>?_) (fun h29=>?_)
             ·replace hk:=zab hk h29;refine TS.run 10 rfl ?_;refine TS.eff ?_;refine TSo.off rfl (Wt.undef rfl rfl rfl) rfl rfl ?_;refine TS.eff ?_;refine TSo.off rfl (Wt.undef rfl rfl rfl) rfl rfl ?_;refine TS.eff ?_;refine TSo.off rfl (Wt.undef rfl rfl rfl) rfl rfl ?_;refine TS.run 3 rfl ?_;refine TS.done ?_;refine K.pick [1,2] rfl (by decide) ?_;exact K.aj (true,F8) ⟨hk,(Frz.Le.refl _)⟩ (.c (.c (.c .nil))) (List.Sublist.refl _)
             ·replace hk:=zaa hk h29;refine TS.run 3 rfl ?_;refine TS.gs rfl rfl rfl rfl (fun h30=>?_) (fun h30=>?_)
              ·have p30:=of_decide_eq_true h30;replace hk:=zab hk h30;refine TS.y rfl (Yv.fieldAddr rfl rfl) ?_;refine TS.y rfl (Yv.ac 1 rfl rfl rfl rfl) ?_;refine TS.run 1 rfl ?_;refine TS.y rfl (Yv.aQ rfl rfl rfl (by omega)) ?_;refine TS.y rfl (Yv.aw (i:=((i_20:Int) - 1).toNat) rfl rfl rfl (SlC.mono hr__1 le1_8) (List.length_map _) (by omega) (by omega)) ?_;refine TS.y rfl (Yv.aN 2 (i:=((i_20:Int) - 1).toNat) rfl rfl rfl (SlC.mono hr__1 le1_8) (by omega) rfl rfl rfl) ?_;refine TS.y rfl (Yv.al 0 rfl rfl rfl rfl) ?_;refine TS.eff ?_;refine TSo.aF rfl (Wt.some rfl rfl rfl rfl) rfl rfl (Ew.aU 2 rfl rfl rfl rfl (fun w hw hF=>zdO _ w hF (nth r_.Loads (((i_20:Int) - 1).toNat)))) ?_;rintro _ _ ⟨v146_0_0,F10,le8_10,hf146_0_0,hq,rfl⟩;obtain rfl:=hq.symm;haveI:=hf146_0_0.oneC;refine ⟨(fun w hw=>(hw.frLe (i:=2) rfl le8_10).sub Sx),?_⟩;refine TS.eff ?_;refine TSo.aF rfl (Wt.some rfl rfl rfl rfl) rfl rfl (Ew.aU 2 rfl rfl rfl rfl (fun w hw hF=>zdO _ w hF (nth r_.Loads i_20))) ?_;rintro _ _ ⟨v148_0_0,F11,le10_11,hf148_0_0,hq,rfl⟩;obtain rfl:=hq.symm;have le8_11:=le8_10.trans le10_11;haveI:=hf148_0_0.oneC;refine ⟨(fun w hw=>(hw.frLe (i:=2) rfl le8_11).sub Sx),?_⟩;refine TS.eff ?_;have hq:=zah hk;clear hk;obtain ⟨r149,hr149,hk⟩:=hq;refine TSo.aF rfl (Wt.some rfl rfl rfl rfl) rfl rfl (Ew.af rfl rfl rfl (fun w hw=>zdi _ w (hw.fr (i:=2) rfl) (zaz (nth r_.Loads (((i_20:Int) - 1).toNat))) v146_0_0 (SlC.mono hf146_0_0 le10_11) (zaz (nth r_.Loads i_20)) v148_0_0 hf148_0_0 r149 hr149)) ?_;rintro _ _ ⟨rfl,rfl⟩;refine ⟨(fun w hw=>(hw.frLe (i:=2) rfl le8_11).sub Sx),?_⟩;refine TS.run 3 rfl ?_;refine TS.done ?_;refine K.pick [1,2] rfl (by decide) ?_;exact K.aj (!r149,F11) ⟨hk,le8_11⟩ (.c (.c (.c .nil))) (List.Sublist.refl _)
              ·have p30:=of_decide_eq_false h30;replace hk:=zaa hk h30;refine TS.run 7 rfl ?_;refine TS.eff ?_;refine TSo.off rfl (Wt.not rfl rfl rfl rfl) rfl rfl ?_;refine TS.eff ?_;refine TSo.off rfl (Wt.not rfl rfl rfl rfl) rfl rfl ?_;refine TS.eff ?_;refine TSo.off rfl (Wt.not rfl rfl rfl rfl) rfl rfl ?_;refine TS.run 3 rfl ?_;refine TS.done ?_;refine K.pick [1,2] rfl (by decide) ?_;exact K.aj (false,F8) ⟨hk,(Frz.Le.refl _)⟩ (.c (.c (.c .nil))) (List.Sublist.refl _)
       ·rintro ⟨x_22,F9⟩ ⟨hk,le8_9⟩; (try dsimp only at *);rw [←hk23] at hk; (try dsimp only at hk);have le2_9:=le2_8.trans le8_9;refine T.cond rfl (fun h31=>?_) (fun h31=>?_)
        ·replace hk:=zab hk h31;refine T.sr ?_;refine TL.run 1 rfl ?_;refine TL.ns (T.ret (K.ah (K.aa (K.aa (K.ah (K.aa ?_))))));obtain rfl:=Option.some.inj hk;exact K.ag rfl rfl (fun w' hw=>⟨rfl,hw.isBelow⟩)
        ·replace hk:=zaa hk h31;refine T.skip (K.ad (K.seq (T.region ?_)));refine TL.run 1 rfl ?_;refine TL.y (Yv.an rfl rfl rfl (by omega)) ?_;refine TL.run 1 rfl ?_;refine TL.nil ?_;rw [←hn19] at hk;exact K.next ((i_20+1),F9) ⟨hk,le2_9⟩ (by dsimp only;omega) (.c (.c .nil)) (List.Sublist.refl _)
      ·have p21:=of_decide_eq_false h21;rw [zaF (by omega),←hkk19] at hk; (try dsimp only at hk);refine T.exit (K.ab (K.ab (K.ae ?_)));exact K.aj F8 ⟨hk,le2_8⟩ (.c .nil) (List.Sublist.refl _)
    ·rintro F7 ⟨hk,le2_7⟩;rw [←hk18] at hk; (try dsimp only at hk);have le1_7:=le1_2.trans le2_7;refine T.seq (T.sr ?_);refine TL.run 1 rfl ?_;refine TL.ns ?_;have hq:=zai hk;clear hk;obtain ⟨k32,hk32,hk⟩:=hq; (try dsimp only at hk);refine T.am (ι:=FzB w (fun _=>False) S0) (fun z=>[]) (fun z=>[.fr z]) (fun z=>k32 ()=some r∧F7.toFrz.Le z.toFrz) ?_ ?_
     ·have hq:=zar hk;clear hk;obtain ⟨f33,kk33,hf33,hkk33,hk⟩:=hq;refine T.block ?_;refine T.loop (ι:=Nat×FzB w (fun _=>False) S0) (fun z=>[(1, .pointer (some ⟨g1,0,none⟩)),(7, .int .i64 (z.1:Int))]) (fun z=>[.row g1 27 [vr__0,vr__1,vr__2], .fr z.2]) (fun z=>zal f33 kk33 (r_.Caps.length - z.1) z.1 ()=some r∧F7.toFrz.Le z.2.toFrz) (fun z=>r_.Caps.length - z.1) (0,F7) ?_ ?_ ?_ ?_
      ·exact ⟨hk,(Frz.Le.refl _)⟩
      ·exact (.c (.c .nil))
      ·exact List.Sublist.refl _
      ·rintro ⟨i_34,F13⟩ ⟨hk,le7_13⟩; (try dsimp only at *);have le1_13:=le1_7.trans le7_13;refine T.seq (T.sr ?_);refine TL.run 1 rfl ?_;refine TL.y (Yv.fieldAddr rfl rfl) ?_;refine TL.y (Yv.ac 0 rfl rfl rfl rfl) ?_;refine TL.y (Yv.ax rfl rfl (SlC.mono hr__2 le1_13) (List.length_map _)) ?_;refine TL.run 1 rfl ?_;refine TL.ns ?_;refine T.cond rfl (fun h35=>?_) (fun h35=>?_)
       ·have p35:=of_decide_eq_true h35;rw [zaD (by omega)] at hk;generalize hn33:zal f33 kk33 (r_.Caps.length - (i_34+1)) (i_34+1)=next33 at hk;rw [←hf33] at hk; (try dsimp only at hk);refine T.skip (K.seq (T.seq (T.block (T.sr ?_))));refine TL.y (Yv.fieldAddr rfl rfl) ?_;refine TL.y (Yv.ac 0 rfl rfl rfl rfl) ?_;refine TL.run 1 rfl ?_;refine TL.y (Yv.aw (i:=i_34) rfl rfl rfl (SlC.mono hr__2 le1_13) (List.length_map _) rfl (by omega)) ?_;refine TL.y (Yv.aN 1 (i:=i_34) rfl rfl rfl (SlC.mono hr__2 le1_13) (by omega) rfl rfl rfl) ?_;refine TL.e (Ew.alloc rfl) ?_;rintro _ _ ⟨g8,rfl,rfl⟩;refine TL.e0 (Ew.ak 0 rfl rfl rfl rfl rfl rfl) ?_;rintro _ _ ⟨rfl,rfl⟩;refine TL.ns (T.seq ?_); (try dsimp only at hk);have hq:=zai hk;clear hk;obtain ⟨k37,hk37,hk⟩:=hq; (try dsimp only at hk);refine T.am (ι:=Bool×FzB w (fun _=>False) S0) (fun z=>[(1, .pointer (some ⟨g1,0,none⟩)),(7, .int .i64 (i_34:Int)),(203, .bool z.1)]) (fun z=>[.row g1 27 [vr__0,vr__1,vr__2], .fr z.2]) (fun z=>k37 z.1=some r∧F13.toFrz.Le z.2.toFrz) ?_ ?_
        ·refine T.aq (.still 0 (.still 1 (.eff 2 (.still 3 (.still 4 (.still 5 (.still 6 (.still 7 (.still 8 (.still 9 (.still 10 (.still 11 (.still 12 (.still 13 (.still 14 (.still 15 (.still 16 (.still 17 (.still 18 (.eff 19 (.still 20 (.still 21 (.still 22 (.still 23 (.still 24 (.still 25 (.still 26 (.still 27 (.still 28 (.still 29 (.still 30 (.still 31 (.still 33 (.eff 32 (.eff 34 (.eff 35 (.still 36 (.still 37 (.still 38 .done))))))))))))))))))))))))))))))))))))))) _ (by kernel_rfl) (List.Sublist.refl _) ?_;refine TS.y rfl (Yv.fieldAddr rfl rfl) ?_;refine TS.y rfl (Yv.ac 0 rfl rfl rfl rfl) ?_;refine TS.eff ?_;refine TSo.aF rfl (Wt.none rfl) rfl rfl (Ew.af rfl rfl rfl (fun w hw=>zbf _ w (hw.fr (i:=2) rfl) ((nth r_.Caps i_34).Station))) ?_;rintro _ _ ⟨rfl,rfl⟩;refine ⟨(fun w hw=>hw.sub Sx),?_⟩;refine TS.run 2 rfl ?_;refine TS.gs rfl rfl rfl rfl (fun h38=>?_) (fun h38=>?_)
         ·replace hk:=zab hk h38;refine TS.run 14 rfl ?_;refine TS.eff ?_;refine TSo.off rfl (Wt.not rfl rfl rfl rfl) rfl rfl ?_;refine TS.run 13 rfl ?_;refine TS.eff ?_;refine TSo.off rfl (Wt.undef rfl rfl rfl) rfl rfl ?_;refine TS.eff ?_;refine TSo.off rfl (Wt.undef rfl rfl rfl) rfl rfl ?_;refine TS.eff ?_;refine TSo.off rfl (Wt.undef rfl rfl rfl) rfl rfl ?_;refine TS.run 3 rfl ?_;refine TS.done ?_;refine K.pick [1,2] rfl (by decide) ?_;exact K.aj (true,F13) ⟨hk,(Frz.Le.refl _)⟩ (.c (.c (.c .nil))) (List.Sublist.refl _)
         ·replace hk:=zaa hk h38;refine TS.y rfl (Yv.fieldAddr rfl rfl) ?_;refine TS.y rfl (Yv.ac 0 rfl rfl rfl rfl) ?_;refine TS.run 3 rfl ?_;refine TS.gs rfl rfl rfl rfl (fun h39=>?_) (fun h39=>?_)
          ·have p39:=of_decide_eq_true h39;replace hk:=zab hk h39;refine TS.run 9 rfl ?_;refine TS.eff ?_;refine TSo.off rfl (Wt.not rfl rfl rfl rfl) rfl rfl ?_;refine TS.run 13 rfl ?_;refine TS.eff ?_;refine TSo.off rfl (Wt.undef rfl rfl rfl) rfl rfl ?_;refine TS.eff ?_;refine TSo.off rfl (Wt.undef rfl rfl rfl) rfl rfl ?_;refine TS.eff ?_;refine TSo.off rfl (Wt.undef rfl rfl rfl) rfl rfl ?_;refine TS.run 3 rfl ?_;refine TS.done ?_;refine K.pick [1,2] rfl (by decide) ?_;exact K.aj (true,F13) ⟨hk,(Frz.Le.refl _)⟩ (.c (.c (.c .nil))) (List.Sublist.refl _)
          ·have p39:=of_decide_eq_false h39;replace hk:=zaa hk h39;refine TS.y rfl (Yv.fieldAddr rfl rfl) ?_;refine TS.y rfl (Yv.ac 0 rfl rfl rfl rfl) ?_;refine TS.run 3 rfl ?_;refine TS.gs rfl rfl rfl rfl (fun h40=>?_) (fun h40=>?_)
           ·have p40:=of_decide_eq_true h40;replace hk:=zab hk h40;refine TS.run 4 rfl ?_;refine TS.eff ?_;refine TSo.off rfl (Wt.not rfl rfl rfl rfl) rfl rfl ?_;refine TS.run 13 rfl ?_;refine TS.eff ?_;refine TSo.off rfl (Wt.undef rfl rfl rfl) rfl rfl ?_;refine TS.eff ?_;refine TSo.off rfl (Wt.undef rfl rfl rfl) rfl rfl ?_;refine TS.eff ?_;refine TSo.off rfl (Wt.undef rfl rfl rfl) rfl rfl ?_;refine TS.run 3 rfl ?_;refine TS.done ?_;refine K.pick [1,2] rfl (by decide) ?_;exact K.aj (true,F13) ⟨hk,(Frz.Le.refl _)⟩ (.c (.c (.c .nil))) (List.Sublist.refl _)
           ·have p40:=of_decide_eq_false h40;replace hk:=zaa hk h40;refine TS.y rfl (Yv.fieldAddr rfl rfl) ?_;refine TS.y rfl (Yv.ac 0 rfl rfl rfl rfl) ?_;refine TS.y rfl (Yv.fieldAddr rfl rfl) ?_;refine TS.y rfl (Yv.ac 0 rfl rfl rfl rfl) ?_;refine TS.eff ?_;refine TSo.aF rfl (Wt.some rfl rfl rfl rfl) rfl rfl (Ew.af rfl rfl rfl (fun w hw=>zdr _ w (hw.fr (i:=2) rfl) ((nth r_.Caps i_34).Low) ((nth r_.Caps i_34).High))) ?_;rintro _ _ ⟨rfl,rfl⟩;refine ⟨(fun w hw=>hw.sub Sx),?_⟩;refine TS.run 3 rfl ?_;refine TS.gs rfl rfl rfl rfl (fun h41=>?_) (fun h41=>?_)
            ·replace hk:=zab hk h41;refine TS.run 10 rfl ?_;refine TS.eff ?_;refine TSo.off rfl (Wt.undef rfl rfl rfl) rfl rfl ?_;refine TS.eff ?_;refine TSo.off rfl (Wt.undef rfl rfl rfl) rfl rfl ?_;refine TS.eff ?_;refine TSo.off rfl (Wt.undef rfl rfl rfl) rfl rfl ?_;refine TS.run 3 rfl ?_;refine TS.done ?_;refine K.pick [1,2] rfl (by decide) ?_;exact K.aj (true,F13) ⟨hk,(Frz.Le.refl _)⟩ (.c (.c (.c .nil))) (List.Sublist.refl _)
            ·replace hk:=zaa hk h41;refine TS.run 3 rfl ?_;refine TS.gs rfl rfl rfl rfl (fun h42=>?_) (fun h42=>?_)
             ·have p42:=of_decide_eq_true h42;replace hk:=zab hk h42;refine TS.y rfl (Yv.fieldAddr rfl rfl) ?_;refine TS.y rfl (Yv.ac 1 rfl rfl rfl rfl) ?_;refine TS.run 1 rfl ?_;refine TS.y rfl (Yv.aQ rfl rfl rfl (by omega)) ?_;refine TS.y rfl (Yv.aw (i:=((i_34:Int) - 1).toNat) rfl rfl rfl (SlC.mono hr__2 le1_13) (List.length_map _) (by omega) (by omega)) ?_;refine TS.y rfl (Yv.aN 2 (i:=((i_34:Int) - 1).toNat) rfl rfl rfl (SlC.mono hr__2 le1_13) (by omega) rfl rfl rfl) ?_;refine TS.y rfl (Yv.al 0 rfl rfl rfl rfl) ?_;refine TS.eff ?_;refine TSo.aF rfl (Wt.some rfl rfl rfl rfl) rfl rfl (Ew.aU 2 rfl rfl rfl rfl (fun w hw hF=>zef _ w hF (nth r_.Caps (((i_34:Int) - 1).toNat)))) ?_;rintro _ _ ⟨v197_0_0,F15,le13_15,hf197_0_0,hq,rfl⟩;obtain rfl:=hq.symm;haveI:=hf197_0_0.oneC;refine ⟨(fun w hw=>(hw.frLe (i:=2) rfl le13_15).sub Sx),?_⟩;refine TS.eff ?_;refine TSo.aF rfl (Wt.some rfl rfl rfl rfl) rfl rfl (Ew.aU 2 rfl rfl rfl rfl (fun w hw hF=>zef _ w hF (nth r_.Caps i_34))) ?_;rintro _ _ ⟨v199_0_0,F16,le15_16,hf199_0_0,hq,rfl⟩;obtain rfl:=hq.symm;have le13_16:=le13_15.trans le15_16;haveI:=hf199_0_0.oneC;refine ⟨(fun w hw=>(hw.frLe (i:=2) rfl le13_16).sub Sx),?_⟩;refine TS.eff ?_;have hq:=zah hk;clear hk;obtain ⟨r200,hr200,hk⟩:=hq;refine TSo.aF rfl (Wt.some rfl rfl rfl rfl) rfl rfl (Ew.af rfl rfl rfl (fun w hw=>zdi _ w (hw.fr (i:=2) rfl) (zaI (nth r_.Caps (((i_34:Int) - 1).toNat))) v197_0_0 (SlC.mono hf197_0_0 le15_16) (zaI (nth r_.Caps i_34)) v199_0_0 hf199_0_0 r200 hr200)) ?_;rintro _ _ ⟨rfl,rfl⟩;refine ⟨(fun w hw=>(hw.frLe (i:=2) rfl le13_16).sub Sx),?_⟩;refine TS.run 3 rfl ?_;refine TS.done ?_;refine K.pick [1,2] rfl (by decide) ?_;exact K.aj (!r200,F16) ⟨hk,le13_16⟩ (.c (.c (.c .nil))) (List.Sublist.refl _)
             ·have p42:=of_decide_eq_false h42;replace hk:=zaa hk h42;refine TS.run 7 rfl ?_;refine TS.eff ?_;refine TSo.off rfl (Wt.not rfl rfl rfl rfl) rfl rfl ?_;refine TS.eff ?_;refine TSo.off rfl (Wt.not rfl rfl rfl rfl) rfl rfl ?_;refine TS.eff ?_;refine TSo.off rfl (Wt.not rfl rfl rfl rfl) rfl rfl ?_;refine TS.run 3 rfl ?_;refine TS.done ?_;refine K.pick [1,2] rfl (by decide) ?_;exact K.aj (false,F13) ⟨hk,(Frz.Le.refl _)⟩ (.c (.c (.c .nil))) (List.Sublist.refl _)
        ·rintro ⟨x_36,F14⟩ ⟨hk,le13_14⟩; (try dsimp only at *);rw [←hk37] at hk; (try dsimp only at hk);have le7_14:=le7_13.trans le13_14;refine T.cond rfl (fun h43=>?_) (fun h43=>?_)
         ·replace hk:=zab hk h43;refine T.sr ?_;refine TL.run 1 rfl ?_;refine TL.ns (T.ret (K.ah (K.aa (K.aa (K.ah (K.aa ?_))))));obtain rfl:=Option.some.inj hk;exact K.ag rfl rfl (fun w' hw=>⟨rfl,hw.isBelow⟩)
         ·replace hk:=zaa hk h43;refine T.skip (K.ad (K.seq (T.region ?_)));refine TL.run 1 rfl ?_;refine TL.y (Yv.an rfl rfl rfl (by omega)) ?_;refine TL.run 1 rfl ?_;refine TL.nil ?_;rw [←hn33] at hk;exact K.next ((i_34+1),F14) ⟨hk,le7_14⟩ (by dsimp only;omega) (.c (.c .nil)) (List.Sublist.refl _)
       ·have p35:=of_decide_eq_false h35;rw [zaF (by omega),←hkk33] at hk; (try dsimp only at hk);refine T.exit (K.ab (K.ab (K.ae ?_)));refine K.pick [1] rfl (by decide) ?_;exact K.aj F13 ⟨hk,le7_13⟩ .nil (List.Sublist.refl _)
     ·rintro F12 ⟨hk,le7_12⟩;rw [←hk32] at hk; (try dsimp only at hk);refine T.sr ?_;refine TL.run 1 rfl ?_;refine TL.ns (T.ret ?_);obtain rfl:=Option.some.inj hk;exact K.ag rfl rfl (fun w' hw=>⟨rfl,hw.isBelow⟩)
def zbN (p:GProblem):Option Bool:=
 zaw (fun (x_1:Bool)=>
  (bif x_1 then
   some false
   else
   zaw (fun (_:Unit)=>
    zaw (fun (_:Unit)=>
     zaw (fun (_:Unit)=>
      zaw (fun (_:Unit)=>
       some true)
      (fun k32=>
       zal (fun (i_34:Nat) (next33:Unit→Option Bool) (_:Unit)=>
        (bif decide ((zad p ((nth p.Rules.Caps i_34).Station))<0) then
         some false
         else
         next33 ()))
       (fun (_:Unit)=>
        k32 ()) (p.Rules.Caps.length - 0) 0 ()))
     (fun k26=>
      zal (fun (i_28:Nat) (next27:Unit→Option Bool) (_:Unit)=>
       (bif ((decide ((zad p ((nth p.Rules.Loads i_28).To))<0))||(decide ((zad p ((nth p.Rules.Loads i_28).From))<0))) then
        some false
        else
        next27 ()))
      (fun (_:Unit)=>
       k26 ()) (p.Rules.Loads.length - 0) 0 ()))
    (fun k20=>
     zal (fun (i_22:Nat) (next21:Unit→Option Bool) (_:Unit)=>
      (bif ((decide ((zad p ((nth p.Rules.Pairs i_22).A))<0))||(decide ((zad p ((nth p.Rules.Pairs i_22).B))<0))) then
       some false
       else
       next21 ()))
     (fun (_:Unit)=>
      k20 ()) (p.Rules.Pairs.length - 0) 0 ()))
   (fun k5=>
    zal (fun (i_7:Nat) (next6:Unit→Option Bool) (_:Unit)=>
     (bif (((!(zao ((nth p.Domains i_7).Station)))||((decide (0<(i_7:Int)))&&(decide ((nth p.Domains i_7).Station≤(nth p.Domains (((i_7:Int) - 1).toNat)).Station))))||(decide (50<(((nth p.Domains i_7).Channels).length:Int)))) then
      some false
      else
      zal (fun (k_14:Nat) (next13:Unit→Option Bool) (_:Unit)=>
       (bif (((decide ((nth ((nth p.Domains i_7).Channels) k_14)<2))||(decide (51<(nth ((nth p.Domains i_7).Channels) k_14))))||((decide (0<(k_14:Int)))&&(decide ((nth ((nth p.Domains i_7).Channels) k_14)≤(nth ((nth p.Domains i_7).Channels) (((k_14:Int) - 1).toNat)))))) then
        some false
        else
        next13 ()))
      (fun (_:Unit)=>
       next6 ()) ((((nth p.Domains i_7).Channels).length) - 0) 0 ()))
    (fun (_:Unit)=>
     k5 ()) (p.Domains.length - 0) 0 ())))
 (fun k2=>
  (bif decide (512<(p.Domains.length:Int)) then
   k2 true
   else
   (zbl p.Rules).bind fun r16=>
   k2 (!r16)))
theorem zep (F0:Frz)(w:World)(hF0:F0.At w)(p:GProblem)(vp_0:Value)(cp_0:List (List Value))(hp_0:SlD GDomain.rep F0 vp_0 2 cp_0 p.Domains)(vp_1:Value)(hp_1:SlC F0 vp_1 5 (p.Rules.Pairs.map GPair.enc))(vp_2:Value)(hp_2:SlC F0 vp_2 5 (p.Rules.Loads.map GLoad.enc))(vp_3:Value)(hp_3:SlC F0 vp_3 4 (p.Rules.Caps.map GCap.enc))(r:Bool)(hr:zbN p=some r):Calls Tryz.prog 10 #[.agg [vp_0,vp_1,vp_2,vp_3].toArray] w fun e w'=>e= .returned (.bool r)∧Below w.heap.size w w':=by
 have hk:=hr;unfold zbN at hk;haveI:=hp_0.1.oneC;haveI:=hp_1.oneC;haveI:=hp_2.oneC;haveI:=hp_3.oneC;obtain ⟨S0,F1,rfl,hS0,hp0⟩:=zau hF0;refine zac Tryz.func10 rfl rfl rfl hp0 ?_;refine T.sr ?_;refine TL.e (Ew.aC rfl rfl) ?_;rintro _ _ ⟨g1,rfl,rfl⟩;refine TL.run 1 rfl ?_;refine TL.ns (T.seq (T.seq ?_)); (try dsimp only at hk);have hq:=zai hk;clear hk;obtain ⟨k2,hk2,hk⟩:=hq; (try dsimp only at hk);refine T.am (ι:=Bool) (fun z=>[(1, .pointer (some ⟨g1,0,none⟩)),(18, .bool z)]) (fun z=>[.row g1 29 [vp_0,vp_1,vp_2,vp_3], .fr F1]) (fun z=>k2 z=some r) ?_ ?_
 ·refine T.region ?_;refine TL.y (Yv.fieldAddr rfl rfl) ?_;refine TL.y (Yv.ac 0 rfl rfl rfl rfl) ?_;refine TL.y (Yv.ax rfl rfl hp_0.1 hp_0.2.1) ?_;have hm11:p.Domains.length≤9223372036854775807:=hp_0.2.1▸hp_0.1.max;refine TL.run 2 rfl ?_;refine TL.gs rfl rfl rfl (fun h3=>?_) (fun h3=>?_)
  ·have p3:=of_decide_eq_true h3;replace hk:=zab hk h3;refine TL.run 5 rfl ?_;refine TL.nil ?_;exact K.aj true hk (.c (.c .nil)) (List.Sublist.refl _)
  ·have p3:=of_decide_eq_false h3;replace hk:=zaa hk h3;refine TL.y (Yv.fieldAddr rfl rfl) ?_;refine TL.y (Yv.bP 0 (m:=[vp_1,vp_2,vp_3]) rfl rfl rfl rfl rfl) ?_;have hq:=zah hk;clear hk;obtain ⟨r16,hr16,hk⟩:=hq;refine TL.e (Ew.af rfl rfl rfl (fun w hw=>zen _ w (hw.fr (i:=1) rfl) p.Rules vp_1 hp_1 vp_2 hp_2 vp_3 hp_3 r16 hr16)) ?_;rintro _ _ ⟨rfl,rfl⟩;refine TL.run 2 rfl ?_;refine TL.nil ?_;exact K.aj (!r16) hk (.c (.c .nil)) (List.Sublist.refl _)
 ·rintro x_1 hk;rw [←hk2] at hk; (try dsimp only at hk);refine T.cond rfl (fun h4=>?_) (fun h4=>?_)
  ·replace hk:=zab hk h4;refine T.sr ?_;refine TL.run 1 rfl ?_;refine TL.ns (T.ret (K.aa ?_));obtain rfl:=Option.some.inj hk;exact K.ag rfl rfl (fun w' hw=>⟨rfl,hw.isBelow⟩)
  ·replace hk:=zaa hk h4;refine T.skip (K.seq (T.seq (T.sr ?_)));refine TL.run 1 rfl ?_;refine TL.ns ?_;have hq:=zai hk;clear hk;obtain ⟨k5,hk5,hk⟩:=hq; (try dsimp only at hk);refine T.am (ι:=Unit) (fun z=>[(1, .pointer (some ⟨g1,0,none⟩))]) (fun z=>[.row g1 29 [vp_0,vp_1,vp_2,vp_3], .fr F1]) (fun z=>k5 ()=some r) ?_ ?_
   ·have hq:=zar hk;clear hk;obtain ⟨f6,kk6,hf6,hkk6,hk⟩:=hq;refine T.block ?_;refine T.loop (ι:=Nat) (fun z=>[(1, .pointer (some ⟨g1,0,none⟩)),(3, .int .i64 (z:Int))]) (fun z=>[.row g1 29 [vp_0,vp_1,vp_2,vp_3], .fr F1]) (fun z=>zal f6 kk6 (p.Domains.length - z) z ()=some r) (fun z=>p.Domains.length - z) 0 ?_ ?_ ?_ ?_
    ·exact hk
    ·exact (.c (.c .nil))
    ·exact List.Sublist.refl _
    ·rintro i_7 hk;refine T.seq (T.sr ?_);refine TL.run 1 rfl ?_;refine TL.y (Yv.fieldAddr rfl rfl) ?_;refine TL.y (Yv.ac 0 rfl rfl rfl rfl) ?_;refine TL.y (Yv.ax rfl rfl hp_0.1 hp_0.2.1) ?_;have hm22:p.Domains.length≤9223372036854775807:=hp_0.2.1▸hp_0.1.max;refine TL.run 1 rfl ?_;refine TL.ns ?_;refine T.cond rfl (fun h8=>?_) (fun h8=>?_)
     ·have p8:=of_decide_eq_true h8;rw [zaD (by omega)] at hk;generalize hn6:zal f6 kk6 (p.Domains.length - (i_7+1)) (i_7+1)=next6 at hk;rw [←hf6] at hk; (try dsimp only at hk);refine T.skip (K.seq (T.seq (T.block (T.sr ?_))));refine TL.y (Yv.fieldAddr rfl rfl) ?_;refine TL.y (Yv.ac 0 rfl rfl rfl rfl) ?_;refine TL.run 1 rfl ?_;refine TL.y (Yv.aw (i:=i_7) rfl rfl rfl hp_0.1 hp_0.2.1 rfl (by omega)) ?_;refine TL.y (Yv.bE 1 (i:=i_7) (j:=0) rfl rfl rfl hp_0.1 hp_0.2.1 (by omega) rfl (GDomain.form (hp_0.2.2 i_7 (by omega))) rfl) ?_;have hd30_1:=(GDomain.c1 (hp_0.2.2 i_7 (by omega))).2;haveI:=hd30_1.oneC;refine TL.e (Ew.alloc rfl) ?_;rintro _ _ ⟨g4,rfl,rfl⟩;refine TL.e0 (Ew.ak 0 rfl rfl rfl rfl rfl rfl) ?_;rintro _ _ ⟨rfl,rfl⟩;refine TL.ns (T.seq (T.seq ?_));refine T.am (ι:=Unit) (fun z=>[(1, .pointer (some ⟨g1,0,none⟩)),(3, .int .i64 (i_7:Int)),(4, .pointer (some ⟨g4,0,none⟩)),(56, .bool (((!(zao ((nth p.Domains i_7).Station)))||((decide (0<(i_7:Int)))&&(decide ((nth p.Domains i_7).Station≤(nth p.Domains (((i_7:Int) - 1).toNat)).Station))))||(decide (50<(((nth p.Domains i_7).Channels).length:Int)))))]) (fun z=>[.row g4 48 [.int .i64 ((nth p.Domains i_7).Station),(nth (nth cp_0 i_7) 1)], .row g1 29 [vp_0,vp_1,vp_2,vp_3], .fr F1]) (fun z=>True) ?_ ?_
      ·refine T.aq (.still 0 (.still 1 (.eff 2 (.still 3 (.still 4 (.still 5 (.still 6 (.still 7 (.still 8 (.still 9 (.still 10 (.still 11 (.still 12 (.still 13 (.still 14 (.still 15 (.still 16 (.still 17 (.still 18 (.still 19 (.still 20 (.still 21 (.still 22 (.still 23 (.still 24 (.still 25 .done)))))))))))))))))))))))))) _ (by kernel_rfl) (List.Sublist.refl _) ?_;refine TS.y rfl (Yv.fieldAddr rfl rfl) ?_;refine TS.y rfl (Yv.ac 0 rfl rfl rfl rfl) ?_;refine TS.eff ?_;refine TSo.aF rfl (Wt.none rfl) rfl rfl (Ew.af rfl rfl rfl (fun w hw=>zbf _ w (hw.fr (i:=2) rfl) ((nth p.Domains i_7).Station))) ?_;rintro _ _ ⟨rfl,rfl⟩;refine ⟨(fun w hw=>hw.sub Sx),?_⟩;refine TS.run 2 rfl ?_;refine TS.gs rfl rfl rfl rfl (fun h9=>?_) (fun h9=>?_)
       ·refine TS.run 21 rfl ?_;refine TS.done ?_;exact K.aj () trivial (.c (.c (.c (.b (zby (zby h9)).symm .nil)))) (List.Sublist.refl _)
       ·refine TS.run 3 rfl ?_;refine TS.gs rfl rfl rfl rfl (fun h10=>?_) (fun h10=>?_)
        ·have p10:=of_decide_eq_true h10;refine TS.y rfl (Yv.fieldAddr rfl rfl) ?_;refine TS.y rfl (Yv.ac 1 rfl rfl rfl rfl) ?_;refine TS.run 1 rfl ?_;refine TS.y rfl (Yv.aQ rfl rfl rfl (by omega)) ?_;refine TS.y rfl (Yv.aw (i:=((i_7:Int) - 1).toNat) rfl rfl rfl hp_0.1 hp_0.2.1 (by omega) (by omega)) ?_;refine TS.y rfl (Yv.aR rfl rfl hp_0.1 hp_0.2.1 (by omega)) ?_;refine TS.y rfl (Yv.loadR 2 (i:=((i_7:Int) - 1).toNat) (j:=0) rfl rfl rfl hp_0.1 hp_0.2.1 (by omega) rfl (GDomain.c0 (hp_0.2.2 (((i_7:Int) - 1).toNat) (by omega)))) ?_;refine TS.y rfl (Yv.fieldAddr rfl rfl) ?_;refine TS.y rfl (Yv.ac 0 rfl rfl rfl rfl) ?_;refine TS.run 4 rfl ?_;refine TS.gs rfl rfl rfl rfl (fun h11=>?_) (fun h11=>?_)
         ·have p11:=of_decide_eq_true h11;refine TS.run 5 rfl ?_;refine TS.done ?_;exact K.aj () trivial (.c (.c (.c (.b (zby (zb1 h9 (zb6 h10 h11))).symm .nil)))) (List.Sublist.refl _)
         ·have p11:=of_decide_eq_false h11;refine TS.y rfl (Yv.fieldAddr rfl rfl) ?_;refine TS.y rfl (Yv.ac 0 rfl rfl rfl rfl) ?_;refine TS.y rfl (Yv.ax rfl rfl hd30_1 (List.length_map _)) ?_;have hm54:((nth p.Domains i_7).Channels).length≤9223372036854775807:=(List.length_map _)▸hd30_1.max;refine TS.run 2 rfl ?_;refine TS.done ?_;exact K.aj () trivial (.c (.c (.c (.b (or_f (zb1 h9 (zb6 h10 h11))) .nil)))) (List.Sublist.refl _)
        ·have p10:=of_decide_eq_false h10;refine TS.run 13 rfl ?_;refine TS.y rfl (Yv.fieldAddr rfl rfl) ?_;refine TS.y rfl (Yv.ac 0 rfl rfl rfl rfl) ?_;refine TS.y rfl (Yv.ax rfl rfl hd30_1 (List.length_map _)) ?_;have hm54:((nth p.Domains i_7).Channels).length≤9223372036854775807:=(List.length_map _)▸hd30_1.max;refine TS.run 2 rfl ?_;refine TS.done ?_;exact K.aj () trivial (.c (.c (.c (.b (or_f (zb1 h9 (zbh h10))) .nil)))) (List.Sublist.refl _)
      ·rintro _ _;have hm54:((nth p.Domains i_7).Channels).length≤9223372036854775807:=(List.length_map _)▸hd30_1.max;refine T.cond rfl (fun h12=>?_) (fun h12=>?_)
       ·replace hk:=zab hk h12;refine T.sr ?_;refine TL.run 1 rfl ?_;refine TL.ns (T.ret (K.aa (K.ah (K.aa (K.aa (K.ah (K.aa ?_)))))));obtain rfl:=Option.some.inj hk;exact K.ag rfl rfl (fun w' hw=>⟨rfl,hw.isBelow⟩)
       ·have p12:=h12; (try simp only [nfB] at p12);replace hk:=zaa hk h12;refine T.skip (K.seq (T.sr ?_));refine TL.run 1 rfl ?_;refine TL.ns ?_;have hq:=zar hk;clear hk;obtain ⟨f13,kk13,hf13,hkk13,hk⟩:=hq;refine T.block ?_;refine T.loop (ι:=Nat) (fun z=>[(1, .pointer (some ⟨g1,0,none⟩)),(3, .int .i64 (i_7:Int)),(4, .pointer (some ⟨g4,0,none⟩)),(5, .int .i64 (z:Int))]) (fun z=>[.row g4 48 [.int .i64 ((nth p.Domains i_7).Station),(nth (nth cp_0 i_7) 1)], .row g1 29 [vp_0,vp_1,vp_2,vp_3], .fr F1]) (fun z=>zal f13 kk13 ((((nth p.Domains i_7).Channels).length) - z) z ()=some r) (fun z=>(((nth p.Domains i_7).Channels).length) - z) 0 ?_ ?_ ?_ ?_
        ·exact hk
        ·exact (.c (.c (.c (.c .nil))))
        ·exact List.Sublist.refl _
        ·rintro k_14 hk;refine T.seq (T.sr ?_);refine TL.run 1 rfl ?_;refine TL.y (Yv.fieldAddr rfl rfl) ?_;refine TL.y (Yv.ac 0 rfl rfl rfl rfl) ?_;refine TL.y (Yv.ax rfl rfl hd30_1 (List.length_map _)) ?_;refine TL.run 1 rfl ?_;refine TL.ns ?_;refine T.cond rfl (fun h15=>?_) (fun h15=>?_)
         ·have p15:=of_decide_eq_true h15;rw [zaD (by omega)] at hk;generalize hn13:zal f13 kk13 ((((nth p.Domains i_7).Channels).length) - (k_14+1)) (k_14+1)=next13 at hk;rw [←hf13] at hk; (try dsimp only at hk);refine T.skip (K.seq (T.seq (T.block (T.seq ?_))));refine T.am (ι:=Unit) (fun z=>[(1, .pointer (some ⟨g1,0,none⟩)),(3, .int .i64 (i_7:Int)),(4, .pointer (some ⟨g4,0,none⟩)),(5, .int .i64 (k_14:Int)),(95, .bool (((decide ((nth ((nth p.Domains i_7).Channels) k_14)<2))||(decide (51<(nth ((nth p.Domains i_7).Channels) k_14))))||((decide (0<(k_14:Int)))&&(decide ((nth ((nth p.Domains i_7).Channels) k_14)≤(nth ((nth p.Domains i_7).Channels) (((k_14:Int) - 1).toNat)))))))]) (fun z=>[.row g4 48 [.int .i64 ((nth p.Domains i_7).Station),(nth (nth cp_0 i_7) 1)], .row g1 29 [vp_0,vp_1,vp_2,vp_3], .fr F1]) (fun z=>True) ?_ ?_
          ·refine T.aq (.still 0 (.still 1 (.still 2 (.still 3 (.still 4 (.still 5 (.still 6 (.still 7 (.still 8 (.still 9 (.still 10 (.still 11 (.still 12 (.still 13 (.still 14 (.still 15 (.still 16 (.still 17 (.still 18 (.still 19 (.still 20 (.still 21 (.still 22 (.still 23 (.still 24 (.still 25 (.still 26 (.still 27 (.still 28 (.still 29 (.still 30 (.still 31 .done)))))))))))))))))))))))))))))))) _ (by kernel_rfl) (List.Sublist.refl _) ?_;refine TS.y rfl (Yv.fieldAddr rfl rfl) ?_;refine TS.y rfl (Yv.ac 0 rfl rfl rfl rfl) ?_;refine TS.run 1 rfl ?_;refine TS.y rfl (Yv.aw (i:=k_14) rfl rfl rfl hd30_1 (List.length_map _) rfl (by omega)) ?_;refine TS.y rfl (Yv.aE 2 (i:=k_14) (j:=0) rfl rfl rfl hd30_1 (by omega) rfl rfl) ?_;refine TS.run 2 rfl ?_;refine TS.gs rfl rfl rfl rfl (fun h16=>?_) (fun h16=>?_)
           ·have p16:=of_decide_eq_true h16;refine TS.run 25 rfl ?_;refine TS.done ?_;exact K.aj () trivial (.c (.c (.c (.c (.b (zby (zby h16)).symm .nil))))) (List.Sublist.refl _)
           ·have p16:=of_decide_eq_false h16;refine TS.y rfl (Yv.fieldAddr rfl rfl) ?_;refine TS.y rfl (Yv.ac 0 rfl rfl rfl rfl) ?_;refine TS.run 1 rfl ?_;refine TS.y rfl (Yv.aw (i:=k_14) rfl rfl rfl hd30_1 (List.length_map _) rfl (by omega)) ?_;refine TS.y rfl (Yv.aE 2 (i:=k_14) (j:=0) rfl rfl rfl hd30_1 (by omega) rfl rfl) ?_;refine TS.run 3 rfl ?_;refine TS.gs rfl rfl rfl rfl (fun h17=>?_) (fun h17=>?_)
            ·have p17:=of_decide_eq_true h17;refine TS.run 17 rfl ?_;refine TS.done ?_;exact K.aj () trivial (.c (.c (.c (.c (.b (zby (zb1 h16 h17)).symm .nil))))) (List.Sublist.refl _)
            ·have p17:=of_decide_eq_false h17;refine TS.run 3 rfl ?_;refine TS.gs rfl rfl rfl rfl (fun h18=>?_) (fun h18=>?_)
             ·have p18:=of_decide_eq_true h18;refine TS.y rfl (Yv.fieldAddr rfl rfl) ?_;refine TS.y rfl (Yv.ac 0 rfl rfl rfl rfl) ?_;refine TS.run 1 rfl ?_;refine TS.y rfl (Yv.aQ rfl rfl rfl (by omega)) ?_;refine TS.y rfl (Yv.aw (i:=((k_14:Int) - 1).toNat) rfl rfl rfl hd30_1 (List.length_map _) (by omega) (by omega)) ?_;refine TS.y rfl (Yv.aE 2 (i:=((k_14:Int) - 1).toNat) (j:=0) rfl rfl rfl hd30_1 (by omega) rfl rfl) ?_;refine TS.y rfl (Yv.fieldAddr rfl rfl) ?_;refine TS.y rfl (Yv.ac 0 rfl rfl rfl rfl) ?_;refine TS.run 1 rfl ?_;refine TS.y rfl (Yv.aw (i:=k_14) rfl rfl rfl hd30_1 (List.length_map _) rfl (by omega)) ?_;refine TS.y rfl (Yv.aE 2 (i:=k_14) (j:=0) rfl rfl rfl hd30_1 (by omega) rfl rfl) ?_;refine TS.run 3 rfl ?_;refine TS.done ?_;exact K.aj () trivial (.c (.c (.c (.c (.b (Eq.trans (zeF h18) (or_f (zb1 h16 h17))) .nil))))) (List.Sublist.refl _)
             ·have p18:=of_decide_eq_false h18;refine TS.run 14 rfl ?_;refine TS.done ?_;exact K.aj () trivial (.c (.c (.c (.c (.b (zb1 (zb1 h16 h17) (zbh h18)).symm .nil))))) (List.Sublist.refl _)
          ·rintro _ _;refine T.cond rfl (fun h19=>?_) (fun h19=>?_)
           ·replace hk:=zab hk h19;refine T.sr ?_;refine TL.run 1 rfl ?_;refine TL.ns (T.ret (K.ah (K.aa (K.aa (K.ah (K.ah (K.aa (K.aa (K.ah (K.aa ?_))))))))));obtain rfl:=Option.some.inj hk;exact K.ag rfl rfl (fun w' hw=>⟨rfl,hw.isBelow⟩)
           ·have p19:=h19; (try simp only [nfB] at p19);replace hk:=zaa hk h19;refine T.skip (K.ad (K.seq (T.region ?_)));refine TL.run 1 rfl ?_;refine TL.y (Yv.an rfl rfl rfl (by omega)) ?_;refine TL.run 1 rfl ?_;refine TL.nil ?_;rw [←hn13] at hk;exact K.next (k_14+1) hk (by omega) (.c (.c (.c (.c .nil)))) (List.Sublist.refl _)
         ·have p15:=of_decide_eq_false h15;rw [zaF (by omega),←hkk13] at hk; (try dsimp only at hk);refine T.exit (K.ab (K.ab (K.ae (K.ad (K.seq (T.region ?_))))));refine TL.run 1 rfl ?_;refine TL.y (Yv.an rfl rfl rfl (by omega)) ?_;refine TL.run 1 rfl ?_;refine TL.nil ?_;rw [←hn6] at hk;refine K.pick [1,2] rfl (by decide) ?_;exact K.next (i_7+1) hk (by omega) (.c (.c .nil)) (List.Sublist.refl _)
     ·have p8:=of_decide_eq_false h8;rw [zaF (by omega),←hkk6] at hk; (try dsimp only at hk);refine T.exit (K.ab (K.ab (K.ae ?_)));exact K.aj () hk (.c .nil) (List.Sublist.refl _)
   ·rintro _ hk;rw [←hk5] at hk; (try dsimp only at hk);refine T.seq (T.sr ?_);refine TL.run 1 rfl ?_;refine TL.ns ?_;have hq:=zai hk;clear hk;obtain ⟨k20,hk20,hk⟩:=hq; (try dsimp only at hk);refine T.am (ι:=Unit) (fun z=>[(1, .pointer (some ⟨g1,0,none⟩))]) (fun z=>[.row g1 29 [vp_0,vp_1,vp_2,vp_3], .fr F1]) (fun z=>k20 ()=some r) ?_ ?_
    ·have hq:=zar hk;clear hk;obtain ⟨f21,kk21,hf21,hkk21,hk⟩:=hq;refine T.block ?_;refine T.loop (ι:=Nat) (fun z=>[(1, .pointer (some ⟨g1,0,none⟩)),(6, .int .i64 (z:Int))]) (fun z=>[.row g1 29 [vp_0,vp_1,vp_2,vp_3], .fr F1]) (fun z=>zal f21 kk21 (p.Rules.Pairs.length - z) z ()=some r) (fun z=>p.Rules.Pairs.length - z) 0 ?_ ?_ ?_ ?_
     ·exact hk
     ·exact (.c (.c .nil))
     ·exact List.Sublist.refl _
     ·rintro i_22 hk;refine T.seq (T.sr ?_);refine TL.run 1 rfl ?_;refine TL.y (Yv.fieldAddr rfl rfl) ?_;refine TL.y (Yv.fieldAddr rfl rfl) ?_;refine TL.y (Yv.ac 0 rfl rfl rfl rfl) ?_;refine TL.y (Yv.ax rfl rfl hp_1 (List.length_map _)) ?_;have hm100:p.Rules.Pairs.length≤9223372036854775807:=(List.length_map _)▸hp_1.max;refine TL.run 1 rfl ?_;refine TL.ns ?_;refine T.cond rfl (fun h23=>?_) (fun h23=>?_)
      ·have p23:=of_decide_eq_true h23;rw [zaD (by omega)] at hk;generalize hn21:zal f21 kk21 (p.Rules.Pairs.length - (i_22+1)) (i_22+1)=next21 at hk;rw [←hf21] at hk; (try dsimp only at hk);refine T.skip (K.seq (T.seq (T.block (T.seq ?_))));refine T.am (ι:=Unit) (fun z=>[(1, .pointer (some ⟨g1,0,none⟩)),(6, .int .i64 (i_22:Int)),(125, .bool ((decide ((zad p ((nth p.Rules.Pairs i_22).A))<0))||(decide ((zad p ((nth p.Rules.Pairs i_22).B))<0))))]) (fun z=>[.row g1 29 [vp_0,vp_1,vp_2,vp_3], .fr F1]) (fun z=>True) ?_ ?_
       ·refine T.aq (.still 0 (.still 1 (.still 2 (.still 3 (.still 4 (.still 5 (.still 6 (.still 7 (.eff 8 (.still 9 (.still 10 (.still 11 (.still 12 (.still 13 (.still 14 (.still 15 (.still 16 (.still 17 (.still 18 (.eff 19 (.still 20 (.still 21 .done)))))))))))))))))))))) _ (by kernel_rfl) (List.Sublist.refl _) ?_;refine TS.y rfl (Yv.al 0 rfl rfl rfl rfl) ?_;refine TS.y rfl (Yv.fieldAddr rfl rfl) ?_;refine TS.y rfl (Yv.fieldAddr rfl rfl) ?_;refine TS.y rfl (Yv.ac 0 rfl rfl rfl rfl) ?_;refine TS.run 1 rfl ?_;refine TS.y rfl (Yv.aw (i:=i_22) rfl rfl rfl hp_1 (List.length_map _) rfl (by omega)) ?_;refine TS.y rfl (Yv.aR rfl rfl hp_1 (List.length_map _) (by omega)) ?_;refine TS.y rfl (Yv.aE 1 (i:=i_22) (j:=0) rfl rfl rfl hp_1 (by omega) rfl rfl) ?_;refine TS.eff ?_;refine TSo.aF rfl (Wt.none rfl) rfl rfl (Ew.af rfl rfl rfl (fun w hw=>zbU _ w (hw.fr (i:=1) rfl) p vp_0 cp_0 hp_0 vp_1 hp_1 vp_2 hp_2 vp_3 hp_3 ((nth p.Rules.Pairs i_22).A))) ?_;rintro _ _ ⟨rfl,rfl⟩;refine ⟨(fun w hw=>hw.sub Sx),?_⟩;refine TS.run 2 rfl ?_;refine TS.gs rfl rfl rfl rfl (fun h24=>?_) (fun h24=>?_)
        ·have p24:=of_decide_eq_true h24;refine TS.run 8 rfl ?_;refine TS.eff ?_;refine TSo.off rfl (Wt.not rfl rfl rfl rfl) rfl rfl ?_;refine TS.run 2 rfl ?_;refine TS.done ?_;exact K.aj () trivial (.c (.c (.b (zby h24).symm .nil))) (List.Sublist.refl _)
        ·have p24:=of_decide_eq_false h24;refine TS.y rfl (Yv.al 0 rfl rfl rfl rfl) ?_;refine TS.y rfl (Yv.fieldAddr rfl rfl) ?_;refine TS.y rfl (Yv.fieldAddr rfl rfl) ?_;refine TS.y rfl (Yv.ac 0 rfl rfl rfl rfl) ?_;refine TS.run 1 rfl ?_;refine TS.y rfl (Yv.aw (i:=i_22) rfl rfl rfl hp_1 (List.length_map _) rfl (by omega)) ?_;refine TS.y rfl (Yv.aR rfl rfl hp_1 (List.length_map _) (by omega)) ?_;refine TS.y rfl (Yv.aE 1 (i:=i_22) (j:=1) rfl rfl rfl hp_1 (by omega) rfl rfl) ?_;refine TS.eff ?_;refine TSo.aF rfl (Wt.some rfl rfl rfl rfl) rfl rfl (Ew.af rfl rfl rfl (fun w hw=>zbU _ w (hw.fr (i:=1) rfl) p vp_0 cp_0 hp_0 vp_1 hp_1 vp_2 hp_2 vp_3 hp_3 ((nth p.Rules.Pairs i_22).B))) ?_;rintro _ _ ⟨rfl,rfl⟩;refine ⟨(fun w hw=>hw.sub Sx),?_⟩;refine TS.run 2 rfl ?_;refine TS.done ?_;exact K.aj () trivial (.c (.c (.b (or_f h24) .nil))) (List.Sublist.refl _)
       ·rintro _ _;refine T.cond rfl (fun h25=>?_) (fun h25=>?_)
        ·replace hk:=zab hk h25;refine T.sr ?_;refine TL.run 1 rfl ?_;refine TL.ns (T.ret (K.ah (K.aa (K.aa (K.ah (K.aa ?_))))));obtain rfl:=Option.some.inj hk;exact K.ag rfl rfl (fun w' hw=>⟨rfl,hw.isBelow⟩)
        ·have p25:=h25; (try simp only [nfB] at p25);replace hk:=zaa hk h25;refine T.skip (K.ad (K.seq (T.region ?_)));refine TL.run 1 rfl ?_;refine TL.y (Yv.an rfl rfl rfl (by omega)) ?_;refine TL.run 1 rfl ?_;refine TL.nil ?_;rw [←hn21] at hk;exact K.next (i_22+1) hk (by omega) (.c (.c .nil)) (List.Sublist.refl _)
      ·have p23:=of_decide_eq_false h23;rw [zaF (by omega),←hkk21] at hk; (try dsimp only at hk);refine T.exit (K.ab (K.ab (K.ae ?_)));exact K.aj () hk (.c .nil) (List.Sublist.refl _)
    ·rintro _ hk;rw [←hk20] at hk; (try dsimp only at hk);refine T.seq (T.sr ?_);refine TL.run 1 rfl ?_;refine TL.ns ?_;have hq:=zai hk;clear hk;obtain ⟨k26,hk26,hk⟩:=hq; (try dsimp only at hk);refine T.am (ι:=Unit) (fun z=>[(1, .pointer (some ⟨g1,0,none⟩))]) (fun z=>[.row g1 29 [vp_0,vp_1,vp_2,vp_3], .fr F1]) (fun z=>k26 ()=some r) ?_ ?_
     ·have hq:=zar hk;clear hk;obtain ⟨f27,kk27,hf27,hkk27,hk⟩:=hq;refine T.block ?_;refine T.loop (ι:=Nat) (fun z=>[(1, .pointer (some ⟨g1,0,none⟩)),(7, .int .i64 (z:Int))]) (fun z=>[.row g1 29 [vp_0,vp_1,vp_2,vp_3], .fr F1]) (fun z=>zal f27 kk27 (p.Rules.Loads.length - z) z ()=some r) (fun z=>p.Rules.Loads.length - z) 0 ?_ ?_ ?_ ?_
      ·exact hk
      ·exact (.c (.c .nil))
      ·exact List.Sublist.refl _
      ·rintro i_28 hk;refine T.seq (T.sr ?_);refine TL.run 1 rfl ?_;refine TL.y (Yv.fieldAddr rfl rfl) ?_;refine TL.y (Yv.fieldAddr rfl rfl) ?_;refine TL.y (Yv.ac 0 rfl rfl rfl rfl) ?_;refine TL.y (Yv.ax rfl rfl hp_2 (List.length_map _)) ?_;have hm130:p.Rules.Loads.length≤9223372036854775807:=(List.length_map _)▸hp_2.max;refine TL.run 1 rfl ?_;refine TL.ns ?_;refine T.cond rfl (fun h29=>?_) (fun h29=>?_)
       ·have p29:=of_decide_eq_true h29;rw [zaD (by omega)] at hk;generalize hn27:zal f27 kk27 (p.Rules.Loads.length - (i_28+1)) (i_28+1)=next27 at hk;rw [←hf27] at hk; (try dsimp only at hk);refine T.skip (K.seq (T.seq (T.block (T.seq ?_))));refine T.am (ι:=Unit) (fun z=>[(1, .pointer (some ⟨g1,0,none⟩)),(7, .int .i64 (i_28:Int)),(155, .bool ((decide ((zad p ((nth p.Rules.Loads i_28).To))<0))||(decide ((zad p ((nth p.Rules.Loads i_28).From))<0))))]) (fun z=>[.row g1 29 [vp_0,vp_1,vp_2,vp_3], .fr F1]) (fun z=>True) ?_ ?_
        ·refine T.aq (.still 0 (.still 1 (.still 2 (.still 3 (.still 4 (.still 5 (.still 6 (.still 7 (.eff 8 (.still 9 (.still 10 (.still 11 (.still 12 (.still 13 (.still 14 (.still 15 (.still 16 (.still 17 (.still 18 (.eff 19 (.still 20 (.still 21 .done)))))))))))))))))))))) _ (by kernel_rfl) (List.Sublist.refl _) ?_;refine TS.y rfl (Yv.al 0 rfl rfl rfl rfl) ?_;refine TS.y rfl (Yv.fieldAddr rfl rfl) ?_;refine TS.y rfl (Yv.fieldAddr rfl rfl) ?_;refine TS.y rfl (Yv.ac 0 rfl rfl rfl rfl) ?_;refine TS.run 1 rfl ?_;refine TS.y rfl (Yv.aw (i:=i_28) rfl rfl rfl hp_2 (List.length_map _) rfl (by omega)) ?_;refine TS.y rfl (Yv.aR rfl rfl hp_2 (List.length_map _) (by omega)) ?_;refine TS.y rfl (Yv.aE 1 (i:=i_28) (j:=0) rfl rfl rfl hp_2 (by omega) rfl rfl) ?_;refine TS.eff ?_;refine TSo.aF rfl (Wt.none rfl) rfl rfl (Ew.af rfl rfl rfl (fun w hw=>zbU _ w (hw.fr (i:=1) rfl) p vp_0 cp_0 hp_0 vp_1 hp_1 vp_2 hp_2 vp_3 hp_3 ((nth p.Rules.Loads i_28).To))) ?_;rintro _ _ ⟨rfl,rfl⟩;refine ⟨(fun w hw=>hw.sub Sx),?_⟩;refine TS.run 2 rfl ?_;refine TS.gs rfl rfl rfl rfl (fun h30=>?_) (fun h30=>?_)
         ·have p30:=of_decide_eq_true h30;refine TS.run 8 rfl ?_;refine TS.eff ?_;refine TSo.off rfl (Wt.not rfl rfl rfl rfl) rfl rfl ?_;refine TS.run 2 rfl ?_;refine TS.done ?_;exact K.aj () trivial (.c (.c (.b (zby h30).symm .nil))) (List.Sublist.refl _)
         ·have p30:=of_decide_eq_false h30;refine TS.y rfl (Yv.al 0 rfl rfl rfl rfl) ?_;refine TS.y rfl (Yv.fieldAddr rfl rfl) ?_;refine TS.y rfl (Yv.fieldAddr rfl rfl) ?_;refine TS.y rfl (Yv.ac 0 rfl rfl rfl rfl) ?_;refine TS.run 1 rfl ?_;refine TS.y rfl (Yv.aw (i:=i_28) rfl rfl rfl hp_2 (List.length_map _) rfl (by omega)) ?_;refine TS.y rfl (Yv.aR rfl rfl hp_2 (List.length_map _) (by omega)) ?_;refine TS.y rfl (Yv.aE 1 (i:=i_28) (j:=1) rfl rfl rfl hp_2 (by omega) rfl rfl) ?_;refine TS.eff ?_;refine TSo.aF rfl (Wt.some rfl rfl rfl rfl) rfl rfl (Ew.af rfl rfl rfl (fun w hw=>zbU _ w (hw.fr (i:=1) rfl) p vp_0 cp_0 hp_0 vp_1 hp_1 vp_2 hp_2 vp_3 hp_3 ((nth p.Rules.Loads i_28).From))) ?_;rintro _ _ ⟨rfl,rfl⟩;refine ⟨(fun w hw=>hw.sub Sx),?_⟩;refine TS.run 2 rfl ?_;refine TS.done ?_;exact K.aj () trivial (.c (.c (.b (or_f h30) .nil))) (List.Sublist.refl _)
        ·rintro _ _;refine T.cond rfl (fun h31=>?_) (fun h31=>?_)
         ·replace hk:=zab hk h31;refine T.sr ?_;refine TL.run 1 rfl ?_;refine TL.ns (T.ret (K.ah (K.aa (K.aa (K.ah (K.aa ?_))))));obtain rfl:=Option.some.inj hk;exact K.ag rfl rfl (fun w' hw=>⟨rfl,hw.isBelow⟩)
         ·have p31:=h31; (try simp only [nfB] at p31);replace hk:=zaa hk h31;refine T.skip (K.ad (K.seq (T.region ?_)));refine TL.run 1 rfl ?_;refine TL.y (Yv.an rfl rfl rfl (by omega)) ?_;refine TL.run 1 rfl ?_;refine TL.nil ?_;rw [←hn27] at hk;exact K.next (i_28+1) hk (by omega) (.c (.c .nil)) (List.Sublist.refl _)
       ·have p29:=of_decide_eq_false h29;rw [zaF (by omega),←hkk27] at hk; (try dsimp only at hk);refine T.exit (K.ab (K.ab (K.ae ?_)));exact K.aj () hk (.c .nil) (List.Sublist.refl _)
     ·rintro _ hk;rw [←hk26] at hk; (try dsimp only at hk);refine T.seq (T.sr ?_);refine TL.run 1 rfl ?_;refine TL.ns ?_;have hq:=zai hk;clear hk;obtain ⟨k32,hk32,hk⟩:=hq; (try dsimp only at hk);refine T.am (ι:=Unit) (fun z=>[]) (fun z=>[.fr F1]) (fun z=>k32 ()=some r) ?_ ?_
      ·have hq:=zar hk;clear hk;obtain ⟨f33,kk33,hf33,hkk33,hk⟩:=hq;refine T.block ?_;refine T.loop (ι:=Nat) (fun z=>[(1, .pointer (some ⟨g1,0,none⟩)),(8, .int .i64 (z:Int))]) (fun z=>[.row g1 29 [vp_0,vp_1,vp_2,vp_3], .fr F1]) (fun z=>zal f33 kk33 (p.Rules.Caps.length - z) z ()=some r) (fun z=>p.Rules.Caps.length - z) 0 ?_ ?_ ?_ ?_
       ·exact hk
       ·exact (.c (.c .nil))
       ·exact List.Sublist.refl _
       ·rintro i_34 hk;refine T.seq (T.sr ?_);refine TL.run 1 rfl ?_;refine TL.y (Yv.fieldAddr rfl rfl) ?_;refine TL.y (Yv.fieldAddr rfl rfl) ?_;refine TL.y (Yv.ac 0 rfl rfl rfl rfl) ?_;refine TL.y (Yv.ax rfl rfl hp_3 (List.length_map _)) ?_;have hm160:p.Rules.Caps.length≤9223372036854775807:=(List.length_map _)▸hp_3.max;refine TL.run 1 rfl ?_;refine TL.ns ?_;refine T.cond rfl (fun h35=>?_) (fun h35=>?_)
        ·have p35:=of_decide_eq_true h35;rw [zaD (by omega)] at hk;generalize hn33:zal f33 kk33 (p.Rules.Caps.length - (i_34+1)) (i_34+1)=next33 at hk;rw [←hf33] at hk; (try dsimp only at hk);refine T.skip (K.seq (T.seq (T.block (T.seq ?_))));refine T.aq (.still 0 (.still 1 (.still 2 (.still 3 (.still 4 (.still 5 (.still 6 (.still 7 (.eff 8 (.still 9 .done)))))))))) _ (by kernel_rfl) (List.Sublist.refl _) ?_;refine TS.y rfl (Yv.al 0 rfl rfl rfl rfl) ?_;refine TS.y rfl (Yv.fieldAddr rfl rfl) ?_;refine TS.y rfl (Yv.fieldAddr rfl rfl) ?_;refine TS.y rfl (Yv.ac 0 rfl rfl rfl rfl) ?_;refine TS.run 1 rfl ?_;refine TS.y rfl (Yv.aw (i:=i_34) rfl rfl rfl hp_3 (List.length_map _) rfl (by omega)) ?_;refine TS.y rfl (Yv.aR rfl rfl hp_3 (List.length_map _) (by omega)) ?_;refine TS.y rfl (Yv.aE 1 (i:=i_34) (j:=0) rfl rfl rfl hp_3 (by omega) rfl rfl) ?_;refine TS.eff ?_;refine TSo.aF rfl (Wt.none rfl) rfl rfl (Ew.af rfl rfl rfl (fun w hw=>zbU _ w (hw.fr (i:=1) rfl) p vp_0 cp_0 hp_0 vp_1 hp_1 vp_2 hp_2 vp_3 hp_3 ((nth p.Rules.Caps i_34).Station))) ?_;rintro _ _ ⟨rfl,rfl⟩;refine ⟨(fun w hw=>hw.sub Sx),?_⟩;refine TS.run 1 rfl ?_;refine TS.done ?_;refine K.seq ?_;refine T.cond rfl (fun h36=>?_) (fun h36=>?_)
         ·have p36:=of_decide_eq_true h36;replace hk:=zab hk h36;refine T.sr ?_;refine TL.run 1 rfl ?_;refine TL.ns (T.ret (K.ah (K.aa (K.aa (K.ah (K.aa ?_))))));obtain rfl:=Option.some.inj hk;exact K.ag rfl rfl (fun w' hw=>⟨rfl,hw.isBelow⟩)
         ·have p36:=of_decide_eq_false h36;replace hk:=zaa hk h36;refine T.skip (K.ad (K.seq (T.region ?_)));refine TL.run 1 rfl ?_;refine TL.y (Yv.an rfl rfl rfl (by omega)) ?_;refine TL.run 1 rfl ?_;refine TL.nil ?_;rw [←hn33] at hk;exact K.next (i_34+1) hk (by omega) (.c (.c .nil)) (List.Sublist.refl _)
        ·have p35:=of_decide_eq_false h35;rw [zaF (by omega),←hkk33] at hk; (try dsimp only at hk);refine T.exit (K.ab (K.ab (K.ae ?_)));refine K.pick [1] rfl (by decide) ?_;exact K.aj () hk .nil (List.Sublist.refl _)
      ·rintro _ hk;rw [←hk32] at hk; (try dsimp only at hk);refine T.sr ?_;refine TL.run 1 rfl ?_;refine TL.ns (T.ret ?_);obtain rfl:=Option.some.inj hk;exact K.ag rfl rfl (fun w' hw=>⟨rfl,hw.isBelow⟩)
end Go.Proofs.YtbpbhbkcahcdiaaGreatDoor
