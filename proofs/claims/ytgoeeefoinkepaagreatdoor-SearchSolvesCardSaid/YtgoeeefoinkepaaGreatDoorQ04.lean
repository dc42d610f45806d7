/- Cc A B: shortened and put together by squeeze.py. -/
import Derived.Test.YtgoeeefoinkepaaGreatDoorQ03
set_option maxRecDepth 100000
set_option maxHeartbeats 4000000
set_option linter.unusedVariables false
set_option linter.unusedSectionVars false
set_option linter.unusedSimpArgs false
namespace Go.Proofs.YtgoeeefoinkepaaGreatDoor
open Go.RowKit
def zba (fuel:Nat)(p:GProblem)(d:List GDomain):Option (List GDomain×Bool):=
 dV (fun (d_1:List GDomain)=>
  dV (fun (_:Unit)=>
   some (d_1,true))
  (fun k20=>
   di (fun (i_22:Nat) (next21:Unit→Option (List GDomain×Bool)) (_:Unit)=>
    (bif decide ((((cH d_1 i_22).Channels).length:Int)=0) then
     some ([],false)
     else
     next21 ()))
   (fun (_:Unit)=>
    k20 ()) (d_1.length - 0) 0 ()))
 (fun k2=>
  gJ (fun (next5:(List GDomain×Bool)→Option (List GDomain×Bool)) (s5:List GDomain×Bool)=>
   (bif s5.2 then
    gJ (fun (next11:(List GDomain×Bool×Int)→Option (List GDomain×Bool)) (s11:List GDomain×Bool×Int)=>
     (bif decide (s11.2.2<(s11.1.length:Int)) then
      em (0≤s11.2.2∧s11.2.2<(s11.1.length:Int)) <|
      jD (fun (k_17:Nat) (next16:(List GDomain×Bool)→Option (List GDomain×Bool)) (s16:List GDomain×Bool)=>
       em (0≤s11.2.2∧s11.2.2<(s16.1.length:Int)) <|
       em (0≤(k_17:Int)∧(k_17:Int)<(((cH s16.1 s11.2.2.toNat).Channels).length:Int)) <|
       (bif (zbc p s16.1 ((cH s16.1 s11.2.2.toNat).Station) (cH ((cH s16.1 s11.2.2.toNat).Channels) k_17)) then
        (mP s16.1 ((cH s16.1 s11.2.2.toNat).Station) (cH ((cH s16.1 s11.2.2.toNat).Channels) k_17)).bind fun r51=>
        next16 (r51,true)
        else
        next16 (s16.1,s16.2)))
      (fun (s16:List GDomain×Bool)=>
       next11 (s16.1,s16.2,(s11.2.2+1))) (((cH s11.1 s11.2.2.toNat).Channels).length) (s11.1,s11.2.1)
      else
      next5 (s11.1,s11.2.1))) fuel (s5.1,false,0)
    else
    k2 s5.1)) fuel (d,true))
theorem eF {α:Type}[Inhabited α]{xs:List α}{k:Nat}(h:k<xs.length):cH xs k∈xs:=by rw [d5 h];exact List.getElem_mem _
theorem gW {α:Type}[Inhabited α]{xs:List α}{x:α}(h:x∈xs):∃k,k<xs.length∧cH xs k=x:=by
 obtain ⟨k,hk,rfl⟩:=List.mem_iff_getElem.1 h;exact ⟨k,hk,d5 hk⟩
theorem iz {α β:Type}[Inhabited α][Inhabited β]{f:α→β}{xs:List α}{i:Nat}(h:i<xs.length):cH (xs.map f) i=f (cH xs i):=jC h
theorem zd5 {α:Type}[Inhabited α]{a b:List α}(hl:a.length=b.length)(h:∀i,i<a.length→cH a i=cH b i):a=b:=by
 apply List.ext_getElem hl;intro i h1 h2;have:=h i h1
 rwa [d5 h1,d5 h2] at this
def SubD (a b:List GDomain):Prop:=a.length=b.length∧∀i,i<b.length→(cH a i).Station=(cH b i).Station∧∀c∈(cH a i).Channels,c∈(cH b i).Channels
theorem SubD.refl (a:List GDomain):SubD a a:=⟨rfl,fun _ _=>⟨rfl,fun _ h=>h⟩⟩
theorem SubD.trans {a b c:List GDomain}(h:SubD a b)(k:SubD b c):SubD a c:=⟨h.1.trans k.1,fun i hi=>⟨((h.2 i (by rw [k.1];exact hi)).1).trans (k.2 i hi).1,fun x hx=>(k.2 i hi).2 x ((h.2 i (by rw [k.1];exact hi)).2 x hx)⟩⟩
def WtP (p:GProblem):Prop:=p.Rules.Loads.length≤1024∧∀x∈p.Rules.Loads,0≤x.Weight∧x.Weight≤1073741824
section
variable {p:GProblem}{a b d:List GDomain}
theorem fo {s c:Int}:iR d s c=true↔∀x∈d,x.Station=s→∀k∈x.Channels,k=c:=by
 unfold iR;simp only [List.all_eq_true,Bool.or_eq_true,decide_eq_true_eq];constructor
 ·intro h x hx hs k hk;rcases h x hx with h1|h1
  ·exact absurd hs h1
  ·exact h1 k hk
 ·intro h x hx;by_cases hs:x.Station=s
  ·exact .inr (h x hx hs)
  ·exact .inl hs
theorem zcn (h:SubD a b){s c:Int}(ho:iR b s c=true):iR a s c=true:=by
 rw [fo] at ho ⊢;intro x hx hs k hk;obtain ⟨i,hi,rfl⟩:=gW hx;have h2:=h.2 i (by rw [←h.1];exact hi);exact ho (cH b i) (eF (by rw [←h.1];exact hi)) (by rw [←h2.1];exact hs) k (h2.2 k hk)
theorem zfx {t c f : Int} (h : SubD a b) : ∀ (l : List GLoad), (∀ x ∈ l, 0 ≤ x.Weight ∧ x.Weight ≤ 1073741824) → ∀ n n' : Int, 0 ≤ n → n ≤ n' → n' + 1073741824 * (l.length : Int) ≤ 4611686018427387904 →
    l.foldl (fun n x => bif loadC b t c f x then wI (n + x.Weight) else n) n ≤ l.foldl (fun n x => bif loadC a t c f x then wI (n + x.Weight) else n) n'
  | [], _, n, n', _, hn, _ => hn
  | x :: r, hw, n, n', h0, hn, hb => by
    have h1 := hw x b2; simp only [List.length_cons] at hb; rw [List.foldl_cons, List.foldl_cons]; have e1 : wI (n + x.Weight) = n + x.Weight := zia a6; have e2 : wI (n' + x.Weight) = n' + x.Weight := zia a6; rw [e1, e2]
    have hc : loadC b t c f x = true → loadC a t c f x = true := by
      unfold loadC;simp only [Bool.and_eq_true, Bool.or_eq_true]; rintro ⟨h3, h4⟩; exact ⟨h3, h4.imp id (zcn h)⟩
    refine zfx h r (fun y hy => hw y (by simp [hy])) _ _ ?_ ?_ ?_
    · cases loadC b t c f x <;> simp <;> omega
    · cases hb' : loadC b t c f x
      · cases loadC a t c f x <;> simp <;> omega
      · rw [hc hb']; simp; omega
    · cases loadC a t c f x <;> simp <;> omega
theorem zh3 (hp:WtP p)(h:SubD a b){t c f:Int}:iQ p b t c f≤iQ p a t c f:=by
 unfold iQ;have:=hp.1;exact zfx h _ hp.2 0 0 a6 a6 a6
theorem zgT {s c l l':Int}(hl:l≤l')(h:mE p s c l=true):mE p s c l'=true:=by
 unfold mE at h ⊢;rw [List.any_eq_true] at h ⊢;obtain ⟨x,hx,h⟩:=h;refine ⟨x,hx,?_⟩;simp only [Bool.and_eq_true,decide_eq_true_eq] at h ⊢;exact ⟨h.1,by omega⟩
theorem zge (hp:WtP p)(h:SubD a b){s c:Int}(hr:jj p b s c=true):jj p a s c=true:=by
 unfold jj at hr ⊢;simp only [Bool.or_eq_true,List.any_eq_true] at hr ⊢;rcases hr with (⟨x,hx,hr⟩|hr)|⟨x,hx,hr⟩
 ·refine .inl (.inl ⟨x,hx,?_⟩);unfold zhF at hr ⊢;simp only [Bool.or_eq_true,Bool.and_eq_true] at hr ⊢;exact hr.imp (fun q=>⟨q.1,zcn h q.2⟩) (fun q=>⟨q.1,zcn h q.2⟩)
 ·exact .inl (.inr (zgT (zh3 hp h) hr))
 ·refine .inr ⟨x,hx,?_⟩;unfold loadR at hr ⊢;simp only [Bool.and_eq_true] at hr ⊢;exact ⟨⟨hr.1.1,zcn h hr.1.2⟩,zgT (zh3 hp h) hr.2⟩
structure ClosedD (p:GProblem) (d:List GDomain):Prop where
 ne:∀x∈d,x.Channels≠[]
 calm:∀x∈d,∀c∈x.Channels,jj p d x.Station c=false
def OrdD (a b:List GDomain):Prop:=∀i,i<b.length→(cH a i).Channels.Sublist (cH b i).Channels
def PropD (p:GProblem)(d:List GDomain)(r:List GDomain×Bool):Prop:=
 (r.2=true∧ClosedD p r.1∧(SubD r.1 d∧OrdD r.1 d)∧∀S,ClosedD p S→SubD S d→SubD S r.1)∨(r=([],false)∧∀S,ClosedD p S→¬SubD S d)
def zlh (R:List GDomain→Int→Int→Bool)(d:List GDomain):Prop:=∀x∈d,∀c∈x.Channels,R d x.Station c=false
def MonoR (R:List GDomain→Int→Int→Bool):Prop:=∀a b s c,SubD a b→R b s c=true→R a s c=true
theorem zkj {R:List GDomain→Int→Int→Bool}(hp:MonoR R){S:List GDomain}(hS:zlh R S)(h:SubD S d){s c:Int}(hr:R d s c=true):SubD S (d.map (i8 s c)):=by
 refine ⟨by rw [h.1,List.length_map],fun i hi=>?_⟩;rw [List.length_map] at hi;rw [iz hi];have h2:=h.2 i hi;refine ⟨h2.1,fun k hk=>?_⟩;unfold i8;rw [List.mem_filter];refine ⟨h2.2 k hk,?_⟩;simp only [Bool.or_eq_true,decide_eq_true_eq];by_cases hs:(cH d i).Station=s
 ·refine .inr fun hkc=>?_;subst hkc;have hm:=eF (show i<S.length by rw [h.1];exact hi);have:=hS _ hm k hk;rw [h2.1,hs,hp _ _ _ _ h hr] at this
  cases this
 ·exact .inl hs
theorem drop_sub {s c:Int}:SubD (d.map (i8 s c)) d:=by
 refine ⟨List.length_map _,fun i hi=>?_⟩;rw [iz hi];exact ⟨rfl,fun k hk=>(List.mem_filter.1 hk).1⟩
def ep (d:List GDomain):Nat:=(d.map fun x=>x.Channels.length).sum
theorem zkU:∀(d:List GDomain) (f:GDomain→GDomain),(∀x∈d,(f x).Channels.length≤x.Channels.length)→ep (d.map f)≤ep d
 | [],_,_=>Nat.le_refl _
 |x :: r,f,h=>by
  have:=zkU r f (fun y hy=>h y (by simp [hy]));have h1:=h x b2;simp only [ep,List.map_cons,List.sum_cons] at this ⊢;omega
theorem zlq:∀(d:List GDomain) (f:GDomain→GDomain),(∀x∈d,(f x).Channels.length≤x.Channels.length)→(∃x∈d,(f x).Channels.length<x.Channels.length)→ep (d.map f)<ep d
 |x :: r,f,h,he=>by
  have h1:=h x b2;obtain ⟨y,hy,hlt⟩:=he;rcases List.mem_cons.1 hy with rfl|hy
  ·have:=zkU r f (fun z hz=>h z (by simp [hz]));simp only [ep,List.map_cons,List.sum_cons] at this ⊢;omega
  ·have:=zlq r f (fun z hz=>h z (by simp [hz])) ⟨y,hy,hlt⟩;simp only [ep,List.map_cons,List.sum_cons] at this ⊢;omega
theorem zg2 {α:Type}{q:α→Bool}:∀ {l:List α} {x:α},x∈l→q x=false→(l.filter q).length<l.length
 |y :: r,x,hx,hq=>by
  rcases List.mem_cons.1 hx with rfl|hx
  ·rw [List.filter_cons,hq];have:=List.length_filter_le q r;simp;omega
  ·have:=zg2 hx hq;rw [List.filter_cons];split <;> simp only [List.length_cons] <;> omega
theorem zlU {s c:Int}{i:Nat}(hi:i<d.length)(hs:(cH d i).Station=s)(hc:c∈(cH d i).Channels):ep (d.map (i8 s c))<ep d:=
 zlq d _ (fun x _=>List.length_filter_le _ _) ⟨cH d i,eF hi,zg2 hc (by simp [hs])⟩
structure Bd (d:List GDomain):Prop where
 len:d.length≤100000
 ch:∀x∈d,x.Channels.length≤100000∧x.Channels.Nodup
theorem Bd.drop (h:Bd d){s c:Int}:Bd (d.map (i8 s c)):=by
 refine ⟨by rw [List.length_map];exact h.len,fun x hx=>?_⟩;obtain ⟨y,hy,rfl⟩:=List.mem_map.1 hx;exact ⟨Nat.le_trans (List.length_filter_le _ _) (h.ch y hy).1,(h.ch y hy).2.filter _⟩
theorem zks {s c:Int}{i k:Nat}(hb:Bd d)(hi:i<d.length)(hk:k<(cH d i).Channels.length)(hc:cH (cH d i).Channels k=c):k≤(cH (d.map (i8 s c)) i).Channels.length:=by
 rw [iz hi];unfold i8;have hn:=(hb.ch _ (eF hi)).2;have e:(cH d i).Channels=(cH d i).Channels.take k++(cH d i).Channels.drop k:=(List.take_append_drop k _).symm
 have hf:((cH d i).Channels.take k).filter (fun q=>decide (¬(cH d i).Station=s)||decide (¬q=c))=(cH d i).Channels.take k:=by
  rw [List.filter_eq_self];intro q hq;simp only [Bool.or_eq_true,decide_eq_true_eq];refine .inr fun hqc=>?_;obtain ⟨j,hj,rfl⟩:=List.mem_iff_getElem.1 hq;simp only [List.length_take] at hj;rw [List.getElem_take] at hqc;rw [d5 hk] at hc;have:=(List.getElem_inj (h₀:=by omega) (h₁:=hk) hn).1 (hqc.trans hc.symm);omega
 show k≤((cH d i).Channels.filter _).length
 rw [e,List.filter_append,hf,List.length_append,List.length_take];omega
structure InvR (R:List GDomain→Int→Int→Bool) (d0 d:List GDomain):Prop where
 bd:Bd d
 sub:SubD d d0
 ord:OrdD d d0
 sup:∀S,zlh R S→SubD S d0→SubD S d
theorem InvR.step {R:List GDomain→Int→Int→Bool}{d0:List GDomain}(hp:MonoR R)(h:InvR R d0 d){s c:Int}(hr:R d s c=true):InvR R d0 (d.map (i8 s c)):=
 ⟨h.bd.drop,drop_sub.trans h.sub,fun i hi=>by
  rw [iz (by rw [h.sub.1];exact hi)]
  exact (List.filter_sublist).trans (h.ord i hi),fun S hS hs=>zkj hp hS (h.sup S hS hs) hr⟩
theorem zkV {R : List GDomain → Int → Int → Bool} {ρ : Type} {fuel : Nat} {d0 : List GDomain} {k2 : List GDomain → Option ρ} (post : Option ρ → Prop) (hp : MonoR R) (hb : Bd d0) (hf1 : d0.length < fuel) (hf2 : ep d0 + 1 < fuel) (hend : ∀ d, InvR R d0 d → zlh R d → post (k2 d)) :
    post (gJ (fun (next5 : (List GDomain × Bool) → Option ρ) (s5 : List GDomain × Bool) =>
      (bif s5.2 then
        gJ (fun (next11 : (List GDomain × Bool × Int) → Option ρ) (s11 : List GDomain × Bool × Int) =>
          (bif decide (s11.2.2 < (s11.1.length : Int)) then
            em (0 ≤ s11.2.2 ∧ s11.2.2 < (s11.1.length : Int)) <|
            jD (fun (k_17 : Nat) (next16 : (List GDomain × Bool) → Option ρ) (s16 : List GDomain × Bool) =>
              em (0 ≤ s11.2.2 ∧ s11.2.2 < (s16.1.length : Int)) <|
              em (0 ≤ (k_17 : Int) ∧ (k_17 : Int) < (((cH s16.1 s11.2.2.toNat).Channels).length : Int)) <|
              (bif (R s16.1 ((cH s16.1 s11.2.2.toNat).Station) (cH ((cH s16.1 s11.2.2.toNat).Channels) k_17)) then
                (mP s16.1 ((cH s16.1 s11.2.2.toNat).Station) (cH ((cH s16.1 s11.2.2.toNat).Channels) k_17)).bind fun r51 =>
                next16 (r51, true)
                else
                next16 (s16.1, s16.2)))
            (fun (s16 : List GDomain × Bool) =>
              next11 (s16.1, s16.2, (s11.2.2 + 1))) (((cH s11.1 s11.2.2.toNat).Channels).length) (s11.1, s11.2.1)
            else
            next5 (s11.1, s11.2.1))) fuel (s5.1, false, 0)
        else
        k2 s5.1)) fuel (d0, true)) := by
  refine zeu (σ := List GDomain × Bool) (I := fun s => InvR R d0 s.1 ∧ (s.2 = false → zlh R s.1)) (μ := fun s => ep s.1 + (bif s.2 then 1 else 0)) (post := post) ⟨⟨hb, .refl _, fun _ _ => List.Sublist.refl _, fun S _ h => h⟩, fun h => by cases h⟩ hf2 ?_; rintro ⟨d, again⟩ next ⟨hI, hA⟩ hn; dsimp only at hI hA hn ⊢
  cases again with
  | false =>
    rw [cond_false]; exact hend d hI (hA rfl)
  | true =>
    rw [cond_true]
    -- one sweep over the stations
    refine zeu (σ := List GDomain × Bool × Int) (I := fun s => InvR R d0 s.1 ∧ 0 ≤ s.2.2 ∧ s.2.2 ≤ s.1.length ∧ s.1.length = d.length ∧ (s.2.1 = false → s.1 = d ∧ ∀ j : Nat, (j : Int) < s.2.2 → ∀ c ∈ (cH d j).Channels, R d (cH d j).Station c = false) ∧ (s.2.1 = true → ep s.1 < ep d)) (μ := fun s => (s.1.length - s.2.2).toNat) (post := post) ⟨hI, by simp, by simp, rfl, fun _ => ⟨rfl, fun j hj => absurd hj b2⟩, fun h => by cases h⟩ (by simp only [Int.sub_zero, Int.toNat_natCast]; rw [hI.sub.1]; exact hf1) ?_; rintro ⟨d1, ag, i⟩ next1 ⟨hI1, h0, h1, hl, hF, hT⟩ hn1; dsimp only at hI1 h0 h1 hl hF hT hn1 ⊢; by_cases hi : i < (d1.length : Int)
    · rw [decide_eq_true hi, cond_true, fA ⟨h0, hi⟩]; (have hin : i.toNat < d1.length := by omega); refine zkT (σ := List GDomain × Bool) (I := fun m s => InvR R d0 s.1 ∧ s.1.length = d.length ∧ m ≤ (cH s.1 i.toNat).Channels.length ∧ (s.2 = false → s.1 = d ∧ (∀ j : Nat, (j : Int) < i → ∀ c ∈ (cH d j).Channels, R d (cH d j).Station c = false) ∧ ∀ k, m ≤ k → k < (cH d i.toNat).Channels.length → R d (cH d i.toNat).Station (cH (cH d i.toNat).Channels k) = false) ∧ (s.2 = true → ep s.1 < ep d)) (post := post) ?_ ?_ ?_
      · dsimp only; refine ⟨hI1, hl, Nat.le_refl _, fun h => ?_, hT⟩; obtain ⟨h2, h3⟩ := hF h; subst h2; exact ⟨rfl, h3, fun k h4 h5 => absurd h5 a6⟩
      · rintro ⟨d2, ag2⟩ ⟨g1, g2, _, g4, g5⟩; dsimp only at g1 g2 g4 g5 ⊢; refine hn1 _ ⟨g1, by dsimp only; omega, by dsimp only; omega, g2, fun h => ?_, g5⟩ (by dsimp only; omega); dsimp only at h; obtain ⟨h2, h3, h4⟩ := g4 h; refine ⟨h2, fun j hj c hc => ?_⟩; dsimp only at hj; by_cases hji : (j : Int) < i
        · exact h3 j hji c hc
        · (obtain rfl : j = i.toNat := by omega); obtain ⟨k, hk, rfl⟩ := gW hc; exact h4 k (Nat.zero_le _) hk
      · rintro k ⟨d2, ag2⟩ nx hk ⟨g1, g2, g3, g4, g5⟩ hnx; dsimp only at g1 g2 g3 g4 g5 hnx ⊢; (have hid : i.toNat < d2.length := by omega); rw [fA ⟨h0, by omega⟩, fA ⟨by omega, by omega⟩]
        cases hr : R d2 (cH d2 i.toNat).Station (cH (cH d2 i.toNat).Channels k) with
        | true =>
          rw [cond_true, zkP g1.bd.len (fun x hx => (g1.bd.ch x hx).1), Option.bind_some]; refine hnx _ ⟨g1.step hp hr, by dsimp only; rw [List.length_map]; exact g2, zks g1.bd hid a6 rfl, (fun h => by cases h), fun _ => ?_⟩;dsimp only; have h6 := zlU hid rfl (eF (show k < (cH d2 i.toNat).Channels.length by omega))
          cases ag2 with
          | true => have := g5 rfl; omega
          | false => obtain ⟨h7, _⟩ := g4 rfl; subst h7; exact h6
        | false =>
          rw [cond_false]; refine hnx _ ⟨g1, g2, by dsimp only; omega, fun h => ?_, g5⟩; dsimp only at h ⊢; obtain ⟨h7, h8, h9⟩ := g4 h; refine ⟨h7, h8, fun q h10 h11 => ?_⟩; rcases Nat.lt_or_ge k q with h12 | h12
          · exact h9 q h12 h11
          · (obtain rfl : q = k := by omega); subst h7; exact hr
    · rw [decide_eq_false hi, cond_false]; (have hil : i = d1.length := by omega); refine hn (d1, ag) ⟨hI1, fun h => ?_⟩ ?_
      · dsimp only at h ⊢; obtain ⟨h2, h3⟩ := hF h; subst h2; intro x hx c hc; obtain ⟨j, hj, rfl⟩ := gW hx; exact h3 j a6 c hc
      · dsimp only
        cases ag with
        | true => have := hT rfl;simp only [cond_true]; omega
        | false => obtain ⟨h2, _⟩ := hF rfl; subst h2;simp only [cond_true, cond_false]; omega
theorem MonoR.rem (hp:WtP p):MonoR (jj p):=fun _ _ _ _ h hr=>zge hp h hr
theorem zeK {fuel : Nat} {d0 : List GDomain} (hp : WtP p) (hb : Bd d0) (hf1 : d0.length < fuel) (hf2 : ep d0 + 1 < fuel) : ∃ r, zba fuel p d0 = some r ∧ PropD p d0 r := by
  unfold zba;simp only [dV, Nat.sub_zero, zhY]; refine zkV (R := jj p) (k2 := fun d => di (fun (i : Nat) (next : Unit → Option (List GDomain × Bool)) (_ : Unit) => bif decide ((((cH d i).Channels).length : Int) = 0) then some ([], false) else next ()) (fun (_ : Unit) => some (d, true)) d.length 0 ()) (fun o => ∃ r, o = some r ∧ PropD p d0 r) (.rem hp) hb hf1 hf2 fun d hI hA => ?_
  -- the end: is a domain empty?
  refine kO (σ := Unit) (I := fun i _ => ∀ j, j < i → (cH d j).Channels ≠ []) (post := fun o => ∃ r, o = some r ∧ PropD p d0 r) (fun j hj => absurd hj (Nat.not_lt_zero j)) ?_ ?_
  · intro _ h; refine ⟨_, rfl, .inl ⟨rfl, ⟨fun x hx => ?_, hA⟩, ⟨hI.sub, hI.ord⟩, fun S hS => hI.sup S hS.calm⟩⟩; obtain ⟨i, hi, rfl⟩ := gW hx; exact h i hi
  · intro i _ nx hi h hnx; by_cases he : (cH d i).Channels = []
    · rw [he]; refine ⟨_, rfl, .inr ⟨rfl, fun S hS hs => ?_⟩⟩; have h2 := hI.sup S hS.calm hs; have h3 := (h2.2 i hi).2; rw [he] at h3; have hm := eF (show i < S.length by rw [h2.1]; exact hi); apply hS.ne _ hm
      cases hc : (cH S i).Channels with
      | nil => rfl
      | cons c r => exact absurd (h3 c (by rw [hc]; simp)) b2
    · have : ¬ ((cH d i).Channels.length : Int) = 0 := fun h0 => he (List.eq_nil_of_length_eq_zero a6); rw [decide_eq_false this, cond_false]; refine hnx () (fun j hj => ?_); rcases Nat.lt_or_ge j i with h1 | h1
      · exact h j h1
      · rw [show j = i by omega]; exact he
end
def inB (n a b:Int):Bool:=decide (a≤n)&&decide (n≤b)
def fe (lo hi:Int):Bool:=decide (2≤lo)&&(decide (lo≤hi)&&decide (hi≤51))
def Ie (z:Int):List Value:=[.int .i64 z]
abbrev zgb (w:World)(v:Value)(l:List Int):Prop:=SlOf w v Ie 1 l
structure Dx where
 st:Int
 v:Value
 chs:List Int
instance:Inhabited Dx:=⟨⟨0, .slice none 0 0,[]⟩⟩
def Dx.cells (d:Dx):List Value:=[.int .i64 d.st,d.v]
structure Pr where
 a:Int
 b:Int
 off:Int
 lo:Int
 hi:Int
deriving DecidableEq,Inhabited
def Pr.cells (x:Pr):List Value:=[.int .i64 x.a, .int .i64 x.b, .int .i64 x.off, .int .i64 x.lo, .int .i64 x.hi]
structure Ld where
 to:Int
 fr:Int
 wt:Int
 lo:Int
 hi:Int
deriving DecidableEq,Inhabited
def Ld.cells (x:Ld):List Value:=[.int .i64 x.to, .int .i64 x.fr, .int .i64 x.wt, .int .i64 x.lo, .int .i64 x.hi]
structure Cp where
 st:Int
 mx:Int
 lo:Int
 hi:Int
deriving DecidableEq,Inhabited
def Cp.cells (x:Cp):List Value:=[.int .i64 x.st, .int .i64 x.mx, .int .i64 x.lo, .int .i64 x.hi]
structure Ch where
 st:Int
 ch:Int
deriving DecidableEq,Inhabited
def Ch.cells (x:Ch):List Value:=[.int .i64 x.st, .int .i64 x.ch]
abbrev PrsAt (w:World)(v:Value)(l:List Pr):Prop:=SlOf w v Pr.cells 5 l
abbrev LdsAt (w:World)(v:Value)(l:List Ld):Prop:=SlOf w v Ld.cells 5 l
abbrev CpsAt (w:World)(v:Value)(l:List Cp):Prop:=SlOf w v Cp.cells 4 l
structure DomsAt (w:World) (v:Value) (l:List Dx):Prop where
 sl:SlOf w v Dx.cells 2 l
 each:∀d∈l,zgb w d.v d.chs
theorem SlOf.one {α:Type}{w:World}{v:Value}{enc:α→List Value}{size:Nat}{xs:List α}(h:SlOf w v enc size xs):OneC v:=by
 obtain ⟨A,cap,rfl,_⟩:=h;exact inferInstance
theorem iZ {α:Type}[Inhabited α]{xs:List α}{k:Nat}(h:k<xs.length):cH xs k∈xs:=by rw [d5 h];exact List.getElem_mem _
theorem DomsAt.at {w:World}{v:Value}{l:List Dx}(h:DomsAt w v l){k:Nat}(hk:k<l.length):zgb w (cH l k).v (cH l k).chs:=h.each _ (iZ hk)
theorem DomsAt.kept {B w:World}{hs:HS}{v:Value}{l:List Dx}(hw:Hp B (fun _=>False) hs w)(h:DomsAt B v l):DomsAt w v l:=⟨h.sl.kept hw,fun d hd=>(h.each d hd).kept hw⟩
structure Pb where
 ds:List Dx
 ps:List Pr
 ls:List Ld
 cs:List Cp
structure RulesAt (w:World) (vp vl vc:Value) (P:Pb):Prop where
 ps:PrsAt w vp P.ps
 ls:LdsAt w vl P.ls
 cs:CpsAt w vc P.cs
 hps:P.ps.length≤9223372036854775807
 hls:P.ls.length≤9223372036854775807
 hcs:P.cs.length≤9223372036854775807
structure ProbAt (w:World) (vd vp vl vc:Value) (P:Pb):Prop where
 ds:DomsAt w vd P.ds
 ru:RulesAt w vp vl vc P
 hds:P.ds.length≤9223372036854775807
 hch:∀d∈P.ds,d.chs.length≤9223372036854775807
theorem RulesAt.kept {B w:World}{hs:HS}{vp vl vc:Value}{P:Pb}(hw:Hp B (fun _=>False) hs w)(h:RulesAt B vp vl vc P):RulesAt w vp vl vc P:=⟨h.ps.kept hw,h.ls.kept hw,h.cs.kept hw,h.hps,h.hls,h.hcs⟩
theorem ProbAt.kept {B w:World}{hs:HS}{vd vp vl vc:Value}{P:Pb}(hw:Hp B (fun _=>False) hs w)(h:ProbAt B vd vp vl vc P):ProbAt w vd vp vl vc P:=⟨h.ds.kept hw,h.ru.kept hw,h.hds,h.hch⟩
def dM (a b:Int):Int:=if a<b then -1 else if b<a then 1 else 0
def fE {α:Type}[Inhabited α](c:α→α→Int)(xs:List α):Bool:=(List.range xs.length).all fun k=>decide (k=0)|| !decide (0≤c (cH xs (k - 1)) (cH xs k))
def fG {α:Type}[Inhabited α](q:α→Bool)(xs:List α):Bool:=(List.range xs.length).all fun k=>q (cH xs k)
def kq:List Int→Int
 | []=>0
 |x :: r=>if x=0 then kq r else x
theorem zjP {l:List Int}{k:Nat}(h:k<l.length):kq (l.drop k)=if cH l k=0 then kq (l.drop (k+1)) else cH l k:=by
 rw [List.drop_eq_getElem_cons h,d5 h];rfl
theorem zdf (n a b:Int)(w:World):Calls Tryz.prog 60 #[.int .i64 n, .int .i64 a, .int .i64 b] w fun e w'=>e= .returned (.bool (inB n a b))∧Below w.heap.size w w':=by
 refine dz (M:=fun _=>False) (hs:=[]) Tryz.func60 rfl rfl rfl (Hp.refl _ _) ?_;refine lY ?_;refine TL.run 4 rfl ?_;refine du rfl rfl rfl (fun h1=>?_) (fun h1=>?_)
 ·have p1:=h1; (try simp only [cS] at p1);refine j2 ?_;refine j2 ?_;refine j2 ?_;refine kT ?_;refine fI ?_;refine cU rfl rfl (fun w' hw=>⟨?_,hw.isBelow⟩);exact q5f
 ·have p1:=h1; (try simp only [cS] at p1);refine q1s ?_;refine fI ?_;refine cU rfl rfl (fun w' hw=>⟨?_,hw.isBelow⟩);exact q5f
theorem zcc (n:Int)(w:World):Calls Tryz.prog 59 #[.int .i64 n] w fun e w'=>e= .returned (.bool (inB n 0 511))∧Below w.heap.size w w':=by
 refine dz (M:=fun _=>False) (hs:=[]) Tryz.func59 rfl rfl rfl (Hp.refl _ _) ?_;refine mN ?_; (refine cM (Wt.none) rfl rfl (cL rfl rfl rfl (fun w hw=>zdf _ _ _ _)) ?_;rintro _ _ ⟨rfl,rfl⟩);refine fI ?_;refine cU rfl rfl (fun w' hw=>⟨?_,hw.isBelow⟩)
 rfl
theorem zeJ (lo hi:Int)(w:World):Calls Tryz.prog 110 #[.int .i64 lo, .int .i64 hi] w fun e w'=>e= .returned (.bool (fe lo hi))∧Below w.heap.size w w':=by
 refine dz (M:=fun _=>False) (hs:=[]) Tryz.func110 rfl rfl rfl (Hp.refl _ _) ?_;refine lY ?_;refine fH ?_;refine du rfl rfl rfl (fun h1=>?_) (fun h1=>?_)
 ·have p1:=h1; (try simp only [cS] at p1);refine j2 ?_;refine j2 ?_;refine j2 ?_;refine kT ?_;refine dn ?_;refine du rfl rfl rfl (fun h2=>?_) (fun h2=>?_)
  ·have p2:=h2; (try simp only [cS] at p2);refine mC ?_;refine mC ?_;refine q2R ?_;refine fI ?_;refine cU rfl rfl (fun w' hw=>⟨?_,hw.isBelow⟩);exact q42
  ·have p2:=h2; (try simp only [cS] at p2);refine q1X ?_;refine fI ?_;refine cU rfl rfl (fun w' hw=>⟨?_,hw.isBelow⟩);exact q42
 ·have p1:=h1; (try simp only [cS] at p1);refine q1s ?_;refine TL.run 5 rfl ?_;refine gk ?_;refine cU rfl rfl (fun w' hw=>⟨?_,hw.isBelow⟩);exact q42
theorem zh9 (n:Int)(w:World):Calls Tryz.prog 90 #[.int .i64 n] w fun e w'=>e= .returned (.bool false)∧Below w.heap.size w w':=by
 refine dz (M:=fun _=>False) (hs:=[]) Tryz.func90 rfl rfl rfl (Hp.refl _ _) ?_;refine lY ?_;refine TL.run 4 rfl ?_;refine gk ?_;refine cU rfl rfl (fun w' hw=>⟨?_,hw.isBelow⟩);exact j8 b2
theorem kV (a b:Int)(w:World):Calls Tryz.prog 49 #[.int .i64 a, .int .i64 b] w fun e w'=>e= .returned (.int .i64 (dM a b))∧Below w.heap.size w w':=by
 refine dz (M:=fun _=>False) (hs:=[]) Tryz.func49 rfl rfl rfl (Hp.refl _ _) ?_;refine mN ?_; (refine cM (Wt.none) rfl rfl (cL rfl rfl rfl (fun w hw=>zh9 _ _)) ?_;rintro _ _ ⟨rfl,rfl⟩);refine mt ?_; (refine cM (Wt.none) rfl rfl (cL rfl rfl rfl (fun w hw=>zh9 _ _)) ?_;rintro _ _ ⟨rfl,rfl⟩);refine mj ?_;refine iq rfl rfl ?_;refine ku ?_;refine dJ ?_;refine iq rfl rfl ?_;refine ku ?_;refine fH ?_;refine cR ?_;refine T.cond rfl (fun h1=>?_) (fun h1=>?_)
 ·have p1:=h1; (try simp only [cS] at p1);refine jc ?_;refine cU rfl rfl (fun w' hw=>⟨?_,hw.isBelow⟩);exact q43
 ·have p1:=h1; (try simp only [cS] at p1);refine ku ?_;refine fH ?_;refine cR ?_;refine T.cond rfl (fun h2=>?_) (fun h2=>?_)
  ·have p2:=h2; (try simp only [cS] at p2);refine jc ?_;refine cU rfl rfl (fun w' hw=>⟨?_,hw.isBelow⟩);exact q43
  ·have p2:=h2; (try simp only [cS] at p2);refine i2 ?_;refine fI ?_;refine cU rfl rfl (fun w' hw=>⟨?_,hw.isBelow⟩);exact q43
theorem zkW (l:List Int)(v:Value)(w:World)(h:zgb w v l)(hl:l.length≤9223372036854775807):Calls Tryz.prog 111 #[v] w fun e w'=>e= .returned (.int .i64 (kq l))∧Below w.heap.size w w':=by
 obtain ⟨A,cap,rfl,hsl⟩:=h.op;refine dz (M:=fun _=>False) (hs:=[]) Tryz.func111 rfl rfl rfl (Hp.refl _ _) ?_;refine lY ?_;refine mq ?_;refine jB ?_;refine T.loop (ι:=Nat) (fun k=>[(3, .int .i64 0),(6, .slice A l.length cap),(7, .int .i64 (l.length:Int)),(8, .int .i64 (k:Int))]) (fun k=>[]) (fun k=>k≤l.length∧kq (l.drop k)=kq l) (fun k=>l.length - k) 0 ?_ ?_ ?_ ?_
 ·exact ⟨by omega,rfl⟩
 ·exact (by repeat (first|exact Sub.nil|refine Sub.cons rfl ?_))
 ·exact Sx
 ·intro k hphi;obtain ⟨hkl,hor⟩:=hphi;refine fB ?_;refine T.cond rfl (fun h1=>?_) (fun h1=>?_)
  ·have p1:=h1; (try simp only [cS] at p1);obtain ⟨g,off,rfl,hc⟩:=hsl a6;have hk:=hc k a6;simp only [Ie] at hk;refine fU ?_;refine q1S ?_;refine gM ?_;refine fH ?_;refine cR ?_;refine T.cond rfl (fun h2=>?_) (fun h2=>?_)
   ·have p2:=h2; (try simp only [cS] at p2);refine ip ?_;refine mv ?_;refine cU rfl rfl (fun w' hw=>⟨?_,hw.isBelow⟩);exact zc1 (by rw [zjP a6,if_neg b8] at hor;exact hor)
   ·have p2:=h2; (try simp only [cS] at p2);refine iH ?_;exact K.next (k+1) ⟨by omega,by rw [zjP a6,if_pos b8] at hor;exact hor⟩ a6 (by repeat (first|exact Sub.nil|refine Sub.cons rfl ?_)) Sx
  ·have p1:=h1; (try simp only [cS] at p1);refine mz ?_;refine jJ ?_;refine cU rfl rfl (fun w' hw=>⟨?_,hw.isBelow⟩);exact zc1 (by rw [List.drop_eq_nil_of_le a6] at hor;exact hor)
theorem zmN {q:Dx→Bool}(xs:List Dx)(v:Value)(f:FuncId)(caps:Array Value)(w:World)(h:SlOf w v Dx.cells 2 xs)(ho1:∀k,k<xs.length→OneC (cH xs k).v)[hE:Enters Tryz.prog f](hC:∀k,k<xs.length→∀w',Below w.heap.size w w'→Calls Tryz.prog f (.agg (Dx.cells (cH xs k)).toArray :: caps.toList).toArray w' fun e w''=>e= .returned (.bool (q (cH xs k)))∧Below w'.heap.size w' w'')(hl:xs.length≤9223372036854775807):Calls Tryz.prog 45 #[v, .func (.func f) #[] caps] w fun e w'=>e= .returned (.bool (fG q xs))∧Below w.heap.size w w':=by
 obtain ⟨A,cap,rfl,hsl⟩:=h.op;refine dz (M:=fun _=>False) (hs:=[]) Tryz.func45 rfl rfl rfl (Hp.refl _ _) ?_;refine jE ?_;refine jB ?_;refine T.loop (ι:=Nat) (fun k=>[(1, .func (.func f) #[] caps),(7, .slice A xs.length cap),(8, .int .i64 (xs.length:Int)),(9, .int .i64 (k:Int))]) (fun k=>[]) (fun k=>k≤xs.length∧∀j,j<k→q (cH xs j)=true) (fun k=>xs.length - k) 0 ?_ ?_ ?_ ?_
 ·exact q4L
 ·exact (by repeat (first|exact Sub.nil|refine Sub.cons rfl ?_))
 ·exact Sx
 ·intro k hphi;obtain ⟨hkl,hall⟩:=hphi;refine fB ?_;refine T.cond rfl (fun h1=>?_) (fun h1=>?_)
  ·have p1:=h1; (try simp only [cS] at p1);obtain ⟨g,off,rfl,hc⟩:=hsl a6;have hk:=hc k a6;haveI:=ho1 k a6;simp only [Dx.cells] at hk;refine fU ?_;refine lB ?_; (refine cM (Wt.none) rfl rfl (Ew.alloc) ?_;rintro _ _ ⟨g6,rfl,rfl⟩); (refine dN (Wt.none) rfl (dG 0) ?_;rintro _ _ ⟨rfl,rfl⟩);refine dy ?_;refine dn ?_;refine iF ?_; (refine cM (Wt.none) rfl rfl (kF rfl rfl rfl (fun w hw=>hC k a6 w hw.isBelow)) ?_;rintro _ _ ⟨rfl,rfl⟩);refine dJ ?_;refine T.cond rfl (fun h2=>?_) (fun h2=>?_)
   ·have p2:=h2; (try simp only [cS] at p2);refine iX ?_;refine cU rfl rfl (fun w' hw=>⟨?_,hw.isBelow⟩);exact q4M
   ·have p2:=h2; (try simp only [cS] at p2);refine iH ?_;exact K.next (k+1) ⟨by omega,zeg hall (by simpa using p2)⟩ a6 (by repeat (first|exact Sub.nil|refine Sub.cons rfl ?_)) Sx
  ·have p1:=h1; (try simp only [cS] at p1);refine q4n ?_;refine cU rfl rfl (fun w' hw=>⟨?_,hw.isBelow⟩);exact q4N
theorem zhI {c:Dx→Dx→Int}(xs:List Dx)(v:Value)(f:FuncId)(w:World)(h:SlOf w v Dx.cells 2 xs)(ho1:∀k,k<xs.length→OneC (cH xs k).v)[hE:Enters Tryz.prog f](hC:∀x y:Dx,OneC x.v→OneC y.v→∀w':World,Calls Tryz.prog f #[.agg (Dx.cells (x)).toArray, .agg (Dx.cells (y)).toArray] w' fun e w''=>e= .returned (.int .i64 (c x y))∧Below w'.heap.size w' w'')(hl:xs.length≤9223372036854775807):Calls Tryz.prog 50 #[v, .func (.func f) #[] #[]] w fun e w'=>e= .returned (.bool (fE c xs))∧Below w.heap.size w w':=by
 obtain ⟨A,cap,rfl,hsl⟩:=h.op;refine dz (M:=fun _=>False) (hs:=[]) Tryz.func50 rfl rfl rfl (Hp.refl _ _) ?_;refine jE ?_;refine cR (T.block ?_);refine T.loop (ι:=Nat) (fun k=>[(0, .slice A xs.length cap),(1, .func (.func f) #[] #[]),(5, .int .i64 (k:Int))]) (fun k=>[]) (fun k=>1≤k∧∀j,j<k→j<xs.length→(decide (j=0)|| !decide (0≤c (cH xs (j - 1)) (cH xs j)))=true) (fun k=>xs.length - k) 1 ?_ ?_ ?_ ?_
 ·exact q4O
 ·exact (by repeat (first|exact Sub.nil|refine Sub.cons rfl ?_))
 ·exact Sx
 ·intro k hphi;obtain ⟨hk0,hall⟩:=hphi;refine im ?_;refine lv ?_;refine dJ ?_;refine T.cond rfl (fun h1=>?_) (fun h1=>?_)
  ·have p1:=h1; (try simp only [cS] at p1);obtain ⟨g,off,rfl,hc⟩:=hsl a6;have hk:=hc k a6;have hk1:=hc (k - 1) a6;have o1:=ho1 k a6;have o2:=ho1 (k - 1) a6;simp only [Dx.cells] at hk hk1;refine q0u ?_; (refine c8 rfl (Wt.none) rfl rfl (cL rfl rfl rfl (fun w hw=>hC (cH xs (k - 1)) (cH xs k) o2 o1 w)) ?_;rintro _ _ ⟨rfl,rfl⟩;refine ⟨Sx,?_⟩);refine kB ?_;refine T.cond rfl (fun h2=>?_) (fun h2=>?_)
   ·have p2:=h2; (try simp only [cS] at p2);refine iX ?_;refine cU rfl rfl (fun w' hw=>⟨?_,hw.isBelow⟩);exact q4P
   ·have p2:=h2; (try simp only [cS] at p2);refine gV ?_;exact K.next (k+1) ⟨by omega,fun j hj hjl=>by rcases Nat.lt_or_ge j k with hh|hh;exact hall j hh hjl;rw [show j=k from by omega,decide_eq_false a6];simpa using p2⟩ a6 (by repeat (first|exact Sub.nil|refine Sub.cons rfl ?_)) Sx
  ·have p1:=h1; (try simp only [cS] at p1);refine q4n ?_;refine cU rfl rfl (fun w' hw=>⟨?_,hw.isBelow⟩);exact q4Q
theorem zk0 {q:Pr→Bool}(xs:List Pr)(v:Value)(f:FuncId)(caps:Array Value)(w:World)(h:SlOf w v Pr.cells 5 xs)[hE:Enters Tryz.prog f](hC:∀k,k<xs.length→∀w',Below w.heap.size w w'→Calls Tryz.prog f (.agg (Pr.cells (cH xs k)).toArray :: caps.toList).toArray w' fun e w''=>e= .returned (.bool (q (cH xs k)))∧Below w'.heap.size w' w'')(hl:xs.length≤9223372036854775807):Calls Tryz.prog 52 #[v, .func (.func f) #[] caps] w fun e w'=>e= .returned (.bool (fG q xs))∧Below w.heap.size w w':=by
 obtain ⟨A,cap,rfl,hsl⟩:=h.op;refine dz (M:=fun _=>False) (hs:=[]) Tryz.func52 rfl rfl rfl (Hp.refl _ _) ?_;refine jE ?_;refine jB ?_;refine T.loop (ι:=Nat) (fun k=>[(1, .func (.func f) #[] caps),(7, .slice A xs.length cap),(8, .int .i64 (xs.length:Int)),(9, .int .i64 (k:Int))]) (fun k=>[]) (fun k=>k≤xs.length∧∀j,j<k→q (cH xs j)=true) (fun k=>xs.length - k) 0 ?_ ?_ ?_ ?_
 ·exact q4L
 ·exact (by repeat (first|exact Sub.nil|refine Sub.cons rfl ?_))
 ·exact Sx
 ·intro k hphi;obtain ⟨hkl,hall⟩:=hphi;refine fB ?_;refine T.cond rfl (fun h1=>?_) (fun h1=>?_)
  ·have p1:=h1; (try simp only [cS] at p1);obtain ⟨g,off,rfl,hc⟩:=hsl a6;have hk:=hc k a6;simp only [Pr.cells] at hk;refine fU ?_;refine lB ?_; (refine cM (Wt.none) rfl rfl (Ew.alloc) ?_;rintro _ _ ⟨g6,rfl,rfl⟩); (refine dN (Wt.none) rfl (dG 0) ?_;rintro _ _ ⟨rfl,rfl⟩);refine dy ?_;refine dn ?_;refine iF ?_; (refine cM (Wt.none) rfl rfl (kF rfl rfl rfl (fun w hw=>hC k a6 w hw.isBelow)) ?_;rintro _ _ ⟨rfl,rfl⟩);refine dJ ?_;refine T.cond rfl (fun h2=>?_) (fun h2=>?_)
   ·have p2:=h2; (try simp only [cS] at p2);refine iX ?_;refine cU rfl rfl (fun w' hw=>⟨?_,hw.isBelow⟩);exact q4M
   ·have p2:=h2; (try simp only [cS] at p2);refine iH ?_;exact K.next (k+1) ⟨by omega,zeg hall (by simpa using p2)⟩ a6 (by repeat (first|exact Sub.nil|refine Sub.cons rfl ?_)) Sx
  ·have p1:=h1; (try simp only [cS] at p1);refine q4n ?_;refine cU rfl rfl (fun w' hw=>⟨?_,hw.isBelow⟩);exact q4N
theorem zix {c:Pr→Pr→Int}(xs:List Pr)(v:Value)(f:FuncId)(w:World)(h:SlOf w v Pr.cells 5 xs)[hE:Enters Tryz.prog f](hC:∀x y:Pr,∀w':World,Calls Tryz.prog f #[.agg (Pr.cells (x)).toArray, .agg (Pr.cells (y)).toArray] w' fun e w''=>e= .returned (.int .i64 (c x y))∧Below w'.heap.size w' w'')(hl:xs.length≤9223372036854775807):Calls Tryz.prog 82 #[v, .func (.func f) #[] #[]] w fun e w'=>e= .returned (.bool (fE c xs))∧Below w.heap.size w w':=by
 obtain ⟨A,cap,rfl,hsl⟩:=h.op;refine dz (M:=fun _=>False) (hs:=[]) Tryz.func82 rfl rfl rfl (Hp.refl _ _) ?_;refine jE ?_;refine cR (T.block ?_);refine T.loop (ι:=Nat) (fun k=>[(0, .slice A xs.length cap),(1, .func (.func f) #[] #[]),(5, .int .i64 (k:Int))]) (fun k=>[]) (fun k=>1≤k∧∀j,j<k→j<xs.length→(decide (j=0)|| !decide (0≤c (cH xs (j - 1)) (cH xs j)))=true) (fun k=>xs.length - k) 1 ?_ ?_ ?_ ?_
 ·exact q4O
 ·exact (by repeat (first|exact Sub.nil|refine Sub.cons rfl ?_))
 ·exact Sx
 ·intro k hphi;obtain ⟨hk0,hall⟩:=hphi;refine im ?_;refine lv ?_;refine dJ ?_;refine T.cond rfl (fun h1=>?_) (fun h1=>?_)
  ·have p1:=h1; (try simp only [cS] at p1);obtain ⟨g,off,rfl,hc⟩:=hsl a6;have hk:=hc k a6;have hk1:=hc (k - 1) a6;simp only [Pr.cells] at hk hk1;refine q0u ?_; (refine c8 rfl (Wt.none) rfl rfl (cL rfl rfl rfl (fun w hw=>hC (cH xs (k - 1)) (cH xs k) w)) ?_;rintro _ _ ⟨rfl,rfl⟩;refine ⟨Sx,?_⟩);refine kB ?_;refine T.cond rfl (fun h2=>?_) (fun h2=>?_)
   ·have p2:=h2; (try simp only [cS] at p2);refine iX ?_;refine cU rfl rfl (fun w' hw=>⟨?_,hw.isBelow⟩);exact q4P
   ·have p2:=h2; (try simp only [cS] at p2);refine gV ?_;exact K.next (k+1) ⟨by omega,fun j hj hjl=>by rcases Nat.lt_or_ge j k with hh|hh;exact hall j hh hjl;rw [show j=k from by omega,decide_eq_false a6];simpa using p2⟩ a6 (by repeat (first|exact Sub.nil|refine Sub.cons rfl ?_)) Sx
  ·have p1:=h1; (try simp only [cS] at p1);refine q4n ?_;refine cU rfl rfl (fun w' hw=>⟨?_,hw.isBelow⟩);exact q4Q
theorem zlm {q:Ld→Bool}(xs:List Ld)(v:Value)(f:FuncId)(caps:Array Value)(w:World)(h:SlOf w v Ld.cells 5 xs)[hE:Enters Tryz.prog f](hC:∀k,k<xs.length→∀w',Below w.heap.size w w'→Calls Tryz.prog f (.agg (Ld.cells (cH xs k)).toArray :: caps.toList).toArray w' fun e w''=>e= .returned (.bool (q (cH xs k)))∧Below w'.heap.size w' w'')(hl:xs.length≤9223372036854775807):Calls Tryz.prog 55 #[v, .func (.func f) #[] caps] w fun e w'=>e= .returned (.bool (fG q xs))∧Below w.heap.size w w':=by
 obtain ⟨A,cap,rfl,hsl⟩:=h.op;refine dz (M:=fun _=>False) (hs:=[]) Tryz.func55 rfl rfl rfl (Hp.refl _ _) ?_;refine jE ?_;refine jB ?_;refine T.loop (ι:=Nat) (fun k=>[(1, .func (.func f) #[] caps),(7, .slice A xs.length cap),(8, .int .i64 (xs.length:Int)),(9, .int .i64 (k:Int))]) (fun k=>[]) (fun k=>k≤xs.length∧∀j,j<k→q (cH xs j)=true) (fun k=>xs.length - k) 0 ?_ ?_ ?_ ?_
 ·exact q4L
 ·exact (by repeat (first|exact Sub.nil|refine Sub.cons rfl ?_))
 ·exact Sx
 ·intro k hphi;obtain ⟨hkl,hall⟩:=hphi;refine fB ?_;refine T.cond rfl (fun h1=>?_) (fun h1=>?_)
  ·have p1:=h1; (try simp only [cS] at p1);obtain ⟨g,off,rfl,hc⟩:=hsl a6;have hk:=hc k a6;simp only [Ld.cells] at hk;refine fU ?_;refine lB ?_; (refine cM (Wt.none) rfl rfl (Ew.alloc) ?_;rintro _ _ ⟨g6,rfl,rfl⟩); (refine dN (Wt.none) rfl (dG 0) ?_;rintro _ _ ⟨rfl,rfl⟩);refine dy ?_;refine dn ?_;refine iF ?_; (refine cM (Wt.none) rfl rfl (kF rfl rfl rfl (fun w hw=>hC k a6 w hw.isBelow)) ?_;rintro _ _ ⟨rfl,rfl⟩);refine dJ ?_;refine T.cond rfl (fun h2=>?_) (fun h2=>?_)
   ·have p2:=h2; (try simp only [cS] at p2);refine iX ?_;refine cU rfl rfl (fun w' hw=>⟨?_,hw.isBelow⟩);exact q4M
   ·have p2:=h2; (try simp only [cS] at p2);refine iH ?_;exact K.next (k+1) ⟨by omega,zeg hall (by simpa using p2)⟩ a6 (by repeat (first|exact Sub.nil|refine Sub.cons rfl ?_)) Sx
  ·have p1:=h1; (try simp only [cS] at p1);refine q4n ?_;refine cU rfl rfl (fun w' hw=>⟨?_,hw.isBelow⟩);exact q4N
theorem ziN {c:Ld→Ld→Int}(xs:List Ld)(v:Value)(f:FuncId)(w:World)(h:SlOf w v Ld.cells 5 xs)[hE:Enters Tryz.prog f](hC:∀x y:Ld,∀w':World,Calls Tryz.prog f #[.agg (Ld.cells (x)).toArray, .agg (Ld.cells (y)).toArray] w' fun e w''=>e= .returned (.int .i64 (c x y))∧Below w'.heap.size w' w'')(hl:xs.length≤9223372036854775807):Calls Tryz.prog 85 #[v, .func (.func f) #[] #[]] w fun e w'=>e= .returned (.bool (fE c xs))∧Below w.heap.size w w':=by
 obtain ⟨A,cap,rfl,hsl⟩:=h.op;refine dz (M:=fun _=>False) (hs:=[]) Tryz.func85 rfl rfl rfl (Hp.refl _ _) ?_;refine jE ?_;refine cR (T.block ?_);refine T.loop (ι:=Nat) (fun k=>[(0, .slice A xs.length cap),(1, .func (.func f) #[] #[]),(5, .int .i64 (k:Int))]) (fun k=>[]) (fun k=>1≤k∧∀j,j<k→j<xs.length→(decide (j=0)|| !decide (0≤c (cH xs (j - 1)) (cH xs j)))=true) (fun k=>xs.length - k) 1 ?_ ?_ ?_ ?_
 ·exact q4O
 ·exact (by repeat (first|exact Sub.nil|refine Sub.cons rfl ?_))
 ·exact Sx
 ·intro k hphi;obtain ⟨hk0,hall⟩:=hphi;refine im ?_;refine lv ?_;refine dJ ?_;refine T.cond rfl (fun h1=>?_) (fun h1=>?_)
  ·have p1:=h1; (try simp only [cS] at p1);obtain ⟨g,off,rfl,hc⟩:=hsl a6;have hk:=hc k a6;have hk1:=hc (k - 1) a6;simp only [Ld.cells] at hk hk1;refine q0u ?_; (refine c8 rfl (Wt.none) rfl rfl (cL rfl rfl rfl (fun w hw=>hC (cH xs (k - 1)) (cH xs k) w)) ?_;rintro _ _ ⟨rfl,rfl⟩;refine ⟨Sx,?_⟩);refine kB ?_;refine T.cond rfl (fun h2=>?_) (fun h2=>?_)
   ·have p2:=h2; (try simp only [cS] at p2);refine iX ?_;refine cU rfl rfl (fun w' hw=>⟨?_,hw.isBelow⟩);exact q4P
   ·have p2:=h2; (try simp only [cS] at p2);refine gV ?_;exact K.next (k+1) ⟨by omega,fun j hj hjl=>by rcases Nat.lt_or_ge j k with hh|hh;exact hall j hh hjl;rw [show j=k from by omega,decide_eq_false a6];simpa using p2⟩ a6 (by repeat (first|exact Sub.nil|refine Sub.cons rfl ?_)) Sx
  ·have p1:=h1; (try simp only [cS] at p1);refine q4n ?_;refine cU rfl rfl (fun w' hw=>⟨?_,hw.isBelow⟩);exact q4Q
theorem zli {q:Cp→Bool}(xs:List Cp)(v:Value)(f:FuncId)(caps:Array Value)(w:World)(h:SlOf w v Cp.cells 4 xs)[hE:Enters Tryz.prog f](hC:∀k,k<xs.length→∀w',Below w.heap.size w w'→Calls Tryz.prog f (.agg (Cp.cells (cH xs k)).toArray :: caps.toList).toArray w' fun e w''=>e= .returned (.bool (q (cH xs k)))∧Below w'.heap.size w' w'')(hl:xs.length≤9223372036854775807):Calls Tryz.prog 57 #[v, .func (.func f) #[] caps] w fun e w'=>e= .returned (.bool (fG q xs))∧Below w.heap.size w w':=by
 obtain ⟨A,cap,rfl,hsl⟩:=h.op;refine dz (M:=fun _=>False) (hs:=[]) Tryz.func57 rfl rfl rfl (Hp.refl _ _) ?_;refine jE ?_;refine jB ?_;refine T.loop (ι:=Nat) (fun k=>[(1, .func (.func f) #[] caps),(7, .slice A xs.length cap),(8, .int .i64 (xs.length:Int)),(9, .int .i64 (k:Int))]) (fun k=>[]) (fun k=>k≤xs.length∧∀j,j<k→q (cH xs j)=true) (fun k=>xs.length - k) 0 ?_ ?_ ?_ ?_
 ·exact q4L
 ·exact (by repeat (first|exact Sub.nil|refine Sub.cons rfl ?_))
 ·exact Sx
 ·intro k hphi;obtain ⟨hkl,hall⟩:=hphi;refine fB ?_;refine T.cond rfl (fun h1=>?_) (fun h1=>?_)
  ·have p1:=h1; (try simp only [cS] at p1);obtain ⟨g,off,rfl,hc⟩:=hsl a6;have hk:=hc k a6;simp only [Cp.cells] at hk;refine fU ?_;refine lB ?_; (refine cM (Wt.none) rfl rfl (Ew.alloc) ?_;rintro _ _ ⟨g6,rfl,rfl⟩); (refine dN (Wt.none) rfl (dG 0) ?_;rintro _ _ ⟨rfl,rfl⟩);refine dy ?_;refine dn ?_;refine iF ?_; (refine cM (Wt.none) rfl rfl (kF rfl rfl rfl (fun w hw=>hC k a6 w hw.isBelow)) ?_;rintro _ _ ⟨rfl,rfl⟩);refine dJ ?_;refine T.cond rfl (fun h2=>?_) (fun h2=>?_)
   ·have p2:=h2; (try simp only [cS] at p2);refine iX ?_;refine cU rfl rfl (fun w' hw=>⟨?_,hw.isBelow⟩);exact q4M
   ·have p2:=h2; (try simp only [cS] at p2);refine iH ?_;exact K.next (k+1) ⟨by omega,zeg hall (by simpa using p2)⟩ a6 (by repeat (first|exact Sub.nil|refine Sub.cons rfl ?_)) Sx
  ·have p1:=h1; (try simp only [cS] at p1);refine q4n ?_;refine cU rfl rfl (fun w' hw=>⟨?_,hw.isBelow⟩);exact q4N
theorem zhW {c:Cp→Cp→Int}(xs:List Cp)(v:Value)(f:FuncId)(w:World)(h:SlOf w v Cp.cells 4 xs)[hE:Enters Tryz.prog f](hC:∀x y:Cp,∀w':World,Calls Tryz.prog f #[.agg (Cp.cells (x)).toArray, .agg (Cp.cells (y)).toArray] w' fun e w''=>e= .returned (.int .i64 (c x y))∧Below w'.heap.size w' w'')(hl:xs.length≤9223372036854775807):Calls Tryz.prog 88 #[v, .func (.func f) #[] #[]] w fun e w'=>e= .returned (.bool (fE c xs))∧Below w.heap.size w w':=by
 obtain ⟨A,cap,rfl,hsl⟩:=h.op;refine dz (M:=fun _=>False) (hs:=[]) Tryz.func88 rfl rfl rfl (Hp.refl _ _) ?_;refine jE ?_;refine cR (T.block ?_);refine T.loop (ι:=Nat) (fun k=>[(0, .slice A xs.length cap),(1, .func (.func f) #[] #[]),(5, .int .i64 (k:Int))]) (fun k=>[]) (fun k=>1≤k∧∀j,j<k→j<xs.length→(decide (j=0)|| !decide (0≤c (cH xs (j - 1)) (cH xs j)))=true) (fun k=>xs.length - k) 1 ?_ ?_ ?_ ?_
 ·exact q4O
 ·exact (by repeat (first|exact Sub.nil|refine Sub.cons rfl ?_))
 ·exact Sx
 ·intro k hphi;obtain ⟨hk0,hall⟩:=hphi;refine im ?_;refine lv ?_;refine dJ ?_;refine T.cond rfl (fun h1=>?_) (fun h1=>?_)
  ·have p1:=h1; (try simp only [cS] at p1);obtain ⟨g,off,rfl,hc⟩:=hsl a6;have hk:=hc k a6;have hk1:=hc (k - 1) a6;simp only [Cp.cells] at hk hk1;refine q0u ?_; (refine c8 rfl (Wt.none) rfl rfl (cL rfl rfl rfl (fun w hw=>hC (cH xs (k - 1)) (cH xs k) w)) ?_;rintro _ _ ⟨rfl,rfl⟩;refine ⟨Sx,?_⟩);refine kB ?_;refine T.cond rfl (fun h2=>?_) (fun h2=>?_)
   ·have p2:=h2; (try simp only [cS] at p2);refine iX ?_;refine cU rfl rfl (fun w' hw=>⟨?_,hw.isBelow⟩);exact q4P
   ·have p2:=h2; (try simp only [cS] at p2);refine gV ?_;exact K.next (k+1) ⟨by omega,fun j hj hjl=>by rcases Nat.lt_or_ge j k with hh|hh;exact hall j hh hjl;rw [show j=k from by omega,decide_eq_false a6];simpa using p2⟩ a6 (by repeat (first|exact Sub.nil|refine Sub.cons rfl ?_)) Sx
  ·have p1:=h1; (try simp only [cS] at p1);refine q4n ?_;refine cU rfl rfl (fun w' hw=>⟨?_,hw.isBelow⟩);exact q4Q
theorem zmP {q:Int→Bool}(xs:List Int)(v:Value)(f:FuncId)(caps:Array Value)(w:World)(h:SlOf w v Ie 1 xs)[hE:Enters Tryz.prog f](hC:∀k,k<xs.length→∀w',Below w.heap.size w w'→Calls Tryz.prog f (.int .i64 (cH xs k) :: caps.toList).toArray w' fun e w''=>e= .returned (.bool (q (cH xs k)))∧Below w'.heap.size w' w'')(hl:xs.length≤9223372036854775807):Calls Tryz.prog 79 #[v, .func (.func f) #[] caps] w fun e w'=>e= .returned (.bool (fG q xs))∧Below w.heap.size w w':=by
 obtain ⟨A,cap,rfl,hsl⟩:=h.op;refine dz (M:=fun _=>False) (hs:=[]) Tryz.func79 rfl rfl rfl (Hp.refl _ _) ?_;refine jE ?_;refine jB ?_;refine T.loop (ι:=Nat) (fun k=>[(1, .func (.func f) #[] caps),(7, .slice A xs.length cap),(8, .int .i64 (xs.length:Int)),(9, .int .i64 (k:Int))]) (fun k=>[]) (fun k=>k≤xs.length∧∀j,j<k→q (cH xs j)=true) (fun k=>xs.length - k) 0 ?_ ?_ ?_ ?_
 ·exact q4L
 ·exact (by repeat (first|exact Sub.nil|refine Sub.cons rfl ?_))
 ·exact Sx
 ·intro k hphi;obtain ⟨hkl,hall⟩:=hphi;refine fB ?_;refine T.cond rfl (fun h1=>?_) (fun h1=>?_)
  ·have p1:=h1; (try simp only [cS] at p1);obtain ⟨g,off,rfl,hc⟩:=hsl a6;have hk:=hc k a6;simp only [Ie] at hk;refine fU ?_;refine q1S ?_;refine gM ?_;refine ed ?_; (refine cM (Wt.none) rfl rfl (kF rfl rfl rfl (fun w hw=>hC k a6 w hw.isBelow)) ?_;rintro _ _ ⟨rfl,rfl⟩);refine dJ ?_;refine T.cond rfl (fun h2=>?_) (fun h2=>?_)
   ·have p2:=h2; (try simp only [cS] at p2);refine iX ?_;refine cU rfl rfl (fun w' hw=>⟨?_,hw.isBelow⟩);exact q4M
   ·have p2:=h2; (try simp only [cS] at p2);refine iH ?_;exact K.next (k+1) ⟨by omega,zeg hall (by simpa using p2)⟩ a6 (by repeat (first|exact Sub.nil|refine Sub.cons rfl ?_)) Sx
  ·have p1:=h1; (try simp only [cS] at p1);refine q4n ?_;refine cU rfl rfl (fun w' hw=>⟨?_,hw.isBelow⟩);exact q4N
theorem zhm {c:Int→Int→Int}(xs:List Int)(v:Value)(f:FuncId)(w:World)(h:SlOf w v Ie 1 xs)[hE:Enters Tryz.prog f](hC:∀x y:Int,∀w':World,Calls Tryz.prog f #[.int .i64 (x), .int .i64 (y)] w' fun e w''=>e= .returned (.int .i64 (c x y))∧Below w'.heap.size w' w'')(hl:xs.length≤9223372036854775807):Calls Tryz.prog 80 #[v, .func (.func f) #[] #[]] w fun e w'=>e= .returned (.bool (fE c xs))∧Below w.heap.size w w':=by
 obtain ⟨A,cap,rfl,hsl⟩:=h.op;refine dz (M:=fun _=>False) (hs:=[]) Tryz.func80 rfl rfl rfl (Hp.refl _ _) ?_;refine jE ?_;refine cR (T.block ?_);refine T.loop (ι:=Nat) (fun k=>[(0, .slice A xs.length cap),(1, .func (.func f) #[] #[]),(5, .int .i64 (k:Int))]) (fun k=>[]) (fun k=>1≤k∧∀j,j<k→j<xs.length→(decide (j=0)|| !decide (0≤c (cH xs (j - 1)) (cH xs j)))=true) (fun k=>xs.length - k) 1 ?_ ?_ ?_ ?_
 ·exact q4O
 ·exact (by repeat (first|exact Sub.nil|refine Sub.cons rfl ?_))
 ·exact Sx
 ·intro k hphi;obtain ⟨hk0,hall⟩:=hphi;refine im ?_;refine lv ?_;refine dJ ?_;refine T.cond rfl (fun h1=>?_) (fun h1=>?_)
  ·have p1:=h1; (try simp only [cS] at p1);obtain ⟨g,off,rfl,hc⟩:=hsl a6;have hk:=hc k a6;have hk1:=hc (k - 1) a6;simp only [Ie] at hk hk1;refine ki ?_;refine q3h ?_;refine fM ?_;refine na ?_;refine cN rfl (gw rfl rfl rfl (show (k:Int) - 1=((k - 1:Nat):Int) from by omega) a6) ?_;refine cN rfl (dZ (j:=0) rfl rfl hk1 rfl rfl (fun h=>h)) ?_;refine fj ?_;refine q2o ?_;refine cN rfl (dZ (j:=0) rfl rfl hk rfl rfl (fun h=>h)) ?_;refine dt ?_; (refine c8 rfl (Wt.none) rfl rfl (cL rfl rfl rfl (fun w hw=>hC (cH xs (k - 1)) (cH xs k) w)) ?_;rintro _ _ ⟨rfl,rfl⟩;refine ⟨Sx,?_⟩);refine kB ?_;refine T.cond rfl (fun h2=>?_) (fun h2=>?_)
   ·have p2:=h2; (try simp only [cS] at p2);refine iX ?_;refine cU rfl rfl (fun w' hw=>⟨?_,hw.isBelow⟩);exact q4P
   ·have p2:=h2; (try simp only [cS] at p2);refine gV ?_;exact K.next (k+1) ⟨by omega,fun j hj hjl=>by rcases Nat.lt_or_ge j k with hh|hh;exact hall j hh hjl;rw [show j=k from by omega,decide_eq_false a6];simpa using p2⟩ a6 (by repeat (first|exact Sub.nil|refine Sub.cons rfl ?_)) Sx
  ·have p1:=h1; (try simp only [cS] at p1);refine q4n ?_;refine cU rfl rfl (fun w' hw=>⟨?_,hw.isBelow⟩);exact q4Q
def Pr.ok (x:Pr):Bool:=inB x.a 0 511&&(inB x.b 0 511&&(decide (x.a<x.b)&&(inB x.off (-1) 1&&fe x.lo x.hi)))
def Ld.ok (x:Ld):Bool:=inB x.to 0 511&&(inB x.fr 0 511&&(decide (¬x.to=x.fr)&&(inB x.wt 1 1073741824&&fe x.lo x.hi)))
def Cp.ok (x:Cp):Bool:=inB x.st 0 511&&(inB x.mx 0 1099511627776&&fe x.lo x.hi)
def Pr.cmp (x y:Pr):Int:=kq [dM x.a y.a,dM x.b y.b,dM x.off y.off,dM x.lo y.lo,dM x.hi y.hi]
def Ld.cmp (x y:Ld):Int:=kq [dM x.to y.to,dM x.fr y.fr,dM x.wt y.wt,dM x.lo y.lo,dM x.hi y.hi]
def Cp.cmp (x y:Cp):Int:=kq [dM x.st y.st,dM x.mx y.mx,dM x.lo y.lo,dM x.hi y.hi]
theorem ziu (x:Pr)(w:World):Calls Tryz.prog 81 #[.agg (Pr.cells x).toArray] w fun e w'=>e= .returned (.bool x.ok)∧Below w.heap.size w w':=by
 refine dz (M:=fun _=>False) (hs:=[]) Tryz.func81 rfl rfl rfl (Hp.refl _ _) ?_;simp only [Pr.cells];refine dh ?_; (refine cM (Wt.none) rfl rfl (dF) ?_;rintro _ _ ⟨g1,rfl,rfl⟩);refine gM ?_;refine eM ?_; (refine cM (Wt.none) rfl rfl (cL rfl rfl rfl (fun w hw=>zcc _ _)) ?_;rintro _ _ ⟨rfl,rfl⟩);refine dn ?_;refine du rfl rfl rfl (fun h1=>?_) (fun h1=>?_)
 ·have p1:=h1; (try simp only [cS] at p1);refine q0J ?_; (refine cM (Wt.some rfl rfl rfl h1) rfl rfl (cL rfl rfl rfl (fun w hw=>zcc _ _)) ?_;rintro _ _ ⟨rfl,rfl⟩);refine kT ?_;refine dn ?_;refine du rfl rfl rfl (fun h2=>?_) (fun h2=>?_)
  ·have p2:=h2; (try simp only [cS] at p2);refine mT ?_;refine mT ?_;refine mC ?_;refine q2R ?_;refine dn ?_;refine du rfl rfl rfl (fun h3=>?_) (fun h3=>?_)
   ·have p3:=h3; (try simp only [cS] at p3);refine q0V ?_; (refine cM (Wt.some rfl rfl rfl h3) rfl rfl (cL rfl rfl rfl (fun w hw=>zdf _ _ _ _)) ?_;rintro _ _ ⟨rfl,rfl⟩);refine q34 ?_;refine dn ?_;refine du rfl rfl rfl (fun h4=>?_) (fun h4=>?_)
    ·have p4:=h4; (try simp only [cS] at p4);refine q0W ?_;refine q0W ?_; (refine cM (Wt.some rfl rfl rfl h4) rfl rfl (cL rfl rfl rfl (fun w hw=>zeJ _ _ _)) ?_;rintro _ _ ⟨rfl,rfl⟩);refine cK (eH rfl rfl h4) ?_;refine fI ?_;refine cU rfl rfl (fun w' hw=>⟨?_,hw.isBelow⟩);exact q4R
    ·have p4:=h4; (try simp only [cS] at p4);refine q2r ?_;refine fI ?_;refine cU rfl rfl (fun w' hw=>⟨?_,hw.isBelow⟩);exact q4R
   ·have p3:=h3; (try simp only [cS] at p3);refine q0t ?_;refine cK (ej rfl rfl h3) ?_;refine TL.run 8 rfl ?_;refine gk ?_;refine cU rfl rfl (fun w' hw=>⟨?_,hw.isBelow⟩);exact q4R
  ·have p2:=h2; (try simp only [cS] at p2);refine q0j ?_;refine q1X ?_;refine TL.run 13 rfl ?_;refine gk ?_;refine cU rfl rfl (fun w' hw=>⟨?_,hw.isBelow⟩);exact q4R
 ·have p1:=h1; (try simp only [cS] at p1);refine q1s ?_;refine TL.run 20 rfl ?_;refine gk ?_;refine cU rfl rfl (fun w' hw=>⟨?_,hw.isBelow⟩);exact q4R
theorem zfP (x y:Pr)(w:World):Calls Tryz.prog 83 #[.agg (Pr.cells x).toArray, .agg (Pr.cells y).toArray] w fun e w'=>e= .returned (.int .i64 (x.cmp y))∧Below w.heap.size w w':=by
 refine dz (M:=fun _=>False) (hs:=[]) Tryz.func83 rfl rfl rfl (Hp.refl _ _) ?_;simp only [Pr.cells];refine dh ?_; (refine cM (Wt.none) rfl rfl (dF) ?_;rintro _ _ ⟨g2,rfl,rfl⟩); (refine cM (Wt.none) rfl rfl (dF) ?_;rintro _ _ ⟨g3,rfl,rfl⟩);refine dn ?_;refine q1m ?_; (refine c8 rfl (Wt.none) rfl rfl (cL rfl rfl rfl (fun w hw=>kV _ _ _)) ?_;rintro _ _ ⟨rfl,rfl⟩;refine ⟨Sx,?_⟩);refine dt ?_; (refine c8 rfl (Wt.none) rfl rfl (cL rfl rfl rfl (fun w hw=>kV _ _ _)) ?_;rintro _ _ ⟨rfl,rfl⟩;refine ⟨Sx,?_⟩);refine dt ?_; (refine c8 rfl (Wt.none) rfl rfl (cL rfl rfl rfl (fun w hw=>kV _ _ _)) ?_;rintro _ _ ⟨rfl,rfl⟩;refine ⟨Sx,?_⟩);refine dt ?_; (refine c8 rfl (Wt.none) rfl rfl (cL rfl rfl rfl (fun w hw=>kV _ _ _)) ?_;rintro _ _ ⟨rfl,rfl⟩;refine ⟨Sx,?_⟩);refine dt ?_; (refine c8 rfl (Wt.none) rfl rfl (cL rfl rfl rfl (fun w hw=>kV _ _ _)) ?_;rintro _ _ ⟨rfl,rfl⟩;refine ⟨Sx,?_⟩);refine dt ?_; (refine c8 rfl (Wt.none) rfl rfl (Ew.buildSlice rfl rfl rfl a7) ?_;rintro _ _ ⟨g30,rfl,rfl⟩;refine ⟨Sx,?_⟩);refine dt ?_; (refine c8 rfl (Wt.none) rfl rfl (cL rfl rfl rfl (fun w hw=>zkW [dM x.a y.a,dM x.b y.b,dM x.off y.off,dM x.lo y.lo,dM x.hi y.hi] _ w (SlOf.lit (enc:=Ie) (size:=1) (fun _=>rfl) _ (cV.1 (hw.get (i:=0) rfl)) rfl rfl) b2)) ?_;rintro _ _ ⟨rfl,rfl⟩;refine ⟨Sx,?_⟩);refine q35 ?_;refine cU rfl rfl (fun w' hw=>⟨?_,hw.isBelow⟩)
 rfl
theorem ziJ (x:Ld)(w:World):Calls Tryz.prog 84 #[.agg (Ld.cells x).toArray] w fun e w'=>e= .returned (.bool x.ok)∧Below w.heap.size w w':=by
 refine dz (M:=fun _=>False) (hs:=[]) Tryz.func84 rfl rfl rfl (Hp.refl _ _) ?_;simp only [Ld.cells];refine dh ?_; (refine cM (Wt.none) rfl rfl (dF) ?_;rintro _ _ ⟨g1,rfl,rfl⟩);refine gM ?_;refine eM ?_; (refine cM (Wt.none) rfl rfl (cL rfl rfl rfl (fun w hw=>zcc _ _)) ?_;rintro _ _ ⟨rfl,rfl⟩);refine dn ?_;refine du rfl rfl rfl (fun h1=>?_) (fun h1=>?_)
 ·have p1:=h1; (try simp only [cS] at p1);refine q0J ?_; (refine cM (Wt.some rfl rfl rfl h1) rfl rfl (cL rfl rfl rfl (fun w hw=>zcc _ _)) ?_;rintro _ _ ⟨rfl,rfl⟩);refine kT ?_;refine dn ?_;refine du rfl rfl rfl (fun h2=>?_) (fun h2=>?_)
  ·have p2:=h2; (try simp only [cS] at p2);refine mT ?_;refine mT ?_;refine mC ?_;refine q2R ?_;refine dn ?_;refine du rfl rfl rfl (fun h3=>?_) (fun h3=>?_)
   ·have p3:=h3; (try simp only [cS] at p3);refine q0V ?_; (refine cM (Wt.some rfl rfl rfl h3) rfl rfl (cL rfl rfl rfl (fun w hw=>zdf _ _ _ _)) ?_;rintro _ _ ⟨rfl,rfl⟩);refine q34 ?_;refine dn ?_;refine du rfl rfl rfl (fun h4=>?_) (fun h4=>?_)
    ·have p4:=h4; (try simp only [cS] at p4);refine q0W ?_;refine q0W ?_; (refine cM (Wt.some rfl rfl rfl h4) rfl rfl (cL rfl rfl rfl (fun w hw=>zeJ _ _ _)) ?_;rintro _ _ ⟨rfl,rfl⟩);refine cK (eH rfl rfl h4) ?_;refine fI ?_;refine cU rfl rfl (fun w' hw=>⟨?_,hw.isBelow⟩);exact q4S
    ·have p4:=h4; (try simp only [cS] at p4);refine q2r ?_;refine fI ?_;refine cU rfl rfl (fun w' hw=>⟨?_,hw.isBelow⟩);exact q4S
   ·have p3:=h3; (try simp only [cS] at p3);refine q0t ?_;refine cK (ej rfl rfl h3) ?_;refine TL.run 8 rfl ?_;refine gk ?_;refine cU rfl rfl (fun w' hw=>⟨?_,hw.isBelow⟩);exact q4S
  ·have p2:=h2; (try simp only [cS] at p2);refine q0j ?_;refine q1X ?_;refine TL.run 13 rfl ?_;refine gk ?_;refine cU rfl rfl (fun w' hw=>⟨?_,hw.isBelow⟩);exact q4S
 ·have p1:=h1; (try simp only [cS] at p1);refine q1s ?_;refine TL.run 20 rfl ?_;refine gk ?_;refine cU rfl rfl (fun w' hw=>⟨?_,hw.isBelow⟩);exact q4S
theorem zfH (x y:Ld)(w:World):Calls Tryz.prog 86 #[.agg (Ld.cells x).toArray, .agg (Ld.cells y).toArray] w fun e w'=>e= .returned (.int .i64 (x.cmp y))∧Below w.heap.size w w':=by
 refine dz (M:=fun _=>False) (hs:=[]) Tryz.func86 rfl rfl rfl (Hp.refl _ _) ?_;simp only [Ld.cells];refine dh ?_; (refine cM (Wt.none) rfl rfl (dF) ?_;rintro _ _ ⟨g2,rfl,rfl⟩); (refine cM (Wt.none) rfl rfl (dF) ?_;rintro _ _ ⟨g3,rfl,rfl⟩);refine dn ?_;refine q1m ?_; (refine c8 rfl (Wt.none) rfl rfl (cL rfl rfl rfl (fun w hw=>kV _ _ _)) ?_;rintro _ _ ⟨rfl,rfl⟩;refine ⟨Sx,?_⟩);refine dt ?_; (refine c8 rfl (Wt.none) rfl rfl (cL rfl rfl rfl (fun w hw=>kV _ _ _)) ?_;rintro _ _ ⟨rfl,rfl⟩;refine ⟨Sx,?_⟩);refine dt ?_; (refine c8 rfl (Wt.none) rfl rfl (cL rfl rfl rfl (fun w hw=>kV _ _ _)) ?_;rintro _ _ ⟨rfl,rfl⟩;refine ⟨Sx,?_⟩);refine dt ?_; (refine c8 rfl (Wt.none) rfl rfl (cL rfl rfl rfl (fun w hw=>kV _ _ _)) ?_;rintro _ _ ⟨rfl,rfl⟩;refine ⟨Sx,?_⟩);refine dt ?_; (refine c8 rfl (Wt.none) rfl rfl (cL rfl rfl rfl (fun w hw=>kV _ _ _)) ?_;rintro _ _ ⟨rfl,rfl⟩;refine ⟨Sx,?_⟩);refine dt ?_; (refine c8 rfl (Wt.none) rfl rfl (Ew.buildSlice rfl rfl rfl a7) ?_;rintro _ _ ⟨g30,rfl,rfl⟩;refine ⟨Sx,?_⟩);refine dt ?_; (refine c8 rfl (Wt.none) rfl rfl (cL rfl rfl rfl (fun w hw=>zkW [dM x.to y.to,dM x.fr y.fr,dM x.wt y.wt,dM x.lo y.lo,dM x.hi y.hi] _ w (SlOf.lit (enc:=Ie) (size:=1) (fun _=>rfl) _ (cV.1 (hw.get (i:=0) rfl)) rfl rfl) b2)) ?_;rintro _ _ ⟨rfl,rfl⟩;refine ⟨Sx,?_⟩);refine q35 ?_;refine cU rfl rfl (fun w' hw=>⟨?_,hw.isBelow⟩)
 rfl
theorem zjv (x:Cp)(w:World):Calls Tryz.prog 87 #[.agg (Cp.cells x).toArray] w fun e w'=>e= .returned (.bool x.ok)∧Below w.heap.size w w':=by
 refine dz (M:=fun _=>False) (hs:=[]) Tryz.func87 rfl rfl rfl (Hp.refl _ _) ?_;simp only [Cp.cells];refine dh ?_; (refine cM (Wt.none) rfl rfl (dF) ?_;rintro _ _ ⟨g1,rfl,rfl⟩);refine gM ?_;refine eM ?_; (refine cM (Wt.none) rfl rfl (cL rfl rfl rfl (fun w hw=>zcc _ _)) ?_;rintro _ _ ⟨rfl,rfl⟩);refine dn ?_;refine du rfl rfl rfl (fun h1=>?_) (fun h1=>?_)
 ·have p1:=h1; (try simp only [cS] at p1);refine q0J ?_; (refine cM (Wt.some rfl rfl rfl h1) rfl rfl (cL rfl rfl rfl (fun w hw=>zdf _ _ _ _)) ?_;rintro _ _ ⟨rfl,rfl⟩);refine kT ?_;refine dn ?_;refine du rfl rfl rfl (fun h2=>?_) (fun h2=>?_)
  ·have p2:=h2; (try simp only [cS] at p2);refine mT ?_;refine mT ?_; (refine cM (Wt.some rfl rfl rfl h2) rfl rfl (cL rfl rfl rfl (fun w hw=>zeJ _ _ _)) ?_;rintro _ _ ⟨rfl,rfl⟩);refine q2R ?_;refine fI ?_;refine cU rfl rfl (fun w' hw=>⟨?_,hw.isBelow⟩);exact q44
  ·have p2:=h2; (try simp only [cS] at p2);refine q0j ?_;refine q1X ?_;refine fI ?_;refine cU rfl rfl (fun w' hw=>⟨?_,hw.isBelow⟩);exact q44
 ·have p1:=h1; (try simp only [cS] at p1);refine q1s ?_;refine TL.run 8 rfl ?_;refine gk ?_;refine cU rfl rfl (fun w' hw=>⟨?_,hw.isBelow⟩);exact q44
theorem zgh (x y:Cp)(w:World):Calls Tryz.prog 89 #[.agg (Cp.cells x).toArray, .agg (Cp.cells y).toArray] w fun e w'=>e= .returned (.int .i64 (x.cmp y))∧Below w.heap.size w w':=by
 refine dz (M:=fun _=>False) (hs:=[]) Tryz.func89 rfl rfl rfl (Hp.refl _ _) ?_;simp only [Cp.cells];refine dh ?_; (refine cM (Wt.none) rfl rfl (dF) ?_;rintro _ _ ⟨g2,rfl,rfl⟩); (refine cM (Wt.none) rfl rfl (dF) ?_;rintro _ _ ⟨g3,rfl,rfl⟩);refine ks ?_;refine dH (sN 0 4 (sN 5 4 (sN 10 4 (sN 15 4 (.eff 4 (.eff 9 (.eff 14 (.eff 19 (.eff 20 (.eff 21 (.still 22 .done))))))))))) _ a8 (List.Sublist.refl _) ?_;refine q0C ?_;refine gy ?_;refine cN rfl (cW 1) ?_;refine mo ?_; (refine c8 rfl (Wt.none) rfl rfl (cL rfl rfl rfl (fun w hw=>kV _ _ _)) ?_;rintro _ _ ⟨rfl,rfl⟩;refine ⟨Sx,?_⟩);refine dt ?_; (refine c8 rfl (Wt.none) rfl rfl (cL rfl rfl rfl (fun w hw=>kV _ _ _)) ?_;rintro _ _ ⟨rfl,rfl⟩;refine ⟨Sx,?_⟩);refine dt ?_; (refine c8 rfl (Wt.none) rfl rfl (cL rfl rfl rfl (fun w hw=>kV _ _ _)) ?_;rintro _ _ ⟨rfl,rfl⟩;refine ⟨Sx,?_⟩);refine dt ?_; (refine c8 rfl (Wt.none) rfl rfl (cL rfl rfl rfl (fun w hw=>kV _ _ _)) ?_;rintro _ _ ⟨rfl,rfl⟩;refine ⟨Sx,?_⟩);refine dt ?_; (refine c8 rfl (Wt.none) rfl rfl (Ew.buildSlice rfl rfl rfl a7) ?_;rintro _ _ ⟨g25,rfl,rfl⟩;refine ⟨Sx,?_⟩);refine dt ?_; (refine c8 rfl (Wt.none) rfl rfl (cL rfl rfl rfl (fun w hw=>zkW [dM x.st y.st,dM x.mx y.mx,dM x.lo y.lo,dM x.hi y.hi] _ w (SlOf.lit (enc:=Ie) (size:=1) (fun _=>rfl) _ (cV.1 (hw.get (i:=0) rfl)) rfl rfl) b2)) ?_;rintro _ _ ⟨rfl,rfl⟩;refine ⟨Sx,?_⟩);refine q35 ?_;refine cU rfl rfl (fun w' hw=>⟨?_,hw.isBelow⟩)
 rfl
theorem Cs.later {w w':World}(hb:Below w.heap.size w w'){g p:Nat}{l:List Value}(h:Cs w g p l):Cs w' g p l:=h.kept (gT hb) (fun h=>h)
def Dx.ok (d:Dx):Bool:=inB d.st 0 511&&(fG (fun c=>inB c 2 51) d.chs&&fE dM d.chs)
def Pb.rulesOk (P:Pb):Bool:=decide ((P.ps.length:Int)≤4096)&&(fG Pr.ok P.ps&&(fE Pr.cmp P.ps&&(decide ((P.ls.length:Int)≤1024)&&(fG Ld.ok P.ls&&(fE Ld.cmp P.ls&&(decide ((P.cs.length:Int)≤1024)&&(fG Cp.ok P.cs&&fE Cp.cmp P.cs)))))))
abbrev Ws:=List (BitVec 64)
abbrev Ws.cells (ws:Ws):List Value:=ws.map fun b=>U b
def fF:Ws:=List.replicate 8 0#64
def dX (ws:Ws)(i:Nat):Ws:=ws.set (i / 64) (cH ws (i / 64) ||| 1#64 <<< (i % 64))
def eC (ws:Ws)(i:Nat):Bool:=(cH ws (i / 64)).getLsbD (i % 64)
def jL (ws:Ws)(i:Int):Bool:=inB i 0 511&&eC ws i.toNat
def lW (l:List Int):Ws:=l.foldl (fun s i=>dX s i.toNat) fF
theorem lr {ws:Ws}{i:Nat}:(dX ws i).length=ws.length:=by simp [dX]
theorem lj (l:List Int):(lW l).length=8:=by
 have:∀(l:List Int) (s:Ws),(l.foldl (fun s i=>dX s i.toNat) s).length=s.length:=by
  intro l
  induction l with
  |nil=>intro s;rfl
  |cons x r ih=>intro s;simp only [List.foldl_cons,ih,lr]
 exact this l fF
theorem zkk {l:List Int}{k:Nat}(h:k<l.length):lW (l.take (k+1))=dX (lW (l.take k)) (cH l k).toNat:=by
 unfold lW;rw [List.take_succ_eq_append_getElem h,d5 h,List.foldl_append];rfl
theorem Ws.get {ws:Ws}{i p:Nat}(h:i<ws.length)(hp:p=i):ws.cells[p]?=some (U (cH ws i)):=by
 subst hp;simp [cH,h]
theorem Ws.put {ws:Ws}{i p:Nat}{b:BitVec 64}(hp:p=i):ws.cells.set p (U b)=Ws.cells (ws.set i b):=by
 subst hp;simp [List.map_set]
theorem ziO (a:BitVec 64)(j:Nat):decide (((((a >>> j) &&& 1#64).toNat:Nat):Int)=1)=a.getLsbD j:=by
 rw [BitVec.toNat_and,BitVec.toNat_ushiftRight]
 show decide ((((a.toNat >>> j &&& 1):Nat):Int)=1)=a.toNat.testBit j
 rw [Nat.and_one_is_mod,Nat.testBit,Nat.and_comm,Nat.and_one_is_mod];rcases Nat.mod_two_eq_zero_or_one (a.toNat >>> j) with h|h <;> rw [h] <;> rfl
theorem zfR {ws:Ws}{i j:Nat}(hl:ws.length=8)(hi:i<512)(hj:j<512):eC (dX ws i) j=(eC ws j||decide (i=j)):=by
 unfold eC dX cH;simp only [List.getD_eq_getElem?_getD];by_cases h:i / 64=j / 64
 ·rw [h,List.getElem?_set_self a6];simp only [Option.getD_some,BitVec.getLsbD_or,BitVec.getLsbD_shiftLeft];by_cases h2:i=j
  ·subst h2;have hm:i % 64<64:=Nat.mod_lt _ a7;simp [hm]
  ·(have hm:¬i % 64=j % 64:=by omega);rw [decide_eq_false h2,Bool.or_false]
   have:(decide (j % 64<64)&& !decide (j % 64<i % 64)&&(1#64).getLsbD (j % 64 - i % 64))=false:=by
    by_cases h3:j % 64<i % 64
    ·simp [h3]
    ·rw [show (1#64).getLsbD (j % 64 - i % 64)=false from by rw [BitVec.getLsbD_one];simp;omega];simp
   rw [this,Bool.or_false]
 ·rw [List.getElem?_set_ne h,decide_eq_false (by intro hh;subst hh;exact h rfl),Bool.or_false]
theorem zdN (j:Nat):eC fF j=false:=by
 unfold eC fF cH;rw [List.getD_eq_getElem?_getD,List.getElem?_replicate]
 split
 ·simp
 ·exact BitVec.getLsbD_zero
theorem ziv (l:List Int)(hl:∀x∈l,0≤x∧x≤511)(j:Int):jL (lW l) j=true↔j∈l:=by
 have key:∀(l:List Int) (s:Ws),s.length=8→(∀x∈l,0≤x∧x≤511)→∀j:Nat,j<512→(eC (l.foldl (fun s i=>dX s i.toNat) s) j=true↔eC s j=true∨(j:Int)∈l):=by
  intro l
  induction l with
  |nil=>intro s _ _ j _;simp
  |cons x r ih=>
   intro s hs hx j hj;have h1:=hx x b2;rw [List.foldl_cons,ih _ (by rw [lr,hs]) (fun y hy=>hx y (by simp [hy])) j hj,zfR hs a6 hj];simp only [Bool.or_eq_true,decide_eq_true_eq,List.mem_cons];constructor
   ·rintro ((h|h)|h)
    ·exact .inl h
    ·exact .inr (.inl a6)
    ·exact .inr (.inr h)
   ·rintro (h|h|h)
    ·exact .inl (.inl h)
    ·exact .inl (.inr a6)
    ·exact .inr h
 unfold jL inB;by_cases h:0≤j∧j≤511
 ·rw [decide_eq_true h.1,decide_eq_true h.2,Bool.and_true,Bool.true_and,show eC (lW l) j.toNat=true↔_ from key l fF (by rfl) hl j.toNat a6,zdN,Int.toNat_of_nonneg h.1];simp
 ·constructor
  ·intro hh;simp only [Bool.and_eq_true,decide_eq_true_eq] at hh;exact absurd hh.1 h
  ·intro hm;exact absurd (hl j hm) h
def Pb.has (P:Pb)(i:Int):Bool:=jL (lW (P.ds.map (·.st))) i
def Pb.ok (P:Pb):Bool:=fG Dx.ok P.ds&&(P.rulesOk&&(fE (fun a b=>dM a.st b.st) P.ds&&(fG (fun x:Pr=>P.has x.a&&P.has x.b) P.ps&&(fG (fun x:Ld=>P.has x.to&&P.has x.fr) P.ls&&fG (fun x:Cp=>P.has x.st) P.cs))))
theorem zeq {α:Type}[Inhabited α]{q:α→Bool}{xs:List α}:fG q xs=true↔∀k,k<xs.length→q (cH xs k)=true:=by
 unfold fG;rw [List.all_eq_true];simp only [List.mem_range]
theorem d3 {α:Type}[Inhabited α]{q:α→Bool}{xs:List α}:fG q xs=true↔∀x∈xs,q x=true:=by
 rw [zeq];constructor
 ·intro h x hx;obtain ⟨k,hk,rfl⟩:=List.mem_iff_getElem.1 hx;rw [←d5 hk];exact h k hk
 ·intro h k hk;exact h _ (iZ hk)
theorem ic {α:Type}[Inhabited α]{c:α→α→Int}{xs:List α}:fE c xs=true↔∀k,k+1<xs.length→c (cH xs k) (cH xs (k+1))<0:=by
 unfold fE;rw [List.all_eq_true];simp only [List.mem_range];constructor
 ·intro h k hk;have:=h (k+1) hk;simp at this;omega
 ·intro h k hk
  cases k with
  |zero=>rfl
  |succ k=>have:=h k hk;simp;omega
theorem kD {a b:Int}:dM a b<0↔a<b:=by unfold dM;split <;> (try split) <;> omega
theorem zkY {α:Type}[Inhabited α]{f:α→Int}{xs:List α}(hi:fE (fun a b=>dM (f a) (f b)) xs=true)(h0:∀x∈xs,0≤f x):∀k,k<xs.length→(k:Int)≤f (cH xs k)
 |0,h=>h0 _ (iZ h)
 |k+1,h=>by
  have h1:=zkY hi h0 k a6;have h2:=kD.1 (ic.1 hi k h);omega
theorem zlg {xs:List Dx}(hi:fE (fun a b:Dx=>dM a.st b.st) xs=true)(hr:fG Dx.ok xs=true):xs.length≤512:=by
 have hst:∀x∈xs,0≤x.st∧x.st≤511:=fun x hx=>by
  have:=d3.1 hr x hx;simp only [Dx.ok,inB,Bool.and_eq_true,decide_eq_true_eq] at this;exact this.1
 rcases Nat.lt_or_ge 512 xs.length with h|h
 ·have h1:=zkY (f:=Dx.st) hi (fun x hx=>(hst x hx).1) 512 h;have h2:=hst _ (iZ h);omega
 ·exact h
theorem zj7 (c:Int)(w:World):Calls Tryz.prog 78 #[.int .i64 c] w fun e w'=>e= .returned (.bool (inB c 2 51))∧Below w.heap.size w w':=by
 refine dz (M:=fun _=>False) (hs:=[]) Tryz.func78 rfl rfl rfl (Hp.refl _ _) ?_;refine mN ?_; (refine cM (Wt.none) rfl rfl (cL rfl rfl rfl (fun w hw=>zdf _ _ _ _)) ?_;rintro _ _ ⟨rfl,rfl⟩);refine fI ?_;refine cU rfl rfl (fun w' hw=>⟨?_,hw.isBelow⟩)
 rfl
theorem zgF (d:Dx)(w:World)(h:zgb w d.v d.chs)(hl:d.chs.length≤9223372036854775807):Calls Tryz.prog 46 #[.agg (Dx.cells d).toArray] w fun e w'=>e= .returned (.bool d.ok)∧Below w.heap.size w w':=by
 haveI:=h.one;refine dz (M:=fun _=>False) (hs:=[]) Tryz.func46 rfl rfl rfl (Hp.refl _ _) ?_;simp only [Dx.cells];refine dh ?_; (refine cM (Wt.none) rfl rfl (dF) ?_;rintro _ _ ⟨g1,rfl,rfl⟩);refine gM ?_;refine gM ?_;refine eM ?_; (refine cM (Wt.none) rfl rfl (cL rfl rfl rfl (fun w hw=>zcc _ _)) ?_;rintro _ _ ⟨rfl,rfl⟩);refine dn ?_;refine du rfl rfl rfl (fun h1=>?_) (fun h1=>?_)
 ·have p1:=h1; (try simp only [cS] at p1);refine q0J ?_;refine j2 ?_; (refine cM (Wt.some rfl rfl rfl h1) rfl rfl (cL rfl rfl rfl (fun w hw=>zmP (q:=fun c=>inB c 2 51) d.chs _ _ #[] w (h.kept hw) (fun k hk w1 hb=>zj7 _ w1) hl)) ?_;rintro _ _ ⟨rfl,rfl⟩);refine kT ?_;refine dn ?_;refine du rfl rfl rfl (fun h2=>?_) (fun h2=>?_)
  ·have p2:=h2; (try simp only [cS] at p2);refine mT ?_; (refine cM (Wt.some rfl rfl rfl h2) rfl rfl (cL rfl rfl rfl (fun w hw=>zhm (c:=dM) d.chs _ _ w (h.kept hw) (fun x y w1=>kV x y w1) hl)) ?_;rintro _ _ ⟨rfl,rfl⟩);refine q2R ?_;refine fI ?_;refine cU rfl rfl (fun w' hw=>⟨?_,hw.isBelow⟩);exact q45
  ·have p2:=h2; (try simp only [cS] at p2);refine q0j ?_;refine q4t ?_;refine fI ?_;refine cU rfl rfl (fun w' hw=>⟨?_,hw.isBelow⟩);exact q45
 ·have p1:=h1; (try simp only [cS] at p1);refine j3 ?_;refine j3 ?_;refine q26 ?_;refine TL.run 6 rfl ?_;refine gk ?_;refine cU rfl rfl (fun w' hw=>⟨?_,hw.isBelow⟩);exact q45
theorem zhJ (x y:Dx)(hx:OneC x.v)(hy:OneC y.v)(w:World):Calls Tryz.prog 48 #[.agg (Dx.cells x).toArray, .agg (Dx.cells y).toArray] w fun e w'=>e= .returned (.int .i64 (dM x.st y.st))∧Below w.heap.size w w':=by
 refine dz (M:=fun _=>False) (hs:=[]) Tryz.func48 rfl rfl rfl (Hp.refl _ _) ?_;simp only [Dx.cells];refine dh ?_; (refine cM (Wt.none) rfl rfl (dF) ?_;rintro _ _ ⟨g2,rfl,rfl⟩); (refine cM (Wt.none) rfl rfl (dF) ?_;rintro _ _ ⟨g3,rfl,rfl⟩);refine gM ?_;refine mO ?_;refine eM ?_; (refine cM (Wt.none) rfl rfl (cL rfl rfl rfl (fun w hw=>kV _ _ _)) ?_;rintro _ _ ⟨rfl,rfl⟩);refine fI ?_;refine cU rfl rfl (fun w' hw=>⟨?_,hw.isBelow⟩)
 rfl
theorem zgK (P:Pb)(vp vl vc:Value)(w:World)(h:RulesAt w vp vl vc P):Calls Tryz.prog 47 #[.agg [vp,vl,vc].toArray] w fun e w'=>e= .returned (.bool P.rulesOk)∧Below w.heap.size w w':=by
 obtain ⟨A1,cap1,rfl, -⟩:=h.ps.op;obtain ⟨A2,cap2,rfl, -⟩:=h.ls.op;obtain ⟨A3,cap3,rfl, -⟩:=h.cs.op;refine dz (M:=fun _=>False) (hs:=[]) Tryz.func47 rfl rfl rfl (Hp.refl _ _) ?_;refine dh ?_; (refine cM (Wt.none) rfl rfl (dF) ?_;rintro _ _ ⟨g1,rfl,rfl⟩);refine gM ?_;refine eM ?_;refine lv ?_;refine ed ?_;refine du rfl rfl rfl (fun h1=>?_) (fun h1=>?_)
 ·have p1:=h1; (try simp only [cS] at p1);refine q0J ?_; (refine cM (Wt.some rfl rfl rfl h1) rfl rfl (cL rfl rfl rfl (fun w hw=>zk0 (q:=Pr.ok) P.ps _ 81 #[] w (h.ps.kept hw) (fun k hk w1 hb=>ziu _ w1) h.hps)) ?_;rintro _ _ ⟨rfl,rfl⟩);refine kT ?_;refine dn ?_;refine du rfl rfl rfl (fun h2=>?_) (fun h2=>?_)
  ·have p2:=h2; (try simp only [cS] at p2);refine mT ?_; (refine cM (Wt.some rfl rfl rfl h2) rfl rfl (cL rfl rfl rfl (fun w hw=>zix (c:=Pr.cmp) P.ps _ 83 w (h.ps.kept hw) (fun x y w1=>zfP x y w1) h.hps)) ?_;rintro _ _ ⟨rfl,rfl⟩);refine q2R ?_;refine dn ?_;refine du rfl rfl rfl (fun h3=>?_) (fun h3=>?_)
   ·have p3:=h3; (try simp only [cS] at p3);refine q0V ?_;refine cX (Wt.some rfl rfl rfl h3) rfl rfl (it rfl rfl) ?_;refine q1V ?_;refine q34 ?_;refine dn ?_;refine du rfl rfl rfl (fun h4=>?_) (fun h4=>?_)
    ·have p4:=h4; (try simp only [cS] at p4);refine q0W ?_; (refine cM (Wt.some rfl rfl rfl h4) rfl rfl (cL rfl rfl rfl (fun w hw=>zlm (q:=Ld.ok) P.ls _ 84 #[] w (h.ls.kept hw) (fun k hk w1 hb=>ziJ _ w1) h.hls)) ?_;rintro _ _ ⟨rfl,rfl⟩);refine cK (eH rfl rfl h4) ?_;refine dn ?_;refine du rfl rfl rfl (fun h5=>?_) (fun h5=>?_)
     ·have p5:=h5; (try simp only [cS] at p5);refine cX (Wt.some rfl rfl rfl h5) rfl rfl (Yv.fieldAddr) ?_;refine cX (Wt.some rfl rfl rfl h5) rfl rfl (cW 0) ?_; (refine cM (Wt.some rfl rfl rfl h5) rfl rfl (cL rfl rfl rfl (fun w hw=>ziN (c:=Ld.cmp) P.ls _ 86 w (h.ls.kept hw) (fun x y w1=>zfH x y w1) h.hls)) ?_;rintro _ _ ⟨rfl,rfl⟩);refine cK (eH rfl rfl h5) ?_;refine dn ?_;refine du rfl rfl rfl (fun h6=>?_) (fun h6=>?_)
      ·have p6:=h6; (try simp only [cS] at p6);refine cX (Wt.some rfl rfl rfl h6) rfl rfl (Yv.fieldAddr) ?_;refine cX (Wt.some rfl rfl rfl h6) rfl rfl (cW 0) ?_;refine cX (Wt.some rfl rfl rfl h6) rfl rfl (it rfl rfl) ?_;refine cX (Wt.some rfl rfl rfl h6) rfl rfl (d4) ?_;refine cK (eH rfl rfl h6) ?_;refine dn ?_;refine du rfl rfl rfl (fun h7=>?_) (fun h7=>?_)
       ·have p7:=h7; (try simp only [cS] at p7);refine q4h ?_; (refine cM (Wt.some rfl rfl rfl h7) rfl rfl (cL rfl rfl rfl (fun w hw=>zli (q:=Cp.ok) P.cs _ 87 #[] w (h.cs.kept hw) (fun k hk w1 hb=>zjv _ w1) h.hcs)) ?_;rintro _ _ ⟨rfl,rfl⟩);refine cK (eH rfl rfl h7) ?_;refine dn ?_;refine du rfl rfl rfl (fun h8=>?_) (fun h8=>?_)
        ·have p8:=h8; (try simp only [cS] at p8);refine q4i ?_; (refine cM (Wt.some rfl rfl rfl h8) rfl rfl (cL rfl rfl rfl (fun w hw=>zhW (c:=Cp.cmp) P.cs _ 89 w (h.cs.kept hw) (fun x y w1=>zgh x y w1) h.hcs)) ?_;rintro _ _ ⟨rfl,rfl⟩);refine cK (eH rfl rfl h8) ?_;refine fI ?_;refine cU rfl rfl (fun w' hw=>⟨?_,hw.isBelow⟩);exact q4E
        ·have p8:=h8; (try simp only [cS] at p8);refine q1p ?_;refine cK (ej rfl rfl h8) ?_;refine fI ?_;refine cU rfl rfl (fun w' hw=>⟨?_,hw.isBelow⟩);exact q4E
       ·have p7:=h7; (try simp only [cS] at p7);refine q1G ?_;refine TL.off (Wt.not rfl rfl rfl h7) rfl rfl ?_;refine cK (ej rfl rfl h7) ?_;refine TL.run 6 rfl ?_;refine gk ?_;refine cU rfl rfl (fun w' hw=>⟨?_,hw.isBelow⟩);exact q4E
      ·have p6:=h6; (try simp only [cS] at p6);refine q1d ?_;refine q1d ?_;refine cK (ej rfl rfl h6) ?_;refine TL.run 11 rfl ?_;refine gk ?_;refine cU rfl rfl (fun w' hw=>⟨?_,hw.isBelow⟩);exact q4E
     ·have p5:=h5; (try simp only [cS] at p5);refine q1H ?_;refine TL.off (Wt.not rfl rfl rfl h5) rfl rfl ?_;refine cK (ej rfl rfl h5) ?_;refine TL.run 17 rfl ?_;refine gk ?_;refine cU rfl rfl (fun w' hw=>⟨?_,hw.isBelow⟩);exact q4E
    ·have p4:=h4; (try simp only [cS] at p4);refine q0r ?_;refine cK (ej rfl rfl h4) ?_;refine TL.run 22 rfl ?_;refine gk ?_;refine cU rfl rfl (fun w' hw=>⟨?_,hw.isBelow⟩);exact q4E
   ·have p3:=h3; (try simp only [cS] at p3);refine q3o ?_;refine TL.run 27 rfl ?_;refine gk ?_;refine cU rfl rfl (fun w' hw=>⟨?_,hw.isBelow⟩);exact q4E
  ·have p2:=h2; (try simp only [cS] at p2);refine q0j ?_;refine q4t ?_;refine TL.run 33 rfl ?_;refine gk ?_;refine cU rfl rfl (fun w' hw=>⟨?_,hw.isBelow⟩);exact q4E
 ·have p1:=h1; (try simp only [cS] at p1);refine q1s ?_;refine TL.run 38 rfl ?_;refine gk ?_;refine cU rfl rfl (fun w' hw=>⟨?_,hw.isBelow⟩);exact q4E
theorem zeO (i:Int)(w:World):Calls Tryz.prog 92 #[.int .i64 i] w fun e w'=>e= .returned (.bool (inB i 0 511))∧Below w.heap.size w w':=by
 refine dz (M:=fun _=>False) (hs:=[]) Tryz.func92 rfl rfl rfl (Hp.refl _ _) ?_;refine dh ?_;refine TL.run 1 rfl ?_;refine dy ?_;refine TL.run 3 rfl ?_;refine du rfl rfl rfl (fun h1=>?_) (fun h1=>?_)
 ·have p1:=h1; (try simp only [cS] at p1);refine cX (Wt.some rfl rfl rfl h1) rfl rfl (d4 rfl) ?_;refine cX (Wt.some rfl rfl rfl h1) rfl rfl (d4 rfl) ?_;refine cK (eH rfl rfl h1 rfl) ?_;refine TL.run 1 rfl ?_;refine cR (T.ret ?_);refine cU rfl rfl (fun w' hw=>⟨?_,hw.isBelow⟩);refine j8 ?_;simp only [inB, *,Bool.not_true,Bool.not_false,Bool.or_false,Bool.false_or,Bool.or_true,Bool.true_or,Bool.and_false,Bool.false_and,Bool.true_and,Bool.and_true,Bool.or_self,Bool.and_self,Bool.not_not,decide_true,decide_false,not_true_eq_false,not_false_eq_true,cond_true,cond_false]; (try exact decide_eq_decide.2 (by omega))
 ·have p1:=h1; (try simp only [cS] at p1);refine TL.off (Wt.not rfl rfl rfl h1) rfl rfl ?_;refine TL.off (Wt.not rfl rfl rfl h1) rfl rfl ?_;refine cK (ej rfl rfl h1 rfl) ?_;refine TL.run 1 rfl ?_;refine cR (T.ret ?_);refine cU rfl rfl (fun w' hw=>⟨?_,hw.isBelow⟩);refine j8 ?_;simp only [inB, *,Bool.not_true,Bool.not_false,Bool.or_false,Bool.false_or,Bool.or_true,Bool.true_or,Bool.and_false,Bool.false_and,Bool.true_and,Bool.and_true,Bool.or_self,Bool.and_self,Bool.not_not,decide_true,decide_false,not_true_eq_false,not_false_eq_true,cond_true,cond_false]; (try exact decide_eq_decide.2 (by omega))
theorem zgy (ws:Ws)(hws:ws.length=8)(i:Int)(w:World):Calls Tryz.prog 54 #[.agg ws.cells.toArray, .int .i64 i] w fun e w'=>e= .returned (.bool (jL ws i))∧Below w.heap.size w w':=by
 refine dz (M:=fun _=>False) (hs:=[]) Tryz.func54 rfl rfl rfl (Hp.refl _ _) ?_;refine dh ?_; (refine cM (Wt.none) rfl rfl (dF) ?_;rintro _ _ ⟨g2,rfl,rfl⟩);refine mt ?_; (refine cM (Wt.none) rfl rfl (cL rfl rfl rfl (fun w hw=>zeO _ _)) ?_;rintro _ _ ⟨rfl,rfl⟩);refine dn ?_;refine du rfl rfl rfl (fun h1=>?_) (fun h1=>?_)
 ·have p1:=h1; (try simp only [cS] at p1); (try simp only [inB,Bool.and_eq_true,decide_eq_true_eq] at p1); (try have hld:=Ws.get (ws:=ws) (i:=i.toNat / 64) (p:=0+0+i.toNat / 64*1) a6 a6);refine j2 ?_;refine cX (Wt.some rfl rfl rfl h1) rfl rfl (lu rfl rfl rfl a6) ?_;refine cX (Wt.some rfl rfl rfl h1) rfl rfl (Yv.fieldAddr) ?_;refine cX (Wt.some rfl rfl rfl h1) rfl rfl (ee rfl rfl rfl (show i / 64=((i.toNat / 64:Nat):Int) from by omega) a6) ?_;refine cX (Wt.some rfl rfl rfl h1) rfl rfl (cW 0 rfl rfl rfl hld) ?_;refine j2 ?_;refine cX (Wt.some rfl rfl rfl h1) rfl rfl (kw rfl rfl rfl a6) ?_;refine cX (Wt.some rfl rfl rfl h1) rfl rfl (gE (i.toNat % 64) rfl rfl rfl a6 a6) ?_;refine cX (Wt.some rfl rfl rfl h1) rfl rfl (gp (b:=1#64)) ?_;refine j2 ?_;refine kT ?_;refine fI ?_;refine cU rfl rfl (fun w' hw=>⟨?_,hw.isBelow⟩);exact q5g
 ·have p1:=h1; (try simp only [cS] at p1); (try simp only [inB,Bool.and_eq_true,decide_eq_true_eq] at p1); (try have hld:=Ws.get (ws:=ws) (i:=i.toNat / 64) (p:=0+0+i.toNat / 64*1) a6 a6);refine j3 ?_;refine j3 ?_;refine j3 ?_;refine j3 ?_;refine j3 ?_;refine q26 ?_;refine fI ?_;refine cU rfl rfl (fun w' hw=>⟨?_,hw.isBelow⟩);exact q5g
theorem zoI (l:List Int)(v:Value)(w:World)(h:zgb w v l)(hl:l.length≤9223372036854775807)(hr:∀x∈l,0≤x∧x≤511):Calls Tryz.prog 91 #[v] w fun e w'=>e= .returned (.tuple #[.agg (Ws.cells (lW l)).toArray, .int .i64 0])∧Below w.heap.size w w':=by
 obtain ⟨A,cap,rfl,hsl⟩:=h.op;refine dz (M:=fun _=>False) (hs:=[]) Tryz.func91 rfl rfl rfl (Hp.refl _ _) ?_;refine dh ?_; (refine cM (Wt.none) rfl rfl (Ew.alloc) ?_;rintro _ _ ⟨g2,rfl,rfl⟩);refine gM ?_; (refine cM (Wt.none) rfl rfl (Ew.alloc) ?_;rintro _ _ ⟨g4,rfl,rfl⟩);refine jz ?_;refine dn ?_;refine jB ?_;refine T.loop (ι:=Nat) (fun k=>[(2, .pointer (some ⟨g2,0,none⟩)),(4, .pointer (some ⟨g4,0,none⟩)),(7, .slice A l.length cap),(8, .int .i64 (l.length:Int)),(9, .int .i64 (k:Int))]) (fun k=>[.row g4 101 (Ws.cells (lW (l.take k))), .row g2 101 (Ws.cells fF)]) (fun k=>k≤l.length) (fun k=>l.length - k) 0 ?_ ?_ ?_ ?_
 ·omega
 ·exact (by repeat (first|exact Sub.nil|refine Sub.cons rfl ?_))
 ·exact Sx
 ·intro k hphi;have hlen:=lj (l.take k); (have hsl8:(Ws.cells (lW (l.take k))).length=8:=by rw [List.length_map,hlen]);refine fB ?_;refine T.cond rfl (fun h1=>?_) (fun h1=>?_)
  ·have p1:=h1; (try simp only [cS] at p1);obtain ⟨g,off,rfl,hc⟩:=hsl a6;have hk:=hc k a6;simp only [Ie] at hk;have hr1:=hr _ (iZ (xs:=l) (k:=k) a6);have hld:=Ws.get (ws:=lW (l.take k)) (i:=(cH l k).toNat / 64) (p:=0+0+(cH l k).toNat / 64*1) a6 a6;refine fU ?_;refine q1S ?_;refine mq ?_; (refine cM (Wt.none) rfl rfl (cL rfl rfl rfl (fun w hw=>zeO _ _)) ?_;rintro _ _ ⟨rfl,rfl⟩);refine dJ ?_;refine iq rfl (by rw [inB,decide_eq_true hr1.1,decide_eq_true hr1.2];rfl) ?_;refine T.skip (K.seq ?_);refine dH (sN 0 4 (sN 5 3 (.still 9 (.eff 4 (.still 8 (.still 10 (.eff 11 .done))))))) [.row g2 101 (Ws.cells fF)] a8 Sx ?_;refine eL ?_;refine cN rfl (lu rfl rfl rfl a6) ?_;refine gy ?_;refine cN rfl (ee rfl rfl rfl (show (cH l k) / 64=(((cH l k).toNat / 64:Nat):Int) from by omega) a6) ?_;refine eL ?_;refine cN rfl (kw rfl rfl rfl a6) ?_;refine cN rfl (iv (a:=1#64) ((cH l k).toNat % 64) rfl rfl rfl a6 a6) ?_;refine lG ?_;refine eB rfl (Wt.none) rfl rfl (cW 0 rfl rfl rfl hld) Sx ?_;refine cN rfl (jw) ?_;refine cN rfl (ee rfl rfl rfl (show (cH l k) / 64=(((cH l k).toNat / 64:Nat):Int) from by omega) a6) ?_;refine dt ?_; (refine dL rfl (Wt.none) rfl (iL 0 (Ws.cells (dX (lW (l.take k)) (cH l k).toNat)) rfl rfl rfl rfl (by rw [List.length_map,hlen];omega) (Ws.put a6)) ?_;rintro _ _ ⟨rfl,rfl⟩;refine ⟨Sx,?_⟩);refine q19 ?_;exact K.next (k+1) a6 a6 (by repeat (first|exact Sub.nil|refine Sub.cons rfl ?_)) (by rw [zkk a6];exact Sx)
  ·have p1:=h1; (try simp only [cS] at p1);refine mz ?_;refine cK (fi 0 rfl rfl rfl hsl8) ?_; (refine dN (Wt.none) rfl (dG 1 rfl rfl rfl rfl (by rw [List.length_map,lj]) (by rw [List.length_map,lj];rfl)) ?_;rintro _ _ ⟨rfl,rfl⟩);refine fI ?_;exact jK 1 rfl rfl rfl rfl (by rw [List.length_map,lj]) (fun w' hw=>⟨by rw [List.take_of_length_le a6],hw.isBelow⟩)
end Go.Proofs.YtgoeeefoinkepaaGreatDoor
