/- Na W7 Kn Yw Kr: shortened and put together by squeeze.py. -/
import Derived.Test.YtogbggmckmnlfaaGreatDoorQ11
import Derived.Shelf.SlicesE.Reverse
import Derived.Ground.SlgnProg
set_option maxRecDepth 100000
set_option maxHeartbeats 4000000
set_option linter.unusedVariables false
set_option linter.unusedSectionVars false
set_option linter.unusedSimpArgs false
namespace Go.Proofs.YtogbggmckmnlfaaGreatDoor
open Go.RowKit
theorem zes {l:List GChoice}:kx l=(List.range l.length).all (nm l):=by
 unfold kx;refine mo ?_;rw [zcI (nm l) (fun i next _=>?_),Bool.and_true];rw [zcM];unfold nm
 show (bif !(inB (cK l i).Station 0 511)|| !(inB (cK l i).Channel 2 51) then false else _)=_
 cases inB (cK l i).Station 0 511 <;> cases inB (cK l i).Channel 2 51 <;> cases (decide (0<(i:Int))&&decide ((cK l i).Station≤(cK l (i - 1)).Station)) <;> rfl
def mK (p:GProblem)(i:Nat)(n b:Nat):Prop:=∃j,j<i∧(cK p.Domains j).Station=(n:Int)∧(b=0∨(b:Int)∈(cK p.Domains j).Channels)
theorem zoE {c b:Nat}(hc:c<64):((1#64) <<< c).getLsbD b=decide (b=c):=by
 rw [BitVec.getLsbD_shiftLeft];by_cases h:b=c
 ·subst h;simp [hc]
 ·by_cases h1:b<c
  ·simp [h1,h]
  ·(have:b - c≠0:=by omega);rw [decide_eq_false h];by_cases h2:b<64
   ·have e:(1#64).getLsbD (b - c)=false:=by
     rw [BitVec.getLsbD_one];simp;omega
    rw [e,Bool.and_false]
   ·simp [h2]
theorem zmE {p:GProblem}(hG:GG p):∃v,zb6 p=some v∧∀n b,n<512→b<64→((Vec.get v n).getLsbD b=true↔mK p p.Domains.length n b):=by
 unfold zb6;refine mo ?_;refine nn (fun i (c:Vec 512 (BitVec 64))=>∀n b,n<512→b<64→((Vec.get c n).getLsbD b=true↔mK p i n b)) (fun o=>∃v:Vec 512 (BitVec 64),o=some v∧∀n b,n<512→b<64→((Vec.get v n).getLsbD b=true↔mK p p.Domains.length n b)) ?_ (fun v hv=>⟨v,rfl,hv⟩) (fun i c next hi hc hn=>?_)
 ·intro n b hn hb;rw [gN hn];constructor
  ·intro h;simp at h
  ·rintro ⟨j,hj,_⟩;omega
 have hs:=hG.st _ (fG hi);have hch:=hG.chs _ (fG hi);rw [f7 a5]; (have hlt:(cK p.Domains i).Station.toNat<512:=by omega);refine nn (fun k (e:Vec 512 (BitVec 64))=>∀n b,n<512→b<64→((Vec.get e n).getLsbD b=true↔mK p i n b∨((cK p.Domains i).Station=(n:Int)∧(b=0∨∃q,q<k∧cK (cK p.Domains i).Channels q=(b:Int))))) (fun o=>∃v:Vec 512 (BitVec 64),o=some v∧∀n b,n<512→b<64→((Vec.get v n).getLsbD b=true↔mK p p.Domains.length n b)) ?_ (fun e he=>hn e fun n b h1 h2=>?_) (fun k e next' hk he hn'=>?_)
 ·intro n b h1 h2;rw [fK hlt];by_cases e:n=(cK p.Domains i).Station.toNat
  ·rw [if_pos e,BitVec.getLsbD_one]; (have e':(cK p.Domains i).Station=(n:Int):=by omega);constructor
   ·intro h;simp at h;exact .inr ⟨e', .inl h⟩
   ·rintro (⟨j,hj,h3,_⟩|⟨_,h3|⟨q,hq,_⟩⟩)
    ·have:=hG.inc j i hj hi;omega
    ·simp [h3]
    ·omega
  ·rw [if_neg e,hc n b h1 h2]; (have e':¬(cK p.Domains i).Station=(n:Int):=by omega);simp [e']
 ·rw [he n b h1 h2];constructor
  ·rintro (⟨j,hj,h3⟩|⟨h3,h4⟩)
   ·exact ⟨j,by omega,h3⟩
   ·refine ⟨i,by omega,h3,h4.imp id ?_⟩;rintro ⟨q,hq,e⟩;rw [←e];exact fG hq
  ·rintro ⟨j,hj,h3,h4⟩;rcases Nat.lt_or_ge j i with h5|h5
   ·exact .inl ⟨j,h5,h3,h4⟩
   ·(obtain rfl:j=i:=by omega);refine .inr ⟨h3,h4.imp id fun h=>?_⟩;obtain ⟨q,hq,e⟩:=iS h;exact ⟨q,hq,e⟩
 ·have hc2:=hch.2 _ (fG hk);rw [f7 a5];refine hn' _ fun n b h1 h2=>?_;rw [fK hlt];by_cases e:n=(cK p.Domains i).Station.toNat
  ·(have e':(cK p.Domains i).Station=(n:Int):=by omega);rw [if_pos e,BitVec.getLsbD_or,zoE a5,Bool.or_eq_true,decide_eq_true_eq,←e,he n b h1 h2];constructor
   ·rintro ((h3|⟨h3,h4|⟨q,hq,h5⟩⟩)|h3)
    ·exact .inl h3
    ·exact .inr ⟨e', .inl h4⟩
    ·exact .inr ⟨e', .inr ⟨q,by omega,h5⟩⟩
    ·exact .inr ⟨e', .inr ⟨k,by omega,by omega⟩⟩
   ·rintro (h3|⟨h3,h4|⟨q,hq,h5⟩⟩)
    ·exact .inl (.inl h3)
    ·exact .inl (.inr ⟨e', .inl h4⟩)
    ·rcases Nat.lt_or_ge q k with h6|h6
     ·exact .inl (.inr ⟨e', .inr ⟨q,h6,h5⟩⟩)
     ·(obtain rfl:q=k:=by omega);exact .inr a5
  ·(have e':¬(cK p.Domains i).Station=(n:Int):=by omega);rw [if_neg e,he n b h1 h2];simp [e']
def TabN (p:GProblem)(v:Vec 512 (BitVec 64)):Prop:=∀n b,n<512→b<64→((Vec.get v n).getLsbD b=true↔mK p p.Domains.length n b)
theorem TabN.zero {p:GProblem}{v:Vec 512 (BitVec 64)}(hG:GG p)(h:TabN p v){s:Int}(h0:0≤s∧s≤511):decide (((Vec.get v s.toNat).toNat:Int)=((0#64).toNat:Int))= !gy p s:=by
 have key:gy p s=true↔(Vec.get v s.toNat).getLsbD 0=true:=by
  rw [h _ _ a5 a5,eU];constructor
  ·rintro ⟨x,hx,e⟩;obtain ⟨j,hj,rfl⟩:=iS hx;exact ⟨j,hj,by omega, .inl rfl⟩
  ·rintro ⟨j,hj,e,_⟩;exact ⟨_,fG hj,by omega⟩
 have none:gy p s=false→∀b,b<64→(Vec.get v s.toNat).getLsbD b=false:=fun hf b hb=>by
  cases hg:(Vec.get v s.toNat).getLsbD b with
  |false=>rfl
  |true=>
   obtain ⟨j,hj,e,_⟩:=(h _ _ a5 hb).1 hg;have:gy p s=true:=eU.2 ⟨_,fG hj,by omega⟩;rw [hf] at this;cases this
 cases hh:gy p s with
 |true=>
  refine decide_eq_false fun e=>?_;have h1:=key.1 hh;have e2:Vec.get v s.toNat=0#64:=BitVec.eq_of_toNat_eq a5;rw [e2] at h1;simp at h1
 |false=>
  refine decide_eq_true ?_; (have e2:Vec.get v s.toNat=0#64:=BitVec.eq_of_getLsbD_eq fun b hb=>by rw [none hh b hb];simp);rw [e2]
def zht (p:GProblem)(s c:Int):Bool:=p.Domains.any fun x=>decide (x.Station=s)&&x.Channels.any fun k=>decide (k=c)
theorem j2 {p:GProblem}{s c:Int}:zht p s c=true↔∃x∈p.Domains,x.Station=s∧c∈x.Channels:=by
 unfold zht;simp only [List.any_eq_true,Bool.and_eq_true,decide_eq_true_eq];constructor
 ·rintro ⟨x,hx,h1,k,hk,rfl⟩;exact ⟨x,hx,h1,hk⟩
 ·rintro ⟨x,hx,h1,hk⟩;exact ⟨x,hx,h1,c,hk,rfl⟩
theorem zoI {x:BitVec 64}{c:Nat}:decide ((((x >>> c) &&& (1#64)).toNat:Int)=((0#64).toNat:Int))= !x.getLsbD c:=by
 have e:((x >>> c) &&& (1#64))=bif x.getLsbD c then 1#64 else 0#64:=by
  refine BitVec.eq_of_getLsbD_eq fun b hb=>?_;rw [BitVec.getLsbD_and,BitVec.getLsbD_ushiftRight,BitVec.getLsbD_one];by_cases h0:b=0
  ·subst h0;cases x.getLsbD c <;> simp
  ·cases x.getLsbD c <;> simp [h0]
 rw [e]
 cases x.getLsbD c <;> rfl
theorem TabN.bit {p:GProblem}{v:Vec 512 (BitVec 64)}(h:TabN p v){s c:Int}(h0:0≤s∧s≤511)(h1:2≤c∧c≤51):(Vec.get v s.toNat).getLsbD c.toNat=zht p s c:=by
 rw [Bool.eq_iff_iff,h _ _ a5 a5,j2];constructor
 ·rintro ⟨j,hj,e,h2|h2⟩
  ·omega
  ·exact ⟨_,fG hj,by omega,by rw [show c=((c.toNat:Nat):Int) by omega];exact h2⟩
 ·rintro ⟨x,hx,e,h2⟩;obtain ⟨j,hj,rfl⟩:=iS hx;exact ⟨j,hj,by omega, .inr (by rw [show ((c.toNat:Nat):Int)=c by omega];exact h2)⟩
def jt (p:GProblem)(g:List GChoice):Bool:=(List.range g.length).all (nm g)&&(List.range g.length).all fun i=>zht p (cK g i).Station (cK g i).Channel
theorem iy {p:GProblem}{g:List GChoice}:jt p g=true↔ValidL g∧∀c∈g,zht p c.Station c.Channel=true:=by
 unfold jt;rw [Bool.and_eq_true,iO,List.all_eq_true];constructor
 ·rintro ⟨h1,h2⟩;refine ⟨h1,fun c hc=>?_⟩;obtain ⟨i,hi,rfl⟩:=iS hc;exact h2 i (List.mem_range.2 hi)
 ·rintro ⟨h1,h2⟩;exact ⟨h1,fun i hi=>h2 _ (fG (List.mem_range.1 hi))⟩
theorem zkR {p:GProblem}{t:GStore}{g:List GChoice}(h:TabN p t.domains):zaG t g=some (jt p g):=by
 unfold zaG jt;rw [zes]
 cases hv:(List.range g.length).all (nm g) with
 |false=>rfl
 |true=>
  have hl:=iO.1 hv;simp only [dJ,Nat.sub_zero,Bool.not_true,cond_false,Bool.true_and];refine (nn (fun i _=>(List.range i).all (fun i=>zht p (cK g i).Station (cK g i).Channel)=true) (fun o=>o=some ((List.range g.length).all fun i=>zht p (cK g i).Station (cK g i).Channel)) rfl (fun _ h=>by rw [h]) (fun i _ next hi hI hn=>?_));have hg:=hl.good _ (fG hi);rw [f7 a5,f7 a5,zoI,h.bit a5 a5]
  cases hc:zht p (cK g i).Station (cK g i).Channel with
  |false=>
   have:(List.range g.length).all (fun i=>zht p (cK g i).Station (cK g i).Channel)=false:=by
    rw [List.all_eq_false];exact ⟨i,List.mem_range.2 hi,by simp [hc]⟩
   rw [this];rfl
  |true=>exact hn () (by rw [List.range_succ,List.all_append,hI];simp [hc])
theorem nJ {ρ:Type}{f:Nat→(Unit→ρ)→Unit→ρ}{k:Unit→ρ}{z:ρ}(q:Nat→Bool){n s:Nat}(hf:∀i next,s≤i→i<s+n→f i next ()=bif q i then next () else z):c8 f k n s ()=bif (List.range' s n).all q then k () else z:=by
 induction n generalizing s with
 |zero=>rfl
 |succ m ih=>
  show f s (c8 f k m (s+1)) ()=_
  rw [hf s _ (Nat.le_refl _) a5,ih (fun i next h1 h2=>hf i next a5 a5),List.range'_succ,List.all_cons]
  cases q s <;> rfl
theorem zo8 (n:Nat)(g t:Nat→Bool):(List.range' 0 n).all (fun i=>g i&&(bif decide (0<(i:Int)) then t i else true))=((List.range' 0 n).all g&&(List.range' 1 (n - 1)).all t):=by
 rw [Bool.eq_iff_iff,Bool.and_eq_true,List.all_eq_true,List.all_eq_true,List.all_eq_true];constructor
 ·intro h;refine ⟨fun i hi=>((Bool.and_eq_true _ _).mp (h i hi)).1,fun i hi=>?_⟩;have hi':=List.mem_range'_1.1 hi;have h2:=((Bool.and_eq_true _ _).mp (h i (List.mem_range'_1.2 ⟨by omega,by omega⟩))).2
  rwa [decide_eq_true a5,cond_true] at h2
 ·rintro ⟨h1,h2⟩ i hi;have hi':=List.mem_range'_1.1 hi;rw [Bool.and_eq_true];refine ⟨h1 i hi,?_⟩;by_cases h0:0<(i:Int)
  ·rw [decide_eq_true h0,cond_true];exact h2 i (List.mem_range'_1.2 ⟨by omega,by omega⟩)
  ·rw [decide_eq_false h0];rfl
def eo:List Int→List Int→Bool
 |a :: x,b :: y=>bif decide (a=b) then eo x y else decide (a<b)
 |_,_=>false
theorem zmd {a b:List Int}{i:Nat}(h1:i<a.length)(h2:i<b.length):eo (a.drop i) (b.drop i)=bif decide (cK a i=cK b i) then eo (a.drop (i+1)) (b.drop (i+1)) else decide (cK a i<cK b i):=by
 rw [List.drop_eq_getElem_cons h1,List.drop_eq_getElem_cons h2,←dQ h1,←dQ h2];rfl
theorem zkd {a b:List Int}(h:a.length=b.length):l9 a b=some (eo a b):=by
 have key:∀m i,i+m=a.length→c8 (fun (i:Nat) (next:Unit→Option Bool) (_:Unit)=>ey (0≤(i:Int)∧(i:Int)<(b.length:Int)) (bif decide (¬cK a i=cK b i) then some (decide (cK a i<cK b i)) else next ())) (fun _=>some false) m i ()=some (eo (a.drop i) (b.drop i)):=by
  intro m
  induction m with
  |zero=>intro i e;rw [List.drop_eq_nil_of_le (show a.length≤i by omega)];rfl
  |succ m ih=>
   intro i e;have h2:=ih (i+1) a5
   show ey _ _=_
   rw [f7 ⟨by omega,by omega⟩,zmd a5 a5];by_cases e2:cK a i=cK b i
   ·rw [decide_eq_true e2,decide_eq_false (fun hn=>hn e2),cond_false];exact h2
   ·rw [decide_eq_false e2,decide_eq_true e2,cond_true];rfl
 have:=key a.length 0 a5;rw [List.drop_zero,List.drop_zero] at this;exact this
def cmpc (a b:Int):Int:=bif decide (a<b) then -1 else bif decide (b<a) then 1 else 0
theorem cmp_x (a b:Int):zba a b=cmpc a b:=by
 unfold zba zbx;rw [decide_eq_false (fun h=>h rfl),decide_eq_false (fun h=>h rfl)];rfl
def kD (x:GPair):List Int:=[x.A,x.B,x.Offset,x.Low,x.High]
def kC (x:GLoad):List Int:=[x.To,x.From,x.Weight,x.Low,x.High]
def fU (x:GCap):List Int:=[x.Station,x.Max,x.Low,x.High]
def fV {α:Type}[Inhabited α](lt:α→α→Bool)(l:List α):Bool:=(List.range' 1 (l.length - 1)).all fun i=>lt (cK l (i - 1)) (cK l i)
theorem adj_x {α : Type} [Inhabited α] {l : List α} {cmp : α → α → Int} {lt : α → α → Bool} (hc : ∀ a b, decide (0 ≤ cmp a b) = !lt a b) :
    c8 (fun (i : Nat) (next : Unit → Option Bool) (_ : Unit) => ey (0 ≤ ((i : Int) - 1) ∧ ((i : Int) - 1) < (l.length : Int)) (bif decide (0 ≤ cmp (cK l (((i : Int) - 1).toNat)) (cK l i)) then some false else next ())) (fun _ => some true) (l.length - 1) 1 () = some (fV lt l) := by
  rw [nJ (fun i => lt (cK l (i - 1)) (cK l i)) (z := some false) (fun i next h1 h2 => ?_)]
  · unfold fV; cases (List.range' 1 (l.length - 1)).all fun i => lt (cK l (i - 1)) (cK l i) <;> rfl
  · rw [f7 ⟨by omega, by omega⟩, hc, show ((i : Int) - 1).toNat = i - 1 by omega]
    cases lt (cK l (i - 1)) (cK l i) <;> rfl
theorem zog {α:Type}[Inhabited α]{l:List α}{q:α→Bool}:c8 (fun (i:Nat) (next:Unit→Bool) (_:Unit)=>bif !(q (cK l i)) then false else next ()) (fun _=>true) (l.length - 0) 0 ()=l.all q:=by
 rw [Nat.sub_zero,zcI (fun i=>q (cK l i)) (fun i next hi=>by cases q (cK l i) <;> rfl),zcH,Bool.and_true]
def nP (r:GRules):Bool:=
 decide ((r.Pairs.length:Int)≤4096)&&(r.Pairs.all zbr&&(fV (fun a b=>eo (kD a) (kD b)) r.Pairs&&(decide ((r.Loads.length:Int)≤1024)&&(r.Loads.all zbt&&(fV (fun a b=>eo (kC a) (kC b)) r.Loads&&(decide ((r.Caps.length:Int)≤1024)&&(r.Caps.all zbk&&fV (fun a b=>eo (fU a) (fU b)) r.Caps)))))))
theorem mY (a b:Int):decide (a<b)= !decide (b≤a):=by
 by_cases h:a<b
 ·rw [decide_eq_true h,decide_eq_false a5];rfl
 ·rw [decide_eq_false h,decide_eq_true a5];rfl
theorem zkD (a b:Int):decide (a≤b)= !decide (b<a):=by
 by_cases h:a≤b
 ·rw [decide_eq_true h,decide_eq_false a5];rfl
 ·rw [decide_eq_false h,decide_eq_true a5];rfl
theorem zpo (a b:Int):decide (a=b)= !decide (¬a=b):=by
 by_cases h:a=b
 ·rw [decide_eq_true h,decide_eq_false a5];rfl
 ·rw [decide_eq_false h,decide_eq_true h];rfl
theorem zpq {ρ:Type}(a b c d e f g t:Bool)(n z:Option ρ):dJ (fun x=>bif x then z else n) (fun (k:Bool→Option ρ)=>bif !a then k true else bif !b then k true else bif !c then k true else bif !d then k true else bif !e then k true else bif !f then k true else bif g then (some t).bind fun r=>k (!r) else k false)=bif (((((a&&b)&&c)&&(d&&e))&&f)&&(bif g then t else true)) then n else z:=by
 cases a <;> cases b <;> cases c <;> try rfl
 cases d <;> cases e <;> cases f <;> try rfl
 cases g <;> cases t <;> rfl
theorem body4 {ρ:Type}(a d e f g t:Bool)(n z:Option ρ):dJ (fun x=>bif x then z else n) (fun (k:Bool→Option ρ)=>bif !a then k true else bif !d then k true else bif !e then k true else bif !f then k true else bif g then (some t).bind fun r=>k (!r) else k false)=bif (((a&&(d&&e))&&f)&&(bif g then t else true)) then n else z:=by
 cases a <;> cases d <;> cases e <;> cases f <;> try rfl
 cases g <;> cases t <;> rfl
theorem zeJ {α:Type}[Inhabited α](l:List α)(g:α→Bool)(lt:α→α→Bool):((List.range' 0 (l.length - 0)).all fun i=>g (cK l i)&&(bif decide (0<(i:Int)) then lt (cK l (i - 1)) (cK l i) else true))=(l.all g&&fV lt l):=by
 rw [Nat.sub_zero,zo8 l.length (fun i=>g (cK l i)) (fun i=>lt (cK l (i - 1)) (cK l i)),←List.range_eq_range',zcH];rfl
theorem lessP (x y:GPair):l9 (lh x) (lh y)=some (eo (kD x) (kD y)):=zkd rfl
theorem zp1 (x y:GLoad):l9 (lm x) (lm y)=some (eo (kC x) (kC y)):=zkd rfl
theorem lessC (x y:GCap):l9 (ln x) (ln y)=some (eo (fU x) (fU y)):=zkd rfl
theorem zlg (r:GRules):za2 r=some (nP r):=by
 unfold za2
 show (bif _ then some false else c8 _ (fun _=>c8 _ (fun _=>c8 _ (fun _=>some true) (r.Caps.length - 0) 0 ()) (r.Loads.length - 0) 0 ()) (r.Pairs.length - 0) 0 ())=_
 rw [nJ (n:=r.Pairs.length - 0) (fun i=>zbr (cK r.Pairs i)&&(bif decide (0<(i:Int)) then eo (kD (cK r.Pairs (i - 1))) (kD (cK r.Pairs i)) else true)) (z:=some false) (fun i next h1 h2=>?_)];rw [nJ (n:=r.Loads.length - 0) (fun i=>zbt (cK r.Loads i)&&(bif decide (0<(i:Int)) then eo (kC (cK r.Loads (i - 1))) (kC (cK r.Loads i)) else true)) (z:=some false) (fun i next h1 h2=>?_)];rw [nJ (n:=r.Caps.length - 0) (fun i=>zbk (cK r.Caps i)&&(bif decide (0<(i:Int)) then eo (fU (cK r.Caps (i - 1))) (fU (cK r.Caps i)) else true)) (z:=some false) (fun i next h1 h2=>?_)]
 ·rw [zeJ r.Pairs zbr (fun a b=>eo (kD a) (kD b)),zeJ r.Loads zbt (fun a b=>eo (kC a) (kC b)),zeJ r.Caps zbk (fun a b=>eo (fU a) (fU b))];unfold nP;rw [mY 4096,mY 1024,mY 1024]
  cases decide ((r.Pairs.length:Int)≤4096) <;> cases decide ((r.Loads.length:Int)≤1024) <;> cases decide ((r.Caps.length:Int)≤1024) <;> cases r.Pairs.all zbr <;> try rfl
  all_goals (cases fV (fun a b=>eo (kD a) (kD b)) r.Pairs <;> cases r.Loads.all zbt <;> cases fV (fun a b=>eo (kC a) (kC b)) r.Loads <;> cases r.Caps.all zbk <;> cases fV (fun a b=>eo (fU a) (fU b)) r.Caps <;> rfl)
 ·skip;rw [show ((i:Int) - 1).toNat=i - 1 by omega,lessC,mY _ 0,mY 1099511627776];exact body4 ..
 ·skip;rw [show ((i:Int) - 1).toNat=i - 1 by omega,zp1,zpo (cK r.Loads i).To,mY _ 1,mY 1073741824];exact zpq ..
 ·skip;rw [show ((i:Int) - 1).toNat=i - 1 by omega,lessP,zkD (cK r.Pairs i).B,mY _ (-1),mY 1];exact zpq ..
theorem nj {α:Type}[Inhabited α]{l:List α}{i:Nat}(h:i<l.length):cK l i∈l:=by rw [dQ h];exact List.getElem_mem h
theorem znr {c b:Nat}(hc:c<64):((1#64) <<< c).getLsbD b=decide (b=c):=by
 rw [BitVec.getLsbD_shiftLeft];by_cases h:b=c
 ·subst h;simp [hc,BitVec.getLsbD_one]
 ·rw [decide_eq_false h];by_cases h2:b<c
  ·simp [h2]
  ·have e:(1#64).getLsbD (b - c)=false:=by
    rw [BitVec.getLsbD_one];simp;omega
   rw [e,Bool.and_false]
theorem zop {x:BitVec 64}{c:Nat}:decide ((((x >>> c) &&& (1#64)).toNat:Int)=((1#64).toNat:Int))=x.getLsbD c:=by
 have e:((x >>> c) &&& (1#64))=bif x.getLsbD c then 1#64 else 0#64:=by
  refine BitVec.eq_of_getLsbD_eq fun b hb=>?_;rw [BitVec.getLsbD_and,BitVec.getLsbD_ushiftRight,BitVec.getLsbD_one];by_cases h0:b=0
  ·subst h0;cases x.getLsbD c <;> simp
  ·cases x.getLsbD c <;> simp [h0]
 rw [e]
 cases x.getLsbD c <;> decide
def nB (s:GSet)(i:Int):Bool:=(decide (0≤i)&&decide (i<512))&&(Vec.get s.words (i / 64).toNat).getLsbD (i % 64).toNat
theorem zge (s:GSet)(i:Int):l5 s i=some (nB s i):=by
 unfold l5 nB za3;by_cases h:0≤i∧i<512
 ·simp only [dJ];rw [decide_eq_true h.1,decide_eq_true h.2];simp only [Bool.and_self,cond_true];rw [f7 ⟨h.1,by omega,by omega⟩,f7 ⟨by omega,by omega⟩,f7 ⟨h.1,by omega⟩,f7 ⟨by omega,by omega⟩,zop,Bool.true_and]
 ·have e:(decide (0≤i)&&decide (i<512))=false:=by
   rw [Bool.and_eq_false_iff,decide_eq_false_iff_not,decide_eq_false_iff_not];omega
  simp only [dJ];rw [e];rfl
def wS (v:Vec 8 (BitVec 64))(n:Nat):Bool:=(Vec.get v (n / 64)).getLsbD (n % 64)
theorem zpX {v:Vec 8 (BitVec 64)}{j n:Nat}(hj:j<512):wS (Vec.put v (j / 64) (Vec.get v (j / 64) ||| ((1#64) <<< (j % 64)))) n=(wS v n||decide (n=j)):=by
 unfold wS;rw [fK a5];by_cases h:n / 64=j / 64
 ·rw [if_pos h,BitVec.getLsbD_or,znr a5,h]
  congr 1
  by_cases h2:n % 64=j % 64
  ·rw [decide_eq_true h2,decide_eq_true a5]
  ·rw [decide_eq_false h2,decide_eq_false a5]
 ·rw [if_neg h,decide_eq_false a5,Bool.or_false]
theorem znc {l:List Int}{i:Nat}(hi:i<l.length)(q:Int→Bool):(l.take (i+1)).any q=((l.take i).any q||q (cK l i)):=by
 rw [List.take_add_one,List.getElem?_eq_getElem hi,List.any_append,dQ hi];simp
theorem of_x {l:List Int}(h:∀x∈l,0≤x∧x<512):∃s,zbT l=some (s,0)∧∀i:Int,nB s i=((decide (0≤i)&&decide (i<512))&&l.any fun x=>decide (x=i)):=by
 have hn:∀i,i<l.length→0≤cK l i∧cK l i<512:=fun i hi=>h _ (nj hi);unfold zbT
 obtain ⟨h1,h2⟩:=nz (k:=fun s:Vec 8 (BitVec 64)×Vec 8 (BitVec 64)=>(some (GSet.mk s.2,0):Option (GSet×Int))) (n:=l.length) (s:=(Vec.fill 8 (0#64),Vec.fill 8 (0#64)))
  (f:=fun (i_7:Nat) (next6:(Vec 8 (BitVec 64)×Vec 8 (BitVec 64))→Option (GSet×Int)) (s6:Vec 8 (BitVec 64)×Vec 8 (BitVec 64))=>
   (bif !(za3 (cK l i_7)) then
    some ((GSet.mk (Vec.fill 8 (0#64))),2)
    else
    ey (0≤(cK l i_7)∧(cK l i_7)≤9223372036854775807∧1≤(64:Int)) <|
    ey (0≤((cK l i_7) / 64)∧((cK l i_7) / 64)<(8:Int)) <|
    ey (0≤(cK l i_7)∧1≤(64:Int)) <|
    ey (0≤((cK l i_7) % 64)∧((cK l i_7) % 64)<(64:Int)) <|
    next6 (s6.1,(Vec.put s6.2 (((cK l i_7) / 64).toNat) ((Vec.get s6.2 (((cK l i_7) / 64).toNat)) ||| ((1#64) <<< (((cK l i_7) % 64).toNat)))))))
  (fun i s=>∀n,n<512→wS s.2 n=(l.take i).any fun x=>decide (x=(n:Int)))
  (fun i s=>(s.1,Vec.put s.2 ((cK l i).toNat / 64) (Vec.get s.2 ((cK l i).toNat / 64) ||| ((1#64) <<< ((cK l i).toNat % 64)))))
  (fun n hn=>by
   unfold wS
   rw [gN a5];simp)
  (fun i s hi hs n hn2=>by
   have:=hn i hi;rw [zpX a5,hs n hn2,znc hi]
   congr 1
   by_cases e:cK l i=(n:Int)
   ·rw [decide_eq_true e,decide_eq_true a5]
   ·rw [decide_eq_false e,decide_eq_false a5])
  (fun i next s hi hs=>by
   have:=hn i hi
   have e:za3 (cK l i)=true:=by
    unfold za3;rw [decide_eq_true this.1,decide_eq_true this.2];rfl
   rw [e,Bool.not_true,cond_false,f7 ⟨this.1,by omega,by omega⟩,f7 ⟨by omega,by omega⟩,f7 ⟨this.1,by omega⟩,f7 ⟨by omega,by omega⟩,show (cK l i / 64).toNat=(cK l i).toNat / 64 by omega,show (cK l i % 64).toNat=(cK l i).toNat % 64 by omega])
 refine ⟨_,h1,fun i=>?_⟩;unfold nB;by_cases hi:0≤i∧i<512
 ·rw [decide_eq_true hi.1,decide_eq_true hi.2,Bool.and_self,Bool.true_and,Bool.true_and];have h3:=h2 i.toNat a5;rw [List.take_length] at h3;unfold wS at h3;rw [show (i / 64).toNat=i.toNat / 64 by omega,show (i % 64).toNat=i.toNat % 64 by omega];refine h3.trans ?_;rw [show ((i.toNat:Nat):Int)=i by omega]
 ·have e:(decide (0≤i)&&decide (i<512))=false:=by
   rw [Bool.and_eq_false_iff,decide_eq_false_iff_not,decide_eq_false_iff_not];omega
  rw [e];rfl
theorem zlM {p:GProblem}(hr:dn p.Domains.length 8)(h:∀d∈p.Domains,0≤d.Station∧d.Station<512):∃s,zbB p=some s∧∀i:Int,nB s i=((decide (0≤i)&&decide (i<512))&&p.Domains.any fun d=>decide (d.Station=i)):=by
 obtain ⟨s,h1,h2⟩:=of_x (l:=p.Domains.map (·.Station)) (fun x hx=>by obtain ⟨d,hd,rfl⟩:=List.mem_map.1 hx;exact h d hd);refine ⟨s,?_,fun i=>by rw [h2 i,List.any_map];rfl⟩;unfold zbB;rw [f7 hr]
 have h3:=nz (k:=fun l:List Int=>(zbT l).bind fun r28=>some r28.1) (n:=p.Domains.length - 0) (s:=List.replicate p.Domains.length (0:Int))
  (f:=fun (i_5:Nat) (next4:List Int→Option GSet) (l_3:List Int)=>ey (0≤(i_5:Int)∧(i_5:Int)<(l_3.length:Int)) <| next4 (l_3.set i_5 ((cK p.Domains i_5).Station)))
  (fun i s=>s.length=p.Domains.length∧∀k,k<i→cK s k=(cK p.Domains k).Station)
  (fun i s=>s.set i (cK p.Domains i).Station)
  ⟨List.length_replicate ..,fun k hk=>by omega⟩
  (fun i s hi hs=>⟨by rw [List.length_set];exact hs.1,fun k hk=>by
   (have h4:k<s.length:=by have:=hs.1;omega);rw [dQ (show k<(s.set i _).length by rw [List.length_set];exact h4),List.getElem_set];by_cases e:i=k
   ·rw [if_pos e,e]
   ·rw [if_neg e,←dQ h4];exact hs.2 k a5⟩)
  (fun i next s hi hs=>by rw [f7 ⟨by omega,by have:=hs.1;omega⟩])
 refine h3.1.trans ?_
 have e:(List.range (p.Domains.length - 0)).foldl (fun s i=>s.set i (cK p.Domains i).Station) (List.replicate p.Domains.length (0:Int))=p.Domains.map (·.Station):=by
  refine List.ext_getElem (by rw [h3.2.1,List.length_map]) fun k hk1 hk2=>?_; (have hk:k<p.Domains.length:=by rwa [List.length_map] at hk2);have h5:=h3.2.2 k a5;rw [dQ hk1,dQ hk] at h5;rw [h5,List.getElem_map]
 rw [e,h1];rfl
theorem zpl (a b:Int):decide (0≤zba a b)= !decide (a<b):=by
 rw [cmp_x];unfold cmpc;rcases Int.lt_trichotomy a b with h|h|h
 ·rw [decide_eq_true h];rfl
 ·subst h;rw [decide_eq_false (Int.lt_irrefl a)];rfl
 ·rw [decide_eq_false (show ¬a<b by omega),decide_eq_true h];rfl
def mN (d:GDomain):Bool:=iB d.Station&&(d.Channels.all nK&&fV (fun a b=>decide (a<b)) d.Channels)
def iK (p:GProblem)(i:Int):Bool:=(decide (0≤i)&&decide (i<512))&&p.Domains.any fun d=>decide (d.Station=i)
def zjA (p:GProblem):Bool:=p.Rules.Pairs.all (fun c=>iK p c.A&&iK p c.B)&&(p.Rules.Loads.all (fun c=>iK p c.To&&iK p c.From)&&p.Rules.Caps.all (fun c=>iK p c.Station))
def lM (p:GProblem):Bool:=fV (fun a b:GDomain=>decide (a.Station<b.Station)) p.Domains
def nt (p:GProblem):Bool:=p.Domains.all mN&&(nP p.Rules&&(lM p&&zjA p))
theorem zeX {n:Int}(h:iB n=true):0≤n∧n≤511:=by
 unfold iB jV at h;rw [Bool.and_eq_true,decide_eq_true_eq,decide_eq_true_eq] at h;exact h
theorem zlQ {p:GProblem}(h:p.Domains.all mN=true){d:GDomain}(hd:d∈p.Domains):0≤d.Station∧d.Station<512:=by
 have h1:=List.all_eq_true.1 h d hd;unfold mN at h1;have:=zeX ((Bool.and_eq_true _ _).mp h1).1;omega
theorem zlz {p:GProblem}(h:p.Domains.all mN=true)(hi:lM p=true):∀k,k<p.Domains.length→(k:Int)≤(cK p.Domains k).Station
 |0,hk=>(zlQ h (nj hk)).1
 |k+1,hk=>by
  have h1:=zlz h hi k a5;have h2:=List.all_eq_true.1 hi (k+1) (List.mem_range'_1.2 ⟨by omega,by omega⟩);have h3:=of_decide_eq_true h2;rw [show k+1 - 1=k from rfl] at h3;omega
theorem zjT {p:GProblem}(h:p.Domains.all mN=true)(hi:lM p=true):p.Domains.length≤512:=by
 rcases Nat.eq_zero_or_pos p.Domains.length with h0|h0
 ·omega
 ·have h1:=zlz h hi (p.Domains.length - 1) a5;have h2:=zlQ h (nj (show p.Domains.length - 1<p.Domains.length by omega));omega
theorem zgI {α:Type}{l:List α}{f g:α→Bool}(h:∀x∈l,f x=g x):l.all f=l.all g:=by
 induction l with
 |nil=>rfl
 |cons x r ih=>rw [List.all_cons,List.all_cons,h x (List.mem_cons_self ..),ih fun y hy=>h y (List.mem_cons_of_mem _ hy)]
def dG (p:GProblem)(s:Int):Bool:=p.Domains.any fun d=>decide (d.Station=s)
theorem zel {p:GProblem}{s:Int}:decide (ij p s<0)= !dG p s:=by
 have key:∀m i,i+m=p.Domains.length→(decide (c8 (fun (i:Nat) (next:Unit→Int) (_:Unit)=>bif decide ((cK p.Domains i).Station=s) then (i:Int) else next ()) (fun _=>(-1)) m i ()<0)= !((p.Domains.drop i).any fun d=>decide (d.Station=s))):=by
  intro m
  induction m with
  |zero=>intro i e;rw [List.drop_eq_nil_of_le (show p.Domains.length≤i by omega)];rfl
  |succ m ih=>
   intro i e;have h2:=ih (i+1) a5;rw [List.drop_eq_getElem_cons (show i<p.Domains.length by omega),List.any_cons,←dQ (show i<p.Domains.length by omega)]
   show decide ((bif decide ((cK p.Domains i).Station=s) then (i:Int) else _)<0)=_
   cases decide ((cK p.Domains i).Station=s) with
   |true=>rw [cond_true,decide_eq_false a5];rfl
   |false=>rw [cond_false,Bool.false_or];exact h2
 have:=key p.Domains.length 0 a5;rw [List.drop_zero] at this;exact this
def zi5 (p:GProblem):Bool:=p.Rules.Pairs.all (fun c=>dG p c.A&&dG p c.B)&&(p.Rules.Loads.all (fun c=>dG p c.To&&dG p c.From)&&p.Rules.Caps.all (fun c=>dG p c.Station))
theorem zd3 {p:GProblem}{s:Int}(h:iB s=true):dG p s=iK p s:=by
 have:=zeX h;unfold dG iK;rw [decide_eq_true this.1,decide_eq_true (show s<512 by omega)];rfl
theorem eN {a b:Bool}(h:(a&&b)=true):a=true:=((Bool.and_eq_true _ _).mp h).1
theorem fk {a b:Bool}(h:(a&&b)=true):b=true:=((Bool.and_eq_true _ _).mp h).2
theorem zhc {c:GPair}(h:zbr c=true):iB c.A=true∧iB c.B=true:=
 ⟨eN (eN (eN (eN h))),fk (eN (eN (eN h)))⟩
theorem zgW {c:GLoad}(h:zbt c=true):iB c.To=true∧iB c.From=true:=
 ⟨eN (eN (eN (eN h))),fk (eN (eN (eN h)))⟩
theorem zkW {c:GCap}(h:zbk c=true):iB c.Station=true:=eN (eN h)
structure RulesGood (r:GRules):Prop where
 np:r.Pairs.length≤4096
 nl:r.Loads.length≤1024
 nc:r.Caps.length≤1024
 p:∀c∈r.Pairs,zbr c=true
 l:∀c∈r.Loads,zbt c=true
 c:∀c∈r.Caps,zbk c=true
theorem zd4 {r:GRules}(h:nP r=true):RulesGood r:=by
 unfold nP at h;have h1:=fk h;have h2:=fk h1;have h3:=fk h2;have h4:=fk h3;have h5:=fk h4;have h6:=fk h5;have h7:=fk h6;have a1:=of_decide_eq_true (eN h);have a2:=of_decide_eq_true (eN h3);have a3:=of_decide_eq_true (eN h6);exact ⟨by omega,by omega,by omega,List.all_eq_true.1 (eN h1),List.all_eq_true.1 (eN h4),List.all_eq_true.1 (eN h7)⟩
theorem znS {p:GProblem}(h:nP p.Rules=true):zi5 p=zjA p:=by
 have hg:=zd4 h; (have e1:(p.Rules.Pairs.all fun c=>dG p c.A&&dG p c.B)=p.Rules.Pairs.all fun c=>iK p c.A&&iK p c.B:=zgI fun c hc=>by rw [zd3 (zhc (hg.p c hc)).1,zd3 (zhc (hg.p c hc)).2]); (have e2:(p.Rules.Loads.all fun c=>dG p c.To&&dG p c.From)=p.Rules.Loads.all fun c=>iK p c.To&&iK p c.From:=zgI fun c hc=>by rw [zd3 (zgW (hg.l c hc)).1,zd3 (zgW (hg.l c hc)).2]);have e3:(p.Rules.Caps.all fun c=>dG p c.Station)=p.Rules.Caps.all fun c=>iK p c.Station:=zgI fun c hc=>zd3 (zkW (hg.c c hc));unfold zi5 zjA;rw [e1,e2,e3]
def nG (d:GDomain):Bool:=iB d.Station&&(decide ((d.Channels.length:Int)≤50)&&(d.Channels.all nK&&fV (fun a b=>decide (a<b)) d.Channels))
theorem zpN {n:Int}(h:nK n=true):2≤n∧n≤51:=by
 unfold nK jV at h;rw [Bool.and_eq_true,decide_eq_true_eq,decide_eq_true_eq] at h;exact h
theorem zob {l:List Int}(h:l.all nK=true)(hi:fV (fun a b=>decide (a<b)) l=true):∀k,k<l.length→(k:Int)+2≤cK l k
 |0,hk=>by have:=zpN (List.all_eq_true.1 h _ (nj hk));omega
 |k+1,hk=>by
  have h1:=zob h hi k a5;have h2:=List.all_eq_true.1 hi (k+1) (List.mem_range'_1.2 ⟨by omega,by omega⟩);have h3:=of_decide_eq_true h2;rw [show k+1 - 1=k from rfl] at h3;omega
theorem zlZ (d:GDomain):nG d=mN d:=by
 unfold nG mN
 cases h1:d.Channels.all nK
 ·rw [Bool.false_and,Bool.and_false]
 cases h2:fV (fun a b=>decide (a<b)) d.Channels
 ·rw [Bool.and_false,Bool.and_false]
 have:d.Channels.length≤50:=by
  rcases Nat.eq_zero_or_pos d.Channels.length with h0|h0
  ·omega
  ·have a:=zob h1 h2 (d.Channels.length - 1) a5;have b:=zpN (List.all_eq_true.1 h1 _ (nj (show d.Channels.length - 1<d.Channels.length by omega)));omega
 rw [decide_eq_true a5];rfl
theorem chs_x {ρ:Type}{l:List Int}{n z:ρ}:c8 (fun (k:Nat) (next:Unit→ρ) (_:Unit)=>bif (((decide (cK l k<2))||(decide (51<cK l k)))||((decide (0<(k:Int)))&&(decide (cK l k≤cK l (((k:Int) - 1).toNat))))) then z else next ()) (fun _=>n) (l.length - 0) 0 ()=bif l.all nK&&fV (fun a b=>decide (a<b)) l then n else z:=by
 rw [nJ (fun k=>nK (cK l k)&&(bif decide (0<(k:Int)) then decide (cK l (k - 1)<cK l k) else true)) (z:=z) (fun i next h1 h2=>?_),zeJ l nK (fun a b=>decide (a<b))];rw [show ((i:Int) - 1).toNat=i - 1 by omega,mY _ 2,zkD (cK l i) (cK l (i - 1)),mY 51];unfold nK jV
 cases decide (2≤cK l i) <;> cases decide (cK l i≤51) <;> cases decide (0<(i:Int)) <;> cases decide (cK l (i - 1)<cK l i) <;> rfl
theorem zhy (p:GProblem):zb1 p=some (nt p):=by
 unfold zb1
 show (bif decide (512<(p.Domains.length:Int)) then some false else (za2 p.Rules).bind fun r=>bif !r then some false else c8 _ (fun _=>c8 _ (fun _=>c8 _ (fun _=>c8 _ (fun _=>some true) (p.Rules.Caps.length - 0) 0 ()) (p.Rules.Loads.length - 0) 0 ()) (p.Rules.Pairs.length - 0) 0 ()) (p.Domains.length - 0) 0 ())=_
 rw [zlg,Option.bind_some];rw [nJ (n:=p.Domains.length - 0) (fun i=>nG (cK p.Domains i)&&(bif decide (0<(i:Int)) then decide ((cK p.Domains (i - 1)).Station<(cK p.Domains i).Station) else true)) (z:=some false) (fun i next h1 h2=>?_)];rw [nJ (n:=p.Rules.Pairs.length - 0) (fun i=>dG p (cK p.Rules.Pairs i).A&&dG p (cK p.Rules.Pairs i).B) (z:=some false) (fun i next h1 h2=>?_)];rw [nJ (n:=p.Rules.Loads.length - 0) (fun i=>dG p (cK p.Rules.Loads i).To&&dG p (cK p.Rules.Loads i).From) (z:=some false) (fun i next h1 h2=>?_)];rw [nJ (n:=p.Rules.Caps.length - 0) (fun i=>dG p (cK p.Rules.Caps i).Station) (z:=some false) (fun i next h1 h2=>?_)]
 ·rw [zeJ p.Domains nG (fun a b=>decide (a.Station<b.Station)),Nat.sub_zero,Nat.sub_zero,Nat.sub_zero,←List.range_eq_range',←List.range_eq_range',←List.range_eq_range',
   zcH (q:=fun c:GPair=>dG p c.A&&dG p c.B),zcH (q:=fun c:GLoad=>dG p c.To&&dG p c.From),zcH (q:=fun c:GCap=>dG p c.Station),zgI (fun d _=>zlZ d)]
  have hl:∀x:Option Bool,(bif p.Rules.Pairs.all (fun c=>dG p c.A&&dG p c.B) then bif p.Rules.Loads.all (fun c=>dG p c.To&&dG p c.From) then bif p.Rules.Caps.all (fun c=>dG p c.Station) then some true else some false else some false else some false)=some (zi5 p):=fun _=>by
   unfold zi5
   cases p.Rules.Pairs.all (fun c=>dG p c.A&&dG p c.B) <;> cases p.Rules.Loads.all (fun c=>dG p c.To&&dG p c.From) <;> cases p.Rules.Caps.all (fun c=>dG p c.Station) <;> rfl
  rw [hl none];unfold nt
  show (bif decide (512<(p.Domains.length:Int)) then some false else bif !nP p.Rules then some false else bif p.Domains.all mN&&lM p then some (zi5 p) else some false)=_
  cases h1:nP p.Rules
  ·cases p.Domains.all mN <;> cases decide (512<(p.Domains.length:Int)) <;> rfl
  cases h2:p.Domains.all mN
  ·cases decide (512<(p.Domains.length:Int)) <;> rfl
  cases h3:lM p
  ·cases decide (512<(p.Domains.length:Int)) <;> rfl
  have:=zjT h2 h3;rw [decide_eq_false (show ¬512<(p.Domains.length:Int) by omega),znS h1];rfl
 ·rw [zel];cases dG p (cK p.Rules.Caps i).Station <;> rfl
 ·rw [zel,zel];cases dG p (cK p.Rules.Loads i).To <;> cases dG p (cK p.Rules.Loads i).From <;> rfl
 ·rw [zel,zel];cases dG p (cK p.Rules.Pairs i).A <;> cases dG p (cK p.Rules.Pairs i).B <;> rfl
 ·rw [chs_x,show ((i:Int) - 1).toNat=i - 1 by omega,mY 50,zkD (cK p.Domains i).Station];unfold nG
  show (bif ((!iB (cK p.Domains i).Station||_)||_) then _ else _)=_
  cases iB (cK p.Domains i).Station <;> cases decide (0<(i:Int)) <;> cases decide ((cK p.Domains (i - 1)).Station<(cK p.Domains i).Station) <;> cases decide (((cK p.Domains i).Channels.length:Int)≤50) <;> cases ((cK p.Domains i).Channels.all nK&&fV (fun a b=>decide (a<b)) (cK p.Domains i).Channels) <;> rfl
theorem zn1 (b:Bool):(bif b then true else false)=b:=by cases b <;> rfl
theorem allEq {α:Type}[Inhabited α][DecidableEq α]{a b:List α}(hl:a.length=b.length):((List.range a.length).all fun i=>decide (cK a i=cK b i))=decide (a=b):=by
 rw [Bool.eq_iff_iff,List.all_eq_true,decide_eq_true_eq];constructor
 ·intro h;refine List.ext_getElem hl fun i h1 h2=>?_;have:=of_decide_eq_true (h i (List.mem_range.2 h1))
  rwa [dQ h1,dQ h2] at this
 ·rintro rfl i _;simp
theorem zpU {α:Type}[Inhabited α][DecidableEq α]{a b:List α}{r:α→α→Bool}{k:Unit→Bool}(hr:∀x y,r x y= !decide (x=y))(hl:a.length=b.length):c8 (fun (i:Nat) (next:Unit→Bool) (_:Unit)=>bif r (cK a i) (cK b i) then false else next ()) k (a.length - 0) 0 ()=(decide (a=b)&&k ()):=by
 rw [Nat.sub_zero,zcI (fun i=>decide (cK a i=cK b i)) (fun i next hi=>by rw [hr];cases decide (cK a i=cK b i) <;> rfl),allEq hl]
theorem eqL_x {α:Type}[Inhabited α][DecidableEq α]{a b:List α}{r:α→α→Bool}(hr:∀x y,r x y= !decide (x=y)):(bif decide (¬(a.length:Int)=(b.length:Int)) then false else c8 (fun (i:Nat) (next:Unit→Bool) (_:Unit)=>bif r (cK a i) (cK b i) then false else next ()) (fun _=>true) (a.length - 0) 0 ())=decide (a=b):=by
 by_cases hl:a.length=b.length
 ·rw [decide_eq_false a5,cond_false,zpU hr hl,Bool.and_true]
 ·rw [decide_eq_true a5,cond_true,decide_eq_false (fun e=>hl (by rw [e]))]
theorem zjI (a b:List Int):zbM a b=decide (a=b):=eqL_x (r:=fun x y:Int=>decide (¬x=y)) fun x y=>by by_cases h:x=y <;> simp [h]
def em:List GChoice→Int→Int
 | [],_=>0
 |x :: r,n=>bif decide (x.Station=n) then x.Channel else em r n
theorem zlP (l:List GChoice)(n:Int):ie l n=em l n:=by
 have key:∀m i,i+m=l.length→c8 (fun (i:Nat) (next:Unit→Int) (_:Unit)=>bif decide ((cK l i).Station=n) then (cK l i).Channel else next ()) (fun _=>(0:Int)) m i ()=em (l.drop i) n:=by
  intro m
  induction m with
  |zero=>intro i e;rw [List.drop_eq_nil_of_le (show l.length≤i by omega)];rfl
  |succ m ih=>
   intro i e;have h2:=ih (i+1) a5;rw [List.drop_eq_getElem_cons (show i<l.length by omega),←dQ (show i<l.length by omega)]
   show (bif decide ((cK l i).Station=n) then (cK l i).Channel else _)=bif decide ((cK l i).Station=n) then (cK l i).Channel else _
   rw [←h2]
 have:=key l.length 0 a5;rw [List.drop_zero] at this;exact this
structure VL (l:List GChoice):Prop where
 st:∀i,i<l.length→0≤(cK l i).Station∧(cK l i).Station≤511
 ch:∀i,i<l.length→2≤(cK l i).Channel∧(cK l i).Channel≤51
 lt:∀i j,i<j→j<l.length→(cK l i).Station<(cK l j).Station
theorem ziF (l:List GChoice):kx l=(List.range' 0 (l.length - 0)).all fun i=>(iB (cK l i).Station&&jV (cK l i).Channel 2 51)&& !(decide (0<(i:Int))&&decide ((cK l i).Station≤(cK l (((i:Int) - 1).toNat)).Station)):=by
 refine (nJ (k:=fun _=>true) (z:=false) (fun i=>(iB (cK l i).Station&&jV (cK l i).Channel 2 51)&& !(decide (0<(i:Int))&&decide ((cK l i).Station≤(cK l (((i:Int) - 1).toNat)).Station))) (fun i next h1 h2=>?_)).trans (zn1 _)
 cases iB (cK l i).Station <;> cases jV (cK l i).Channel 2 51 <;> cases (decide (0<(i:Int))&&decide ((cK l i).Station≤(cK l (((i:Int) - 1).toNat)).Station)) <;> rfl
theorem vl_of {l:List GChoice}(h:kx l=true):VL l:=by
 rw [ziF,List.all_eq_true] at h;have g:∀i,i<l.length→_:=fun i hi=>h i (List.mem_range'_1.2 ⟨by omega,by omega⟩)
 have hlt:∀j,0<j→j<l.length→(cK l (j - 1)).Station<(cK l j).Station:=fun j h0 hj=>by
  have h1:=fk (g j hj);rw [decide_eq_true (show 0<(j:Int) by omega),Bool.true_and,Bool.not_eq_true',decide_eq_false_iff_not,show ((j:Int) - 1).toNat=j - 1 by omega] at h1;omega
 refine ⟨fun i hi=>zeX (eN (eN (g i hi))),fun i hi=>?_,fun i j hij hj=>?_⟩
 ·have:=fk (eN (g i hi));unfold jV at this;rw [Bool.and_eq_true,decide_eq_true_eq,decide_eq_true_eq] at this;exact this
 ·induction j with
  |zero=>omega
  |succ j ih=>
   have h1:=hlt (j+1) a5 hj;rw [show j+1 - 1=j from rfl] at h1;rcases Nat.lt_or_ge i j with h2|h2
   ·have:=ih h2 a5;omega
   ·rw [show i=j by omega];exact h1
def TabC (l:List GChoice)(c:Vec 512 Int):Prop:=∀n,n<512→Vec.get c n=em l (n:Int)
theorem TabC.get {l:List GChoice}{c:Vec 512 Int}(h:TabC l c){i:Int}(hi:0≤i∧i<512):Vec.get c i.toNat=em l i:=by
 rw [h _ a5,show ((i.toNat:Nat):Int)=i by omega]
def m8 (l:List GChoice)(n:Int)(s:Int)(x:GLoad):Int:=bif (((decide (x.To=n))&&(decide (em l x.From=em l n)))&&(decide (x.Low≤em l n)))&&(decide (em l n≤x.High)) then wI (s+x.Weight) else s
theorem zoh (p:GProblem)(l:List GChoice)(n:Int):zb0 p n (em l n) l=p.Rules.Loads.foldl (m8 l n) 0:=by
 rw [←nO];refine (zga (k:=fun s:Int=>s) (n:=p.Rules.Loads.length - 0) (s:=0) (fun i s=>m8 l n s (cK p.Rules.Loads i)) (fun i next s hi=>?_));rw [zlP];unfold m8
 cases (((decide ((cK p.Rules.Loads i).To=n))&&(decide (em l (cK p.Rules.Loads i).From=em l n)))&&(decide ((cK p.Rules.Loads i).Low≤em l n)))&&(decide (em l n≤(cK p.Rules.Loads i).High)) <;> rfl
theorem zn5 (l:List Int)(v:Int):dT l v=l.any fun x=>decide (x=v):=by
 have h:=zeE (f:=fun (i:Nat) (next:Unit→Bool) (_:Unit)=>bif decide (cK l i=v) then true else next ()) (k:=fun _=>false) (n:=l.length - 0) (fun i=>decide (cK l i=v)) (fun i next hi=>by cases decide (cK l i=v) <;> rfl);rw [Nat.sub_zero,zdX (q:=fun x=>decide (x=v)),Bool.or_false] at h;exact h
theorem zpZ {a b:Int}(h:zcp a b=true):2≤a∧a≤b∧b≤51:=
 ⟨of_decide_eq_true (eN (eN h)),of_decide_eq_true (fk (eN h)),of_decide_eq_true (fk h)⟩
theorem zn9 {n a b:Int}(h:jV n a b=true):a≤n∧n≤b:=⟨of_decide_eq_true (eN h),of_decide_eq_true (fk h)⟩
def kI (l:List Int):Bool:=l.all iB&&fV (fun a b=>decide (a<b)) l
theorem zeA (l:List Int):zaY l=some (kI l):=by
 have e1:zaP l=l.all iB:=zog;have e2:zbc l=some (fV (fun a b=>decide (a<b)) l):=adj_x zpl;unfold zaY kI;rw [e1,e2];simp only [dJ,Option.bind_some]
 cases l.all iB <;> rfl
theorem zhZ (l:List Int):za6 l=kI l:=by
 refine (nJ (k:=fun _=>true) (z:=false) (fun i=>iB (cK l i)&&(bif decide (0<(i:Int)) then decide (cK l (i - 1)<cK l i) else true)) (fun i next h1 h2=>?_)).trans ?_
 ·rw [show ((i:Int) - 1).toNat=i - 1 by omega,zkD (cK l i) (cK l (i - 1))]
  show (bif (!iB (cK l i)||_) then _ else _)=_
  cases iB (cK l i) <;> cases decide (0<(i:Int)) <;> cases decide (cK l (i - 1)<cK l i) <;> rfl
 ·rw [zn1,zeJ l iB (fun a b=>decide (a<b))];rfl
theorem zhI {l:List Int}(h:kI l=true):∀x∈l,0≤x∧x<512:=fun x hx=>by
 have:=zeX (List.all_eq_true.1 (eN h) x hx);omega
theorem zeh {l:List Int}{s:GSet}(hs:∀i:Int,nB s i=((decide (0≤i)&&decide (i<512))&&l.any fun x=>decide (x=i)))(h:kI l=true)(i:Int):nB s i=dT l i:=by
 rw [hs,zn5];by_cases hi:0≤i∧i<512
 ·rw [decide_eq_true hi.1,decide_eq_true hi.2];rfl
 ·have e:(decide (0≤i)&&decide (i<512))=false:=by
   rw [Bool.and_eq_false_iff,decide_eq_false_iff_not,decide_eq_false_iff_not];omega
  rw [e,Bool.false_and]
  symm
  rw [List.any_eq_false];intro x hx hd;have:=zhI h x hx;have:=of_decide_eq_true hd;omega
theorem zha {x y:BitVec 64}:((x &&& ~~~y).toNat:Int)=((0#64).toNat:Int)↔∀b,b<64→x.getLsbD b=true→y.getLsbD b=true:=by
 constructor
 ·intro h b hb hx;have h1:x &&& ~~~y=0#64:=BitVec.eq_of_toNat_eq (Int.ofNat.inj h);have h2:=congrArg (fun z=>z.getLsbD b) h1;simp only [BitVec.getLsbD_and,BitVec.getLsbD_not,hx,hb,decide_true,Bool.true_and,BitVec.getLsbD_zero,Bool.not_eq_false'] at h2;exact h2
 ·intro h
  have h1:x &&& ~~~y=0#64:=BitVec.eq_of_getLsbD_eq fun b hb=>by
   rw [BitVec.getLsbD_and,BitVec.getLsbD_not]
   cases hx:x.getLsbD b
   ·simp
   ·rw [h b hb hx];simp
  rw [h1]
theorem znC (s o:GSet):zar s o=true↔∀n,n<512→wS s.words n=true→wS o.words n=true:=by
 have e:zar s o=(List.range 8).all fun i=> !decide (¬(((Vec.get s.words i) &&& ~~~(Vec.get o.words i)).toNat:Int)=((0#64).toNat:Int)):=by
  unfold zar;refine (zcI (f:=fun (i:Nat) (next:Unit→Bool) (_:Unit)=>bif decide (¬(((Vec.get s.words i) &&& ~~~(Vec.get o.words i)).toNat:Int)=((0#64).toNat:Int)) then false else next ()) (k:=fun _=>true) (n:=8) (fun i=> !decide (¬(((Vec.get s.words i) &&& ~~~(Vec.get o.words i)).toNat:Int)=((0#64).toNat:Int))) (fun i next hi=>?_)).trans (Bool.and_true _)
  cases decide (¬(((Vec.get s.words i) &&& ~~~(Vec.get o.words i)).toNat:Int)=((0#64).toNat:Int)) <;> rfl
 rw [e,List.all_eq_true];constructor
 ·intro h n hn hw;have h1:=h (n / 64) (List.mem_range.2 a5);rw [Bool.not_eq_true',decide_eq_false_iff_not,Decidable.not_not,zha] at h1;exact h1 _ a5 hw
 ·intro h i hi;have hi:=List.mem_range.1 hi;rw [Bool.not_eq_true',decide_eq_false_iff_not,Decidable.not_not,zha];intro b hb hx;have:=h (i*64+b) a5;unfold wS at this;rw [show (i*64+b) / 64=i by omega,show (i*64+b) % 64=b by omega] at this;exact this hx
theorem zm8 {s:GSet}{n:Nat}(hn:n<512):wS s.words n=nB s (n:Int):=by
 unfold wS nB;rw [decide_eq_true (show (0:Int)≤n by omega),decide_eq_true (show (n:Int)<512 by omega),show ((n:Int) / 64).toNat=n / 64 by omega,show ((n:Int) % 64).toNat=n % 64 by omega];rfl
theorem zlk {l:List Int}{p:GProblem}{s o:GSet}(hs:∀i:Int,nB s i=((decide (0≤i)&&decide (i<512))&&l.any fun x=>decide (x=i)))(h:kI l=true)(ho:∀i:Int,nB o i=iK p i):zar s o=l.all (dG p):=by
 rw [Bool.eq_iff_iff,znC,List.all_eq_true];constructor
 ·intro h1 x hx;have hr:=zhI h x hx;have h2:=h1 x.toNat a5;rw [zm8 a5,zm8 a5,show ((x.toNat:Nat):Int)=x by omega,hs,ho] at h2;rw [zd3 (List.all_eq_true.1 (eN h) x hx)];refine h2 ?_;rw [decide_eq_true hr.1,decide_eq_true hr.2];exact List.any_eq_true.2 ⟨x,hx,decide_eq_true rfl⟩
 ·intro h1 n hn hw;rw [zm8 hn,hs] at hw;obtain ⟨x,hx,e⟩:=List.any_eq_true.1 (fk hw);have e:=of_decide_eq_true e;subst e;rw [zm8 hn,ho,←zd3 (List.all_eq_true.1 (eN h) _ hx)];exact h1 _ hx
def zfp (l:List GChoice)(st:List Int):List GChoice:=(List.range (l.length - 0)).foldl (fun s i=>bif dT st (cK l i).Station then s++[cK l i] else s) []
theorem zml {l:List GChoice}{st:List Int}(hl:l.length≤100000):zdC l st=some (zfp l st):=by
 refine (nz (k:=fun s:List GChoice=>some s) (n:=l.length - 0) (s:=[])
  (f:=fun (i_5:Nat) (next4:List GChoice→Option (List GChoice)) (out_3:List GChoice)=>
   (bif (dT st ((cK l i_5).Station)) then
    ey (dn (out_3++[(cK l i_5)]).length 16) <|
    next4 (out_3++[(cK l i_5)])
    else
    next4 out_3))
  (fun i s=>s.length≤i) (fun i s=>bif dT st (cK l i).Station then s++[cK l i] else s) a8 (fun i s hi hs=>?_) (fun i next s hi hs=>?_)).1
 ·cases dT st (cK l i).Station
  ·show s.length≤i+1;omega
  ·show (s++[cK l i]).length≤i+1;rw [List.length_append];simp;exact hs
 ·cases dT st (cK l i).Station
  ·rfl
  ·rw [cond_true,cond_true,f7 (by unfold dn;rw [List.length_append];simp;omega)]
theorem zoG {l : List GChoice} {st : List Int} (hl : l.length ≤ 100000) : zb8 l st = some (bif kx l && kI st then (zfp l st, 0) else ([], 2)) := by
  unfold zb8;simp only [dJ, zeA, Option.bind_some]
  cases kx l
  · rfl
  cases h2 : kI st
  · rfl
  simp only [Bool.not_true, cond_false, Bool.and_self, cond_true]; obtain ⟨s, h3, h4⟩ := of_x (l := st) (zhI h2); rw [h3, Option.bind_some]
  refine (nz (k := fun s : List GChoice => some (s, (0 : Int))) (n := l.length - 0) (s := [])
    (f := fun (i_9 : Nat) (next8 : List GChoice → Option (List GChoice × Int)) (some_7 : List GChoice) =>
          (l5 s ((cK l i_9).Station)).bind fun r33 =>
          (bif r33 then
            ey (dn (some_7 ++ [(cK l i_9)]).length 16) <|
            next8 (some_7 ++ [(cK l i_9)])
            else
            next8 some_7))
    (fun i s => s.length ≤ i) (fun i s => bif dT st (cK l i).Station then s ++ [cK l i] else s) a8 (fun i s hi hs => ?_) (fun i next s hi hs => ?_)).1
  · cases dT st (cK l i).Station
    · show s.length ≤ i + 1; omega
    · show (s ++ [cK l i]).length ≤ i + 1; rw [List.length_append]; simp; exact hs
  · rw [zge, zeh h4 h2, Option.bind_some]
    cases dT st (cK l i).Station
    · rfl
    · rw [cond_true, cond_true, f7 (by unfold dn; rw [List.length_append]; simp; omega)]
abbrev RS:=List GDomain×List GPair×List GLoad×List GCap
def gD (p:GProblem)(st:List Int)(i:Nat)(s:RS):RS:=bif dT st (cK p.Domains i).Station then (s.1++[cK p.Domains i],s.2.1,s.2.2.1,s.2.2.2) else (s.1,s.2.1,s.2.2.1,s.2.2.2)
def gP (p:GProblem)(st:List Int)(i:Nat)(s:RS):RS:=bif dT st (cK p.Rules.Pairs i).A&&dT st (cK p.Rules.Pairs i).B then (s.1,s.2.1++[cK p.Rules.Pairs i],s.2.2.1,s.2.2.2) else (s.1,s.2.1,s.2.2.1,s.2.2.2)
def gL (p:GProblem)(st:List Int)(i:Nat)(s:RS):RS:=bif dT st (cK p.Rules.Loads i).To&&dT st (cK p.Rules.Loads i).From then (s.1,s.2.1,s.2.2.1++[cK p.Rules.Loads i],s.2.2.2) else (s.1,s.2.1,s.2.2.1,s.2.2.2)
def gC (p:GProblem)(st:List Int)(i:Nat)(s:RS):RS:=bif dT st (cK p.Rules.Caps i).Station then (s.1,s.2.1,s.2.2.1,s.2.2.2++[cK p.Rules.Caps i]) else (s.1,s.2.1,s.2.2.1,s.2.2.2)
def jc (g:Nat→RS→RS)(n:Nat)(s:RS):RS:=(List.range n).foldl (fun s i=>g i s) s
theorem zo2 {ρ : Type} {p : GProblem} {st : List Int} {f : Nat → (RS → ρ) → RS → ρ} {K : RS → ρ} (hn : p.Domains.length ≤ 5000) (hf : ∀ i next s, i < p.Domains.length → (∀ x : GDomain, dn (s.1 ++ [x]).length 32) → f i next s = next (gD p st i s)) : c8 f K (p.Domains.length - 0) 0 ([], [], [], []) = K (jc (gD p st) (p.Domains.length - 0) ([], [], [], [])) ∧ ((jc (gD p st) (p.Domains.length - 0) ([], [], [], [])).2 = ([], [], [])) := by
  have h := nz (f := f) (k := K) (n := p.Domains.length - 0) (s := ([], [], [], [])) (fun i s => s.1.length ≤ i ∧ s.2 = ([], [], [])) (gD p st) ⟨by simp, rfl⟩ (fun i s hi hs => by
      unfold gD
      cases dT st (cK p.Domains i).Station
      · exact ⟨by show s.1.length ≤ i + 1; omega, hs.2⟩
      · exact ⟨by show (s.1 ++ [_]).length ≤ i + 1; rw [List.length_append]; simp; exact hs.1, hs.2⟩) (fun i next s hi hs => hf i next s a5 (fun x => by unfold dn; rw [List.length_append]; simp; omega))
  exact ⟨h.1, h.2.2⟩
theorem zoC {ρ : Type} {p : GProblem} {st : List Int} {f : Nat → (RS → ρ) → RS → ρ} {K : RS → ρ} {s0 : RS} (h0 : s0.2 = ([], [], [])) (hn : p.Rules.Pairs.length ≤ 5000) (hf : ∀ i next s, i < p.Rules.Pairs.length → (∀ x : GPair, dn (s.2.1 ++ [x]).length 40) → f i next s = next (gP p st i s)) : c8 f K (p.Rules.Pairs.length - 0) 0 s0 = K (jc (gP p st) (p.Rules.Pairs.length - 0) s0) ∧ ((jc (gP p st) (p.Rules.Pairs.length - 0) s0).2.2 = ([], [])) := by
  have h := nz (f := f) (k := K) (n := p.Rules.Pairs.length - 0) (s := s0) (fun i s => s.2.1.length ≤ i ∧ s.2.2 = ([], [])) (gP p st) (by rw [h0]; exact ⟨by simp, rfl⟩) (fun i s hi hs => by
      unfold gP
      cases dT st (cK p.Rules.Pairs i).A && dT st (cK p.Rules.Pairs i).B
      · exact ⟨by show s.2.1.length ≤ i + 1; omega, hs.2⟩
      · exact ⟨by show (s.2.1 ++ [_]).length ≤ i + 1; rw [List.length_append]; simp; exact hs.1, hs.2⟩) (fun i next s hi hs => hf i next s a5 (fun x => by unfold dn; rw [List.length_append]; simp; omega))
  exact ⟨h.1, h.2.2⟩
theorem zoB {ρ : Type} {p : GProblem} {st : List Int} {f : Nat → (RS → ρ) → RS → ρ} {K : RS → ρ} {s0 : RS} (h0 : s0.2.2 = ([], [])) (hn : p.Rules.Loads.length ≤ 5000) (hf : ∀ i next s, i < p.Rules.Loads.length → (∀ x : GLoad, dn (s.2.2.1 ++ [x]).length 40) → f i next s = next (gL p st i s)) : c8 f K (p.Rules.Loads.length - 0) 0 s0 = K (jc (gL p st) (p.Rules.Loads.length - 0) s0) ∧ ((jc (gL p st) (p.Rules.Loads.length - 0) s0).2.2.2 = []) := by
  have h := nz (f := f) (k := K) (n := p.Rules.Loads.length - 0) (s := s0) (fun i s => s.2.2.1.length ≤ i ∧ s.2.2.2 = []) (gL p st) (by rw [h0]; exact ⟨by simp, rfl⟩) (fun i s hi hs => by
      unfold gL
      cases dT st (cK p.Rules.Loads i).To && dT st (cK p.Rules.Loads i).From
      · exact ⟨by show s.2.2.1.length ≤ i + 1; omega, hs.2⟩
      · exact ⟨by show (s.2.2.1 ++ [_]).length ≤ i + 1; rw [List.length_append]; simp; exact hs.1, hs.2⟩) (fun i next s hi hs => hf i next s a5 (fun x => by unfold dn; rw [List.length_append]; simp; omega))
  exact ⟨h.1, h.2.2⟩
theorem zp3 {ρ : Type} {p : GProblem} {st : List Int} {f : Nat → (RS → ρ) → RS → ρ} {K : RS → ρ} {s0 : RS} (h0 : s0.2.2.2 = []) (hn : p.Rules.Caps.length ≤ 5000) (hf : ∀ i next s, i < p.Rules.Caps.length → (∀ x : GCap, dn (s.2.2.2 ++ [x]).length 32) → f i next s = next (gC p st i s)) : c8 f K (p.Rules.Caps.length - 0) 0 s0 = K (jc (gC p st) (p.Rules.Caps.length - 0) s0) := by
  have h := nz (f := f) (k := K) (n := p.Rules.Caps.length - 0) (s := s0) (fun i s => s.2.2.2.length ≤ i) (gC p st) (by rw [h0]; simp) (fun i s hi hs => by
      unfold gC
      cases dT st (cK p.Rules.Caps i).Station
      · show s.2.2.2.length ≤ i + 1; omega
      · show (s.2.2.2 ++ [_]).length ≤ i + 1; rw [List.length_append]; simp; exact hs) (fun i next s hi hs => hf i next s a5 (fun x => by unfold dn; rw [List.length_append]; simp; omega))
  exact h.1
def zld (p:GProblem)(st:List Int):RS:=jc (gC p st) (p.Rules.Caps.length - 0) (jc (gL p st) (p.Rules.Loads.length - 0) (jc (gP p st) (p.Rules.Pairs.length - 0) (jc (gD p st) (p.Domains.length - 0) ([],[],[],[]))))
def gZ (p:GProblem)(st:List Int):GProblem:=⟨(zld p st).1,⟨(zld p st).2.1,(zld p st).2.2.1,(zld p st).2.2.2⟩⟩
def zju (p:GProblem)(st:List Int):GProblem×Int:=bif nt p&&kI st then (bif st.all (dG p) then (gZ p st,0) else (⟨[],⟨[],[],[]⟩⟩,9)) else (⟨[],⟨[],[],[]⟩⟩,2)
theorem zpg {d:GDomain}(h:mN d=true):d.Channels.length≤50:=by
 rw [←zlZ] at h;have:=of_decide_eq_true (eN (fk h));omega
theorem mu {p:GProblem}{st:List Int}(h:p.Domains.length≤5000):(jc (gD p st) (p.Domains.length - 0) ([],[],[],[])).2=([],[],[]):=(zo2 (ρ:=Unit) (f:=fun i next s=>next (gD p st i s)) (K:=fun _=>()) h (fun _ _ _ _ _=>rfl)).2
theorem inv2 {p:GProblem}{st:List Int}{s0:RS}(h0:s0.2=([],[],[]))(h:p.Rules.Pairs.length≤5000):(jc (gP p st) (p.Rules.Pairs.length - 0) s0).2.2=([],[]):=(zoC (ρ:=Unit) (f:=fun i next s=>next (gP p st i s)) (K:=fun _=>()) h0 h (fun _ _ _ _ _=>rfl)).2
theorem inv3 {p:GProblem}{st:List Int}{s0:RS}(h0:s0.2.2=([],[]))(h:p.Rules.Loads.length≤5000):(jc (gL p st) (p.Rules.Loads.length - 0) s0).2.2.2=[]:=(zoB (ρ:=Unit) (f:=fun i next s=>next (gL p st i s)) (K:=fun _=>()) h0 h (fun _ _ _ _ _=>rfl)).2
theorem zfQ {σ ρ:Type}{f:Nat→(σ→ρ)→σ→ρ}{k:σ→ρ}{z:ρ}{n:Nat}{s:σ}(q:Nat→Bool)(hf:∀i next,i<n→f i next s=bif q i then next s else z):c8 f k n 0 s=bif (List.range n).all q then k s else z:=by
 have key:∀m i,i+m=n→c8 f k m i s=bif (List.range' i m).all q then k s else z:=by
  intro m
  induction m with
  |zero=>intro i _;rfl
  |succ m ih=>
   intro i e
   show f i (c8 f k m (i+1)) s=_
   rw [hf i _ a5,ih (i+1) a5,List.range'_succ,List.all_cons]
   cases q i <;> rfl
 rw [key n 0 a5,List.range_eq_range']
theorem zh2 (p:GProblem)(st:List Int):zb7 p st=some (zju p st):=by
 unfold zb7 zju;rw [zhy,zhZ]
 cases h1:nt p
 ·rfl
 cases h2:kI st
 ·rfl
 have hD:=eN h1;have hg:=zd4 (eN (fk h1));have hi:=eN (fk (fk h1));have hl:=zjT hD hi;have g1:=hg.np;have g2:=hg.nl;have g3:=hg.nc;refine (zfQ (n:=st.length - 0) (s:=(([],[],[],[]):RS)) (z:=some ((⟨[],⟨[],[],[]⟩⟩:GProblem),(9:Int))) (fun i=>dG p (cK st i)) (fun i next hin=>?_)).trans ?_
 ·rw [zel];cases dG p (cK st i) <;> rfl
 rw [Nat.sub_zero,zcH (q:=dG p)]
 cases st.all (dG p)
 ·rfl
 refine (zo2 (st:=st) a5 (fun i next s hin hr=>?_)).1.trans ?_
 ·unfold gD
  cases dT st (cK p.Domains i).Station
  ·rfl
  ·rw [cond_true,cond_true,f7 (hr _)]
 refine (zoC (st:=st) (s0:=jc (gD p st) (p.Domains.length - 0) ([],[],[],[])) (mu a5) a5 (fun i next s hin hr=>?_)).1.trans ?_
 ·unfold gP
  cases dT st (cK p.Rules.Pairs i).A&&dT st (cK p.Rules.Pairs i).B
  ·rfl
  ·rw [cond_true,cond_true,f7 (hr _)]
 refine (zoB (st:=st) (s0:=jc (gP p st) (p.Rules.Pairs.length - 0) (jc (gD p st) (p.Domains.length - 0) ([],[],[],[]))) (inv2 (mu a5) a5) a5 (fun i next s hin hr=>?_)).1.trans ?_
 ·unfold gL
  cases dT st (cK p.Rules.Loads i).To&&dT st (cK p.Rules.Loads i).From
  ·rfl
  ·rw [cond_true,cond_true,f7 (hr _)]
 refine (zp3 (st:=st) (s0:=jc (gL p st) (p.Rules.Loads.length - 0) (jc (gP p st) (p.Rules.Pairs.length - 0) (jc (gD p st) (p.Domains.length - 0) ([],[],[],[])))) (inv3 (inv2 (mu a5) a5) a5) a5 (fun i next s hin hr=>?_)).trans ?_
 ·unfold gC
  cases dT st (cK p.Rules.Caps i).Station
  ·rfl
  ·rw [cond_true,cond_true,f7 (hr _)]
 rfl
theorem zkz {α β:Type}(q:α→Bool)(e:α→β):∀(l:List α) (s:List β),l.foldl (fun s x=>bif q x then s++[e x] else s) s=s++(l.filter q).map e
 | [],s=>by simp
 |x :: l,s=>by
  rw [List.foldl_cons,zkz q e l]
  cases h:q x
  ·rw [List.filter_cons_of_neg (by rw [h];simp)];rfl
  ·rw [List.filter_cons_of_pos h,cond_true,List.map_cons,List.append_assoc];rfl
abbrev fq (st:List Int)(n:Int):Bool:=dT st n
theorem zgy (l:List GChoice)(st:List Int):zfp l st=l.filter fun x=>fq st x.Station:=by
 unfold zfp;rw [Nat.sub_zero];have:=zkz (fun x:GChoice=>fq st x.Station) id l [];rw [List.map_id,List.nil_append] at this;exact (nO (l:=l) (g:=fun (s:List GChoice) x=>bif dT st x.Station then s++[x] else s) (s:=[])).trans this
theorem zkE (st:List Int):∀(l:List GDomain) (s:RS),l.foldl (fun s x=>bif dT st x.Station then (s.1++[x],s.2.1,s.2.2.1,s.2.2.2) else (s.1,s.2.1,s.2.2.1,s.2.2.2)) s=(s.1++l.filter (fun x=>fq st x.Station),s.2.1,s.2.2.1,s.2.2.2)
 | [],s=>by simp
 |x :: l,s=>by
  rw [List.foldl_cons,zkE st l]
  cases h:dT st x.Station
  ·rw [List.filter_cons_of_neg (p:=fun x:GDomain=>fq st x.Station) (by show ¬(dT st x.Station)=true;rw [h];simp)];rfl
  ·rw [List.filter_cons_of_pos (p:=fun x:GDomain=>fq st x.Station) h,cond_true,List.append_assoc];rfl
theorem zks (st:List Int):∀(l:List GPair) (s:RS),l.foldl (fun s x=>bif dT st x.A&&dT st x.B then (s.1,s.2.1++[x],s.2.2.1,s.2.2.2) else (s.1,s.2.1,s.2.2.1,s.2.2.2)) s=(s.1,s.2.1++l.filter (fun x=>fq st x.A&&fq st x.B),s.2.2.1,s.2.2.2)
 | [],s=>by simp
 |x :: l,s=>by
  rw [List.foldl_cons,zks st l]
  cases h:dT st x.A&&dT st x.B
  ·rw [List.filter_cons_of_neg (p:=fun x:GPair=>fq st x.A&&fq st x.B) (by show ¬(dT st x.A&&dT st x.B)=true;rw [h];simp)];rfl
  ·rw [List.filter_cons_of_pos (p:=fun x:GPair=>fq st x.A&&fq st x.B) h,cond_true,List.append_assoc];rfl
theorem zkt (st:List Int):∀(l:List GLoad) (s:RS),l.foldl (fun s x=>bif dT st x.To&&dT st x.From then (s.1,s.2.1,s.2.2.1++[x],s.2.2.2) else (s.1,s.2.1,s.2.2.1,s.2.2.2)) s=(s.1,s.2.1,s.2.2.1++l.filter (fun x=>fq st x.To&&fq st x.From),s.2.2.2)
 | [],s=>by simp
 |x :: l,s=>by
  rw [List.foldl_cons,zkt st l]
  cases h:dT st x.To&&dT st x.From
  ·rw [List.filter_cons_of_neg (p:=fun x:GLoad=>fq st x.To&&fq st x.From) (by show ¬(dT st x.To&&dT st x.From)=true;rw [h];simp)];rfl
  ·rw [List.filter_cons_of_pos (p:=fun x:GLoad=>fq st x.To&&fq st x.From) h,cond_true,List.append_assoc];rfl
theorem zkI (st:List Int):∀(l:List GCap) (s:RS),l.foldl (fun s x=>bif dT st x.Station then (s.1,s.2.1,s.2.2.1,s.2.2.2++[x]) else (s.1,s.2.1,s.2.2.1,s.2.2.2)) s=(s.1,s.2.1,s.2.2.1,s.2.2.2++l.filter (fun x=>fq st x.Station))
 | [],s=>by simp
 |x :: l,s=>by
  rw [List.foldl_cons,zkI st l]
  cases h:dT st x.Station
  ·rw [List.filter_cons_of_neg (p:=fun x:GCap=>fq st x.Station) (by show ¬(dT st x.Station)=true;rw [h];simp)];rfl
  ·rw [List.filter_cons_of_pos (p:=fun x:GCap=>fq st x.Station) h,cond_true,List.append_assoc];rfl
theorem zeS (p:GProblem)(st:List Int):gZ p st=⟨p.Domains.filter (fun x=>fq st x.Station),⟨p.Rules.Pairs.filter (fun x=>fq st x.A&&fq st x.B),p.Rules.Loads.filter (fun x=>fq st x.To&&fq st x.From),p.Rules.Caps.filter (fun x=>fq st x.Station)⟩⟩:=by
 have e:zld p st=(p.Domains.filter (fun x=>fq st x.Station),p.Rules.Pairs.filter (fun x=>fq st x.A&&fq st x.B),p.Rules.Loads.filter (fun x=>fq st x.To&&fq st x.From),p.Rules.Caps.filter (fun x=>fq st x.Station)):=by
  unfold zld jc;simp only [Nat.sub_zero];have h1:∀s:RS,(List.range p.Domains.length).foldl (fun s i=>gD p st i s) s=_:=fun s=>(nO (l:=p.Domains) (g:=fun (s:RS) x=>bif dT st x.Station then (s.1++[x],s.2.1,s.2.2.1,s.2.2.2) else (s.1,s.2.1,s.2.2.1,s.2.2.2)) (s:=s)).trans (zkE st _ s);have h2:∀s:RS,(List.range p.Rules.Pairs.length).foldl (fun s i=>gP p st i s) s=_:=fun s=>(nO (l:=p.Rules.Pairs) (g:=fun (s:RS) x=>bif dT st x.A&&dT st x.B then (s.1,s.2.1++[x],s.2.2.1,s.2.2.2) else (s.1,s.2.1,s.2.2.1,s.2.2.2)) (s:=s)).trans (zks st _ s);have h3:∀s:RS,(List.range p.Rules.Loads.length).foldl (fun s i=>gL p st i s) s=_:=fun s=>(nO (l:=p.Rules.Loads) (g:=fun (s:RS) x=>bif dT st x.To&&dT st x.From then (s.1,s.2.1,s.2.2.1++[x],s.2.2.2) else (s.1,s.2.1,s.2.2.1,s.2.2.2)) (s:=s)).trans (zkt st _ s);have h4:∀s:RS,(List.range p.Rules.Caps.length).foldl (fun s i=>gC p st i s) s=_:=fun s=>(nO (l:=p.Rules.Caps) (g:=fun (s:RS) x=>bif dT st x.Station then (s.1,s.2.1,s.2.2.1,s.2.2.2++[x]) else (s.1,s.2.1,s.2.2.1,s.2.2.2)) (s:=s)).trans (zkI st _ s);rw [h1,h2,h3,h4];simp
 unfold gZ;rw [e]
theorem zjK {α:Type}[Inhabited α]{lt:α→α→Bool}(ht:∀a b c,lt a b=true→lt b c=true→lt a c=true){l:List α}:fV lt l=true↔l.Pairwise (fun a b=>lt a b=true):=by
 constructor
 ·intro h;have h1:∀i,i+1<l.length→lt (cK l i) (cK l (i+1))=true:=fun i hi=>List.all_eq_true.1 h (i+1) (List.mem_range'_1.2 ⟨by omega,by omega⟩)
  have h2:∀d i,i+d+1<l.length→lt (cK l i) (cK l (i+d+1))=true:=by
   intro d
   induction d with
   |zero=>intro i hi;exact h1 i hi
   |succ d ih=>intro i hi;exact ht _ _ _ (ih i a5) (h1 (i+d+1) a5)
  refine List.pairwise_iff_getElem.2 fun i j hi hj hij=>?_;rw [←dQ hi,←dQ hj];have:=h2 (j - i - 1) i a5
  rwa [show i+(j - i - 1)+1=j by omega] at this
 ·intro h;refine List.all_eq_true.2 fun i hi=>?_;have hi:=List.mem_range'_1.1 hi;rw [dQ (show i - 1<l.length by omega),dQ (show i<l.length by omega)];exact List.pairwise_iff_getElem.1 h (i - 1) i _ _ a5
theorem zmC {a b:Int}{x y:List Int}:eo (a :: x) (b :: y)=true↔a<b∨(a=b∧eo x y=true):=by
 show (bif decide (a=b) then eo x y else decide (a<b))=true↔_
 by_cases h:a=b
 ·rw [decide_eq_true h,cond_true];exact ⟨fun h1=> .inr ⟨h,h1⟩,fun h1=>h1.elim (fun h2=>absurd h2 a5) (·.2)⟩
 ·rw [decide_eq_false h,cond_false,decide_eq_true_eq];exact ⟨.inl,fun h1=>h1.elim id (fun h2=>absurd h2.1 h)⟩
theorem zic:∀a b c:List Int,eo a b=true→eo b c=true→eo a c=true
 | [],_,_,h,_=>by cases h
 |_ :: _,[],_,h,_=>by cases h
 |_ :: _,_ :: _,[],_,h=>by cases h
 |a :: x,b :: y,c :: z,h1,h2=>by
  rw [zmC] at h1 h2 ⊢;rcases h1 with h1|⟨h1,h3⟩ <;> rcases h2 with h2|⟨h2,h4⟩
  ·left;omega
  ·left;omega
  ·left;omega
  ·exact .inr ⟨by omega,zic x y z h3 h4⟩
theorem zgE {α:Type}[Inhabited α]{lt:α→α→Bool}(ht:∀a b c,lt a b=true→lt b c=true→lt a c=true){l l':List α}(hs:l'.Sublist l)(h:fV lt l=true):fV lt l'=true:=(zjK ht).2 (((zjK ht).1 h).sublist hs)
theorem zo0 {α:Type}{l l':List α}{q:α→Bool}(hs:l'.Sublist l)(h:l.all q=true):l'.all q=true:=List.all_eq_true.2 fun x hx=>List.all_eq_true.1 h x (hs.subset hx)
theorem jm {a b:Bool}(ha:a=true)(hb:b=true):(a&&b)=true:=by rw [ha,hb];rfl
structure RulesP (r:GRules):Prop where
 g:RulesGood r
 ip:fV (fun a b=>eo (kD a) (kD b)) r.Pairs=true
 il:fV (fun a b=>eo (kC a) (kC b)) r.Loads=true
 ic:fV (fun a b=>eo (fU a) (fU b)) r.Caps=true
theorem zlG {r:GRules}(h:nP r=true):RulesP r:=by
 have hg:=zd4 h;unfold nP at h;have h1:=fk h;have h2:=fk h1;have h3:=fk h2;have h4:=fk h3;have h5:=fk h4;have h6:=fk h5;have h7:=fk h6;exact ⟨hg,eN h2,eN h5,fk h7⟩
theorem RulesP.b {r:GRules}(h:RulesP r):nP r=true:=by
 have a:=h.g.np;have b:=h.g.nl;have c:=h.g.nc;exact jm (decide_eq_true a5) (jm (List.all_eq_true.2 h.g.p) (jm h.ip (jm (decide_eq_true a5) (jm (List.all_eq_true.2 h.g.l) (jm h.il (jm (decide_eq_true a5) (jm (List.all_eq_true.2 h.g.c) h.ic)))))))
theorem zow (a b c:GPair):eo (kD a) (kD b)=true→eo (kD b) (kD c)=true→eo (kD a) (kD c)=true:=zic _ _ _
theorem zpe (a b c:GLoad):eo (kC a) (kC b)=true→eo (kC b) (kC c)=true→eo (kC a) (kC c)=true:=zic _ _ _
theorem zpJ (a b c:GCap):eo (fU a) (fU b)=true→eo (fU b) (fU c)=true→eo (fU a) (fU c)=true:=zic _ _ _
theorem RulesP.sub {r r':GRules}(h:RulesP r)(hp:r'.Pairs.Sublist r.Pairs)(hl:r'.Loads.Sublist r.Loads)(hc:r'.Caps.Sublist r.Caps):RulesP r':=by
 refine ⟨⟨?_,?_,?_,fun x hx=>h.g.p x (hp.subset hx),fun x hx=>h.g.l x (hl.subset hx),fun x hx=>h.g.c x (hc.subset hx)⟩,zgE zow hp h.ip,zgE zpe hl h.il,zgE zpJ hc h.ic⟩
 ·have:=hp.length_le;have:=h.g.np;omega
 ·have:=hl.length_le;have:=h.g.nl;omega
 ·have:=hc.length_le;have:=h.g.nc;omega
theorem zi8 {p:GProblem}(h:nt p=true):p.Domains.all mN=true∧RulesP p.Rules∧lM p=true∧zjA p=true:=⟨eN h,zlG (eN (fk h)),eN (fk (fk h)),fk (fk (fk h))⟩
theorem znR {p:GProblem}(h1:p.Domains.all mN=true)(h2:RulesP p.Rules)(h3:lM p=true)(h4:zjA p=true):nt p=true:=jm h1 (jm h2.b (jm h3 h4))
theorem zds {p q:GProblem}{st:List Int}{n:Int}(e:q.Domains=p.Domains.filter fun x=>fq st x.Station)(h:iK p n=true)(hs:fq st n=true):iK q n=true:=by
 refine jm (eN h) ?_;obtain ⟨d,hd,hn⟩:=List.any_eq_true.1 (fk h);have e2:=of_decide_eq_true hn;rw [e];exact List.any_eq_true.2 ⟨d,List.mem_filter.2 ⟨hd,by rw [e2];exact hs⟩,hn⟩
theorem znk {p:GProblem}{st:List Int}(h:nt p=true):nt (gZ p st)=true:=by
 obtain ⟨h1,h2,h3,h4⟩:=zi8 h;rw [zeS];refine znR (zo0 List.filter_sublist h1) (h2.sub List.filter_sublist List.filter_sublist List.filter_sublist) (zgE (fun a b c x y=>by rw [decide_eq_true_eq] at *;omega) List.filter_sublist h3) ?_;have a1:=List.all_eq_true.1 (eN h4);have a2:=List.all_eq_true.1 (eN (fk h4));have a3:=List.all_eq_true.1 (fk (fk h4));refine jm (List.all_eq_true.2 fun c hc=>?_) (jm (List.all_eq_true.2 fun c hc=>?_) (List.all_eq_true.2 fun c hc=>?_))
 ·obtain ⟨b1,b2⟩:=List.mem_filter.1 hc;exact jm (zds rfl (eN (a1 c b1)) (eN b2)) (zds rfl (fk (a1 c b1)) (fk b2))
 ·obtain ⟨b1,b2⟩:=List.mem_filter.1 hc;exact jm (zds rfl (eN (a2 c b1)) (eN b2)) (zds rfl (fk (a2 c b1)) (fk b2))
 ·obtain ⟨b1,b2⟩:=List.mem_filter.1 hc;exact zds rfl (a3 c b1) b2
theorem zom {l:List GChoice}(h:VL l):kx l=true:=by
 rw [ziF];refine List.all_eq_true.2 fun i hi=>?_;have hi:=List.mem_range'_1.1 hi;have a:=h.st i a5;have b:=h.ch i a5;refine jm (jm (jm (decide_eq_true a.1) (decide_eq_true a.2)) (jm (decide_eq_true b.1) (decide_eq_true b.2))) ?_;rw [Bool.not_eq_true',Bool.and_eq_false_iff,decide_eq_false_iff_not,decide_eq_false_iff_not];rcases Nat.eq_zero_or_pos i with h0|h0
 ·left;omega
 ·right;have:=h.lt (i - 1) i a5 a5;rw [show ((i:Int) - 1).toNat=i - 1 by omega];omega
theorem zpj {l l':List GChoice}(h:VL l)(hs:l'.Sublist l):VL l':=by
 have hm:∀x∈l,∃i,i<l.length∧cK l i=x:=fun x hx=>by
  obtain ⟨i,hi,e⟩:=List.mem_iff_getElem.1 hx;exact ⟨i,hi,by rw [dQ hi,e]⟩
 have hp:l.Pairwise fun a b=>a.Station<b.Station:=List.pairwise_iff_getElem.2 fun i j hi hj hij=>by
  have:=h.lt i j hij hj
  rwa [dQ hi,dQ hj] at this
 have hp':=hp.sublist hs;refine ⟨fun i hi=>?_,fun i hi=>?_,fun i j hij hj=>?_⟩
 ·obtain ⟨k,hk,e⟩:=hm _ (hs.subset (nj hi));rw [←e];exact h.st k hk
 ·obtain ⟨k,hk,e⟩:=hm _ (hs.subset (nj hi));rw [←e];exact h.ch k hk
 ·rw [dQ (show i<l'.length by omega),dQ hj];exact List.pairwise_iff_getElem.1 hp' i j _ _ hij
theorem zdM (q:Int→Bool)(n:Int):∀l:List GChoice,em (l.filter fun x=>q x.Station) n=bif q n then em l n else 0
 | []=>by cases q n <;> rfl
 |x :: l=>by
  by_cases e:x.Station=n
  ·cases h:q n
   ·rw [List.filter_cons_of_neg (p:=fun x:GChoice=>q x.Station) (by show ¬q x.Station=true;rw [e,h];simp),zdM q n l,h];rfl
   ·rw [List.filter_cons_of_pos (p:=fun x:GChoice=>q x.Station) (show q x.Station=true by rw [e];exact h)]
    show (bif decide (x.Station=n) then x.Channel else _)=(bif decide (x.Station=n) then x.Channel else _)
    rw [decide_eq_true e];rfl
  ·have e2:em (x :: l) n=em l n:=by
    show (bif decide (x.Station=n) then x.Channel else em l n)=_
    rw [decide_eq_false e];rfl
   rw [e2]
   cases h:q x.Station
   ·rw [List.filter_cons_of_neg (p:=fun x:GChoice=>q x.Station) (by show ¬q x.Station=true;rw [h];simp)];exact zdM q n l
   ·rw [List.filter_cons_of_pos (p:=fun x:GChoice=>q x.Station) h]
    show (bif decide (x.Station=n) then x.Channel else em _ n)=_
    rw [decide_eq_false e];exact zdM q n l
theorem zk8 {l l':List GChoice}{n:Int}(e:em l' n=em l n):∀ {A B:List GLoad},A.Sublist B→(∀x∈B,1≤x.Weight∧x.Weight≤1073741824)→(∀x∈B,em l' x.From=em l n→2≤em l n→em l x.From=em l n)→2≤em l n→∀s t:Int,0≤s→s≤t→t+B.length*1073741824≤4611686018427387904→0≤A.foldl (m8 l' n) s∧A.foldl (m8 l' n) s≤B.foldl (m8 l n) t:=by
 intro A B hs
 induction hs with
 |slnil=>intro _ _ _ s t h0 h1 h2;exact ⟨h0,h1⟩
 | @cons A B x hs ih=>
  intro hw hf hn s t h0 h1 h2;have hx:=hw x (List.mem_cons_self ..);rw [List.length_cons] at h2;rw [List.foldl_cons];refine ih (fun y hy=>hw y (List.mem_cons_of_mem _ hy)) (fun y hy=>hf y (List.mem_cons_of_mem _ hy)) hn s _ h0 ?_ ?_
  ·unfold m8;rw [mG a5];cases ((decide (x.To=n)&&decide (em l x.From=em l n))&&decide (x.Low≤em l n))&&decide (em l n≤x.High)
   ·exact h1
   ·rw [cond_true];omega
  ·unfold m8;rw [mG a5];cases ((decide (x.To=n)&&decide (em l x.From=em l n))&&decide (x.Low≤em l n))&&decide (em l n≤x.High)
   ·rw [cond_false];omega
   ·rw [cond_true];omega
 | @cons_cons A B x hs ih=>
  intro hw hf hn s t h0 h1 h2;have hx:=hw x (List.mem_cons_self ..);have hfx:=hf x (List.mem_cons_self ..);rw [List.length_cons] at h2;rw [List.foldl_cons,List.foldl_cons]
  have key:∃a b:Int,m8 l' n s x=a∧m8 l n t x=b∧0≤a∧a≤b∧b≤t+1073741824:=by
   unfold m8;rw [mG a5,mG a5,e]
   cases h3:(((decide (x.To=n))&&(decide (em l' x.From=em l n)))&&(decide (x.Low≤em l n)))&&(decide (em l n≤x.High))
   ·cases (((decide (x.To=n))&&(decide (em l x.From=em l n)))&&(decide (x.Low≤em l n)))&&(decide (em l n≤x.High))
    ·exact ⟨s,t,rfl,rfl,by omega,by omega,by omega⟩
    ·exact ⟨s,t+x.Weight,rfl,rfl,by omega,by omega,by omega⟩
   ·have h4:=of_decide_eq_true (fk (eN (eN h3)));rw [decide_eq_true h4] at h3;rw [decide_eq_true (hfx h4 hn),h3];exact ⟨s+x.Weight,t+x.Weight,rfl,rfl,by omega,by omega,by omega⟩
  obtain ⟨a,b,ha,hb,k1,k2,k3⟩:=key;rw [ha,hb];exact ih (fun y hy=>hw y (List.mem_cons_of_mem _ hy)) (fun y hy=>hf y (List.mem_cons_of_mem _ hy)) hn a b k1 k2 a5
theorem zgZ (p:GProblem)(c:GCap)(l:List GChoice)(h:2≤c.Low):lL p c l=((jV (em l c.Station) c.Low c.High)&&decide (c.Max<p.Rules.Loads.foldl (m8 l c.Station) 0)):=by
 unfold lL jV;rw [zlP,zoh];by_cases h0:c.Low≤em l c.Station
 ·rw [decide_eq_true h0,decide_eq_true (show ¬em l c.Station=0 by omega)];rfl
 ·rw [decide_eq_false h0];simp
theorem zgi (c:GPair)(l:List GChoice):lP c l=true↔em l c.A≠0∧em l c.B≠0∧c.Low≤em l c.A∧em l c.A≤c.High∧em l c.B=wI (em l c.A+c.Offset):=by
 unfold lP;rw [zlP,zlP];simp only [Bool.and_eq_true,decide_eq_true_eq,and_assoc,ne_eq]
structure FineP7 (p:GProblem) (l:List GChoice) (all:Bool):Prop where
 dm:∀d∈p.Domains,(((decide (em l d.Station=0))&&all)||((decide (¬em l d.Station=0))&&(!dT d.Channels (em l d.Station))))=false
 fo:∀x∈l,dG p x.Station=true
 pr:∀c∈p.Rules.Pairs,lP c l=false
 cp:∀c∈p.Rules.Caps,lL p c l=false
theorem zlO {l l':List GChoice}{c:GPair}(h:lP c l=false)(hA:em l' c.A≠0→em l' c.A=em l c.A)(hB:em l' c.B≠0→em l' c.B=em l c.B):lP c l'=false:=by
 cases h1:lP c l'
 ·rfl
 ·exfalso;obtain ⟨a,b,x⟩:=(zgi c l').1 h1;rw [hA a,hB b] at x;rw [hA a] at a;rw [hB b] at b;rw [(zgi c l).2 ⟨a,b,x⟩] at h
  cases h
theorem znK {p p':GProblem}{l l':List GChoice}{c c':GCap}(h:lL p c l=false)(hs:p'.Rules.Loads.Sublist p.Rules.Loads)(hg:RulesGood p.Rules)(h2:2≤c.Low)(eS:c'.Station=c.Station)(eL:c'.Low=c.Low)(eH:c'.High=c.High)(hM:c.Max≤c'.Max)(hN:∀n,em l' n≠0→em l' n=em l n):lL p' c' l'=false:=by
 cases h1:lL p' c' l'
 ·rfl
 ·exfalso;rw [zgZ _ _ _ a5] at h1;have hb:=zn9 (eN h1);have hm:=of_decide_eq_true (fk h1);rw [eS,eL,eH] at hb;have e:=hN c.Station a5;rw [zgZ _ _ _ h2,←e] at h;have hw:=hg.nl
  have:=(zk8 (l:=l) (l':=l') (n:=c.Station) e hs (fun x hx=>by
   have:=eN (hg.l x hx);have:=zn9 (fk (eN (hg.l x hx)))
   exact this) (fun x hx h3 h4=>by rw [←hN x.From a5];exact h3) a5 0 0 a5 a5 a5).2
  rw [eS] at hm;rw [show jV (em l' c.Station) c.Low c.High=true from jm (decide_eq_true hb.1) (decide_eq_true hb.2),decide_eq_true a5] at h
  cases h
theorem zkc {c:GCap}(h:zbk c=true):2≤c.Low:=(zpZ (fk h)).1
theorem zmL {p:GProblem}{l:List GChoice}{st:List Int}(hp:nt p=true)(h:FineP7 p l true):FineP7 (gZ p st) (zfp l st) true:=by
 have hg:=(zi8 hp).2.1.g
 have hN:∀n,em (zfp l st) n≠0→em (zfp l st) n=em l n:=fun n hn=>by
  rw [zgy,zdM (fq st)] at hn ⊢
  cases h1:fq st n
  ·rw [h1] at hn;exact absurd rfl hn
  ·rfl
 rw [zeS];refine ⟨fun d hd=>?_,fun x hx=>?_,fun c hc=>?_,fun c hc=>?_⟩
 ·obtain ⟨a,b⟩:=List.mem_filter.1 hd;rw [zgy,zdM (fq st),b];exact h.dm d a
 ·rw [zgy] at hx;obtain ⟨a,b⟩:=List.mem_filter.1 hx;obtain ⟨d,hd,e⟩:=List.any_eq_true.1 (h.fo x a);exact List.any_eq_true.2 ⟨d,List.mem_filter.2 ⟨hd,by rw [of_decide_eq_true e];exact b⟩,e⟩
 ·exact zlO (h.pr c (List.mem_filter.1 hc).1) (hN _) (hN _)
 ·have hc:=(List.mem_filter.1 hc).1;exact znK (h.cp c hc) List.filter_sublist hg (zkc (hg.c c hc)) rfl rfl rfl (Int.le_refl _) hN
theorem zeN {n:Nat}{f:Nat→(Int×Int→GViolation)→Int×Int→GViolation}{K:Int×Int→GViolation}{q:Nat→Bool}{c:Int}(hc:c≠0)(hf:∀i next s,i<n→f i next s=bif q i then ⟨c,(i:Int)⟩ else next s)(s:Int×Int):((c8 f K n 0 s).Kind=0→(∀i,i<n→q i=false)∧(K s).Kind=0)∧((∀ i,i<n→q i=false)→c8 f K n 0 s=K s):=by
 have key:∀m i,i+m=n→((c8 f K m i s).Kind=0→(∀j,i≤j→j<n→q j=false)∧(K s).Kind=0)∧((∀ j,i≤j→j<n→q j=false)→c8 f K m i s=K s):=by
  intro m
  induction m with
  |zero=>intro i e;exact ⟨fun h=>⟨fun j h1 h2=>by omega,h⟩,fun _=>rfl⟩
  |succ m ih=>
   intro i e;obtain ⟨a,b⟩:=ih (i+1) a5;have e2:c8 f K (m+1) i s=bif q i then ⟨c,(i:Int)⟩ else c8 f K m (i+1) s:=hf i _ s a5;rw [e2]
   cases h:q i
   ·rw [cond_false];refine ⟨fun h1=>⟨fun j h2 h3=>?_,(a h1).2⟩,fun h1=>b fun j h2 h3=>h1 j a5 h3⟩;rcases Nat.eq_or_lt_of_le h2 with rfl|h4
    ·exact h
    ·exact (a h1).1 j h4 h3
   ·rw [cond_true];refine ⟨fun h1=>absurd h1 hc,fun h1=>?_⟩;have:=h1 i (Nat.le_refl _) a5;rw [h] at this;cases this
 obtain ⟨a,b⟩:=key n 0 a5;exact ⟨fun h=>⟨fun i hi=>(a h).1 i (Nat.zero_le _) hi,(a h).2⟩,fun h=>b fun j _ hj=>h j hj⟩
theorem ziw {α:Type}[Inhabited α]{l:List α}{P:α→Prop}(h:∀i,i<l.length - 0→P (cK l i)):∀x∈l,P x:=fun x hx=>by
 obtain ⟨i,hi,e⟩:=List.mem_iff_getElem.1 hx;rw [←e,←dQ hi];exact h i a5
theorem kQ {p:GProblem}{l:List GChoice}{all:Bool}:((ml p l all).Kind=0→FineP7 p l all)∧(FineP7 p l all→ml p l all=⟨0,0⟩):=by
 have e:ml p l all=c8 (fun (i:Nat) (next:(Int×Int)→GViolation) (s:Int×Int)=>bif (((decide (em l (cK p.Domains i).Station=0))&&all)||((decide (¬em l (cK p.Domains i).Station=0))&&(!dT (cK p.Domains i).Channels (em l (cK p.Domains i).Station)))) then ⟨1,(i:Int)⟩ else next s) (fun s=>c8 (fun (i:Nat) (next:(Int×Int)→GViolation) (s:Int×Int)=>bif !dG p (cK l i).Station then ⟨2,(i:Int)⟩ else next s) (fun s=>c8 (fun (i:Nat) (next:(Int×Int)→GViolation) (s:Int×Int)=>bif lP (cK p.Rules.Pairs i) l then ⟨3,(i:Int)⟩ else next s) (fun s=>c8 (fun (i:Nat) (next:(Int×Int)→GViolation) (s:Int×Int)=>bif lL p (cK p.Rules.Caps i) l then ⟨4,(i:Int)⟩ else next s) (fun s=>⟨0,0⟩) (p.Rules.Caps.length - 0) 0 s) (p.Rules.Pairs.length - 0) 0 s) (l.length - 0) 0 s) (p.Domains.length - 0) 0 (0,0):=by
  unfold ml;simp only [dJ,zlP,zel]
 rw [e];have a1:=fun K=>zeN (n:=p.Domains.length - 0) (K:=K) (q:=fun i=>(((decide (em l (cK p.Domains i).Station=0))&&all)||((decide (¬em l (cK p.Domains i).Station=0))&&(!dT (cK p.Domains i).Channels (em l (cK p.Domains i).Station))))) (c:=1) a6 (fun i next s hi=>rfl) (0,0);have a2:=fun K s=>zeN (n:=l.length - 0) (K:=K) (q:=fun i=> !dG p (cK l i).Station) (c:=2) a6 (fun i next s hi=>rfl) s;have a3:=fun K s=>zeN (n:=p.Rules.Pairs.length - 0) (K:=K) (q:=fun i=>lP (cK p.Rules.Pairs i) l) (c:=3) a6 (fun i next s hi=>rfl) s;have a4:=fun K s=>zeN (n:=p.Rules.Caps.length - 0) (K:=K) (q:=fun i=>lL p (cK p.Rules.Caps i) l) (c:=4) a6 (fun i next s hi=>rfl) s;refine ⟨fun h=>?_,fun h=>?_⟩
 ·obtain ⟨h1,h⟩:=(a1 _).1 h;obtain ⟨h2,h⟩:=(a2 _ _).1 h;obtain ⟨h3,h⟩:=(a3 _ _).1 h;obtain ⟨h4,h⟩:=(a4 _ _).1 h;exact ⟨ziw (P:=fun d:GDomain=>(((decide (em l d.Station=0))&&all)||((decide (¬em l d.Station=0))&&(!dT d.Channels (em l d.Station))))=false) h1,ziw (P:=fun x:GChoice=>dG p x.Station=true) fun i hi=>by have:=h2 i hi;rwa [Bool.not_eq_false'] at this,ziw (P:=fun c=>lP c l=false) h3,ziw (P:=fun c=>lL p c l=false) h4⟩
 ·rw [(a1 _).2 fun i hi=>h.dm _ (nj a5)];rw [(a2 _ _).2 fun i hi=>by rw [h.fo _ (nj a5)];rfl];rw [(a3 _ _).2 fun i hi=>h.pr _ (nj a5)];rw [(a4 _ _).2 fun i hi=>h.cp _ (nj a5)]
section
variable {P:Program}{n:Nat}{B D:World}{M:Nat→Prop}{fs:dY}{hs:HS}{o:Oper}{v:Value}
theorem K.slNil {Q:Exit→Act→World→Prop}{e:Exit}(t:TypeId)(size:Nat)(h:K n B D M Q e fs (.sl (.slice none 0 0) t size 0 [] :: hs)):K n B D M Q e fs hs:=⟨fun a w ha hw hm=>h.out a w ha (hw.slNil t size) hm⟩
def zpQ (v:Value):Prop:=∃A m c,v= .slice (some A) m c
def NilI {α:Type}(v:Value)(l:List α):Prop:=(l=[]∧v= .slice none 0 0)∨(l≠[]∧zpQ v)
theorem NilI.nil {α:Type}:NilI (.slice none 0 0) ([]:List α):= .inl ⟨rfl,rfl⟩
end
structure Gfault where
 first:Int
deriving DecidableEq,Inhabited
abbrev lS (x:Gfault):List Value:=[.int .i64 x.first]
theorem Gfault.len (x:Gfault):(lS x).length=1:=rfl
structure GWriter where
 fault:Gfault
 out:List Int
deriving DecidableEq,Inhabited
def eB (F:Frz)(c:List Value)(x:GWriter):Prop:=∃(v1:Value),c=[.int .i64 x.fault.first,v1]∧SlC F v1 1 (x.out.map (eK .u8))
theorem GWriter.mono {F G:Frz}{c:List Value}{x:GWriter}(hle:F.Le G)(h:eB F c x):eB G c x:=by
 obtain ⟨v1,h0,h2⟩:=h;exact ⟨v1,h0,h2.mono hle⟩
theorem GWriter.len {F:Frz}{c:List Value}{x:GWriter}(h:eB F c x):c.length=2:=by
 obtain ⟨v1,h0,h2⟩:=h;subst h0;rfl
theorem GWriter.one {F:Frz}{c:List Value}{x:GWriter}(h:eB F c x):OneCs c:=by
 obtain ⟨v1,h0,h2⟩:=h;subst h0;haveI:=h2.oneC
 infer_instance
theorem GWriter.c0 {F:Frz}{c:List Value}{x:GWriter}(h:eB F c x):c[0]?=some (.int .i64 x.fault.first):=by
 obtain ⟨v1,h0,h2⟩:=h;subst h0;rfl
theorem GWriter.c1 {F:Frz}{c:List Value}{x:GWriter}(h:eB F c x):c[1]?=some (cK c 1)∧SlC F (cK c 1) 1 (x.out.map (eK .u8)):=by
 obtain ⟨v1,h0,h2⟩:=h;subst h0;exact ⟨rfl,h2⟩
theorem GWriter.form {F:Frz}{c:List Value}{x:GWriter}(h:eB F c x):(c.drop 0).take 2=[.int .i64 x.fault.first,cK c 1]:=by
 obtain ⟨v1,h0,h2⟩:=h;subst h0;rfl
def zd5 (fuel:Nat)(l0_:List Int)(n:BitVec 64):Option (List Int):=
 dJ (fun (s3:List Int×BitVec 64)=>
  ey (dn (s3.1++[(IntKind.u8.wrap (s3.2.toNat:Int))]).length 1) <|
  some (s3.1++[(IntKind.u8.wrap (s3.2.toNat:Int))]))
 (fun k3=>
  jP (fun (next6:(List Int×BitVec 64)→Option (List Int)) (s6:List Int×BitVec 64)=>
   (bif decide (((127#64).toNat:Int)<(s6.2.toNat:Int)) then
    ey (dn (s6.1++[(orK .u8 (IntKind.u8.wrap (s6.2.toNat:Int)) 128)]).length 1) <|
    next6 ((s6.1++[(orK .u8 (IntKind.u8.wrap (s6.2.toNat:Int)) 128)]),(s6.2 >>> 7))
    else
    k3 (s6.1,s6.2))) fuel (l0_,n))
theorem zis (F0:Frz)(w:World)(hF0:F0.At w)(l0_:List Int)(v0_:Value)(n:BitVec 64)(hO:Hp w (dF [.sl v0_ 5 1 l0_.length (l0_.flatMap (eK .u8))]) [.sl v0_ 5 1 l0_.length (l0_.flatMap (eK .u8))] w)(hA:∀g,dF [.sl v0_ 5 1 l0_.length (l0_.flatMap (eK .u8))] g→¬F0.S g)(fuel:Nat)(r:List Int)(hr:zd5 fuel l0_ n=some r):Calls Tryz.prog 102 #[v0_,U n] w fun e w'=>∃(y:Value),(True)∧e= .returned (y)∧FxM F0 w (dF [.sl v0_ 5 1 l0_.length (l0_.flatMap (eK .u8))]) F0 [.sl y 5 1 r.length (r.flatMap (eK .u8))] w':=by
 have hk:=hr;unfold zd5 at hk;haveI:=lA (hO.own (.sl v0_ 5 1 l0_.length (l0_.flatMap (eK .u8))) a8);have hmx0_:=lz (hO.own (.sl v0_ 5 1 l0_.length (l0_.flatMap (eK .u8))) a8);obtain ⟨S0,F1,rfl,hS0,hp0⟩:=lV hF0 hO hA;refine dv (hs:=[.sl v0_ 5 1 l0_.length (l0_.flatMap (eK .u8)), .fr F1]) Tryz.func102 rfl rfl rfl hp0 ?_;refine gu ?_;refine TL.slNil 5 1 ?_;refine ly ?_;have hq:=ek hk;clear hk;obtain ⟨k3,hk3,hk⟩:=hq; (try dsimp only at hk);refine da (ι:=List Int×Value×BitVec 64) (fun z=>[(0,z.2.1),(1,U z.2.2)]) (fun z=>[.sl z.2.1 5 1 z.1.length (z.1.flatMap (eK .u8)), .fr F1]) (fun z=>k3 (z.1,z.2.2)=some r∧OneC z.2.1) ?_ ?_
 ·have hq:=zd0 hk;clear hk;obtain ⟨f6,hf6,hk⟩:=hq;refine fj ?_;refine T.pick [1,2] rfl a6 ?_;refine T.loop (ι:=Nat×List Int×Value×BitVec 64) (fun z=>[(0,z.2.2.1),(1,U z.2.2.2)]) (fun z=>[.sl z.2.2.1 5 1 z.2.1.length (z.2.1.flatMap (eK .u8)), .fr F1]) (fun z=>jP f6 z.1 (z.2.1,z.2.2.2)=some r∧OneC z.2.2.1) (fun z=>z.1) (fuel,l0_,v0_,n) ?_ ?_ ?_ ?_
  ·exact q4B
  ·exact q4x
  ·exact eW
  ·rintro ⟨m_7,out_4,vout_4,n_5⟩ ⟨hk,oout_4⟩; (try dsimp only at *);have hq:=zeW hk;clear hk;obtain ⟨m_7',rfl,hk⟩:=hq;generalize hn6:jP f6 m_7'=next6 at hk;rw [←hf6] at hk; (try dsimp only at hk);refine lE ?_;refine jB ?_;refine T.cond rfl (fun h8=>?_) (fun h8=>?_)
   ·replace hk:=dt hk h8;refine T.skip (K.seq (T.block (T.seq ?_)));have hq:(dn (out_4++[(orK .u8 (IntKind.u8.wrap (n_5.toNat:Int)) 128)]).length 1)∧_:=gg hk;clear hk;obtain ⟨g12,hk⟩:=hq; (try dsimp only at hk);refine ji ?_;refine cM (nQ (z:=(n_5.toNat:Int)) rfl rfl) ?_;refine cM (Yv.orK (a:=(IntKind.u8.wrap (n_5.toNat:Int))) (b:=128) rfl rfl rfl) ?_;refine jW ?_;rintro _ _ ⟨g11,rfl,rfl⟩;refine cW (fM 1 0 rfl rfl rfl rfl rfl rfl (kS (ys:=[(orK .u8 (IntKind.u8.wrap (n_5.toNat:Int)) 128)])) (ni (enc:=(eK .u8)) (xs:=out_4) (ys:=[(orK .u8 (IntKind.u8.wrap (n_5.toNat:Int)) 128)])) g12 a6) ?_;rintro v12 _ ⟨hv12,rfl⟩;refine df ?_;refine db (T.region ?_);refine df ?_;refine cM (gn (a:=n_5) 7 rfl rfl rfl (show (7:Int)=((7:Nat):Int) from rfl) a5) ?_;refine df ?_;refine TL.nil (gB ?_);rw [←hn6] at hk;refine K.pick [1,2] rfl a6 ?_;exact K.next (m_7',(out_4++[(orK .u8 (IntKind.u8.wrap (n_5.toNat:Int)) 128)]),v12,(n_5 >>> 7)) ⟨hk,inferInstance⟩ a9 (.c (.c .nil)) (List.Sublist.refl _)
   ·replace hk:=dr hk h8;refine eE ?_;exact cS (out_4,vout_4,n_5) ⟨hk,inferInstance⟩ (.c (.c .nil)) (List.Sublist.refl _)
 ·rintro ⟨out_1,vout_1,n_2⟩ ⟨hk,oout_1⟩; (try dsimp only at *);rw [←hk3] at hk; (try dsimp only at hk);refine T.seq ?_;have hq:(dn (out_1++[(IntKind.u8.wrap (n_2.toNat:Int))]).length 1)∧_:=gg hk;clear hk;obtain ⟨g19,hk⟩:=hq; (try dsimp only at hk);refine ji ?_;refine cM (nQ (z:=(n_2.toNat:Int)) rfl rfl) ?_;refine jW ?_;rintro _ _ ⟨g18,rfl,rfl⟩;refine cW (fM 1 0 rfl rfl rfl rfl rfl rfl (kS (ys:=[(IntKind.u8.wrap (n_2.toNat:Int))])) (ni (enc:=(eK .u8)) (xs:=out_1) (ys:=[(IntKind.u8.wrap (n_2.toNat:Int))])) g19 a6) ?_;rintro v19 _ ⟨hv19,rfl⟩;refine fO ?_;obtain rfl:=Option.some.inj hk;exact cZ rfl rfl (fun w' hw=>⟨v19,trivial,rfl,dy (hw.pick (idx:=[1,2]) rfl a6) hS0 (Frz.Le.refl _)⟩)
def zaX (x0_:GWriter):Bool:=
 (decide (x0_.fault.first=0))
theorem zcW (F0:Frz)(w:World)(hF0:F0.At w)(x0_:GWriter)(g0_:Nat)(v0_1:Value)(hO:Hp w (dF [.row g0_ 128 [.int .i64 x0_.fault.first,v0_1], .sl v0_1 5 1 x0_.out.length (x0_.out.flatMap (eK .u8))]) [.row g0_ 128 [.int .i64 x0_.fault.first,v0_1], .sl v0_1 5 1 x0_.out.length (x0_.out.flatMap (eK .u8))] w)(hA:∀g,dF [.row g0_ 128 [.int .i64 x0_.fault.first,v0_1], .sl v0_1 5 1 x0_.out.length (x0_.out.flatMap (eK .u8))] g→¬F0.S g):Calls Tryz.prog 99 #[.pointer (some ⟨g0_,0,none⟩)] w fun e w'=>∃(y:Unit),(True)∧e= .returned (.bool (zaX x0_))∧FxM F0 w (dF [.row g0_ 128 [.int .i64 x0_.fault.first,v0_1], .sl v0_1 5 1 x0_.out.length (x0_.out.flatMap (eK .u8))]) F0 [.row g0_ 128 [.int .i64 x0_.fault.first,v0_1], .sl v0_1 5 1 x0_.out.length (x0_.out.flatMap (eK .u8))] w':=by
 obtain ⟨r,hk⟩:∃r,zaX x0_=r:=⟨_,rfl⟩;rw [hk];unfold zaX at hk;haveI:=lA (hO.own (.sl v0_1 5 1 x0_.out.length (x0_.out.flatMap (eK .u8))) a8);have hmx0_1:=lz (hO.own (.sl v0_1 5 1 x0_.out.length (x0_.out.flatMap (eK .u8))) a8);obtain ⟨S0,F1,rfl,hS0,hp0⟩:=lV hF0 hO hA;refine dv (hs:=[.row g0_ 128 [.int .i64 x0_.fault.first,v0_1], .sl v0_1 5 1 x0_.out.length (x0_.out.flatMap (eK .u8)), .fr F1]) Tryz.func99 rfl rfl rfl hp0 ?_;refine fh ?_;refine da (ι:=Unit) (fun z=>[(2, .bool (decide (x0_.fault.first=0)))]) (fun z=>[.row g0_ 128 [.int .i64 x0_.fault.first,v0_1], .sl v0_1 5 1 x0_.out.length (x0_.out.flatMap (eK .u8)), .fr F1]) (fun z=>True) ?_ ?_
 ·refine iV ?_;refine cM (Yv.co (e:=128) a7 rfl rfl rfl) ?_;refine eR ?_;refine fC ?_;refine ei ?_;refine eR ?_;refine ff ?_;exact cS () trivial (.c .nil) (List.Sublist.refl _)
 ·refine mS ?_;subst hk;exact q4U
def zbf (x0_:GWriter)(l1_:List Int):Option (List Int):=
 (bif decide (65536<(l1_.length:Int)) then
  none
  else
  some l1_)
theorem zcK (F0:Frz)(w:World)(hF0:F0.At w)(x0_:GWriter)(g0_:Nat)(v0_1:Value)[iv0_1:OneC v0_1](l1_:List Int)(v1_:Value)(hO:Hp w (dF [.row g0_ 128 [.int .i64 x0_.fault.first,v0_1], .sl v1_ 5 1 l1_.length (l1_.flatMap (eK .u8))]) [.row g0_ 128 [.int .i64 x0_.fault.first,v0_1], .sl v1_ 5 1 l1_.length (l1_.flatMap (eK .u8))] w)(hA:∀g,dF [.row g0_ 128 [.int .i64 x0_.fault.first,v0_1], .sl v1_ 5 1 l1_.length (l1_.flatMap (eK .u8))] g→¬F0.S g)(r:List Int)(hr:zbf x0_ l1_=some r):Calls Tryz.prog 101 #[.pointer (some ⟨g0_,0,none⟩),v1_] w fun e w'=>∃(y:Value),(True)∧e= .returned (.tuple #[])∧FxM F0 w (dF [.row g0_ 128 [.int .i64 x0_.fault.first,v0_1], .sl v1_ 5 1 l1_.length (l1_.flatMap (eK .u8))]) F0 [.row g0_ 128 [.int .i64 x0_.fault.first,y], .sl y 5 1 r.length (r.flatMap (eK .u8))] w':=by
 have hk:=hr;unfold zbf at hk;haveI:=lA (hO.own (.sl v1_ 5 1 l1_.length (l1_.flatMap (eK .u8))) a8);have hmx1_:=lz (hO.own (.sl v1_ 5 1 l1_.length (l1_.flatMap (eK .u8))) a8);obtain ⟨S0,F1,rfl,hS0,hp0⟩:=lV hF0 hO hA;refine dv (hs:=[.row g0_ 128 [.int .i64 x0_.fault.first,v0_1], .sl v1_ 5 1 l1_.length (l1_.flatMap (eK .u8)), .fr F1]) Tryz.func101 rfl rfl rfl hp0 ?_;refine kO ?_;refine cM (l6 1 rfl rfl rfl) ?_;refine dB ?_;refine T.cond rfl (fun h1=>?_) (fun h1=>?_)
 ·have p1:=of_decide_eq_true h1;replace hk:=dt hk h1;refine T.seq ?_;cases hk
 ·have p1:=of_decide_eq_false h1;replace hk:=dr hk h1;refine T.skip (K.seq (T.region ?_));refine eR ?_;refine fC ?_;refine eD (eJ 0 rfl rfl rfl rfl a8) ?_;refine eX ?_;refine ff ?_;obtain rfl:=Option.some.inj hk;exact mB rfl (fun w' hw=>⟨v1_,trivial,rfl,dy (hw.pick (idx:=[0,1,2]) rfl a6) hS0 (Frz.Le.refl _)⟩)
def zay (fuel:Nat)(x0_:GWriter)(n:Int):Option (List Int):=
 (bif !(zaX x0_) then
  some x0_.out
  else
  (bif decide (n<0) then
   none
   else
   (zd5 fuel x0_.out (BitVec.ofInt 64 n)).bind fun r20=>
   (zbf x0_ r20).bind fun r21=>
   some r21))
theorem zaJ (F0:Frz)(w:World)(hF0:F0.At w)(x0_:GWriter)(g0_:Nat)(v0_1:Value)(n:Int)(hO:Hp w (dF [.row g0_ 128 [.int .i64 x0_.fault.first,v0_1], .sl v0_1 5 1 x0_.out.length (x0_.out.flatMap (eK .u8))]) [.row g0_ 128 [.int .i64 x0_.fault.first,v0_1], .sl v0_1 5 1 x0_.out.length (x0_.out.flatMap (eK .u8))] w)(hA:∀g,dF [.row g0_ 128 [.int .i64 x0_.fault.first,v0_1], .sl v0_1 5 1 x0_.out.length (x0_.out.flatMap (eK .u8))] g→¬F0.S g)(fuel:Nat)(r:List Int)(hr:zay fuel x0_ n=some r):Calls Tryz.prog 68 #[.pointer (some ⟨g0_,0,none⟩), .int .i64 n] w fun e w'=>∃(y:Value),(True)∧e= .returned (.tuple #[])∧FxM F0 w (dF [.row g0_ 128 [.int .i64 x0_.fault.first,v0_1], .sl v0_1 5 1 x0_.out.length (x0_.out.flatMap (eK .u8))]) F0 [.row g0_ 128 [.int .i64 x0_.fault.first,y], .sl y 5 1 r.length (r.flatMap (eK .u8))] w':=by
 have hk:=hr;unfold zay at hk;haveI:=lA (hO.own (.sl v0_1 5 1 x0_.out.length (x0_.out.flatMap (eK .u8))) a8);have hmx0_1:=lz (hO.own (.sl v0_1 5 1 x0_.out.length (x0_.out.flatMap (eK .u8))) a8);obtain ⟨S0,F1,rfl,hS0,hp0⟩:=lV hF0 hO hA;refine dv (hs:=[.row g0_ 128 [.int .i64 x0_.fault.first,v0_1], .sl v0_1 5 1 x0_.out.length (x0_.out.flatMap (eK .u8)), .fr F1]) Tryz.func68 rfl rfl rfl hp0 ?_;refine kO ?_;refine cW (fA [0,1,2] [.row g0_ 128 [.int .i64 x0_.fault.first,v0_1], .sl v0_1 5 1 x0_.out.length (x0_.out.flatMap (eK .u8))] [] rfl rfl rfl rfl a6 (fun w hw hw2 hF=>zcW _ w hF x0_ g0_ v0_1 hw2.takes.1 hw2.takes.2)) ?_;rintro _ _ ⟨⟨⟩, -,rfl,rfl⟩;refine fX ?_;refine dB ?_;refine T.cond rfl (fun h1=>?_) (fun h1=>?_)
 ·replace hk:=dt hk h1;refine T.ret (d6 ?_);obtain rfl:=Option.some.inj hk;exact K.bS rfl (fun w' hw=>⟨v0_1,trivial,rfl,dy (hw.pick (idx:=[0,1,2]) rfl a6) hS0 (Frz.Le.refl _)⟩)
 ·replace hk:=dr hk h1;refine ka ?_;refine jB ?_;refine T.cond rfl (fun h2=>?_) (fun h2=>?_)
  ·have p2:=of_decide_eq_true h2;replace hk:=dt hk h2;refine T.seq ?_;cases hk
  ·have p2:=of_decide_eq_false h2;replace hk:=dr hk h2;refine mP ?_;have hq:=ee hk;clear hk;obtain ⟨r20,hr20,hk⟩:=hq;have hq:=ee hk;clear hk;obtain ⟨r21,hr21,hk⟩:=hq; (try dsimp only at hk);refine m7 ?_;refine q4e ?_;refine cM (Yv.bW (z:=n) rfl rfl) ?_;refine cW (fA [1,2,0] [.sl v0_1 5 1 x0_.out.length (x0_.out.flatMap (eK .u8))] [.row g0_ 128 [.int .i64 x0_.fault.first,v0_1]] rfl rfl rfl rfl a6 (fun w hw hw2 hF=>zis _ w hF x0_.out v0_1 (BitVec.ofInt 64 n) hw2.takes.1 hw2.takes.2 fuel r20 hr20)) ?_;rintro v20_0_0 _ ⟨_, -,rfl,rfl⟩;refine fX ?_;refine gb 0 rfl ?_;intro iv20_0_0 hmv20_0_0;refine cW (fA [2,0,1] [.row g0_ 128 [.int .i64 x0_.fault.first,v0_1], .sl v20_0_0 5 1 r20.length (r20.flatMap (eK .u8))] [] rfl rfl rfl rfl a6 (fun w hw hw2 hF=>zcK _ w hF x0_ g0_ v0_1 r20 v20_0_0 hw2.takes.1 hw2.takes.2 r21 hr21)) ?_;rintro _ _ ⟨v21_0_1, -,rfl,rfl⟩;refine q37 ?_;intro iv21_0_1 hmv21_0_1;refine ff ?_;obtain rfl:=Option.some.inj hk;exact mB rfl (fun w' hw=>⟨v21_0_1,trivial,rfl,dy (hw.pick (idx:=[0,1,2]) rfl a6) hS0 (Frz.Le.refl _)⟩)
def zbw (x0_:GWriter):Option (List Int×Int):=
 (bif decide (¬x0_.fault.first=0) then
  some ([],x0_.fault.first)
  else
  ey (dn ([]++x0_.out).length 1) <|
  some (([]++x0_.out),0))
theorem zda (F0:Frz)(w:World)(hF0:F0.At w)(x0_:GWriter)(g0_:Nat)(v0_1:Value)(hO:Hp w (dF [.row g0_ 128 [.int .i64 x0_.fault.first,v0_1], .sl v0_1 5 1 x0_.out.length (x0_.out.flatMap (eK .u8))]) [.row g0_ 128 [.int .i64 x0_.fault.first,v0_1], .sl v0_1 5 1 x0_.out.length (x0_.out.flatMap (eK .u8))] w)(hA:∀g,dF [.row g0_ 128 [.int .i64 x0_.fault.first,v0_1], .sl v0_1 5 1 x0_.out.length (x0_.out.flatMap (eK .u8))] g→¬F0.S g)(r:List Int×Int)(hr:zbw x0_=some r):Calls Tryz.prog 69 #[.pointer (some ⟨g0_,0,none⟩)] w fun e w'=>∃(y:Value),(True)∧e= .returned (.tuple #[y, .int .i64 r.2])∧FxM F0 w (dF [.row g0_ 128 [.int .i64 x0_.fault.first,v0_1], .sl v0_1 5 1 x0_.out.length (x0_.out.flatMap (eK .u8))]) F0 [.row g0_ 128 [.int .i64 x0_.fault.first,v0_1], .sl v0_1 5 1 x0_.out.length (x0_.out.flatMap (eK .u8)), .sl y 5 1 r.1.length (r.1.flatMap (eK .u8))] w':=by
 have hk:=hr;unfold zbw at hk;haveI:=lA (hO.own (.sl v0_1 5 1 x0_.out.length (x0_.out.flatMap (eK .u8))) a8);have hmx0_1:=lz (hO.own (.sl v0_1 5 1 x0_.out.length (x0_.out.flatMap (eK .u8))) a8);obtain ⟨S0,F1,rfl,hS0,hp0⟩:=lV hF0 hO hA;refine dv (hs:=[.row g0_ 128 [.int .i64 x0_.fault.first,v0_1], .sl v0_1 5 1 x0_.out.length (x0_.out.flatMap (eK .u8)), .fr F1]) Tryz.func69 rfl rfl rfl hp0 ?_;refine gu ?_;refine TL.slNil 5 1 ?_;refine no ?_;refine cM (nw (e:=128) a7 rfl rfl rfl) ?_;refine nH ?_;refine ka ?_;refine eg ?_;refine fC ?_;refine jZ ?_;refine dB ?_;refine T.cond rfl (fun h1=>?_) (fun h1=>?_)
 ·have p1:=of_decide_eq_true h1;replace hk:=dt hk h1;refine T.seq ?_;refine dM (sN 0 6 (.still 6 .done)) _ a7 (List.Sublist.refl _) ?_;refine jT ?_;refine q11 ?_;refine TS.slNil 5 1 ?_;refine q1d ?_;refine K.seq (T.ret (d6 ?_));obtain rfl:=Option.some.inj hk;exact eP rfl rfl rfl (fun w' hw=>⟨(.slice none 0 0),trivial,rfl,dy (hw.pick (idx:=[2,3,0,4]) rfl a6) hS0 (Frz.Le.refl _)⟩)
 ·have p1:=of_decide_eq_false h1;replace hk:=dr hk h1;refine jM ?_;have hq:(dn ([]++x0_.out).length 1)∧_:=gg hk;clear hk;obtain ⟨g21,hk⟩:=hq; (try dsimp only at hk);refine ji ?_;refine jZ ?_;refine TL.slNil 5 1 ?_;refine cW (Ew.bV 0 3 (znx (fun _=>inferInstance)) rfl rfl rfl rfl rfl (znv ([]:List Int) x0_.out) (zmm (enc:=(eK .u8)) ([]:List Int) x0_.out) g21 a6) ?_;rintro v21 _ ⟨hv21,rfl⟩;refine kv ?_;obtain rfl:=Option.some.inj hk;exact eP rfl rfl rfl (fun w' hw=>⟨v21,trivial,rfl,dy (hw.pick (idx:=[2,3,0,4]) rfl a6) hS0 (Frz.Le.refl _)⟩)
end Go.Proofs.YtogbggmckmnlfaaGreatDoor
namespace Go.Proofs.YtogbggmckmnlfaaGreatDoor
open Go.RowKit Go.Sort
section
variable {Fe:Fence}[hFe:Calm Fe]{P:Program}{n:Nat}{B D w:World}{M S0:Nat→Prop}{Q:Exit→Act→World→Prop}{fs:dY}{hs:HS}{ops:Array Oper}
theorem Hp.litO {j g k m size:Nat}{t:TypeId}{l l2:List Value}(hw:Hp B M hs w)(hj:hs[j]?=some (.row g t l))(he:l2=l)(hk:k=m)(hl:l.length=m*size)(hn:m≤1000):Hp B M (hs.set j (.sl (.slice (some ⟨g,0,none⟩) m m) t size k l2)) w:=by
 subst he;subst hk;have hr:=c4.1 (hw.get hj);refine hw.updAt (S:=fun _=>False) hj (Only.refl _ _) (fun _ _ h=>h.elim) (cX.2 ⟨hl, .inr ⟨g,k,_,rfl,Nat.zero_le _,hr,Nat.le_refl _,by unfold maxLen;omega,by simpa using hl,?_⟩⟩) (fun q hq=> .inl ?_)
 ·rw [←hl];simp
 ·have h1:=de.1 hq;simp only [Value.ownBlock,Option.some.injEq] at h1;exact cU.2 h1.symm
theorem TL.litO {r:List Oper}{g k m size:Nat}{t:TypeId}{l l2:List Value}(j:Nat)(hj:hs[j]?=some (.row g t l))(he:l2=l)(hk:k=m)(hl:l.length=m*size)(hn:m≤1000)(h:TL Fe P n B D M ops Q r fs (hs.set j (.sl (.slice (some ⟨g,0,none⟩) m m) t size k l2))):TL Fe P n B D M ops Q r fs hs:=
 kj (ι:=Unit) (φ:=fun _=>True) (hs':=fun _=>hs.set j (.sl (.slice (some ⟨g,0,none⟩) m m) t size k l2)) (fun w hw=>⟨(),trivial,hw.litO hj he hk hl hn⟩) (fun _ _=>h)
end
def zlR:Go.Shelf.Ren:=⟨fun|35=>49|n=>n,fun|0=>0|3=>3|4=>4|22=>31|23=>50|n=>n,fun|n=>n⟩
theorem zpK:Go.Proofs.SlLaysE.n35 Tryz.prog zlR:={
 mixed:=by kernel_rfl
 f35:=⟨Tryz.f49.name,by decide,Tryz.func49.trans (congrArg some a7)⟩
 t0:=Tryz.underlying0
 a0:=Tryz.isAgg0
 z0:=Tryz.sizeOf0
 v0:=Tryz.zeroValue0
 t3:=Tryz.underlying3
 a3:=Tryz.isAgg3
 z3:=Tryz.sizeOf3
 v3:=Tryz.zeroValue3
 t4:=Tryz.underlying4
 a4:=Tryz.isAgg4
 z4:=Tryz.sizeOf4
 v4:=Tryz.zeroValue4
 t22:=Tryz.underlying31
 a22:=Tryz.isAgg31
 z22:=Tryz.sizeOf31
 v22:=Tryz.zeroValue31
 a23:=Tryz.isAgg50
 z23:=Tryz.sizeOf50 }
abbrev lg:={ v:Value // v.oneCell'=true }
instance:Inhabited lg:=⟨⟨.int .i64 0,rfl⟩⟩
def i9 (x:lg):Value:=x.1
theorem zm7:OneCell i9:=fun x=>x.2
theorem mapV {l:List Value}(h:∀v∈l,v.oneCell'=true):∃zs:List lg,zs.map i9=l:=by
 induction l with
 |nil=>exact ⟨[],rfl⟩
 |cons v l ih=>
  obtain ⟨zs,hz⟩:=ih fun u hu=>h u (List.mem_cons_of_mem _ hu);exact ⟨⟨v,h v (List.mem_cons_self ..)⟩ :: zs,by rw [List.map_cons,hz];rfl⟩
theorem revE (blk off cap : Nat) (zs : List lg) (w : World) (hH : Holds i9 w blk off zs.toArray) (hsz : zs.length ≤ 9223372036854775807) :
    Calls Tryz.prog 49 #[.slice (some ⟨blk, off, none⟩) zs.length cap] w fun e w' => e = .returned (.tuple #[]) ∧ ∃ n, w' = putRow i9 (Sort.ahead w n) blk off zs.reverse.toArray := AnyE.slices_Reverse zpK i9 zm7 blk off cap zs w hH hsz
theorem revE0 (a : Option Addr) (cap : Nat) (w : World) :
    Calls Tryz.prog 49 #[.slice a 0 cap] w fun e w' => e = .returned (.tuple #[]) ∧ w' = w := AnyE.slices_Reverse_empty zpK a cap w
section
variable {w:World}{g n:Nat}{cur:Array Value}{e:TypeId}{zs:List lg}
theorem zpI (hb:w.heap[g]?=some (.cells cur e (0,0)))(ht:cur.toList.take zs.length=zs.map i9):Holds i9 w g 0 zs.toArray:=by
 intro j hj; (have hj':j<zs.length:=by simpa using hj);refine ⟨?_,by simp [World.frozen?,hb]⟩; (have h1:(cur.toList.take zs.length)[j]?=(zs.map i9)[j]?:=by rw [ht]);rw [List.getElem?_take_of_lt hj'] at h1;simp only [World.cell?,hb,Nat.zero_add];simp only [Option.isSome_none,Bool.false_eq_true,if_false];rw [←Array.getElem?_toList,h1];simp [hj']
theorem heapV (d:Array lg)(hb:w.heap[g]?=some (.cells cur e (0,0))):(putRow i9 (Sort.ahead w n) g 0 d).heap[g]?=some (.cells (putCells i9 0 d cur) e (0,0)):=by
 have hg:g<w.heap.size:=(Array.getElem?_eq_some_iff.1 hb).1;simp [putRow,mapBlock,Sort.ahead,Array.getElem?_modify,hb,onCells]
theorem onlyV (d:Array lg){v:Value}{size k:Nat}{l:List Value}(hv:v.ownBlock=some g):Only (Ent.sl v e size k l).fp w (putRow i9 (Sort.ahead w n) g 0 d):=by
 refine ⟨rfl,rfl,rfl,by simp [putRow,mapBlock,Sort.ahead],fun k hk hn=>?_⟩;have:g≠k:=fun q=>hn (de.2 (by rw [hv,q]));simp [putRow,mapBlock,Sort.ahead,Array.getElem?_modify,this]
theorem takeV (ts:List lg)(h:ts.length≤cur.size):(putCells i9 0 ts.toArray cur).toList.take ts.length=ts.map i9:=by
 apply List.ext_getElem?;intro j;by_cases hj:j<ts.length
 ·rw [List.getElem?_take_of_lt hj,Array.getElem?_toList];simp [putCells,hj,show j<cur.size by omega]
 ·rw [List.getElem?_take_eq_none a5,List.getElem?_eq_none cH]
end
theorem zoq {w:World}{v0:Value}{cells:List Value}(hc:∀v∈cells,v.oneCell'=true)(hk:(Ent.sl v0 50 1 cells.length cells).ok w):Calls Tryz.prog 49 #[v0] w fun e w'=>e= .returned (.tuple #[])∧Only (Ent.sl v0 50 1 cells.length cells).fp w w'∧(Ent.sl v0 50 1 cells.length cells.reverse).ok w':=by
 have ho:=cX.1 hk;obtain ⟨zs,rfl⟩:=mapV hc;rcases ho.2 with ⟨rfl,h0⟩|⟨g,cap,cur,rfl,hb,hg,h1,h2,h3,h4⟩
 ·rw [List.length_map] at h0;obtain rfl:=List.eq_nil_of_length_eq_zero h0;refine (revE0 none 0 w).mono ?_;rintro e w' ⟨rfl,rfl⟩;exact ⟨rfl,Only.refl _ _,hk⟩
 ·rw [Nat.mul_one] at h3 h4;rw [List.length_map] at h1 h4 ⊢;refine (revE g 0 cap zs w (zpI hg h4) (by unfold maxLen at h2;omega)).mono ?_;rintro e w' ⟨rfl,n,rfl⟩;refine ⟨rfl,onlyV _ rfl,cX.2 ⟨by simp, .inr ⟨g,cap,_,rfl,Nat.zero_le _,heapV _ hg,h1,h2,by simp [putCells,h3],?_⟩⟩⟩;rw [Nat.mul_one,←List.map_reverse];have:=takeV (cur:=cur) zs.reverse (by rw [List.length_reverse];omega)
  rwa [List.length_reverse] at this
theorem FxM.one {F0:Frz}{w w':World}{E E':Ent}(hF0:F0.At w)(hO:Hp w (dF [E]) [E] w)(hA:∀g,dF [E] g→¬F0.S g)(ho:Only E.fp w w')(hok:E'.ok w')(hfp:∀g,E'.fp g→E.fp g∨w.heap.size≤g):FxM F0 w (dF [E]) F0 [E'] w':=by
 obtain ⟨S0,G,rfl,hS,h⟩:=lV hF0 hO hA;refine dy (es:=[E']) (i0 (es:=[E]) (es':=[E']) (hs:=[.fr G]) h ho (fun g _ hg=>⟨E,by simp,hg⟩) (fun e he=>?_) (fun e he g hg=>?_) (List.pairwise_singleton _ _)) hS (Frz.Le.refl _)
 ·obtain rfl:=List.mem_singleton.1 he;exact hok
 ·obtain rfl:=List.mem_singleton.1 he;exact (hfp g hg).imp (fun h=>⟨E,by simp,h⟩) id
def nN (l:List (List GChoice)):List (List GChoice):=l.reverse
theorem nT {α:Type}[Inhabited α]{rep:Frz→List Value→α→Prop}{F:Frz}{size:Nat}{cs:List (List Value)}{xs:List α}(h:OwnD rep F size cs xs):OwnD rep F size cs.reverse xs.reverse:=by
 refine ⟨by rw [List.length_reverse,List.length_reverse];exact h.1,fun c hc=>h.2.1 c (List.mem_reverse.1 hc),fun i hi=>?_⟩;rw [List.length_reverse] at hi
 have e1:cK cs.reverse i=cK cs (xs.length - 1 - i):=by
  have:=h.1;rw [dQ (by rw [List.length_reverse];omega),dQ a5,List.getElem_reverse]
  congr 1;omega
 have e2:cK xs.reverse i=cK xs (xs.length - 1 - i):=by
  rw [dQ (by rw [List.length_reverse];omega),dQ a5,List.getElem_reverse]
 rw [e1,e2];exact h.2.2 _ a5
theorem zkN:∀ {cs:List (List Value)},(∀c∈cs,c.length=1)→cs.reverse.flatten=cs.flatten.reverse
 | [],_=>rfl
 |c :: cs,h=>by
  rw [List.reverse_cons,List.flatten_append,show (c :: cs).flatten=c++cs.flatten from rfl,List.reverse_append,zkN fun d hd=>h d (List.mem_cons_of_mem _ hd)]
  congr 1
  have hc:=h c (List.mem_cons_self ..)
  match c,hc with
  | [v],_=>rfl
theorem zod:∀ {cs:List (List Value)},(∀c∈cs,c.length=1)→cs.flatten.length=cs.length
 | [],_=>rfl
 |c :: cs,h=>by
  rw [List.flatten_cons,List.length_append,zod fun d hd=>h d (List.mem_cons_of_mem _ hd),h c (List.mem_cons_self ..),List.length_cons];omega
theorem zif (F0 : Frz) (w : World) (hF0 : F0.At w) (l0_ : List (List GChoice)) (v0_ : Value) (c0_ : List (List Value)) (h0_ : OwnD cJ F0 1 c0_ l0_) (hO : Hp w (dF [.sl v0_ 50 1 l0_.length c0_.flatten]) [.sl v0_ 50 1 l0_.length c0_.flatten] w) (hA : ∀ g, dF [.sl v0_ 50 1 l0_.length c0_.flatten] g → ¬ F0.S g) :
    Calls Tryz.prog 49 #[v0_] w fun e w' => ∃ (y : List (List Value)), (OwnD cJ F0 1 y (nN l0_)) ∧ e = .returned (.tuple #[]) ∧ FxM F0 w (dF [.sl v0_ 50 1 l0_.length c0_.flatten]) F0 [.sl v0_ 50 1 (nN l0_).length y.flatten] w' := by
  have hk := hO.own _ (List.mem_cons_self ..); (have hl : c0_.flatten.length = l0_.length := by rw [zod h0_.2.1, h0_.1])
  have h1 : ∀ v ∈ c0_.flatten, v.oneCell' = true := fun v hv => by
    obtain ⟨c, hc, hv⟩ := List.mem_flatten.1 hv; obtain ⟨i, hi, rfl⟩ := List.mem_iff_getElem.1 hc; have := h0_.2.2 i (by have := h0_.1; omega); rw [dQ hi] at this; exact (R_List_GChoice.one this).h v hv
  rw [← hl] at hk;refine (zoq h1 hk).mono ?_; rintro e w' ⟨rfl, h2, h3⟩; rw [hl] at h2 h3;refine ⟨c0_.reverse, nT h0_, rfl, FxM.one hF0 hO hA h2 ?_ fun g h => .inl (de.2 (de.1 h))⟩; unfold nN; rw [List.length_reverse, zkN h0_.2.1]; exact h3
end Go.Proofs.YtogbggmckmnlfaaGreatDoor
