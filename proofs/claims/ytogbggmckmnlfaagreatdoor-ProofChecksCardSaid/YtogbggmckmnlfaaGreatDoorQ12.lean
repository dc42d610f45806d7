/- W7 Kn Yw Kr: shortened and put together by squeeze.py. -/
import Derived.Test.YtogbggmckmnlfaaGreatDoorQ11
import Derived.Shelf.SlicesE.Reverse
import Derived.Ground.SlgnProg
set_option maxRecDepth 100000
set_option maxHeartbeats 4000000
set_option linter.unusedVariables false
set_option linter.unusedSectionVars false
set_option linter.unusedSimpArgs false
namespace Go.Proofs.YtogbggmckmnlfaaGreatDoor
open Go.RowKit
theorem zcf {ρ:Type}{f:Nat→(Unit→ρ)→Unit→ρ}{k:Unit→ρ}{z:ρ}(q:Nat→Bool){n s:Nat}(hf:∀i next,s≤i→i<s+n→f i next ()=bif q i then next () else z):c8 f k n s ()=bif (List.range' s n).all q then k () else z:=by
 induction n generalizing s with
 |zero=>rfl
 |succ m ih=>
  show f s (c8 f k m (s+1)) ()=_
  rw [hf s _ (Nat.le_refl _) a5,ih (fun i next h1 h2=>hf i next a5 a5),List.range'_succ,List.all_cons]
  cases q s <;> rfl
theorem zn1 (n:Nat)(g t:Nat→Bool):(List.range' 0 n).all (fun i=>g i&&(bif decide (0<(i:Int)) then t i else true))=((List.range' 0 n).all g&&(List.range' 1 (n - 1)).all t):=by
 rw [Bool.eq_iff_iff,Bool.and_eq_true,List.all_eq_true,List.all_eq_true,List.all_eq_true];constructor
 ·intro h;refine ⟨fun i hi=>((Bool.and_eq_true _ _).mp (h i hi)).1,fun i hi=>?_⟩;have hi':=List.mem_range'_1.1 hi;have h2:=((Bool.and_eq_true _ _).mp (h i (List.mem_range'_1.2 ⟨by omega,by omega⟩))).2
  rwa [decide_eq_true a5,cond_true] at h2
 ·rintro ⟨h1,h2⟩ i hi;have hi':=List.mem_range'_1.1 hi;rw [Bool.and_eq_true];refine ⟨h1 i hi,?_⟩;by_cases h0:0<(i:Int)
  ·rw [decide_eq_true h0,cond_true];exact h2 i (List.mem_range'_1.2 ⟨by omega,by omega⟩)
  ·rw [decide_eq_false h0];rfl
def ek:List Int→List Int→Bool
 |a :: x,b :: y=>bif decide (a=b) then ek x y else decide (a<b)
 |_,_=>false
theorem zk9 {a b:List Int}{i:Nat}(h1:i<a.length)(h2:i<b.length):ek (a.drop i) (b.drop i)=bif decide (cJ a i=cJ b i) then ek (a.drop (i+1)) (b.drop (i+1)) else decide (cJ a i<cJ b i):=by
 rw [List.drop_eq_getElem_cons h1,List.drop_eq_getElem_cons h2,←dW h1,←dW h2];rfl
theorem zjG {a b:List Int}(h:a.length=b.length):lM a b=some (ek a b):=by
 have key:∀m i,i+m=a.length→c8 (fun (i:Nat) (next:Unit→Option Bool) (_:Unit)=>ep (0≤(i:Int)∧(i:Int)<(b.length:Int)) (bif decide (¬cJ a i=cJ b i) then some (decide (cJ a i<cJ b i)) else next ())) (fun _=>some false) m i ()=some (ek (a.drop i) (b.drop i)):=by
  intro m
  induction m with
  |zero=>intro i e;rw [List.drop_eq_nil_of_le (show a.length≤i by omega)];rfl
  |succ m ih=>
   intro i e;have h2:=ih (i+1) a5
   show ep _ _=_
   rw [gb ⟨by omega,by omega⟩,zk9 a5 a5];by_cases e2:cJ a i=cJ b i
   ·rw [decide_eq_true e2,decide_eq_false (fun hn=>hn e2),cond_false];exact h2
   ·rw [decide_eq_false e2,decide_eq_true e2,cond_true];rfl
 have:=key a.length 0 a5;rw [List.drop_zero,List.drop_zero] at this;exact this
def cmpc (a b:Int):Int:=bif decide (a<b) then -1 else bif decide (b<a) then 1 else 0
theorem cmp_x (a b:Int):za7 a b=cmpc a b:=by
 unfold za7 zbq;rw [decide_eq_false (fun h=>h rfl),decide_eq_false (fun h=>h rfl)];rfl
def ku (x:GPair):List Int:=[x.A,x.B,x.Offset,x.Low,x.High]
def ko (x:GLoad):List Int:=[x.To,x.From,x.Weight,x.Low,x.High]
def fF (x:GCap):List Int:=[x.Station,x.Max,x.Low,x.High]
def fG {α:Type}[Inhabited α](lt:α→α→Bool)(l:List α):Bool:=(List.range' 1 (l.length - 1)).all fun i=>lt (cJ l (i - 1)) (cJ l i)
theorem adj_x {α : Type} [Inhabited α] {l : List α} {cmp : α → α → Int} {lt : α → α → Bool} (hc : ∀ a b, decide (0 ≤ cmp a b) = !lt a b) :
    c8 (fun (i : Nat) (next : Unit → Option Bool) (_ : Unit) => ep (0 ≤ ((i : Int) - 1) ∧ ((i : Int) - 1) < (l.length : Int)) (bif decide (0 ≤ cmp (cJ l (((i : Int) - 1).toNat)) (cJ l i)) then some false else next ())) (fun _ => some true) (l.length - 1) 1 () = some (fG lt l) := by
  rw [zcf (fun i => lt (cJ l (i - 1)) (cJ l i)) (z := some false) (fun i next h1 h2 => ?_)]
  · unfold fG; cases (List.range' 1 (l.length - 1)).all fun i => lt (cJ l (i - 1)) (cJ l i) <;> rfl
  · rw [gb ⟨by omega, by omega⟩, hc, show ((i : Int) - 1).toNat = i - 1 by omega]
    cases lt (cJ l (i - 1)) (cJ l i) <;> rfl
theorem znR {α:Type}[Inhabited α]{l:List α}{q:α→Bool}:c8 (fun (i:Nat) (next:Unit→Bool) (_:Unit)=>bif !(q (cJ l i)) then false else next ()) (fun _=>true) (l.length - 0) 0 ()=l.all q:=by
 rw [Nat.sub_zero,zdO (fun i=>q (cJ l i)) (fun i next hi=>by cases q (cJ l i) <;> rfl),zcw,Bool.and_true]
def nk (r:GRules):Bool:=
 decide ((r.Pairs.length:Int)≤4096)&&(r.Pairs.all zbn&&(fG (fun a b=>ek (ku a) (ku b)) r.Pairs&&(decide ((r.Loads.length:Int)≤1024)&&(r.Loads.all zbp&&(fG (fun a b=>ek (ko a) (ko b)) r.Loads&&(decide ((r.Caps.length:Int)≤1024)&&(r.Caps.all zbx&&fG (fun a b=>ek (fF a) (fF b)) r.Caps)))))))
theorem mN (a b:Int):decide (a<b)= !decide (b≤a):=by
 by_cases h:a<b
 ·rw [decide_eq_true h,decide_eq_false a5];rfl
 ·rw [decide_eq_false h,decide_eq_true a5];rfl
theorem zj6 (a b:Int):decide (a≤b)= !decide (b<a):=by
 by_cases h:a≤b
 ·rw [decide_eq_true h,decide_eq_false a5];rfl
 ·rw [decide_eq_false h,decide_eq_true a5];rfl
theorem zoX (a b:Int):decide (a=b)= !decide (¬a=b):=by
 by_cases h:a=b
 ·rw [decide_eq_true h,decide_eq_false a5];rfl
 ·rw [decide_eq_false h,decide_eq_true h];rfl
theorem zoY {ρ:Type}(a b c d e f g t:Bool)(n z:Option ρ):dI (fun x=>bif x then z else n) (fun (k:Bool→Option ρ)=>bif !a then k true else bif !b then k true else bif !c then k true else bif !d then k true else bif !e then k true else bif !f then k true else bif g then (some t).bind fun r=>k (!r) else k false)=bif (((((a&&b)&&c)&&(d&&e))&&f)&&(bif g then t else true)) then n else z:=by
 cases a <;> cases b <;> cases c <;> try rfl
 cases d <;> cases e <;> cases f <;> try rfl
 cases g <;> cases t <;> rfl
theorem body4 {ρ:Type}(a d e f g t:Bool)(n z:Option ρ):dI (fun x=>bif x then z else n) (fun (k:Bool→Option ρ)=>bif !a then k true else bif !d then k true else bif !e then k true else bif !f then k true else bif g then (some t).bind fun r=>k (!r) else k false)=bif (((a&&(d&&e))&&f)&&(bif g then t else true)) then n else z:=by
 cases a <;> cases d <;> cases e <;> cases f <;> try rfl
 cases g <;> cases t <;> rfl
theorem zeN {α:Type}[Inhabited α](l:List α)(g:α→Bool)(lt:α→α→Bool):((List.range' 0 (l.length - 0)).all fun i=>g (cJ l i)&&(bif decide (0<(i:Int)) then lt (cJ l (i - 1)) (cJ l i) else true))=(l.all g&&fG lt l):=by
 rw [Nat.sub_zero,zn1 l.length (fun i=>g (cJ l i)) (fun i=>lt (cJ l (i - 1)) (cJ l i)),←List.range_eq_range',zcw];rfl
theorem lessP (x y:GPair):lM (kT x) (kT y)=some (ek (ku x) (ku y)):=zjG rfl
theorem zo7 (x y:GLoad):lM (kS x) (kS y)=some (ek (ko x) (ko y)):=zjG rfl
theorem lessC (x y:GCap):lM (kR x) (kR y)=some (ek (fF x) (fF y)):=zjG rfl
theorem zkW (r:GRules):za1 r=some (nk r):=by
 unfold za1
 show (bif _ then some false else c8 _ (fun _=>c8 _ (fun _=>c8 _ (fun _=>some true) (r.Caps.length - 0) 0 ()) (r.Loads.length - 0) 0 ()) (r.Pairs.length - 0) 0 ())=_
 rw [zcf (n:=r.Pairs.length - 0) (fun i=>zbn (cJ r.Pairs i)&&(bif decide (0<(i:Int)) then ek (ku (cJ r.Pairs (i - 1))) (ku (cJ r.Pairs i)) else true)) (z:=some false) (fun i next h1 h2=>?_)];rw [zcf (n:=r.Loads.length - 0) (fun i=>zbp (cJ r.Loads i)&&(bif decide (0<(i:Int)) then ek (ko (cJ r.Loads (i - 1))) (ko (cJ r.Loads i)) else true)) (z:=some false) (fun i next h1 h2=>?_)];rw [zcf (n:=r.Caps.length - 0) (fun i=>zbx (cJ r.Caps i)&&(bif decide (0<(i:Int)) then ek (fF (cJ r.Caps (i - 1))) (fF (cJ r.Caps i)) else true)) (z:=some false) (fun i next h1 h2=>?_)]
 ·rw [zeN r.Pairs zbn (fun a b=>ek (ku a) (ku b)),zeN r.Loads zbp (fun a b=>ek (ko a) (ko b)),zeN r.Caps zbx (fun a b=>ek (fF a) (fF b))];unfold nk;rw [mN 4096,mN 1024,mN 1024]
  cases decide ((r.Pairs.length:Int)≤4096) <;> cases decide ((r.Loads.length:Int)≤1024) <;> cases decide ((r.Caps.length:Int)≤1024) <;> cases r.Pairs.all zbn <;> try rfl
  all_goals (cases fG (fun a b=>ek (ku a) (ku b)) r.Pairs <;> cases r.Loads.all zbp <;> cases fG (fun a b=>ek (ko a) (ko b)) r.Loads <;> cases r.Caps.all zbx <;> cases fG (fun a b=>ek (fF a) (fF b)) r.Caps <;> rfl)
 ·skip;rw [show ((i:Int) - 1).toNat=i - 1 by omega,lessC,mN _ 0,mN 1099511627776];exact body4 ..
 ·skip;rw [show ((i:Int) - 1).toNat=i - 1 by omega,zo7,zoX (cJ r.Loads i).To,mN _ 1,mN 1073741824];exact zoY ..
 ·skip;rw [show ((i:Int) - 1).toNat=i - 1 by omega,lessP,zj6 (cJ r.Pairs i).B,mN _ (-1),mN 1];exact zoY ..
theorem zeH {α:Type}[Inhabited α]{l:List α}{i:Nat}(h:i<l.length):cJ l i∈l:=by rw [dW h];exact List.getElem_mem h
theorem zmJ {c b:Nat}(hc:c<64):((1#64) <<< c).getLsbD b=decide (b=c):=by
 rw [BitVec.getLsbD_shiftLeft];by_cases h:b=c
 ·subst h;simp [hc,BitVec.getLsbD_one]
 ·rw [decide_eq_false h];by_cases h2:b<c
  ·simp [h2]
  ·have e:(1#64).getLsbD (b - c)=false:=by
    rw [BitVec.getLsbD_one];simp;omega
   rw [e,Bool.and_false]
theorem znW {x:BitVec 64}{c:Nat}:decide ((((x >>> c) &&& (1#64)).toNat:Int)=((1#64).toNat:Int))=x.getLsbD c:=by
 have e:((x >>> c) &&& (1#64))=bif x.getLsbD c then 1#64 else 0#64:=by
  refine BitVec.eq_of_getLsbD_eq fun b hb=>?_;rw [BitVec.getLsbD_and,BitVec.getLsbD_ushiftRight,BitVec.getLsbD_one];by_cases h0:b=0
  ·subst h0;cases x.getLsbD c <;> simp
  ·cases x.getLsbD c <;> simp [h0]
 rw [e]
 cases x.getLsbD c <;> decide
def na (s:GSet)(i:Int):Bool:=(decide (0≤i)&&decide (i<512))&&(Vec.get s.words (i / 64).toNat).getLsbD (i % 64).toNat
theorem zf4 (s:GSet)(i:Int):lY s i=some (na s i):=by
 unfold lY na za2;by_cases h:0≤i∧i<512
 ·simp only [dI];rw [decide_eq_true h.1,decide_eq_true h.2];simp only [Bool.and_self,cond_true];rw [gb ⟨h.1,by omega,by omega⟩,gb ⟨by omega,by omega⟩,gb ⟨h.1,by omega⟩,gb ⟨by omega,by omega⟩,znW,Bool.true_and]
 ·have e:(decide (0≤i)&&decide (i<512))=false:=by
   rw [Bool.and_eq_false_iff,decide_eq_false_iff_not,decide_eq_false_iff_not];omega
  simp only [dI];rw [e];rfl
def wS (v:Vec 8 (BitVec 64))(n:Nat):Bool:=(Vec.get v (n / 64)).getLsbD (n % 64)
theorem zoD {v:Vec 8 (BitVec 64)}{j n:Nat}(hj:j<512):wS (Vec.put v (j / 64) (Vec.get v (j / 64) ||| ((1#64) <<< (j % 64)))) n=(wS v n||decide (n=j)):=by
 unfold wS;rw [fv a5];by_cases h:n / 64=j / 64
 ·rw [if_pos h,BitVec.getLsbD_or,zmJ a5,h]
  congr 1
  by_cases h2:n % 64=j % 64
  ·rw [decide_eq_true h2,decide_eq_true a5]
  ·rw [decide_eq_false h2,decide_eq_false a5]
 ·rw [if_neg h,decide_eq_false a5,Bool.or_false]
theorem znj {l:List Int}{i:Nat}(hi:i<l.length)(q:Int→Bool):(l.take (i+1)).any q=((l.take i).any q||q (cJ l i)):=by
 rw [List.take_add_one,List.getElem?_eq_getElem hi,List.any_append,dW hi];simp
theorem of_x {l:List Int}(h:∀x∈l,0≤x∧x<512):∃s,zbR l=some (s,0)∧∀i:Int,na s i=((decide (0≤i)&&decide (i<512))&&l.any fun x=>decide (x=i)):=by
 have hn:∀i,i<l.length→0≤cJ l i∧cJ l i<512:=fun i hi=>h _ (zeH hi);unfold zbR
 obtain ⟨h1,h2⟩:=zbP (k:=fun s:Vec 8 (BitVec 64)×Vec 8 (BitVec 64)=>(some (GSet.mk s.2,0):Option (GSet×Int))) (n:=l.length) (s:=(Vec.fill 8 (0#64),Vec.fill 8 (0#64)))
  (f:=fun (i_7:Nat) (next6:(Vec 8 (BitVec 64)×Vec 8 (BitVec 64))→Option (GSet×Int)) (s6:Vec 8 (BitVec 64)×Vec 8 (BitVec 64))=>
   (bif !(za2 (cJ l i_7)) then
    some ((GSet.mk (Vec.fill 8 (0#64))),2)
    else
    ep (0≤(cJ l i_7)∧(cJ l i_7)≤9223372036854775807∧1≤(64:Int)) <|
    ep (0≤((cJ l i_7) / 64)∧((cJ l i_7) / 64)<(8:Int)) <|
    ep (0≤(cJ l i_7)∧1≤(64:Int)) <|
    ep (0≤((cJ l i_7) % 64)∧((cJ l i_7) % 64)<(64:Int)) <|
    next6 (s6.1,(Vec.put s6.2 (((cJ l i_7) / 64).toNat) ((Vec.get s6.2 (((cJ l i_7) / 64).toNat)) ||| ((1#64) <<< (((cJ l i_7) % 64).toNat)))))))
  (fun i s=>∀n,n<512→wS s.2 n=(l.take i).any fun x=>decide (x=(n:Int)))
  (fun i s=>(s.1,Vec.put s.2 ((cJ l i).toNat / 64) (Vec.get s.2 ((cJ l i).toNat / 64) ||| ((1#64) <<< ((cJ l i).toNat % 64)))))
  (fun n hn=>by
   unfold wS
   rw [gn a5];simp)
  (fun i s hi hs n hn2=>by
   have:=hn i hi;rw [zoD a5,hs n hn2,znj hi]
   congr 1
   by_cases e:cJ l i=(n:Int)
   ·rw [decide_eq_true e,decide_eq_true a5]
   ·rw [decide_eq_false e,decide_eq_false a5])
  (fun i next s hi hs=>by
   have:=hn i hi
   have e:za2 (cJ l i)=true:=by
    unfold za2;rw [decide_eq_true this.1,decide_eq_true this.2];rfl
   rw [e,Bool.not_true,cond_false,gb ⟨this.1,by omega,by omega⟩,gb ⟨by omega,by omega⟩,gb ⟨this.1,by omega⟩,gb ⟨by omega,by omega⟩,show (cJ l i / 64).toNat=(cJ l i).toNat / 64 by omega,show (cJ l i % 64).toNat=(cJ l i).toNat % 64 by omega])
 refine ⟨_,h1,fun i=>?_⟩;unfold na;by_cases hi:0≤i∧i<512
 ·rw [decide_eq_true hi.1,decide_eq_true hi.2,Bool.and_self,Bool.true_and,Bool.true_and];have h3:=h2 i.toNat a5;rw [List.take_length] at h3;unfold wS at h3;rw [show (i / 64).toNat=i.toNat / 64 by omega,show (i % 64).toNat=i.toNat % 64 by omega];refine h3.trans ?_;rw [show ((i.toNat:Nat):Int)=i by omega]
 ·have e:(decide (0≤i)&&decide (i<512))=false:=by
   rw [Bool.and_eq_false_iff,decide_eq_false_iff_not,decide_eq_false_iff_not];omega
  rw [e];rfl
theorem zli {p:GProblem}(hr:dr p.Domains.length 8)(h:∀d∈p.Domains,0≤d.Station∧d.Station<512):∃s,zby p=some s∧∀i:Int,na s i=((decide (0≤i)&&decide (i<512))&&p.Domains.any fun d=>decide (d.Station=i)):=by
 obtain ⟨s,h1,h2⟩:=of_x (l:=p.Domains.map (·.Station)) (fun x hx=>by obtain ⟨d,hd,rfl⟩:=List.mem_map.1 hx;exact h d hd);refine ⟨s,?_,fun i=>by rw [h2 i,List.any_map];rfl⟩;unfold zby;rw [gb hr]
 have h3:=zbP (k:=fun l:List Int=>(zbR l).bind fun r28=>some r28.1) (n:=p.Domains.length - 0) (s:=List.replicate p.Domains.length (0:Int))
  (f:=fun (i_5:Nat) (next4:List Int→Option GSet) (l_3:List Int)=>ep (0≤(i_5:Int)∧(i_5:Int)<(l_3.length:Int)) <| next4 (l_3.set i_5 ((cJ p.Domains i_5).Station)))
  (fun i s=>s.length=p.Domains.length∧∀k,k<i→cJ s k=(cJ p.Domains k).Station)
  (fun i s=>s.set i (cJ p.Domains i).Station)
  ⟨List.length_replicate ..,fun k hk=>by omega⟩
  (fun i s hi hs=>⟨by rw [List.length_set];exact hs.1,fun k hk=>by
   (have h4:k<s.length:=by have:=hs.1;omega);rw [dW (show k<(s.set i _).length by rw [List.length_set];exact h4),List.getElem_set];by_cases e:i=k
   ·rw [if_pos e,e]
   ·rw [if_neg e,←dW h4];exact hs.2 k a5⟩)
  (fun i next s hi hs=>by rw [gb ⟨by omega,by have:=hs.1;omega⟩])
 refine h3.1.trans ?_
 have e:(List.range (p.Domains.length - 0)).foldl (fun s i=>s.set i (cJ p.Domains i).Station) (List.replicate p.Domains.length (0:Int))=p.Domains.map (·.Station):=by
  refine List.ext_getElem (by rw [h3.2.1,List.length_map]) fun k hk1 hk2=>?_; (have hk:k<p.Domains.length:=by rwa [List.length_map] at hk2);have h5:=h3.2.2 k a5;rw [dW hk1,dW hk] at h5;rw [h5,List.getElem_map]
 rw [e,h1];rfl
theorem zoH (a b:Int):decide (0≤za7 a b)= !decide (a<b):=by
 rw [cmp_x];unfold cmpc;rcases Int.lt_trichotomy a b with h|h|h
 ·rw [decide_eq_true h];rfl
 ·subst h;rw [decide_eq_false (Int.lt_irrefl a)];rfl
 ·rw [decide_eq_false (show ¬a<b by omega),decide_eq_true h];rfl
def mu (d:GDomain):Bool:=iI d.Station&&(d.Channels.all nu&&fG (fun a b=>decide (a<b)) d.Channels)
def iD (p:GProblem)(i:Int):Bool:=(decide (0≤i)&&decide (i<512))&&p.Domains.any fun d=>decide (d.Station=i)
def zit (p:GProblem):Bool:=p.Rules.Pairs.all (fun c=>iD p c.A&&iD p c.B)&&(p.Rules.Loads.all (fun c=>iD p c.To&&iD p c.From)&&p.Rules.Caps.all (fun c=>iD p c.Station))
def lu (p:GProblem):Bool:=fG (fun a b:GDomain=>decide (a.Station<b.Station)) p.Domains
def okP (p:GProblem):Bool:=p.Domains.all mu&&(nk p.Rules&&(lu p&&zit p))
theorem zfI {n:Int}(h:iI n=true):0≤n∧n≤511:=by
 unfold iI ma at h;rw [Bool.and_eq_true,decide_eq_true_eq,decide_eq_true_eq] at h;exact h
theorem zlR {p:GProblem}(h:p.Domains.all mu=true){d:GDomain}(hd:d∈p.Domains):0≤d.Station∧d.Station<512:=by
 have h1:=List.all_eq_true.1 h d hd;unfold mu at h1;have:=zfI ((Bool.and_eq_true _ _).mp h1).1;omega
theorem zl8 {p:GProblem}(h:p.Domains.all mu=true)(hi:lu p=true):∀k,k<p.Domains.length→(k:Int)≤(cJ p.Domains k).Station
 |0,hk=>(zlR h (zeH hk)).1
 |k+1,hk=>by
  have h1:=zl8 h hi k a5;have h2:=List.all_eq_true.1 hi (k+1) (List.mem_range'_1.2 ⟨by omega,by omega⟩);have h3:=of_decide_eq_true h2;rw [show k+1 - 1=k from rfl] at h3;omega
theorem zjx {p:GProblem}(h:p.Domains.all mu=true)(hi:lu p=true):p.Domains.length≤512:=by
 rcases Nat.eq_zero_or_pos p.Domains.length with h0|h0
 ·omega
 ·have h1:=zl8 h hi (p.Domains.length - 1) a5;have h2:=zlR h (zeH (show p.Domains.length - 1<p.Domains.length by omega));omega
theorem zgn {α:Type}{l:List α}{f g:α→Bool}(h:∀x∈l,f x=g x):l.all f=l.all g:=by
 induction l with
 |nil=>rfl
 |cons x r ih=>rw [List.all_cons,List.all_cons,h x (List.mem_cons_self ..),ih fun y hy=>h y (List.mem_cons_of_mem _ hy)]
def dQ (p:GProblem)(s:Int):Bool:=p.Domains.any fun d=>decide (d.Station=s)
theorem zfL {p:GProblem}{s:Int}:decide (fB p s<0)= !dQ p s:=by
 have key:∀m i,i+m=p.Domains.length→(decide (c8 (fun (i:Nat) (next:Unit→Int) (_:Unit)=>bif decide ((cJ p.Domains i).Station=s) then (i:Int) else next ()) (fun _=>(-1)) m i ()<0)= !((p.Domains.drop i).any fun d=>decide (d.Station=s))):=by
  intro m
  induction m with
  |zero=>intro i e;rw [List.drop_eq_nil_of_le (show p.Domains.length≤i by omega)];rfl
  |succ m ih=>
   intro i e;have h2:=ih (i+1) a5;rw [List.drop_eq_getElem_cons (show i<p.Domains.length by omega),List.any_cons,←dW (show i<p.Domains.length by omega)]
   show decide ((bif decide ((cJ p.Domains i).Station=s) then (i:Int) else _)<0)=_
   cases decide ((cJ p.Domains i).Station=s) with
   |true=>rw [cond_true,decide_eq_false a5];rfl
   |false=>rw [cond_false,Bool.false_or];exact h2
 have:=key p.Domains.length 0 a5;rw [List.drop_zero] at this;exact this
def zi0 (p:GProblem):Bool:=p.Rules.Pairs.all (fun c=>dQ p c.A&&dQ p c.B)&&(p.Rules.Loads.all (fun c=>dQ p c.To&&dQ p c.From)&&p.Rules.Caps.all (fun c=>dQ p c.Station))
theorem zd1 {p:GProblem}{s:Int}(h:iI s=true):dQ p s=iD p s:=by
 have:=zfI h;unfold dQ iD;rw [decide_eq_true this.1,decide_eq_true (show s<512 by omega)];rfl
theorem fy {a b:Bool}(h:(a&&b)=true):a=true:=((Bool.and_eq_true _ _).mp h).1
theorem fR {a b:Bool}(h:(a&&b)=true):b=true:=((Bool.and_eq_true _ _).mp h).2
theorem zgF {c:GPair}(h:zbn c=true):iI c.A=true∧iI c.B=true:=
 ⟨fy (fy (fy (fy h))),fR (fy (fy (fy h)))⟩
theorem zgX {c:GLoad}(h:zbp c=true):iI c.To=true∧iI c.From=true:=
 ⟨fy (fy (fy (fy h))),fR (fy (fy (fy h)))⟩
theorem zkP {c:GCap}(h:zbx c=true):iI c.Station=true:=fy (fy h)
structure RulesGood (r:GRules):Prop where
 np:r.Pairs.length≤4096
 nl:r.Loads.length≤1024
 nc:r.Caps.length≤1024
 p:∀c∈r.Pairs,zbn c=true
 l:∀c∈r.Loads,zbp c=true
 c:∀c∈r.Caps,zbx c=true
theorem zd0 {r:GRules}(h:nk r=true):RulesGood r:=by
 unfold nk at h;have h1:=fR h;have h2:=fR h1;have h3:=fR h2;have h4:=fR h3;have h5:=fR h4;have h6:=fR h5;have h7:=fR h6;have a1:=of_decide_eq_true (fy h);have a2:=of_decide_eq_true (fy h3);have a3:=of_decide_eq_true (fy h6);exact ⟨by omega,by omega,by omega,List.all_eq_true.1 (fy h1),List.all_eq_true.1 (fy h4),List.all_eq_true.1 (fy h7)⟩
theorem zmH {p:GProblem}(h:nk p.Rules=true):zi0 p=zit p:=by
 have hg:=zd0 h; (have e1:(p.Rules.Pairs.all fun c=>dQ p c.A&&dQ p c.B)=p.Rules.Pairs.all fun c=>iD p c.A&&iD p c.B:=zgn fun c hc=>by rw [zd1 (zgF (hg.p c hc)).1,zd1 (zgF (hg.p c hc)).2]); (have e2:(p.Rules.Loads.all fun c=>dQ p c.To&&dQ p c.From)=p.Rules.Loads.all fun c=>iD p c.To&&iD p c.From:=zgn fun c hc=>by rw [zd1 (zgX (hg.l c hc)).1,zd1 (zgX (hg.l c hc)).2]);have e3:(p.Rules.Caps.all fun c=>dQ p c.Station)=p.Rules.Caps.all fun c=>iD p c.Station:=zgn fun c hc=>zd1 (zkP (hg.c c hc));unfold zi0 zit;rw [e1,e2,e3]
def nH (d:GDomain):Bool:=iI d.Station&&(decide ((d.Channels.length:Int)≤50)&&(d.Channels.all nu&&fG (fun a b=>decide (a<b)) d.Channels))
theorem zpd {n:Int}(h:nu n=true):2≤n∧n≤51:=by
 unfold nu ma at h;rw [Bool.and_eq_true,decide_eq_true_eq,decide_eq_true_eq] at h;exact h
theorem znG {l:List Int}(h:l.all nu=true)(hi:fG (fun a b=>decide (a<b)) l=true):∀k,k<l.length→(k:Int)+2≤cJ l k
 |0,hk=>by have:=zpd (List.all_eq_true.1 h _ (zeH hk));omega
 |k+1,hk=>by
  have h1:=znG h hi k a5;have h2:=List.all_eq_true.1 hi (k+1) (List.mem_range'_1.2 ⟨by omega,by omega⟩);have h3:=of_decide_eq_true h2;rw [show k+1 - 1=k from rfl] at h3;omega
theorem zl1 (d:GDomain):nH d=mu d:=by
 unfold nH mu
 cases h1:d.Channels.all nu
 ·rw [Bool.false_and,Bool.and_false]
 cases h2:fG (fun a b=>decide (a<b)) d.Channels
 ·rw [Bool.and_false,Bool.and_false]
 have:d.Channels.length≤50:=by
  rcases Nat.eq_zero_or_pos d.Channels.length with h0|h0
  ·omega
  ·have a:=znG h1 h2 (d.Channels.length - 1) a5;have b:=zpd (List.all_eq_true.1 h1 _ (zeH (show d.Channels.length - 1<d.Channels.length by omega)));omega
 rw [decide_eq_true a5];rfl
theorem chs_x {ρ:Type}{l:List Int}{n z:ρ}:c8 (fun (k:Nat) (next:Unit→ρ) (_:Unit)=>bif (((decide (cJ l k<2))||(decide (51<cJ l k)))||((decide (0<(k:Int)))&&(decide (cJ l k≤cJ l (((k:Int) - 1).toNat))))) then z else next ()) (fun _=>n) (l.length - 0) 0 ()=bif l.all nu&&fG (fun a b=>decide (a<b)) l then n else z:=by
 rw [zcf (fun k=>nu (cJ l k)&&(bif decide (0<(k:Int)) then decide (cJ l (k - 1)<cJ l k) else true)) (z:=z) (fun i next h1 h2=>?_),zeN l nu (fun a b=>decide (a<b))];rw [show ((i:Int) - 1).toNat=i - 1 by omega,mN _ 2,zj6 (cJ l i) (cJ l (i - 1)),mN 51];unfold nu ma
 cases decide (2≤cJ l i) <;> cases decide (cJ l i≤51) <;> cases decide (0<(i:Int)) <;> cases decide (cJ l (i - 1)<cJ l i) <;> rfl
theorem zhw (p:GProblem):zbu p=some (okP p):=by
 unfold zbu
 show (bif decide (512<(p.Domains.length:Int)) then some false else (za1 p.Rules).bind fun r=>bif !r then some false else c8 _ (fun _=>c8 _ (fun _=>c8 _ (fun _=>c8 _ (fun _=>some true) (p.Rules.Caps.length - 0) 0 ()) (p.Rules.Loads.length - 0) 0 ()) (p.Rules.Pairs.length - 0) 0 ()) (p.Domains.length - 0) 0 ())=_
 rw [zkW,Option.bind_some];rw [zcf (n:=p.Domains.length - 0) (fun i=>nH (cJ p.Domains i)&&(bif decide (0<(i:Int)) then decide ((cJ p.Domains (i - 1)).Station<(cJ p.Domains i).Station) else true)) (z:=some false) (fun i next h1 h2=>?_)];rw [zcf (n:=p.Rules.Pairs.length - 0) (fun i=>dQ p (cJ p.Rules.Pairs i).A&&dQ p (cJ p.Rules.Pairs i).B) (z:=some false) (fun i next h1 h2=>?_)];rw [zcf (n:=p.Rules.Loads.length - 0) (fun i=>dQ p (cJ p.Rules.Loads i).To&&dQ p (cJ p.Rules.Loads i).From) (z:=some false) (fun i next h1 h2=>?_)];rw [zcf (n:=p.Rules.Caps.length - 0) (fun i=>dQ p (cJ p.Rules.Caps i).Station) (z:=some false) (fun i next h1 h2=>?_)]
 ·rw [zeN p.Domains nH (fun a b=>decide (a.Station<b.Station)),Nat.sub_zero,Nat.sub_zero,Nat.sub_zero,←List.range_eq_range',←List.range_eq_range',←List.range_eq_range',
   zcw (q:=fun c:GPair=>dQ p c.A&&dQ p c.B),zcw (q:=fun c:GLoad=>dQ p c.To&&dQ p c.From),zcw (q:=fun c:GCap=>dQ p c.Station),zgn (fun d _=>zl1 d)]
  have hl:∀x:Option Bool,(bif p.Rules.Pairs.all (fun c=>dQ p c.A&&dQ p c.B) then bif p.Rules.Loads.all (fun c=>dQ p c.To&&dQ p c.From) then bif p.Rules.Caps.all (fun c=>dQ p c.Station) then some true else some false else some false else some false)=some (zi0 p):=fun _=>by
   unfold zi0
   cases p.Rules.Pairs.all (fun c=>dQ p c.A&&dQ p c.B) <;> cases p.Rules.Loads.all (fun c=>dQ p c.To&&dQ p c.From) <;> cases p.Rules.Caps.all (fun c=>dQ p c.Station) <;> rfl
  rw [hl none];unfold okP
  show (bif decide (512<(p.Domains.length:Int)) then some false else bif !nk p.Rules then some false else bif p.Domains.all mu&&lu p then some (zi0 p) else some false)=_
  cases h1:nk p.Rules
  ·cases p.Domains.all mu <;> cases decide (512<(p.Domains.length:Int)) <;> rfl
  cases h2:p.Domains.all mu
  ·cases decide (512<(p.Domains.length:Int)) <;> rfl
  cases h3:lu p
  ·cases decide (512<(p.Domains.length:Int)) <;> rfl
  have:=zjx h2 h3;rw [decide_eq_false (show ¬512<(p.Domains.length:Int) by omega),zmH h1];rfl
 ·rw [zfL];cases dQ p (cJ p.Rules.Caps i).Station <;> rfl
 ·rw [zfL,zfL];cases dQ p (cJ p.Rules.Loads i).To <;> cases dQ p (cJ p.Rules.Loads i).From <;> rfl
 ·rw [zfL,zfL];cases dQ p (cJ p.Rules.Pairs i).A <;> cases dQ p (cJ p.Rules.Pairs i).B <;> rfl
 ·rw [chs_x,show ((i:Int) - 1).toNat=i - 1 by omega,mN 50,zj6 (cJ p.Domains i).Station];unfold nH
  show (bif ((!iI (cJ p.Domains i).Station||_)||_) then _ else _)=_
  cases iI (cJ p.Domains i).Station <;> cases decide (0<(i:Int)) <;> cases decide ((cJ p.Domains (i - 1)).Station<(cJ p.Domains i).Station) <;> cases decide (((cJ p.Domains i).Channels.length:Int)≤50) <;> cases ((cJ p.Domains i).Channels.all nu&&fG (fun a b=>decide (a<b)) (cJ p.Domains i).Channels) <;> rfl
theorem zpf (b:Bool):(bif b then true else false)=b:=by cases b <;> rfl
def onL:List GChoice→Int→Int
 | [],_=>0
 |x :: r,n=>bif decide (x.Station=n) then x.Channel else onL r n
def TabC (l:List GChoice)(c:Vec 512 Int):Prop:=∀n,n<512→Vec.get c n=onL l (n:Int)
theorem TabC.get {l:List GChoice}{c:Vec 512 Int}(h:TabC l c){i:Int}(hi:0≤i∧i<512):Vec.get c i.toNat=onL l i:=by
 rw [h _ a5,show ((i.toNat:Nat):Int)=i by omega]
theorem zoI (l:List Int)(v:Int):d8 l v=l.any fun x=>decide (x=v):=by
 have h:=zdW (f:=fun (i:Nat) (next:Unit→Bool) (_:Unit)=>bif decide (cJ l i=v) then true else next ()) (k:=fun _=>false) (n:=l.length - 0) (fun i=>decide (cJ l i=v)) (fun i next hi=>by cases decide (cJ l i=v) <;> rfl);rw [Nat.sub_zero,zdz (q:=fun x=>decide (x=v)),Bool.or_false] at h;exact h
def kl (l:List Int):Bool:=l.all iI&&fG (fun a b=>decide (a<b)) l
theorem zew (l:List Int):zaT l=some (kl l):=by
 have e1:zaL l=l.all iI:=znR;have e2:za8 l=some (fG (fun a b=>decide (a<b)) l):=adj_x zoH;unfold zaT kl;rw [e1,e2];simp only [dI,Option.bind_some]
 cases l.all iI <;> rfl
theorem zfu (l:List Int):zaP l=kl l:=by
 refine (zcf (k:=fun _=>true) (z:=false) (fun i=>iI (cJ l i)&&(bif decide (0<(i:Int)) then decide (cJ l (i - 1)<cJ l i) else true)) (fun i next h1 h2=>?_)).trans ?_
 ·rw [show ((i:Int) - 1).toNat=i - 1 by omega,zj6 (cJ l i) (cJ l (i - 1))]
  show (bif (!iI (cJ l i)||_) then _ else _)=_
  cases iI (cJ l i) <;> cases decide (0<(i:Int)) <;> cases decide (cJ l (i - 1)<cJ l i) <;> rfl
 ·rw [zpf,zeN l iI (fun a b=>decide (a<b))];rfl
theorem zjq {l:List Int}(h:kl l=true):∀x∈l,0≤x∧x<512:=fun x hx=>by
 have:=zfI (List.all_eq_true.1 (fy h) x hx);omega
theorem zey {l:List Int}{s:GSet}(hs:∀i:Int,na s i=((decide (0≤i)&&decide (i<512))&&l.any fun x=>decide (x=i)))(h:kl l=true)(i:Int):na s i=d8 l i:=by
 rw [hs,zoI];by_cases hi:0≤i∧i<512
 ·rw [decide_eq_true hi.1,decide_eq_true hi.2];rfl
 ·have e:(decide (0≤i)&&decide (i<512))=false:=by
   rw [Bool.and_eq_false_iff,decide_eq_false_iff_not,decide_eq_false_iff_not];omega
  rw [e,Bool.false_and]
  symm
  rw [List.any_eq_false];intro x hx hd;have:=zjq h x hx;have:=of_decide_eq_true hd;omega
theorem zgA {x y:BitVec 64}:((x &&& ~~~y).toNat:Int)=((0#64).toNat:Int)↔∀b,b<64→x.getLsbD b=true→y.getLsbD b=true:=by
 constructor
 ·intro h b hb hx;have h1:x &&& ~~~y=0#64:=BitVec.eq_of_toNat_eq (Int.ofNat.inj h);have h2:=congrArg (fun z=>z.getLsbD b) h1;simp only [BitVec.getLsbD_and,BitVec.getLsbD_not,hx,hb,decide_true,Bool.true_and,BitVec.getLsbD_zero,Bool.not_eq_false'] at h2;exact h2
 ·intro h
  have h1:x &&& ~~~y=0#64:=BitVec.eq_of_getLsbD_eq fun b hb=>by
   rw [BitVec.getLsbD_and,BitVec.getLsbD_not]
   cases hx:x.getLsbD b
   ·simp
   ·rw [h b hb hx];simp
  rw [h1]
theorem zmB (s o:GSet):zaq s o=true↔∀n,n<512→wS s.words n=true→wS o.words n=true:=by
 have e:zaq s o=(List.range 8).all fun i=> !decide (¬(((Vec.get s.words i) &&& ~~~(Vec.get o.words i)).toNat:Int)=((0#64).toNat:Int)):=by
  unfold zaq;refine (zdO (f:=fun (i:Nat) (next:Unit→Bool) (_:Unit)=>bif decide (¬(((Vec.get s.words i) &&& ~~~(Vec.get o.words i)).toNat:Int)=((0#64).toNat:Int)) then false else next ()) (k:=fun _=>true) (n:=8) (fun i=> !decide (¬(((Vec.get s.words i) &&& ~~~(Vec.get o.words i)).toNat:Int)=((0#64).toNat:Int))) (fun i next hi=>?_)).trans (Bool.and_true _)
  cases decide (¬(((Vec.get s.words i) &&& ~~~(Vec.get o.words i)).toNat:Int)=((0#64).toNat:Int)) <;> rfl
 rw [e,List.all_eq_true];constructor
 ·intro h n hn hw;have h1:=h (n / 64) (List.mem_range.2 a5);rw [Bool.not_eq_true',decide_eq_false_iff_not,Decidable.not_not,zgA] at h1;exact h1 _ a5 hw
 ·intro h i hi;have hi:=List.mem_range.1 hi;rw [Bool.not_eq_true',decide_eq_false_iff_not,Decidable.not_not,zgA];intro b hb hx;have:=h (i*64+b) a5;unfold wS at this;rw [show (i*64+b) / 64=i by omega,show (i*64+b) % 64=b by omega] at this;exact this hx
theorem zmS {s:GSet}{n:Nat}(hn:n<512):wS s.words n=na s (n:Int):=by
 unfold wS na;rw [decide_eq_true (show (0:Int)≤n by omega),decide_eq_true (show (n:Int)<512 by omega),show ((n:Int) / 64).toNat=n / 64 by omega,show ((n:Int) % 64).toNat=n % 64 by omega];rfl
theorem zkF {l:List Int}{p:GProblem}{s o:GSet}(hs:∀i:Int,na s i=((decide (0≤i)&&decide (i<512))&&l.any fun x=>decide (x=i)))(h:kl l=true)(ho:∀i:Int,na o i=iD p i):zaq s o=l.all (dQ p):=by
 rw [Bool.eq_iff_iff,zmB,List.all_eq_true];constructor
 ·intro h1 x hx;have hr:=zjq h x hx;have h2:=h1 x.toNat a5;rw [zmS a5,zmS a5,show ((x.toNat:Nat):Int)=x by omega,hs,ho] at h2;rw [zd1 (List.all_eq_true.1 (fy h) x hx)];refine h2 ?_;rw [decide_eq_true hr.1,decide_eq_true hr.2];exact List.any_eq_true.2 ⟨x,hx,decide_eq_true rfl⟩
 ·intro h1 n hn hw;rw [zmS hn,hs] at hw;obtain ⟨x,hx,e⟩:=List.any_eq_true.1 (fR hw);have e:=of_decide_eq_true e;subst e;rw [zmS hn,ho,←zd1 (List.all_eq_true.1 (fy h) _ hx)];exact h1 _ hx
def zoT (l:List GChoice)(st:List Int):List GChoice:=(List.range (l.length - 0)).foldl (fun s i=>bif d8 st (cJ l i).Station then s++[cJ l i] else s) []
theorem zou {l : List GChoice} {st : List Int} (hl : l.length ≤ 100000) : zcg l st = some (bif lK l && kl st then (zoT l st, 0) else ([], 2)) := by
  unfold zcg;simp only [dI, zew, Option.bind_some]
  cases lK l
  · rfl
  cases h2 : kl st
  · rfl
  simp only [Bool.not_true, cond_false, Bool.and_self, cond_true]; obtain ⟨s, h3, h4⟩ := of_x (l := st) (zjq h2); rw [h3, Option.bind_some]
  refine (zbP (k := fun s : List GChoice => some (s, (0 : Int))) (n := l.length - 0) (s := [])
    (f := fun (i_9 : Nat) (next8 : List GChoice → Option (List GChoice × Int)) (some_7 : List GChoice) =>
          (lY s ((cJ l i_9).Station)).bind fun r33 =>
          (bif r33 then
            ep (dr (some_7 ++ [(cJ l i_9)]).length 16) <|
            next8 (some_7 ++ [(cJ l i_9)])
            else
            next8 some_7))
    (fun i s => s.length ≤ i) (fun i s => bif d8 st (cJ l i).Station then s ++ [cJ l i] else s) a9 (fun i s hi hs => ?_) (fun i next s hi hs => ?_)).1
  · cases d8 st (cJ l i).Station
    · show s.length ≤ i + 1; omega
    · show (s ++ [cJ l i]).length ≤ i + 1; rw [List.length_append]; simp; exact hs
  · rw [zf4, zey h4 h2, Option.bind_some]
    cases d8 st (cJ l i).Station
    · rfl
    · rw [cond_true, cond_true, gb (by unfold dr; rw [List.length_append]; simp; omega)]
abbrev RS:=List GDomain×List GPair×List GLoad×List GCap
def gD (p:GProblem)(st:List Int)(i:Nat)(s:RS):RS:=bif d8 st (cJ p.Domains i).Station then (s.1++[cJ p.Domains i],s.2.1,s.2.2.1,s.2.2.2) else (s.1,s.2.1,s.2.2.1,s.2.2.2)
def gP (p:GProblem)(st:List Int)(i:Nat)(s:RS):RS:=bif d8 st (cJ p.Rules.Pairs i).A&&d8 st (cJ p.Rules.Pairs i).B then (s.1,s.2.1++[cJ p.Rules.Pairs i],s.2.2.1,s.2.2.2) else (s.1,s.2.1,s.2.2.1,s.2.2.2)
def gL (p:GProblem)(st:List Int)(i:Nat)(s:RS):RS:=bif d8 st (cJ p.Rules.Loads i).To&&d8 st (cJ p.Rules.Loads i).From then (s.1,s.2.1,s.2.2.1++[cJ p.Rules.Loads i],s.2.2.2) else (s.1,s.2.1,s.2.2.1,s.2.2.2)
def gC (p:GProblem)(st:List Int)(i:Nat)(s:RS):RS:=bif d8 st (cJ p.Rules.Caps i).Station then (s.1,s.2.1,s.2.2.1,s.2.2.2++[cJ p.Rules.Caps i]) else (s.1,s.2.1,s.2.2.1,s.2.2.2)
def iY (g:Nat→RS→RS)(n:Nat)(s:RS):RS:=(List.range n).foldl (fun s i=>g i s) s
theorem zoB {ρ : Type} {p : GProblem} {st : List Int} {f : Nat → (RS → ρ) → RS → ρ} {K : RS → ρ} (hn : p.Domains.length ≤ 5000) (hf : ∀ i next s, i < p.Domains.length → (∀ x : GDomain, dr (s.1 ++ [x]).length 32) → f i next s = next (gD p st i s)) : c8 f K (p.Domains.length - 0) 0 ([], [], [], []) = K (iY (gD p st) (p.Domains.length - 0) ([], [], [], [])) ∧ ((iY (gD p st) (p.Domains.length - 0) ([], [], [], [])).2 = ([], [], [])) := by
  have h := zbP (f := f) (k := K) (n := p.Domains.length - 0) (s := ([], [], [], [])) (fun i s => s.1.length ≤ i ∧ s.2 = ([], [], [])) (gD p st) ⟨by simp, rfl⟩ (fun i s hi hs => by
      unfold gD
      cases d8 st (cJ p.Domains i).Station
      · exact ⟨by show s.1.length ≤ i + 1; omega, hs.2⟩
      · exact ⟨by show (s.1 ++ [_]).length ≤ i + 1; rw [List.length_append]; simp; exact hs.1, hs.2⟩) (fun i next s hi hs => hf i next s a5 (fun x => by unfold dr; rw [List.length_append]; simp; omega))
  exact ⟨h.1, h.2.2⟩
theorem znQ {ρ : Type} {p : GProblem} {st : List Int} {f : Nat → (RS → ρ) → RS → ρ} {K : RS → ρ} {s0 : RS} (h0 : s0.2 = ([], [], [])) (hn : p.Rules.Pairs.length ≤ 5000) (hf : ∀ i next s, i < p.Rules.Pairs.length → (∀ x : GPair, dr (s.2.1 ++ [x]).length 40) → f i next s = next (gP p st i s)) : c8 f K (p.Rules.Pairs.length - 0) 0 s0 = K (iY (gP p st) (p.Rules.Pairs.length - 0) s0) ∧ ((iY (gP p st) (p.Rules.Pairs.length - 0) s0).2.2 = ([], [])) := by
  have h := zbP (f := f) (k := K) (n := p.Rules.Pairs.length - 0) (s := s0) (fun i s => s.2.1.length ≤ i ∧ s.2.2 = ([], [])) (gP p st) (by rw [h0]; exact ⟨by simp, rfl⟩) (fun i s hi hs => by
      unfold gP
      cases d8 st (cJ p.Rules.Pairs i).A && d8 st (cJ p.Rules.Pairs i).B
      · exact ⟨by show s.2.1.length ≤ i + 1; omega, hs.2⟩
      · exact ⟨by show (s.2.1 ++ [_]).length ≤ i + 1; rw [List.length_append]; simp; exact hs.1, hs.2⟩) (fun i next s hi hs => hf i next s a5 (fun x => by unfold dr; rw [List.length_append]; simp; omega))
  exact ⟨h.1, h.2.2⟩
theorem znT {ρ : Type} {p : GProblem} {st : List Int} {f : Nat → (RS → ρ) → RS → ρ} {K : RS → ρ} {s0 : RS} (h0 : s0.2.2 = ([], [])) (hn : p.Rules.Loads.length ≤ 5000) (hf : ∀ i next s, i < p.Rules.Loads.length → (∀ x : GLoad, dr (s.2.2.1 ++ [x]).length 40) → f i next s = next (gL p st i s)) : c8 f K (p.Rules.Loads.length - 0) 0 s0 = K (iY (gL p st) (p.Rules.Loads.length - 0) s0) ∧ ((iY (gL p st) (p.Rules.Loads.length - 0) s0).2.2.2 = []) := by
  have h := zbP (f := f) (k := K) (n := p.Rules.Loads.length - 0) (s := s0) (fun i s => s.2.2.1.length ≤ i ∧ s.2.2.2 = []) (gL p st) (by rw [h0]; exact ⟨by simp, rfl⟩) (fun i s hi hs => by
      unfold gL
      cases d8 st (cJ p.Rules.Loads i).To && d8 st (cJ p.Rules.Loads i).From
      · exact ⟨by show s.2.2.1.length ≤ i + 1; omega, hs.2⟩
      · exact ⟨by show (s.2.2.1 ++ [_]).length ≤ i + 1; rw [List.length_append]; simp; exact hs.1, hs.2⟩) (fun i next s hi hs => hf i next s a5 (fun x => by unfold dr; rw [List.length_append]; simp; omega))
  exact ⟨h.1, h.2.2⟩
theorem zo6 {ρ : Type} {p : GProblem} {st : List Int} {f : Nat → (RS → ρ) → RS → ρ} {K : RS → ρ} {s0 : RS} (h0 : s0.2.2.2 = []) (hn : p.Rules.Caps.length ≤ 5000) (hf : ∀ i next s, i < p.Rules.Caps.length → (∀ x : GCap, dr (s.2.2.2 ++ [x]).length 32) → f i next s = next (gC p st i s)) : c8 f K (p.Rules.Caps.length - 0) 0 s0 = K (iY (gC p st) (p.Rules.Caps.length - 0) s0) := by
  have h := zbP (f := f) (k := K) (n := p.Rules.Caps.length - 0) (s := s0) (fun i s => s.2.2.2.length ≤ i) (gC p st) (by rw [h0]; simp) (fun i s hi hs => by
      unfold gC
      cases d8 st (cJ p.Rules.Caps i).Station
      · show s.2.2.2.length ≤ i + 1; omega
      · show (s.2.2.2 ++ [_]).length ≤ i + 1; rw [List.length_append]; simp; exact hs) (fun i next s hi hs => hf i next s a5 (fun x => by unfold dr; rw [List.length_append]; simp; omega))
  exact h.1
def zkY (p:GProblem)(st:List Int):RS:=iY (gC p st) (p.Rules.Caps.length - 0) (iY (gL p st) (p.Rules.Loads.length - 0) (iY (gP p st) (p.Rules.Pairs.length - 0) (iY (gD p st) (p.Domains.length - 0) ([],[],[],[]))))
def kr (p:GProblem)(st:List Int):GProblem:=⟨(zkY p st).1,⟨(zkY p st).2.1,(zkY p st).2.2.1,(zkY p st).2.2.2⟩⟩
def zjD (p:GProblem)(st:List Int):GProblem×Int:=bif okP p&&kl st then (bif st.all (dQ p) then (kr p st,0) else (⟨[],⟨[],[],[]⟩⟩,9)) else (⟨[],⟨[],[],[]⟩⟩,2)
theorem zox {d:GDomain}(h:mu d=true):d.Channels.length≤50:=by
 rw [←zl1] at h;have:=of_decide_eq_true (fy (fR h));omega
theorem ms {p:GProblem}{st:List Int}(h:p.Domains.length≤5000):(iY (gD p st) (p.Domains.length - 0) ([],[],[],[])).2=([],[],[]):=(zoB (ρ:=Unit) (f:=fun i next s=>next (gD p st i s)) (K:=fun _=>()) h (fun _ _ _ _ _=>rfl)).2
theorem inv2 {p:GProblem}{st:List Int}{s0:RS}(h0:s0.2=([],[],[]))(h:p.Rules.Pairs.length≤5000):(iY (gP p st) (p.Rules.Pairs.length - 0) s0).2.2=([],[]):=(znQ (ρ:=Unit) (f:=fun i next s=>next (gP p st i s)) (K:=fun _=>()) h0 h (fun _ _ _ _ _=>rfl)).2
theorem inv3 {p:GProblem}{st:List Int}{s0:RS}(h0:s0.2.2=([],[]))(h:p.Rules.Loads.length≤5000):(iY (gL p st) (p.Rules.Loads.length - 0) s0).2.2.2=[]:=(znT (ρ:=Unit) (f:=fun i next s=>next (gL p st i s)) (K:=fun _=>()) h0 h (fun _ _ _ _ _=>rfl)).2
theorem zdM {σ ρ:Type}{f:Nat→(σ→ρ)→σ→ρ}{k:σ→ρ}{z:ρ}{n:Nat}{s:σ}(q:Nat→Bool)(hf:∀i next,i<n→f i next s=bif q i then next s else z):c8 f k n 0 s=bif (List.range n).all q then k s else z:=by
 have key:∀m i,i+m=n→c8 f k m i s=bif (List.range' i m).all q then k s else z:=by
  intro m
  induction m with
  |zero=>intro i _;rfl
  |succ m ih=>
   intro i e
   show f i (c8 f k m (i+1)) s=_
   rw [hf i _ a5,ih (i+1) a5,List.range'_succ,List.all_cons]
   cases q i <;> rfl
 rw [key n 0 a5,List.range_eq_range']
theorem zh4 (p:GProblem)(st:List Int):zcb p st=some (zjD p st):=by
 unfold zcb zjD;rw [zhw,zfu]
 cases h1:okP p
 ·rfl
 cases h2:kl st
 ·rfl
 have hD:=fy h1;have hg:=zd0 (fy (fR h1));have hi:=fy (fR (fR h1));have hl:=zjx hD hi;have g1:=hg.np;have g2:=hg.nl;have g3:=hg.nc;refine (zdM (n:=st.length - 0) (s:=(([],[],[],[]):RS)) (z:=some ((⟨[],⟨[],[],[]⟩⟩:GProblem),(9:Int))) (fun i=>dQ p (cJ st i)) (fun i next hin=>?_)).trans ?_
 ·rw [zfL];cases dQ p (cJ st i) <;> rfl
 rw [Nat.sub_zero,zcw (q:=dQ p)]
 cases st.all (dQ p)
 ·rfl
 refine (zoB (st:=st) a5 (fun i next s hin hr=>?_)).1.trans ?_
 ·unfold gD
  cases d8 st (cJ p.Domains i).Station
  ·rfl
  ·rw [cond_true,cond_true,gb (hr _)]
 refine (znQ (st:=st) (s0:=iY (gD p st) (p.Domains.length - 0) ([],[],[],[])) (ms a5) a5 (fun i next s hin hr=>?_)).1.trans ?_
 ·unfold gP
  cases d8 st (cJ p.Rules.Pairs i).A&&d8 st (cJ p.Rules.Pairs i).B
  ·rfl
  ·rw [cond_true,cond_true,gb (hr _)]
 refine (znT (st:=st) (s0:=iY (gP p st) (p.Rules.Pairs.length - 0) (iY (gD p st) (p.Domains.length - 0) ([],[],[],[]))) (inv2 (ms a5) a5) a5 (fun i next s hin hr=>?_)).1.trans ?_
 ·unfold gL
  cases d8 st (cJ p.Rules.Loads i).To&&d8 st (cJ p.Rules.Loads i).From
  ·rfl
  ·rw [cond_true,cond_true,gb (hr _)]
 refine (zo6 (st:=st) (s0:=iY (gL p st) (p.Rules.Loads.length - 0) (iY (gP p st) (p.Rules.Pairs.length - 0) (iY (gD p st) (p.Domains.length - 0) ([],[],[],[])))) (inv3 (inv2 (ms a5) a5) a5) a5 (fun i next s hin hr=>?_)).trans ?_
 ·unfold gC
  cases d8 st (cJ p.Rules.Caps i).Station
  ·rfl
  ·rw [cond_true,cond_true,gb (hr _)]
 rfl
abbrev iq (st:List Int)(n:Int):Bool:=d8 st n
theorem zj3 (st:List Int):∀(l:List GDomain) (s:RS),l.foldl (fun s x=>bif d8 st x.Station then (s.1++[x],s.2.1,s.2.2.1,s.2.2.2) else (s.1,s.2.1,s.2.2.1,s.2.2.2)) s=(s.1++l.filter (fun x=>iq st x.Station),s.2.1,s.2.2.1,s.2.2.2)
 | [],s=>by simp
 |x :: l,s=>by
  rw [List.foldl_cons,zj3 st l]
  cases h:d8 st x.Station
  ·rw [List.filter_cons_of_neg (p:=fun x:GDomain=>iq st x.Station) (by show ¬(d8 st x.Station)=true;rw [h];simp)];rfl
  ·rw [List.filter_cons_of_pos (p:=fun x:GDomain=>iq st x.Station) h,cond_true,List.append_assoc];rfl
theorem zks (st:List Int):∀(l:List GPair) (s:RS),l.foldl (fun s x=>bif d8 st x.A&&d8 st x.B then (s.1,s.2.1++[x],s.2.2.1,s.2.2.2) else (s.1,s.2.1,s.2.2.1,s.2.2.2)) s=(s.1,s.2.1++l.filter (fun x=>iq st x.A&&iq st x.B),s.2.2.1,s.2.2.2)
 | [],s=>by simp
 |x :: l,s=>by
  rw [List.foldl_cons,zks st l]
  cases h:d8 st x.A&&d8 st x.B
  ·rw [List.filter_cons_of_neg (p:=fun x:GPair=>iq st x.A&&iq st x.B) (by show ¬(d8 st x.A&&d8 st x.B)=true;rw [h];simp)];rfl
  ·rw [List.filter_cons_of_pos (p:=fun x:GPair=>iq st x.A&&iq st x.B) h,cond_true,List.append_assoc];rfl
theorem zkd (st:List Int):∀(l:List GLoad) (s:RS),l.foldl (fun s x=>bif d8 st x.To&&d8 st x.From then (s.1,s.2.1,s.2.2.1++[x],s.2.2.2) else (s.1,s.2.1,s.2.2.1,s.2.2.2)) s=(s.1,s.2.1,s.2.2.1++l.filter (fun x=>iq st x.To&&iq st x.From),s.2.2.2)
 | [],s=>by simp
 |x :: l,s=>by
  rw [List.foldl_cons,zkd st l]
  cases h:d8 st x.To&&d8 st x.From
  ·rw [List.filter_cons_of_neg (p:=fun x:GLoad=>iq st x.To&&iq st x.From) (by show ¬(d8 st x.To&&d8 st x.From)=true;rw [h];simp)];rfl
  ·rw [List.filter_cons_of_pos (p:=fun x:GLoad=>iq st x.To&&iq st x.From) h,cond_true,List.append_assoc];rfl
theorem zj7 (st:List Int):∀(l:List GCap) (s:RS),l.foldl (fun s x=>bif d8 st x.Station then (s.1,s.2.1,s.2.2.1,s.2.2.2++[x]) else (s.1,s.2.1,s.2.2.1,s.2.2.2)) s=(s.1,s.2.1,s.2.2.1,s.2.2.2++l.filter (fun x=>iq st x.Station))
 | [],s=>by simp
 |x :: l,s=>by
  rw [List.foldl_cons,zj7 st l]
  cases h:d8 st x.Station
  ·rw [List.filter_cons_of_neg (p:=fun x:GCap=>iq st x.Station) (by show ¬(d8 st x.Station)=true;rw [h];simp)];rfl
  ·rw [List.filter_cons_of_pos (p:=fun x:GCap=>iq st x.Station) h,cond_true,List.append_assoc];rfl
theorem zng (p:GProblem)(st:List Int):kr p st=⟨p.Domains.filter (fun x=>iq st x.Station),⟨p.Rules.Pairs.filter (fun x=>iq st x.A&&iq st x.B),p.Rules.Loads.filter (fun x=>iq st x.To&&iq st x.From),p.Rules.Caps.filter (fun x=>iq st x.Station)⟩⟩:=by
 have e:zkY p st=(p.Domains.filter (fun x=>iq st x.Station),p.Rules.Pairs.filter (fun x=>iq st x.A&&iq st x.B),p.Rules.Loads.filter (fun x=>iq st x.To&&iq st x.From),p.Rules.Caps.filter (fun x=>iq st x.Station)):=by
  unfold zkY iY;simp only [Nat.sub_zero];have h1:∀s:RS,(List.range p.Domains.length).foldl (fun s i=>gD p st i s) s=_:=fun s=>(zcj (l:=p.Domains) (g:=fun (s:RS) x=>bif d8 st x.Station then (s.1++[x],s.2.1,s.2.2.1,s.2.2.2) else (s.1,s.2.1,s.2.2.1,s.2.2.2)) (s:=s)).trans (zj3 st _ s);have h2:∀s:RS,(List.range p.Rules.Pairs.length).foldl (fun s i=>gP p st i s) s=_:=fun s=>(zcj (l:=p.Rules.Pairs) (g:=fun (s:RS) x=>bif d8 st x.A&&d8 st x.B then (s.1,s.2.1++[x],s.2.2.1,s.2.2.2) else (s.1,s.2.1,s.2.2.1,s.2.2.2)) (s:=s)).trans (zks st _ s);have h3:∀s:RS,(List.range p.Rules.Loads.length).foldl (fun s i=>gL p st i s) s=_:=fun s=>(zcj (l:=p.Rules.Loads) (g:=fun (s:RS) x=>bif d8 st x.To&&d8 st x.From then (s.1,s.2.1,s.2.2.1++[x],s.2.2.2) else (s.1,s.2.1,s.2.2.1,s.2.2.2)) (s:=s)).trans (zkd st _ s);have h4:∀s:RS,(List.range p.Rules.Caps.length).foldl (fun s i=>gC p st i s) s=_:=fun s=>(zcj (l:=p.Rules.Caps) (g:=fun (s:RS) x=>bif d8 st x.Station then (s.1,s.2.1,s.2.2.1,s.2.2.2++[x]) else (s.1,s.2.1,s.2.2.1,s.2.2.2)) (s:=s)).trans (zj7 st _ s);rw [h1,h2,h3,h4];simp
 unfold kr;rw [e]
theorem zmz {α:Type}[Inhabited α]{lt:α→α→Bool}(ht:∀a b c,lt a b=true→lt b c=true→lt a c=true){l:List α}:fG lt l=true↔l.Pairwise (fun a b=>lt a b=true):=by
 constructor
 ·intro h;have h1:∀i,i+1<l.length→lt (cJ l i) (cJ l (i+1))=true:=fun i hi=>List.all_eq_true.1 h (i+1) (List.mem_range'_1.2 ⟨by omega,by omega⟩)
  have h2:∀d i,i+d+1<l.length→lt (cJ l i) (cJ l (i+d+1))=true:=by
   intro d
   induction d with
   |zero=>intro i hi;exact h1 i hi
   |succ d ih=>intro i hi;exact ht _ _ _ (ih i a5) (h1 (i+d+1) a5)
  refine List.pairwise_iff_getElem.2 fun i j hi hj hij=>?_;rw [←dW hi,←dW hj];have:=h2 (j - i - 1) i a5
  rwa [show i+(j - i - 1)+1=j by omega] at this
 ·intro h;refine List.all_eq_true.2 fun i hi=>?_;have hi:=List.mem_range'_1.1 hi;rw [dW (show i - 1<l.length by omega),dW (show i<l.length by omega)];exact List.pairwise_iff_getElem.1 h (i - 1) i _ _ a5
theorem zmu {a b:Int}{x y:List Int}:ek (a :: x) (b :: y)=true↔a<b∨(a=b∧ek x y=true):=by
 show (bif decide (a=b) then ek x y else decide (a<b))=true↔_
 by_cases h:a=b
 ·rw [decide_eq_true h,cond_true];exact ⟨fun h1=> .inr ⟨h,h1⟩,fun h1=>h1.elim (fun h2=>absurd h2 a5) (·.2)⟩
 ·rw [decide_eq_false h,cond_false,decide_eq_true_eq];exact ⟨.inl,fun h1=>h1.elim id (fun h2=>absurd h2.1 h)⟩
theorem zhM:∀a b c:List Int,ek a b=true→ek b c=true→ek a c=true
 | [],_,_,h,_=>by cases h
 |_ :: _,[],_,h,_=>by cases h
 |_ :: _,_ :: _,[],_,h=>by cases h
 |a :: x,b :: y,c :: z,h1,h2=>by
  rw [zmu] at h1 h2 ⊢;rcases h1 with h1|⟨h1,h3⟩ <;> rcases h2 with h2|⟨h2,h4⟩
  ·left;omega
  ·left;omega
  ·left;omega
  ·exact .inr ⟨by omega,zhM x y z h3 h4⟩
theorem zgm {α:Type}[Inhabited α]{lt:α→α→Bool}(ht:∀a b c,lt a b=true→lt b c=true→lt a c=true){l l':List α}(hs:l'.Sublist l)(h:fG lt l=true):fG lt l'=true:=(zmz ht).2 (((zmz ht).1 h).sublist hs)
theorem zot {α:Type}{l l':List α}{q:α→Bool}(hs:l'.Sublist l)(h:l.all q=true):l'.all q=true:=List.all_eq_true.2 fun x hx=>List.all_eq_true.1 h x (hs.subset hx)
theorem kL {a b:Bool}(ha:a=true)(hb:b=true):(a&&b)=true:=by rw [ha,hb];rfl
structure RulesP (r:GRules):Prop where
 g:RulesGood r
 ip:fG (fun a b=>ek (ku a) (ku b)) r.Pairs=true
 il:fG (fun a b=>ek (ko a) (ko b)) r.Loads=true
 ic:fG (fun a b=>ek (fF a) (fF b)) r.Caps=true
theorem zlW {r:GRules}(h:nk r=true):RulesP r:=by
 have hg:=zd0 h;unfold nk at h;have h1:=fR h;have h2:=fR h1;have h3:=fR h2;have h4:=fR h3;have h5:=fR h4;have h6:=fR h5;have h7:=fR h6;exact ⟨hg,fy h2,fy h5,fR h7⟩
theorem RulesP.b {r:GRules}(h:RulesP r):nk r=true:=by
 have a:=h.g.np;have b:=h.g.nl;have c:=h.g.nc;exact kL (decide_eq_true a5) (kL (List.all_eq_true.2 h.g.p) (kL h.ip (kL (decide_eq_true a5) (kL (List.all_eq_true.2 h.g.l) (kL h.il (kL (decide_eq_true a5) (kL (List.all_eq_true.2 h.g.c) h.ic)))))))
theorem zof (a b c:GPair):ek (ku a) (ku b)=true→ek (ku b) (ku c)=true→ek (ku a) (ku c)=true:=zhM _ _ _
theorem zod (a b c:GLoad):ek (ko a) (ko b)=true→ek (ko b) (ko c)=true→ek (ko a) (ko c)=true:=zhM _ _ _
theorem zpb (a b c:GCap):ek (fF a) (fF b)=true→ek (fF b) (fF c)=true→ek (fF a) (fF c)=true:=zhM _ _ _
theorem RulesP.sub {r r':GRules}(h:RulesP r)(hp:r'.Pairs.Sublist r.Pairs)(hl:r'.Loads.Sublist r.Loads)(hc:r'.Caps.Sublist r.Caps):RulesP r':=by
 refine ⟨⟨?_,?_,?_,fun x hx=>h.g.p x (hp.subset hx),fun x hx=>h.g.l x (hl.subset hx),fun x hx=>h.g.c x (hc.subset hx)⟩,zgm zof hp h.ip,zgm zod hl h.il,zgm zpb hc h.ic⟩
 ·have:=hp.length_le;have:=h.g.np;omega
 ·have:=hl.length_le;have:=h.g.nl;omega
 ·have:=hc.length_le;have:=h.g.nc;omega
theorem zlS {p:GProblem}(h:okP p=true):p.Domains.all mu=true∧RulesP p.Rules∧lu p=true∧zit p=true:=⟨fy h,zlW (fy (fR h)),fy (fR (fR h)),fR (fR (fR h))⟩
theorem zmE {p:GProblem}(h1:p.Domains.all mu=true)(h2:RulesP p.Rules)(h3:lu p=true)(h4:zit p=true):okP p=true:=kL h1 (kL h2.b (kL h3 h4))
theorem zds {p q:GProblem}{st:List Int}{n:Int}(e:q.Domains=p.Domains.filter fun x=>iq st x.Station)(h:iD p n=true)(hs:iq st n=true):iD q n=true:=by
 refine kL (fy h) ?_;obtain ⟨d,hd,hn⟩:=List.any_eq_true.1 (fR h);have e2:=of_decide_eq_true hn;rw [e];exact List.any_eq_true.2 ⟨d,List.mem_filter.2 ⟨hd,by rw [e2];exact hs⟩,hn⟩
theorem znb {p:GProblem}{st:List Int}(h:okP p=true):okP (kr p st)=true:=by
 obtain ⟨h1,h2,h3,h4⟩:=zlS h;rw [zng];refine zmE (zot List.filter_sublist h1) (h2.sub List.filter_sublist List.filter_sublist List.filter_sublist) (zgm (fun a b c x y=>by rw [decide_eq_true_eq] at *;omega) List.filter_sublist h3) ?_;have a1:=List.all_eq_true.1 (fy h4);have a2:=List.all_eq_true.1 (fy (fR h4));have a3:=List.all_eq_true.1 (fR (fR h4));refine kL (List.all_eq_true.2 fun c hc=>?_) (kL (List.all_eq_true.2 fun c hc=>?_) (List.all_eq_true.2 fun c hc=>?_))
 ·obtain ⟨b1,b2⟩:=List.mem_filter.1 hc;exact kL (zds rfl (fy (a1 c b1)) (fy b2)) (zds rfl (fR (a1 c b1)) (fR b2))
 ·obtain ⟨b1,b2⟩:=List.mem_filter.1 hc;exact kL (zds rfl (fy (a2 c b1)) (fy b2)) (zds rfl (fR (a2 c b1)) (fR b2))
 ·obtain ⟨b1,b2⟩:=List.mem_filter.1 hc;exact zds rfl (a3 c b1) b2
section
variable {P:Program}{n:Nat}{B D:World}{M:Nat→Prop}{fs:dY}{hs:HS}{o:Oper}{v:Value}
theorem K.slNil {Q:Exit→Act→World→Prop}{e:Exit}(t:TypeId)(size:Nat)(h:K n B D M Q e fs (.sl (.slice none 0 0) t size 0 [] :: hs)):K n B D M Q e fs hs:=⟨fun a w ha hw hm=>h.out a w ha (hw.slNil t size) hm⟩
def zoQ (v:Value):Prop:=∃A m c,v= .slice (some A) m c
def NilI {α:Type}(v:Value)(l:List α):Prop:=(l=[]∧v= .slice none 0 0)∨(l≠[]∧zoQ v)
theorem NilI.nil {α:Type}:NilI (.slice none 0 0) ([]:List α):= .inl ⟨rfl,rfl⟩
end
structure Gfault where
 first:Int
deriving DecidableEq,Inhabited
abbrev li (x:Gfault):List Value:=[.int .i64 x.first]
theorem Gfault.len (x:Gfault):(li x).length=1:=rfl
structure GWriter where
 fault:Gfault
 out:List Int
deriving DecidableEq,Inhabited
def eA (F:Frz)(c:List Value)(x:GWriter):Prop:=∃(v1:Value),c=[.int .i64 x.fault.first,v1]∧SlC F v1 1 (x.out.map (eK .u8))
theorem GWriter.mono {F G:Frz}{c:List Value}{x:GWriter}(hle:F.Le G)(h:eA F c x):eA G c x:=by
 obtain ⟨v1,h0,h2⟩:=h;exact ⟨v1,h0,h2.mono hle⟩
theorem GWriter.len {F:Frz}{c:List Value}{x:GWriter}(h:eA F c x):c.length=2:=by
 obtain ⟨v1,h0,h2⟩:=h;subst h0;rfl
theorem GWriter.one {F:Frz}{c:List Value}{x:GWriter}(h:eA F c x):OneCs c:=by
 obtain ⟨v1,h0,h2⟩:=h;subst h0;haveI:=h2.oneC
 infer_instance
theorem GWriter.c0 {F:Frz}{c:List Value}{x:GWriter}(h:eA F c x):c[0]?=some (.int .i64 x.fault.first):=by
 obtain ⟨v1,h0,h2⟩:=h;subst h0;rfl
theorem GWriter.c1 {F:Frz}{c:List Value}{x:GWriter}(h:eA F c x):c[1]?=some (cJ c 1)∧SlC F (cJ c 1) 1 (x.out.map (eK .u8)):=by
 obtain ⟨v1,h0,h2⟩:=h;subst h0;exact ⟨rfl,h2⟩
theorem GWriter.form {F:Frz}{c:List Value}{x:GWriter}(h:eA F c x):(c.drop 0).take 2=[.int .i64 x.fault.first,cJ c 1]:=by
 obtain ⟨v1,h0,h2⟩:=h;subst h0;rfl
def zd8 (fuel:Nat)(l0_:List Int)(n:BitVec 64):Option (List Int):=
 dI (fun (s3:List Int×BitVec 64)=>
  ep (dr (s3.1++[(IntKind.u8.wrap (s3.2.toNat:Int))]).length 1) <|
  some (s3.1++[(IntKind.u8.wrap (s3.2.toNat:Int))]))
 (fun k3=>
  iQ (fun (next6:(List Int×BitVec 64)→Option (List Int)) (s6:List Int×BitVec 64)=>
   (bif decide (((127#64).toNat:Int)<(s6.2.toNat:Int)) then
    ep (dr (s6.1++[(orK .u8 (IntKind.u8.wrap (s6.2.toNat:Int)) 128)]).length 1) <|
    next6 ((s6.1++[(orK .u8 (IntKind.u8.wrap (s6.2.toNat:Int)) 128)]),(s6.2 >>> 7))
    else
    k3 (s6.1,s6.2))) fuel (l0_,n))
theorem zh1 (F0:Frz)(w:World)(hF0:F0.At w)(l0_:List Int)(v0_:Value)(n:BitVec 64)(hO:Hp w (dG [.sl v0_ 5 1 l0_.length (l0_.flatMap (eK .u8))]) [.sl v0_ 5 1 l0_.length (l0_.flatMap (eK .u8))] w)(hA:∀g,dG [.sl v0_ 5 1 l0_.length (l0_.flatMap (eK .u8))] g→¬F0.S g)(fuel:Nat)(r:List Int)(hr:zd8 fuel l0_ n=some r):Calls Tryz.prog 102 #[v0_,U n] w fun e w'=>∃(y:Value),(True)∧e= .returned (y)∧FxM F0 w (dG [.sl v0_ 5 1 l0_.length (l0_.flatMap (eK .u8))]) F0 [.sl y 5 1 r.length (r.flatMap (eK .u8))] w':=by
 have hk:=hr;unfold zd8 at hk;haveI:=lB (hO.own (.sl v0_ 5 1 l0_.length (l0_.flatMap (eK .u8))) a9);have hmx0_:=lk (hO.own (.sl v0_ 5 1 l0_.length (l0_.flatMap (eK .u8))) a9);obtain ⟨S0,F1,rfl,hS0,hp0⟩:=lE hF0 hO hA;refine dt (hs:=[.sl v0_ 5 1 l0_.length (l0_.flatMap (eK .u8)), .fr F1]) Tryz.func102 rfl rfl rfl hp0 ?_;refine io ?_;refine TL.slNil 5 1 ?_;refine kY ?_;have hq:=d7 hk;clear hk;obtain ⟨k3,hk3,hk⟩:=hq; (try dsimp only at hk);refine cZ (ι:=List Int×Value×BitVec 64) (fun z=>[(0,z.2.1),(1,U z.2.2)]) (fun z=>[.sl z.2.1 5 1 z.1.length (z.1.flatMap (eK .u8)), .fr F1]) (fun z=>k3 (z.1,z.2.2)=some r∧OneC z.2.1) ?_ ?_
 ·have hq:=zcW hk;clear hk;obtain ⟨f6,hf6,hk⟩:=hq;refine eB ?_;refine T.pick [1,2] rfl a6 ?_;refine T.loop (ι:=Nat×List Int×Value×BitVec 64) (fun z=>[(0,z.2.2.1),(1,U z.2.2.2)]) (fun z=>[.sl z.2.2.1 5 1 z.2.1.length (z.2.1.flatMap (eK .u8)), .fr F1]) (fun z=>iQ f6 z.1 (z.2.1,z.2.2.2)=some r∧OneC z.2.2.1) (fun z=>z.1) (fuel,l0_,v0_,n) ?_ ?_ ?_ ?_
  ·exact q4Y
  ·exact nC
  ·exact eh
  ·rintro ⟨m_7,out_4,vout_4,n_5⟩ ⟨hk,oout_4⟩; (try dsimp only at *);have hq:=zdo hk;clear hk;obtain ⟨m_7',rfl,hk⟩:=hq;generalize hn6:iQ f6 m_7'=next6 at hk;rw [←hf6] at hk; (try dsimp only at hk);refine iA ?_;refine da ?_;refine T.cond rfl (fun h8=>?_) (fun h8=>?_)
   ·replace hk:=dn hk h8;refine T.skip (K.seq (T.block (T.seq ?_)));have hq:(dr (out_4++[(orK .u8 (IntKind.u8.wrap (n_5.toNat:Int)) 128)]).length 1)∧_:=fu hk;clear hk;obtain ⟨g12,hk⟩:=hq; (try dsimp only at hk);refine iR ?_;refine cL (mY (z:=(n_5.toNat:Int)) rfl rfl) ?_;refine cL (Yv.orK (a:=(IntKind.u8.wrap (n_5.toNat:Int))) (b:=128) rfl rfl rfl) ?_;refine jH ?_;rintro _ _ ⟨g11,rfl,rfl⟩;refine cU (fg 1 0 rfl rfl rfl rfl rfl rfl (kv (ys:=[(orK .u8 (IntKind.u8.wrap (n_5.toNat:Int)) 128)])) (zci (enc:=(eK .u8)) (xs:=out_4) (ys:=[(orK .u8 (IntKind.u8.wrap (n_5.toNat:Int)) 128)])) g12 a6) ?_;rintro v12 _ ⟨hv12,rfl⟩;refine di ?_;refine da (T.region ?_);refine di ?_;refine cL (fU (a:=n_5) 7 rfl rfl rfl (show (7:Int)=((7:Nat):Int) from rfl) a5) ?_;refine di ?_;refine TL.nil (gE ?_);rw [←hn6] at hk;refine mL ?_;exact K.next (m_7',(out_4++[(orK .u8 (IntKind.u8.wrap (n_5.toNat:Int)) 128)]),v12,(n_5 >>> 7)) ⟨hk,inferInstance⟩ a8 (.c (.c .nil)) (List.Sublist.refl _)
   ·replace hk:=dp hk h8;refine eE ?_;exact cS (out_4,vout_4,n_5) ⟨hk,inferInstance⟩ (.c (.c .nil)) (List.Sublist.refl _)
 ·rintro ⟨out_1,vout_1,n_2⟩ ⟨hk,oout_1⟩; (try dsimp only at *);rw [←hk3] at hk; (try dsimp only at hk);refine T.seq ?_;have hq:(dr (out_1++[(IntKind.u8.wrap (n_2.toNat:Int))]).length 1)∧_:=fu hk;clear hk;obtain ⟨g19,hk⟩:=hq; (try dsimp only at hk);refine iR ?_;refine cL (mY (z:=(n_2.toNat:Int)) rfl rfl) ?_;refine jH ?_;rintro _ _ ⟨g18,rfl,rfl⟩;refine cU (fg 1 0 rfl rfl rfl rfl rfl rfl (kv (ys:=[(IntKind.u8.wrap (n_2.toNat:Int))])) (zci (enc:=(eK .u8)) (xs:=out_1) (ys:=[(IntKind.u8.wrap (n_2.toNat:Int))])) g19 a6) ?_;rintro v19 _ ⟨hv19,rfl⟩;refine ft ?_;obtain rfl:=Option.some.inj hk;exact c4 rfl rfl (fun w' hw=>⟨v19,trivial,rfl,dA (hw.pick (idx:=[1,2]) rfl a6) hS0 (Frz.Le.refl _)⟩)
def zaS (x0_:GWriter):Bool:=
 (decide (x0_.fault.first=0))
theorem zcR (F0:Frz)(w:World)(hF0:F0.At w)(x0_:GWriter)(g0_:Nat)(v0_1:Value)(hO:Hp w (dG [.row g0_ 128 [.int .i64 x0_.fault.first,v0_1], .sl v0_1 5 1 x0_.out.length (x0_.out.flatMap (eK .u8))]) [.row g0_ 128 [.int .i64 x0_.fault.first,v0_1], .sl v0_1 5 1 x0_.out.length (x0_.out.flatMap (eK .u8))] w)(hA:∀g,dG [.row g0_ 128 [.int .i64 x0_.fault.first,v0_1], .sl v0_1 5 1 x0_.out.length (x0_.out.flatMap (eK .u8))] g→¬F0.S g):Calls Tryz.prog 99 #[.pointer (some ⟨g0_,0,none⟩)] w fun e w'=>∃(y:Unit),(True)∧e= .returned (.bool (zaS x0_))∧FxM F0 w (dG [.row g0_ 128 [.int .i64 x0_.fault.first,v0_1], .sl v0_1 5 1 x0_.out.length (x0_.out.flatMap (eK .u8))]) F0 [.row g0_ 128 [.int .i64 x0_.fault.first,v0_1], .sl v0_1 5 1 x0_.out.length (x0_.out.flatMap (eK .u8))] w':=by
 obtain ⟨r,hk⟩:∃r,zaS x0_=r:=⟨_,rfl⟩;rw [hk];unfold zaS at hk;haveI:=lB (hO.own (.sl v0_1 5 1 x0_.out.length (x0_.out.flatMap (eK .u8))) a9);have hmx0_1:=lk (hO.own (.sl v0_1 5 1 x0_.out.length (x0_.out.flatMap (eK .u8))) a9);obtain ⟨S0,F1,rfl,hS0,hp0⟩:=lE hF0 hO hA;refine dt (hs:=[.row g0_ 128 [.int .i64 x0_.fault.first,v0_1], .sl v0_1 5 1 x0_.out.length (x0_.out.flatMap (eK .u8)), .fr F1]) Tryz.func99 rfl rfl rfl hp0 ?_;refine eY ?_;refine cZ (ι:=Unit) (fun z=>[(2, .bool (decide (x0_.fault.first=0)))]) (fun z=>[.row g0_ 128 [.int .i64 x0_.fault.first,v0_1], .sl v0_1 5 1 x0_.out.length (x0_.out.flatMap (eK .u8)), .fr F1]) (fun z=>True) ?_ ?_
 ·refine gH ?_;refine cL (Yv.co (e:=128) a7 rfl rfl rfl) ?_;refine eJ ?_;refine e9 ?_;refine eg ?_;refine eJ ?_;refine eT ?_;exact cS () trivial (.c .nil) (List.Sublist.refl _)
 ·refine m5 ?_;subst hk;exact q5g
def zba (x0_:GWriter)(l1_:List Int):Option (List Int):=
 (bif decide (65536<(l1_.length:Int)) then
  none
  else
  some l1_)
theorem zcK (F0:Frz)(w:World)(hF0:F0.At w)(x0_:GWriter)(g0_:Nat)(v0_1:Value)[iv0_1:OneC v0_1](l1_:List Int)(v1_:Value)(hO:Hp w (dG [.row g0_ 128 [.int .i64 x0_.fault.first,v0_1], .sl v1_ 5 1 l1_.length (l1_.flatMap (eK .u8))]) [.row g0_ 128 [.int .i64 x0_.fault.first,v0_1], .sl v1_ 5 1 l1_.length (l1_.flatMap (eK .u8))] w)(hA:∀g,dG [.row g0_ 128 [.int .i64 x0_.fault.first,v0_1], .sl v1_ 5 1 l1_.length (l1_.flatMap (eK .u8))] g→¬F0.S g)(r:List Int)(hr:zba x0_ l1_=some r):Calls Tryz.prog 101 #[.pointer (some ⟨g0_,0,none⟩),v1_] w fun e w'=>∃(y:Value),(True)∧e= .returned (.tuple #[])∧FxM F0 w (dG [.row g0_ 128 [.int .i64 x0_.fault.first,v0_1], .sl v1_ 5 1 l1_.length (l1_.flatMap (eK .u8))]) F0 [.row g0_ 128 [.int .i64 x0_.fault.first,y], .sl y 5 1 r.length (r.flatMap (eK .u8))] w':=by
 have hk:=hr;unfold zba at hk;haveI:=lB (hO.own (.sl v1_ 5 1 l1_.length (l1_.flatMap (eK .u8))) a9);have hmx1_:=lk (hO.own (.sl v1_ 5 1 l1_.length (l1_.flatMap (eK .u8))) a9);obtain ⟨S0,F1,rfl,hS0,hp0⟩:=lE hF0 hO hA;refine dt (hs:=[.row g0_ 128 [.int .i64 x0_.fault.first,v0_1], .sl v1_ 5 1 l1_.length (l1_.flatMap (eK .u8)), .fr F1]) Tryz.func101 rfl rfl rfl hp0 ?_;refine jC ?_;refine cL (lQ 1 rfl rfl rfl) ?_;refine dx ?_;refine T.cond rfl (fun h1=>?_) (fun h1=>?_)
 ·have p1:=of_decide_eq_true h1;replace hk:=dn hk h1;refine T.seq ?_;cases hk
 ·have p1:=of_decide_eq_false h1;replace hk:=dp hk h1;refine T.skip (K.seq (T.region ?_));refine eJ ?_;refine e9 ?_;refine eL (ei 0 rfl rfl rfl rfl a9) ?_;refine fm ?_;refine eT ?_;obtain rfl:=Option.some.inj hk;exact mf rfl (fun w' hw=>⟨v1_,trivial,rfl,dA (hw.pick (idx:=[0,1,2]) rfl a6) hS0 (Frz.Le.refl _)⟩)
def zax (fuel:Nat)(x0_:GWriter)(n:Int):Option (List Int):=
 (bif !(zaS x0_) then
  some x0_.out
  else
  (bif decide (n<0) then
   none
   else
   (zd8 fuel x0_.out (BitVec.ofInt 64 n)).bind fun r20=>
   (zba x0_ r20).bind fun r21=>
   some r21))
theorem zaE (F0:Frz)(w:World)(hF0:F0.At w)(x0_:GWriter)(g0_:Nat)(v0_1:Value)(n:Int)(hO:Hp w (dG [.row g0_ 128 [.int .i64 x0_.fault.first,v0_1], .sl v0_1 5 1 x0_.out.length (x0_.out.flatMap (eK .u8))]) [.row g0_ 128 [.int .i64 x0_.fault.first,v0_1], .sl v0_1 5 1 x0_.out.length (x0_.out.flatMap (eK .u8))] w)(hA:∀g,dG [.row g0_ 128 [.int .i64 x0_.fault.first,v0_1], .sl v0_1 5 1 x0_.out.length (x0_.out.flatMap (eK .u8))] g→¬F0.S g)(fuel:Nat)(r:List Int)(hr:zax fuel x0_ n=some r):Calls Tryz.prog 68 #[.pointer (some ⟨g0_,0,none⟩), .int .i64 n] w fun e w'=>∃(y:Value),(True)∧e= .returned (.tuple #[])∧FxM F0 w (dG [.row g0_ 128 [.int .i64 x0_.fault.first,v0_1], .sl v0_1 5 1 x0_.out.length (x0_.out.flatMap (eK .u8))]) F0 [.row g0_ 128 [.int .i64 x0_.fault.first,y], .sl y 5 1 r.length (r.flatMap (eK .u8))] w':=by
 have hk:=hr;unfold zax at hk;haveI:=lB (hO.own (.sl v0_1 5 1 x0_.out.length (x0_.out.flatMap (eK .u8))) a9);have hmx0_1:=lk (hO.own (.sl v0_1 5 1 x0_.out.length (x0_.out.flatMap (eK .u8))) a9);obtain ⟨S0,F1,rfl,hS0,hp0⟩:=lE hF0 hO hA;refine dt (hs:=[.row g0_ 128 [.int .i64 x0_.fault.first,v0_1], .sl v0_1 5 1 x0_.out.length (x0_.out.flatMap (eK .u8)), .fr F1]) Tryz.func68 rfl rfl rfl hp0 ?_;refine jC ?_;refine cU (fi [0,1,2] [.row g0_ 128 [.int .i64 x0_.fault.first,v0_1], .sl v0_1 5 1 x0_.out.length (x0_.out.flatMap (eK .u8))] [] rfl rfl rfl rfl a6 (fun w hw hw2 hF=>zcR _ w hF x0_ g0_ v0_1 hw2.takes.1 hw2.takes.2)) ?_;rintro _ _ ⟨⟨⟩, -,rfl,rfl⟩;refine fE ?_;refine dx ?_;refine T.cond rfl (fun h1=>?_) (fun h1=>?_)
 ·replace hk:=dn hk h1;refine T.ret (ed ?_);obtain rfl:=Option.some.inj hk;exact K.bS rfl (fun w' hw=>⟨v0_1,trivial,rfl,dA (hw.pick (idx:=[0,1,2]) rfl a6) hS0 (Frz.Le.refl _)⟩)
 ·replace hk:=dp hk h1;refine mm ?_;refine jA ?_;refine T.cond rfl (fun h2=>?_) (fun h2=>?_)
  ·have p2:=of_decide_eq_true h2;replace hk:=dn hk h2;refine T.seq ?_;cases hk
  ·have p2:=of_decide_eq_false h2;replace hk:=dp hk h2;refine mD ?_;have hq:=dZ hk;clear hk;obtain ⟨r20,hr20,hk⟩:=hq;have hq:=dZ hk;clear hk;obtain ⟨r21,hr21,hk⟩:=hq; (try dsimp only at hk);refine q4A ?_;refine i3 ?_;refine cL (Yv.bX (z:=n) rfl rfl) ?_;refine cU (fi [1,2,0] [.sl v0_1 5 1 x0_.out.length (x0_.out.flatMap (eK .u8))] [.row g0_ 128 [.int .i64 x0_.fault.first,v0_1]] rfl rfl rfl rfl a6 (fun w hw hw2 hF=>zh1 _ w hF x0_.out v0_1 (BitVec.ofInt 64 n) hw2.takes.1 hw2.takes.2 fuel r20 hr20)) ?_;rintro v20_0_0 _ ⟨_, -,rfl,rfl⟩;refine fE ?_;refine fL 0 rfl ?_;intro iv20_0_0 hmv20_0_0;refine cU (fi [2,0,1] [.row g0_ 128 [.int .i64 x0_.fault.first,v0_1], .sl v20_0_0 5 1 r20.length (r20.flatMap (eK .u8))] [] rfl rfl rfl rfl a6 (fun w hw hw2 hF=>zcK _ w hF x0_ g0_ v0_1 r20 v20_0_0 hw2.takes.1 hw2.takes.2 r21 hr21)) ?_;rintro _ _ ⟨v21_0_1, -,rfl,rfl⟩;refine q4y ?_;intro iv21_0_1 hmv21_0_1;refine eT ?_;obtain rfl:=Option.some.inj hk;exact mf rfl (fun w' hw=>⟨v21_0_1,trivial,rfl,dA (hw.pick (idx:=[0,1,2]) rfl a6) hS0 (Frz.Le.refl _)⟩)
def zbr (x0_:GWriter):Option (List Int×Int):=
 (bif decide (¬x0_.fault.first=0) then
  some ([],x0_.fault.first)
  else
  ep (dr ([]++x0_.out).length 1) <|
  some (([]++x0_.out),0))
theorem zdd (F0:Frz)(w:World)(hF0:F0.At w)(x0_:GWriter)(g0_:Nat)(v0_1:Value)(hO:Hp w (dG [.row g0_ 128 [.int .i64 x0_.fault.first,v0_1], .sl v0_1 5 1 x0_.out.length (x0_.out.flatMap (eK .u8))]) [.row g0_ 128 [.int .i64 x0_.fault.first,v0_1], .sl v0_1 5 1 x0_.out.length (x0_.out.flatMap (eK .u8))] w)(hA:∀g,dG [.row g0_ 128 [.int .i64 x0_.fault.first,v0_1], .sl v0_1 5 1 x0_.out.length (x0_.out.flatMap (eK .u8))] g→¬F0.S g)(r:List Int×Int)(hr:zbr x0_=some r):Calls Tryz.prog 69 #[.pointer (some ⟨g0_,0,none⟩)] w fun e w'=>∃(y:Value),(True)∧e= .returned (.tuple #[y, .int .i64 r.2])∧FxM F0 w (dG [.row g0_ 128 [.int .i64 x0_.fault.first,v0_1], .sl v0_1 5 1 x0_.out.length (x0_.out.flatMap (eK .u8))]) F0 [.row g0_ 128 [.int .i64 x0_.fault.first,v0_1], .sl v0_1 5 1 x0_.out.length (x0_.out.flatMap (eK .u8)), .sl y 5 1 r.1.length (r.1.flatMap (eK .u8))] w':=by
 have hk:=hr;unfold zbr at hk;haveI:=lB (hO.own (.sl v0_1 5 1 x0_.out.length (x0_.out.flatMap (eK .u8))) a9);have hmx0_1:=lk (hO.own (.sl v0_1 5 1 x0_.out.length (x0_.out.flatMap (eK .u8))) a9);obtain ⟨S0,F1,rfl,hS0,hp0⟩:=lE hF0 hO hA;refine dt (hs:=[.row g0_ 128 [.int .i64 x0_.fault.first,v0_1], .sl v0_1 5 1 x0_.out.length (x0_.out.flatMap (eK .u8)), .fr F1]) Tryz.func69 rfl rfl rfl hp0 ?_;refine io ?_;refine TL.slNil 5 1 ?_;refine ny ?_;refine cL (nh (e:=128) a7 rfl rfl rfl) ?_;refine mU ?_;refine mm ?_;refine d5 ?_;refine e9 ?_;refine lZ ?_;refine dx ?_;refine T.cond rfl (fun h1=>?_) (fun h1=>?_)
 ·have p1:=of_decide_eq_true h1;replace hk:=dn hk h1;refine T.seq ?_;refine dD (sN 0 6 (.still 6 .done)) _ a7 (List.Sublist.refl _) ?_;refine jJ ?_;refine q2e ?_;refine TS.slNil 5 1 ?_;refine mA ?_;refine K.seq (T.ret (ed ?_));obtain rfl:=Option.some.inj hk;exact et rfl rfl rfl (fun w' hw=>⟨(.slice none 0 0),trivial,rfl,dA (hw.pick (idx:=[2,3,0,4]) rfl a6) hS0 (Frz.Le.refl _)⟩)
 ·have p1:=of_decide_eq_false h1;replace hk:=dp hk h1;refine je ?_;have hq:(dr ([]++x0_.out).length 1)∧_:=fu hk;clear hk;obtain ⟨g21,hk⟩:=hq; (try dsimp only at hk);refine iR ?_;refine lZ ?_;refine TL.slNil 5 1 ?_;refine cU (Ew.bW 0 3 (znp (fun _=>inferInstance)) rfl rfl rfl rfl rfl (zm1 ([]:List Int) x0_.out) (zmm (enc:=(eK .u8)) ([]:List Int) x0_.out) g21 a6) ?_;rintro v21 _ ⟨hv21,rfl⟩;refine jO ?_;obtain rfl:=Option.some.inj hk;exact et rfl rfl rfl (fun w' hw=>⟨v21,trivial,rfl,dA (hw.pick (idx:=[2,3,0,4]) rfl a6) hS0 (Frz.Le.refl _)⟩)
end Go.Proofs.YtogbggmckmnlfaaGreatDoor
namespace Go.Proofs.YtogbggmckmnlfaaGreatDoor
open Go.RowKit Go.Sort
section
variable {Fe:Fence}[hFe:Calm Fe]{P:Program}{n:Nat}{B D w:World}{M S0:Nat→Prop}{Q:Exit→Act→World→Prop}{fs:dY}{hs:HS}{ops:Array Oper}
theorem Hp.litO {j g k m size:Nat}{t:TypeId}{l l2:List Value}(hw:Hp B M hs w)(hj:hs[j]?=some (.row g t l))(he:l2=l)(hk:k=m)(hl:l.length=m*size)(hn:m≤1000):Hp B M (hs.set j (.sl (.slice (some ⟨g,0,none⟩) m m) t size k l2)) w:=by
 subst he;subst hk;have hr:=c6.1 (hw.get hj);refine hw.updAt (S:=fun _=>False) hj (Only.refl _ _) (fun _ _ h=>h.elim) (cY.2 ⟨hl, .inr ⟨g,k,_,rfl,Nat.zero_le _,hr,Nat.le_refl _,by unfold maxLen;omega,by simpa using hl,?_⟩⟩) (fun q hq=> .inl ?_)
 ·rw [←hl];simp
 ·have h1:=dg.1 hq;simp only [Value.ownBlock,Option.some.injEq] at h1;exact cT.2 h1.symm
theorem TL.litO {r:List Oper}{g k m size:Nat}{t:TypeId}{l l2:List Value}(j:Nat)(hj:hs[j]?=some (.row g t l))(he:l2=l)(hk:k=m)(hl:l.length=m*size)(hn:m≤1000)(h:TL Fe P n B D M ops Q r fs (hs.set j (.sl (.slice (some ⟨g,0,none⟩) m m) t size k l2))):TL Fe P n B D M ops Q r fs hs:=
 jS (ι:=Unit) (φ:=fun _=>True) (hs':=fun _=>hs.set j (.sl (.slice (some ⟨g,0,none⟩) m m) t size k l2)) (fun w hw=>⟨(),trivial,hw.litO hj he hk hl hn⟩) (fun _ _=>h)
end
def zlP:Go.Shelf.Ren:=⟨fun|35=>49|n=>n,fun|0=>0|3=>3|4=>4|22=>31|23=>50|n=>n,fun|n=>n⟩
theorem zo8:Go.Proofs.SlLaysE.n35 Tryz.prog zlP:={
 mixed:=by kernel_rfl
 f35:=⟨Tryz.f49.name,by decide,Tryz.func49.trans (congrArg some a7)⟩
 t0:=Tryz.underlying0
 a0:=Tryz.isAgg0
 z0:=Tryz.sizeOf0
 v0:=Tryz.zeroValue0
 t3:=Tryz.underlying3
 a3:=Tryz.isAgg3
 z3:=Tryz.sizeOf3
 v3:=Tryz.zeroValue3
 t4:=Tryz.underlying4
 a4:=Tryz.isAgg4
 z4:=Tryz.sizeOf4
 v4:=Tryz.zeroValue4
 t22:=Tryz.underlying31
 a22:=Tryz.isAgg31
 z22:=Tryz.sizeOf31
 v22:=Tryz.zeroValue31
 a23:=Tryz.isAgg50
 z23:=Tryz.sizeOf50 }
abbrev kC:={ v:Value // v.oneCell'=true }
instance:Inhabited kC:=⟨⟨.int .i64 0,rfl⟩⟩
def i2 (x:kC):Value:=x.1
theorem zm9:OneCell i2:=fun x=>x.2
theorem mapV {l:List Value}(h:∀v∈l,v.oneCell'=true):∃zs:List kC,zs.map i2=l:=by
 induction l with
 |nil=>exact ⟨[],rfl⟩
 |cons v l ih=>
  obtain ⟨zs,hz⟩:=ih fun u hu=>h u (List.mem_cons_of_mem _ hu);exact ⟨⟨v,h v (List.mem_cons_self ..)⟩ :: zs,by rw [List.map_cons,hz];rfl⟩
theorem revE (blk off cap : Nat) (zs : List kC) (w : World) (hH : Holds i2 w blk off zs.toArray) (hsz : zs.length ≤ 9223372036854775807) :
    Calls Tryz.prog 49 #[.slice (some ⟨blk, off, none⟩) zs.length cap] w fun e w' => e = .returned (.tuple #[]) ∧ ∃ n, w' = putRow i2 (Sort.ahead w n) blk off zs.reverse.toArray := AnyE.slices_Reverse zo8 i2 zm9 blk off cap zs w hH hsz
theorem revE0 (a : Option Addr) (cap : Nat) (w : World) :
    Calls Tryz.prog 49 #[.slice a 0 cap] w fun e w' => e = .returned (.tuple #[]) ∧ w' = w := AnyE.slices_Reverse_empty zo8 a cap w
section
variable {w:World}{g n:Nat}{cur:Array Value}{e:TypeId}{zs:List kC}
theorem zpe (hb:w.heap[g]?=some (.cells cur e (0,0)))(ht:cur.toList.take zs.length=zs.map i2):Holds i2 w g 0 zs.toArray:=by
 intro j hj; (have hj':j<zs.length:=by simpa using hj);refine ⟨?_,by simp [World.frozen?,hb]⟩; (have h1:(cur.toList.take zs.length)[j]?=(zs.map i2)[j]?:=by rw [ht]);rw [List.getElem?_take_of_lt hj'] at h1;simp only [World.cell?,hb,Nat.zero_add];simp only [Option.isSome_none,Bool.false_eq_true,if_false];rw [←Array.getElem?_toList,h1];simp [hj']
theorem heapV (d:Array kC)(hb:w.heap[g]?=some (.cells cur e (0,0))):(putRow i2 (Sort.ahead w n) g 0 d).heap[g]?=some (.cells (putCells i2 0 d cur) e (0,0)):=by
 have hg:g<w.heap.size:=(Array.getElem?_eq_some_iff.1 hb).1;simp [putRow,mapBlock,Sort.ahead,Array.getElem?_modify,hb,onCells]
theorem onlyV (d:Array kC){v:Value}{size k:Nat}{l:List Value}(hv:v.ownBlock=some g):Only (Ent.sl v e size k l).fp w (putRow i2 (Sort.ahead w n) g 0 d):=by
 refine ⟨rfl,rfl,rfl,by simp [putRow,mapBlock,Sort.ahead],fun k hk hn=>?_⟩;have:g≠k:=fun q=>hn (dg.2 (by rw [hv,q]));simp [putRow,mapBlock,Sort.ahead,Array.getElem?_modify,this]
theorem takeV (ts:List kC)(h:ts.length≤cur.size):(putCells i2 0 ts.toArray cur).toList.take ts.length=ts.map i2:=by
 apply List.ext_getElem?;intro j;by_cases hj:j<ts.length
 ·rw [List.getElem?_take_of_lt hj,Array.getElem?_toList];simp [putCells,hj,show j<cur.size by omega]
 ·rw [List.getElem?_take_eq_none a5,List.getElem?_eq_none cG]
end
theorem znU {w:World}{v0:Value}{cells:List Value}(hc:∀v∈cells,v.oneCell'=true)(hk:(Ent.sl v0 50 1 cells.length cells).ok w):Calls Tryz.prog 49 #[v0] w fun e w'=>e= .returned (.tuple #[])∧Only (Ent.sl v0 50 1 cells.length cells).fp w w'∧(Ent.sl v0 50 1 cells.length cells.reverse).ok w':=by
 have ho:=cY.1 hk;obtain ⟨zs,rfl⟩:=mapV hc;rcases ho.2 with ⟨rfl,h0⟩|⟨g,cap,cur,rfl,hb,hg,h1,h2,h3,h4⟩
 ·rw [List.length_map] at h0;obtain rfl:=List.eq_nil_of_length_eq_zero h0;refine (revE0 none 0 w).mono ?_;rintro e w' ⟨rfl,rfl⟩;exact ⟨rfl,Only.refl _ _,hk⟩
 ·rw [Nat.mul_one] at h3 h4;rw [List.length_map] at h1 h4 ⊢;refine (revE g 0 cap zs w (zpe hg h4) (by unfold maxLen at h2;omega)).mono ?_;rintro e w' ⟨rfl,n,rfl⟩;refine ⟨rfl,onlyV _ rfl,cY.2 ⟨by simp, .inr ⟨g,cap,_,rfl,Nat.zero_le _,heapV _ hg,h1,h2,by simp [putCells,h3],?_⟩⟩⟩;rw [Nat.mul_one,←List.map_reverse];have:=takeV (cur:=cur) zs.reverse (by rw [List.length_reverse];omega)
  rwa [List.length_reverse] at this
theorem FxM.one {F0:Frz}{w w':World}{E E':Ent}(hF0:F0.At w)(hO:Hp w (dG [E]) [E] w)(hA:∀g,dG [E] g→¬F0.S g)(ho:Only E.fp w w')(hok:E'.ok w')(hfp:∀g,E'.fp g→E.fp g∨w.heap.size≤g):FxM F0 w (dG [E]) F0 [E'] w':=by
 obtain ⟨S0,G,rfl,hS,h⟩:=lE hF0 hO hA;refine dA (es:=[E']) (iL (es:=[E]) (es':=[E']) (hs:=[.fr G]) h ho (fun g _ hg=>⟨E,by simp,hg⟩) (fun e he=>?_) (fun e he g hg=>?_) (List.pairwise_singleton _ _)) hS (Frz.Le.refl _)
 ·obtain rfl:=List.mem_singleton.1 he;exact hok
 ·obtain rfl:=List.mem_singleton.1 he;exact (hfp g hg).imp (fun h=>⟨E,by simp,h⟩) id
def zdI (l:List (List GChoice)):List (List GChoice):=l.reverse
theorem nj {α:Type}[Inhabited α]{rep:Frz→List Value→α→Prop}{F:Frz}{size:Nat}{cs:List (List Value)}{xs:List α}(h:OwnD rep F size cs xs):OwnD rep F size cs.reverse xs.reverse:=by
 refine ⟨by rw [List.length_reverse,List.length_reverse];exact h.1,fun c hc=>h.2.1 c (List.mem_reverse.1 hc),fun i hi=>?_⟩;rw [List.length_reverse] at hi
 have e1:cJ cs.reverse i=cJ cs (xs.length - 1 - i):=by
  have:=h.1;rw [dW (by rw [List.length_reverse];omega),dW a5,List.getElem_reverse]
  congr 1;omega
 have e2:cJ xs.reverse i=cJ xs (xs.length - 1 - i):=by
  rw [dW (by rw [List.length_reverse];omega),dW a5,List.getElem_reverse]
 rw [e1,e2];exact h.2.2 _ a5
theorem zkf:∀ {cs:List (List Value)},(∀c∈cs,c.length=1)→cs.reverse.flatten=cs.flatten.reverse
 | [],_=>rfl
 |c :: cs,h=>by
  rw [List.reverse_cons,List.flatten_append,show (c :: cs).flatten=c++cs.flatten from rfl,List.reverse_append,zkf fun d hd=>h d (List.mem_cons_of_mem _ hd)]
  congr 1
  have hc:=h c (List.mem_cons_self ..)
  match c,hc with
  | [v],_=>rfl
theorem znz:∀ {cs:List (List Value)},(∀c∈cs,c.length=1)→cs.flatten.length=cs.length
 | [],_=>rfl
 |c :: cs,h=>by
  rw [List.flatten_cons,List.length_append,znz fun d hd=>h d (List.mem_cons_of_mem _ hd),h c (List.mem_cons_self ..),List.length_cons];omega
theorem zhP (F0 : Frz) (w : World) (hF0 : F0.At w) (l0_ : List (List GChoice)) (v0_ : Value) (c0_ : List (List Value)) (h0_ : OwnD cI F0 1 c0_ l0_) (hO : Hp w (dG [.sl v0_ 50 1 l0_.length c0_.flatten]) [.sl v0_ 50 1 l0_.length c0_.flatten] w) (hA : ∀ g, dG [.sl v0_ 50 1 l0_.length c0_.flatten] g → ¬ F0.S g) :
    Calls Tryz.prog 49 #[v0_] w fun e w' => ∃ (y : List (List Value)), (OwnD cI F0 1 y (zdI l0_)) ∧ e = .returned (.tuple #[]) ∧ FxM F0 w (dG [.sl v0_ 50 1 l0_.length c0_.flatten]) F0 [.sl v0_ 50 1 (zdI l0_).length y.flatten] w' := by
  have hk := hO.own _ (List.mem_cons_self ..); (have hl : c0_.flatten.length = l0_.length := by rw [znz h0_.2.1, h0_.1])
  have h1 : ∀ v ∈ c0_.flatten, v.oneCell' = true := fun v hv => by
    obtain ⟨c, hc, hv⟩ := List.mem_flatten.1 hv; obtain ⟨i, hi, rfl⟩ := List.mem_iff_getElem.1 hc; have := h0_.2.2 i (by have := h0_.1; omega); rw [dW hi] at this; exact (R_List_GChoice.one this).h v hv
  rw [← hl] at hk;refine (znU h1 hk).mono ?_; rintro e w' ⟨rfl, h2, h3⟩; rw [hl] at h2 h3;refine ⟨c0_.reverse, nj h0_, rfl, FxM.one hF0 hO hA h2 ?_ fun g h => .inl (dg.2 (dg.1 h))⟩; unfold zdI; rw [List.length_reverse, zkf h0_.2.1]; exact h3
end Go.Proofs.YtogbggmckmnlfaaGreatDoor
