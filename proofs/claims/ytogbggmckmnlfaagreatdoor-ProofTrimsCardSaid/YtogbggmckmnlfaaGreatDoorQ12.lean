/- W7 Kn Yw Kr: shortened and put together by squeeze.py. -/
import Derived.Test.YtogbggmckmnlfaaGreatDoorQ11
import Derived.Shelf.SlicesE.Reverse
import Derived.Ground.SlgnProg
set_option maxRecDepth 100000
set_option maxHeartbeats 4000000
set_option linter.unusedVariables false
set_option linter.unusedSectionVars false
set_option linter.unusedSimpArgs false
namespace Go.Proofs.YtogbggmckmnlfaaGreatDoor
open Go.RowKit
theorem zcf {ρ:Type}{f:Nat→(Unit→ρ)→Unit→ρ}{k:Unit→ρ}{z:ρ}(q:Nat→Bool){n s:Nat}(hf:∀i next,s≤i→i<s+n→f i next ()=bif q i then next () else z):c6 f k n s ()=bif (List.range' s n).all q then k () else z:=by
 induction n generalizing s with
 |zero=>rfl
 |succ m ih=>
  show f s (c6 f k m (s+1)) ()=_
  rw [hf s _ (Nat.le_refl _) a5,ih (fun i next h1 h2=>hf i next a5 a5),List.range'_succ,List.all_cons]
  cases q s <;> rfl
theorem zok (n:Nat)(g t:Nat→Bool):(List.range' 0 n).all (fun i=>g i&&(bif decide (0<(i:Int)) then t i else true))=((List.range' 0 n).all g&&(List.range' 1 (n - 1)).all t):=by
 rw [Bool.eq_iff_iff,Bool.and_eq_true,List.all_eq_true,List.all_eq_true,List.all_eq_true];constructor
 ·intro h;refine ⟨fun i hi=>((Bool.and_eq_true _ _).mp (h i hi)).1,fun i hi=>?_⟩;have hi':=List.mem_range'_1.1 hi;have h2:=((Bool.and_eq_true _ _).mp (h i (List.mem_range'_1.2 ⟨by omega,by omega⟩))).2
  rwa [decide_eq_true a5,cond_true] at h2
 ·rintro ⟨h1,h2⟩ i hi;have hi':=List.mem_range'_1.1 hi;rw [Bool.and_eq_true];refine ⟨h1 i hi,?_⟩;by_cases h0:0<(i:Int)
  ·rw [decide_eq_true h0,cond_true];exact h2 i (List.mem_range'_1.2 ⟨by omega,by omega⟩)
  ·rw [decide_eq_false h0];rfl
def ep:List Int→List Int→Bool
 |a :: x,b :: y=>bif decide (a=b) then ep x y else decide (a<b)
 |_,_=>false
theorem zmz {a b:List Int}{i:Nat}(h1:i<a.length)(h2:i<b.length):ep (a.drop i) (b.drop i)=bif decide (cJ a i=cJ b i) then ep (a.drop (i+1)) (b.drop (i+1)) else decide (cJ a i<cJ b i):=by
 rw [List.drop_eq_getElem_cons h1,List.drop_eq_getElem_cons h2,←dV h1,←dV h2];rfl
theorem zj3 {a b:List Int}(h:a.length=b.length):mb a b=some (ep a b):=by
 have key:∀m i,i+m=a.length→c6 (fun (i:Nat) (next:Unit→Option Bool) (_:Unit)=>ej (0≤(i:Int)∧(i:Int)<(b.length:Int)) (bif decide (¬cJ a i=cJ b i) then some (decide (cJ a i<cJ b i)) else next ())) (fun _=>some false) m i ()=some (ep (a.drop i) (b.drop i)):=by
  intro m
  induction m with
  |zero=>intro i e;rw [List.drop_eq_nil_of_le (show a.length≤i by omega)];rfl
  |succ m ih=>
   intro i e;have h2:=ih (i+1) a5
   show ej _ _=_
   rw [fE ⟨by omega,by omega⟩,zmz a5 a5];by_cases e2:cJ a i=cJ b i
   ·rw [decide_eq_true e2,decide_eq_false (fun hn=>hn e2),cond_false];exact h2
   ·rw [decide_eq_false e2,decide_eq_true e2,cond_true];rfl
 have:=key a.length 0 a5;rw [List.drop_zero,List.drop_zero] at this;exact this
def cmpc (a b:Int):Int:=bif decide (a<b) then -1 else bif decide (b<a) then 1 else 0
theorem cmp_x (a b:Int):zbc a b=cmpc a b:=by
 unfold zbc zbt;rw [decide_eq_false (fun h=>h rfl),decide_eq_false (fun h=>h rfl)];rfl
def kE (x:GPair):List Int:=[x.A,x.B,x.Offset,x.Low,x.High]
def kC (x:GLoad):List Int:=[x.To,x.From,x.Weight,x.Low,x.High]
def fM (x:GCap):List Int:=[x.Station,x.Max,x.Low,x.High]
def fJ {α:Type}[Inhabited α](lt:α→α→Bool)(l:List α):Bool:=(List.range' 1 (l.length - 1)).all fun i=>lt (cJ l (i - 1)) (cJ l i)
theorem adj_x {α : Type} [Inhabited α] {l : List α} {cmp : α → α → Int} {lt : α → α → Bool} (hc : ∀ a b, decide (0 ≤ cmp a b) = !lt a b) :
    c6 (fun (i : Nat) (next : Unit → Option Bool) (_ : Unit) => ej (0 ≤ ((i : Int) - 1) ∧ ((i : Int) - 1) < (l.length : Int)) (bif decide (0 ≤ cmp (cJ l (((i : Int) - 1).toNat)) (cJ l i)) then some false else next ())) (fun _ => some true) (l.length - 1) 1 () = some (fJ lt l) := by
  rw [zcf (fun i => lt (cJ l (i - 1)) (cJ l i)) (z := some false) (fun i next h1 h2 => ?_)]
  · unfold fJ; cases (List.range' 1 (l.length - 1)).all fun i => lt (cJ l (i - 1)) (cJ l i) <;> rfl
  · rw [fE ⟨by omega, by omega⟩, hc, show ((i : Int) - 1).toNat = i - 1 by omega]
    cases lt (cJ l (i - 1)) (cJ l i) <;> rfl
theorem zoJ {α:Type}[Inhabited α]{l:List α}{q:α→Bool}:c6 (fun (i:Nat) (next:Unit→Bool) (_:Unit)=>bif !(q (cJ l i)) then false else next ()) (fun _=>true) (l.length - 0) 0 ()=l.all q:=by
 rw [Nat.sub_zero,zcH (fun i=>q (cJ l i)) (fun i next hi=>by cases q (cJ l i) <;> rfl),zcz,Bool.and_true]
def nz (r:GRules):Bool:=
 decide ((r.Pairs.length:Int)≤4096)&&(r.Pairs.all zbp&&(fJ (fun a b=>ep (kE a) (kE b)) r.Pairs&&(decide ((r.Loads.length:Int)≤1024)&&(r.Loads.all zbr&&(fJ (fun a b=>ep (kC a) (kC b)) r.Loads&&(decide ((r.Caps.length:Int)≤1024)&&(r.Caps.all zbz&&fJ (fun a b=>ep (fM a) (fM b)) r.Caps)))))))
theorem mT (a b:Int):decide (a<b)= !decide (b≤a):=by
 by_cases h:a<b
 ·rw [decide_eq_true h,decide_eq_false a5];rfl
 ·rw [decide_eq_false h,decide_eq_true a5];rfl
theorem zkp (a b:Int):decide (a≤b)= !decide (b<a):=by
 by_cases h:a≤b
 ·rw [decide_eq_true h,decide_eq_false a5];rfl
 ·rw [decide_eq_false h,decide_eq_true a5];rfl
theorem zoS (a b:Int):decide (a=b)= !decide (¬a=b):=by
 by_cases h:a=b
 ·rw [decide_eq_true h,decide_eq_false a5];rfl
 ·rw [decide_eq_false h,decide_eq_true h];rfl
theorem zpa {ρ:Type}(a b c d e f g t:Bool)(n z:Option ρ):dH (fun x=>bif x then z else n) (fun (k:Bool→Option ρ)=>bif !a then k true else bif !b then k true else bif !c then k true else bif !d then k true else bif !e then k true else bif !f then k true else bif g then (some t).bind fun r=>k (!r) else k false)=bif (((((a&&b)&&c)&&(d&&e))&&f)&&(bif g then t else true)) then n else z:=by
 cases a <;> cases b <;> cases c <;> try rfl
 cases d <;> cases e <;> cases f <;> try rfl
 cases g <;> cases t <;> rfl
theorem body4 {ρ:Type}(a d e f g t:Bool)(n z:Option ρ):dH (fun x=>bif x then z else n) (fun (k:Bool→Option ρ)=>bif !a then k true else bif !d then k true else bif !e then k true else bif !f then k true else bif g then (some t).bind fun r=>k (!r) else k false)=bif (((a&&(d&&e))&&f)&&(bif g then t else true)) then n else z:=by
 cases a <;> cases d <;> cases e <;> cases f <;> try rfl
 cases g <;> cases t <;> rfl
theorem zeT {α:Type}[Inhabited α](l:List α)(g:α→Bool)(lt:α→α→Bool):((List.range' 0 (l.length - 0)).all fun i=>g (cJ l i)&&(bif decide (0<(i:Int)) then lt (cJ l (i - 1)) (cJ l i) else true))=(l.all g&&fJ lt l):=by
 rw [Nat.sub_zero,zok l.length (fun i=>g (cJ l i)) (fun i=>lt (cJ l (i - 1)) (cJ l i)),←List.range_eq_range',zcz];rfl
theorem lessP (x y:GPair):mb (li x) (li y)=some (ep (kE x) (kE y)):=zj3 rfl
theorem zps (x y:GLoad):mb (ln x) (ln y)=some (ep (kC x) (kC y)):=zj3 rfl
theorem lessC (x y:GCap):mb (kY x) (kY y)=some (ep (fM x) (fM y)):=zj3 rfl
theorem zkO (r:GRules):za0 r=some (nz r):=by
 unfold za0
 show (bif _ then some false else c6 _ (fun _=>c6 _ (fun _=>c6 _ (fun _=>some true) (r.Caps.length - 0) 0 ()) (r.Loads.length - 0) 0 ()) (r.Pairs.length - 0) 0 ())=_
 rw [zcf (n:=r.Pairs.length - 0) (fun i=>zbp (cJ r.Pairs i)&&(bif decide (0<(i:Int)) then ep (kE (cJ r.Pairs (i - 1))) (kE (cJ r.Pairs i)) else true)) (z:=some false) (fun i next h1 h2=>?_)];rw [zcf (n:=r.Loads.length - 0) (fun i=>zbr (cJ r.Loads i)&&(bif decide (0<(i:Int)) then ep (kC (cJ r.Loads (i - 1))) (kC (cJ r.Loads i)) else true)) (z:=some false) (fun i next h1 h2=>?_)];rw [zcf (n:=r.Caps.length - 0) (fun i=>zbz (cJ r.Caps i)&&(bif decide (0<(i:Int)) then ep (fM (cJ r.Caps (i - 1))) (fM (cJ r.Caps i)) else true)) (z:=some false) (fun i next h1 h2=>?_)]
 ·rw [zeT r.Pairs zbp (fun a b=>ep (kE a) (kE b)),zeT r.Loads zbr (fun a b=>ep (kC a) (kC b)),zeT r.Caps zbz (fun a b=>ep (fM a) (fM b))];unfold nz;rw [mT 4096,mT 1024,mT 1024]
  cases decide ((r.Pairs.length:Int)≤4096) <;> cases decide ((r.Loads.length:Int)≤1024) <;> cases decide ((r.Caps.length:Int)≤1024) <;> cases r.Pairs.all zbp <;> try rfl
  all_goals (cases fJ (fun a b=>ep (kE a) (kE b)) r.Pairs <;> cases r.Loads.all zbr <;> cases fJ (fun a b=>ep (kC a) (kC b)) r.Loads <;> cases r.Caps.all zbz <;> cases fJ (fun a b=>ep (fM a) (fM b)) r.Caps <;> rfl)
 ·skip;rw [show ((i:Int) - 1).toNat=i - 1 by omega,lessC,mT _ 0,mT 1099511627776];exact body4 ..
 ·skip;rw [show ((i:Int) - 1).toNat=i - 1 by omega,zps,zoS (cJ r.Loads i).To,mT _ 1,mT 1073741824];exact zpa ..
 ·skip;rw [show ((i:Int) - 1).toNat=i - 1 by omega,lessP,zkp (cJ r.Pairs i).B,mT _ (-1),mT 1];exact zpa ..
theorem zeM {α:Type}[Inhabited α]{l:List α}{i:Nat}(h:i<l.length):cJ l i∈l:=by rw [dV h];exact List.getElem_mem h
theorem zmM {c b:Nat}(hc:c<64):((1#64) <<< c).getLsbD b=decide (b=c):=by
 rw [BitVec.getLsbD_shiftLeft];by_cases h:b=c
 ·subst h;simp [hc,BitVec.getLsbD_one]
 ·rw [decide_eq_false h];by_cases h2:b<c
  ·simp [h2]
  ·have e:(1#64).getLsbD (b - c)=false:=by
    rw [BitVec.getLsbD_one];simp;omega
   rw [e,Bool.and_false]
theorem zn1 {x:BitVec 64}{c:Nat}:decide ((((x >>> c) &&& (1#64)).toNat:Int)=((1#64).toNat:Int))=x.getLsbD c:=by
 have e:((x >>> c) &&& (1#64))=bif x.getLsbD c then 1#64 else 0#64:=by
  refine BitVec.eq_of_getLsbD_eq fun b hb=>?_;rw [BitVec.getLsbD_and,BitVec.getLsbD_ushiftRight,BitVec.getLsbD_one];by_cases h0:b=0
  ·subst h0;cases x.getLsbD c <;> simp
  ·cases x.getLsbD c <;> simp [h0]
 rw [e]
 cases x.getLsbD c <;> decide
def nr (s:GSet)(i:Int):Bool:=(decide (0≤i)&&decide (i<512))&&(Vec.get s.words (i / 64).toNat).getLsbD (i % 64).toNat
theorem zgf (s:GSet)(i:Int):l8 s i=some (nr s i):=by
 unfold l8 nr za3;by_cases h:0≤i∧i<512
 ·simp only [dH];rw [decide_eq_true h.1,decide_eq_true h.2];simp only [Bool.and_self,cond_true];rw [fE ⟨h.1,by omega,by omega⟩,fE ⟨by omega,by omega⟩,fE ⟨h.1,by omega⟩,fE ⟨by omega,by omega⟩,zn1,Bool.true_and]
 ·have e:(decide (0≤i)&&decide (i<512))=false:=by
   rw [Bool.and_eq_false_iff,decide_eq_false_iff_not,decide_eq_false_iff_not];omega
  simp only [dH];rw [e];rfl
def wS (v:Vec 8 (BitVec 64))(n:Nat):Bool:=(Vec.get v (n / 64)).getLsbD (n % 64)
theorem zpf {v:Vec 8 (BitVec 64)}{j n:Nat}(hj:j<512):wS (Vec.put v (j / 64) (Vec.get v (j / 64) ||| ((1#64) <<< (j % 64)))) n=(wS v n||decide (n=j)):=by
 unfold wS;rw [fA a5];by_cases h:n / 64=j / 64
 ·rw [if_pos h,BitVec.getLsbD_or,zmM a5,h]
  congr 1
  by_cases h2:n % 64=j % 64
  ·rw [decide_eq_true h2,decide_eq_true a5]
  ·rw [decide_eq_false h2,decide_eq_false a5]
 ·rw [if_neg h,decide_eq_false a5,Bool.or_false]
theorem znF {l:List Int}{i:Nat}(hi:i<l.length)(q:Int→Bool):(l.take (i+1)).any q=((l.take i).any q||q (cJ l i)):=by
 rw [List.take_add_one,List.getElem?_eq_getElem hi,List.any_append,dV hi];simp
theorem of_x {l:List Int}(h:∀x∈l,0≤x∧x<512):∃s,zbU l=some (s,0)∧∀i:Int,nr s i=((decide (0≤i)&&decide (i<512))&&l.any fun x=>decide (x=i)):=by
 have hn:∀i,i<l.length→0≤cJ l i∧cJ l i<512:=fun i hi=>h _ (zeM hi);unfold zbU
 obtain ⟨h1,h2⟩:=zbW (k:=fun s:Vec 8 (BitVec 64)×Vec 8 (BitVec 64)=>(some (GSet.mk s.2,0):Option (GSet×Int))) (n:=l.length) (s:=(Vec.fill 8 (0#64),Vec.fill 8 (0#64)))
  (f:=fun (i_7:Nat) (next6:(Vec 8 (BitVec 64)×Vec 8 (BitVec 64))→Option (GSet×Int)) (s6:Vec 8 (BitVec 64)×Vec 8 (BitVec 64))=>
   (bif !(za3 (cJ l i_7)) then
    some ((GSet.mk (Vec.fill 8 (0#64))),2)
    else
    ej (0≤(cJ l i_7)∧(cJ l i_7)≤9223372036854775807∧1≤(64:Int)) <|
    ej (0≤((cJ l i_7) / 64)∧((cJ l i_7) / 64)<(8:Int)) <|
    ej (0≤(cJ l i_7)∧1≤(64:Int)) <|
    ej (0≤((cJ l i_7) % 64)∧((cJ l i_7) % 64)<(64:Int)) <|
    next6 (s6.1,(Vec.put s6.2 (((cJ l i_7) / 64).toNat) ((Vec.get s6.2 (((cJ l i_7) / 64).toNat)) ||| ((1#64) <<< (((cJ l i_7) % 64).toNat)))))))
  (fun i s=>∀n,n<512→wS s.2 n=(l.take i).any fun x=>decide (x=(n:Int)))
  (fun i s=>(s.1,Vec.put s.2 ((cJ l i).toNat / 64) (Vec.get s.2 ((cJ l i).toNat / 64) ||| ((1#64) <<< ((cJ l i).toNat % 64)))))
  (fun n hn=>by
   unfold wS
   rw [gA a5];simp)
  (fun i s hi hs n hn2=>by
   have:=hn i hi;rw [zpf a5,hs n hn2,znF hi]
   congr 1
   by_cases e:cJ l i=(n:Int)
   ·rw [decide_eq_true e,decide_eq_true a5]
   ·rw [decide_eq_false e,decide_eq_false a5])
  (fun i next s hi hs=>by
   have:=hn i hi
   have e:za3 (cJ l i)=true:=by
    unfold za3;rw [decide_eq_true this.1,decide_eq_true this.2];rfl
   rw [e,Bool.not_true,cond_false,fE ⟨this.1,by omega,by omega⟩,fE ⟨by omega,by omega⟩,fE ⟨this.1,by omega⟩,fE ⟨by omega,by omega⟩,show (cJ l i / 64).toNat=(cJ l i).toNat / 64 by omega,show (cJ l i % 64).toNat=(cJ l i).toNat % 64 by omega])
 refine ⟨_,h1,fun i=>?_⟩;unfold nr;by_cases hi:0≤i∧i<512
 ·rw [decide_eq_true hi.1,decide_eq_true hi.2,Bool.and_self,Bool.true_and,Bool.true_and];have h3:=h2 i.toNat a5;rw [List.take_length] at h3;unfold wS at h3;rw [show (i / 64).toNat=i.toNat / 64 by omega,show (i % 64).toNat=i.toNat % 64 by omega];refine h3.trans ?_;rw [show ((i.toNat:Nat):Int)=i by omega]
 ·have e:(decide (0≤i)&&decide (i<512))=false:=by
   rw [Bool.and_eq_false_iff,decide_eq_false_iff_not,decide_eq_false_iff_not];omega
  rw [e];rfl
theorem zl8 {p:GProblem}(hr:dl p.Domains.length 8)(h:∀d∈p.Domains,0≤d.Station∧d.Station<512):∃s,zbA p=some s∧∀i:Int,nr s i=((decide (0≤i)&&decide (i<512))&&p.Domains.any fun d=>decide (d.Station=i)):=by
 obtain ⟨s,h1,h2⟩:=of_x (l:=p.Domains.map (·.Station)) (fun x hx=>by obtain ⟨d,hd,rfl⟩:=List.mem_map.1 hx;exact h d hd);refine ⟨s,?_,fun i=>by rw [h2 i,List.any_map];rfl⟩;unfold zbA;rw [fE hr]
 have h3:=zbW (k:=fun l:List Int=>(zbU l).bind fun r28=>some r28.1) (n:=p.Domains.length - 0) (s:=List.replicate p.Domains.length (0:Int))
  (f:=fun (i_5:Nat) (next4:List Int→Option GSet) (l_3:List Int)=>ej (0≤(i_5:Int)∧(i_5:Int)<(l_3.length:Int)) <| next4 (l_3.set i_5 ((cJ p.Domains i_5).Station)))
  (fun i s=>s.length=p.Domains.length∧∀k,k<i→cJ s k=(cJ p.Domains k).Station)
  (fun i s=>s.set i (cJ p.Domains i).Station)
  ⟨List.length_replicate ..,fun k hk=>by omega⟩
  (fun i s hi hs=>⟨by rw [List.length_set];exact hs.1,fun k hk=>by
   (have h4:k<s.length:=by have:=hs.1;omega);rw [dV (show k<(s.set i _).length by rw [List.length_set];exact h4),List.getElem_set];by_cases e:i=k
   ·rw [if_pos e,e]
   ·rw [if_neg e,←dV h4];exact hs.2 k a5⟩)
  (fun i next s hi hs=>by rw [fE ⟨by omega,by have:=hs.1;omega⟩])
 refine h3.1.trans ?_
 have e:(List.range (p.Domains.length - 0)).foldl (fun s i=>s.set i (cJ p.Domains i).Station) (List.replicate p.Domains.length (0:Int))=p.Domains.map (·.Station):=by
  refine List.ext_getElem (by rw [h3.2.1,List.length_map]) fun k hk1 hk2=>?_; (have hk:k<p.Domains.length:=by rwa [List.length_map] at hk2);have h5:=h3.2.2 k a5;rw [dV hk1,dV hk] at h5;rw [h5,List.getElem_map]
 rw [e,h1];rfl
theorem zpq (a b:Int):decide (0≤zbc a b)= !decide (a<b):=by
 rw [cmp_x];unfold cmpc;rcases Int.lt_trichotomy a b with h|h|h
 ·rw [decide_eq_true h];rfl
 ·subst h;rw [decide_eq_false (Int.lt_irrefl a)];rfl
 ·rw [decide_eq_false (show ¬a<b by omega),decide_eq_true h];rfl
def mA (d:GDomain):Bool:=iN d.Station&&(d.Channels.all nK&&fJ (fun a b=>decide (a<b)) d.Channels)
def iI (p:GProblem)(i:Int):Bool:=(decide (0≤i)&&decide (i<512))&&p.Domains.any fun d=>decide (d.Station=i)
def zi0 (p:GProblem):Bool:=p.Rules.Pairs.all (fun c=>iI p c.A&&iI p c.B)&&(p.Rules.Loads.all (fun c=>iI p c.To&&iI p c.From)&&p.Rules.Caps.all (fun c=>iI p c.Station))
def lF (p:GProblem):Bool:=fJ (fun a b:GDomain=>decide (a.Station<b.Station)) p.Domains
def okP (p:GProblem):Bool:=p.Domains.all mA&&(nz p.Rules&&(lF p&&zi0 p))
theorem zfQ {n:Int}(h:iN n=true):0≤n∧n≤511:=by
 unfold iN mg at h;rw [Bool.and_eq_true,decide_eq_true_eq,decide_eq_true_eq] at h;exact h
theorem zlj {p:GProblem}(h:p.Domains.all mA=true){d:GDomain}(hd:d∈p.Domains):0≤d.Station∧d.Station<512:=by
 have h1:=List.all_eq_true.1 h d hd;unfold mA at h1;have:=zfQ ((Bool.and_eq_true _ _).mp h1).1;omega
theorem zln {p:GProblem}(h:p.Domains.all mA=true)(hi:lF p=true):∀k,k<p.Domains.length→(k:Int)≤(cJ p.Domains k).Station
 |0,hk=>(zlj h (zeM hk)).1
 |k+1,hk=>by
  have h1:=zln h hi k a5;have h2:=List.all_eq_true.1 hi (k+1) (List.mem_range'_1.2 ⟨by omega,by omega⟩);have h3:=of_decide_eq_true h2;rw [show k+1 - 1=k from rfl] at h3;omega
theorem zjU {p:GProblem}(h:p.Domains.all mA=true)(hi:lF p=true):p.Domains.length≤512:=by
 rcases Nat.eq_zero_or_pos p.Domains.length with h0|h0
 ·omega
 ·have h1:=zln h hi (p.Domains.length - 1) a5;have h2:=zlj h (zeM (show p.Domains.length - 1<p.Domains.length by omega));omega
theorem zgu {α:Type}{l:List α}{f g:α→Bool}(h:∀x∈l,f x=g x):l.all f=l.all g:=by
 induction l with
 |nil=>rfl
 |cons x r ih=>rw [List.all_cons,List.all_cons,h x (List.mem_cons_self ..),ih fun y hy=>h y (List.mem_cons_of_mem _ hy)]
def dU (p:GProblem)(s:Int):Bool:=p.Domains.any fun d=>decide (d.Station=s)
theorem zf4 {p:GProblem}{s:Int}:decide (fF p s<0)= !dU p s:=by
 have key:∀m i,i+m=p.Domains.length→(decide (c6 (fun (i:Nat) (next:Unit→Int) (_:Unit)=>bif decide ((cJ p.Domains i).Station=s) then (i:Int) else next ()) (fun _=>(-1)) m i ()<0)= !((p.Domains.drop i).any fun d=>decide (d.Station=s))):=by
  intro m
  induction m with
  |zero=>intro i e;rw [List.drop_eq_nil_of_le (show p.Domains.length≤i by omega)];rfl
  |succ m ih=>
   intro i e;have h2:=ih (i+1) a5;rw [List.drop_eq_getElem_cons (show i<p.Domains.length by omega),List.any_cons,←dV (show i<p.Domains.length by omega)]
   show decide ((bif decide ((cJ p.Domains i).Station=s) then (i:Int) else _)<0)=_
   cases decide ((cJ p.Domains i).Station=s) with
   |true=>rw [cond_true,decide_eq_false a5];rfl
   |false=>rw [cond_false,Bool.false_or];exact h2
 have:=key p.Domains.length 0 a5;rw [List.drop_zero] at this;exact this
def ziW (p:GProblem):Bool:=p.Rules.Pairs.all (fun c=>dU p c.A&&dU p c.B)&&(p.Rules.Loads.all (fun c=>dU p c.To&&dU p c.From)&&p.Rules.Caps.all (fun c=>dU p c.Station))
theorem zd5 {p:GProblem}{s:Int}(h:iN s=true):dU p s=iI p s:=by
 have:=zfQ h;unfold dU iI;rw [decide_eq_true this.1,decide_eq_true (show s<512 by omega)];rfl
theorem fC {a b:Bool}(h:(a&&b)=true):a=true:=((Bool.and_eq_true _ _).mp h).1
theorem fY {a b:Bool}(h:(a&&b)=true):b=true:=((Bool.and_eq_true _ _).mp h).2
theorem zhh {c:GPair}(h:zbp c=true):iN c.A=true∧iN c.B=true:=
 ⟨fC (fC (fC (fC h))),fY (fC (fC (fC h)))⟩
theorem zgU {c:GLoad}(h:zbr c=true):iN c.To=true∧iN c.From=true:=
 ⟨fC (fC (fC (fC h))),fY (fC (fC (fC h)))⟩
theorem zk3 {c:GCap}(h:zbz c=true):iN c.Station=true:=fC (fC h)
structure RulesGood (r:GRules):Prop where
 np:r.Pairs.length≤4096
 nl:r.Loads.length≤1024
 nc:r.Caps.length≤1024
 p:∀c∈r.Pairs,zbp c=true
 l:∀c∈r.Loads,zbr c=true
 c:∀c∈r.Caps,zbz c=true
theorem zef {r:GRules}(h:nz r=true):RulesGood r:=by
 unfold nz at h;have h1:=fY h;have h2:=fY h1;have h3:=fY h2;have h4:=fY h3;have h5:=fY h4;have h6:=fY h5;have h7:=fY h6;have a1:=of_decide_eq_true (fC h);have a2:=of_decide_eq_true (fC h3);have a3:=of_decide_eq_true (fC h6);exact ⟨by omega,by omega,by omega,List.all_eq_true.1 (fC h1),List.all_eq_true.1 (fC h4),List.all_eq_true.1 (fC h7)⟩
theorem znE {p:GProblem}(h:nz p.Rules=true):ziW p=zi0 p:=by
 have hg:=zef h; (have e1:(p.Rules.Pairs.all fun c=>dU p c.A&&dU p c.B)=p.Rules.Pairs.all fun c=>iI p c.A&&iI p c.B:=zgu fun c hc=>by rw [zd5 (zhh (hg.p c hc)).1,zd5 (zhh (hg.p c hc)).2]); (have e2:(p.Rules.Loads.all fun c=>dU p c.To&&dU p c.From)=p.Rules.Loads.all fun c=>iI p c.To&&iI p c.From:=zgu fun c hc=>by rw [zd5 (zgU (hg.l c hc)).1,zd5 (zgU (hg.l c hc)).2]);have e3:(p.Rules.Caps.all fun c=>dU p c.Station)=p.Rules.Caps.all fun c=>iI p c.Station:=zgu fun c hc=>zd5 (zk3 (hg.c c hc));unfold ziW zi0;rw [e1,e2,e3]
def na (d:GDomain):Bool:=iN d.Station&&(decide ((d.Channels.length:Int)≤50)&&(d.Channels.all nK&&fJ (fun a b=>decide (a<b)) d.Channels))
theorem zph {n:Int}(h:nK n=true):2≤n∧n≤51:=by
 unfold nK mg at h;rw [Bool.and_eq_true,decide_eq_true_eq,decide_eq_true_eq] at h;exact h
theorem znH {l:List Int}(h:l.all nK=true)(hi:fJ (fun a b=>decide (a<b)) l=true):∀k,k<l.length→(k:Int)+2≤cJ l k
 |0,hk=>by have:=zph (List.all_eq_true.1 h _ (zeM hk));omega
 |k+1,hk=>by
  have h1:=znH h hi k a5;have h2:=List.all_eq_true.1 hi (k+1) (List.mem_range'_1.2 ⟨by omega,by omega⟩);have h3:=of_decide_eq_true h2;rw [show k+1 - 1=k from rfl] at h3;omega
theorem zlr (d:GDomain):na d=mA d:=by
 unfold na mA
 cases h1:d.Channels.all nK
 ·rw [Bool.false_and,Bool.and_false]
 cases h2:fJ (fun a b=>decide (a<b)) d.Channels
 ·rw [Bool.and_false,Bool.and_false]
 have:d.Channels.length≤50:=by
  rcases Nat.eq_zero_or_pos d.Channels.length with h0|h0
  ·omega
  ·have a:=znH h1 h2 (d.Channels.length - 1) a5;have b:=zph (List.all_eq_true.1 h1 _ (zeM (show d.Channels.length - 1<d.Channels.length by omega)));omega
 rw [decide_eq_true a5];rfl
theorem chs_x {ρ:Type}{l:List Int}{n z:ρ}:c6 (fun (k:Nat) (next:Unit→ρ) (_:Unit)=>bif (((decide (cJ l k<2))||(decide (51<cJ l k)))||((decide (0<(k:Int)))&&(decide (cJ l k≤cJ l (((k:Int) - 1).toNat))))) then z else next ()) (fun _=>n) (l.length - 0) 0 ()=bif l.all nK&&fJ (fun a b=>decide (a<b)) l then n else z:=by
 rw [zcf (fun k=>nK (cJ l k)&&(bif decide (0<(k:Int)) then decide (cJ l (k - 1)<cJ l k) else true)) (z:=z) (fun i next h1 h2=>?_),zeT l nK (fun a b=>decide (a<b))];rw [show ((i:Int) - 1).toNat=i - 1 by omega,mT _ 2,zkp (cJ l i) (cJ l (i - 1)),mT 51];unfold nK mg
 cases decide (2≤cJ l i) <;> cases decide (cJ l i≤51) <;> cases decide (0<(i:Int)) <;> cases decide (cJ l (i - 1)<cJ l i) <;> rfl
theorem zhB (p:GProblem):zbw p=some (okP p):=by
 unfold zbw
 show (bif decide (512<(p.Domains.length:Int)) then some false else (za0 p.Rules).bind fun r=>bif !r then some false else c6 _ (fun _=>c6 _ (fun _=>c6 _ (fun _=>c6 _ (fun _=>some true) (p.Rules.Caps.length - 0) 0 ()) (p.Rules.Loads.length - 0) 0 ()) (p.Rules.Pairs.length - 0) 0 ()) (p.Domains.length - 0) 0 ())=_
 rw [zkO,Option.bind_some];rw [zcf (n:=p.Domains.length - 0) (fun i=>na (cJ p.Domains i)&&(bif decide (0<(i:Int)) then decide ((cJ p.Domains (i - 1)).Station<(cJ p.Domains i).Station) else true)) (z:=some false) (fun i next h1 h2=>?_)];rw [zcf (n:=p.Rules.Pairs.length - 0) (fun i=>dU p (cJ p.Rules.Pairs i).A&&dU p (cJ p.Rules.Pairs i).B) (z:=some false) (fun i next h1 h2=>?_)];rw [zcf (n:=p.Rules.Loads.length - 0) (fun i=>dU p (cJ p.Rules.Loads i).To&&dU p (cJ p.Rules.Loads i).From) (z:=some false) (fun i next h1 h2=>?_)];rw [zcf (n:=p.Rules.Caps.length - 0) (fun i=>dU p (cJ p.Rules.Caps i).Station) (z:=some false) (fun i next h1 h2=>?_)]
 ·rw [zeT p.Domains na (fun a b=>decide (a.Station<b.Station)),Nat.sub_zero,Nat.sub_zero,Nat.sub_zero,←List.range_eq_range',←List.range_eq_range',←List.range_eq_range',
   zcz (q:=fun c:GPair=>dU p c.A&&dU p c.B),zcz (q:=fun c:GLoad=>dU p c.To&&dU p c.From),zcz (q:=fun c:GCap=>dU p c.Station),zgu (fun d _=>zlr d)]
  have hl:∀x:Option Bool,(bif p.Rules.Pairs.all (fun c=>dU p c.A&&dU p c.B) then bif p.Rules.Loads.all (fun c=>dU p c.To&&dU p c.From) then bif p.Rules.Caps.all (fun c=>dU p c.Station) then some true else some false else some false else some false)=some (ziW p):=fun _=>by
   unfold ziW
   cases p.Rules.Pairs.all (fun c=>dU p c.A&&dU p c.B) <;> cases p.Rules.Loads.all (fun c=>dU p c.To&&dU p c.From) <;> cases p.Rules.Caps.all (fun c=>dU p c.Station) <;> rfl
  rw [hl none];unfold okP
  show (bif decide (512<(p.Domains.length:Int)) then some false else bif !nz p.Rules then some false else bif p.Domains.all mA&&lF p then some (ziW p) else some false)=_
  cases h1:nz p.Rules
  ·cases p.Domains.all mA <;> cases decide (512<(p.Domains.length:Int)) <;> rfl
  cases h2:p.Domains.all mA
  ·cases decide (512<(p.Domains.length:Int)) <;> rfl
  cases h3:lF p
  ·cases decide (512<(p.Domains.length:Int)) <;> rfl
  have:=zjU h2 h3;rw [decide_eq_false (show ¬512<(p.Domains.length:Int) by omega),znE h1];rfl
 ·rw [zf4];cases dU p (cJ p.Rules.Caps i).Station <;> rfl
 ·rw [zf4,zf4];cases dU p (cJ p.Rules.Loads i).To <;> cases dU p (cJ p.Rules.Loads i).From <;> rfl
 ·rw [zf4,zf4];cases dU p (cJ p.Rules.Pairs i).A <;> cases dU p (cJ p.Rules.Pairs i).B <;> rfl
 ·rw [chs_x,show ((i:Int) - 1).toNat=i - 1 by omega,mT 50,zkp (cJ p.Domains i).Station];unfold na
  show (bif ((!iN (cJ p.Domains i).Station||_)||_) then _ else _)=_
  cases iN (cJ p.Domains i).Station <;> cases decide (0<(i:Int)) <;> cases decide ((cJ p.Domains (i - 1)).Station<(cJ p.Domains i).Station) <;> cases decide (((cJ p.Domains i).Channels.length:Int)≤50) <;> cases ((cJ p.Domains i).Channels.all nK&&fJ (fun a b=>decide (a<b)) (cJ p.Domains i).Channels) <;> rfl
theorem zpn (b:Bool):(bif b then true else false)=b:=by cases b <;> rfl
theorem allEq {α:Type}[Inhabited α][DecidableEq α]{a b:List α}(hl:a.length=b.length):((List.range a.length).all fun i=>decide (cJ a i=cJ b i))=decide (a=b):=by
 rw [Bool.eq_iff_iff,List.all_eq_true,decide_eq_true_eq];constructor
 ·intro h;refine List.ext_getElem hl fun i h1 h2=>?_;have:=of_decide_eq_true (h i (List.mem_range.2 h1))
  rwa [dV h1,dV h2] at this
 ·rintro rfl i _;simp
theorem zpo {α:Type}[Inhabited α][DecidableEq α]{a b:List α}{r:α→α→Bool}{k:Unit→Bool}(hr:∀x y,r x y= !decide (x=y))(hl:a.length=b.length):c6 (fun (i:Nat) (next:Unit→Bool) (_:Unit)=>bif r (cJ a i) (cJ b i) then false else next ()) k (a.length - 0) 0 ()=(decide (a=b)&&k ()):=by
 rw [Nat.sub_zero,zcH (fun i=>decide (cJ a i=cJ b i)) (fun i next hi=>by rw [hr];cases decide (cJ a i=cJ b i) <;> rfl),allEq hl]
theorem eqL_x {α:Type}[Inhabited α][DecidableEq α]{a b:List α}{r:α→α→Bool}(hr:∀x y,r x y= !decide (x=y)):(bif decide (¬(a.length:Int)=(b.length:Int)) then false else c6 (fun (i:Nat) (next:Unit→Bool) (_:Unit)=>bif r (cJ a i) (cJ b i) then false else next ()) (fun _=>true) (a.length - 0) 0 ())=decide (a=b):=by
 by_cases hl:a.length=b.length
 ·rw [decide_eq_false a5,cond_false,zpo hr hl,Bool.and_true]
 ·rw [decide_eq_true a5,cond_true,decide_eq_false (fun e=>hl (by rw [e]))]
theorem zjL (a b:List Int):zbK a b=decide (a=b):=eqL_x (r:=fun x y:Int=>decide (¬x=y)) fun x y=>by by_cases h:x=y <;> simp [h]
def onL:List GChoice→Int→Int
 | [],_=>0
 |x :: r,n=>bif decide (x.Station=n) then x.Channel else onL r n
def TabC (l:List GChoice)(c:Vec 512 Int):Prop:=∀n,n<512→Vec.get c n=onL l (n:Int)
theorem TabC.get {l:List GChoice}{c:Vec 512 Int}(h:TabC l c){i:Int}(hi:0≤i∧i<512):Vec.get c i.toNat=onL l i:=by
 rw [h _ a5,show ((i.toNat:Nat):Int)=i by omega]
theorem zpB (l:List Int)(v:Int):ed l v=l.any fun x=>decide (x=v):=by
 have h:=zdZ (f:=fun (i:Nat) (next:Unit→Bool) (_:Unit)=>bif decide (cJ l i=v) then true else next ()) (k:=fun _=>false) (n:=l.length - 0) (fun i=>decide (cJ l i=v)) (fun i next hi=>by cases decide (cJ l i=v) <;> rfl);rw [Nat.sub_zero,zdJ (q:=fun x=>decide (x=v)),Bool.or_false] at h;exact h
def kD (l:List Int):Bool:=l.all iN&&fJ (fun a b=>decide (a<b)) l
theorem zeE (l:List Int):zaV l=some (kD l):=by
 have e1:zaN l=l.all iN:=zoJ;have e2:za9 l=some (fJ (fun a b=>decide (a<b)) l):=adj_x zpq;unfold zaV kD;rw [e1,e2];simp only [dH,Option.bind_some]
 cases l.all iN <;> rfl
theorem zff (l:List Int):zaQ l=kD l:=by
 refine (zcf (k:=fun _=>true) (z:=false) (fun i=>iN (cJ l i)&&(bif decide (0<(i:Int)) then decide (cJ l (i - 1)<cJ l i) else true)) (fun i next h1 h2=>?_)).trans ?_
 ·rw [show ((i:Int) - 1).toNat=i - 1 by omega,zkp (cJ l i) (cJ l (i - 1))]
  show (bif (!iN (cJ l i)||_) then _ else _)=_
  cases iN (cJ l i) <;> cases decide (0<(i:Int)) <;> cases decide (cJ l (i - 1)<cJ l i) <;> rfl
 ·rw [zpn,zeT l iN (fun a b=>decide (a<b))];rfl
theorem zjl {l:List Int}(h:kD l=true):∀x∈l,0≤x∧x<512:=fun x hx=>by
 have:=zfQ (List.all_eq_true.1 (fC h) x hx);omega
theorem zer {l:List Int}{s:GSet}(hs:∀i:Int,nr s i=((decide (0≤i)&&decide (i<512))&&l.any fun x=>decide (x=i)))(h:kD l=true)(i:Int):nr s i=ed l i:=by
 rw [hs,zpB];by_cases hi:0≤i∧i<512
 ·rw [decide_eq_true hi.1,decide_eq_true hi.2];rfl
 ·have e:(decide (0≤i)&&decide (i<512))=false:=by
   rw [Bool.and_eq_false_iff,decide_eq_false_iff_not,decide_eq_false_iff_not];omega
  rw [e,Bool.false_and]
  symm
  rw [List.any_eq_false];intro x hx hd;have:=zjl h x hx;have:=of_decide_eq_true hd;omega
theorem zgM {x y:BitVec 64}:((x &&& ~~~y).toNat:Int)=((0#64).toNat:Int)↔∀b,b<64→x.getLsbD b=true→y.getLsbD b=true:=by
 constructor
 ·intro h b hb hx;have h1:x &&& ~~~y=0#64:=BitVec.eq_of_toNat_eq (Int.ofNat.inj h);have h2:=congrArg (fun z=>z.getLsbD b) h1;simp only [BitVec.getLsbD_and,BitVec.getLsbD_not,hx,hb,decide_true,Bool.true_and,BitVec.getLsbD_zero,Bool.not_eq_false'] at h2;exact h2
 ·intro h
  have h1:x &&& ~~~y=0#64:=BitVec.eq_of_getLsbD_eq fun b hb=>by
   rw [BitVec.getLsbD_and,BitVec.getLsbD_not]
   cases hx:x.getLsbD b
   ·simp
   ·rw [h b hb hx];simp
  rw [h1]
theorem znq (s o:GSet):zas s o=true↔∀n,n<512→wS s.words n=true→wS o.words n=true:=by
 have e:zas s o=(List.range 8).all fun i=> !decide (¬(((Vec.get s.words i) &&& ~~~(Vec.get o.words i)).toNat:Int)=((0#64).toNat:Int)):=by
  unfold zas;refine (zcH (f:=fun (i:Nat) (next:Unit→Bool) (_:Unit)=>bif decide (¬(((Vec.get s.words i) &&& ~~~(Vec.get o.words i)).toNat:Int)=((0#64).toNat:Int)) then false else next ()) (k:=fun _=>true) (n:=8) (fun i=> !decide (¬(((Vec.get s.words i) &&& ~~~(Vec.get o.words i)).toNat:Int)=((0#64).toNat:Int))) (fun i next hi=>?_)).trans (Bool.and_true _)
  cases decide (¬(((Vec.get s.words i) &&& ~~~(Vec.get o.words i)).toNat:Int)=((0#64).toNat:Int)) <;> rfl
 rw [e,List.all_eq_true];constructor
 ·intro h n hn hw;have h1:=h (n / 64) (List.mem_range.2 a5);rw [Bool.not_eq_true',decide_eq_false_iff_not,Decidable.not_not,zgM] at h1;exact h1 _ a5 hw
 ·intro h i hi;have hi:=List.mem_range.1 hi;rw [Bool.not_eq_true',decide_eq_false_iff_not,Decidable.not_not,zgM];intro b hb hx;have:=h (i*64+b) a5;unfold wS at this;rw [show (i*64+b) / 64=i by omega,show (i*64+b) % 64=b by omega] at this;exact this hx
theorem znC {s:GSet}{n:Nat}(hn:n<512):wS s.words n=nr s (n:Int):=by
 unfold wS nr;rw [decide_eq_true (show (0:Int)≤n by omega),decide_eq_true (show (n:Int)<512 by omega),show ((n:Int) / 64).toNat=n / 64 by omega,show ((n:Int) % 64).toNat=n % 64 by omega];rfl
theorem zk6 {l:List Int}{p:GProblem}{s o:GSet}(hs:∀i:Int,nr s i=((decide (0≤i)&&decide (i<512))&&l.any fun x=>decide (x=i)))(h:kD l=true)(ho:∀i:Int,nr o i=iI p i):zas s o=l.all (dU p):=by
 rw [Bool.eq_iff_iff,znq,List.all_eq_true];constructor
 ·intro h1 x hx;have hr:=zjl h x hx;have h2:=h1 x.toNat a5;rw [znC a5,znC a5,show ((x.toNat:Nat):Int)=x by omega,hs,ho] at h2;rw [zd5 (List.all_eq_true.1 (fC h) x hx)];refine h2 ?_;rw [decide_eq_true hr.1,decide_eq_true hr.2];exact List.any_eq_true.2 ⟨x,hx,decide_eq_true rfl⟩
 ·intro h1 n hn hw;rw [znC hn,hs] at hw;obtain ⟨x,hx,e⟩:=List.any_eq_true.1 (fY hw);have e:=of_decide_eq_true e;subst e;rw [znC hn,ho,←zd5 (List.all_eq_true.1 (fC h) _ hx)];exact h1 _ hx
def zpe (l:List GChoice)(st:List Int):List GChoice:=(List.range (l.length - 0)).foldl (fun s i=>bif ed st (cJ l i).Station then s++[cJ l i] else s) []
theorem zor {l : List GChoice} {st : List Int} (hl : l.length ≤ 100000) : zcg l st = some (bif lE l && kD st then (zpe l st, 0) else ([], 2)) := by
  unfold zcg;simp only [dH, zeE, Option.bind_some]
  cases lE l
  · rfl
  cases h2 : kD st
  · rfl
  simp only [Bool.not_true, cond_false, Bool.and_self, cond_true]; obtain ⟨s, h3, h4⟩ := of_x (l := st) (zjl h2); rw [h3, Option.bind_some]
  refine (zbW (k := fun s : List GChoice => some (s, (0 : Int))) (n := l.length - 0) (s := [])
    (f := fun (i_9 : Nat) (next8 : List GChoice → Option (List GChoice × Int)) (some_7 : List GChoice) =>
          (l8 s ((cJ l i_9).Station)).bind fun r33 =>
          (bif r33 then
            ej (dl (some_7 ++ [(cJ l i_9)]).length 16) <|
            next8 (some_7 ++ [(cJ l i_9)])
            else
            next8 some_7))
    (fun i s => s.length ≤ i) (fun i s => bif ed st (cJ l i).Station then s ++ [cJ l i] else s) a9 (fun i s hi hs => ?_) (fun i next s hi hs => ?_)).1
  · cases ed st (cJ l i).Station
    · show s.length ≤ i + 1; omega
    · show (s ++ [cJ l i]).length ≤ i + 1; rw [List.length_append]; simp; exact hs
  · rw [zgf, zer h4 h2, Option.bind_some]
    cases ed st (cJ l i).Station
    · rfl
    · rw [cond_true, cond_true, fE (by unfold dl; rw [List.length_append]; simp; omega)]
abbrev RS:=List GDomain×List GPair×List GLoad×List GCap
def gD (p:GProblem)(st:List Int)(i:Nat)(s:RS):RS:=bif ed st (cJ p.Domains i).Station then (s.1++[cJ p.Domains i],s.2.1,s.2.2.1,s.2.2.2) else (s.1,s.2.1,s.2.2.1,s.2.2.2)
def gP (p:GProblem)(st:List Int)(i:Nat)(s:RS):RS:=bif ed st (cJ p.Rules.Pairs i).A&&ed st (cJ p.Rules.Pairs i).B then (s.1,s.2.1++[cJ p.Rules.Pairs i],s.2.2.1,s.2.2.2) else (s.1,s.2.1,s.2.2.1,s.2.2.2)
def gL (p:GProblem)(st:List Int)(i:Nat)(s:RS):RS:=bif ed st (cJ p.Rules.Loads i).To&&ed st (cJ p.Rules.Loads i).From then (s.1,s.2.1,s.2.2.1++[cJ p.Rules.Loads i],s.2.2.2) else (s.1,s.2.1,s.2.2.1,s.2.2.2)
def gC (p:GProblem)(st:List Int)(i:Nat)(s:RS):RS:=bif ed st (cJ p.Rules.Caps i).Station then (s.1,s.2.1,s.2.2.1,s.2.2.2++[cJ p.Rules.Caps i]) else (s.1,s.2.1,s.2.2.1,s.2.2.2)
def i9 (g:Nat→RS→RS)(n:Nat)(s:RS):RS:=(List.range n).foldl (fun s i=>g i s) s
theorem zoF {ρ : Type} {p : GProblem} {st : List Int} {f : Nat → (RS → ρ) → RS → ρ} {K : RS → ρ} (hn : p.Domains.length ≤ 5000) (hf : ∀ i next s, i < p.Domains.length → (∀ x : GDomain, dl (s.1 ++ [x]).length 32) → f i next s = next (gD p st i s)) : c6 f K (p.Domains.length - 0) 0 ([], [], [], []) = K (i9 (gD p st) (p.Domains.length - 0) ([], [], [], [])) ∧ ((i9 (gD p st) (p.Domains.length - 0) ([], [], [], [])).2 = ([], [], [])) := by
  have h := zbW (f := f) (k := K) (n := p.Domains.length - 0) (s := ([], [], [], [])) (fun i s => s.1.length ≤ i ∧ s.2 = ([], [], [])) (gD p st) ⟨by simp, rfl⟩ (fun i s hi hs => by
      unfold gD
      cases ed st (cJ p.Domains i).Station
      · exact ⟨by show s.1.length ≤ i + 1; omega, hs.2⟩
      · exact ⟨by show (s.1 ++ [_]).length ≤ i + 1; rw [List.length_append]; simp; exact hs.1, hs.2⟩) (fun i next s hi hs => hf i next s a5 (fun x => by unfold dl; rw [List.length_append]; simp; omega))
  exact ⟨h.1, h.2.2⟩
theorem zod {ρ : Type} {p : GProblem} {st : List Int} {f : Nat → (RS → ρ) → RS → ρ} {K : RS → ρ} {s0 : RS} (h0 : s0.2 = ([], [], [])) (hn : p.Rules.Pairs.length ≤ 5000) (hf : ∀ i next s, i < p.Rules.Pairs.length → (∀ x : GPair, dl (s.2.1 ++ [x]).length 40) → f i next s = next (gP p st i s)) : c6 f K (p.Rules.Pairs.length - 0) 0 s0 = K (i9 (gP p st) (p.Rules.Pairs.length - 0) s0) ∧ ((i9 (gP p st) (p.Rules.Pairs.length - 0) s0).2.2 = ([], [])) := by
  have h := zbW (f := f) (k := K) (n := p.Rules.Pairs.length - 0) (s := s0) (fun i s => s.2.1.length ≤ i ∧ s.2.2 = ([], [])) (gP p st) (by rw [h0]; exact ⟨by simp, rfl⟩) (fun i s hi hs => by
      unfold gP
      cases ed st (cJ p.Rules.Pairs i).A && ed st (cJ p.Rules.Pairs i).B
      · exact ⟨by show s.2.1.length ≤ i + 1; omega, hs.2⟩
      · exact ⟨by show (s.2.1 ++ [_]).length ≤ i + 1; rw [List.length_append]; simp; exact hs.1, hs.2⟩) (fun i next s hi hs => hf i next s a5 (fun x => by unfold dl; rw [List.length_append]; simp; omega))
  exact ⟨h.1, h.2.2⟩
theorem zoo {ρ : Type} {p : GProblem} {st : List Int} {f : Nat → (RS → ρ) → RS → ρ} {K : RS → ρ} {s0 : RS} (h0 : s0.2.2 = ([], [])) (hn : p.Rules.Loads.length ≤ 5000) (hf : ∀ i next s, i < p.Rules.Loads.length → (∀ x : GLoad, dl (s.2.2.1 ++ [x]).length 40) → f i next s = next (gL p st i s)) : c6 f K (p.Rules.Loads.length - 0) 0 s0 = K (i9 (gL p st) (p.Rules.Loads.length - 0) s0) ∧ ((i9 (gL p st) (p.Rules.Loads.length - 0) s0).2.2.2 = []) := by
  have h := zbW (f := f) (k := K) (n := p.Rules.Loads.length - 0) (s := s0) (fun i s => s.2.2.1.length ≤ i ∧ s.2.2.2 = []) (gL p st) (by rw [h0]; exact ⟨by simp, rfl⟩) (fun i s hi hs => by
      unfold gL
      cases ed st (cJ p.Rules.Loads i).To && ed st (cJ p.Rules.Loads i).From
      · exact ⟨by show s.2.2.1.length ≤ i + 1; omega, hs.2⟩
      · exact ⟨by show (s.2.2.1 ++ [_]).length ≤ i + 1; rw [List.length_append]; simp; exact hs.1, hs.2⟩) (fun i next s hi hs => hf i next s a5 (fun x => by unfold dl; rw [List.length_append]; simp; omega))
  exact ⟨h.1, h.2.2⟩
theorem zo5 {ρ : Type} {p : GProblem} {st : List Int} {f : Nat → (RS → ρ) → RS → ρ} {K : RS → ρ} {s0 : RS} (h0 : s0.2.2.2 = []) (hn : p.Rules.Caps.length ≤ 5000) (hf : ∀ i next s, i < p.Rules.Caps.length → (∀ x : GCap, dl (s.2.2.2 ++ [x]).length 32) → f i next s = next (gC p st i s)) : c6 f K (p.Rules.Caps.length - 0) 0 s0 = K (i9 (gC p st) (p.Rules.Caps.length - 0) s0) := by
  have h := zbW (f := f) (k := K) (n := p.Rules.Caps.length - 0) (s := s0) (fun i s => s.2.2.2.length ≤ i) (gC p st) (by rw [h0]; simp) (fun i s hi hs => by
      unfold gC
      cases ed st (cJ p.Rules.Caps i).Station
      · show s.2.2.2.length ≤ i + 1; omega
      · show (s.2.2.2 ++ [_]).length ≤ i + 1; rw [List.length_append]; simp; exact hs) (fun i next s hi hs => hf i next s a5 (fun x => by unfold dl; rw [List.length_append]; simp; omega))
  exact h.1
def zkQ (p:GProblem)(st:List Int):RS:=i9 (gC p st) (p.Rules.Caps.length - 0) (i9 (gL p st) (p.Rules.Loads.length - 0) (i9 (gP p st) (p.Rules.Pairs.length - 0) (i9 (gD p st) (p.Domains.length - 0) ([],[],[],[]))))
def gw (p:GProblem)(st:List Int):GProblem:=⟨(zkQ p st).1,⟨(zkQ p st).2.1,(zkQ p st).2.2.1,(zkQ p st).2.2.2⟩⟩
def zjT (p:GProblem)(st:List Int):GProblem×Int:=bif okP p&&kD st then (bif st.all (dU p) then (gw p st,0) else (⟨[],⟨[],[],[]⟩⟩,9)) else (⟨[],⟨[],[],[]⟩⟩,2)
theorem zoE {d:GDomain}(h:mA d=true):d.Channels.length≤50:=by
 rw [←zlr] at h;have:=of_decide_eq_true (fC (fY h));omega
theorem mw {p:GProblem}{st:List Int}(h:p.Domains.length≤5000):(i9 (gD p st) (p.Domains.length - 0) ([],[],[],[])).2=([],[],[]):=(zoF (ρ:=Unit) (f:=fun i next s=>next (gD p st i s)) (K:=fun _=>()) h (fun _ _ _ _ _=>rfl)).2
theorem inv2 {p:GProblem}{st:List Int}{s0:RS}(h0:s0.2=([],[],[]))(h:p.Rules.Pairs.length≤5000):(i9 (gP p st) (p.Rules.Pairs.length - 0) s0).2.2=([],[]):=(zod (ρ:=Unit) (f:=fun i next s=>next (gP p st i s)) (K:=fun _=>()) h0 h (fun _ _ _ _ _=>rfl)).2
theorem inv3 {p:GProblem}{st:List Int}{s0:RS}(h0:s0.2.2=([],[]))(h:p.Rules.Loads.length≤5000):(i9 (gL p st) (p.Rules.Loads.length - 0) s0).2.2.2=[]:=(zoo (ρ:=Unit) (f:=fun i next s=>next (gL p st i s)) (K:=fun _=>()) h0 h (fun _ _ _ _ _=>rfl)).2
theorem zdX {σ ρ:Type}{f:Nat→(σ→ρ)→σ→ρ}{k:σ→ρ}{z:ρ}{n:Nat}{s:σ}(q:Nat→Bool)(hf:∀i next,i<n→f i next s=bif q i then next s else z):c6 f k n 0 s=bif (List.range n).all q then k s else z:=by
 have key:∀m i,i+m=n→c6 f k m i s=bif (List.range' i m).all q then k s else z:=by
  intro m
  induction m with
  |zero=>intro i _;rfl
  |succ m ih=>
   intro i e
   show f i (c6 f k m (i+1)) s=_
   rw [hf i _ a5,ih (i+1) a5,List.range'_succ,List.all_cons]
   cases q i <;> rfl
 rw [key n 0 a5,List.range_eq_range']
theorem zig (p:GProblem)(st:List Int):zce p st=some (zjT p st):=by
 unfold zce zjT;rw [zhB,zff]
 cases h1:okP p
 ·rfl
 cases h2:kD st
 ·rfl
 have hD:=fC h1;have hg:=zef (fC (fY h1));have hi:=fC (fY (fY h1));have hl:=zjU hD hi;have g1:=hg.np;have g2:=hg.nl;have g3:=hg.nc;refine (zdX (n:=st.length - 0) (s:=(([],[],[],[]):RS)) (z:=some ((⟨[],⟨[],[],[]⟩⟩:GProblem),(9:Int))) (fun i=>dU p (cJ st i)) (fun i next hin=>?_)).trans ?_
 ·rw [zf4];cases dU p (cJ st i) <;> rfl
 rw [Nat.sub_zero,zcz (q:=dU p)]
 cases st.all (dU p)
 ·rfl
 refine (zoF (st:=st) a5 (fun i next s hin hr=>?_)).1.trans ?_
 ·unfold gD
  cases ed st (cJ p.Domains i).Station
  ·rfl
  ·rw [cond_true,cond_true,fE (hr _)]
 refine (zod (st:=st) (s0:=i9 (gD p st) (p.Domains.length - 0) ([],[],[],[])) (mw a5) a5 (fun i next s hin hr=>?_)).1.trans ?_
 ·unfold gP
  cases ed st (cJ p.Rules.Pairs i).A&&ed st (cJ p.Rules.Pairs i).B
  ·rfl
  ·rw [cond_true,cond_true,fE (hr _)]
 refine (zoo (st:=st) (s0:=i9 (gP p st) (p.Rules.Pairs.length - 0) (i9 (gD p st) (p.Domains.length - 0) ([],[],[],[]))) (inv2 (mw a5) a5) a5 (fun i next s hin hr=>?_)).1.trans ?_
 ·unfold gL
  cases ed st (cJ p.Rules.Loads i).To&&ed st (cJ p.Rules.Loads i).From
  ·rfl
  ·rw [cond_true,cond_true,fE (hr _)]
 refine (zo5 (st:=st) (s0:=i9 (gL p st) (p.Rules.Loads.length - 0) (i9 (gP p st) (p.Rules.Pairs.length - 0) (i9 (gD p st) (p.Domains.length - 0) ([],[],[],[])))) (inv3 (inv2 (mw a5) a5) a5) a5 (fun i next s hin hr=>?_)).trans ?_
 ·unfold gC
  cases ed st (cJ p.Rules.Caps i).Station
  ·rfl
  ·rw [cond_true,cond_true,fE (hr _)]
 rfl
abbrev iF (st:List Int)(n:Int):Bool:=ed st n
theorem zkv (st:List Int):∀(l:List GDomain) (s:RS),l.foldl (fun s x=>bif ed st x.Station then (s.1++[x],s.2.1,s.2.2.1,s.2.2.2) else (s.1,s.2.1,s.2.2.1,s.2.2.2)) s=(s.1++l.filter (fun x=>iF st x.Station),s.2.1,s.2.2.1,s.2.2.2)
 | [],s=>by simp
 |x :: l,s=>by
  rw [List.foldl_cons,zkv st l]
  cases h:ed st x.Station
  ·rw [List.filter_cons_of_neg (p:=fun x:GDomain=>iF st x.Station) (by show ¬(ed st x.Station)=true;rw [h];simp)];rfl
  ·rw [List.filter_cons_of_pos (p:=fun x:GDomain=>iF st x.Station) h,cond_true,List.append_assoc];rfl
theorem zkE (st:List Int):∀(l:List GPair) (s:RS),l.foldl (fun s x=>bif ed st x.A&&ed st x.B then (s.1,s.2.1++[x],s.2.2.1,s.2.2.2) else (s.1,s.2.1,s.2.2.1,s.2.2.2)) s=(s.1,s.2.1++l.filter (fun x=>iF st x.A&&iF st x.B),s.2.2.1,s.2.2.2)
 | [],s=>by simp
 |x :: l,s=>by
  rw [List.foldl_cons,zkE st l]
  cases h:ed st x.A&&ed st x.B
  ·rw [List.filter_cons_of_neg (p:=fun x:GPair=>iF st x.A&&iF st x.B) (by show ¬(ed st x.A&&ed st x.B)=true;rw [h];simp)];rfl
  ·rw [List.filter_cons_of_pos (p:=fun x:GPair=>iF st x.A&&iF st x.B) h,cond_true,List.append_assoc];rfl
theorem zkB (st:List Int):∀(l:List GLoad) (s:RS),l.foldl (fun s x=>bif ed st x.To&&ed st x.From then (s.1,s.2.1,s.2.2.1++[x],s.2.2.2) else (s.1,s.2.1,s.2.2.1,s.2.2.2)) s=(s.1,s.2.1,s.2.2.1++l.filter (fun x=>iF st x.To&&iF st x.From),s.2.2.2)
 | [],s=>by simp
 |x :: l,s=>by
  rw [List.foldl_cons,zkB st l]
  cases h:ed st x.To&&ed st x.From
  ·rw [List.filter_cons_of_neg (p:=fun x:GLoad=>iF st x.To&&iF st x.From) (by show ¬(ed st x.To&&ed st x.From)=true;rw [h];simp)];rfl
  ·rw [List.filter_cons_of_pos (p:=fun x:GLoad=>iF st x.To&&iF st x.From) h,cond_true,List.append_assoc];rfl
theorem zkF (st:List Int):∀(l:List GCap) (s:RS),l.foldl (fun s x=>bif ed st x.Station then (s.1,s.2.1,s.2.2.1,s.2.2.2++[x]) else (s.1,s.2.1,s.2.2.1,s.2.2.2)) s=(s.1,s.2.1,s.2.2.1,s.2.2.2++l.filter (fun x=>iF st x.Station))
 | [],s=>by simp
 |x :: l,s=>by
  rw [List.foldl_cons,zkF st l]
  cases h:ed st x.Station
  ·rw [List.filter_cons_of_neg (p:=fun x:GCap=>iF st x.Station) (by show ¬(ed st x.Station)=true;rw [h];simp)];rfl
  ·rw [List.filter_cons_of_pos (p:=fun x:GCap=>iF st x.Station) h,cond_true,List.append_assoc];rfl
theorem zmO (p:GProblem)(st:List Int):gw p st=⟨p.Domains.filter (fun x=>iF st x.Station),⟨p.Rules.Pairs.filter (fun x=>iF st x.A&&iF st x.B),p.Rules.Loads.filter (fun x=>iF st x.To&&iF st x.From),p.Rules.Caps.filter (fun x=>iF st x.Station)⟩⟩:=by
 have e:zkQ p st=(p.Domains.filter (fun x=>iF st x.Station),p.Rules.Pairs.filter (fun x=>iF st x.A&&iF st x.B),p.Rules.Loads.filter (fun x=>iF st x.To&&iF st x.From),p.Rules.Caps.filter (fun x=>iF st x.Station)):=by
  unfold zkQ i9;simp only [Nat.sub_zero];have h1:∀s:RS,(List.range p.Domains.length).foldl (fun s i=>gD p st i s) s=_:=fun s=>(zcn (l:=p.Domains) (g:=fun (s:RS) x=>bif ed st x.Station then (s.1++[x],s.2.1,s.2.2.1,s.2.2.2) else (s.1,s.2.1,s.2.2.1,s.2.2.2)) (s:=s)).trans (zkv st _ s);have h2:∀s:RS,(List.range p.Rules.Pairs.length).foldl (fun s i=>gP p st i s) s=_:=fun s=>(zcn (l:=p.Rules.Pairs) (g:=fun (s:RS) x=>bif ed st x.A&&ed st x.B then (s.1,s.2.1++[x],s.2.2.1,s.2.2.2) else (s.1,s.2.1,s.2.2.1,s.2.2.2)) (s:=s)).trans (zkE st _ s);have h3:∀s:RS,(List.range p.Rules.Loads.length).foldl (fun s i=>gL p st i s) s=_:=fun s=>(zcn (l:=p.Rules.Loads) (g:=fun (s:RS) x=>bif ed st x.To&&ed st x.From then (s.1,s.2.1,s.2.2.1++[x],s.2.2.2) else (s.1,s.2.1,s.2.2.1,s.2.2.2)) (s:=s)).trans (zkB st _ s);have h4:∀s:RS,(List.range p.Rules.Caps.length).foldl (fun s i=>gC p st i s) s=_:=fun s=>(zcn (l:=p.Rules.Caps) (g:=fun (s:RS) x=>bif ed st x.Station then (s.1,s.2.1,s.2.2.1,s.2.2.2++[x]) else (s.1,s.2.1,s.2.2.1,s.2.2.2)) (s:=s)).trans (zkF st _ s);rw [h1,h2,h3,h4];simp
 unfold gw;rw [e]
theorem zmC {α:Type}[Inhabited α]{lt:α→α→Bool}(ht:∀a b c,lt a b=true→lt b c=true→lt a c=true){l:List α}:fJ lt l=true↔l.Pairwise (fun a b=>lt a b=true):=by
 constructor
 ·intro h;have h1:∀i,i+1<l.length→lt (cJ l i) (cJ l (i+1))=true:=fun i hi=>List.all_eq_true.1 h (i+1) (List.mem_range'_1.2 ⟨by omega,by omega⟩)
  have h2:∀d i,i+d+1<l.length→lt (cJ l i) (cJ l (i+d+1))=true:=by
   intro d
   induction d with
   |zero=>intro i hi;exact h1 i hi
   |succ d ih=>intro i hi;exact ht _ _ _ (ih i a5) (h1 (i+d+1) a5)
  refine List.pairwise_iff_getElem.2 fun i j hi hj hij=>?_;rw [←dV hi,←dV hj];have:=h2 (j - i - 1) i a5
  rwa [show i+(j - i - 1)+1=j by omega] at this
 ·intro h;refine List.all_eq_true.2 fun i hi=>?_;have hi:=List.mem_range'_1.1 hi;rw [dV (show i - 1<l.length by omega),dV (show i<l.length by omega)];exact List.pairwise_iff_getElem.1 h (i - 1) i _ _ a5
theorem zmI {a b:Int}{x y:List Int}:ep (a :: x) (b :: y)=true↔a<b∨(a=b∧ep x y=true):=by
 show (bif decide (a=b) then ep x y else decide (a<b))=true↔_
 by_cases h:a=b
 ·rw [decide_eq_true h,cond_true];exact ⟨fun h1=> .inr ⟨h,h1⟩,fun h1=>h1.elim (fun h2=>absurd h2 a5) (·.2)⟩
 ·rw [decide_eq_false h,cond_false,decide_eq_true_eq];exact ⟨.inl,fun h1=>h1.elim id (fun h2=>absurd h2.1 h)⟩
theorem zh6:∀a b c:List Int,ep a b=true→ep b c=true→ep a c=true
 | [],_,_,h,_=>by cases h
 |_ :: _,[],_,h,_=>by cases h
 |_ :: _,_ :: _,[],_,h=>by cases h
 |a :: x,b :: y,c :: z,h1,h2=>by
  rw [zmI] at h1 h2 ⊢;rcases h1 with h1|⟨h1,h3⟩ <;> rcases h2 with h2|⟨h2,h4⟩
  ·left;omega
  ·left;omega
  ·left;omega
  ·exact .inr ⟨by omega,zh6 x y z h3 h4⟩
theorem zgv {α:Type}[Inhabited α]{lt:α→α→Bool}(ht:∀a b c,lt a b=true→lt b c=true→lt a c=true){l l':List α}(hs:l'.Sublist l)(h:fJ lt l=true):fJ lt l'=true:=(zmC ht).2 (((zmC ht).1 h).sublist hs)
theorem zof {α:Type}{l l':List α}{q:α→Bool}(hs:l'.Sublist l)(h:l.all q=true):l'.all q=true:=List.all_eq_true.2 fun x hx=>List.all_eq_true.1 h x (hs.subset hx)
theorem kB {a b:Bool}(ha:a=true)(hb:b=true):(a&&b)=true:=by rw [ha,hb];rfl
structure RulesP (r:GRules):Prop where
 g:RulesGood r
 ip:fJ (fun a b=>ep (kE a) (kE b)) r.Pairs=true
 il:fJ (fun a b=>ep (kC a) (kC b)) r.Loads=true
 ic:fJ (fun a b=>ep (fM a) (fM b)) r.Caps=true
theorem zmh {r:GRules}(h:nz r=true):RulesP r:=by
 have hg:=zef h;unfold nz at h;have h1:=fY h;have h2:=fY h1;have h3:=fY h2;have h4:=fY h3;have h5:=fY h4;have h6:=fY h5;have h7:=fY h6;exact ⟨hg,fC h2,fC h5,fY h7⟩
theorem RulesP.b {r:GRules}(h:RulesP r):nz r=true:=by
 have a:=h.g.np;have b:=h.g.nl;have c:=h.g.nc;exact kB (decide_eq_true a5) (kB (List.all_eq_true.2 h.g.p) (kB h.ip (kB (decide_eq_true a5) (kB (List.all_eq_true.2 h.g.l) (kB h.il (kB (decide_eq_true a5) (kB (List.all_eq_true.2 h.g.c) h.ic)))))))
theorem zoG (a b c:GPair):ep (kE a) (kE b)=true→ep (kE b) (kE c)=true→ep (kE a) (kE c)=true:=zh6 _ _ _
theorem zoz (a b c:GLoad):ep (kC a) (kC b)=true→ep (kC b) (kC c)=true→ep (kC a) (kC c)=true:=zh6 _ _ _
theorem zpw (a b c:GCap):ep (fM a) (fM b)=true→ep (fM b) (fM c)=true→ep (fM a) (fM c)=true:=zh6 _ _ _
theorem RulesP.sub {r r':GRules}(h:RulesP r)(hp:r'.Pairs.Sublist r.Pairs)(hl:r'.Loads.Sublist r.Loads)(hc:r'.Caps.Sublist r.Caps):RulesP r':=by
 refine ⟨⟨?_,?_,?_,fun x hx=>h.g.p x (hp.subset hx),fun x hx=>h.g.l x (hl.subset hx),fun x hx=>h.g.c x (hc.subset hx)⟩,zgv zoG hp h.ip,zgv zoz hl h.il,zgv zpw hc h.ic⟩
 ·have:=hp.length_le;have:=h.g.np;omega
 ·have:=hl.length_le;have:=h.g.nl;omega
 ·have:=hc.length_le;have:=h.g.nc;omega
theorem zlx {p:GProblem}(h:okP p=true):p.Domains.all mA=true∧RulesP p.Rules∧lF p=true∧zi0 p=true:=⟨fC h,zmh (fC (fY h)),fC (fY (fY h)),fY (fY (fY h))⟩
theorem znB {p:GProblem}(h1:p.Domains.all mA=true)(h2:RulesP p.Rules)(h3:lF p=true)(h4:zi0 p=true):okP p=true:=kB h1 (kB h2.b (kB h3 h4))
theorem zdH {p q:GProblem}{st:List Int}{n:Int}(e:q.Domains=p.Domains.filter fun x=>iF st x.Station)(h:iI p n=true)(hs:iF st n=true):iI q n=true:=by
 refine kB (fC h) ?_;obtain ⟨d,hd,hn⟩:=List.any_eq_true.1 (fY h);have e2:=of_decide_eq_true hn;rw [e];exact List.any_eq_true.2 ⟨d,List.mem_filter.2 ⟨hd,by rw [e2];exact hs⟩,hn⟩
theorem zno {p:GProblem}{st:List Int}(h:okP p=true):okP (gw p st)=true:=by
 obtain ⟨h1,h2,h3,h4⟩:=zlx h;rw [zmO];refine znB (zof List.filter_sublist h1) (h2.sub List.filter_sublist List.filter_sublist List.filter_sublist) (zgv (fun a b c x y=>by rw [decide_eq_true_eq] at *;omega) List.filter_sublist h3) ?_;have a1:=List.all_eq_true.1 (fC h4);have a2:=List.all_eq_true.1 (fC (fY h4));have a3:=List.all_eq_true.1 (fY (fY h4));refine kB (List.all_eq_true.2 fun c hc=>?_) (kB (List.all_eq_true.2 fun c hc=>?_) (List.all_eq_true.2 fun c hc=>?_))
 ·obtain ⟨b1,b2⟩:=List.mem_filter.1 hc;exact kB (zdH rfl (fC (a1 c b1)) (fC b2)) (zdH rfl (fY (a1 c b1)) (fY b2))
 ·obtain ⟨b1,b2⟩:=List.mem_filter.1 hc;exact kB (zdH rfl (fC (a2 c b1)) (fC b2)) (zdH rfl (fY (a2 c b1)) (fY b2))
 ·obtain ⟨b1,b2⟩:=List.mem_filter.1 hc;exact zdH rfl (a3 c b1) b2
section
variable {P:Program}{n:Nat}{B D:World}{M:Nat→Prop}{fs:d4}{hs:HS}{o:Oper}{v:Value}
theorem K.slNil {Q:Exit→Act→World→Prop}{e:Exit}(t:TypeId)(size:Nat)(h:K n B D M Q e fs (.sl (.slice none 0 0) t size 0 [] :: hs)):K n B D M Q e fs hs:=⟨fun a w ha hw hm=>h.out a w ha (hw.slNil t size) hm⟩
def zoU (v:Value):Prop:=∃A m c,v= .slice (some A) m c
def NilI {α:Type}(v:Value)(l:List α):Prop:=(l=[]∧v= .slice none 0 0)∨(l≠[]∧zoU v)
theorem NilI.nil {α:Type}:NilI (.slice none 0 0) ([]:List α):= .inl ⟨rfl,rfl⟩
end
structure Gfault where
 first:Int
deriving DecidableEq,Inhabited
abbrev ly (x:Gfault):List Value:=[.int .i64 x.first]
theorem Gfault.len (x:Gfault):(ly x).length=1:=rfl
structure GWriter where
 fault:Gfault
 out:List Int
deriving DecidableEq,Inhabited
def eH (F:Frz)(c:List Value)(x:GWriter):Prop:=∃(v1:Value),c=[.int .i64 x.fault.first,v1]∧SlC F v1 1 (x.out.map (eK .u8))
theorem GWriter.mono {F G:Frz}{c:List Value}{x:GWriter}(hle:F.Le G)(h:eH F c x):eH G c x:=by
 obtain ⟨v1,h0,h2⟩:=h;exact ⟨v1,h0,h2.mono hle⟩
theorem GWriter.len {F:Frz}{c:List Value}{x:GWriter}(h:eH F c x):c.length=2:=by
 obtain ⟨v1,h0,h2⟩:=h;subst h0;rfl
theorem GWriter.one {F:Frz}{c:List Value}{x:GWriter}(h:eH F c x):OneCs c:=by
 obtain ⟨v1,h0,h2⟩:=h;subst h0;haveI:=h2.oneC
 infer_instance
theorem GWriter.c0 {F:Frz}{c:List Value}{x:GWriter}(h:eH F c x):c[0]?=some (.int .i64 x.fault.first):=by
 obtain ⟨v1,h0,h2⟩:=h;subst h0;rfl
theorem GWriter.c1 {F:Frz}{c:List Value}{x:GWriter}(h:eH F c x):c[1]?=some (cJ c 1)∧SlC F (cJ c 1) 1 (x.out.map (eK .u8)):=by
 obtain ⟨v1,h0,h2⟩:=h;subst h0;exact ⟨rfl,h2⟩
theorem GWriter.form {F:Frz}{c:List Value}{x:GWriter}(h:eH F c x):(c.drop 0).take 2=[.int .i64 x.fault.first,cJ c 1]:=by
 obtain ⟨v1,h0,h2⟩:=h;subst h0;rfl
def zec (fuel:Nat)(l0_:List Int)(n:BitVec 64):Option (List Int):=
 dH (fun (s3:List Int×BitVec 64)=>
  ej (dl (s3.1++[(IntKind.u8.wrap (s3.2.toNat:Int))]).length 1) <|
  some (s3.1++[(IntKind.u8.wrap (s3.2.toNat:Int))]))
 (fun k3=>
  iZ (fun (next6:(List Int×BitVec 64)→Option (List Int)) (s6:List Int×BitVec 64)=>
   (bif decide (((127#64).toNat:Int)<(s6.2.toNat:Int)) then
    ej (dl (s6.1++[(orK .u8 (IntKind.u8.wrap (s6.2.toNat:Int)) 128)]).length 1) <|
    next6 ((s6.1++[(orK .u8 (IntKind.u8.wrap (s6.2.toNat:Int)) 128)]),(s6.2 >>> 7))
    else
    k3 (s6.1,s6.2))) fuel (l0_,n))
theorem zhX (F0:Frz)(w:World)(hF0:F0.At w)(l0_:List Int)(v0_:Value)(n:BitVec 64)(hO:Hp w (dG [.sl v0_ 5 1 l0_.length (l0_.flatMap (eK .u8))]) [.sl v0_ 5 1 l0_.length (l0_.flatMap (eK .u8))] w)(hA:∀g,dG [.sl v0_ 5 1 l0_.length (l0_.flatMap (eK .u8))] g→¬F0.S g)(fuel:Nat)(r:List Int)(hr:zec fuel l0_ n=some r):Calls Tryz.prog 102 #[v0_,U n] w fun e w'=>∃(y:Value),(True)∧e= .returned (y)∧FxM F0 w (dG [.sl v0_ 5 1 l0_.length (l0_.flatMap (eK .u8))]) F0 [.sl y 5 1 r.length (r.flatMap (eK .u8))] w':=by
 have hk:=hr;unfold zec at hk;haveI:=lM (hO.own (.sl v0_ 5 1 l0_.length (l0_.flatMap (eK .u8))) a9);have hmx0_:=lr (hO.own (.sl v0_ 5 1 l0_.length (l0_.flatMap (eK .u8))) a9);obtain ⟨S0,F1,rfl,hS0,hp0⟩:=lB hF0 hO hA;refine dt (hs:=[.sl v0_ 5 1 l0_.length (l0_.flatMap (eK .u8)), .fr F1]) Tryz.func102 rfl rfl rfl hp0 ?_;refine gy ?_;refine TL.slNil 5 1 ?_;refine lQ ?_;have hq:=d7 hk;clear hk;obtain ⟨k3,hk3,hk⟩:=hq; (try dsimp only at hk);refine cZ (ι:=List Int×Value×BitVec 64) (fun z=>[(0,z.2.1),(1,U z.2.2)]) (fun z=>[.sl z.2.1 5 1 z.1.length (z.1.flatMap (eK .u8)), .fr F1]) (fun z=>k3 (z.1,z.2.2)=some r∧OneC z.2.1) ?_ ?_
 ·have hq:=zcS hk;clear hk;obtain ⟨f6,hf6,hk⟩:=hq;refine eA ?_;refine T.pick [1,2] rfl a6 ?_;refine T.loop (ι:=Nat×List Int×Value×BitVec 64) (fun z=>[(0,z.2.2.1),(1,U z.2.2.2)]) (fun z=>[.sl z.2.2.1 5 1 z.2.1.length (z.2.1.flatMap (eK .u8)), .fr F1]) (fun z=>iZ f6 z.1 (z.2.1,z.2.2.2)=some r∧OneC z.2.2.1) (fun z=>z.1) (fuel,l0_,v0_,n) ?_ ?_ ?_ ?_
  ·exact q43
  ·exact nE
  ·exact eh
  ·rintro ⟨m_7,out_4,vout_4,n_5⟩ ⟨hk,oout_4⟩; (try dsimp only at *);have hq:=zdv hk;clear hk;obtain ⟨m_7',rfl,hk⟩:=hq;generalize hn6:iZ f6 m_7'=next6 at hk;rw [←hf6] at hk; (try dsimp only at hk);refine iC ?_;refine db ?_;refine T.cond rfl (fun h8=>?_) (fun h8=>?_)
   ·replace hk:=dr hk h8;refine T.skip (K.seq (T.block (T.seq ?_)));have hq:(dl (out_4++[(orK .u8 (IntKind.u8.wrap (n_5.toNat:Int)) 128)]).length 1)∧_:=fu hk;clear hk;obtain ⟨g12,hk⟩:=hq; (try dsimp only at hk);refine iW ?_;refine cL (nv (z:=(n_5.toNat:Int)) rfl rfl) ?_;refine cL (Yv.orK (a:=(IntKind.u8.wrap (n_5.toNat:Int))) (b:=128) rfl rfl rfl) ?_;refine jG ?_;rintro _ _ ⟨g11,rfl,rfl⟩;refine cU (ff 1 0 rfl rfl rfl rfl rfl rfl (kd (ys:=[(orK .u8 (IntKind.u8.wrap (n_5.toNat:Int)) 128)])) (zcj (enc:=(eK .u8)) (xs:=out_4) (ys:=[(orK .u8 (IntKind.u8.wrap (n_5.toNat:Int)) 128)])) g12 a6) ?_;rintro v12 _ ⟨hv12,rfl⟩;refine di ?_;refine db (T.region ?_);refine di ?_;refine cL (fZ (a:=n_5) 7 rfl rfl rfl (show (7:Int)=((7:Nat):Int) from rfl) a5) ?_;refine di ?_;refine TL.nil (gT ?_);rw [←hn6] at hk;refine mV ?_;exact K.next (m_7',(out_4++[(orK .u8 (IntKind.u8.wrap (n_5.toNat:Int)) 128)]),v12,(n_5 >>> 7)) ⟨hk,inferInstance⟩ a8 (.c (.c .nil)) (List.Sublist.refl _)
   ·replace hk:=dq hk h8;refine eC ?_;exact cS (out_4,vout_4,n_5) ⟨hk,inferInstance⟩ (.c (.c .nil)) (List.Sublist.refl _)
 ·rintro ⟨out_1,vout_1,n_2⟩ ⟨hk,oout_1⟩; (try dsimp only at *);rw [←hk3] at hk; (try dsimp only at hk);refine T.seq ?_;have hq:(dl (out_1++[(IntKind.u8.wrap (n_2.toNat:Int))]).length 1)∧_:=fu hk;clear hk;obtain ⟨g19,hk⟩:=hq; (try dsimp only at hk);refine iW ?_;refine cL (nv (z:=(n_2.toNat:Int)) rfl rfl) ?_;refine jG ?_;rintro _ _ ⟨g18,rfl,rfl⟩;refine cU (ff 1 0 rfl rfl rfl rfl rfl rfl (kd (ys:=[(IntKind.u8.wrap (n_2.toNat:Int))])) (zcj (enc:=(eK .u8)) (xs:=out_1) (ys:=[(IntKind.u8.wrap (n_2.toNat:Int))])) g19 a6) ?_;rintro v19 _ ⟨hv19,rfl⟩;refine fw ?_;obtain rfl:=Option.some.inj hk;exact c4 rfl rfl (fun w' hw=>⟨v19,trivial,rfl,dx (hw.pick (idx:=[1,2]) rfl a6) hS0 (Frz.Le.refl _)⟩)
def zaU (x0_:GWriter):Bool:=
 (decide (x0_.fault.first=0))
theorem zcX (F0:Frz)(w:World)(hF0:F0.At w)(x0_:GWriter)(g0_:Nat)(v0_1:Value)(hO:Hp w (dG [.row g0_ 128 [.int .i64 x0_.fault.first,v0_1], .sl v0_1 5 1 x0_.out.length (x0_.out.flatMap (eK .u8))]) [.row g0_ 128 [.int .i64 x0_.fault.first,v0_1], .sl v0_1 5 1 x0_.out.length (x0_.out.flatMap (eK .u8))] w)(hA:∀g,dG [.row g0_ 128 [.int .i64 x0_.fault.first,v0_1], .sl v0_1 5 1 x0_.out.length (x0_.out.flatMap (eK .u8))] g→¬F0.S g):Calls Tryz.prog 99 #[.pointer (some ⟨g0_,0,none⟩)] w fun e w'=>∃(y:Unit),(True)∧e= .returned (.bool (zaU x0_))∧FxM F0 w (dG [.row g0_ 128 [.int .i64 x0_.fault.first,v0_1], .sl v0_1 5 1 x0_.out.length (x0_.out.flatMap (eK .u8))]) F0 [.row g0_ 128 [.int .i64 x0_.fault.first,v0_1], .sl v0_1 5 1 x0_.out.length (x0_.out.flatMap (eK .u8))] w':=by
 obtain ⟨r,hk⟩:∃r,zaU x0_=r:=⟨_,rfl⟩;rw [hk];unfold zaU at hk;haveI:=lM (hO.own (.sl v0_1 5 1 x0_.out.length (x0_.out.flatMap (eK .u8))) a9);have hmx0_1:=lr (hO.own (.sl v0_1 5 1 x0_.out.length (x0_.out.flatMap (eK .u8))) a9);obtain ⟨S0,F1,rfl,hS0,hp0⟩:=lB hF0 hO hA;refine dt (hs:=[.row g0_ 128 [.int .i64 x0_.fault.first,v0_1], .sl v0_1 5 1 x0_.out.length (x0_.out.flatMap (eK .u8)), .fr F1]) Tryz.func99 rfl rfl rfl hp0 ?_;refine fb ?_;refine cZ (ι:=Unit) (fun z=>[(2, .bool (decide (x0_.fault.first=0)))]) (fun z=>[.row g0_ 128 [.int .i64 x0_.fault.first,v0_1], .sl v0_1 5 1 x0_.out.length (x0_.out.flatMap (eK .u8)), .fr F1]) (fun z=>True) ?_ ?_
 ·refine gM ?_;refine cL (Yv.co (e:=128) a7 rfl rfl rfl) ?_;refine eB ?_;refine fc ?_;refine ef ?_;refine eB ?_;refine eW ?_;exact cS () trivial (.c .nil) (List.Sublist.refl _)
 ·refine m9 ?_;subst hk;exact q5l
def zbe (x0_:GWriter)(l1_:List Int):Option (List Int):=
 (bif decide (65536<(l1_.length:Int)) then
  none
  else
  some l1_)
theorem zcP (F0:Frz)(w:World)(hF0:F0.At w)(x0_:GWriter)(g0_:Nat)(v0_1:Value)[iv0_1:OneC v0_1](l1_:List Int)(v1_:Value)(hO:Hp w (dG [.row g0_ 128 [.int .i64 x0_.fault.first,v0_1], .sl v1_ 5 1 l1_.length (l1_.flatMap (eK .u8))]) [.row g0_ 128 [.int .i64 x0_.fault.first,v0_1], .sl v1_ 5 1 l1_.length (l1_.flatMap (eK .u8))] w)(hA:∀g,dG [.row g0_ 128 [.int .i64 x0_.fault.first,v0_1], .sl v1_ 5 1 l1_.length (l1_.flatMap (eK .u8))] g→¬F0.S g)(r:List Int)(hr:zbe x0_ l1_=some r):Calls Tryz.prog 101 #[.pointer (some ⟨g0_,0,none⟩),v1_] w fun e w'=>∃(y:Value),(True)∧e= .returned (.tuple #[])∧FxM F0 w (dG [.row g0_ 128 [.int .i64 x0_.fault.first,v0_1], .sl v1_ 5 1 l1_.length (l1_.flatMap (eK .u8))]) F0 [.row g0_ 128 [.int .i64 x0_.fault.first,y], .sl y 5 1 r.length (r.flatMap (eK .u8))] w':=by
 have hk:=hr;unfold zbe at hk;haveI:=lM (hO.own (.sl v1_ 5 1 l1_.length (l1_.flatMap (eK .u8))) a9);have hmx1_:=lr (hO.own (.sl v1_ 5 1 l1_.length (l1_.flatMap (eK .u8))) a9);obtain ⟨S0,F1,rfl,hS0,hp0⟩:=lB hF0 hO hA;refine dt (hs:=[.row g0_ 128 [.int .i64 x0_.fault.first,v0_1], .sl v1_ 5 1 l1_.length (l1_.flatMap (eK .u8)), .fr F1]) Tryz.func101 rfl rfl rfl hp0 ?_;refine jz ?_;refine cL (lY 1 rfl rfl rfl) ?_;refine dA ?_;refine T.cond rfl (fun h1=>?_) (fun h1=>?_)
 ·have p1:=of_decide_eq_true h1;replace hk:=dr hk h1;refine T.seq ?_;cases hk
 ·have p1:=of_decide_eq_false h1;replace hk:=dq hk h1;refine T.skip (K.seq (T.region ?_));refine eB ?_;refine fc ?_;refine eY (eo 0 rfl rfl rfl rfl a9) ?_;refine fD ?_;refine eW ?_;obtain rfl:=Option.some.inj hk;exact mC rfl (fun w' hw=>⟨v1_,trivial,rfl,dx (hw.pick (idx:=[0,1,2]) rfl a6) hS0 (Frz.Le.refl _)⟩)
def zax (fuel:Nat)(x0_:GWriter)(n:Int):Option (List Int):=
 (bif !(zaU x0_) then
  some x0_.out
  else
  (bif decide (n<0) then
   none
   else
   (zec fuel x0_.out (BitVec.ofInt 64 n)).bind fun r20=>
   (zbe x0_ r20).bind fun r21=>
   some r21))
theorem zaG (F0:Frz)(w:World)(hF0:F0.At w)(x0_:GWriter)(g0_:Nat)(v0_1:Value)(n:Int)(hO:Hp w (dG [.row g0_ 128 [.int .i64 x0_.fault.first,v0_1], .sl v0_1 5 1 x0_.out.length (x0_.out.flatMap (eK .u8))]) [.row g0_ 128 [.int .i64 x0_.fault.first,v0_1], .sl v0_1 5 1 x0_.out.length (x0_.out.flatMap (eK .u8))] w)(hA:∀g,dG [.row g0_ 128 [.int .i64 x0_.fault.first,v0_1], .sl v0_1 5 1 x0_.out.length (x0_.out.flatMap (eK .u8))] g→¬F0.S g)(fuel:Nat)(r:List Int)(hr:zax fuel x0_ n=some r):Calls Tryz.prog 68 #[.pointer (some ⟨g0_,0,none⟩), .int .i64 n] w fun e w'=>∃(y:Value),(True)∧e= .returned (.tuple #[])∧FxM F0 w (dG [.row g0_ 128 [.int .i64 x0_.fault.first,v0_1], .sl v0_1 5 1 x0_.out.length (x0_.out.flatMap (eK .u8))]) F0 [.row g0_ 128 [.int .i64 x0_.fault.first,y], .sl y 5 1 r.length (r.flatMap (eK .u8))] w':=by
 have hk:=hr;unfold zax at hk;haveI:=lM (hO.own (.sl v0_1 5 1 x0_.out.length (x0_.out.flatMap (eK .u8))) a9);have hmx0_1:=lr (hO.own (.sl v0_1 5 1 x0_.out.length (x0_.out.flatMap (eK .u8))) a9);obtain ⟨S0,F1,rfl,hS0,hp0⟩:=lB hF0 hO hA;refine dt (hs:=[.row g0_ 128 [.int .i64 x0_.fault.first,v0_1], .sl v0_1 5 1 x0_.out.length (x0_.out.flatMap (eK .u8)), .fr F1]) Tryz.func68 rfl rfl rfl hp0 ?_;refine jz ?_;refine cU (fo [0,1,2] [.row g0_ 128 [.int .i64 x0_.fault.first,v0_1], .sl v0_1 5 1 x0_.out.length (x0_.out.flatMap (eK .u8))] [] rfl rfl rfl rfl a6 (fun w hw hw2 hF=>zcX _ w hF x0_ g0_ v0_1 hw2.takes.1 hw2.takes.2)) ?_;rintro _ _ ⟨⟨⟩, -,rfl,rfl⟩;refine fI ?_;refine dA ?_;refine T.cond rfl (fun h1=>?_) (fun h1=>?_)
 ·replace hk:=dr hk h1;refine T.ret (ee ?_);obtain rfl:=Option.some.inj hk;exact K.bS rfl (fun w' hw=>⟨v0_1,trivial,rfl,dx (hw.pick (idx:=[0,1,2]) rfl a6) hS0 (Frz.Le.refl _)⟩)
 ·replace hk:=dq hk h1;refine lW ?_;refine jE ?_;refine T.cond rfl (fun h2=>?_) (fun h2=>?_)
  ·have p2:=of_decide_eq_true h2;replace hk:=dr hk h2;refine T.seq ?_;cases hk
  ·have p2:=of_decide_eq_false h2;replace hk:=dq hk h2;refine mR ?_;have hq:=d5 hk;clear hk;obtain ⟨r20,hr20,hk⟩:=hq;have hq:=d5 hk;clear hk;obtain ⟨r21,hr21,hk⟩:=hq; (try dsimp only at hk);refine q4F ?_;refine i2 ?_;refine cL (Yv.bX (z:=n) rfl rfl) ?_;refine cU (fo [1,2,0] [.sl v0_1 5 1 x0_.out.length (x0_.out.flatMap (eK .u8))] [.row g0_ 128 [.int .i64 x0_.fault.first,v0_1]] rfl rfl rfl rfl a6 (fun w hw hw2 hF=>zhX _ w hF x0_.out v0_1 (BitVec.ofInt 64 n) hw2.takes.1 hw2.takes.2 fuel r20 hr20)) ?_;rintro v20_0_0 _ ⟨_, -,rfl,rfl⟩;refine fI ?_;refine fT 0 rfl ?_;intro iv20_0_0 hmv20_0_0;refine cU (fo [2,0,1] [.row g0_ 128 [.int .i64 x0_.fault.first,v0_1], .sl v20_0_0 5 1 r20.length (r20.flatMap (eK .u8))] [] rfl rfl rfl rfl a6 (fun w hw hw2 hF=>zcP _ w hF x0_ g0_ v0_1 r20 v20_0_0 hw2.takes.1 hw2.takes.2 r21 hr21)) ?_;rintro _ _ ⟨v21_0_1, -,rfl,rfl⟩;refine q4D ?_;intro iv21_0_1 hmv21_0_1;refine eW ?_;obtain rfl:=Option.some.inj hk;exact mC rfl (fun w' hw=>⟨v21_0_1,trivial,rfl,dx (hw.pick (idx:=[0,1,2]) rfl a6) hS0 (Frz.Le.refl _)⟩)
def zbu (x0_:GWriter):Option (List Int×Int):=
 (bif decide (¬x0_.fault.first=0) then
  some ([],x0_.fault.first)
  else
  ej (dl ([]++x0_.out).length 1) <|
  some (([]++x0_.out),0))
theorem zdk (F0:Frz)(w:World)(hF0:F0.At w)(x0_:GWriter)(g0_:Nat)(v0_1:Value)(hO:Hp w (dG [.row g0_ 128 [.int .i64 x0_.fault.first,v0_1], .sl v0_1 5 1 x0_.out.length (x0_.out.flatMap (eK .u8))]) [.row g0_ 128 [.int .i64 x0_.fault.first,v0_1], .sl v0_1 5 1 x0_.out.length (x0_.out.flatMap (eK .u8))] w)(hA:∀g,dG [.row g0_ 128 [.int .i64 x0_.fault.first,v0_1], .sl v0_1 5 1 x0_.out.length (x0_.out.flatMap (eK .u8))] g→¬F0.S g)(r:List Int×Int)(hr:zbu x0_=some r):Calls Tryz.prog 69 #[.pointer (some ⟨g0_,0,none⟩)] w fun e w'=>∃(y:Value),(True)∧e= .returned (.tuple #[y, .int .i64 r.2])∧FxM F0 w (dG [.row g0_ 128 [.int .i64 x0_.fault.first,v0_1], .sl v0_1 5 1 x0_.out.length (x0_.out.flatMap (eK .u8))]) F0 [.row g0_ 128 [.int .i64 x0_.fault.first,v0_1], .sl v0_1 5 1 x0_.out.length (x0_.out.flatMap (eK .u8)), .sl y 5 1 r.1.length (r.1.flatMap (eK .u8))] w':=by
 have hk:=hr;unfold zbu at hk;haveI:=lM (hO.own (.sl v0_1 5 1 x0_.out.length (x0_.out.flatMap (eK .u8))) a9);have hmx0_1:=lr (hO.own (.sl v0_1 5 1 x0_.out.length (x0_.out.flatMap (eK .u8))) a9);obtain ⟨S0,F1,rfl,hS0,hp0⟩:=lB hF0 hO hA;refine dt (hs:=[.row g0_ 128 [.int .i64 x0_.fault.first,v0_1], .sl v0_1 5 1 x0_.out.length (x0_.out.flatMap (eK .u8)), .fr F1]) Tryz.func69 rfl rfl rfl hp0 ?_;refine gy ?_;refine TL.slNil 5 1 ?_;refine nH ?_;refine cL (nL (e:=128) a7 rfl rfl rfl) ?_;refine nD ?_;refine lW ?_;refine d8 ?_;refine fc ?_;refine la ?_;refine dA ?_;refine T.cond rfl (fun h1=>?_) (fun h1=>?_)
 ·have p1:=of_decide_eq_true h1;replace hk:=dr hk h1;refine T.seq ?_;refine dD (sN 0 6 (.still 6 .done)) _ a7 (List.Sublist.refl _) ?_;refine jO ?_;refine q1Y ?_;refine TS.slNil 5 1 ?_;refine mO ?_;refine K.seq (T.ret (ee ?_));obtain rfl:=Option.some.inj hk;exact ez rfl rfl rfl (fun w' hw=>⟨(.slice none 0 0),trivial,rfl,dx (hw.pick (idx:=[2,3,0,4]) rfl a6) hS0 (Frz.Le.refl _)⟩)
 ·have p1:=of_decide_eq_false h1;replace hk:=dq hk h1;refine jh ?_;have hq:(dl ([]++x0_.out).length 1)∧_:=fu hk;clear hk;obtain ⟨g21,hk⟩:=hq; (try dsimp only at hk);refine iW ?_;refine la ?_;refine TL.slNil 5 1 ?_;refine cU (Ew.bW 0 3 (znf (fun _=>inferInstance)) rfl rfl rfl rfl rfl (zmT ([]:List Int) x0_.out) (zlk (enc:=(eK .u8)) ([]:List Int) x0_.out) g21 a6) ?_;rintro v21 _ ⟨hv21,rfl⟩;refine jT ?_;obtain rfl:=Option.some.inj hk;exact ez rfl rfl rfl (fun w' hw=>⟨v21,trivial,rfl,dx (hw.pick (idx:=[2,3,0,4]) rfl a6) hS0 (Frz.Le.refl _)⟩)
end Go.Proofs.YtogbggmckmnlfaaGreatDoor
namespace Go.Proofs.YtogbggmckmnlfaaGreatDoor
open Go.RowKit Go.Sort
section
variable {Fe:Fence}[hFe:Calm Fe]{P:Program}{n:Nat}{B D w:World}{M S0:Nat→Prop}{Q:Exit→Act→World→Prop}{fs:d4}{hs:HS}{ops:Array Oper}
theorem Hp.litO {j g k m size:Nat}{t:TypeId}{l l2:List Value}(hw:Hp B M hs w)(hj:hs[j]?=some (.row g t l))(he:l2=l)(hk:k=m)(hl:l.length=m*size)(hn:m≤1000):Hp B M (hs.set j (.sl (.slice (some ⟨g,0,none⟩) m m) t size k l2)) w:=by
 subst he;subst hk;have hr:=c7.1 (hw.get hj);refine hw.updAt (S:=fun _=>False) hj (Only.refl _ _) (fun _ _ h=>h.elim) (cY.2 ⟨hl, .inr ⟨g,k,_,rfl,Nat.zero_le _,hr,Nat.le_refl _,by unfold maxLen;omega,by simpa using hl,?_⟩⟩) (fun q hq=> .inl ?_)
 ·rw [←hl];simp
 ·have h1:=dg.1 hq;simp only [Value.ownBlock,Option.some.injEq] at h1;exact cT.2 h1.symm
theorem TL.litO {r:List Oper}{g k m size:Nat}{t:TypeId}{l l2:List Value}(j:Nat)(hj:hs[j]?=some (.row g t l))(he:l2=l)(hk:k=m)(hl:l.length=m*size)(hn:m≤1000)(h:TL Fe P n B D M ops Q r fs (hs.set j (.sl (.slice (some ⟨g,0,none⟩) m m) t size k l2))):TL Fe P n B D M ops Q r fs hs:=
 j6 (ι:=Unit) (φ:=fun _=>True) (hs':=fun _=>hs.set j (.sl (.slice (some ⟨g,0,none⟩) m m) t size k l2)) (fun w hw=>⟨(),trivial,hw.litO hj he hk hl hn⟩) (fun _ _=>h)
end
def zmj:Go.Shelf.Ren:=⟨fun|35=>49|n=>n,fun|0=>0|3=>3|4=>4|22=>31|23=>50|n=>n,fun|n=>n⟩
theorem zoR:Go.Proofs.SlLaysE.n35 Tryz.prog zmj:={
 mixed:=by kernel_rfl
 f35:=⟨Tryz.f49.name,by decide,Tryz.func49.trans (congrArg some a7)⟩
 t0:=Tryz.underlying0
 a0:=Tryz.isAgg0
 z0:=Tryz.sizeOf0
 v0:=Tryz.zeroValue0
 t3:=Tryz.underlying3
 a3:=Tryz.isAgg3
 z3:=Tryz.sizeOf3
 v3:=Tryz.zeroValue3
 t4:=Tryz.underlying4
 a4:=Tryz.isAgg4
 z4:=Tryz.sizeOf4
 v4:=Tryz.zeroValue4
 t22:=Tryz.underlying31
 a22:=Tryz.isAgg31
 z22:=Tryz.sizeOf31
 v22:=Tryz.zeroValue31
 a23:=Tryz.isAgg50
 z23:=Tryz.sizeOf50 }
abbrev kS:={ v:Value // v.oneCell'=true }
instance:Inhabited kS:=⟨⟨.int .i64 0,rfl⟩⟩
def i3 (x:kS):Value:=x.1
theorem zmQ:OneCell i3:=fun x=>x.2
theorem mapV {l:List Value}(h:∀v∈l,v.oneCell'=true):∃zs:List kS,zs.map i3=l:=by
 induction l with
 |nil=>exact ⟨[],rfl⟩
 |cons v l ih=>
  obtain ⟨zs,hz⟩:=ih fun u hu=>h u (List.mem_cons_of_mem _ hu);exact ⟨⟨v,h v (List.mem_cons_self ..)⟩ :: zs,by rw [List.map_cons,hz];rfl⟩
theorem revE (blk off cap : Nat) (zs : List kS) (w : World) (hH : Holds i3 w blk off zs.toArray) (hsz : zs.length ≤ 9223372036854775807) :
    Calls Tryz.prog 49 #[.slice (some ⟨blk, off, none⟩) zs.length cap] w fun e w' => e = .returned (.tuple #[]) ∧ ∃ n, w' = putRow i3 (Sort.ahead w n) blk off zs.reverse.toArray := AnyE.slices_Reverse zoR i3 zmQ blk off cap zs w hH hsz
theorem revE0 (a : Option Addr) (cap : Nat) (w : World) :
    Calls Tryz.prog 49 #[.slice a 0 cap] w fun e w' => e = .returned (.tuple #[]) ∧ w' = w := AnyE.slices_Reverse_empty zoR a cap w
section
variable {w:World}{g n:Nat}{cur:Array Value}{e:TypeId}{zs:List kS}
theorem zo0 (hb:w.heap[g]?=some (.cells cur e (0,0)))(ht:cur.toList.take zs.length=zs.map i3):Holds i3 w g 0 zs.toArray:=by
 intro j hj; (have hj':j<zs.length:=by simpa using hj);refine ⟨?_,by simp [World.frozen?,hb]⟩; (have h1:(cur.toList.take zs.length)[j]?=(zs.map i3)[j]?:=by rw [ht]);rw [List.getElem?_take_of_lt hj'] at h1;simp only [World.cell?,hb,Nat.zero_add];simp only [Option.isSome_none,Bool.false_eq_true,if_false];rw [←Array.getElem?_toList,h1];simp [hj']
theorem heapV (d:Array kS)(hb:w.heap[g]?=some (.cells cur e (0,0))):(putRow i3 (Sort.ahead w n) g 0 d).heap[g]?=some (.cells (putCells i3 0 d cur) e (0,0)):=by
 have hg:g<w.heap.size:=(Array.getElem?_eq_some_iff.1 hb).1;simp [putRow,mapBlock,Sort.ahead,Array.getElem?_modify,hb,onCells]
theorem onlyV (d:Array kS){v:Value}{size k:Nat}{l:List Value}(hv:v.ownBlock=some g):Only (Ent.sl v e size k l).fp w (putRow i3 (Sort.ahead w n) g 0 d):=by
 refine ⟨rfl,rfl,rfl,by simp [putRow,mapBlock,Sort.ahead],fun k hk hn=>?_⟩;have:g≠k:=fun q=>hn (dg.2 (by rw [hv,q]));simp [putRow,mapBlock,Sort.ahead,Array.getElem?_modify,this]
theorem takeV (ts:List kS)(h:ts.length≤cur.size):(putCells i3 0 ts.toArray cur).toList.take ts.length=ts.map i3:=by
 apply List.ext_getElem?;intro j;by_cases hj:j<ts.length
 ·rw [List.getElem?_take_of_lt hj,Array.getElem?_toList];simp [putCells,hj,show j<cur.size by omega]
 ·rw [List.getElem?_take_eq_none a5,List.getElem?_eq_none cG]
end
theorem zoO {w:World}{v0:Value}{cells:List Value}(hc:∀v∈cells,v.oneCell'=true)(hk:(Ent.sl v0 50 1 cells.length cells).ok w):Calls Tryz.prog 49 #[v0] w fun e w'=>e= .returned (.tuple #[])∧Only (Ent.sl v0 50 1 cells.length cells).fp w w'∧(Ent.sl v0 50 1 cells.length cells.reverse).ok w':=by
 have ho:=cY.1 hk;obtain ⟨zs,rfl⟩:=mapV hc;rcases ho.2 with ⟨rfl,h0⟩|⟨g,cap,cur,rfl,hb,hg,h1,h2,h3,h4⟩
 ·rw [List.length_map] at h0;obtain rfl:=List.eq_nil_of_length_eq_zero h0;refine (revE0 none 0 w).mono ?_;rintro e w' ⟨rfl,rfl⟩;exact ⟨rfl,Only.refl _ _,hk⟩
 ·rw [Nat.mul_one] at h3 h4;rw [List.length_map] at h1 h4 ⊢;refine (revE g 0 cap zs w (zo0 hg h4) (by unfold maxLen at h2;omega)).mono ?_;rintro e w' ⟨rfl,n,rfl⟩;refine ⟨rfl,onlyV _ rfl,cY.2 ⟨by simp, .inr ⟨g,cap,_,rfl,Nat.zero_le _,heapV _ hg,h1,h2,by simp [putCells,h3],?_⟩⟩⟩;rw [Nat.mul_one,←List.map_reverse];have:=takeV (cur:=cur) zs.reverse (by rw [List.length_reverse];omega)
  rwa [List.length_reverse] at this
theorem FxM.one {F0:Frz}{w w':World}{E E':Ent}(hF0:F0.At w)(hO:Hp w (dG [E]) [E] w)(hA:∀g,dG [E] g→¬F0.S g)(ho:Only E.fp w w')(hok:E'.ok w')(hfp:∀g,E'.fp g→E.fp g∨w.heap.size≤g):FxM F0 w (dG [E]) F0 [E'] w':=by
 obtain ⟨S0,G,rfl,hS,h⟩:=lB hF0 hO hA;refine dx (es:=[E']) (iV (es:=[E]) (es':=[E']) (hs:=[.fr G]) h ho (fun g _ hg=>⟨E,by simp,hg⟩) (fun e he=>?_) (fun e he g hg=>?_) (List.pairwise_singleton _ _)) hS (Frz.Le.refl _)
 ·obtain rfl:=List.mem_singleton.1 he;exact hok
 ·obtain rfl:=List.mem_singleton.1 he;exact (hfp g hg).imp (fun h=>⟨E,by simp,h⟩) id
def nf (l:List (List GChoice)):List (List GChoice):=l.reverse
theorem no {α:Type}[Inhabited α]{rep:Frz→List Value→α→Prop}{F:Frz}{size:Nat}{cs:List (List Value)}{xs:List α}(h:OwnD rep F size cs xs):OwnD rep F size cs.reverse xs.reverse:=by
 refine ⟨by rw [List.length_reverse,List.length_reverse];exact h.1,fun c hc=>h.2.1 c (List.mem_reverse.1 hc),fun i hi=>?_⟩;rw [List.length_reverse] at hi
 have e1:cJ cs.reverse i=cJ cs (xs.length - 1 - i):=by
  have:=h.1;rw [dV (by rw [List.length_reverse];omega),dV a5,List.getElem_reverse]
  congr 1;omega
 have e2:cJ xs.reverse i=cJ xs (xs.length - 1 - i):=by
  rw [dV (by rw [List.length_reverse];omega),dV a5,List.getElem_reverse]
 rw [e1,e2];exact h.2.2 _ a5
theorem zkg:∀ {cs:List (List Value)},(∀c∈cs,c.length=1)→cs.reverse.flatten=cs.flatten.reverse
 | [],_=>rfl
 |c :: cs,h=>by
  rw [List.reverse_cons,List.flatten_append,show (c :: cs).flatten=c++cs.flatten from rfl,List.reverse_append,zkg fun d hd=>h d (List.mem_cons_of_mem _ hd)]
  congr 1
  have hc:=h c (List.mem_cons_self ..)
  match c,hc with
  | [v],_=>rfl
theorem znV:∀ {cs:List (List Value)},(∀c∈cs,c.length=1)→cs.flatten.length=cs.length
 | [],_=>rfl
 |c :: cs,h=>by
  rw [List.flatten_cons,List.length_append,znV fun d hd=>h d (List.mem_cons_of_mem _ hd),h c (List.mem_cons_self ..),List.length_cons];omega
theorem zir (F0 : Frz) (w : World) (hF0 : F0.At w) (l0_ : List (List GChoice)) (v0_ : Value) (c0_ : List (List Value)) (h0_ : OwnD cI F0 1 c0_ l0_) (hO : Hp w (dG [.sl v0_ 50 1 l0_.length c0_.flatten]) [.sl v0_ 50 1 l0_.length c0_.flatten] w) (hA : ∀ g, dG [.sl v0_ 50 1 l0_.length c0_.flatten] g → ¬ F0.S g) :
    Calls Tryz.prog 49 #[v0_] w fun e w' => ∃ (y : List (List Value)), (OwnD cI F0 1 y (nf l0_)) ∧ e = .returned (.tuple #[]) ∧ FxM F0 w (dG [.sl v0_ 50 1 l0_.length c0_.flatten]) F0 [.sl v0_ 50 1 (nf l0_).length y.flatten] w' := by
  have hk := hO.own _ (List.mem_cons_self ..); (have hl : c0_.flatten.length = l0_.length := by rw [znV h0_.2.1, h0_.1])
  have h1 : ∀ v ∈ c0_.flatten, v.oneCell' = true := fun v hv => by
    obtain ⟨c, hc, hv⟩ := List.mem_flatten.1 hv; obtain ⟨i, hi, rfl⟩ := List.mem_iff_getElem.1 hc; have := h0_.2.2 i (by have := h0_.1; omega); rw [dV hi] at this; exact (R_List_GChoice.one this).h v hv
  rw [← hl] at hk;refine (zoO h1 hk).mono ?_; rintro e w' ⟨rfl, h2, h3⟩; rw [hl] at h2 h3;refine ⟨c0_.reverse, no h0_, rfl, FxM.one hF0 hO hA h2 ?_ fun g h => .inl (dg.2 (dg.1 h))⟩; unfold nf; rw [List.length_reverse, zkg h0_.2.1]; exact h3
end Go.Proofs.YtogbggmckmnlfaaGreatDoor
