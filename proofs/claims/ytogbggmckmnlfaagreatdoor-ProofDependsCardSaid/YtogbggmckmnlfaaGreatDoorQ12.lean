/- W7 Kn Yw Kr: shortened and put together by squeeze.py. -/
import Derived.Test.YtogbggmckmnlfaaGreatDoorQ11
import Derived.Shelf.SlicesE.Reverse
import Derived.Ground.SlgnProg
set_option maxRecDepth 100000
set_option maxHeartbeats 4000000
set_option linter.unusedVariables false
set_option linter.unusedSectionVars false
set_option linter.unusedSimpArgs false
namespace Go.Proofs.YtogbggmckmnlfaaGreatDoor
open Go.RowKit
theorem zbZ {ρ:Type}{f:Nat→(Unit→ρ)→Unit→ρ}{k:Unit→ρ}{z:ρ}(q:Nat→Bool){n s:Nat}(hf:∀i next,s≤i→i<s+n→f i next ()=bif q i then next () else z):da f k n s ()=bif (List.range' s n).all q then k () else z:=by
 induction n generalizing s with
 |zero=>rfl
 |succ m ih=>
  show f s (da f k m (s+1)) ()=_
  rw [hf s _ (Nat.le_refl _) a5,ih (fun i next h1 h2=>hf i next a5 a5),List.range'_succ,List.all_cons]
  cases q s <;> rfl
theorem znc (n:Nat)(g t:Nat→Bool):(List.range' 0 n).all (fun i=>g i&&(bif decide (0<(i:Int)) then t i else true))=((List.range' 0 n).all g&&(List.range' 1 (n - 1)).all t):=by
 rw [Bool.eq_iff_iff,Bool.and_eq_true,List.all_eq_true,List.all_eq_true,List.all_eq_true];constructor
 ·intro h;refine ⟨fun i hi=>((Bool.and_eq_true _ _).mp (h i hi)).1,fun i hi=>?_⟩;have hi':=List.mem_range'_1.1 hi;have h2:=((Bool.and_eq_true _ _).mp (h i (List.mem_range'_1.2 ⟨by omega,by omega⟩))).2
  rwa [decide_eq_true a5,cond_true] at h2
 ·rintro ⟨h1,h2⟩ i hi;have hi':=List.mem_range'_1.1 hi;rw [Bool.and_eq_true];refine ⟨h1 i hi,?_⟩;by_cases h0:0<(i:Int)
  ·rw [decide_eq_true h0,cond_true];exact h2 i (List.mem_range'_1.2 ⟨by omega,by omega⟩)
  ·rw [decide_eq_false h0];rfl
def ec:List Int→List Int→Bool
 |a :: x,b :: y=>bif decide (a=b) then ec x y else decide (a<b)
 |_,_=>false
theorem zlZ {a b:List Int}{i:Nat}(h1:i<a.length)(h2:i<b.length):ec (a.drop i) (b.drop i)=bif decide (cI a i=cI b i) then ec (a.drop (i+1)) (b.drop (i+1)) else decide (cI a i<cI b i):=by
 rw [List.drop_eq_getElem_cons h1,List.drop_eq_getElem_cons h2,←dS h1,←dS h2];rfl
theorem zji {a b:List Int}(h:a.length=b.length):ly a b=some (ec a b):=by
 have key:∀m i,i+m=a.length→da (fun (i:Nat) (next:Unit→Option Bool) (_:Unit)=>eg (0≤(i:Int)∧(i:Int)<(b.length:Int)) (bif decide (¬cI a i=cI b i) then some (decide (cI a i<cI b i)) else next ())) (fun _=>some false) m i ()=some (ec (a.drop i) (b.drop i)):=by
  intro m
  induction m with
  |zero=>intro i e;rw [List.drop_eq_nil_of_le (show a.length≤i by omega)];rfl
  |succ m ih=>
   intro i e;have h2:=ih (i+1) a5
   show eg _ _=_
   rw [fZ ⟨by omega,by omega⟩,zlZ a5 a5];by_cases e2:cI a i=cI b i
   ·rw [decide_eq_true e2,decide_eq_false (fun hn=>hn e2),cond_false];exact h2
   ·rw [decide_eq_false e2,decide_eq_true e2,cond_true];rfl
 have:=key a.length 0 a5;rw [List.drop_zero,List.drop_zero] at this;exact this
def cmpc (a b:Int):Int:=bif decide (a<b) then -1 else bif decide (b<a) then 1 else 0
theorem cmp_x (a b:Int):za4 a b=cmpc a b:=by
 unfold za4 zbn;rw [decide_eq_false (fun h=>h rfl),decide_eq_false (fun h=>h rfl)];rfl
def ka (x:GPair):List Int:=[x.A,x.B,x.Offset,x.Low,x.High]
def kb (x:GLoad):List Int:=[x.To,x.From,x.Weight,x.Low,x.High]
def fB (x:GCap):List Int:=[x.Station,x.Max,x.Low,x.High]
def fC {α:Type}[Inhabited α](lt:α→α→Bool)(l:List α):Bool:=(List.range' 1 (l.length - 1)).all fun i=>lt (cI l (i - 1)) (cI l i)
theorem adj_x {α : Type} [Inhabited α] {l : List α} {cmp : α → α → Int} {lt : α → α → Bool} (hc : ∀ a b, decide (0 ≤ cmp a b) = !lt a b) :
    da (fun (i : Nat) (next : Unit → Option Bool) (_ : Unit) => eg (0 ≤ ((i : Int) - 1) ∧ ((i : Int) - 1) < (l.length : Int)) (bif decide (0 ≤ cmp (cI l (((i : Int) - 1).toNat)) (cI l i)) then some false else next ())) (fun _ => some true) (l.length - 1) 1 () = some (fC lt l) := by
  rw [zbZ (fun i => lt (cI l (i - 1)) (cI l i)) (z := some false) (fun i next h1 h2 => ?_)]
  · unfold fC; cases (List.range' 1 (l.length - 1)).all fun i => lt (cI l (i - 1)) (cI l i) <;> rfl
  · rw [fZ ⟨by omega, by omega⟩, hc, show ((i : Int) - 1).toNat = i - 1 by omega]
    cases lt (cI l (i - 1)) (cI l i) <;> rfl
theorem znj {α:Type}[Inhabited α]{l:List α}{q:α→Bool}:da (fun (i:Nat) (next:Unit→Bool) (_:Unit)=>bif !(q (cI l i)) then false else next ()) (fun _=>true) (l.length - 0) 0 ()=l.all q:=by
 rw [Nat.sub_zero,zdD (fun i=>q (cI l i)) (fun i next hi=>by cases q (cI l i) <;> rfl),zcb,Bool.and_true]
def mz (r:GRules):Bool:=
 decide ((r.Pairs.length:Int)≤4096)&&(r.Pairs.all zbi&&(fC (fun a b=>ec (ka a) (ka b)) r.Pairs&&(decide ((r.Loads.length:Int)≤1024)&&(r.Loads.all zbk&&(fC (fun a b=>ec (kb a) (kb b)) r.Loads&&(decide ((r.Caps.length:Int)≤1024)&&(r.Caps.all zbt&&fC (fun a b=>ec (fB a) (fB b)) r.Caps)))))))
theorem mc (a b:Int):decide (a<b)= !decide (b≤a):=by
 by_cases h:a<b
 ·rw [decide_eq_true h,decide_eq_false a5];rfl
 ·rw [decide_eq_false h,decide_eq_true a5];rfl
theorem zjJ (a b:Int):decide (a≤b)= !decide (b<a):=by
 by_cases h:a≤b
 ·rw [decide_eq_true h,decide_eq_false a5];rfl
 ·rw [decide_eq_false h,decide_eq_true a5];rfl
theorem zoD (a b:Int):decide (a=b)= !decide (¬a=b):=by
 by_cases h:a=b
 ·rw [decide_eq_true h,decide_eq_false a5];rfl
 ·rw [decide_eq_false h,decide_eq_true h];rfl
theorem zoI {ρ:Type}(a b c d e f g t:Bool)(n z:Option ρ):dL (fun x=>bif x then z else n) (fun (k:Bool→Option ρ)=>bif !a then k true else bif !b then k true else bif !c then k true else bif !d then k true else bif !e then k true else bif !f then k true else bif g then (some t).bind fun r=>k (!r) else k false)=bif (((((a&&b)&&c)&&(d&&e))&&f)&&(bif g then t else true)) then n else z:=by
 cases a <;> cases b <;> cases c <;> try rfl
 cases d <;> cases e <;> cases f <;> try rfl
 cases g <;> cases t <;> rfl
theorem body4 {ρ:Type}(a d e f g t:Bool)(n z:Option ρ):dL (fun x=>bif x then z else n) (fun (k:Bool→Option ρ)=>bif !a then k true else bif !d then k true else bif !e then k true else bif !f then k true else bif g then (some t).bind fun r=>k (!r) else k false)=bif (((a&&(d&&e))&&f)&&(bif g then t else true)) then n else z:=by
 cases a <;> cases d <;> cases e <;> cases f <;> try rfl
 cases g <;> cases t <;> rfl
theorem zet {α:Type}[Inhabited α](l:List α)(g:α→Bool)(lt:α→α→Bool):((List.range' 0 (l.length - 0)).all fun i=>g (cI l i)&&(bif decide (0<(i:Int)) then lt (cI l (i - 1)) (cI l i) else true))=(l.all g&&fC lt l):=by
 rw [Nat.sub_zero,znc l.length (fun i=>g (cI l i)) (fun i=>lt (cI l (i - 1)) (cI l i)),←List.range_eq_range',zcb];rfl
theorem lessP (x y:GPair):ly (kC x) (kC y)=some (ec (ka x) (ka y)):=zji rfl
theorem zow (x y:GLoad):ly (kF x) (kF y)=some (ec (kb x) (kb y)):=zji rfl
theorem lessC (x y:GCap):ly (kw x) (kw y)=some (ec (fB x) (fB y)):=zji rfl
theorem zkd (r:GRules):zaV r=some (mz r):=by
 unfold zaV
 show (bif _ then some false else da _ (fun _=>da _ (fun _=>da _ (fun _=>some true) (r.Caps.length - 0) 0 ()) (r.Loads.length - 0) 0 ()) (r.Pairs.length - 0) 0 ())=_
 rw [zbZ (n:=r.Pairs.length - 0) (fun i=>zbi (cI r.Pairs i)&&(bif decide (0<(i:Int)) then ec (ka (cI r.Pairs (i - 1))) (ka (cI r.Pairs i)) else true)) (z:=some false) (fun i next h1 h2=>?_)];rw [zbZ (n:=r.Loads.length - 0) (fun i=>zbk (cI r.Loads i)&&(bif decide (0<(i:Int)) then ec (kb (cI r.Loads (i - 1))) (kb (cI r.Loads i)) else true)) (z:=some false) (fun i next h1 h2=>?_)];rw [zbZ (n:=r.Caps.length - 0) (fun i=>zbt (cI r.Caps i)&&(bif decide (0<(i:Int)) then ec (fB (cI r.Caps (i - 1))) (fB (cI r.Caps i)) else true)) (z:=some false) (fun i next h1 h2=>?_)]
 ·rw [zet r.Pairs zbi (fun a b=>ec (ka a) (ka b)),zet r.Loads zbk (fun a b=>ec (kb a) (kb b)),zet r.Caps zbt (fun a b=>ec (fB a) (fB b))];unfold mz;rw [mc 4096,mc 1024,mc 1024]
  cases decide ((r.Pairs.length:Int)≤4096) <;> cases decide ((r.Loads.length:Int)≤1024) <;> cases decide ((r.Caps.length:Int)≤1024) <;> cases r.Pairs.all zbi <;> try rfl
  all_goals (cases fC (fun a b=>ec (ka a) (ka b)) r.Pairs <;> cases r.Loads.all zbk <;> cases fC (fun a b=>ec (kb a) (kb b)) r.Loads <;> cases r.Caps.all zbt <;> cases fC (fun a b=>ec (fB a) (fB b)) r.Caps <;> rfl)
 ·skip;rw [show ((i:Int) - 1).toNat=i - 1 by omega,lessC,mc _ 0,mc 1099511627776];exact body4 ..
 ·skip;rw [show ((i:Int) - 1).toNat=i - 1 by omega,zow,zoD (cI r.Loads i).To,mc _ 1,mc 1073741824];exact zoI ..
 ·skip;rw [show ((i:Int) - 1).toNat=i - 1 by omega,lessP,zjJ (cI r.Pairs i).B,mc _ (-1),mc 1];exact zoI ..
theorem zd7 {α:Type}[Inhabited α]{l:List α}{i:Nat}(h:i<l.length):cI l i∈l:=by rw [dS h];exact List.getElem_mem h
theorem zmg {c b:Nat}(hc:c<64):((1#64) <<< c).getLsbD b=decide (b=c):=by
 rw [BitVec.getLsbD_shiftLeft];by_cases h:b=c
 ·subst h;simp [hc,BitVec.getLsbD_one]
 ·rw [decide_eq_false h];by_cases h2:b<c
  ·simp [h2]
  ·have e:(1#64).getLsbD (b - c)=false:=by
    rw [BitVec.getLsbD_one];simp;omega
   rw [e,Bool.and_false]
theorem znG {x:BitVec 64}{c:Nat}:decide ((((x >>> c) &&& (1#64)).toNat:Int)=((1#64).toNat:Int))=x.getLsbD c:=by
 have e:((x >>> c) &&& (1#64))=bif x.getLsbD c then 1#64 else 0#64:=by
  refine BitVec.eq_of_getLsbD_eq fun b hb=>?_;rw [BitVec.getLsbD_and,BitVec.getLsbD_ushiftRight,BitVec.getLsbD_one];by_cases h0:b=0
  ·subst h0;cases x.getLsbD c <;> simp
  ·cases x.getLsbD c <;> simp [h0]
 rw [e]
 cases x.getLsbD c <;> decide
def mW (s:GSet)(i:Int):Bool:=(decide (0≤i)&&decide (i<512))&&(Vec.get s.words (i / 64).toNat).getLsbD (i % 64).toNat
theorem zfL (s:GSet)(i:Int):lI s i=some (mW s i):=by
 unfold lI mW zaX;by_cases h:0≤i∧i<512
 ·simp only [dL];rw [decide_eq_true h.1,decide_eq_true h.2];simp only [Bool.and_self,cond_true];rw [fZ ⟨h.1,by omega,by omega⟩,fZ ⟨by omega,by omega⟩,fZ ⟨h.1,by omega⟩,fZ ⟨by omega,by omega⟩,znG,Bool.true_and]
 ·have e:(decide (0≤i)&&decide (i<512))=false:=by
   rw [Bool.and_eq_false_iff,decide_eq_false_iff_not,decide_eq_false_iff_not];omega
  simp only [dL];rw [e];rfl
def wS (v:Vec 8 (BitVec 64))(n:Nat):Bool:=(Vec.get v (n / 64)).getLsbD (n % 64)
theorem zof {v:Vec 8 (BitVec 64)}{j n:Nat}(hj:j<512):wS (Vec.put v (j / 64) (Vec.get v (j / 64) ||| ((1#64) <<< (j % 64)))) n=(wS v n||decide (n=j)):=by
 unfold wS;rw [fh a5];by_cases h:n / 64=j / 64
 ·rw [if_pos h,BitVec.getLsbD_or,zmg a5,h]
  congr 1
  by_cases h2:n % 64=j % 64
  ·rw [decide_eq_true h2,decide_eq_true a5]
  ·rw [decide_eq_false h2,decide_eq_false a5]
 ·rw [if_neg h,decide_eq_false a5,Bool.or_false]
theorem zl7 {l:List Int}{i:Nat}(hi:i<l.length)(q:Int→Bool):(l.take (i+1)).any q=((l.take i).any q||q (cI l i)):=by
 rw [List.take_add_one,List.getElem?_eq_getElem hi,List.any_append,dS hi];simp
theorem of_x {l:List Int}(h:∀x∈l,0≤x∧x<512):∃s,zbK l=some (s,0)∧∀i:Int,mW s i=((decide (0≤i)&&decide (i<512))&&l.any fun x=>decide (x=i)):=by
 have hn:∀i,i<l.length→0≤cI l i∧cI l i<512:=fun i hi=>h _ (zd7 hi);unfold zbK
 obtain ⟨h1,h2⟩:=zbI (k:=fun s:Vec 8 (BitVec 64)×Vec 8 (BitVec 64)=>(some (GSet.mk s.2,0):Option (GSet×Int))) (n:=l.length) (s:=(Vec.fill 8 (0#64),Vec.fill 8 (0#64)))
  (f:=fun (i_7:Nat) (next6:(Vec 8 (BitVec 64)×Vec 8 (BitVec 64))→Option (GSet×Int)) (s6:Vec 8 (BitVec 64)×Vec 8 (BitVec 64))=>
   (bif !(zaX (cI l i_7)) then
    some ((GSet.mk (Vec.fill 8 (0#64))),2)
    else
    eg (0≤(cI l i_7)∧(cI l i_7)≤9223372036854775807∧1≤(64:Int)) <|
    eg (0≤((cI l i_7) / 64)∧((cI l i_7) / 64)<(8:Int)) <|
    eg (0≤(cI l i_7)∧1≤(64:Int)) <|
    eg (0≤((cI l i_7) % 64)∧((cI l i_7) % 64)<(64:Int)) <|
    next6 (s6.1,(Vec.put s6.2 (((cI l i_7) / 64).toNat) ((Vec.get s6.2 (((cI l i_7) / 64).toNat)) ||| ((1#64) <<< (((cI l i_7) % 64).toNat)))))))
  (fun i s=>∀n,n<512→wS s.2 n=(l.take i).any fun x=>decide (x=(n:Int)))
  (fun i s=>(s.1,Vec.put s.2 ((cI l i).toNat / 64) (Vec.get s.2 ((cI l i).toNat / 64) ||| ((1#64) <<< ((cI l i).toNat % 64)))))
  (fun n hn=>by
   unfold wS
   rw [f9 a5];simp)
  (fun i s hi hs n hn2=>by
   have:=hn i hi;rw [zof a5,hs n hn2,zl7 hi]
   congr 1
   by_cases e:cI l i=(n:Int)
   ·rw [decide_eq_true e,decide_eq_true a5]
   ·rw [decide_eq_false e,decide_eq_false a5])
  (fun i next s hi hs=>by
   have:=hn i hi
   have e:zaX (cI l i)=true:=by
    unfold zaX;rw [decide_eq_true this.1,decide_eq_true this.2];rfl
   rw [e,Bool.not_true,cond_false,fZ ⟨this.1,by omega,by omega⟩,fZ ⟨by omega,by omega⟩,fZ ⟨this.1,by omega⟩,fZ ⟨by omega,by omega⟩,show (cI l i / 64).toNat=(cI l i).toNat / 64 by omega,show (cI l i % 64).toNat=(cI l i).toNat % 64 by omega])
 refine ⟨_,h1,fun i=>?_⟩;unfold mW;by_cases hi:0≤i∧i<512
 ·rw [decide_eq_true hi.1,decide_eq_true hi.2,Bool.and_self,Bool.true_and,Bool.true_and];have h3:=h2 i.toNat a5;rw [List.take_length] at h3;unfold wS at h3;rw [show (i / 64).toNat=i.toNat / 64 by omega,show (i % 64).toNat=i.toNat % 64 by omega];refine h3.trans ?_;rw [show ((i.toNat:Nat):Int)=i by omega]
 ·have e:(decide (0≤i)&&decide (i<512))=false:=by
   rw [Bool.and_eq_false_iff,decide_eq_false_iff_not,decide_eq_false_iff_not];omega
  rw [e];rfl
theorem zkI {p:GProblem}(hr:dl p.Domains.length 8)(h:∀d∈p.Domains,0≤d.Station∧d.Station<512):∃s,zbs p=some s∧∀i:Int,mW s i=((decide (0≤i)&&decide (i<512))&&p.Domains.any fun d=>decide (d.Station=i)):=by
 obtain ⟨s,h1,h2⟩:=of_x (l:=p.Domains.map (·.Station)) (fun x hx=>by obtain ⟨d,hd,rfl⟩:=List.mem_map.1 hx;exact h d hd);refine ⟨s,?_,fun i=>by rw [h2 i,List.any_map];rfl⟩;unfold zbs;rw [fZ hr]
 have h3:=zbI (k:=fun l:List Int=>(zbK l).bind fun r28=>some r28.1) (n:=p.Domains.length - 0) (s:=List.replicate p.Domains.length (0:Int))
  (f:=fun (i_5:Nat) (next4:List Int→Option GSet) (l_3:List Int)=>eg (0≤(i_5:Int)∧(i_5:Int)<(l_3.length:Int)) <| next4 (l_3.set i_5 ((cI p.Domains i_5).Station)))
  (fun i s=>s.length=p.Domains.length∧∀k,k<i→cI s k=(cI p.Domains k).Station)
  (fun i s=>s.set i (cI p.Domains i).Station)
  ⟨List.length_replicate ..,fun k hk=>by omega⟩
  (fun i s hi hs=>⟨by rw [List.length_set];exact hs.1,fun k hk=>by
   (have h4:k<s.length:=by have:=hs.1;omega);rw [dS (show k<(s.set i _).length by rw [List.length_set];exact h4),List.getElem_set];by_cases e:i=k
   ·rw [if_pos e,e]
   ·rw [if_neg e,←dS h4];exact hs.2 k a5⟩)
  (fun i next s hi hs=>by rw [fZ ⟨by omega,by have:=hs.1;omega⟩])
 refine h3.1.trans ?_
 have e:(List.range (p.Domains.length - 0)).foldl (fun s i=>s.set i (cI p.Domains i).Station) (List.replicate p.Domains.length (0:Int))=p.Domains.map (·.Station):=by
  refine List.ext_getElem (by rw [h3.2.1,List.length_map]) fun k hk1 hk2=>?_; (have hk:k<p.Domains.length:=by rwa [List.length_map] at hk2);have h5:=h3.2.2 k a5;rw [dS hk1,dS hk] at h5;rw [h5,List.getElem_map]
 rw [e,h1];rfl
theorem zon (a b:Int):decide (0≤za4 a b)= !decide (a<b):=by
 rw [cmp_x];unfold cmpc;rcases Int.lt_trichotomy a b with h|h|h
 ·rw [decide_eq_true h];rfl
 ·subst h;rw [decide_eq_false (Int.lt_irrefl a)];rfl
 ·rw [decide_eq_false (show ¬a<b by omega),decide_eq_true h];rfl
def l6 (d:GDomain):Bool:=iq d.Station&&(d.Channels.all mY&&fC (fun a b=>decide (a<b)) d.Channels)
def ie (p:GProblem)(i:Int):Bool:=(decide (0≤i)&&decide (i<512))&&p.Domains.any fun d=>decide (d.Station=i)
def zim (p:GProblem):Bool:=p.Rules.Pairs.all (fun c=>ie p c.A&&ie p c.B)&&(p.Rules.Loads.all (fun c=>ie p c.To&&ie p c.From)&&p.Rules.Caps.all (fun c=>ie p c.Station))
def lq (p:GProblem):Bool:=fC (fun a b:GDomain=>decide (a.Station<b.Station)) p.Domains
def okP (p:GProblem):Bool:=p.Domains.all l6&&(mz p.Rules&&(lq p&&zim p))
theorem zfy {n:Int}(h:iq n=true):0≤n∧n≤511:=by
 unfold iq lJ at h;rw [Bool.and_eq_true,decide_eq_true_eq,decide_eq_true_eq] at h;exact h
theorem zly {p:GProblem}(h:p.Domains.all l6=true){d:GDomain}(hd:d∈p.Domains):0≤d.Station∧d.Station<512:=by
 have h1:=List.all_eq_true.1 h d hd;unfold l6 at h1;have:=zfy ((Bool.and_eq_true _ _).mp h1).1;omega
theorem zkW {p:GProblem}(h:p.Domains.all l6=true)(hi:lq p=true):∀k,k<p.Domains.length→(k:Int)≤(cI p.Domains k).Station
 |0,hk=>(zly h (zd7 hk)).1
 |k+1,hk=>by
  have h1:=zkW h hi k a5;have h2:=List.all_eq_true.1 hi (k+1) (List.mem_range'_1.2 ⟨by omega,by omega⟩);have h3:=of_decide_eq_true h2;rw [show k+1 - 1=k from rfl] at h3;omega
theorem ziY {p:GProblem}(h:p.Domains.all l6=true)(hi:lq p=true):p.Domains.length≤512:=by
 rcases Nat.eq_zero_or_pos p.Domains.length with h0|h0
 ·omega
 ·have h1:=zkW h hi (p.Domains.length - 1) a5;have h2:=zly h (zd7 (show p.Domains.length - 1<p.Domains.length by omega));omega
theorem zf5 {α:Type}{l:List α}{f g:α→Bool}(h:∀x∈l,f x=g x):l.all f=l.all g:=by
 induction l with
 |nil=>rfl
 |cons x r ih=>rw [List.all_cons,List.all_cons,h x (List.mem_cons_self ..),ih fun y hy=>h y (List.mem_cons_of_mem _ hy)]
def dG (p:GProblem)(s:Int):Bool:=p.Domains.any fun d=>decide (d.Station=s)
theorem zfG {p:GProblem}{s:Int}:decide (iI p s<0)= !dG p s:=by
 have key:∀m i,i+m=p.Domains.length→(decide (da (fun (i:Nat) (next:Unit→Int) (_:Unit)=>bif decide ((cI p.Domains i).Station=s) then (i:Int) else next ()) (fun _=>(-1)) m i ()<0)= !((p.Domains.drop i).any fun d=>decide (d.Station=s))):=by
  intro m
  induction m with
  |zero=>intro i e;rw [List.drop_eq_nil_of_le (show p.Domains.length≤i by omega)];rfl
  |succ m ih=>
   intro i e;have h2:=ih (i+1) a5;rw [List.drop_eq_getElem_cons (show i<p.Domains.length by omega),List.any_cons,←dS (show i<p.Domains.length by omega)]
   show decide ((bif decide ((cI p.Domains i).Station=s) then (i:Int) else _)<0)=_
   cases decide ((cI p.Domains i).Station=s) with
   |true=>rw [cond_true,decide_eq_false a5];rfl
   |false=>rw [cond_false,Bool.false_or];exact h2
 have:=key p.Domains.length 0 a5;rw [List.drop_zero] at this;exact this
def ziz (p:GProblem):Bool:=p.Rules.Pairs.all (fun c=>dG p c.A&&dG p c.B)&&(p.Rules.Loads.all (fun c=>dG p c.To&&dG p c.From)&&p.Rules.Caps.all (fun c=>dG p c.Station))
theorem zdR {p:GProblem}{s:Int}(h:iq s=true):dG p s=ie p s:=by
 have:=zfy h;unfold dG ie;rw [decide_eq_true this.1,decide_eq_true (show s<512 by omega)];rfl
theorem fk {a b:Bool}(h:(a&&b)=true):a=true:=((Bool.and_eq_true _ _).mp h).1
theorem fP {a b:Bool}(h:(a&&b)=true):b=true:=((Bool.and_eq_true _ _).mp h).2
theorem zgt {c:GPair}(h:zbi c=true):iq c.A=true∧iq c.B=true:=
 ⟨fk (fk (fk (fk h))),fP (fk (fk (fk h)))⟩
theorem zgm {c:GLoad}(h:zbk c=true):iq c.To=true∧iq c.From=true:=
 ⟨fk (fk (fk (fk h))),fP (fk (fk (fk h)))⟩
theorem zkk {c:GCap}(h:zbt c=true):iq c.Station=true:=fk (fk h)
structure RulesGood (r:GRules):Prop where
 np:r.Pairs.length≤4096
 nl:r.Loads.length≤1024
 nc:r.Caps.length≤1024
 p:∀c∈r.Pairs,zbi c=true
 l:∀c∈r.Loads,zbk c=true
 c:∀c∈r.Caps,zbt c=true
theorem zdP {r:GRules}(h:mz r=true):RulesGood r:=by
 unfold mz at h;have h1:=fP h;have h2:=fP h1;have h3:=fP h2;have h4:=fP h3;have h5:=fP h4;have h6:=fP h5;have h7:=fP h6;have a1:=of_decide_eq_true (fk h);have a2:=of_decide_eq_true (fk h3);have a3:=of_decide_eq_true (fk h6);exact ⟨by omega,by omega,by omega,List.all_eq_true.1 (fk h1),List.all_eq_true.1 (fk h4),List.all_eq_true.1 (fk h7)⟩
theorem zmz {p:GProblem}(h:mz p.Rules=true):ziz p=zim p:=by
 have hg:=zdP h; (have e1:(p.Rules.Pairs.all fun c=>dG p c.A&&dG p c.B)=p.Rules.Pairs.all fun c=>ie p c.A&&ie p c.B:=zf5 fun c hc=>by rw [zdR (zgt (hg.p c hc)).1,zdR (zgt (hg.p c hc)).2]); (have e2:(p.Rules.Loads.all fun c=>dG p c.To&&dG p c.From)=p.Rules.Loads.all fun c=>ie p c.To&&ie p c.From:=zf5 fun c hc=>by rw [zdR (zgm (hg.l c hc)).1,zdR (zgm (hg.l c hc)).2]);have e3:(p.Rules.Caps.all fun c=>dG p c.Station)=p.Rules.Caps.all fun c=>ie p c.Station:=zf5 fun c hc=>zdR (zkk (hg.c c hc));unfold ziz zim;rw [e1,e2,e3]
def ms (d:GDomain):Bool:=iq d.Station&&(decide ((d.Channels.length:Int)≤50)&&(d.Channels.all mY&&fC (fun a b=>decide (a<b)) d.Channels))
theorem zox {n:Int}(h:mY n=true):2≤n∧n≤51:=by
 unfold mY lJ at h;rw [Bool.and_eq_true,decide_eq_true_eq,decide_eq_true_eq] at h;exact h
theorem zmY {l:List Int}(h:l.all mY=true)(hi:fC (fun a b=>decide (a<b)) l=true):∀k,k<l.length→(k:Int)+2≤cI l k
 |0,hk=>by have:=zox (List.all_eq_true.1 h _ (zd7 hk));omega
 |k+1,hk=>by
  have h1:=zmY h hi k a5;have h2:=List.all_eq_true.1 hi (k+1) (List.mem_range'_1.2 ⟨by omega,by omega⟩);have h3:=of_decide_eq_true h2;rw [show k+1 - 1=k from rfl] at h3;omega
theorem zkR (d:GDomain):ms d=l6 d:=by
 unfold ms l6
 cases h1:d.Channels.all mY
 ·rw [Bool.false_and,Bool.and_false]
 cases h2:fC (fun a b=>decide (a<b)) d.Channels
 ·rw [Bool.and_false,Bool.and_false]
 have:d.Channels.length≤50:=by
  rcases Nat.eq_zero_or_pos d.Channels.length with h0|h0
  ·omega
  ·have a:=zmY h1 h2 (d.Channels.length - 1) a5;have b:=zox (List.all_eq_true.1 h1 _ (zd7 (show d.Channels.length - 1<d.Channels.length by omega)));omega
 rw [decide_eq_true a5];rfl
theorem chs_x {ρ:Type}{l:List Int}{n z:ρ}:da (fun (k:Nat) (next:Unit→ρ) (_:Unit)=>bif (((decide (cI l k<2))||(decide (51<cI l k)))||((decide (0<(k:Int)))&&(decide (cI l k≤cI l (((k:Int) - 1).toNat))))) then z else next ()) (fun _=>n) (l.length - 0) 0 ()=bif l.all mY&&fC (fun a b=>decide (a<b)) l then n else z:=by
 rw [zbZ (fun k=>mY (cI l k)&&(bif decide (0<(k:Int)) then decide (cI l (k - 1)<cI l k) else true)) (z:=z) (fun i next h1 h2=>?_),zet l mY (fun a b=>decide (a<b))];rw [show ((i:Int) - 1).toNat=i - 1 by omega,mc _ 2,zjJ (cI l i) (cI l (i - 1)),mc 51];unfold mY lJ
 cases decide (2≤cI l i) <;> cases decide (cI l i≤51) <;> cases decide (0<(i:Int)) <;> cases decide (cI l (i - 1)<cI l i) <;> rfl
theorem zhb (p:GProblem):zbF p=some (okP p):=by
 unfold zbF
 show (bif decide (512<(p.Domains.length:Int)) then some false else (zaV p.Rules).bind fun r=>bif !r then some false else da _ (fun _=>da _ (fun _=>da _ (fun _=>da _ (fun _=>some true) (p.Rules.Caps.length - 0) 0 ()) (p.Rules.Loads.length - 0) 0 ()) (p.Rules.Pairs.length - 0) 0 ()) (p.Domains.length - 0) 0 ())=_
 rw [zkd,Option.bind_some];rw [zbZ (n:=p.Domains.length - 0) (fun i=>ms (cI p.Domains i)&&(bif decide (0<(i:Int)) then decide ((cI p.Domains (i - 1)).Station<(cI p.Domains i).Station) else true)) (z:=some false) (fun i next h1 h2=>?_)];rw [zbZ (n:=p.Rules.Pairs.length - 0) (fun i=>dG p (cI p.Rules.Pairs i).A&&dG p (cI p.Rules.Pairs i).B) (z:=some false) (fun i next h1 h2=>?_)];rw [zbZ (n:=p.Rules.Loads.length - 0) (fun i=>dG p (cI p.Rules.Loads i).To&&dG p (cI p.Rules.Loads i).From) (z:=some false) (fun i next h1 h2=>?_)];rw [zbZ (n:=p.Rules.Caps.length - 0) (fun i=>dG p (cI p.Rules.Caps i).Station) (z:=some false) (fun i next h1 h2=>?_)]
 ·rw [zet p.Domains ms (fun a b=>decide (a.Station<b.Station)),Nat.sub_zero,Nat.sub_zero,Nat.sub_zero,←List.range_eq_range',←List.range_eq_range',←List.range_eq_range',
   zcb (q:=fun c:GPair=>dG p c.A&&dG p c.B),zcb (q:=fun c:GLoad=>dG p c.To&&dG p c.From),zcb (q:=fun c:GCap=>dG p c.Station),zf5 (fun d _=>zkR d)]
  have hl:∀x:Option Bool,(bif p.Rules.Pairs.all (fun c=>dG p c.A&&dG p c.B) then bif p.Rules.Loads.all (fun c=>dG p c.To&&dG p c.From) then bif p.Rules.Caps.all (fun c=>dG p c.Station) then some true else some false else some false else some false)=some (ziz p):=fun _=>by
   unfold ziz
   cases p.Rules.Pairs.all (fun c=>dG p c.A&&dG p c.B) <;> cases p.Rules.Loads.all (fun c=>dG p c.To&&dG p c.From) <;> cases p.Rules.Caps.all (fun c=>dG p c.Station) <;> rfl
  rw [hl none];unfold okP
  show (bif decide (512<(p.Domains.length:Int)) then some false else bif !mz p.Rules then some false else bif p.Domains.all l6&&lq p then some (ziz p) else some false)=_
  cases h1:mz p.Rules
  ·cases p.Domains.all l6 <;> cases decide (512<(p.Domains.length:Int)) <;> rfl
  cases h2:p.Domains.all l6
  ·cases decide (512<(p.Domains.length:Int)) <;> rfl
  cases h3:lq p
  ·cases decide (512<(p.Domains.length:Int)) <;> rfl
  have:=ziY h2 h3;rw [decide_eq_false (show ¬512<(p.Domains.length:Int) by omega),zmz h1];rfl
 ·rw [zfG];cases dG p (cI p.Rules.Caps i).Station <;> rfl
 ·rw [zfG,zfG];cases dG p (cI p.Rules.Loads i).To <;> cases dG p (cI p.Rules.Loads i).From <;> rfl
 ·rw [zfG,zfG];cases dG p (cI p.Rules.Pairs i).A <;> cases dG p (cI p.Rules.Pairs i).B <;> rfl
 ·rw [chs_x,show ((i:Int) - 1).toNat=i - 1 by omega,mc 50,zjJ (cI p.Domains i).Station];unfold ms
  show (bif ((!iq (cI p.Domains i).Station||_)||_) then _ else _)=_
  cases iq (cI p.Domains i).Station <;> cases decide (0<(i:Int)) <;> cases decide ((cI p.Domains (i - 1)).Station<(cI p.Domains i).Station) <;> cases decide (((cI p.Domains i).Channels.length:Int)≤50) <;> cases ((cI p.Domains i).Channels.all mY&&fC (fun a b=>decide (a<b)) (cI p.Domains i).Channels) <;> rfl
theorem zoK (b:Bool):(bif b then true else false)=b:=by cases b <;> rfl
def onL:List GChoice→Int→Int
 | [],_=>0
 |x :: r,n=>bif decide (x.Station=n) then x.Channel else onL r n
def TabC (l:List GChoice)(c:Vec 512 Int):Prop:=∀n,n<512→Vec.get c n=onL l (n:Int)
theorem TabC.get {l:List GChoice}{c:Vec 512 Int}(h:TabC l c){i:Int}(hi:0≤i∧i<512):Vec.get c i.toNat=onL l i:=by
 rw [h _ a5,show ((i.toNat:Nat):Int)=i by omega]
theorem zm6 (l:List Int)(v:Int):d4 l v=l.any fun x=>decide (x=v):=by
 have h:=zeb (f:=fun (i:Nat) (next:Unit→Bool) (_:Unit)=>bif decide (cI l i=v) then true else next ()) (k:=fun _=>false) (n:=l.length - 0) (fun i=>decide (cI l i=v)) (fun i next hi=>by cases decide (cI l i=v) <;> rfl);rw [Nat.sub_zero,zdI (q:=fun x=>decide (x=v)),Bool.or_false] at h;exact h
def kc (l:List Int):Bool:=l.all iq&&fC (fun a b=>decide (a<b)) l
theorem zel (l:List Int):zaS l=some (kc l):=by
 have e1:zaK l=l.all iq:=znj;have e2:za3 l=some (fC (fun a b=>decide (a<b)) l):=adj_x zon;unfold zaS kc;rw [e1,e2];simp only [dL,Option.bind_some]
 cases l.all iq <;> rfl
theorem zfa (l:List Int):zaO l=kc l:=by
 refine (zbZ (k:=fun _=>true) (z:=false) (fun i=>iq (cI l i)&&(bif decide (0<(i:Int)) then decide (cI l (i - 1)<cI l i) else true)) (fun i next h1 h2=>?_)).trans ?_
 ·rw [show ((i:Int) - 1).toNat=i - 1 by omega,zjJ (cI l i) (cI l (i - 1))]
  show (bif (!iq (cI l i)||_) then _ else _)=_
  cases iq (cI l i) <;> cases decide (0<(i:Int)) <;> cases decide (cI l (i - 1)<cI l i) <;> rfl
 ·rw [zoK,zet l iq (fun a b=>decide (a<b))];rfl
theorem zih {l:List Int}(h:kc l=true):∀x∈l,0≤x∧x<512:=fun x hx=>by
 have:=zfy (List.all_eq_true.1 (fk h) x hx);omega
theorem zef {l:List Int}{s:GSet}(hs:∀i:Int,mW s i=((decide (0≤i)&&decide (i<512))&&l.any fun x=>decide (x=i)))(h:kc l=true)(i:Int):mW s i=d4 l i:=by
 rw [hs,zm6];by_cases hi:0≤i∧i<512
 ·rw [decide_eq_true hi.1,decide_eq_true hi.2];rfl
 ·have e:(decide (0≤i)&&decide (i<512))=false:=by
   rw [Bool.and_eq_false_iff,decide_eq_false_iff_not,decide_eq_false_iff_not];omega
  rw [e,Bool.false_and]
  symm
  rw [List.any_eq_false];intro x hx hd;have:=zih h x hx;have:=of_decide_eq_true hd;omega
theorem zgk {x y:BitVec 64}:((x &&& ~~~y).toNat:Int)=((0#64).toNat:Int)↔∀b,b<64→x.getLsbD b=true→y.getLsbD b=true:=by
 constructor
 ·intro h b hb hx;have h1:x &&& ~~~y=0#64:=BitVec.eq_of_toNat_eq (Int.ofNat.inj h);have h2:=congrArg (fun z=>z.getLsbD b) h1;simp only [BitVec.getLsbD_and,BitVec.getLsbD_not,hx,hb,decide_true,Bool.true_and,BitVec.getLsbD_zero,Bool.not_eq_false'] at h2;exact h2
 ·intro h
  have h1:x &&& ~~~y=0#64:=BitVec.eq_of_getLsbD_eq fun b hb=>by
   rw [BitVec.getLsbD_and,BitVec.getLsbD_not]
   cases hx:x.getLsbD b
   ·simp
   ·rw [h b hb hx];simp
  rw [h1]
theorem zmN (s o:GSet):zan s o=true↔∀n,n<512→wS s.words n=true→wS o.words n=true:=by
 have e:zan s o=(List.range 8).all fun i=> !decide (¬(((Vec.get s.words i) &&& ~~~(Vec.get o.words i)).toNat:Int)=((0#64).toNat:Int)):=by
  unfold zan;refine (zdD (f:=fun (i:Nat) (next:Unit→Bool) (_:Unit)=>bif decide (¬(((Vec.get s.words i) &&& ~~~(Vec.get o.words i)).toNat:Int)=((0#64).toNat:Int)) then false else next ()) (k:=fun _=>true) (n:=8) (fun i=> !decide (¬(((Vec.get s.words i) &&& ~~~(Vec.get o.words i)).toNat:Int)=((0#64).toNat:Int))) (fun i next hi=>?_)).trans (Bool.and_true _)
  cases decide (¬(((Vec.get s.words i) &&& ~~~(Vec.get o.words i)).toNat:Int)=((0#64).toNat:Int)) <;> rfl
 rw [e,List.all_eq_true];constructor
 ·intro h n hn hw;have h1:=h (n / 64) (List.mem_range.2 a5);rw [Bool.not_eq_true',decide_eq_false_iff_not,Decidable.not_not,zgk] at h1;exact h1 _ a5 hw
 ·intro h i hi;have hi:=List.mem_range.1 hi;rw [Bool.not_eq_true',decide_eq_false_iff_not,Decidable.not_not,zgk];intro b hb hx;have:=h (i*64+b) a5;unfold wS at this;rw [show (i*64+b) / 64=i by omega,show (i*64+b) % 64=b by omega] at this;exact this hx
theorem zl3 {s:GSet}{n:Nat}(hn:n<512):wS s.words n=mW s (n:Int):=by
 unfold wS mW;rw [decide_eq_true (show (0:Int)≤n by omega),decide_eq_true (show (n:Int)<512 by omega),show ((n:Int) / 64).toNat=n / 64 by omega,show ((n:Int) % 64).toNat=n % 64 by omega];rfl
theorem zku {l:List Int}{p:GProblem}{s o:GSet}(hs:∀i:Int,mW s i=((decide (0≤i)&&decide (i<512))&&l.any fun x=>decide (x=i)))(h:kc l=true)(ho:∀i:Int,mW o i=ie p i):zan s o=l.all (dG p):=by
 rw [Bool.eq_iff_iff,zmN,List.all_eq_true];constructor
 ·intro h1 x hx;have hr:=zih h x hx;have h2:=h1 x.toNat a5;rw [zl3 a5,zl3 a5,show ((x.toNat:Nat):Int)=x by omega,hs,ho] at h2;rw [zdR (List.all_eq_true.1 (fk h) x hx)];refine h2 ?_;rw [decide_eq_true hr.1,decide_eq_true hr.2];exact List.any_eq_true.2 ⟨x,hx,decide_eq_true rfl⟩
 ·intro h1 n hn hw;rw [zl3 hn,hs] at hw;obtain ⟨x,hx,e⟩:=List.any_eq_true.1 (fP hw);have e:=of_decide_eq_true e;subst e;rw [zl3 hn,ho,←zdR (List.all_eq_true.1 (fk h) _ hx)];exact h1 _ hx
def zoi (l:List GChoice)(st:List Int):List GChoice:=(List.range (l.length - 0)).foldl (fun s i=>bif d4 st (cI l i).Station then s++[cI l i] else s) []
theorem znF {l : List GChoice} {st : List Int} (hl : l.length ≤ 100000) : zb0 l st = some (bif ll l && kc st then (zoi l st, 0) else ([], 2)) := by
  unfold zb0;simp only [dL, zel, Option.bind_some]
  cases ll l
  · rfl
  cases h2 : kc st
  · rfl
  simp only [Bool.not_true, cond_false, Bool.and_self, cond_true]; obtain ⟨s, h3, h4⟩ := of_x (l := st) (zih h2); rw [h3, Option.bind_some]
  refine (zbI (k := fun s : List GChoice => some (s, (0 : Int))) (n := l.length - 0) (s := [])
    (f := fun (i_9 : Nat) (next8 : List GChoice → Option (List GChoice × Int)) (some_7 : List GChoice) =>
          (lI s ((cI l i_9).Station)).bind fun r33 =>
          (bif r33 then
            eg (dl (some_7 ++ [(cI l i_9)]).length 16) <|
            next8 (some_7 ++ [(cI l i_9)])
            else
            next8 some_7))
    (fun i s => s.length ≤ i) (fun i s => bif d4 st (cI l i).Station then s ++ [cI l i] else s) a8 (fun i s hi hs => ?_) (fun i next s hi hs => ?_)).1
  · cases d4 st (cI l i).Station
    · show s.length ≤ i + 1; omega
    · show (s ++ [cI l i]).length ≤ i + 1; rw [List.length_append]; simp; exact hs
  · rw [zfL, zef h4 h2, Option.bind_some]
    cases d4 st (cI l i).Station
    · rfl
    · rw [cond_true, cond_true, fZ (by unfold dl; rw [List.length_append]; simp; omega)]
abbrev RS:=List GDomain×List GPair×List GLoad×List GCap
def gD (p:GProblem)(st:List Int)(i:Nat)(s:RS):RS:=bif d4 st (cI p.Domains i).Station then (s.1++[cI p.Domains i],s.2.1,s.2.2.1,s.2.2.2) else (s.1,s.2.1,s.2.2.1,s.2.2.2)
def gP (p:GProblem)(st:List Int)(i:Nat)(s:RS):RS:=bif d4 st (cI p.Rules.Pairs i).A&&d4 st (cI p.Rules.Pairs i).B then (s.1,s.2.1++[cI p.Rules.Pairs i],s.2.2.1,s.2.2.2) else (s.1,s.2.1,s.2.2.1,s.2.2.2)
def gL (p:GProblem)(st:List Int)(i:Nat)(s:RS):RS:=bif d4 st (cI p.Rules.Loads i).To&&d4 st (cI p.Rules.Loads i).From then (s.1,s.2.1,s.2.2.1++[cI p.Rules.Loads i],s.2.2.2) else (s.1,s.2.1,s.2.2.1,s.2.2.2)
def gC (p:GProblem)(st:List Int)(i:Nat)(s:RS):RS:=bif d4 st (cI p.Rules.Caps i).Station then (s.1,s.2.1,s.2.2.1,s.2.2.2++[cI p.Rules.Caps i]) else (s.1,s.2.1,s.2.2.1,s.2.2.2)
def iL (g:Nat→RS→RS)(n:Nat)(s:RS):RS:=(List.range n).foldl (fun s i=>g i s) s
theorem zn5 {ρ : Type} {p : GProblem} {st : List Int} {f : Nat → (RS → ρ) → RS → ρ} {K : RS → ρ} (hn : p.Domains.length ≤ 5000) (hf : ∀ i next s, i < p.Domains.length → (∀ x : GDomain, dl (s.1 ++ [x]).length 32) → f i next s = next (gD p st i s)) : da f K (p.Domains.length - 0) 0 ([], [], [], []) = K (iL (gD p st) (p.Domains.length - 0) ([], [], [], [])) ∧ ((iL (gD p st) (p.Domains.length - 0) ([], [], [], [])).2 = ([], [], [])) := by
  have h := zbI (f := f) (k := K) (n := p.Domains.length - 0) (s := ([], [], [], [])) (fun i s => s.1.length ≤ i ∧ s.2 = ([], [], [])) (gD p st) ⟨by simp, rfl⟩ (fun i s hi hs => by
      unfold gD
      cases d4 st (cI p.Domains i).Station
      · exact ⟨by show s.1.length ≤ i + 1; omega, hs.2⟩
      · exact ⟨by show (s.1 ++ [_]).length ≤ i + 1; rw [List.length_append]; simp; exact hs.1, hs.2⟩) (fun i next s hi hs => hf i next s a5 (fun x => by unfold dl; rw [List.length_append]; simp; omega))
  exact ⟨h.1, h.2.2⟩
theorem zn4 {ρ : Type} {p : GProblem} {st : List Int} {f : Nat → (RS → ρ) → RS → ρ} {K : RS → ρ} {s0 : RS} (h0 : s0.2 = ([], [], [])) (hn : p.Rules.Pairs.length ≤ 5000) (hf : ∀ i next s, i < p.Rules.Pairs.length → (∀ x : GPair, dl (s.2.1 ++ [x]).length 40) → f i next s = next (gP p st i s)) : da f K (p.Rules.Pairs.length - 0) 0 s0 = K (iL (gP p st) (p.Rules.Pairs.length - 0) s0) ∧ ((iL (gP p st) (p.Rules.Pairs.length - 0) s0).2.2 = ([], [])) := by
  have h := zbI (f := f) (k := K) (n := p.Rules.Pairs.length - 0) (s := s0) (fun i s => s.2.1.length ≤ i ∧ s.2.2 = ([], [])) (gP p st) (by rw [h0]; exact ⟨by simp, rfl⟩) (fun i s hi hs => by
      unfold gP
      cases d4 st (cI p.Rules.Pairs i).A && d4 st (cI p.Rules.Pairs i).B
      · exact ⟨by show s.2.1.length ≤ i + 1; omega, hs.2⟩
      · exact ⟨by show (s.2.1 ++ [_]).length ≤ i + 1; rw [List.length_append]; simp; exact hs.1, hs.2⟩) (fun i next s hi hs => hf i next s a5 (fun x => by unfold dl; rw [List.length_append]; simp; omega))
  exact ⟨h.1, h.2.2⟩
theorem zn3 {ρ : Type} {p : GProblem} {st : List Int} {f : Nat → (RS → ρ) → RS → ρ} {K : RS → ρ} {s0 : RS} (h0 : s0.2.2 = ([], [])) (hn : p.Rules.Loads.length ≤ 5000) (hf : ∀ i next s, i < p.Rules.Loads.length → (∀ x : GLoad, dl (s.2.2.1 ++ [x]).length 40) → f i next s = next (gL p st i s)) : da f K (p.Rules.Loads.length - 0) 0 s0 = K (iL (gL p st) (p.Rules.Loads.length - 0) s0) ∧ ((iL (gL p st) (p.Rules.Loads.length - 0) s0).2.2.2 = []) := by
  have h := zbI (f := f) (k := K) (n := p.Rules.Loads.length - 0) (s := s0) (fun i s => s.2.2.1.length ≤ i ∧ s.2.2.2 = []) (gL p st) (by rw [h0]; exact ⟨by simp, rfl⟩) (fun i s hi hs => by
      unfold gL
      cases d4 st (cI p.Rules.Loads i).To && d4 st (cI p.Rules.Loads i).From
      · exact ⟨by show s.2.2.1.length ≤ i + 1; omega, hs.2⟩
      · exact ⟨by show (s.2.2.1 ++ [_]).length ≤ i + 1; rw [List.length_append]; simp; exact hs.1, hs.2⟩) (fun i next s hi hs => hf i next s a5 (fun x => by unfold dl; rw [List.length_append]; simp; omega))
  exact ⟨h.1, h.2.2⟩
theorem zoB {ρ : Type} {p : GProblem} {st : List Int} {f : Nat → (RS → ρ) → RS → ρ} {K : RS → ρ} {s0 : RS} (h0 : s0.2.2.2 = []) (hn : p.Rules.Caps.length ≤ 5000) (hf : ∀ i next s, i < p.Rules.Caps.length → (∀ x : GCap, dl (s.2.2.2 ++ [x]).length 32) → f i next s = next (gC p st i s)) : da f K (p.Rules.Caps.length - 0) 0 s0 = K (iL (gC p st) (p.Rules.Caps.length - 0) s0) := by
  have h := zbI (f := f) (k := K) (n := p.Rules.Caps.length - 0) (s := s0) (fun i s => s.2.2.2.length ≤ i) (gC p st) (by rw [h0]; simp) (fun i s hi hs => by
      unfold gC
      cases d4 st (cI p.Rules.Caps i).Station
      · show s.2.2.2.length ≤ i + 1; omega
      · show (s.2.2.2 ++ [_]).length ≤ i + 1; rw [List.length_append]; simp; exact hs) (fun i next s hi hs => hf i next s a5 (fun x => by unfold dl; rw [List.length_append]; simp; omega))
  exact h.1
def zkm (p:GProblem)(st:List Int):RS:=iL (gC p st) (p.Rules.Caps.length - 0) (iL (gL p st) (p.Rules.Loads.length - 0) (iL (gP p st) (p.Rules.Pairs.length - 0) (iL (gD p st) (p.Domains.length - 0) ([],[],[],[]))))
def kP (p:GProblem)(st:List Int):GProblem:=⟨(zkm p st).1,⟨(zkm p st).2.1,(zkm p st).2.2.1,(zkm p st).2.2.2⟩⟩
def zh7 (p:GProblem)(st:List Int):GProblem×Int:=bif okP p&&kc st then (bif st.all (dG p) then (kP p st,0) else (⟨[],⟨[],[],[]⟩⟩,9)) else (⟨[],⟨[],[],[]⟩⟩,2)
theorem znZ {d:GDomain}(h:l6 d=true):d.Channels.length≤50:=by
 rw [←zkR] at h;have:=of_decide_eq_true (fk (fP h));omega
theorem lX {p:GProblem}{st:List Int}(h:p.Domains.length≤5000):(iL (gD p st) (p.Domains.length - 0) ([],[],[],[])).2=([],[],[]):=(zn5 (ρ:=Unit) (f:=fun i next s=>next (gD p st i s)) (K:=fun _=>()) h (fun _ _ _ _ _=>rfl)).2
theorem inv2 {p:GProblem}{st:List Int}{s0:RS}(h0:s0.2=([],[],[]))(h:p.Rules.Pairs.length≤5000):(iL (gP p st) (p.Rules.Pairs.length - 0) s0).2.2=([],[]):=(zn4 (ρ:=Unit) (f:=fun i next s=>next (gP p st i s)) (K:=fun _=>()) h0 h (fun _ _ _ _ _=>rfl)).2
theorem inv3 {p:GProblem}{st:List Int}{s0:RS}(h0:s0.2.2=([],[]))(h:p.Rules.Loads.length≤5000):(iL (gL p st) (p.Rules.Loads.length - 0) s0).2.2.2=[]:=(zn3 (ρ:=Unit) (f:=fun i next s=>next (gL p st i s)) (K:=fun _=>()) h0 h (fun _ _ _ _ _=>rfl)).2
theorem zdH {σ ρ:Type}{f:Nat→(σ→ρ)→σ→ρ}{k:σ→ρ}{z:ρ}{n:Nat}{s:σ}(q:Nat→Bool)(hf:∀i next,i<n→f i next s=bif q i then next s else z):da f k n 0 s=bif (List.range n).all q then k s else z:=by
 have key:∀m i,i+m=n→da f k m i s=bif (List.range' i m).all q then k s else z:=by
  intro m
  induction m with
  |zero=>intro i _;rfl
  |succ m ih=>
   intro i e
   show f i (da f k m (i+1)) s=_
   rw [hf i _ a5,ih (i+1) a5,List.range'_succ,List.all_cons]
   cases q i <;> rfl
 rw [key n 0 a5,List.range_eq_range']
theorem zho (p:GProblem)(st:List Int):zbY p st=some (zh7 p st):=by
 unfold zbY zh7;rw [zhb,zfa]
 cases h1:okP p
 ·rfl
 cases h2:kc st
 ·rfl
 have hD:=fk h1;have hg:=zdP (fk (fP h1));have hi:=fk (fP (fP h1));have hl:=ziY hD hi;have g1:=hg.np;have g2:=hg.nl;have g3:=hg.nc;refine (zdH (n:=st.length - 0) (s:=(([],[],[],[]):RS)) (z:=some ((⟨[],⟨[],[],[]⟩⟩:GProblem),(9:Int))) (fun i=>dG p (cI st i)) (fun i next hin=>?_)).trans ?_
 ·rw [zfG];cases dG p (cI st i) <;> rfl
 rw [Nat.sub_zero,zcb (q:=dG p)]
 cases st.all (dG p)
 ·rfl
 refine (zn5 (st:=st) a5 (fun i next s hin hr=>?_)).1.trans ?_
 ·unfold gD
  cases d4 st (cI p.Domains i).Station
  ·rfl
  ·rw [cond_true,cond_true,fZ (hr _)]
 refine (zn4 (st:=st) (s0:=iL (gD p st) (p.Domains.length - 0) ([],[],[],[])) (lX a5) a5 (fun i next s hin hr=>?_)).1.trans ?_
 ·unfold gP
  cases d4 st (cI p.Rules.Pairs i).A&&d4 st (cI p.Rules.Pairs i).B
  ·rfl
  ·rw [cond_true,cond_true,fZ (hr _)]
 refine (zn3 (st:=st) (s0:=iL (gP p st) (p.Rules.Pairs.length - 0) (iL (gD p st) (p.Domains.length - 0) ([],[],[],[]))) (inv2 (lX a5) a5) a5 (fun i next s hin hr=>?_)).1.trans ?_
 ·unfold gL
  cases d4 st (cI p.Rules.Loads i).To&&d4 st (cI p.Rules.Loads i).From
  ·rfl
  ·rw [cond_true,cond_true,fZ (hr _)]
 refine (zoB (st:=st) (s0:=iL (gL p st) (p.Rules.Loads.length - 0) (iL (gP p st) (p.Rules.Pairs.length - 0) (iL (gD p st) (p.Domains.length - 0) ([],[],[],[])))) (inv3 (inv2 (lX a5) a5) a5) a5 (fun i next s hin hr=>?_)).trans ?_
 ·unfold gC
  cases d4 st (cI p.Rules.Caps i).Station
  ·rfl
  ·rw [cond_true,cond_true,fZ (hr _)]
 rfl
abbrev fy (st:List Int)(n:Int):Bool:=d4 st n
theorem zjG (st:List Int):∀(l:List GDomain) (s:RS),l.foldl (fun s x=>bif d4 st x.Station then (s.1++[x],s.2.1,s.2.2.1,s.2.2.2) else (s.1,s.2.1,s.2.2.1,s.2.2.2)) s=(s.1++l.filter (fun x=>fy st x.Station),s.2.1,s.2.2.1,s.2.2.2)
 | [],s=>by simp
 |x :: l,s=>by
  rw [List.foldl_cons,zjG st l]
  cases h:d4 st x.Station
  ·rw [List.filter_cons_of_neg (p:=fun x:GDomain=>fy st x.Station) (by show ¬(d4 st x.Station)=true;rw [h];simp)];rfl
  ·rw [List.filter_cons_of_pos (p:=fun x:GDomain=>fy st x.Station) h,cond_true,List.append_assoc];rfl
theorem zjx (st:List Int):∀(l:List GPair) (s:RS),l.foldl (fun s x=>bif d4 st x.A&&d4 st x.B then (s.1,s.2.1++[x],s.2.2.1,s.2.2.2) else (s.1,s.2.1,s.2.2.1,s.2.2.2)) s=(s.1,s.2.1++l.filter (fun x=>fy st x.A&&fy st x.B),s.2.2.1,s.2.2.2)
 | [],s=>by simp
 |x :: l,s=>by
  rw [List.foldl_cons,zjx st l]
  cases h:d4 st x.A&&d4 st x.B
  ·rw [List.filter_cons_of_neg (p:=fun x:GPair=>fy st x.A&&fy st x.B) (by show ¬(d4 st x.A&&d4 st x.B)=true;rw [h];simp)];rfl
  ·rw [List.filter_cons_of_pos (p:=fun x:GPair=>fy st x.A&&fy st x.B) h,cond_true,List.append_assoc];rfl
theorem zjC (st:List Int):∀(l:List GLoad) (s:RS),l.foldl (fun s x=>bif d4 st x.To&&d4 st x.From then (s.1,s.2.1,s.2.2.1++[x],s.2.2.2) else (s.1,s.2.1,s.2.2.1,s.2.2.2)) s=(s.1,s.2.1,s.2.2.1++l.filter (fun x=>fy st x.To&&fy st x.From),s.2.2.2)
 | [],s=>by simp
 |x :: l,s=>by
  rw [List.foldl_cons,zjC st l]
  cases h:d4 st x.To&&d4 st x.From
  ·rw [List.filter_cons_of_neg (p:=fun x:GLoad=>fy st x.To&&fy st x.From) (by show ¬(d4 st x.To&&d4 st x.From)=true;rw [h];simp)];rfl
  ·rw [List.filter_cons_of_pos (p:=fun x:GLoad=>fy st x.To&&fy st x.From) h,cond_true,List.append_assoc];rfl
theorem zjS (st:List Int):∀(l:List GCap) (s:RS),l.foldl (fun s x=>bif d4 st x.Station then (s.1,s.2.1,s.2.2.1,s.2.2.2++[x]) else (s.1,s.2.1,s.2.2.1,s.2.2.2)) s=(s.1,s.2.1,s.2.2.1,s.2.2.2++l.filter (fun x=>fy st x.Station))
 | [],s=>by simp
 |x :: l,s=>by
  rw [List.foldl_cons,zjS st l]
  cases h:d4 st x.Station
  ·rw [List.filter_cons_of_neg (p:=fun x:GCap=>fy st x.Station) (by show ¬(d4 st x.Station)=true;rw [h];simp)];rfl
  ·rw [List.filter_cons_of_pos (p:=fun x:GCap=>fy st x.Station) h,cond_true,List.append_assoc];rfl
theorem zeZ (p:GProblem)(st:List Int):kP p st=⟨p.Domains.filter (fun x=>fy st x.Station),⟨p.Rules.Pairs.filter (fun x=>fy st x.A&&fy st x.B),p.Rules.Loads.filter (fun x=>fy st x.To&&fy st x.From),p.Rules.Caps.filter (fun x=>fy st x.Station)⟩⟩:=by
 have e:zkm p st=(p.Domains.filter (fun x=>fy st x.Station),p.Rules.Pairs.filter (fun x=>fy st x.A&&fy st x.B),p.Rules.Loads.filter (fun x=>fy st x.To&&fy st x.From),p.Rules.Caps.filter (fun x=>fy st x.Station)):=by
  unfold zkm iL;simp only [Nat.sub_zero];have h1:∀s:RS,(List.range p.Domains.length).foldl (fun s i=>gD p st i s) s=_:=fun s=>(zb1 (l:=p.Domains) (g:=fun (s:RS) x=>bif d4 st x.Station then (s.1++[x],s.2.1,s.2.2.1,s.2.2.2) else (s.1,s.2.1,s.2.2.1,s.2.2.2)) (s:=s)).trans (zjG st _ s);have h2:∀s:RS,(List.range p.Rules.Pairs.length).foldl (fun s i=>gP p st i s) s=_:=fun s=>(zb1 (l:=p.Rules.Pairs) (g:=fun (s:RS) x=>bif d4 st x.A&&d4 st x.B then (s.1,s.2.1++[x],s.2.2.1,s.2.2.2) else (s.1,s.2.1,s.2.2.1,s.2.2.2)) (s:=s)).trans (zjx st _ s);have h3:∀s:RS,(List.range p.Rules.Loads.length).foldl (fun s i=>gL p st i s) s=_:=fun s=>(zb1 (l:=p.Rules.Loads) (g:=fun (s:RS) x=>bif d4 st x.To&&d4 st x.From then (s.1,s.2.1,s.2.2.1++[x],s.2.2.2) else (s.1,s.2.1,s.2.2.1,s.2.2.2)) (s:=s)).trans (zjC st _ s);have h4:∀s:RS,(List.range p.Rules.Caps.length).foldl (fun s i=>gC p st i s) s=_:=fun s=>(zb1 (l:=p.Rules.Caps) (g:=fun (s:RS) x=>bif d4 st x.Station then (s.1,s.2.1,s.2.2.1,s.2.2.2++[x]) else (s.1,s.2.1,s.2.2.1,s.2.2.2)) (s:=s)).trans (zjS st _ s);rw [h1,h2,h3,h4];simp
 unfold kP;rw [e]
theorem zkJ {α:Type}[Inhabited α]{lt:α→α→Bool}(ht:∀a b c,lt a b=true→lt b c=true→lt a c=true){l:List α}:fC lt l=true↔l.Pairwise (fun a b=>lt a b=true):=by
 constructor
 ·intro h;have h1:∀i,i+1<l.length→lt (cI l i) (cI l (i+1))=true:=fun i hi=>List.all_eq_true.1 h (i+1) (List.mem_range'_1.2 ⟨by omega,by omega⟩)
  have h2:∀d i,i+d+1<l.length→lt (cI l i) (cI l (i+d+1))=true:=by
   intro d
   induction d with
   |zero=>intro i hi;exact h1 i hi
   |succ d ih=>intro i hi;exact ht _ _ _ (ih i a5) (h1 (i+d+1) a5)
  refine List.pairwise_iff_getElem.2 fun i j hi hj hij=>?_;rw [←dS hi,←dS hj];have:=h2 (j - i - 1) i a5
  rwa [show i+(j - i - 1)+1=j by omega] at this
 ·intro h;refine List.all_eq_true.2 fun i hi=>?_;have hi:=List.mem_range'_1.1 hi;rw [dS (show i - 1<l.length by omega),dS (show i<l.length by omega)];exact List.pairwise_iff_getElem.1 h (i - 1) i _ _ a5
theorem zlO {a b:Int}{x y:List Int}:ec (a :: x) (b :: y)=true↔a<b∨(a=b∧ec x y=true):=by
 show (bif decide (a=b) then ec x y else decide (a<b))=true↔_
 by_cases h:a=b
 ·rw [decide_eq_true h,cond_true];exact ⟨fun h1=> .inr ⟨h,h1⟩,fun h1=>h1.elim (fun h2=>absurd h2 a5) (·.2)⟩
 ·rw [decide_eq_false h,cond_false,decide_eq_true_eq];exact ⟨.inl,fun h1=>h1.elim id (fun h2=>absurd h2.1 h)⟩
theorem zhG:∀a b c:List Int,ec a b=true→ec b c=true→ec a c=true
 | [],_,_,h,_=>by cases h
 |_ :: _,[],_,h,_=>by cases h
 |_ :: _,_ :: _,[],_,h=>by cases h
 |a :: x,b :: y,c :: z,h1,h2=>by
  rw [zlO] at h1 h2 ⊢;rcases h1 with h1|⟨h1,h3⟩ <;> rcases h2 with h2|⟨h2,h4⟩
  ·left;omega
  ·left;omega
  ·left;omega
  ·exact .inr ⟨by omega,zhG x y z h3 h4⟩
theorem zf7 {α:Type}[Inhabited α]{lt:α→α→Bool}(ht:∀a b c,lt a b=true→lt b c=true→lt a c=true){l l':List α}(hs:l'.Sublist l)(h:fC lt l=true):fC lt l'=true:=(zkJ ht).2 (((zkJ ht).1 h).sublist hs)
theorem znS {α:Type}{l l':List α}{q:α→Bool}(hs:l'.Sublist l)(h:l.all q=true):l'.all q=true:=List.all_eq_true.2 fun x hx=>List.all_eq_true.1 h x (hs.subset hx)
theorem kA {a b:Bool}(ha:a=true)(hb:b=true):(a&&b)=true:=by rw [ha,hb];rfl
structure RulesP (r:GRules):Prop where
 g:RulesGood r
 ip:fC (fun a b=>ec (ka a) (ka b)) r.Pairs=true
 il:fC (fun a b=>ec (kb a) (kb b)) r.Loads=true
 ic:fC (fun a b=>ec (fB a) (fB b)) r.Caps=true
theorem zlB {r:GRules}(h:mz r=true):RulesP r:=by
 have hg:=zdP h;unfold mz at h;have h1:=fP h;have h2:=fP h1;have h3:=fP h2;have h4:=fP h3;have h5:=fP h4;have h6:=fP h5;have h7:=fP h6;exact ⟨hg,fk h2,fk h5,fP h7⟩
theorem RulesP.b {r:GRules}(h:RulesP r):mz r=true:=by
 have a:=h.g.np;have b:=h.g.nl;have c:=h.g.nc;exact kA (decide_eq_true a5) (kA (List.all_eq_true.2 h.g.p) (kA h.ip (kA (decide_eq_true a5) (kA (List.all_eq_true.2 h.g.l) (kA h.il (kA (decide_eq_true a5) (kA (List.all_eq_true.2 h.g.c) h.ic)))))))
theorem znU (a b c:GPair):ec (ka a) (ka b)=true→ec (ka b) (ka c)=true→ec (ka a) (ka c)=true:=zhG _ _ _
theorem zn2 (a b c:GLoad):ec (kb a) (kb b)=true→ec (kb b) (kb c)=true→ec (kb a) (kb c)=true:=zhG _ _ _
theorem zoq (a b c:GCap):ec (fB a) (fB b)=true→ec (fB b) (fB c)=true→ec (fB a) (fB c)=true:=zhG _ _ _
theorem RulesP.sub {r r':GRules}(h:RulesP r)(hp:r'.Pairs.Sublist r.Pairs)(hl:r'.Loads.Sublist r.Loads)(hc:r'.Caps.Sublist r.Caps):RulesP r':=by
 refine ⟨⟨?_,?_,?_,fun x hx=>h.g.p x (hp.subset hx),fun x hx=>h.g.l x (hl.subset hx),fun x hx=>h.g.c x (hc.subset hx)⟩,zf7 znU hp h.ip,zf7 zn2 hl h.il,zf7 zoq hc h.ic⟩
 ·have:=hp.length_le;have:=h.g.np;omega
 ·have:=hl.length_le;have:=h.g.nl;omega
 ·have:=hc.length_le;have:=h.g.nc;omega
theorem zlL {p:GProblem}(h:okP p=true):p.Domains.all l6=true∧RulesP p.Rules∧lq p=true∧zim p=true:=⟨fk h,zlB (fk (fP h)),fk (fP (fP h)),fP (fP (fP h))⟩
theorem zml {p:GProblem}(h1:p.Domains.all l6=true)(h2:RulesP p.Rules)(h3:lq p=true)(h4:zim p=true):okP p=true:=kA h1 (kA h2.b (kA h3 h4))
theorem zdn {p q:GProblem}{st:List Int}{n:Int}(e:q.Domains=p.Domains.filter fun x=>fy st x.Station)(h:ie p n=true)(hs:fy st n=true):ie q n=true:=by
 refine kA (fk h) ?_;obtain ⟨d,hd,hn⟩:=List.any_eq_true.1 (fP h);have e2:=of_decide_eq_true hn;rw [e];exact List.any_eq_true.2 ⟨d,List.mem_filter.2 ⟨hd,by rw [e2];exact hs⟩,hn⟩
theorem zmL {p:GProblem}{st:List Int}(h:okP p=true):okP (kP p st)=true:=by
 obtain ⟨h1,h2,h3,h4⟩:=zlL h;rw [zeZ];refine zml (znS List.filter_sublist h1) (h2.sub List.filter_sublist List.filter_sublist List.filter_sublist) (zf7 (fun a b c x y=>by rw [decide_eq_true_eq] at *;omega) List.filter_sublist h3) ?_;have a1:=List.all_eq_true.1 (fk h4);have a2:=List.all_eq_true.1 (fk (fP h4));have a3:=List.all_eq_true.1 (fP (fP h4));refine kA (List.all_eq_true.2 fun c hc=>?_) (kA (List.all_eq_true.2 fun c hc=>?_) (List.all_eq_true.2 fun c hc=>?_))
 ·obtain ⟨b1,b2⟩:=List.mem_filter.1 hc;exact kA (zdn rfl (fk (a1 c b1)) (fk b2)) (zdn rfl (fP (a1 c b1)) (fP b2))
 ·obtain ⟨b1,b2⟩:=List.mem_filter.1 hc;exact kA (zdn rfl (fk (a2 c b1)) (fk b2)) (zdn rfl (fP (a2 c b1)) (fP b2))
 ·obtain ⟨b1,b2⟩:=List.mem_filter.1 hc;exact zdn rfl (a3 c b1) b2
section
variable {P:Program}{n:Nat}{B D:World}{M:Nat→Prop}{fs:dR}{hs:HS}{o:Oper}{v:Value}
theorem K.slNil {Q:Exit→Act→World→Prop}{e:Exit}(t:TypeId)(size:Nat)(h:K n B D M Q e fs (.sl (.slice none 0 0) t size 0 [] :: hs)):K n B D M Q e fs hs:=⟨fun a w ha hw hm=>h.out a w ha (hw.slNil t size) hm⟩
def zoE (v:Value):Prop:=∃A m c,v= .slice (some A) m c
def NilI {α:Type}(v:Value)(l:List α):Prop:=(l=[]∧v= .slice none 0 0)∨(l≠[]∧zoE v)
theorem NilI.nil {α:Type}:NilI (.slice none 0 0) ([]:List α):= .inl ⟨rfl,rfl⟩
end
structure Gfault where
 first:Int
deriving DecidableEq,Inhabited
abbrev kM (x:Gfault):List Value:=[.int .i64 x.first]
theorem Gfault.len (x:Gfault):(kM x).length=1:=rfl
structure GWriter where
 fault:Gfault
 out:List Int
deriving DecidableEq,Inhabited
def et (F:Frz)(c:List Value)(x:GWriter):Prop:=∃(v1:Value),c=[.int .i64 x.fault.first,v1]∧SlC F v1 1 (x.out.map (eK .u8))
theorem GWriter.mono {F G:Frz}{c:List Value}{x:GWriter}(hle:F.Le G)(h:et F c x):et G c x:=by
 obtain ⟨v1,h0,h2⟩:=h;exact ⟨v1,h0,h2.mono hle⟩
theorem GWriter.len {F:Frz}{c:List Value}{x:GWriter}(h:et F c x):c.length=2:=by
 obtain ⟨v1,h0,h2⟩:=h;subst h0;rfl
theorem GWriter.one {F:Frz}{c:List Value}{x:GWriter}(h:et F c x):OneCs c:=by
 obtain ⟨v1,h0,h2⟩:=h;subst h0;haveI:=h2.oneC
 infer_instance
theorem GWriter.c0 {F:Frz}{c:List Value}{x:GWriter}(h:et F c x):c[0]?=some (.int .i64 x.fault.first):=by
 obtain ⟨v1,h0,h2⟩:=h;subst h0;rfl
theorem GWriter.c1 {F:Frz}{c:List Value}{x:GWriter}(h:et F c x):c[1]?=some (cI c 1)∧SlC F (cI c 1) 1 (x.out.map (eK .u8)):=by
 obtain ⟨v1,h0,h2⟩:=h;subst h0;exact ⟨rfl,h2⟩
theorem GWriter.form {F:Frz}{c:List Value}{x:GWriter}(h:et F c x):(c.drop 0).take 2=[.int .i64 x.fault.first,cI c 1]:=by
 obtain ⟨v1,h0,h2⟩:=h;subst h0;rfl
def zdL (fuel:Nat)(l0_:List Int)(n:BitVec 64):Option (List Int):=
 dL (fun (s3:List Int×BitVec 64)=>
  eg (dl (s3.1++[(IntKind.u8.wrap (s3.2.toNat:Int))]).length 1) <|
  some (s3.1++[(IntKind.u8.wrap (s3.2.toNat:Int))]))
 (fun k3=>
  jn (fun (next6:(List Int×BitVec 64)→Option (List Int)) (s6:List Int×BitVec 64)=>
   (bif decide (((127#64).toNat:Int)<(s6.2.toNat:Int)) then
    eg (dl (s6.1++[(orK .u8 (IntKind.u8.wrap (s6.2.toNat:Int)) 128)]).length 1) <|
    next6 ((s6.1++[(orK .u8 (IntKind.u8.wrap (s6.2.toNat:Int)) 128)]),(s6.2 >>> 7))
    else
    k3 (s6.1,s6.2))) fuel (l0_,n))
theorem zhk (F0:Frz)(w:World)(hF0:F0.At w)(l0_:List Int)(v0_:Value)(n:BitVec 64)(hO:Hp w (dz [.sl v0_ 5 1 l0_.length (l0_.flatMap (eK .u8))]) [.sl v0_ 5 1 l0_.length (l0_.flatMap (eK .u8))] w)(hA:∀g,dz [.sl v0_ 5 1 l0_.length (l0_.flatMap (eK .u8))] g→¬F0.S g)(fuel:Nat)(r:List Int)(hr:zdL fuel l0_ n=some r):Calls Tryz.prog 102 #[v0_,U n] w fun e w'=>∃(y:Value),(True)∧e= .returned (y)∧FxM F0 w (dz [.sl v0_ 5 1 l0_.length (l0_.flatMap (eK .u8))]) F0 [.sl y 5 1 r.length (r.flatMap (eK .u8))] w':=by
 have hk:=hr;unfold zdL at hk;haveI:=li (hO.own (.sl v0_ 5 1 l0_.length (l0_.flatMap (eK .u8))) a8);have hmx0_:=kR (hO.own (.sl v0_ 5 1 l0_.length (l0_.flatMap (eK .u8))) a8);obtain ⟨S0,F1,rfl,hS0,hp0⟩:=kS hF0 hO hA;refine dv (hs:=[.sl v0_ 5 1 l0_.length (l0_.flatMap (eK .u8)), .fr F1]) Tryz.func102 rfl rfl rfl hp0 ?_;refine f7 ?_;refine TL.slNil 5 1 ?_;refine ky ?_;have hq:=em hk;clear hk;obtain ⟨k3,hk3,hk⟩:=hq; (try dsimp only at hk);refine dc (ι:=List Int×Value×BitVec 64) (fun z=>[(0,z.2.1),(1,U z.2.2)]) (fun z=>[.sl z.2.1 5 1 z.1.length (z.1.flatMap (eK .u8)), .fr F1]) (fun z=>k3 (z.1,z.2.2)=some r∧OneC z.2.1) ?_ ?_
 ·have hq:=zdT hk;clear hk;obtain ⟨f6,hf6,hk⟩:=hq;refine fm ?_;refine T.pick [1,2] rfl a6 ?_;refine T.loop (ι:=Nat×List Int×Value×BitVec 64) (fun z=>[(0,z.2.2.1),(1,U z.2.2.2)]) (fun z=>[.sl z.2.2.1 5 1 z.2.1.length (z.2.1.flatMap (eK .u8)), .fr F1]) (fun z=>jn f6 z.1 (z.2.1,z.2.2.2)=some r∧OneC z.2.2.1) (fun z=>z.1) (fuel,l0_,v0_,n) ?_ ?_ ?_ ?_
  ·exact ⟨hk,inferInstance⟩
  ·exact mO
  ·exact eQ
  ·rintro ⟨m_7,out_4,vout_4,n_5⟩ ⟨hk,oout_4⟩; (try dsimp only at *);have hq:=zez hk;clear hk;obtain ⟨m_7',rfl,hk⟩:=hq;generalize hn6:jn f6 m_7'=next6 at hk;rw [←hf6] at hk; (try dsimp only at hk);refine jp ?_;refine jo ?_;refine T.cond rfl (fun h8=>?_) (fun h8=>?_)
   ·replace hk:=dp hk h8;refine T.skip (K.seq (T.block (T.seq ?_)));have hq:(dl (out_4++[(orK .u8 (IntKind.u8.wrap (n_5.toNat:Int)) 128)]).length 1)∧_:=fQ hk;clear hk;obtain ⟨g12,hk⟩:=hq; (try dsimp only at hk);refine i1 ?_;refine cK (mU (z:=(n_5.toNat:Int)) rfl rfl) ?_;refine cK (Yv.orK (a:=(IntKind.u8.wrap (n_5.toNat:Int))) (b:=128) rfl rfl rfl) ?_;refine j2 ?_;rintro _ _ ⟨g11,rfl,rfl⟩;refine cT (fK 1 0 rfl rfl rfl rfl rfl rfl (lg (ys:=[(orK .u8 (IntKind.u8.wrap (n_5.toNat:Int)) 128)])) (zce (enc:=(eK .u8)) (xs:=out_4) (ys:=[(orK .u8 (IntKind.u8.wrap (n_5.toNat:Int)) 128)])) g12 a6) ?_;rintro v12 _ ⟨hv12,rfl⟩;refine dd ?_;refine c4 (T.region ?_);refine dd ?_;refine cK (fR (a:=n_5) 7 rfl rfl rfl (show (7:Int)=((7:Nat):Int) from rfl) a5) ?_;refine dd ?_;refine TL.nil (fS ?_);rw [←hn6] at hk;refine K.pick [1,2] rfl a6 ?_;exact K.next (m_7',(out_4++[(orK .u8 (IntKind.u8.wrap (n_5.toNat:Int)) 128)]),v12,(n_5 >>> 7)) ⟨hk,inferInstance⟩ a9 (.c (.c .nil)) (List.Sublist.refl _)
   ·replace hk:=dn hk h8;refine eF ?_;exact cS (out_4,vout_4,n_5) ⟨hk,inferInstance⟩ (.c (.c .nil)) (List.Sublist.refl _)
 ·rintro ⟨out_1,vout_1,n_2⟩ ⟨hk,oout_1⟩; (try dsimp only at *);rw [←hk3] at hk; (try dsimp only at hk);refine T.seq ?_;have hq:(dl (out_1++[(IntKind.u8.wrap (n_2.toNat:Int))]).length 1)∧_:=fQ hk;clear hk;obtain ⟨g19,hk⟩:=hq; (try dsimp only at hk);refine i1 ?_;refine cK (mU (z:=(n_2.toNat:Int)) rfl rfl) ?_;refine j2 ?_;rintro _ _ ⟨g18,rfl,rfl⟩;refine cT (fK 1 0 rfl rfl rfl rfl rfl rfl (lg (ys:=[(IntKind.u8.wrap (n_2.toNat:Int))])) (zce (enc:=(eK .u8)) (xs:=out_1) (ys:=[(IntKind.u8.wrap (n_2.toNat:Int))])) g19 a6) ?_;rintro v19 _ ⟨hv19,rfl⟩;refine fo ?_;obtain rfl:=Option.some.inj hk;exact cX rfl rfl (fun w' hw=>⟨v19,trivial,rfl,dt (hw.pick (idx:=[1,2]) rfl a6) hS0 (Frz.Le.refl _)⟩)
def zaT (x0_:GWriter):Bool:=
 (decide (x0_.fault.first=0))
theorem zcF (F0:Frz)(w:World)(hF0:F0.At w)(x0_:GWriter)(g0_:Nat)(v0_1:Value)(hO:Hp w (dz [.row g0_ 128 [.int .i64 x0_.fault.first,v0_1], .sl v0_1 5 1 x0_.out.length (x0_.out.flatMap (eK .u8))]) [.row g0_ 128 [.int .i64 x0_.fault.first,v0_1], .sl v0_1 5 1 x0_.out.length (x0_.out.flatMap (eK .u8))] w)(hA:∀g,dz [.row g0_ 128 [.int .i64 x0_.fault.first,v0_1], .sl v0_1 5 1 x0_.out.length (x0_.out.flatMap (eK .u8))] g→¬F0.S g):Calls Tryz.prog 99 #[.pointer (some ⟨g0_,0,none⟩)] w fun e w'=>∃(y:Unit),(True)∧e= .returned (.bool (zaT x0_))∧FxM F0 w (dz [.row g0_ 128 [.int .i64 x0_.fault.first,v0_1], .sl v0_1 5 1 x0_.out.length (x0_.out.flatMap (eK .u8))]) F0 [.row g0_ 128 [.int .i64 x0_.fault.first,v0_1], .sl v0_1 5 1 x0_.out.length (x0_.out.flatMap (eK .u8))] w':=by
 obtain ⟨r,hk⟩:∃r,zaT x0_=r:=⟨_,rfl⟩;rw [hk];unfold zaT at hk;haveI:=li (hO.own (.sl v0_1 5 1 x0_.out.length (x0_.out.flatMap (eK .u8))) a8);have hmx0_1:=kR (hO.own (.sl v0_1 5 1 x0_.out.length (x0_.out.flatMap (eK .u8))) a8);obtain ⟨S0,F1,rfl,hS0,hp0⟩:=kS hF0 hO hA;refine dv (hs:=[.row g0_ 128 [.int .i64 x0_.fault.first,v0_1], .sl v0_1 5 1 x0_.out.length (x0_.out.flatMap (eK .u8)), .fr F1]) Tryz.func99 rfl rfl rfl hp0 ?_;refine eO ?_;refine dc (ι:=Unit) (fun z=>[(2, .bool (decide (x0_.fault.first=0)))]) (fun z=>[.row g0_ 128 [.int .i64 x0_.fault.first,v0_1], .sl v0_1 5 1 x0_.out.length (x0_.out.flatMap (eK .u8)), .fr F1]) (fun z=>True) ?_ ?_
 ·refine it ?_;refine cK (Yv.co (e:=128) a7 rfl rfl rfl) ?_;refine eM ?_;refine fj ?_;refine ef ?_;refine eM ?_;refine fG ?_;exact cS () trivial (.c .nil) (List.Sublist.refl _)
 ·rintro _ _;refine T.ret ?_;subst hk;exact q4I
def za5 (x0_:GWriter)(l1_:List Int):Option (List Int):=
 (bif decide (65536<(l1_.length:Int)) then
  none
  else
  some l1_)
theorem zct (F0:Frz)(w:World)(hF0:F0.At w)(x0_:GWriter)(g0_:Nat)(v0_1:Value)[iv0_1:OneC v0_1](l1_:List Int)(v1_:Value)(hO:Hp w (dz [.row g0_ 128 [.int .i64 x0_.fault.first,v0_1], .sl v1_ 5 1 l1_.length (l1_.flatMap (eK .u8))]) [.row g0_ 128 [.int .i64 x0_.fault.first,v0_1], .sl v1_ 5 1 l1_.length (l1_.flatMap (eK .u8))] w)(hA:∀g,dz [.row g0_ 128 [.int .i64 x0_.fault.first,v0_1], .sl v1_ 5 1 l1_.length (l1_.flatMap (eK .u8))] g→¬F0.S g)(r:List Int)(hr:za5 x0_ l1_=some r):Calls Tryz.prog 101 #[.pointer (some ⟨g0_,0,none⟩),v1_] w fun e w'=>∃(y:Value),(True)∧e= .returned (.tuple #[])∧FxM F0 w (dz [.row g0_ 128 [.int .i64 x0_.fault.first,v0_1], .sl v1_ 5 1 l1_.length (l1_.flatMap (eK .u8))]) F0 [.row g0_ 128 [.int .i64 x0_.fault.first,y], .sl y 5 1 r.length (r.flatMap (eK .u8))] w':=by
 have hk:=hr;unfold za5 at hk;haveI:=li (hO.own (.sl v1_ 5 1 l1_.length (l1_.flatMap (eK .u8))) a8);have hmx1_:=kR (hO.own (.sl v1_ 5 1 l1_.length (l1_.flatMap (eK .u8))) a8);obtain ⟨S0,F1,rfl,hS0,hp0⟩:=kS hF0 hO hA;refine dv (hs:=[.row g0_ 128 [.int .i64 x0_.fault.first,v0_1], .sl v1_ 5 1 l1_.length (l1_.flatMap (eK .u8)), .fr F1]) Tryz.func101 rfl rfl rfl hp0 ?_;refine jp ?_;refine dd ?_;refine cK (lx 1 rfl rfl rfl) ?_;refine dD ?_;refine T.cond rfl (fun h1=>?_) (fun h1=>?_)
 ·have p1:=of_decide_eq_true h1;replace hk:=dp hk h1;refine T.seq ?_;cases hk
 ·have p1:=of_decide_eq_false h1;replace hk:=dn hk h1;refine T.skip (K.seq (T.region ?_));refine eM ?_;refine fj ?_;refine ek (ey 0 rfl rfl rfl rfl a8) ?_;refine eP ?_;refine fG ?_;obtain rfl:=Option.some.inj hk;exact lV rfl (fun w' hw=>⟨v1_,trivial,rfl,dt (hw.pick (idx:=[0,1,2]) rfl a6) hS0 (Frz.Le.refl _)⟩)
def zav (fuel:Nat)(x0_:GWriter)(n:Int):Option (List Int):=
 (bif !(zaT x0_) then
  some x0_.out
  else
  (bif decide (n<0) then
   none
   else
   (zdL fuel x0_.out (BitVec.ofInt 64 n)).bind fun r20=>
   (za5 x0_ r20).bind fun r21=>
   some r21))
theorem zaD (F0:Frz)(w:World)(hF0:F0.At w)(x0_:GWriter)(g0_:Nat)(v0_1:Value)(n:Int)(hO:Hp w (dz [.row g0_ 128 [.int .i64 x0_.fault.first,v0_1], .sl v0_1 5 1 x0_.out.length (x0_.out.flatMap (eK .u8))]) [.row g0_ 128 [.int .i64 x0_.fault.first,v0_1], .sl v0_1 5 1 x0_.out.length (x0_.out.flatMap (eK .u8))] w)(hA:∀g,dz [.row g0_ 128 [.int .i64 x0_.fault.first,v0_1], .sl v0_1 5 1 x0_.out.length (x0_.out.flatMap (eK .u8))] g→¬F0.S g)(fuel:Nat)(r:List Int)(hr:zav fuel x0_ n=some r):Calls Tryz.prog 68 #[.pointer (some ⟨g0_,0,none⟩), .int .i64 n] w fun e w'=>∃(y:Value),(True)∧e= .returned (.tuple #[])∧FxM F0 w (dz [.row g0_ 128 [.int .i64 x0_.fault.first,v0_1], .sl v0_1 5 1 x0_.out.length (x0_.out.flatMap (eK .u8))]) F0 [.row g0_ 128 [.int .i64 x0_.fault.first,y], .sl y 5 1 r.length (r.flatMap (eK .u8))] w':=by
 have hk:=hr;unfold zav at hk;haveI:=li (hO.own (.sl v0_1 5 1 x0_.out.length (x0_.out.flatMap (eK .u8))) a8);have hmx0_1:=kR (hO.own (.sl v0_1 5 1 x0_.out.length (x0_.out.flatMap (eK .u8))) a8);obtain ⟨S0,F1,rfl,hS0,hp0⟩:=kS hF0 hO hA;refine dv (hs:=[.row g0_ 128 [.int .i64 x0_.fault.first,v0_1], .sl v0_1 5 1 x0_.out.length (x0_.out.flatMap (eK .u8)), .fr F1]) Tryz.func68 rfl rfl rfl hp0 ?_;refine jp ?_;refine dd ?_;refine cT (eW [0,1,2] [.row g0_ 128 [.int .i64 x0_.fault.first,v0_1], .sl v0_1 5 1 x0_.out.length (x0_.out.flatMap (eK .u8))] [] rfl rfl rfl rfl a6 (fun w hw hw2 hF=>zcF _ w hF x0_ g0_ v0_1 hw2.takes.1 hw2.takes.2)) ?_;rintro _ _ ⟨⟨⟩, -,rfl,rfl⟩;refine fD ?_;refine dD ?_;refine T.cond rfl (fun h1=>?_) (fun h1=>?_)
 ·replace hk:=dp hk h1;refine T.ret (dX ?_);obtain rfl:=Option.some.inj hk;exact K.bS rfl (fun w' hw=>⟨v0_1,trivial,rfl,dt (hw.pick (idx:=[0,1,2]) rfl a6) hS0 (Frz.Le.refl _)⟩)
 ·replace hk:=dn hk h1;refine jx ?_;refine jo ?_;refine T.cond rfl (fun h2=>?_) (fun h2=>?_)
  ·have p2:=of_decide_eq_true h2;replace hk:=dp hk h2;refine T.seq ?_;cases hk
  ·have p2:=of_decide_eq_false h2;replace hk:=dn hk h2;refine mj ?_;have hq:=dZ hk;clear hk;obtain ⟨r20,hr20,hk⟩:=hq;have hq:=dZ hk;clear hk;obtain ⟨r21,hr21,hk⟩:=hq; (try dsimp only at hk);refine eS ?_;refine eM ?_;refine ef ?_;refine dd ?_;refine cK (Yv.bW (z:=n) rfl rfl) ?_;refine cT (eW [1,2,0] [.sl v0_1 5 1 x0_.out.length (x0_.out.flatMap (eK .u8))] [.row g0_ 128 [.int .i64 x0_.fault.first,v0_1]] rfl rfl rfl rfl a6 (fun w hw hw2 hF=>zhk _ w hF x0_.out v0_1 (BitVec.ofInt 64 n) hw2.takes.1 hw2.takes.2 fuel r20 hr20)) ?_;rintro v20_0_0 _ ⟨_, -,rfl,rfl⟩;refine fD ?_;refine fJ 0 rfl ?_;intro iv20_0_0 hmv20_0_0;refine cT (eW [2,0,1] [.row g0_ 128 [.int .i64 x0_.fault.first,v0_1], .sl v20_0_0 5 1 r20.length (r20.flatMap (eK .u8))] [] rfl rfl rfl rfl a6 (fun w hw hw2 hF=>zct _ w hF x0_ g0_ v0_1 r20 v20_0_0 hw2.takes.1 hw2.takes.2 r21 hr21)) ?_;rintro _ _ ⟨v21_0_1, -,rfl,rfl⟩;refine q35 ?_;intro iv21_0_1 hmv21_0_1;refine fG ?_;obtain rfl:=Option.some.inj hk;exact lV rfl (fun w' hw=>⟨v21_0_1,trivial,rfl,dt (hw.pick (idx:=[0,1,2]) rfl a6) hS0 (Frz.Le.refl _)⟩)
def zbm (x0_:GWriter):Option (List Int×Int):=
 (bif decide (¬x0_.fault.first=0) then
  some ([],x0_.fault.first)
  else
  eg (dl ([]++x0_.out).length 1) <|
  some (([]++x0_.out),0))
theorem zcX (F0:Frz)(w:World)(hF0:F0.At w)(x0_:GWriter)(g0_:Nat)(v0_1:Value)(hO:Hp w (dz [.row g0_ 128 [.int .i64 x0_.fault.first,v0_1], .sl v0_1 5 1 x0_.out.length (x0_.out.flatMap (eK .u8))]) [.row g0_ 128 [.int .i64 x0_.fault.first,v0_1], .sl v0_1 5 1 x0_.out.length (x0_.out.flatMap (eK .u8))] w)(hA:∀g,dz [.row g0_ 128 [.int .i64 x0_.fault.first,v0_1], .sl v0_1 5 1 x0_.out.length (x0_.out.flatMap (eK .u8))] g→¬F0.S g)(r:List Int×Int)(hr:zbm x0_=some r):Calls Tryz.prog 69 #[.pointer (some ⟨g0_,0,none⟩)] w fun e w'=>∃(y:Value),(True)∧e= .returned (.tuple #[y, .int .i64 r.2])∧FxM F0 w (dz [.row g0_ 128 [.int .i64 x0_.fault.first,v0_1], .sl v0_1 5 1 x0_.out.length (x0_.out.flatMap (eK .u8))]) F0 [.row g0_ 128 [.int .i64 x0_.fault.first,v0_1], .sl v0_1 5 1 x0_.out.length (x0_.out.flatMap (eK .u8)), .sl y 5 1 r.1.length (r.1.flatMap (eK .u8))] w':=by
 have hk:=hr;unfold zbm at hk;haveI:=li (hO.own (.sl v0_1 5 1 x0_.out.length (x0_.out.flatMap (eK .u8))) a8);have hmx0_1:=kR (hO.own (.sl v0_1 5 1 x0_.out.length (x0_.out.flatMap (eK .u8))) a8);obtain ⟨S0,F1,rfl,hS0,hp0⟩:=kS hF0 hO hA;refine dv (hs:=[.row g0_ 128 [.int .i64 x0_.fault.first,v0_1], .sl v0_1 5 1 x0_.out.length (x0_.out.flatMap (eK .u8)), .fr F1]) Tryz.func69 rfl rfl rfl hp0 ?_;refine f7 ?_;refine TL.slNil 5 1 ?_;refine mX ?_;refine cK (mH (e:=128) a7 rfl rfl rfl) ?_;refine mJ ?_;refine jx ?_;refine eh ?_;refine fj ?_;refine lM ?_;refine dD ?_;refine T.cond rfl (fun h1=>?_) (fun h1=>?_)
 ·have p1:=of_decide_eq_true h1;replace hk:=dp hk h1;refine T.seq ?_;refine dI (sN 0 6 (.still 6 .done)) _ a7 (List.Sublist.refl _) ?_;refine ji ?_;refine q2A ?_;refine TS.slNil 5 1 ?_;refine fe ?_;refine fc ?_;refine K.seq (T.ret (dX ?_));obtain rfl:=Option.some.inj hk;exact eC rfl rfl rfl (fun w' hw=>⟨(.slice none 0 0),trivial,rfl,dt (hw.pick (idx:=[2,3,0,4]) rfl a6) hS0 (Frz.Le.refl _)⟩)
 ·have p1:=of_decide_eq_false h1;replace hk:=dn hk h1;refine jf ?_;have hq:(dl ([]++x0_.out).length 1)∧_:=fQ hk;clear hk;obtain ⟨g21,hk⟩:=hq; (try dsimp only at hk);refine i1 ?_;refine lM ?_;refine TL.slNil 5 1 ?_;refine cT (Ew.bV 0 3 (zmH (fun _=>inferInstance)) rfl rfl rfl rfl rfl (zmf ([]:List Int) x0_.out) (zlt (enc:=(eK .u8)) ([]:List Int) x0_.out) g21 a6) ?_;rintro v21 _ ⟨hv21,rfl⟩;refine j3 ?_;obtain rfl:=Option.some.inj hk;exact eC rfl rfl rfl (fun w' hw=>⟨v21,trivial,rfl,dt (hw.pick (idx:=[2,3,0,4]) rfl a6) hS0 (Frz.Le.refl _)⟩)
end Go.Proofs.YtogbggmckmnlfaaGreatDoor
namespace Go.Proofs.YtogbggmckmnlfaaGreatDoor
open Go.RowKit Go.Sort
section
variable {Fe:Fence}[hFe:Calm Fe]{P:Program}{n:Nat}{B D w:World}{M S0:Nat→Prop}{Q:Exit→Act→World→Prop}{fs:dR}{hs:HS}{ops:Array Oper}
theorem Hp.litO {j g k m size:Nat}{t:TypeId}{l l2:List Value}(hw:Hp B M hs w)(hj:hs[j]?=some (.row g t l))(he:l2=l)(hk:k=m)(hl:l.length=m*size)(hn:m≤1000):Hp B M (hs.set j (.sl (.slice (some ⟨g,0,none⟩) m m) t size k l2)) w:=by
 subst he;subst hk;have hr:=cY.1 (hw.get hj);refine hw.updAt (S:=fun _=>False) hj (Only.refl _ _) (fun _ _ h=>h.elim) (cV.2 ⟨hl, .inr ⟨g,k,_,rfl,Nat.zero_le _,hr,Nat.le_refl _,by unfold maxLen;omega,by simpa using hl,?_⟩⟩) (fun q hq=> .inl ?_)
 ·rw [←hl];simp
 ·have h1:=db.1 hq;simp only [Value.ownBlock,Option.some.injEq] at h1;exact cQ.2 h1.symm
theorem TL.litO {r:List Oper}{g k m size:Nat}{t:TypeId}{l l2:List Value}(j:Nat)(hj:hs[j]?=some (.row g t l))(he:l2=l)(hk:k=m)(hl:l.length=m*size)(hn:m≤1000)(h:TL Fe P n B D M ops Q r fs (hs.set j (.sl (.slice (some ⟨g,0,none⟩) m m) t size k l2))):TL Fe P n B D M ops Q r fs hs:=
 jH (ι:=Unit) (φ:=fun _=>True) (hs':=fun _=>hs.set j (.sl (.slice (some ⟨g,0,none⟩) m m) t size k l2)) (fun w hw=>⟨(),trivial,hw.litO hj he hk hl hn⟩) (fun _ _=>h)
end
def zkM:Go.Shelf.Ren:=⟨fun|35=>49|n=>n,fun|0=>0|3=>3|4=>4|22=>31|23=>50|n=>n,fun|n=>n⟩
theorem zoc:Go.Proofs.SlLaysE.n35 Tryz.prog zkM:={
 mixed:=by kernel_rfl
 f35:=⟨Tryz.f49.name,by decide,Tryz.func49.trans (congrArg some a7)⟩
 t0:=Tryz.underlying0
 a0:=Tryz.isAgg0
 z0:=Tryz.sizeOf0
 v0:=Tryz.zeroValue0
 t3:=Tryz.underlying3
 a3:=Tryz.isAgg3
 z3:=Tryz.sizeOf3
 v3:=Tryz.zeroValue3
 t4:=Tryz.underlying4
 a4:=Tryz.isAgg4
 z4:=Tryz.sizeOf4
 v4:=Tryz.zeroValue4
 t22:=Tryz.underlying31
 a22:=Tryz.isAgg31
 z22:=Tryz.sizeOf31
 v22:=Tryz.zeroValue31
 a23:=Tryz.isAgg50
 z23:=Tryz.sizeOf50 }
abbrev ko:={ v:Value // v.oneCell'=true }
instance:Inhabited ko:=⟨⟨.int .i64 0,rfl⟩⟩
def iM (x:ko):Value:=x.1
theorem zmG:OneCell iM:=fun x=>x.2
theorem mapV {l:List Value}(h:∀v∈l,v.oneCell'=true):∃zs:List ko,zs.map iM=l:=by
 induction l with
 |nil=>exact ⟨[],rfl⟩
 |cons v l ih=>
  obtain ⟨zs,hz⟩:=ih fun u hu=>h u (List.mem_cons_of_mem _ hu);exact ⟨⟨v,h v (List.mem_cons_self ..)⟩ :: zs,by rw [List.map_cons,hz];rfl⟩
theorem revE (blk off cap : Nat) (zs : List ko) (w : World) (hH : Holds iM w blk off zs.toArray) (hsz : zs.length ≤ 9223372036854775807) :
    Calls Tryz.prog 49 #[.slice (some ⟨blk, off, none⟩) zs.length cap] w fun e w' => e = .returned (.tuple #[]) ∧ ∃ n, w' = putRow iM (Sort.ahead w n) blk off zs.reverse.toArray := AnyE.slices_Reverse zoc iM zmG blk off cap zs w hH hsz
theorem revE0 (a : Option Addr) (cap : Nat) (w : World) :
    Calls Tryz.prog 49 #[.slice a 0 cap] w fun e w' => e = .returned (.tuple #[]) ∧ w' = w := AnyE.slices_Reverse_empty zoc a cap w
section
variable {w:World}{g n:Nat}{cur:Array Value}{e:TypeId}{zs:List ko}
theorem zom (hb:w.heap[g]?=some (.cells cur e (0,0)))(ht:cur.toList.take zs.length=zs.map iM):Holds iM w g 0 zs.toArray:=by
 intro j hj; (have hj':j<zs.length:=by simpa using hj);refine ⟨?_,by simp [World.frozen?,hb]⟩; (have h1:(cur.toList.take zs.length)[j]?=(zs.map iM)[j]?:=by rw [ht]);rw [List.getElem?_take_of_lt hj'] at h1;simp only [World.cell?,hb,Nat.zero_add];simp only [Option.isSome_none,Bool.false_eq_true,if_false];rw [←Array.getElem?_toList,h1];simp [hj']
theorem heapV (d:Array ko)(hb:w.heap[g]?=some (.cells cur e (0,0))):(putRow iM (Sort.ahead w n) g 0 d).heap[g]?=some (.cells (putCells iM 0 d cur) e (0,0)):=by
 have hg:g<w.heap.size:=(Array.getElem?_eq_some_iff.1 hb).1;simp [putRow,mapBlock,Sort.ahead,Array.getElem?_modify,hb,onCells]
theorem onlyV (d:Array ko){v:Value}{size k:Nat}{l:List Value}(hv:v.ownBlock=some g):Only (Ent.sl v e size k l).fp w (putRow iM (Sort.ahead w n) g 0 d):=by
 refine ⟨rfl,rfl,rfl,by simp [putRow,mapBlock,Sort.ahead],fun k hk hn=>?_⟩;have:g≠k:=fun q=>hn (db.2 (by rw [hv,q]));simp [putRow,mapBlock,Sort.ahead,Array.getElem?_modify,this]
theorem takeV (ts:List ko)(h:ts.length≤cur.size):(putCells iM 0 ts.toArray cur).toList.take ts.length=ts.map iM:=by
 apply List.ext_getElem?;intro j;by_cases hj:j<ts.length
 ·rw [List.getElem?_take_of_lt hj,Array.getElem?_toList];simp [putCells,hj,show j<cur.size by omega]
 ·rw [List.getElem?_take_eq_none a5,List.getElem?_eq_none cF]
end
theorem znI {w:World}{v0:Value}{cells:List Value}(hc:∀v∈cells,v.oneCell'=true)(hk:(Ent.sl v0 50 1 cells.length cells).ok w):Calls Tryz.prog 49 #[v0] w fun e w'=>e= .returned (.tuple #[])∧Only (Ent.sl v0 50 1 cells.length cells).fp w w'∧(Ent.sl v0 50 1 cells.length cells.reverse).ok w':=by
 have ho:=cV.1 hk;obtain ⟨zs,rfl⟩:=mapV hc;rcases ho.2 with ⟨rfl,h0⟩|⟨g,cap,cur,rfl,hb,hg,h1,h2,h3,h4⟩
 ·rw [List.length_map] at h0;obtain rfl:=List.eq_nil_of_length_eq_zero h0;refine (revE0 none 0 w).mono ?_;rintro e w' ⟨rfl,rfl⟩;exact ⟨rfl,Only.refl _ _,hk⟩
 ·rw [Nat.mul_one] at h3 h4;rw [List.length_map] at h1 h4 ⊢;refine (revE g 0 cap zs w (zom hg h4) (by unfold maxLen at h2;omega)).mono ?_;rintro e w' ⟨rfl,n,rfl⟩;refine ⟨rfl,onlyV _ rfl,cV.2 ⟨by simp, .inr ⟨g,cap,_,rfl,Nat.zero_le _,heapV _ hg,h1,h2,by simp [putCells,h3],?_⟩⟩⟩;rw [Nat.mul_one,←List.map_reverse];have:=takeV (cur:=cur) zs.reverse (by rw [List.length_reverse];omega)
  rwa [List.length_reverse] at this
theorem FxM.one {F0:Frz}{w w':World}{E E':Ent}(hF0:F0.At w)(hO:Hp w (dz [E]) [E] w)(hA:∀g,dz [E] g→¬F0.S g)(ho:Only E.fp w w')(hok:E'.ok w')(hfp:∀g,E'.fp g→E.fp g∨w.heap.size≤g):FxM F0 w (dz [E]) F0 [E'] w':=by
 obtain ⟨S0,G,rfl,hS,h⟩:=kS hF0 hO hA;refine dt (es:=[E']) (iA (es:=[E]) (es':=[E']) (hs:=[.fr G]) h ho (fun g _ hg=>⟨E,by simp,hg⟩) (fun e he=>?_) (fun e he g hg=>?_) (List.pairwise_singleton _ _)) hS (Frz.Le.refl _)
 ·obtain rfl:=List.mem_singleton.1 he;exact hok
 ·obtain rfl:=List.mem_singleton.1 he;exact (hfp g hg).imp (fun h=>⟨E,by simp,h⟩) id
def zdq (l:List (List GChoice)):List (List GChoice):=l.reverse
theorem m8 {α:Type}[Inhabited α]{rep:Frz→List Value→α→Prop}{F:Frz}{size:Nat}{cs:List (List Value)}{xs:List α}(h:OwnD rep F size cs xs):OwnD rep F size cs.reverse xs.reverse:=by
 refine ⟨by rw [List.length_reverse,List.length_reverse];exact h.1,fun c hc=>h.2.1 c (List.mem_reverse.1 hc),fun i hi=>?_⟩;rw [List.length_reverse] at hi
 have e1:cI cs.reverse i=cI cs (xs.length - 1 - i):=by
  have:=h.1;rw [dS (by rw [List.length_reverse];omega),dS a5,List.getElem_reverse]
  congr 1;omega
 have e2:cI xs.reverse i=cI xs (xs.length - 1 - i):=by
  rw [dS (by rw [List.length_reverse];omega),dS a5,List.getElem_reverse]
 rw [e1,e2];exact h.2.2 _ a5
theorem zjQ:∀ {cs:List (List Value)},(∀c∈cs,c.length=1)→cs.reverse.flatten=cs.flatten.reverse
 | [],_=>rfl
 |c :: cs,h=>by
  rw [List.reverse_cons,List.flatten_append,show (c :: cs).flatten=c++cs.flatten from rfl,List.reverse_append,zjQ fun d hd=>h d (List.mem_cons_of_mem _ hd)]
  congr 1
  have hc:=h c (List.mem_cons_self ..)
  match c,hc with
  | [v],_=>rfl
theorem zm5:∀ {cs:List (List Value)},(∀c∈cs,c.length=1)→cs.flatten.length=cs.length
 | [],_=>rfl
 |c :: cs,h=>by
  rw [List.flatten_cons,List.length_append,zm5 fun d hd=>h d (List.mem_cons_of_mem _ hd),h c (List.mem_cons_self ..),List.length_cons];omega
theorem zhD (F0 : Frz) (w : World) (hF0 : F0.At w) (l0_ : List (List GChoice)) (v0_ : Value) (c0_ : List (List Value)) (h0_ : OwnD cH F0 1 c0_ l0_) (hO : Hp w (dz [.sl v0_ 50 1 l0_.length c0_.flatten]) [.sl v0_ 50 1 l0_.length c0_.flatten] w) (hA : ∀ g, dz [.sl v0_ 50 1 l0_.length c0_.flatten] g → ¬ F0.S g) :
    Calls Tryz.prog 49 #[v0_] w fun e w' => ∃ (y : List (List Value)), (OwnD cH F0 1 y (zdq l0_)) ∧ e = .returned (.tuple #[]) ∧ FxM F0 w (dz [.sl v0_ 50 1 l0_.length c0_.flatten]) F0 [.sl v0_ 50 1 (zdq l0_).length y.flatten] w' := by
  have hk := hO.own _ (List.mem_cons_self ..); (have hl : c0_.flatten.length = l0_.length := by rw [zm5 h0_.2.1, h0_.1])
  have h1 : ∀ v ∈ c0_.flatten, v.oneCell' = true := fun v hv => by
    obtain ⟨c, hc, hv⟩ := List.mem_flatten.1 hv; obtain ⟨i, hi, rfl⟩ := List.mem_iff_getElem.1 hc; have := h0_.2.2 i (by have := h0_.1; omega); rw [dS hi] at this; exact (R_List_GChoice.one this).h v hv
  rw [← hl] at hk;refine (znI h1 hk).mono ?_; rintro e w' ⟨rfl, h2, h3⟩; rw [hl] at h2 h3;refine ⟨c0_.reverse, m8 h0_, rfl, FxM.one hF0 hO hA h2 ?_ fun g h => .inl (db.2 (db.1 h))⟩; unfold zdq; rw [List.length_reverse, zjQ h0_.2.1]; exact h3
end Go.Proofs.YtogbggmckmnlfaaGreatDoor
