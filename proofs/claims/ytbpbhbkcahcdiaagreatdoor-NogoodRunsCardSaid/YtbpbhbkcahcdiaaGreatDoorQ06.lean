/- Pm Pw Fa Fb Fc Fd Ca Ya: shortened and put together by squeeze.py. -/
import Derived.Test.YtbpbhbkcahcdiaaGreatDoorQ05
set_option maxRecDepth 100000
set_option maxHeartbeats 4000000
set_option linter.unusedVariables false
set_option linter.unusedSectionVars false
set_option linter.unusedSimpArgs false
namespace Go.Proofs.YtbpbhbkcahcdiaaGreatDoor
open Go.RowKit
theorem zff {α:Type}{f:BitVec 64→α→BitVec 64}{h:α→Bool}{j:Nat}(hf:∀g x,(f g x).getLsbD j=(g.getLsbD j||h x)):∀(l:List α) (g:BitVec 64),(l.foldl f g).getLsbD j=(g.getLsbD j||l.any h)
 | [],g=>by simp
 |x :: r,g=>by rw [List.foldl_cons,zff hf r,hf,List.any_cons,Bool.or_assoc]
theorem zir {α:Type}{f:BitVec 64→α→BitVec 64}{h:α→Bool}{j:Nat}:∀(l:List α) (g:BitVec 64),(∀x∈l,∀g,(f g x).getLsbD j=(g.getLsbD j||h x))→(l.foldl f g).getLsbD j=(g.getLsbD j||l.any h)
 | [],g,_=>by simp
 |x :: r,g,hf=>by rw [List.foldl_cons,zir r _ (fun y hy=>hf y (by simp [hy])),hf x (by simp),List.any_cons,Bool.or_assoc]
theorem zhN {c j:Nat}(hj:j<64):(1#64 <<< c).getLsbD j=decide (c=j):=by
 rw [BitVec.getLsbD_shiftLeft,BitVec.getLsbD_one];by_cases h:c=j
 ·subst h;simp [hj]
 ·by_cases h2:j<c
  ·simp [h2,h]
  ·simp [hj,h];omega
theorem zgL {g:BitVec 64}{c j:Nat}(hj:j<64):(g ||| 1#64 <<< c).getLsbD j=(g.getLsbD j||decide (c=j)):=by rw [BitVec.getLsbD_or,zhN hj]
def zd7 (L:Ws)(i j:Nat)(x:Pr):Bool:=
 if x.a=(i:Int) then decide ((only L x.b.toNat:Int)≠0∧x.lo≤(only L x.b.toNat:Int) - x.off∧(only L x.b.toNat:Int) - x.off≤x.hi∧((only L x.b.toNat:Int) - x.off).toNat=j)
 else decide (x.lo≤(only L x.a.toNat:Int)∧(only L x.a.toNat:Int)≤x.hi∧((only L x.a.toNat:Int)+x.off).toNat=j)
theorem zhE {Y:Tb}{L:Ws}{i j:Nat}(hj:j<64):(zda Y L i).getLsbD j=(Y.ps i).any (zd7 L i j):=by
 unfold zda;rw [zff (h:=zd7 L i j) (fun g x=>?_),BitVec.getLsbD_zero,Bool.false_or];unfold zb1 zd7
 split
 ·split
  ·rename_i h;rw [zgL hj];congr 1;exact decide_eq_decide.2 ⟨fun hh=>⟨h.1,h.2.1,h.2.2,hh⟩,fun hh=>hh.2.2.2⟩
  ·rename_i h;have:¬((only L x.b.toNat:Int)≠0∧x.lo≤(only L x.b.toNat:Int) - x.off∧(only L x.b.toNat:Int) - x.off≤x.hi∧((only L x.b.toNat:Int) - x.off).toNat=j):=fun hh=>h ⟨hh.1,hh.2.1,hh.2.2.1⟩;rw [decide_eq_false this,Bool.or_false]
 ·split
  ·rename_i h;rw [zgL hj];simp [h]
  ·rename_i h;have:¬(x.lo≤(only L x.a.toNat:Int)∧(only L x.a.toNat:Int)≤x.hi∧((only L x.a.toNat:Int)+x.off).toNat=j):=fun hh=>h ⟨hh.1,hh.2.1⟩;rw [decide_eq_false this,Bool.or_false]
theorem zh2 {f:Nat→Int}{g:BitVec 64}{x:Cp}{j:Nat}(hj:j<64)(hlo:0≤x.lo)(hhi:0≤x.hi):(zd3 f g x).getLsbD j=(g.getLsbD j||decide (x.lo≤(j:Int)∧(j:Int)≤x.hi∧x.mx<f j)):=by
 unfold zd3;rw [zff (h:=fun d=>decide (x.mx<f d)&&decide (d=j)) (fun g d=>?_)]
 ·congr 1
  rw [Bool.eq_iff_iff,List.any_eq_true,decide_eq_true_eq];constructor
  ·rintro ⟨d,hd,h⟩;obtain ⟨h1,h2⟩:=List.mem_range'_1.1 hd;simp only [Bool.and_eq_true,decide_eq_true_eq] at h;obtain ⟨h3,rfl⟩:=h;exact ⟨by omega,by omega,h3⟩
  ·rintro ⟨h1,h2,h3⟩;exact ⟨j,List.mem_range'_1.2 ⟨by omega,by omega⟩,by simp [h3]⟩
 ·unfold zhu
  split
  ·rename_i h;rw [zgL hj];simp [h]
  ·rename_i h;simp [h]
theorem zit {Y:Tb}{L:Ws}{i j:Nat}(hok:Y.Ok)(hi:i<Y.n)(hj:j<64):(zdQ Y L i).getLsbD j=(Y.cs i).any fun x=>decide (x.lo≤(j:Int)∧(j:Int)≤x.hi∧x.mx<zbb L (Y.inn i) j):=by
 unfold zdQ;rw [zir (h:=fun x=>decide (x.lo≤(j:Int)∧(j:Int)≤x.hi∧x.mx<zbb L (Y.inn i) j)) _ _ (fun x hx g=>by have:=(hok.cs i hi).2 x hx;exact zh2 hj (by omega) (by omega)),BitVec.getLsbD_zero,Bool.false_or]
def zd5 (Y:Tb)(L:Ws)(i j:Nat)(x:Ld):Bool:=decide (x.lo≤(only L x.to.toNat:Int)∧(only L x.to.toNat:Int)≤x.hi∧only L x.to.toNat=j∧∃c∈Y.cs x.to.toNat,(c.lo≤(j:Int)∧(j:Int)≤c.hi)∧c.mx<zc7 L i j (Y.inn x.to.toNat))
theorem zmd {lost:Int}{d j:Nat}{l:List Cp}{g:BitVec 64}(hj:j<64):(l.foldl (zdE lost d) g).getLsbD j=(g.getLsbD j||(decide (d=j)&&decide (∃c∈l,(c.lo≤(d:Int)∧(d:Int)≤c.hi)∧c.mx<lost))):=by
 rw [zff (h:=fun c=>decide (d=j)&&decide ((c.lo≤(d:Int)∧(d:Int)≤c.hi)∧c.mx<lost)) (fun g c=>?_)]
 ·congr 1
  rw [Bool.eq_iff_iff,List.any_eq_true];simp only [Bool.and_eq_true,decide_eq_true_eq];constructor
  ·rintro ⟨c,hc,h1,h2⟩;exact ⟨h1,c,hc,h2⟩
  ·rintro ⟨h1,c,hc,h2⟩;exact ⟨c,hc,h1,h2⟩
 ·unfold zdE
  split
  ·rename_i h;rw [zgL hj];simp [h]
  ·rename_i h;simp [h]
theorem zg3 {Y:Tb}{L:Ws}{i j:Nat}(hj:j<64):(zdb Y L i).getLsbD j=(Y.out i).any (zd5 Y L i j):=by
 unfold zdb;rw [zff (h:=zd5 Y L i j) (fun g x=>?_),BitVec.getLsbD_zero,Bool.false_or];unfold zbH
 split
 ·rename_i h;rcases h with h|h
  ·rw [show zd5 Y L i j x=false from decide_eq_false (fun hh=>by omega),Bool.or_false]
  ·cases hh:zd5 Y L i j x with
   |false=>rw [Bool.or_false]
   |true=>
    have:=of_decide_eq_true hh;rw [this.2.2.1] at h;rw [h];rfl
 ·rename_i h;rw [zmd hj]
  congr 1
  unfold zd5;rw [Bool.eq_iff_iff];simp only [Bool.and_eq_true,decide_eq_true_eq];constructor
  ·rintro ⟨rfl,hc⟩;exact ⟨by omega,by omega,rfl,hc⟩
  ·rintro ⟨_,_,rfl,hc⟩;exact ⟨rfl,hc⟩
def Le' (S M:Ws):Prop:=∀i j,(nth S i).getLsbD j=true→(nth M i).getLsbD j=true
theorem zkJ {a b:BitVec 64}(hs:∀j,a.getLsbD j=true→b.getLsbD j=true)(ha:a≠0#64)(h:zch b≠0):zch a=zch b:=by
 by_cases e:a=b
 ·rw [e]
 ·exact absurd (zgx hs e ha) h
section
variable {Y:Tb}{S M:Ws}
theorem zjq (hle:Le' S M)(hne:∀i,i<Y.n→nth S i≠0#64){k:Nat}(hk:k<Y.n)(h:only M k≠0):only S k=only M k:=zkJ (hle k) (hne k hk) h
theorem zhl (hok:Y.Ok)(hle:Le' S M)(hne:∀i,i<Y.n→nth S i≠0#64){d:Nat}(hd:d≠0):∀(l:List Ld),(∀x∈l,0≤x.fr∧x.fr<Y.n∧1≤x.wt)→∀f f':Nat→Int,f d≤f' d→l.foldl (za6 M) f d≤l.foldl (za6 S) f' d
 | [],_,f,f',h=>h
 |x :: r,hx,f,f',h=>by
  rw [List.foldl_cons,List.foldl_cons];refine zhl hok hle hne hd r (fun y hy=>hx y (by simp [hy])) _ _ ?_;have h1:=hx x (by simp);unfold za6;by_cases hh:x.lo≤(only M x.fr.toNat:Int)∧(only M x.fr.toNat:Int)≤x.hi∧only M x.fr.toNat=d
  ·have e:=zjq (Y:=Y) hle hne (k:=x.fr.toNat) (by omega) (by omega);rw [if_pos hh,if_pos (by rw [e];exact hh)];omega
  ·rw [if_neg hh];split <;> omega
theorem zis (hok:Y.Ok)(hle:Le' S M)(hne:∀i,i<Y.n→nth S i≠0#64){i d:Nat}(hd:d≠0):∀(l:List Ld),(∀x∈l,0≤x.fr∧x.fr<Y.n∧1≤x.wt)→∀s s':Int,s≤s'→l.foldl (zbx M i d) s≤l.foldl (zbx S i d) s'
 | [],_,s,s',h=>h
 |x :: r,hx,s,s',h=>by
  rw [List.foldl_cons,List.foldl_cons];refine zis hok hle hne hd r (fun y hy=>hx y (by simp [hy])) _ _ ?_;have h1:=hx x (by simp);unfold zbx;by_cases hh:(x.lo≤(d:Int)∧(d:Int)≤x.hi)∧(x.fr=(i:Int)∨only M x.fr.toNat=d)
  ·rw [if_pos hh,if_pos ⟨hh.1,by
    rcases hh.2 with h2|h2
    ·exact .inl h2
    ·exact .inr (by rw [zjq (Y:=Y) hle hne (k:=x.fr.toNat) (by omega) (by omega)];exact h2)⟩]
   omega
  ·rw [if_neg hh];split <;> omega
theorem zj7 (hok:Y.Ok)(hle:Le' S M)(hne:∀i,i<Y.n→nth S i≠0#64){i j:Nat}(hi:i<Y.n)(h:(zcN Y M i).getLsbD j=true):(zcN Y S i).getLsbD j=true:=by
 have hj:j<64:=BitVec.lt_of_getLsbD h;unfold zcN at h ⊢;rw [BitVec.getLsbD_or,BitVec.getLsbD_or,zhE hj,zit hok hi hj,zg3 hj,Bool.or_eq_true,Bool.or_eq_true,List.any_eq_true,List.any_eq_true,List.any_eq_true] at h ⊢;rcases h with (⟨x,hx,h⟩|⟨x,hx,h⟩)|⟨x,hx,h⟩
 ·refine .inl (.inl ⟨x,hx,?_⟩);have hr:=(hok.ps i hi).2 x hx;unfold zd7 at h ⊢
  split at h
  ·rename_i ha;rw [if_pos ha];have h1:=of_decide_eq_true h;have e:=zjq (Y:=Y) hle hne (k:=x.b.toNat) (by omega) (by omega);rw [e];exact h
  ·rename_i ha;rw [if_neg ha];have h1:=of_decide_eq_true h;have e:=zjq (Y:=Y) hle hne (k:=x.a.toNat) (by omega) (by omega);rw [e];exact h
 ·refine .inl (.inr ⟨x,hx,?_⟩);have hr:=(hok.cs i hi).2 x hx;have h1:=of_decide_eq_true h;have hm:=zhl hok hle hne (d:=j) (by omega) (Y.inn i) (fun y hy=>by have:=(hok.inn i hi).2 y hy;omega) (fun _=>0) (fun _=>0) (Int.le_refl _);exact decide_eq_true ⟨h1.1,h1.2.1,by have:zbb M (Y.inn i) j≤zbb S (Y.inn i) j:=hm;omega⟩
 ·refine .inr ⟨x,hx,?_⟩;have hr:=(hok.out i hi).2 x hx;have h1:=of_decide_eq_true h;obtain ⟨h2,h3,h4,c,hc,h5,h6⟩:=h1;have e:=zjq (Y:=Y) hle hne (k:=x.to.toNat) (by omega) (by omega);have hm:=zis hok hle hne (i:=i) (d:=j) (by omega) (Y.inn x.to.toNat) (fun y hy=>by have:=(hok.inn _ (show x.to.toNat<Y.n by omega)).2 y hy;omega) 0 0 (Int.le_refl _);exact decide_eq_true ⟨by rw [e];exact h2,by rw [e];exact h3,by rw [e];exact h4,c,hc,h5,by have:zc7 M i j (Y.inn x.to.toNat)≤zc7 S i j (Y.inn x.to.toNat):=hm;omega⟩
structure Closed (Y:Tb) (S:Ws):Prop where
 len:S.length=Y.n
 calm:∀i,i<Y.n→zhA Y S i
theorem Closed.ne (h:Closed Y S):∀i,i<Y.n→nth S i≠0#64:=fun i hi=>(h.calm i hi).1
theorem Closed.keep (hok:Y.Ok)(h:Closed Y S){L:Ws}(hl:L.length=Y.n)(hle:Le' S L)(hr:Reach Y L M):Le' S M:=by
 induction hr with
 |refl=>exact hle
 | @step M' k b hr hk hb ih=>
  intro i j hij;rw [zbY (by rw [hr.len,hl];exact hk)]
  split
  ·rename_i e;subst e;rw [BitVec.getLsbD_and,ih i j hij,BitVec.getLsbD_not,Bool.true_and];have hj:j<64:=BitVec.lt_of_getLsbD hij
   cases hbj:b.getLsbD j with
   |false=>simp [hj]
   |true=>
    have h1:=zj7 hok ih h.ne hk (hb j hbj);have h2:=congrArg (fun v=>BitVec.getLsbD v j) (h.calm i hk).2;simp only [BitVec.getLsbD_and,BitVec.getLsbD_zero] at h2;rw [hij,h1] at h2
    cases h2
  ·exact ih i j hij
structure Is (Y:Tb) (T L:Ws) (c:Bool):Prop where
 tlen:T.length=Y.n
 len:L.length=Y.n
 sub:Le' L T
 best:∀S,Closed Y S→Le' S T→Le' S L
 bad:c=true→∃i,i<Y.n∧nth L i=0#64
 good:c=false→Closed Y L
theorem Is.of {T L:Ws}{c:Bool}(hok:Y.Ok)(hl:T.length=Y.n)(h:SPost Y T L c):Is Y T L c:=
 ⟨hl,h.2.1,h.1.sub hl,fun S hS hle=>hS.keep hok hl hle h.1,h.2.2.1,fun hc=>⟨h.2.1,h.2.2.2 hc⟩⟩
theorem Le'.antisymm (h1:Le' S M)(h2:Le' M S)(hl:S.length=M.length):S=M:=by
 apply List.ext_getElem hl;intro i hi1 hi2;have a1:=h1 i;have a2:=h2 i;rw [zat hi1,zat hi2] at a1 a2;apply BitVec.eq_of_getLsbD_eq;intro j _
 cases h:S[i].getLsbD j with
 |true=>rw [a1 j h]
 |false=>
  cases h':M[i].getLsbD j with
  |false=>rfl
  |true=>rw [a2 j h'] at h;cases h
theorem Is.cut {T L L':Ws}{c:Bool}{i:Nat}{g:BitVec 64}(hok:Y.Ok)(hi:i<Y.n)(h:Is Y T L false)(k:Is Y (cutL L i g) L' c):Is Y (cutL T i g) L' c where
 tlen:=by unfold cutL;rw [List.length_set,h.tlen]
 len:=k.len
 sub a j hj:=by
  have h1:=k.sub a j hj;unfold cutL at h1 ⊢;rw [zbY (by rw [h.len];exact hi)] at h1;rw [zbY (by rw [h.tlen];exact hi)]
  split at h1
  ·rename_i e;rw [if_pos e];rw [BitVec.getLsbD_and,Bool.and_eq_true] at h1 ⊢;exact ⟨h.sub _ _ h1.1,h1.2⟩
  ·rename_i e;rw [if_neg e];exact h.sub _ _ h1
 best S hS hle:=k.best S hS (fun a j hj=>by
  have h0:Le' S T:=fun a j hj=>by
   have:=hle a j hj;unfold cutL at this;rw [zbY (by rw [h.tlen];exact hi)] at this
   split at this
   ·rename_i e;subst e;rw [BitVec.getLsbD_and,Bool.and_eq_true] at this;exact this.1
   ·exact this
  have h1:=h.best S hS h0 a j hj;have h2:=hle a j hj;unfold cutL at h2 ⊢;rw [zbY (by rw [h.tlen];exact hi)] at h2;rw [zbY (by rw [h.len];exact hi)]
  split at h2
  ·rename_i e;rw [if_pos e];subst e;rw [BitVec.getLsbD_and,Bool.and_eq_true] at h2 ⊢;exact ⟨h1,h2.2⟩
  ·rename_i e;rw [if_neg e];exact h1)
 bad:=k.bad
 good:=k.good
theorem Is.eq {T L K:Ws}{c:Bool}(hok:Y.Ok)(h:Is Y T L c)(hK:Closed Y K)(hr:Reach Y T K):L=K∧c=false:=by
 have hKT:Le' K T:=hr.sub h.tlen;have h1:=h.best K hK hKT
 have hc:c=false:=by
  cases c with
  |false=>rfl
  |true=>
   obtain ⟨i,hi,h0⟩:=h.bad rfl;exfalso;apply hK.ne i hi;apply BitVec.eq_of_getLsbD_eq;intro j _
   cases hh:(nth K i).getLsbD j with
   |false=>rw [BitVec.getLsbD_zero]
   |true=>have:=h1 i j hh;rw [h0,BitVec.getLsbD_zero] at this;cases this
 subst hc;exact ⟨Le'.antisymm ((h.good rfl).keep hok h.tlen h.sub hr) h1 (by rw [h.len,hK.len]),rfl⟩
end
def zdz:List Int→List Int→Bool
 |a :: x,b :: y=>if a=b then zdz x y else decide (a<b)
 |_,_=>false
theorem ziY {x y:List Int}{k:Nat}(h:k<x.length)(h2:k<y.length):zdz (x.drop k) (y.drop k)=if nth x k=nth y k then zdz (x.drop (k+1)) (y.drop (k+1)) else decide (nth x k<nth y k):=by
 rw [List.drop_eq_getElem_cons h,List.drop_eq_getElem_cons h2,zat h,zat h2];rfl
def zgq (ds:List Dx)(s:Int):Int:=match ds.findIdx? (fun d=>decide (d.st=s)) with|some i=>(i:Int)|none=> -1
theorem inB_iff {n a b:Int}:inB n a b=true↔a≤n∧n≤b:=by simp [inB]
def zgf (xs:List Pr)(k:Nat):Bool:=decide ((inB (nth xs k).a 0 511=true∧inB (nth xs k).b 0 511=true∧(nth xs k).a<(nth xs k).b∧ -1≤(nth xs k).off∧(nth xs k).off≤1∧rngB (nth xs k).lo (nth xs k).hi=true)∧(0<k→zdz [(nth xs (k - 1)).a,(nth xs (k - 1)).b,(nth xs (k - 1)).off,(nth xs (k - 1)).lo,(nth xs (k - 1)).hi] [(nth xs k).a,(nth xs k).b,(nth xs k).off,(nth xs k).lo,(nth xs k).hi]=true))
def zgC (xs:List Ld)(k:Nat):Bool:=decide ((inB (nth xs k).to 0 511=true∧inB (nth xs k).fr 0 511=true∧¬(nth xs k).to=(nth xs k).fr∧1≤(nth xs k).wt∧(nth xs k).wt≤1073741824∧rngB (nth xs k).lo (nth xs k).hi=true)∧(0<k→zdz [(nth xs (k - 1)).to,(nth xs (k - 1)).fr,(nth xs (k - 1)).wt,(nth xs (k - 1)).lo,(nth xs (k - 1)).hi] [(nth xs k).to,(nth xs k).fr,(nth xs k).wt,(nth xs k).lo,(nth xs k).hi]=true))
def zgw (xs:List Cp)(k:Nat):Bool:=decide ((inB (nth xs k).st 0 511=true∧0≤(nth xs k).mx∧(nth xs k).mx≤1099511627776∧rngB (nth xs k).lo (nth xs k).hi=true)∧(0<k→zdz [(nth xs (k - 1)).st,(nth xs (k - 1)).mx,(nth xs (k - 1)).lo,(nth xs (k - 1)).hi] [(nth xs k).st,(nth xs k).mx,(nth xs k).lo,(nth xs k).hi]=true))
def zfY (P:Pb):Bool:=decide (P.ps.length≤4096∧P.ls.length≤1024∧P.cs.length≤1024)&&((List.range P.ps.length).all (zgf P.ps)&&((List.range P.ls.length).all (zgC P.ls)&&(List.range P.cs.length).all (zgw P.cs)))
def zhd (cs:List Int)(j:Nat):Bool:=decide (2≤nth cs j∧nth cs j≤51∧(0<j→nth cs (j - 1)<nth cs j))
def zi2 (ds:List Dx)(k:Nat):Bool:=decide ((inB (nth ds k).st 0 511=true∧(0<k→(nth ds (k - 1)).st<(nth ds k).st)∧(nth ds k).chs.length≤50)∧(List.range (nth ds k).chs.length).all (zhd (nth ds k).chs)=true)
def zji (P:Pb)(k:Nat):Bool:=decide (0≤zgq P.ds (nth P.ps k).a∧0≤zgq P.ds (nth P.ps k).b)
def ziR (P:Pb)(k:Nat):Bool:=decide (0≤zgq P.ds (nth P.ls k).to∧0≤zgq P.ds (nth P.ls k).fr)
def zjk (P:Pb)(k:Nat):Bool:=decide (0≤zgq P.ds (nth P.cs k).st)
def zko (P:Pb):Bool:=decide (P.ds.length≤512)&&(zfY P&&((List.range P.ds.length).all (zi2 P.ds)&&((List.range P.ps.length).all (zji P)&&((List.range P.ls.length).all (ziR P)&&(List.range P.cs.length).all (zjk P)))))
theorem zfb {α:Type}[Inhabited α]{c:α→α→Int}{xs:List α}:incB c xs=true↔∀k,0<k→k<xs.length→c (nth xs (k - 1)) (nth xs k)<0:=by
 unfold incB;rw [List.all_eq_true];constructor
 ·intro h k h0 hk;have:=h k (List.mem_range.2 hk);simp only [Bool.or_eq_true,decide_eq_true_eq,Bool.not_eq_true',decide_eq_false_iff_not] at this;omega
 ·intro h k hk;simp only [Bool.or_eq_true,decide_eq_true_eq,Bool.not_eq_true',decide_eq_false_iff_not];by_cases h0:k=0
  ·exact .inl h0
  ·have:=h k (by omega) (List.mem_range.1 hk);exact .inr (by omega)
theorem rangeAll {f:Nat→Bool}{n:Nat}:(List.range n).all f=true↔∀k,k<n→f k=true:=by
 rw [List.all_eq_true];exact ⟨fun h k hk=>h k (List.mem_range.2 hk),fun h k hk=>h k (List.mem_range.1 hk)⟩
theorem zew {a b:Int}:cmpI a b<0↔a<b:=by unfold cmpI;split <;> (try split) <;> omega
theorem cmpI_zero {a b:Int}:cmpI a b=0↔a=b:=by unfold cmpI;split <;> (try split) <;> omega
theorem zgH:∀(xs ys:List Int),xs.length=ys.length→(zdz xs ys=true↔orL (List.zipWith cmpI xs ys)<0)
 | [],[],_=>by simp [zdz,orL]
 |a :: x,b :: y,h=>by
  have ih:=zgH x y (by simpa using h);unfold zdz;rw [List.zipWith_cons_cons];unfold orL;by_cases e:a=b
  ·rw [if_pos e,if_pos (cmpI_zero.2 e)];exact ih
  ·rw [if_neg e,if_neg (fun hh=>e (cmpI_zero.1 hh)),zew,decide_eq_true_eq]
 | [],_ :: _,h=>by simp at h
 |_ :: _,[],h=>by simp at h
theorem zjJ {xs:List Pr}{k:Nat}:zgf xs k=true↔(nth xs k).ok=true∧(0<k→Pr.cmp (nth xs (k - 1)) (nth xs k)<0):=by
 have e:=zgH [(nth xs (k - 1)).a,(nth xs (k - 1)).b,(nth xs (k - 1)).off,(nth xs (k - 1)).lo,(nth xs (k - 1)).hi] [(nth xs k).a,(nth xs k).b,(nth xs k).off,(nth xs k).lo,(nth xs k).hi] rfl;simp only [zgf,decide_eq_true_eq,e,Pr.ok,Bool.and_eq_true,inB_iff,Pr.cmp,List.zipWith,and_assoc]
theorem zjn {xs:List Ld}{k:Nat}:zgC xs k=true↔(nth xs k).ok=true∧(0<k→Ld.cmp (nth xs (k - 1)) (nth xs k)<0):=by
 have e:=zgH [(nth xs (k - 1)).to,(nth xs (k - 1)).fr,(nth xs (k - 1)).wt,(nth xs (k - 1)).lo,(nth xs (k - 1)).hi] [(nth xs k).to,(nth xs k).fr,(nth xs k).wt,(nth xs k).lo,(nth xs k).hi] rfl;simp only [zgC,decide_eq_true_eq,e,Ld.ok,Bool.and_eq_true,inB_iff,Ld.cmp,List.zipWith,and_assoc]
theorem zjN {xs:List Cp}{k:Nat}:zgw xs k=true↔(nth xs k).ok=true∧(0<k→Cp.cmp (nth xs (k - 1)) (nth xs k)<0):=by
 have e:=zgH [(nth xs (k - 1)).st,(nth xs (k - 1)).mx,(nth xs (k - 1)).lo,(nth xs (k - 1)).hi] [(nth xs k).st,(nth xs k).mx,(nth xs k).lo,(nth xs k).hi] rfl;simp only [zgw,decide_eq_true_eq,e,Cp.ok,Bool.and_eq_true,inB_iff,Cp.cmp,List.zipWith,and_assoc]
theorem ze9 {α:Type}[Inhabited α]{r:List α→Nat→Bool}{q:α→Bool}{c:α→α→Int}{xs:List α}(h:∀k,r xs k=true↔q (nth xs k)=true∧(0<k→c (nth xs (k - 1)) (nth xs k)<0)):(List.range xs.length).all (r xs)=true↔allB q xs=true∧incB c xs=true:=by
 rw [rangeAll,zeb,zfb];exact ⟨fun hh=>⟨fun k hk=>((h k).1 (hh k hk)).1,fun k h0 hk=>((h k).1 (hh k hk)).2 h0⟩,fun hh k hk=>(h k).2 ⟨hh.1 k hk,fun h0=>hh.2 k h0 hk⟩⟩
theorem zkm (P:Pb):zfY P=P.rulesOk:=by
 rw [Bool.eq_iff_iff];simp only [zfY,Pb.rulesOk,Bool.and_eq_true,decide_eq_true_eq,ze9 (r:=zgf) (q:=Pr.ok) (c:=Pr.cmp) (xs:=P.ps) (fun k=>zjJ),ze9 (r:=zgC) (q:=Ld.ok) (c:=Ld.cmp) (xs:=P.ls) (fun k=>zjn),ze9 (r:=zgw) (q:=Cp.ok) (c:=Cp.cmp) (xs:=P.cs) (fun k=>zjN)];constructor
 ·rintro ⟨⟨h1,h2,h3⟩,⟨h4,h5⟩,⟨h6,h7⟩,h8,h9⟩;exact ⟨by omega,h4,h5,by omega,h6,h7,by omega,h8,h9⟩
 ·rintro ⟨h1,h4,h5,h2,h6,h7,h3,h8,h9⟩;exact ⟨⟨by omega,by omega,by omega⟩,⟨h4,h5⟩,⟨h6,h7⟩,h8,h9⟩
theorem ziE {f:Nat→Int}{lo hi:Int}{n:Nat}(h0:∀k,k<n→lo≤f k∧f k≤hi)(h:∀k,0<k→k<n→f (k - 1)<f k):(n:Int)≤hi - lo+1∨n=0:=by
 have key:∀k,k<n→lo+(k:Int)≤f k:=by
  intro k
  induction k with
  |zero=>intro hk;have:=h0 0 hk;omega
  |succ k ih=>intro hk;have:=ih (by omega);have:=h (k+1) (by omega) hk;rw [Nat.add_sub_cancel] at this;omega
 rcases Nat.eq_zero_or_pos n with h1|h1
 ·exact .inr h1
 ·have:=key (n - 1) (by omega);have:=h0 (n - 1) (by omega);exact .inl (by omega)
theorem zhz {ds:List Dx}{s:Int}:0≤zgq ds s↔∃i,i<ds.length∧(nth ds i).st=s:=by
 unfold zgq
 cases hf:ds.findIdx? (fun d=>decide (d.st=s)) with
 |none=>
  refine ⟨fun h=>by simp at h,fun ⟨i,hi,h⟩=>?_⟩;rw [List.findIdx?_eq_none_iff] at hf;have:=hf (nth ds i) (zaY hi);simp [h] at this
 |some i=>
  refine ⟨fun _=>?_,fun _=>by simp⟩;obtain ⟨hi,h1,_⟩:=List.findIdx?_eq_some_iff_getElem.1 hf;exact ⟨i,hi,by rw [zat hi];simpa using h1⟩
theorem zc2 {P:Pb}(hst:∀d∈P.ds,0≤d.st∧d.st≤511){s:Int}:P.has s=true↔0≤zgq P.ds s:=by
 unfold Pb.has;rw [zhB (P.ds.map fun d:Dx=>d.st) (fun y hy=>by obtain ⟨d,hd,rfl⟩:=List.mem_map.1 hy;exact hst d hd),zhz,List.mem_map];constructor
 ·rintro ⟨d,hd,rfl⟩;obtain ⟨i,hi,rfl⟩:=List.mem_iff_getElem.1 hd;exact ⟨i,hi,by rw [zat hi]⟩
 ·rintro ⟨i,hi,rfl⟩;exact ⟨_,zaY hi,rfl⟩
theorem refCh_iff {cs:List Int}:(List.range cs.length).all (zhd cs)=true↔allB (fun c=>inB c 2 51) cs=true∧incB cmpI cs=true:=by
 refine ze9 (r:=zhd) (q:=fun c=>inB c 2 51) (c:=cmpI) fun k=>?_;simp only [zhd,decide_eq_true_eq,inB_iff,zew,and_assoc]
theorem zjM (P:Pb):zko P=P.ok:=by
 rw [Bool.eq_iff_iff];simp only [zko,Pb.ok,Bool.and_eq_true,decide_eq_true_eq,zkm,rangeAll,zeb,zfb,zew,zi2,zji,ziR,zjk,Dx.ok]
 have stOf:(∀k,k<P.ds.length→inB (nth P.ds k).st 0 511=true)→∀d∈P.ds,0≤d.st∧d.st≤511:=fun h d hd=>by
  obtain ⟨i,hi,rfl⟩:=List.mem_iff_getElem.1 hd;have:=inB_iff.1 (h i hi)
  rwa [zat hi] at this
 constructor
 ·rintro ⟨h1,h2,h3,h4,h5,h6⟩;have hst:=stOf fun k hk=>(h3 k hk).1.1;refine ⟨fun k hk=>⟨(h3 k hk).1.1,?_⟩,h2,fun k h0 hk=>(h3 k hk).1.2.1 h0,fun k hk=>⟨(zc2 hst).2 (h4 k hk).1,(zc2 hst).2 (h4 k hk).2⟩,fun k hk=>⟨(zc2 hst).2 (h5 k hk).1,(zc2 hst).2 (h5 k hk).2⟩,fun k hk=>(zc2 hst).2 (h6 k hk)⟩;have:=refCh_iff.1 (rangeAll.2 (h3 k hk).2);simp only [zeb,zfb,zew] at this;exact this
 ·rintro ⟨h1,h2,h3,h4,h5,h6⟩;have hst:=stOf fun k hk=>(h1 k hk).1;refine ⟨?_,h2,fun k hk=>⟨⟨(h1 k hk).1,fun h0=>h3 k h0 hk,?_⟩,?_⟩,fun k hk=>⟨(zc2 hst).1 (h4 k hk).1,(zc2 hst).1 (h4 k hk).2⟩,fun k hk=>⟨(zc2 hst).1 (h5 k hk).1,(zc2 hst).1 (h5 k hk).2⟩,fun k hk=>(zc2 hst).1 (h6 k hk)⟩
  ·have:=ziE (f:=fun k=>(nth P.ds k).st) (lo:=0) (hi:=511) (n:=P.ds.length) (fun k hk=>inB_iff.1 (h1 k hk).1) h3;omega
  ·have:=ziE (f:=nth (nth P.ds k).chs) (lo:=2) (hi:=51) (n:=(nth P.ds k).chs.length) (fun j hj=>inB_iff.1 ((h1 k hk).2.1 j hj)) (h1 k hk).2.2;omega
  ·exact rangeAll.1 (refCh_iff.2 (by simp only [zeb,zfb,zew];exact (h1 k hk).2))
def Cb (w:World)(g:Nat):Prop:=∃cs t p,w.heap[g]?=some (.cells cs t p)
theorem Cb.lt {w:World}{g:Nat}(h:Cb w g):g<w.heap.size:=by
 obtain ⟨_,_,_,e⟩:=h;exact (Array.getElem?_eq_some_iff.1 e).1
structure Frz where
 S:Nat→Prop
 w:World
 c:∀g,S g→Cb w g
def Frz.Le (F G:Frz):Prop:=∀g,F.S g→G.S g∧G.w.heap[g]?=F.w.heap[g]?
def Frz.At (F:Frz)(w:World):Prop:=∀g,F.S g→w.heap[g]?=F.w.heap[g]?
theorem Frz.Le.refl (F:Frz):F.Le F:=fun _ h=>⟨h,rfl⟩
theorem Frz.Le.trans {F G H:Frz}(h:F.Le G)(k:G.Le H):F.Le H:=fun g hg=>⟨(k g (h g hg).1).1,((k g (h g hg).1).2).trans (h g hg).2⟩
theorem Frz.At.le {F G:Frz}{w:World}(k:G.At w)(h:F.Le G):F.At w:=fun g hg=>(k g (h g hg).1).trans (h g hg).2
theorem Frz.At.cb {F:Frz}{w:World}(h:F.At w){g:Nat}(hg:F.S g):Cb w g:=by
 obtain ⟨a,b,c,e⟩:=F.c g hg;exact ⟨a,b,c,(h g hg).trans e⟩
theorem Frz.At.below {F:Frz}{w w':World}(h:F.At w)(hb:Below w.heap.size w w'):F.At w':=fun g hg=>(hb.block g (h.cb hg).lt).trans (h g hg)
def Frz.all (w:World):Frz:=⟨Cb w,w,fun _ h=>h⟩
theorem Frz.all_at (w:World):(Frz.all w).At w:=fun _ _=>rfl
def Frz.none (w:World):Frz:=⟨fun _=>False,w,fun _ h=>h.elim⟩
structure Fx (F:Frz) (w:World) (G:Frz) (w':World):Prop where
 le:F.Le G
 at_:G.At w'
 new:∀g,G.S g→F.S g∨w.heap.size≤g
 bel:Below w.heap.size w w'
theorem Fx.refl {F:Frz}{w w':World}(h:F.At w)(hb:Below w.heap.size w w'):Fx F w F w':=⟨.refl F,h.below hb,fun _ h=> .inl h,hb⟩
structure FzB (B:World) (M S0:Nat→Prop) extends Frz where
 base:∀g,S g→g<B.heap.size→¬M g→w.heap[g]?=B.heap[g]?
 new:∀g,S g→S0 g∨M g∨B.heap.size≤g
@[irreducible] def Ent.fr {B:World} {M S0:Nat→Prop} (F:FzB B M S0):Ent where
 fp g:=F.S g∧(M g∨B.heap.size≤g)
 ok w:=∀g,F.S g∧(M g∨B.heap.size≤g)→w.heap[g]?=F.w.heap[g]?
 loc h k:=fun g hg=>(h g hg).trans (k g hg)
 lt h g hg:=by
  obtain ⟨_,_,_,e⟩:=F.c g hg.1;exact (Array.getElem?_eq_some_iff.1 ((h g hg).trans e)).1
 nd h g hg c:=by
  obtain ⟨_,_,_,e⟩:=F.c g hg.1;rw [(h g hg).trans e];simp
section
variable {B w w':World}{M S0:Nat→Prop}{hs hs':HS}{F G:FzB B M S0}
theorem Ent.fr_fp {k:Nat}:(Ent.fr F).fp k↔F.S k∧(M k∨B.heap.size≤k):=by unfold Ent.fr;exact Iff.rfl
theorem Ent.fr_ok:(Ent.fr F).ok w↔∀g,F.S g∧(M g∨B.heap.size≤g)→w.heap[g]?=F.w.heap[g]?:=by unfold Ent.fr;exact Iff.rfl
theorem Hp.fr {i:Nat}(hw:Hp B M hs w)(hi:hs[i]?=some (.fr F)):F.toFrz.At w:=fun g hg=>by
 by_cases h:M g∨B.heap.size≤g
 ·exact Ent.fr_ok.1 (hw.get hi) g ⟨hg,h⟩
 ·have h1:g<B.heap.size:=by
   rcases Nat.lt_or_ge g B.heap.size with h2|h2
   ·exact h2
   ·exact absurd (.inr h2) h
  have h2:¬M g:=fun k=>h (.inl k);rw [hw.base g h1 h2,F.base g hg h1 h2]
def Frz.inB {F:Frz}{w:World}(hF:F.At w)(M:Nat→Prop):FzB w M F.S:=⟨F,fun g hg _ _=>(hF g hg).symm,fun g hg=> .inl hg⟩
theorem Hp.startF {F:Frz}{w:World}(hF:F.At w):Hp w (fun _=>False) [.fr (Frz.inB hF (fun _=>False))] w:=by
 have hno:∀g,¬(Ent.fr (Frz.inB hF (fun _=>False))).fp g:=fun g hg=>by
  have h:=Ent.fr_fp.1 hg;rcases h.2 with h2|h2
  ·exact h2
  ·exact absurd (hF.cb h.1).lt (by omega)
 exact ⟨rfl,rfl,rfl,Nat.le_refl _,fun _ _ _=>rfl,fun e he=>by simp at he;subst he;exact Ent.fr_ok.2 (fun g hg=>absurd (Ent.fr_fp.2 hg) (hno g)),fun e he g hg=>by simp at he;subst he;exact absurd hg (hno g),List.pairwise_singleton _ _⟩
theorem Hp.startFM {F:Frz}{w:World}{es:HS}(hF:F.At w)(h:Hp w (fps es) es w)(hM:∀g,fps es g→¬F.S g):Hp w (fps es) (es++[.fr (Frz.inB hF (fps es))]) w:=by
 have hno:∀g,¬(Ent.fr (Frz.inB hF (fps es))).fp g:=fun g hg=>by
  have h:=Ent.fr_fp.1 hg;rcases h.2 with h2|h2
  ·exact hM g h2 h.1
  ·exact absurd (hF.cb h.1).lt (by omega)
 refine ⟨rfl,rfl,rfl,Nat.le_refl _,fun _ _ _=>rfl,fun e he=>?_,fun e he g hg=>?_,?_⟩
 ·rcases List.mem_append.1 he with he|he
  ·exact h.own e he
  ·simp at he;subst he;exact Ent.fr_ok.2 (fun g hg=>absurd (Ent.fr_fp.2 hg) (hno g))
 ·rcases List.mem_append.1 he with he|he
  ·exact h.new e he g hg
  ·simp at he;subst he;exact absurd hg (hno g)
 ·exact List.pairwise_append.2 ⟨h.apart,List.pairwise_singleton _ _,fun e he f hf g hg hfg=>by simp at hf;subst hf;exact hno g hfg⟩
theorem Hp.frLe {i:Nat}(hw:Hp B M hs w)(hi:hs[i]?=some (.fr G))(h:F.toFrz.Le G.toFrz):Hp B M (hs.set i (.fr F)) w:=
 hw.updAt (w':=w) hi (Only.refl _ _) (S:=fun _=>False) (fun _ _ h=>h.elim) (Ent.fr_ok.2 (fun g hg=>((hw.fr hi).le h) g hg.1)) (fun g hg=> .inl (Ent.fr_fp.2 ⟨(h g (Ent.fr_fp.1 hg).1).1,(Ent.fr_fp.1 hg).2⟩))
end
theorem zan {F:Frz}{w:World}(hF:F.At w):∃(S0:Nat→Prop) (G:FzB w (fun _=>False) S0),G.toFrz=F∧(∀g,S0 g→F.S g)∧Hp w (fun _=>False) [.fr G] w:=⟨F.S,Frz.inB hF _,rfl,fun _ h=>h,Hp.startF hF⟩
theorem Fx.of {F:Frz}{w w':World}{S0:Nat→Prop}{hs:HS}{i:Nat}{G:FzB w (fun _=>False) S0}(hw:Hp w (fun _=>False) hs w')(hi:hs[i]?=some (.fr G))(hS:∀g,S0 g→F.S g)(hle:F.Le G.toFrz):Fx F w G.toFrz w':=
 ⟨hle,hw.fr hi,fun g hg=>(G.new g hg).imp (hS g) (fun h=>h.elim (fun h=>h.elim) id),hw.isBelow⟩
def SlC (F:Frz)(v:Value)(size:Nat)(cs:List (List Value)):Prop:=
 ∃(A:Option Addr) (cap:Nat),v= .slice A cs.length cap∧cs.length≤cap∧cap≤9223372036854775807∧(∀c∈cs,c.length=size)∧(0<cs.length→∃g off,A=some ⟨g,off,none⟩∧F.S g∧∀i,i<cs.length→Cs F.w g (off+i*size) (nth cs i))
theorem zf0 {w w':World}{g p:Nat}(h:w'.heap[g]?=w.heap[g]?):w'.cell? ⟨g,p,none⟩=w.cell? ⟨g,p,none⟩:=by
 unfold World.cell?;simp only [h]
theorem Cs.at {F:Frz}{w:World}(h:F.At w){g p:Nat}{l:List Value}(hg:F.S g)(hc:Cs F.w g p l):Cs w g p l:=fun j hj=>by
 rw [zf0 (h g hg)];exact hc j hj
theorem SlC.mono {F G:Frz}{v:Value}{size:Nat}{cs:List (List Value)}(h:SlC F v size cs)(hle:F.Le G):SlC G v size cs:=by
 obtain ⟨A,cap,h1,h2,h3,h4,h5⟩:=h;refine ⟨A,cap,h1,h2,h3,h4,fun hl=>?_⟩;obtain ⟨g,off,h6,h7,h8⟩:=h5 hl;exact ⟨g,off,h6,(hle g h7).1,fun i hi j hj=>by rw [zf0 (hle g h7).2];exact h8 i hi j hj⟩
theorem SlC.max {F:Frz}{v:Value}{size:Nat}{cs:List (List Value)}(h:SlC F v size cs):cs.length≤9223372036854775807:=by
 obtain ⟨A,cap,h1,h2,h3,_⟩:=h;omega
theorem SlC.nil (F:Frz)(size:Nat):SlC F (.slice none 0 0) size []:=⟨none,0,rfl,Nat.le_refl _,by omega,(fun _ h=>by cases h),(fun h=>absurd h (Nat.lt_irrefl 0))⟩
def zes (v:Value)(k:Nat):Value:=match v with
 | .slice (some a) _ _=> .pointer (some (a.add k))
 |_=> .pointer none
theorem zb4 {g off n cap k:Nat}:zes (.slice (some ⟨g,off,none⟩) n cap) k= .pointer (some ⟨g,off+k,none⟩):=by
 show Value.pointer (some (Addr.add ⟨g,off,none⟩ k))=_
 rw [zc0]
theorem SlC.addr {F:Frz}{v:Value}{size:Nat}{cs:List (List Value)}(h:SlC F v size cs)(hl:0<cs.length):∃g off cap,v= .slice (some ⟨g,off,none⟩) cs.length cap∧F.S g∧∀i,i<cs.length→Cs F.w g (off+i*size) (nth cs i):=by
 obtain ⟨A,cap,h1,h2,h3,h4,h5⟩:=h;obtain ⟨g,off,rfl,h7,h8⟩:=h5 hl;exact ⟨g,off,cap,h1,h7,h8⟩
theorem SlC.row {F:Frz}{v:Value}{size:Nat}{cs:List (List Value)}(h:SlC F v size cs){i:Nat}(hi:i<cs.length):(nth cs i).length=size:=by
 obtain ⟨A,cap,h1,h2,h3,h4,h5⟩:=h;rw [zat hi];exact h4 _ (List.getElem_mem hi)
section
variable {Fe:Fence}[hFe:Calm Fe]{P:Program}{n:Nat}{B D:World}{M S0:Nat→Prop}{Q:Exit→Act→World→Prop}{fs:SFs}{hs:HS}{ops:Array Oper}{rest:List Oper}{o:Oper}{v val:Value}
theorem Yv.ar {F:Frz}{t e k size m:Nat}{cs:List (List Value)}{x:Operand}[hT:TySl P t e k](ho:o.op= .call { callee:= .builtin .len,args:= #[x],argTypes:= #[t] })(hx:ev fs x=some v)(h:SlC F v size cs)(hm:cs.length=m):Yv P n B M fs hs o (.int .i64 (m:Int)):=by
 obtain ⟨A,cap,h1,_⟩:=h;subst h1 hm;exact Yv.ax ho hx
theorem Yv.ao {F:Frz}{t e k i m:Nat}{z:Int}{q:IntKind}{cs:List (List Value)}{x y:Operand}[hT:TySl P t e k](ho:o.op= .indexAddr t x y)(hx:ev fs x=some v)(hy:ev fs y=some (.int q z))(h:SlC F v k cs)(hm:cs.length=m)(hz:z=(i:Int))(hi:i<m):Yv P n B M fs hs o (zes v (i*k)):=by
 subst hm;obtain ⟨g,off,cap,rfl,_⟩:=h.addr (by omega);rw [zb4];exact Yv.ai ho hx hy hz hi
theorem Yv.aG {F:Frz}{s f off p k m:Nat}{cs:List (List Value)}{x:Operand}[hT:TyF P s f off](ho:o.op= .fieldAddr s x f)(hx:ev fs x=some (zes v p))(h:SlC F v k cs)(hm:cs.length=m)(hi:0<m):Yv P n B M fs hs o (zes v (p+off)):=by
 subst hm;obtain ⟨g,o',cap,rfl,_⟩:=h.addr (by omega);rw [zb4] at hx ⊢;exact (Yv.fieldAddr ho hx).eq (by rw [Nat.add_assoc])
theorem Yv.loadR (ix:Nat){F:FzB B M S0}{t:TypeId}[hT:TyS P t]{k i j p m:Nat}{cs:List (List Value)}{x:Operand}(ho:o.op= .load t x)(hx:ev fs x=some (zes v p))(hF:hs[ix]?=some (.fr F))(h:SlC F.toFrz v k cs)(hm:cs.length=m)(hi:i<m)(hp:p=i*k+j)(hv:(nth cs i)[j]?=some val):Yv P n B M fs hs o val:=by
 subst hm hp;obtain ⟨g,off,cap,rfl,hg,hc⟩:=h.addr (by omega);rw [zb4] at hx;intro a w ha hw;refine zdu ho (ha.ev hx) ?_;have:=Cs.at (hw.fr hF) hg (hc i hi) j (List.getElem?_eq_some_iff.1 hv).1;rw [show off+(i*k+j)=off+i*k+j by omega,this,hv]
theorem Yv.bD (ix:Nat){F:FzB B M S0}{t:TypeId}{q:Nat}[hT:TyA P t q]{k i j p m:Nat}{cs:List (List Value)}{l:List Value}{x:Operand}(ho:o.op= .load t x)(hx:ev fs x=some (zes v p))(hF:hs[ix]?=some (.fr F))(h:SlC F.toFrz v k cs)(hm:cs.length=m)(hi:i<m)(hp:p=i*k+j)(hv:((nth cs i).drop j).take q=l)(hl:l.length=q):Yv P n B M fs hs o (.agg l.toArray):=by
 subst hm hp;obtain ⟨g,off,cap,rfl,hg,hc⟩:=h.addr (by omega);rw [zb4] at hx;intro a w ha hw;refine zer ho (ha.ev hx) (fun b hb=>?_) hl
 have hlen:j+b<(nth cs i).length:=by
  have:=congrArg List.length hv;simp at this;omega
 have:=Cs.at (hw.fr hF) hg (hc i hi) (j+b) hlen;rw [show off+(i*k+j)+b=off+i*k+(j+b) by omega,this,←hv,List.getElem?_take_of_lt (by omega),List.getElem?_drop]
def SlK (F:Frz)(v:Value)(size n:Nat)(l:List Value):Prop:=
 l.length=n*size∧∃(A:Option Addr) (cap:Nat),v= .slice A n cap∧n≤cap∧cap≤9223372036854775807∧(0<n→∃g,A=some ⟨g,0,none⟩∧F.S g∧Cs F.w g 0 l)
def FzB.addB {w:World}(F:FzB B M S0)(hF:F.toFrz.At w){g:Nat}(hg:Cb w g)(hb:M g∨B.heap.size≤g):FzB B M S0 where
 S k:=F.S k∨k=g
 w:=w
 c k hk:=by rcases hk with h|rfl;exact hF.cb h;exact hg
 base k hk h1 h2:=by
  rcases hk with h|rfl
  ·rw [hF k h,F.base k h h1 h2]
  ·rcases hb with h|h
   ·exact absurd h h2
   ·omega
 new k hk:=by
  rcases hk with h|rfl
  ·exact F.new k h
  ·exact .inr hb
theorem FzB.addB_le {w:World}(F:FzB B M S0)(hF:F.toFrz.At w){g:Nat}(hg:Cb w g)(hb:M g∨B.heap.size≤g):F.toFrz.Le (F.addB hF hg hb).toFrz:=fun k hk=>⟨.inl hk,hF k hk⟩
theorem zdV {i j : Nat} {a b a' : Ent} (hij : i ≠ j) (hi : hs[i]? = some a) (hj : hs[j]? = some b) : ∃ r : HS, hs.Perm ([a, b] ++ r) ∧ ((hs.set i a').eraseIdx j).Perm ([a'] ++ r) := by
  have h1 := zdj hi; (have hj' : (hs.set i a')[j]? = some b := by rw [List.getElem?_set_ne hij]; exact hj); have h2 := zdj hj'; have h3 := zdc (e' := a') hi
  -- b lies in the rest
  have hb : b ∈ hs.eraseIdx i := by
    rw [List.mem_eraseIdx_iff_getElem?]; exact ⟨j, fun e => hij e.symm, hj⟩
  obtain ⟨r1, r2, hr⟩ := List.append_of_mem hb; refine ⟨r1 ++ r2, ?_, ?_⟩
  · refine h1.trans ?_; rw [hr]; exact (List.perm_middle.cons a)
  · have h4 : (b :: (hs.set i a').eraseIdx j).Perm (b :: ([a'] ++ (r1 ++ r2))) := by
      refine h2.symm.trans (h3.symm.trans ?_); rw [hr]; exact (List.perm_middle.cons a').trans (List.Perm.swap _ _ _)
    exact (List.perm_cons b).1 h4
theorem Hp.freezeB {w : World} {i j : Nat} {F : FzB B M S0} {e : Ent} (hw : Hp B M hs w) (hij : i ≠ j) (hi : hs[i]? = some (.fr F)) (hj : hs[j]? = some e) {g : Nat} (hfp : e.fp g) (hg : Cb w g) :
    ∃ G : FzB B M S0, F.toFrz.Le G.toFrz ∧ G.S g ∧ G.w = w ∧ Hp B M ((hs.set i (.fr G)).eraseIdx j) w := by
  have hF := hw.fr hi; have hb := hw.new e (List.mem_of_getElem? hj) g hfp; refine ⟨F.addB hF hg hb, F.addB_le hF hg hb, .inr rfl, rfl, ?_⟩; obtain ⟨r, h1, h2⟩ := zdV (a' := .fr (F.addB hF hg hb)) hij hi hj; refine Hp.perm ?_ h2.symm; refine Hp.repl (hw.perm h1) ?_ ?_ (List.pairwise_singleton _ _)
  · intro x hx; simp at hx; subst hx; exact Ent.fr_ok.2 (fun k hk => rfl)
  · intro x hx k hk; simp at hx; subst hx; have h := Ent.fr_fp.1 hk; rcases h.1 with h3 | h3
    · exact ⟨_, by simp, Ent.fr_fp.2 ⟨h3, h.2⟩⟩
    · subst h3; exact ⟨e, by simp, hfp⟩
theorem Hp.drop {w:World}(hw:Hp B M hs w)(j:Nat):Hp B M (hs.eraseIdx j) w:=hw.sub (List.eraseIdx_sublist _ _)
theorem zgn {α:Type}{l:List α}{i:Nat}{a:α}(h:l[i]?=some a):l.set i a=l:=by
 obtain ⟨hi,rfl⟩:=List.getElem?_eq_some_iff.1 h;exact List.set_getElem_self hi
theorem Hp.freezeS {w : World} {i j : Nat} {F : FzB B M S0} {e : TypeId} {size k : Nat} {l : List Value} (hw : Hp B M hs w) (hij : i ≠ j) (hi : hs[i]? = some (.fr F)) (hj : hs[j]? = some (.sl v e size k l)) :
    ∃ G : FzB B M S0, (F.toFrz.Le G.toFrz ∧ SlK G.toFrz v size k l) ∧ Hp B M ((hs.set i (.fr G)).eraseIdx j) w := by
  have ho := Ent.sl_ok.1 (hw.get hj); rcases ho.2 with ⟨rfl, h0⟩ | ⟨g, cap, cur, rfl, hb, hg, hnc, hcm, hcs, htake⟩
  · subst h0; exact ⟨F, ⟨.refl _, ho.1, none, 0, rfl, Nat.le_refl _, by omega, fun h => by omega⟩, by rw [zgn hi]; exact hw.drop j⟩
  · obtain ⟨G, h1, h2, h3, h4⟩ := hw.freezeB hij hi hj (g := g) (Ent.sl_fp.2 rfl) ⟨_, _, _, hg⟩; refine ⟨G, ⟨h1, ho.1, _, cap, rfl, hnc, by unfold maxLen at hcm; omega, fun _ => ⟨g, rfl, h2, fun q hq => ?_⟩⟩, h4⟩; rw [h3, Nat.zero_add, World.ownsRow.cellAt ho q (by rw [← ho.1]; exact hq)]
theorem Hp.freezeR {w : World} {i j : Nat} {F : FzB B M S0} {e : TypeId} {g : Nat} {l : List Value} (hw : Hp B M hs w) (hij : i ≠ j) (hi : hs[i]? = some (.fr F)) (hj : hs[j]? = some (.row g e l)) :
    ∃ G : FzB B M S0, (F.toFrz.Le G.toFrz ∧ G.S g ∧ Cs G.w g 0 l) ∧ Hp B M ((hs.set i (.fr G)).eraseIdx j) w := by
  have ho := Ent.row_ok.1 (hw.get hj); obtain ⟨G, h1, h2, h3, h4⟩ := hw.freezeB hij hi hj (g := g) (Ent.row_fp.2 rfl) ⟨_, _, _, ho⟩; exact ⟨G, ⟨h1, h2, fun q hq => by rw [h3, Nat.zero_add, za1 ho]⟩, h4⟩
theorem SlK.lit {F:Frz}{g k c size:Nat}{l:List Value}(h:F.S g∧Cs F.w g 0 l)(hl:l.length=k*size)(hc:k≤c)(hm:c≤9223372036854775807):SlK F (.slice (some ⟨g,0,none⟩) k c) size k l:=⟨hl,_,c,rfl,hc,hm,fun _=>⟨g,rfl,h.1,h.2⟩⟩
theorem za0 {α β:Type}[Inhabited α][Inhabited β]{f:α→β}{xs:List α}{i:Nat}(h:i<xs.length):nth (xs.map f) i=f (nth xs i):=by
 rw [zat (by simpa using h),zat h,List.getElem_map]
theorem zdr {size:Nat}:∀(cs:List (List Value)),(∀c∈cs,c.length=size)→∀i,i<cs.length→∀j,j<size→(cs.flatten)[i*size+j]?=(nth cs i)[j]?
 |c :: r,h,0,_,j,hj=>by
  have:=h c (by simp);simp only [List.flatten_cons,Nat.zero_mul,Nat.zero_add];rw [List.getElem?_append_left (by omega)];rfl
 |c :: r,h,i+1,hi,j,hj=>by
  have hc:=h c (by simp);simp only [List.flatten_cons];rw [List.getElem?_append_right (by rw [hc,Nat.add_mul];omega),hc]; (have e:(i+1) *size+j - size=i*size+j:=by rw [Nat.add_mul];omega);rw [e,zdr r (fun c' h'=>h c' (by simp [h'])) i (by simpa using hi) j hj];simp [nth]
def OwnD {α:Type}[Inhabited α](rep:Frz→List Value→α→Prop)(F:Frz)(size:Nat)(cs:List (List Value))(xs:List α):Prop:=cs.length=xs.length∧(∀c∈cs,c.length=size)∧∀i,i<xs.length→rep F (nth cs i) (nth xs i)
def SlD {α:Type}[Inhabited α](rep:Frz→List Value→α→Prop)(F:Frz)(v:Value)(size:Nat)(cs:List (List Value))(xs:List α):Prop:=SlC F v size cs∧cs.length=xs.length∧∀i,i<xs.length→rep F (nth cs i) (nth xs i)
theorem SlD.mono {α:Type}[Inhabited α]{rep:Frz→List Value→α→Prop}(hm:∀F G c x,F.Le G→rep F c x→rep G c x){F G:Frz}{size:Nat}{cs:List (List Value)}{xs:List α}(h:SlD rep F v size cs xs)(hle:F.Le G):SlD rep G v size cs xs:=⟨h.1.mono hle,h.2.1,fun i hi=>hm _ _ _ _ hle (h.2.2 i hi)⟩
theorem OwnD.mono {α:Type}[Inhabited α]{rep:Frz→List Value→α→Prop}(hm:∀F G c x,F.Le G→rep F c x→rep G c x){F G:Frz}{size:Nat}{cs:List (List Value)}{xs:List α}(h:OwnD rep F size cs xs)(hle:F.Le G):OwnD rep G size cs xs:=⟨h.1,h.2.1,fun i hi=>hm _ _ _ _ hle (h.2.2 i hi)⟩
theorem OwnD.nil {α:Type}[Inhabited α](rep:Frz→List Value→α→Prop)(F:Frz)(size:Nat):OwnD rep F size [] []:=⟨rfl,(fun _ h=>by cases h),fun i hi=>absurd hi (Nat.not_lt_zero i)⟩
theorem zeh {α:Type}[Inhabited α]{xs ys:List α}{i:Nat}(h:i<xs.length):nth (xs++ys) i=nth xs i:=by
 rw [zat (by simp;omega),zat h,List.getElem_append_left h]
theorem zdS {α:Type}[Inhabited α]{xs:List α}{y:α}{i:Nat}(h:i=xs.length):nth (xs++[y]) i=y:=by
 subst h;simp [nth]
theorem OwnD.snoc {α:Type}[Inhabited α]{rep:Frz→List Value→α→Prop}{F:Frz}{size:Nat}{cs:List (List Value)}{xs:List α}{c:List Value}{x:α}(h:OwnD rep F size cs xs)(hc:rep F c x)(hl:c.length=size):OwnD rep F size (cs++[c]) (xs++[x]):=by
 refine ⟨by simp [h.1],fun d hd=>?_,fun i hi=>?_⟩
 ·rcases List.mem_append.1 hd with hd|hd
  ·exact h.2.1 d hd
  ·simp at hd;subst hd;exact hl
 ·simp at hi;rcases Nat.lt_or_ge i xs.length with h1|h1
  ·rw [zeh h1,zeh (by rw [h.1];exact h1)];exact h.2.2 i h1
  ·have h2:=h.1;rw [zdS (show i=cs.length by omega),zdS (show i=xs.length by omega)];exact hc
theorem SlK.toC {F:Frz}{size k:Nat}{l:List Value}{cs:List (List Value)}(h:SlK F v size k l)(hl:l=cs.flatten)(hk:k=cs.length)(hs:∀c∈cs,c.length=size):SlC F v size cs:=by
 obtain ⟨h1,A,cap,h2,h3,h4,h5⟩:=h;subst hk hl;refine ⟨A,cap,h2,h3,h4,hs,fun hp=>?_⟩;obtain ⟨g,hA,hg,hc⟩:=h5 hp;refine ⟨g,0,hA,hg,fun i hi j hj=>?_⟩; (have hrow:(nth cs i).length=size:=by rw [zat hi];exact hs _ (List.getElem_mem hi))
 have hlt:i*size+j<cs.flatten.length:=by
  rw [h1];have:(i+1) *size≤cs.length*size:=Nat.mul_le_mul_right _ hi;rw [Nat.add_mul] at this;omega
 have:=hc (i*size+j) hlt;rw [Nat.zero_add] at this ⊢;rw [this,zdr cs hs i hi j (by omega)]
theorem SlK.toF {α:Type}{F:Frz}{size k:Nat}{enc:α→List Value}{xs:List α}(h:SlK F v size k (xs.flatMap enc))(hk:k=xs.length)(he:∀x,(enc x).length=size):SlC F v size (xs.map enc):=
 h.toC (List.flatMap_def ..) (by simpa using hk) (fun c hc=>by obtain ⟨x,_,rfl⟩:=List.mem_map.1 hc;exact he x)
theorem SlK.toD {α:Type}[Inhabited α]{rep:Frz→List Value→α→Prop}{F:Frz}{size k:Nat}{cs:List (List Value)}{xs:List α}(h:SlK F v size k cs.flatten)(ho:OwnD rep F size cs xs)(hk:k=xs.length):SlD rep F v size cs xs:=
 ⟨h.toC rfl (by rw [ho.1];exact hk) ho.2.1,ho.1,ho.2.2⟩
theorem T.conv {c:Code}{hs':HS}(h1:∀w,Hp B M hs w→Hp B M hs' w)(h:T Fe P n B D M c Q fs hs'):T Fe P n B D M c Q fs hs:=⟨fun a w ha hw hm=>h.out a w ha (h1 w hw) hm⟩
theorem T.aX {ι:Type}{φ:ι→Prop}{c:Code}{hs':ι→HS}(h1:∀w,Hp B M hs w→∃x,φ x∧Hp B M (hs' x) w)(h:∀x,φ x→T Fe P n B D M c Q fs (hs' x)):T Fe P n B D M c Q fs hs:=⟨fun a w ha hw hm=>by
 obtain ⟨x,hx,hw'⟩:=h1 w hw;exact (h x hx).out a w ha hw' hm⟩
theorem TL.aX {ι:Type}{φ:ι→Prop}{l:List Oper}{hs':ι→HS}(h1:∀w,Hp B M hs w→∃x,φ x∧Hp B M (hs' x) w)(h:∀x,φ x→TL Fe P n B D M ops Q l fs (hs' x)):TL Fe P n B D M ops Q l fs hs:=⟨fun a w ha hw hm=>by
 obtain ⟨x,hx,hw'⟩:=h1 w hw;exact (h x hx).out a w ha hw' hm⟩
theorem K.aX {ι:Type}{φ:ι→Prop}{e:Exit}{hs':ι→HS}(h1:∀w,Hp B M hs w→∃x,φ x∧Hp B M (hs' x) w)(h:∀x,φ x→K n B D M Q e fs (hs' x)):K n B D M Q e fs hs:=⟨fun a w ha hw hm=>by
 obtain ⟨x,hx,hw'⟩:=h1 w hw;exact (h x hx).out a w ha hw' hm⟩
theorem TS.aX {ι:Type}{φ:ι→Prop}{hs0:HS}{r:Ord}{hs':ι→HS}(h1:∀w,Hp B M hs w→∃x,φ x∧Hp B M (hs' x) w)(h:∀x,φ x→TS Fe P n B D M ops Q hs0 r fs (hs' x)):TS Fe P n B D M ops Q hs0 r fs hs:=⟨fun a w fuel listed h2 h3 h4 ha hw h5 hm=>by
 obtain ⟨x,hx,hw'⟩:=h1 w hw;exact (h x hx).out a w fuel listed h2 h3 h4 ha hw' h5 hm⟩
theorem TSo.aD {hs0:HS}{i:Nat}{k:Ord}{d:Nat}{Φ:Value→HS→Prop}(hi:ops[i]?=some o)(hwt:Wt n ops fs o true)(hd:o.dst=some d)(hb:Nat.blt d n=true)(h:Ew P n B M fs hs o Φ)(h2:∀v hs',Φ v hs'→(∀w,Hp B M hs' w→Hp B M hs0 w)∧TS Fe P n B D M ops Q hs0 k ((d,v) :: fs) hs'):TSo Fe P n B D M ops Q hs0 i k fs hs:=
 ⟨fun a w fuel listed hns hnd hok ha hw hw0 hm=>by
  unfold wpOpIn;simp only [hi,hwt a ha,if_true];refine h Fe hFe Q _ a w ha hw fun v w' hs' hk hp' hΦ=>?_;rw [hd]
  exact ⟨(h2 v hs' hΦ).1 _ hp',(h2 v hs' hΦ).2.out _ w' fuel _ hns hnd hok (ha.put hb v) hp' ((h2 v hs' hΦ).1 _ hp') ((hm.next hk).put _ _)⟩⟩
theorem Fx.up {F:FzB B M S0}{w w':World}{G:Frz}(h:Fx F.toFrz w G w')(hw:Hp B M hs w):∃G':FzB B M S0,G'.toFrz=G:=by
 refine ⟨⟨G,fun g hg hb hM=>?_,fun g hg=>?_⟩,rfl⟩
 ·rcases h.new g hg with h1|h1
  ·rw [(h.le g h1).2,F.base g h1 hb hM]
  ·have:=hw.size;omega
 ·rcases h.new g hg with h1|h1
  ·exact F.new g h1
  ·have:=hw.size;exact .inr (.inr (by omega))
theorem Ew.aS (i : Nat) {ι : Type} {F : FzB B M S0} {φ : ι → Frz → Prop} {val : ι → Value} {hs' : FzB B M S0 → HS} {c : Operand} {xs : Array Operand} {ts : Array TypeId} {f : FuncId} {fst caps : Array Value} {vs : List Value} [hE : Enters P f] (ho : o.op = .call { callee := .value c, args := xs, argTypes := ts }) (hc : ev fs c = some (.func (.func f) fst caps)) (hv : evs fs xs.toList = some vs) (hi : hs[i]? = some (.fr F))
    (C : ∀ w, Hp B M hs w → F.toFrz.At w → Calls P f (fst.toList ++ vs ++ caps.toList).toArray w (fun e w' => ∃ y G, φ y G ∧ e = .returned (val y) ∧ Fx F.toFrz w G w')) [hH : ∀ G, SetAt hs i (.fr G) (hs' G)] : Ew P n B M fs hs o (fun v hs'' => ∃ y, ∃ G : FzB B M S0, F.toFrz.Le G.toFrz ∧ φ y G.toFrz ∧ v = val y ∧ hs'' = hs' G) :=
  Ew.call ho hc hv fun w hp => (C w hp (hp.fr hi)).mono fun e w' ⟨y, G, hy, he, hx⟩ => by
    obtain ⟨G', rfl⟩ := hx.up hp; refine ⟨val y, hs' G', he, Kp.below hx.bel, ?_, y, G', hx.le, hy, rfl, rfl⟩; rw [← (hH G').h]; refine hp.updAt hi (S := fun _ => False) (.of_below_new hx.bel _) (fun _ _ h => h.elim) (Ent.fr_ok.2 (fun g hg => hx.at_ g hg.1)) (fun g hg => ?_); have h := Ent.fr_fp.1 hg; rcases hx.new g h.1 with h1 | h1
    · exact .inl (Ent.fr_fp.2 ⟨h1, h.2⟩)
    · exact .inr h1
end
def zai {σ ρ:Type}(f:Nat→(σ→ρ)→σ→ρ)(k:σ→ρ):Nat→Nat→σ→ρ
 |0,_,s=>k s
 |m+1,i,s=>f i (zai f k m (i+1)) s
def zfC {σ ρ:Type}(f:Nat→(σ→ρ)→σ→ρ)(k:σ→ρ):Nat→σ→ρ
 |0,s=>k s
 |m+1,s=>f m (zfC f k m) s
def zbd {σ ρ:Type}(f:(σ→Option ρ)→σ→Option ρ):Nat→σ→Option ρ
 |0,_=>none
 |m+1,s=>f (zbd f m) s
def zax {σ ρ:Type}(k:σ→ρ)(e:(σ→ρ)→ρ):ρ:=e k
def grd {ρ:Type}(c:Prop)[Decidable c](x:Option ρ):Option ρ:=if c then x else none
section
variable {σ ρ:Type}
theorem zar {f:Nat→(σ→ρ)→σ→ρ}{k:σ→ρ}{n i:Nat}{s:σ}(h:i<n):zai f k (n - i) i s=f i (zai f k (n - (i+1)) (i+1)) s:=by
 rw [show n - i=(n - (i+1))+1 by omega];rfl
theorem zas {f:Nat→(σ→ρ)→σ→ρ}{k:σ→ρ}{n i:Nat}{s:σ}(h:n≤i):zai f k (n - i) i s=k s:=by
 rw [show n - i=0 by omega];rfl
theorem zaj {f:Nat→(σ→ρ)→σ→ρ}{k:σ→ρ}{m i:Nat}{s:σ}{R:ρ}(h:zai f k m i s=R):∃f' k',f=f'∧k=k'∧zai f' k' m i s=R:=⟨f,k,rfl,rfl,h⟩
theorem zjl {f:Nat→(σ→ρ)→σ→ρ}{k:σ→ρ}{m:Nat}{s:σ}{R:ρ}(h:zfC f k m s=R):∃f' k',f=f'∧k=k'∧zfC f' k' m s=R:=⟨f,k,rfl,rfl,h⟩
theorem zb3 {f:(σ→Option ρ)→σ→Option ρ}{m:Nat}{s:σ}{R:Option ρ}(h:zbd f m s=R):∃f',f=f'∧zbd f' m s=R:=⟨f,rfl,h⟩
theorem zae {k:σ→ρ}{e:(σ→ρ)→ρ}{R:ρ}(h:zax k e=R):∃k',k=k'∧e k'=R:=⟨k,rfl,h⟩
theorem zco {f:(σ→Option ρ)→σ→Option ρ}{m:Nat}{s:σ}{r:ρ}(h:zbd f m s=some r):∃m',m=m'+1∧f (zbd f m') s=some r:=by
 cases m with
 |zero=>cases h
 |succ m=>exact ⟨m,rfl,h⟩
theorem zaE {c:Prop}[Decidable c]{x:Option ρ}{r:ρ}(h:grd c x=some r):c∧x=some r:=by
 unfold grd at h;split at h
 ·exact ⟨by assumption,h⟩
 ·cases h
theorem zaX {c:Prop}[Decidable c]{x:Option ρ}(h:c):grd c x=x:=by unfold grd;rw [if_pos h]
theorem zal {α:Type}{x:Option α}{f:α→Option ρ}{r:ρ}(h:x.bind f=some r):∃a,x=some a∧f a=some r:=by
 cases x with
 |none=>cases h
 |some a=>exact ⟨a,rfl,h⟩
theorem zaU {f:Nat→(σ→ρ)→σ→ρ}{k:σ→ρ}{n:Nat}{s:σ}(I:Nat→σ→Prop)(post:ρ→Prop)(h0:I 0 s)(hk:∀s,I n s→post (k s))(hf:∀i s next,i<n→I i s→(∀s',I (i+1) s'→post (next s'))→post (f i next s)):post (zai f k n 0 s):=by
 have key:∀m i s,i+m=n→I i s→post (zai f k m i s):=by
  intro m
  induction m with
  |zero=>intro i s e hI;rw [show i=n by omega] at hI;exact hk s hI
  |succ m ih=>intro i s e hI;exact hf i s _ (by omega) hI (fun s' hs'=>ih (i+1) s' (by omega) hs')
 exact key n 0 s (by omega) h0
theorem zkd {f:Nat→(σ→ρ)→σ→ρ}{k:σ→ρ}{n:Nat}{s:σ}(I:Nat→σ→Prop)(post:ρ→Prop)(h0:I n s)(hk:∀s,I 0 s→post (k s))(hf:∀i s next,i<n→I (i+1) s→(∀s',I i s'→post (next s'))→post (f i next s)):post (zfC f k n s):=by
 have key:∀m s,m≤n→I m s→post (zfC f k m s):=by
  intro m
  induction m with
  |zero=>intro s _ hI;exact hk s hI
  |succ m ih=>intro s e hI;exact hf m s _ (by omega) hI (fun s' hs'=>ih s' (by omega) hs')
 exact key n s (Nat.le_refl _) h0
theorem zck {f:(σ→Option ρ)→σ→Option ρ}{m:Nat}{s:σ}(I:σ→Prop)(μ:σ→Nat)(post:Option ρ→Prop)(h0:I s)(hm:μ s<m)(hf:∀s next,I s→(∀s',I s'→μ s'<μ s→post (next s'))→post (f next s)):post (zbd f m s):=by
 induction m generalizing s with
 |zero=>omega
 |succ m ih=>exact hf s _ h0 (fun s' hs' hl=>ih hs' (by omega))
end
section
variable {Fe:Fence}[hFe:Calm Fe]{P:Program}{n:Nat}{B D:World}{M:Nat→Prop}{Q:Exit→Act→World→Prop}{fs:SFs}{hs:HS}{ops:Array Oper}{rest:List Oper}{o:Oper}{v val sv:Value}
theorem Hp.slAddr {w:World}{j k size:Nat}{e:TypeId}{l:List Value}(hw:Hp B M hs w)(hj:hs[j]?=some (.sl v e size k l))(hk:0<k):∃g cap,v= .slice (some ⟨g,0,none⟩) k cap:=by
 rcases (Ent.sl_ok.1 (hw.get hj)).2 with ⟨_,h0⟩|⟨g,cap,_,e,_⟩
 ·omega
 ·exact ⟨g,cap,e⟩
theorem Yv.bZ (j:Nat){t e k i m:Nat}{z:Int}{q:IntKind}{l:List Value}{x y:Operand}{e':TypeId}[hT:TySl P t e k](ho:o.op= .indexAddr t x y)(hx:ev fs x=some sv)(hy:ev fs y=some (.int q z))(hj:hs[j]?=some (.sl sv e' k m l))(hz:z=(i:Int))(hi:i<m):Yv P n B M fs hs o (zes sv (i*k)):=fun a w ha hw=>by
 obtain ⟨g,cap,rfl⟩:=hw.slAddr hj (by omega);rw [zb4];exact Yv.ai (B:=B) (M:=M) (hs:=hs) ho hx hy hz hi a w ha hw
theorem Yv.cq (j:Nat){s f off p k m:Nat}{l:List Value}{x:Operand}{e':TypeId}[hT:TyF P s f off](ho:o.op= .fieldAddr s x f)(hx:ev fs x=some (zes sv p))(hj:hs[j]?=some (.sl sv e' k m l))(hi:0<m):Yv P n B M fs hs o (zes sv (p+off)):=fun a w ha hw=>by
 obtain ⟨g,cap,rfl⟩:=hw.slAddr hj hi;rw [zb4] at hx ⊢;exact (Yv.fieldAddr (B:=B) (M:=M) (hs:=hs) ho hx).eq (by rw [Nat.add_assoc]) a w ha hw
theorem Yv.ck (j:Nat){t e:TypeId}[hT:TyS P t]{p size k:Nat}{l:List Value}{x:Operand}(ho:o.op= .load t x)(hx:ev fs x=some (zes sv p))(hj:hs[j]?=some (.sl sv e size k l))(hk:0<k)(hv:l[p]?=some val):Yv P n B M fs hs o val:=fun a w ha hw=>by
 obtain ⟨g,cap,rfl⟩:=hw.slAddr hj hk;rw [zb4,Nat.zero_add] at hx;exact Yv.aR (B:=B) (M:=M) (hs:=hs) j ho hx hj hv a w ha hw
theorem Ew.ca (j : Nat) {t e : TypeId} [hT : TyS P t] {x y : Operand} {p k size : Nat} {l l' : List Value} {hs' : HS} [hv : OneC val] (ho : o.op = .store t x y) (hx : ev fs x = some (zes sv p)) (hy : ev fs y = some val)
    (hj : hs[j]? = some (.sl sv e size k l)) (hk : 0 < k) (hp : p < l.length) (hl : l.set p val = l') [hH : SetAt hs j (.sl sv e size k l') hs'] : Ew P n B M fs hs o (fun v hs'' => v = undef ∧ hs'' = hs') := fun F hF Q K a w ha hw => by
  obtain ⟨g, cap, rfl⟩ := hw.slAddr hj hk; rw [zb4, Nat.zero_add] at hx; subst hl; exact Ew.bS (B := B) (M := M) (hs := hs) j ho hx hy hj hp F hF Q K a w ha hw
theorem Ew.bw (i : Nat) {s x : Operand} {t e : TypeId} {size bytes m c k k' g off : Nat} {z l news l' : List Value} {hs' : Value → HS} [hT : TyE P t e size bytes z] (h1 : ∀ v ∈ news, v.oneCell' = true) (ho : o.op = .call { callee := .builtin .append, args := #[s, x], argTypes := #[t, t] })
    (hs1 : ev fs s = some sv) (hx : ev fs x = some (.slice (some ⟨g, off, none⟩) m c)) (hi : hs[i]? = some (.sl sv e size k l)) (hj : ∀ w, Hp B M hs w → Cs w g off news) (hl : news.length = m * size) (hk : k + m = k') (hl' : l ++ news = l') (hb : k' * bytes ≤ 140737488355328) (hbs : 0 < bytes)
    [hH : ∀ v', SetAt hs i (.sl v' e size k' l') (hs' v')] : Ew P n B M fs hs o (fun v hs'' => OneC v ∧ hs'' = hs' v) := Ew.aW fun a w ha hp => by
  obtain ⟨inf, zv, hU, hinf, hz, hzc, rfl, rfl, hzs, hpos⟩ := hT.get; subst hk hl'; have hkm : k + m ≤ 140737488355328 := Nat.le_trans (Nat.le_mul_of_pos_right _ hbs) hb
  have hnews : ∀ q u, news[q]? = some u → w.cell? ((⟨g, off, none⟩ : Addr).add q) = some u := by
    intro q u hq; rw [zc0]; exact (hj w hp q (List.getElem?_eq_some_iff.1 hq).1).trans hq
  obtain ⟨v', w', hr, hown, hgr, _, hat⟩ := run_append_own_at (P := P) w 0 t o.type e inf zv inf.size inf.bytes hU hinf hz rfl rfl hzs hpos sv k l (Ent.sl_ok.1 (hp.get hi)) ⟨g, off, none⟩ m c news hl hnews h1 (by unfold maxLen; omega) hb (Nat.zero_le _); refine ⟨v', w', hs' v', ?_, ?_, ?_, ?_, rfl⟩
  · unfold execOp; simp [ho, resolve, invoke, builtin, ha.ev hs1, ha.ev hx, hr]
  · exact Kp.only (zcK hgr) (fun g hg c => (Ent.sl sv e inf.size k l).nd (hp.get hi) g (Ent.sl_fp.2 hg) c)
  · rw [← (hH v').h]; refine hp.updAt hi (zcK hgr) (fun q _ hq => Ent.sl_fp.2 hq) (Ent.sl_ok.2 hown) (fun q hq => ?_); have := Ent.sl_fp.1 hq; rcases hat with h | h
    · exact .inl (Ent.sl_fp.2 (by rw [← h]; exact this))
    · rw [h] at this; simp at this; exact .inr (by omega)
  · rcases hown.2 with ⟨rfl, _⟩ | ⟨_, _, _, rfl, _⟩ <;> exact ⟨rfl⟩
theorem Ew.aQ (i j : Nat) {s x : Operand} {t e u : TypeId} {size bytes m c k k' g : Nat} {z l news l' : List Value} {hs' : Value → HS} [hT : TyE P t e size bytes z] [h1 : OneCs news] (ho : o.op = .call { callee := .builtin .append, args := #[s, x], argTypes := #[t, t] })
    (hs1 : ev fs s = some sv) (hx : ev fs x = some (.slice (some ⟨g, 0, none⟩) m c)) (hi : hs[i]? = some (.sl sv e size k l)) (hj : hs[j]? = some (.row g u news)) (hl : news.length = m * size) (hk : k + m = k') (hl' : l ++ news = l') (hb : k' * bytes ≤ 140737488355328) (hbs : 0 < bytes)
    [hH : ∀ v', SetAt hs i (.sl v' e size k' l') (hs' v')] : Ew P n B M fs hs o (fun v hs'' => OneC v ∧ hs'' = hs' v) :=
  Ew.bw i h1.h ho hs1 hx hi (fun w hw => Cs.of_row (Ent.row_ok.1 (hw.get hj)) (by simp)) hl hk hl' hb hbs
end
abbrev eI (x:Int):List Value:=[.int .i64 x]
abbrev wI (x:Int):Int:=IntKind.i64.wrap x
abbrev room (n bytes:Nat):Prop:=n*bytes≤140737488355328
theorem zab {ρ:Type}{b:Bool}{x y R:ρ}(h:(bif b then x else y)=R)(hb:b=true):x=R:=by subst hb;exact h
theorem zaa {ρ:Type}{b:Bool}{x y R:ρ}(h:(bif b then x else y)=R)(hb:b=false):y=R:=by subst hb;exact h
theorem SlC.oneC {F:Frz}{v:Value}{size:Nat}{cs:List (List Value)}(h:SlC F v size cs):OneC v:=by
 obtain ⟨A,cap,rfl,_⟩:=h;exact ⟨rfl⟩
theorem SlD.nil {α:Type}[Inhabited α](rep:Frz→List Value→α→Prop)(F:Frz)(size:Nat):SlD rep F (.slice none 0 0) size [] []:=⟨SlC.nil F size,rfl,fun i hi=>absurd hi (Nat.not_lt_zero i)⟩
theorem ziz {α:Type}{enc:α→List Value}{xs ys:List α}:xs.flatMap enc++ys.flatMap enc=(xs++ys).flatMap enc:=(List.flatMap_append ..).symm
theorem zbI {cs ds:List (List Value)}:cs.flatten++ds.flatten=(cs++ds).flatten:=(List.flatten_append ..).symm
theorem zfK {α:Type}{enc:α→List Value}{xs ys:List α}:xs.flatMap enc++(ys.map enc).flatten=(xs++ys).flatMap enc:=by
 rw [List.flatMap_append,←List.flatMap_def]
theorem zgv {α β:Type}{f:α→β}{xs ys:List α}:xs.length+(ys.map f).length=(xs++ys).length:=by simp
theorem zfw {α:Type}{enc:α→List Value}{xs:List α}(h:∀x,OneCs (enc x)):∀c∈xs.map enc,∀v∈c,v.oneCell'=true:=fun c hc=>by
 obtain ⟨x,_,rfl⟩:=List.mem_map.1 hc;exact (h x).h
def zeZ (hs:HS):List Nat→Option HS
 | []=>some []
 |i :: r=>match hs[i]? with
  |some e=>match zeZ hs r with
   |some l=>some (e :: l)
   |none=>none
  |none=>none
section
variable {B w:World}{M:Nat→Prop}{hs hs':HS}
theorem zec:∀ {idx:List Nat} {hs':HS},zeZ hs idx=some hs'→∀e∈hs',∃i∈idx,hs[i]?=some e
 | [],hs',h,e,he=>by simp only [zeZ] at h;cases h;cases he
 |i :: r,hs',h,e,he=>by
  simp only [zeZ] at h
  split at h
  ·rename_i x hx
   split at h
   ·rename_i l hl
    cases h
    rcases List.mem_cons.1 he with rfl|he
    ·exact ⟨i,by simp,hx⟩
    ·obtain ⟨j,hj,hje⟩:=zec hl e he;exact ⟨j,by simp [hj],hje⟩
   ·cases h
  ·cases h
theorem Hp.two (hw:Hp B M hs w){i j:Nat}{e f:Ent}(hij:i≠j)(hi:hs[i]?=some e)(hj:hs[j]?=some f)(g:Nat)(he:e.fp g):¬f.fp g:=by
 obtain ⟨hi',rfl⟩:=List.getElem?_eq_some_iff.1 hi;obtain ⟨hj',rfl⟩:=List.getElem?_eq_some_iff.1 hj;have h:=List.pairwise_iff_getElem.1 hw.apart;rcases Nat.lt_or_ge i j with h1|h1
 ·exact h i j hi' hj' h1 g he
 ·exact fun hf=>h j i hj' hi' (by omega) g hf he
theorem zfB (hw:Hp B M hs w):∀ {idx:List Nat} {hs':HS},zeZ hs idx=some hs'→idx.Nodup→hs'.Pairwise fun e f=>∀g,e.fp g→¬f.fp g
 | [],hs',h,_=>by simp only [zeZ] at h;cases h;exact .nil
 |i :: r,hs',h,hn=>by
  simp only [zeZ] at h
  split at h
  ·rename_i x hx
   split at h
   ·rename_i l hl
    cases h
    rw [List.nodup_cons] at hn;refine List.Pairwise.cons (fun f hf g hg=>?_) (zfB hw hl hn.2);obtain ⟨j,hj,hje⟩:=zec hl f hf;exact hw.two (i:=i) (j:=j) (fun e=>hn.1 (by rw [e];exact hj)) hx hje g hg
   ·cases h
  ·cases h
theorem Hp.pick {idx:List Nat}(hw:Hp B M hs w)(h:zeZ hs idx=some hs')(hn:idx.Nodup):Hp B M hs' w:=
 ⟨hw.os,hw.tape,hw.output,hw.size,hw.base,fun e he=>by obtain ⟨i,_,hi⟩:=zec h e he;exact hw.get hi,fun e he=>by
  obtain ⟨i,_,hi⟩:=zec h e he;exact hw.new e (List.mem_of_getElem? hi),zfB hw h hn⟩
end
section
variable {Fe:Fence}[hFe:Calm Fe]{P:Program}{n:Nat}{B D:World}{M S0:Nat→Prop}{Q:Exit→Act→World→Prop}{fs:SFs}{hs:HS}{ops:Array Oper}{rest:List Oper}{o:Oper}{v val sv:Value}
theorem T.pick (idx:List Nat){c:Code}{hs':HS}(h:zeZ hs idx=some hs')(hn:idx.Nodup)(k:T Fe P n B D M c Q fs hs'):T Fe P n B D M c Q fs hs:=⟨fun a w ha hw hm=>k.out a w ha (hw.pick h hn) hm⟩
theorem K.pick (idx:List Nat){e:Exit}{hs':HS}(h:zeZ hs idx=some hs')(hn:idx.Nodup)(k:K n B D M Q e fs hs'):K n B D M Q e fs hs:=⟨fun a w ha hw hm=>k.out a w ha (hw.pick h hn) hm⟩
theorem T.al {ι:Type}{x y:Code}(G:ι→SFs)(H:ι→HS)(φ:ι→Prop)(h:T Fe P n B D M x (Exit.then (fun a w=>∃i,φ i∧At n B D M (G i) (H i) a w) Q) fs hs)(k:∀i,φ i→T Fe P n B D M y Q (G i) (H i)):T Fe P n B D M x (Exit.then (y.wpIn Fe 0 P Q) Q) fs hs:=
 ⟨fun a w ha hw hm=>wpIn_mono (h.out a w ha hw hm) fun e a w hq=>by
  cases e <;> first|(obtain ⟨i,hi,h1,h2,h3⟩:=hq;exact (k i hi).out a w h1 h2 h3)|exact hq⟩
theorem TSo.br {hs0:HS}{i:Nat}{k:Ord}{d:Nat}(hi:ops[i]?=some o)(hwt:Wt n ops fs o true)(hd:o.dst=some d)(hb:Nat.blt d n=true)(hy:Yv P n B M fs hs o v)(h2:∀w,Hp B M hs w→Hp B M hs0 w)(h:TS Fe P n B D M ops Q hs0 k ((d,v) :: fs) hs):TSo Fe P n B D M ops Q hs0 i k fs hs:=
 TSo.aD hi hwt hd hb (Ew.yv hy) (by rintro _ _ ⟨rfl,rfl⟩;exact ⟨h2,h⟩)
theorem TSo.aY {hs0:HS}{i:Nat}{k:Ord}{Φ:Value→HS→Prop}(hi:ops[i]?=some o)(hwt:Wt n ops fs o true)(hd:o.dst=none)(h:Ew P n B M fs hs o Φ)(h2:∀v hs',Φ v hs'→(∀w,Hp B M hs' w→Hp B M hs0 w)∧TS Fe P n B D M ops Q hs0 k fs hs'):TSo Fe P n B D M ops Q hs0 i k fs hs:=
 ⟨fun a w fuel listed hns hnd hok ha hw hw0 hm=>by
  unfold wpOpIn;simp only [hi,hwt a ha,if_true];refine h Fe hFe Q _ a w ha hw fun v w' hs' hk hp' hΦ=>?_;rw [hd]
  exact ⟨(h2 v hs' hΦ).1 _ hp',(h2 v hs' hΦ).2.out _ w' fuel _ hns hnd hok (ha.put_none v) hp' ((h2 v hs' hΦ).1 _ hp') ((hm.next hk).put _ _)⟩⟩
theorem TS.slNil {hs0:HS}{r:Ord}(e:TypeId)(size:Nat)(h:TS Fe P n B D M ops Q hs0 r fs (.sl (.slice none 0 0) e size 0 [] :: hs)):TS Fe P n B D M ops Q hs0 r fs hs:=⟨fun a w fuel listed h2 h3 h4 ha hw h5 hm=>h.out a w fuel listed h2 h3 h4 ha (hw.slNil e size) h5 hm⟩
theorem TSo.slNil {hs0:HS}{i:Nat}{r:Ord}(e:TypeId)(size:Nat)(h:TSo Fe P n B D M ops Q hs0 i r fs (.sl (.slice none 0 0) e size 0 [] :: hs)):TSo Fe P n B D M ops Q hs0 i r fs hs:=⟨fun a w fuel listed h2 h3 h4 ha hw h5 hm=>h.out a w fuel listed h2 h3 h4 ha (hw.slNil e size) h5 hm⟩
theorem Yv.az (ix:Nat){F:FzB B M S0}{α:Type}[Inhabited α]{enc:α→List Value}{t:TypeId}[hT:TyS P t]{k i j p:Nat}{xs:List α}{x:Operand}(ho:o.op= .load t x)(hx:ev fs x=some (zes v p))(hF:hs[ix]?=some (.fr F))(h:SlC F.toFrz v k (xs.map enc))(hi:i<xs.length)(hp:p=i*k+j)(hv:(enc (nth xs i))[j]?=some val):Yv P n B M fs hs o val:=
 Yv.loadR ix (i:=i) (j:=j) ho hx hF h (List.length_map _) hi hp (by rw [za0 hi];exact hv)
theorem Yv.aI (ix:Nat){F:FzB B M S0}{α:Type}[Inhabited α]{enc:α→List Value}{t:TypeId}{q:Nat}[hT:TyA P t q]{k i p:Nat}{xs:List α}{x:Operand}{l:List Value}(ho:o.op= .load t x)(hx:ev fs x=some (zes v p))(hF:hs[ix]?=some (.fr F))(h:SlC F.toFrz v k (xs.map enc))(hi:i<xs.length)(hp:p=i*k)(hv:(enc (nth xs i))=l)(hl:l.length=q):Yv P n B M fs hs o (.agg l.toArray):=
 Yv.bD ix (i:=i) (j:=0) ho hx hF h (List.length_map _) hi hp (by rw [za0 hi,hv,List.drop_zero,List.take_of_length_le (by omega)]) hl
theorem zdt {t e ty:TypeId}{k:Nat}{w:World}[hT:TySl P t e k]{b:Option Addr}{m c:Nat}{A:Option Addr}{c2:Nat}(hc:m≤c):(Builtin.append_ #[t,t] ty #[.slice b m c, .slice A 0 c2]).run P w= .ok (.slice b m c) w:=by
 have h:=hT.h;unfold zeC at h
 split at h
 ·rename_i el hU
  cases hi':P.info? el with
  |none=>rw [hi'] at h;cases h
  |some inf=>
   rw [hi'] at h
   cases h
   unfold Builtin.append_
   cases A <;> cases b <;> simp [underlying,hU,sizeOf,typeInfo,hi',Builtin.lenOf,hc,Builtin.firstCells,loadCells,loadCellsFrom,storeCells]
 ·cases h
theorem Cs.flat {w:World}{g off size:Nat}{cs:List (List Value)}(hp:0<size)(hr:∀c∈cs,c.length=size)(h:∀i,i<cs.length→Cs w g (off+i*size) (nth cs i)):Cs w g off cs.flatten:=fun q hq=>by
 have hl:cs.flatten.length=cs.length*size:=by
  clear h hq
  induction cs with
  |nil=>simp
  |cons c r ih=>rw [List.flatten_cons,List.length_append,ih (fun c' h'=>hr c' (by simp [h'])),hr c (by simp),List.length_cons,Nat.add_mul];omega
 (have hi:q / size<cs.length:=by rw [Nat.div_lt_iff_lt_mul hp];omega);have hj:q % size<size:=Nat.mod_lt _ hp; (have e:q / size*size+q % size=q:=by rw [Nat.mul_comm];exact Nat.div_add_mod q size); (have hrow:(nth cs (q / size)).length=size:=by rw [zat hi];exact hr _ (List.getElem_mem hi));have h1:=h (q / size) hi (q % size) (by omega);have h2:=zdr cs hr (q / size) hi (q % size) hj;rw [e] at h2;rw [h2,←h1]
 congr 2
 omega
theorem Ew.bj (i ix : Nat) {F : FzB B M S0} {s x : Operand} {t e : TypeId} {size bytes k k' : Nat} {z l l' : List Value} {cs : List (List Value)} {hs' : Value → HS} [hT : TyE P t e size bytes z] [hT2 : TySl P t e size] (h1 : ∀ c ∈ cs, ∀ v ∈ c, v.oneCell' = true) (ho : o.op = .call { callee := .builtin .append, args := #[s, x], argTypes := #[t, t] })
    (hs1 : ev fs s = some sv) (hx : ev fs x = some v) (hi : hs[i]? = some (.sl sv e size k l)) (hF : hs[ix]? = some (.fr F)) (h : SlC F.toFrz v size cs) (hk : k + cs.length = k') (hl' : l ++ cs.flatten = l') (hb : k' * bytes ≤ 140737488355328) (hbs : 0 < bytes)
    [hH : ∀ v', SetAt hs i (.sl v' e size k' l') (hs' v')] : Ew P n B M fs hs o (fun v hs'' => OneC v ∧ hs'' = hs' v) := by
  obtain ⟨inf, zv, hU, hinf, hz, hzc, h6, h7, hzs, hpos⟩ := hT.get; rcases Nat.eq_zero_or_pos cs.length with h0 | h0
  · obtain rfl := List.eq_nil_of_length_eq_zero h0; obtain ⟨A, cap, hv, _⟩ := h; subst hk; simp at hl' hv; subst hl' hv; refine Ew.aW fun a w ha hp => ?_; have ho' := Ent.sl_ok.1 (hp.get hi)
    obtain ⟨b, c, rfl, hc⟩ : ∃ b c, sv = .slice b k c ∧ k ≤ c := by
      rcases ho'.2 with ⟨rfl, h0⟩ | ⟨g, cap, cur, rfl, hb, hg, hnc, _⟩
      · exact ⟨none, 0, by rw [h0], by omega⟩
      · exact ⟨_, cap, rfl, hnc⟩
    refine ⟨.slice b k c, w, hs' (.slice b k c), ?_, Kp.refl w, ?_, ⟨rfl⟩, rfl⟩
    · unfold execOp; simp [ho, resolve, invoke, builtin, ha.ev hs1, ha.ev hx, zdt (P := P) (t := t) hc]
    · rw [← (hH _).h]; simp only [List.length_nil, Nat.add_zero]; rw [zgn hi]; exact hp
  · obtain ⟨g, off, cap, rfl, hg, hc⟩ := h.addr h0; (have hr : ∀ c ∈ cs, c.length = size := by obtain ⟨_, _, _, _, _, h4, _⟩ := h; exact h4); refine Ew.bw i (news := cs.flatten) (fun v hv => ?_) ho hs1 hx hi (fun w hw => Cs.flat (by omega) hr (fun i hi => Cs.at (hw.fr hF) hg (hc i hi))) ?_ hk hl' hb hbs
    · obtain ⟨c, hc', hv'⟩ := List.mem_flatten.1 hv; exact h1 c hc' v hv'
    · clear hc hl' hx hk h1 h0 h
      induction cs with
      | nil => simp
      | cons c r ih => rw [List.flatten_cons, List.length_append, ih (fun c' h' => hr c' (by simp [h'])), hr c (by simp), List.length_cons, Nat.add_mul]; omega
theorem K.bq {fn:Func}{R:Ending→World→Prop}{t u s:Nat}{v x y:Value}(hr:fn.results= #[.tmp t, .tmp u, .tmp s])(hv:look fs t=some v)(hx:look fs u=some x)(hy:look fs s=some y)(h:∀w,Hp B M hs w→R (.returned (.tuple #[v,x,y])) w):K n B D M (zdA P fn R) .ret fs hs:=
 (K.bg (fun a w ha _=>by rw [results_tmp3 hr];simp only [Array.getD_eq_getD_getElem?,ha.get t v hv,ha.get u x hx,ha.get s y hy];rfl) h).1
end
theorem zce {α:Type}{xs ys:List α}{m:Nat}(h:ys.length=m):xs.length+m=(xs++ys).length:=by rw [List.length_append,h]
theorem zcq {P:Program}{d:Nat}{t:TypeId}{k k':IntKind}{a b:Int}{w:World}(hU:P.underlying t=some (.int k')):(Op.equalIn (d+1) t (.int k a) (.int k b)).run P w= .ok (decide (a=b)) w:=by
 rw [Op.equalIn];simp [underlying,hU]
 rfl
def fInt (P : Program) (f : Field) (j : Nat) : Bool := (!(f.name == "_")) && (f.offset == j) && (zho P f.type == some (false, 1)) && (match P.underlying f.type with | some (.int _) => true | _ => false)
theorem ziC {P : Program} {f : Field} {j : Nat} (h : fInt P f j = true) : f.name ≠ "_" ∧ f.offset = j ∧ (∀ w, (isAgg f.type).run P w = .ok false w) ∧ ∃ k, P.underlying f.type = some (.int k) := by
  unfold fInt at h; simp only [Bool.and_eq_true, Bool.not_eq_true', beq_eq_false_iff_ne, beq_iff_eq] at h; refine ⟨h.1.1.1, h.1.1.2, fun w => (zcC h.1.2 w).1, ?_⟩; have := h.2
  split at this
  · exact ⟨_, by assumption⟩
  · cases this
def zfr (P:Program)(t:TypeId):Bool:=match P.underlying t with
 |some (.struct fs)=>match fs.toList with
  | [f0,f1]=>(fInt P f0 0&&fInt P f1 1)&&(!P.stoodInHeld t&& !P.eqGuardType P.depth t)
  |_=>false
 |_=>false
theorem zlt {P:Program}{t:TypeId}(h:zfr P t=true)(a0 a1 b0 b1:Int)(w:World):(Op.equal t (.agg [.int .i64 a0, .int .i64 a1].toArray) (.agg [.int .i64 b0, .int .i64 b1].toArray)).run P w= .ok (decide (a0=b0)&&decide (a1=b1)) w:=by
 unfold zfr at h
 split at h
 ·rename_i fs hU
  split at h
  ·rename_i f0 f1 hl;simp only [Bool.and_eq_true,Bool.not_eq_true'] at h;obtain ⟨⟨h0,h1⟩,hs,_⟩:=h; (obtain rfl:fs= #[f0,f1]:=by apply Array.ext';simpa using hl);obtain ⟨n0,o0,g0,k0,u0⟩:=ziC h0;obtain ⟨n1,o1,g1,k1,u1⟩:=ziC h1;unfold Op.equal;rw [show Op.maxDepth=(9998+1)+1 from rfl,Op.equalIn];simp only [underlying,Sem.run_bind,run_program,Result.andThen_ok,hU,Sem.run_pure,hs,Bool.false_eq_true,if_false];by_cases e0:a0=b0
   case neg=>simp [part,n0,o0,g0,zcq u0,n1,o1,g1,zcq u1,e0]
   case pos=>
    by_cases e1:a1=b1
    case neg=>simp [part,n0,o0,g0,zcq u0,n1,o1,g1,zcq u1,e0,e1]
    simp [part,n0,o0,g0,zcq u0,n1,o1,g1,zcq u1,e0,e1]
  ·cases h
 ·cases h
theorem zlh {P:Program}{t:TypeId}(h:zfr P t=true):P.eqGuardType P.depth t=false:=by
 unfold zfr at h
 split at h
 ·split at h
  ·simp only [Bool.and_eq_true,Bool.not_eq_true'] at h;exact h.2.2
  ·cases h
 ·cases h
section
variable {P:Program}{n:Nat}{B:World}{M:Nat→Prop}{fs:SFs}{hs:HS}{o:Oper}
theorem Yv.cD {x y:Operand}{t u:TypeId}{a0 a1 b0 b1:Int}(hU:zfr P t=true)(ho:o.op= .binOp .neq t x y u)(hx:ev fs x=some (.agg [.int .i64 a0, .int .i64 a1].toArray))(hy:ev fs y=some (.agg [.int .i64 b0, .int .i64 b1].toArray)):Yv P n B M fs hs o (.bool (!(decide (a0=b0)&&decide (a1=b1)))):=fun f w ha _=>by
 have:=zlt hU a0 a1 b0 b1 w;have hg:=zlh hU;unfold execOp;simp only [ho,ha.ev hx,ha.ev hy,eqGuard,binOp];simp [this,hg]
end
section
variable {P:Program}{n:Nat}{B:World}{M:Nat→Prop}{fs:SFs}{hs:HS}{o:Oper}
end
section
variable {P:Program}{n:Nat}{B:World}{M:Nat→Prop}{fs:SFs}{hs:HS}{o:Oper}
end
section
variable {P:Program}{n:Nat}{B:World}{M:Nat→Prop}{fs:SFs}{hs:HS}{o:Oper}
end
section
variable {σ ρ α:Type}
theorem zdG {f:Nat→(Unit→Bool)→Unit→Bool}{k:Unit→Bool}{n:Nat}(q:Nat→Bool)(hf:∀i next,i<n→f i next ()=(q i||next ())):zai f k n 0 ()=((List.range n).any q||k ()):=by
 have key:∀m i,i+m=n→zai f k m i ()=((List.range' i m).any q||k ()):=by
  intro m
  induction m with
  |zero=>intro i _;simp [zai]
  |succ m ih=>
   intro i e
   show f i (zai f k m (i+1)) ()=_
   rw [hf i _ (by omega),ih (i+1) (by omega),List.range'_succ,List.any_cons,Bool.or_assoc]
 rw [key n 0 (by omega),List.range_eq_range']
theorem zcB {f:Nat→(Unit→Bool)→Unit→Bool}{k:Unit→Bool}{n:Nat}(q:Nat→Bool)(hf:∀i next,i<n→f i next ()=(q i&&next ())):zai f k n 0 ()=((List.range n).all q&&k ()):=by
 have key:∀m i,i+m=n→zai f k m i ()=((List.range' i m).all q&&k ()):=by
  intro m
  induction m with
  |zero=>intro i _;simp [zai]
  |succ m ih=>
   intro i e
   show f i (zai f k m (i+1)) ()=_
   rw [hf i _ (by omega),ih (i+1) (by omega),List.range'_succ,List.all_cons,Bool.and_assoc]
 rw [key n 0 (by omega),List.range_eq_range']
theorem ziS {f:Nat→(σ→ρ)→σ→ρ}{k:σ→ρ}{n:Nat}{s:σ}(g:Nat→σ→σ)(hf:∀i next s,i<n→f i next s=next (g i s)):zai f k n 0 s=k ((List.range n).foldl (fun s i=>g i s) s):=by
 have key:∀m i s,i+m=n→zai f k m i s=k ((List.range' i m).foldl (fun s i=>g i s) s):=by
  intro m
  induction m with
  |zero=>intro i s _;rfl
  |succ m ih=>
   intro i s e
   show f i (zai f k m (i+1)) s=_
   rw [hf i _ _ (by omega),ih (i+1) _ (by omega),List.range'_succ,List.foldl_cons]
 rw [key n 0 s (by omega),List.range_eq_range']
theorem zd6 {f:Nat→(σ→ρ)→σ→ρ}{k:σ→ρ}{n:Nat}{s:σ}(I:Nat→σ→Prop)(g:Nat→σ→σ)(h0:I 0 s)(hI:∀i s,i<n→I i s→I (i+1) (g i s))(hf:∀i next s,i<n→I i s→f i next s=next (g i s)):zai f k n 0 s=k ((List.range n).foldl (fun s i=>g i s) s)∧I n ((List.range n).foldl (fun s i=>g i s) s):=by
 have key:∀m i s,i+m=n→I i s→zai f k m i s=k ((List.range' i m).foldl (fun s i=>g i s) s)∧I n ((List.range' i m).foldl (fun s i=>g i s) s):=by
  intro m
  induction m with
  |zero=>intro i s e hs;rw [show i=n by omega] at hs;exact ⟨rfl,hs⟩
  |succ m ih=>
   intro i s e hs;have:=ih (i+1) (g i s) (by omega) (hI i s (by omega) hs);rw [List.range'_succ,List.foldl_cons];refine ⟨?_,this.2⟩;rw [←this.1];exact hf i _ s (by omega) hs
 rw [List.range_eq_range'];exact key n 0 s (by omega) h0
theorem zc6 {l:List α}[Inhabited α]{q:α→Bool}:((List.range l.length).any fun i=>q (nth l i))=l.any q:=by
 rw [Bool.eq_iff_iff,List.any_eq_true,List.any_eq_true];constructor
 ·rintro ⟨i,hi,h⟩;exact ⟨nth l i,by rw [zat (List.mem_range.1 hi)];exact List.getElem_mem _,h⟩
 ·rintro ⟨x,hx,h⟩;obtain ⟨i,hi,rfl⟩:=List.mem_iff_getElem.1 hx;exact ⟨i,List.mem_range.2 hi,by rw [zat hi];exact h⟩
theorem zhs {l:List α}[Inhabited α]{q:α→Bool}:((List.range l.length).all fun i=>q (nth l i))=l.all q:=by
 have h:=zc6 (l:=l) (q:=fun x=> !q x);rw [Bool.eq_iff_iff,List.all_eq_true,List.all_eq_true];constructor
 ·intro h x hx;obtain ⟨i,hi,rfl⟩:=List.mem_iff_getElem.1 hx;have:=h i (List.mem_range.2 hi)
  rwa [zat hi] at this
 ·intro h i hi;have hi:=List.mem_range.1 hi;rw [zat hi];exact h _ (List.getElem_mem _)
theorem zdk {l:List α}[Inhabited α]{g:σ→α→σ}{s:σ}:(List.range l.length).foldl (fun s i=>g s (nth l i)) s=l.foldl g s:=by
 have e:l=(List.range l.length).map (nth l):=by
  apply List.ext_getElem
  ·simp
  ·intro i h1 h2;simp [zat h1]
 conv=>rhs;rw [e,List.foldl_map]
theorem zi6 {x:Int}(h: -9223372036854775808≤x∧x≤9223372036854775807):wI x=x:=IntWalk.i64_in _ h
theorem zgc {l:List α}{β:Type}{g:α→β}{s:List β}:l.foldl (fun s x=>s++[g x]) s=s++l.map g:=by
 induction l generalizing s with
 |nil=>simp
 |cons x r ih=>rw [List.foldl_cons,ih];simp
theorem zje {l:List α}{β:Type}{q:α→Bool}{g:α→β}{s:List β}:l.foldl (fun s x=>bif q x then s++[g x] else s) s=s++(l.filter q).map g:=by
 induction l generalizing s with
 |nil=>simp
 |cons x r ih=>
  rw [List.foldl_cons,ih,List.filter_cons]
  cases q x <;> simp
theorem zj9 {l:List α}{β γ:Type}{g:γ→α→γ}{a:β}{b:γ}:l.foldl (fun s x=>(s.1,g s.2 x)) (a,b)=(a,l.foldl g b):=by
 induction l generalizing b with
 |nil=>rfl
 |cons x r ih=>rw [List.foldl_cons,List.foldl_cons];exact ih
end
structure GChoice where
 Station:Int
 Channel:Int
deriving DecidableEq,Inhabited
abbrev GChoice.enc (x:GChoice):List Value:=[.int .i64 x.Station, .int .i64 x.Channel]
theorem GChoice.len (x:GChoice):(GChoice.enc x).length=2:=rfl
structure GDomain where
 Station:Int
 Channels:List Int
deriving DecidableEq,Inhabited
def GDomain.rep (F:Frz)(c:List Value)(x:GDomain):Prop:=∃(v1:Value),c=[.int .i64 x.Station,v1]∧SlC F v1 1 (x.Channels.map eI)
theorem GDomain.mono {F G:Frz}{c:List Value}{x:GDomain}(hle:F.Le G)(h:GDomain.rep F c x):GDomain.rep G c x:=by
 obtain ⟨v1,h0,h2⟩:=h;exact ⟨v1,h0,h2.mono hle⟩
theorem GDomain.len {F:Frz}{c:List Value}{x:GDomain}(h:GDomain.rep F c x):c.length=2:=by
 obtain ⟨v1,h0,h2⟩:=h;subst h0;rfl
theorem GDomain.one {F:Frz}{c:List Value}{x:GDomain}(h:GDomain.rep F c x):OneCs c:=by
 obtain ⟨v1,h0,h2⟩:=h;subst h0;haveI:=h2.oneC
 infer_instance
theorem GDomain.c0 {F:Frz}{c:List Value}{x:GDomain}(h:GDomain.rep F c x):c[0]?=some (.int .i64 x.Station):=by
 obtain ⟨v1,h0,h2⟩:=h;subst h0;rfl
theorem GDomain.c1 {F:Frz}{c:List Value}{x:GDomain}(h:GDomain.rep F c x):c[1]?=some (nth c 1)∧SlC F (nth c 1) 1 (x.Channels.map eI):=by
 obtain ⟨v1,h0,h2⟩:=h;subst h0;exact ⟨rfl,h2⟩
theorem GDomain.form {F:Frz}{c:List Value}{x:GDomain}(h:GDomain.rep F c x):(c.drop 0).take 2=[.int .i64 x.Station,nth c 1]:=by
 obtain ⟨v1,h0,h2⟩:=h;subst h0;rfl
structure GPair where
 A:Int
 B:Int
 Offset:Int
 Low:Int
 High:Int
deriving DecidableEq,Inhabited
abbrev GPair.enc (x:GPair):List Value:=[.int .i64 x.A, .int .i64 x.B, .int .i64 x.Offset, .int .i64 x.Low, .int .i64 x.High]
theorem GPair.len (x:GPair):(GPair.enc x).length=5:=rfl
structure GLoad where
 To:Int
 From:Int
 Weight:Int
 Low:Int
 High:Int
deriving DecidableEq,Inhabited
abbrev GLoad.enc (x:GLoad):List Value:=[.int .i64 x.To, .int .i64 x.From, .int .i64 x.Weight, .int .i64 x.Low, .int .i64 x.High]
theorem GLoad.len (x:GLoad):(GLoad.enc x).length=5:=rfl
structure GCap where
 Station:Int
 Max:Int
 Low:Int
 High:Int
deriving DecidableEq,Inhabited
abbrev GCap.enc (x:GCap):List Value:=[.int .i64 x.Station, .int .i64 x.Max, .int .i64 x.Low, .int .i64 x.High]
theorem GCap.len (x:GCap):(GCap.enc x).length=4:=rfl
structure GRules where
 Pairs:List GPair
 Loads:List GLoad
 Caps:List GCap
deriving DecidableEq,Inhabited
def GRules.rep (F:Frz)(c:List Value)(x:GRules):Prop:=∃(v0:Value) (v1:Value) (v2:Value),c=[v0,v1,v2]∧SlC F v0 5 (x.Pairs.map GPair.enc)∧SlC F v1 5 (x.Loads.map GLoad.enc)∧SlC F v2 4 (x.Caps.map GCap.enc)
theorem GRules.mono {F G:Frz}{c:List Value}{x:GRules}(hle:F.Le G)(h:GRules.rep F c x):GRules.rep G c x:=by
 obtain ⟨v0,v1,v2,h0,h1,h2,h3⟩:=h;exact ⟨v0,v1,v2,h0,h1.mono hle,h2.mono hle,h3.mono hle⟩
theorem GRules.len {F:Frz}{c:List Value}{x:GRules}(h:GRules.rep F c x):c.length=3:=by
 obtain ⟨v0,v1,v2,h0,h1,h2,h3⟩:=h;subst h0;rfl
theorem GRules.one {F:Frz}{c:List Value}{x:GRules}(h:GRules.rep F c x):OneCs c:=by
 obtain ⟨v0,v1,v2,h0,h1,h2,h3⟩:=h;subst h0;haveI:=h1.oneC;haveI:=h2.oneC;haveI:=h3.oneC
 infer_instance
theorem GRules.c0 {F:Frz}{c:List Value}{x:GRules}(h:GRules.rep F c x):c[0]?=some (nth c 0)∧SlC F (nth c 0) 5 (x.Pairs.map GPair.enc):=by
 obtain ⟨v0,v1,v2,h0,h1,h2,h3⟩:=h;subst h0;exact ⟨rfl,h1⟩
theorem GRules.c1 {F:Frz}{c:List Value}{x:GRules}(h:GRules.rep F c x):c[1]?=some (nth c 1)∧SlC F (nth c 1) 5 (x.Loads.map GLoad.enc):=by
 obtain ⟨v0,v1,v2,h0,h1,h2,h3⟩:=h;subst h0;exact ⟨rfl,h2⟩
theorem GRules.c2 {F:Frz}{c:List Value}{x:GRules}(h:GRules.rep F c x):c[2]?=some (nth c 2)∧SlC F (nth c 2) 4 (x.Caps.map GCap.enc):=by
 obtain ⟨v0,v1,v2,h0,h1,h2,h3⟩:=h;subst h0;exact ⟨rfl,h3⟩
theorem GRules.form {F:Frz}{c:List Value}{x:GRules}(h:GRules.rep F c x):(c.drop 0).take 3=[nth c 0,nth c 1,nth c 2]:=by
 obtain ⟨v0,v1,v2,h0,h1,h2,h3⟩:=h;subst h0;rfl
structure GProblem where
 Domains:List GDomain
 Rules:GRules
deriving DecidableEq,Inhabited
def GProblem.rep (F:Frz)(c:List Value)(x:GProblem):Prop:=∃(v0:Value) (cs0:List (List Value)) (v1:Value) (v2:Value) (v3:Value),c=[v0,v1,v2,v3]∧SlD GDomain.rep F v0 2 cs0 x.Domains∧SlC F v1 5 (x.Rules.Pairs.map GPair.enc)∧SlC F v2 5 (x.Rules.Loads.map GLoad.enc)∧SlC F v3 4 (x.Rules.Caps.map GCap.enc)
theorem GProblem.mono {F G:Frz}{c:List Value}{x:GProblem}(hle:F.Le G)(h:GProblem.rep F c x):GProblem.rep G c x:=by
 obtain ⟨v0,cs0,v1,v2,v3,h0,h1,h2,h3,h4⟩:=h;exact ⟨v0,cs0,v1,v2,v3,h0,SlD.mono (rep:=GDomain.rep) (fun _ _ _ _=>GDomain.mono) h1 hle,h2.mono hle,h3.mono hle,h4.mono hle⟩
theorem GProblem.len {F:Frz}{c:List Value}{x:GProblem}(h:GProblem.rep F c x):c.length=4:=by
 obtain ⟨v0,cs0,v1,v2,v3,h0,h1,h2,h3,h4⟩:=h;subst h0;rfl
theorem GProblem.one {F:Frz}{c:List Value}{x:GProblem}(h:GProblem.rep F c x):OneCs c:=by
 obtain ⟨v0,cs0,v1,v2,v3,h0,h1,h2,h3,h4⟩:=h;subst h0;haveI:=h1.1.oneC;haveI:=h2.oneC;haveI:=h3.oneC;haveI:=h4.oneC
 infer_instance
theorem GProblem.c0 {F:Frz}{c:List Value}{x:GProblem}(h:GProblem.rep F c x):c[0]?=some (nth c 0)∧∃cs,SlD GDomain.rep F (nth c 0) 2 cs x.Domains:=by
 obtain ⟨v0,cs0,v1,v2,v3,h0,h1,h2,h3,h4⟩:=h;subst h0;exact ⟨rfl,cs0,h1⟩
theorem GProblem.c1 {F:Frz}{c:List Value}{x:GProblem}(h:GProblem.rep F c x):c[1]?=some (nth c 1)∧SlC F (nth c 1) 5 (x.Rules.Pairs.map GPair.enc):=by
 obtain ⟨v0,cs0,v1,v2,v3,h0,h1,h2,h3,h4⟩:=h;subst h0;exact ⟨rfl,h2⟩
theorem GProblem.c2 {F:Frz}{c:List Value}{x:GProblem}(h:GProblem.rep F c x):c[2]?=some (nth c 2)∧SlC F (nth c 2) 5 (x.Rules.Loads.map GLoad.enc):=by
 obtain ⟨v0,cs0,v1,v2,v3,h0,h1,h2,h3,h4⟩:=h;subst h0;exact ⟨rfl,h3⟩
theorem GProblem.c3 {F:Frz}{c:List Value}{x:GProblem}(h:GProblem.rep F c x):c[3]?=some (nth c 3)∧SlC F (nth c 3) 4 (x.Rules.Caps.map GCap.enc):=by
 obtain ⟨v0,cs0,v1,v2,v3,h0,h1,h2,h3,h4⟩:=h;subst h0;exact ⟨rfl,h4⟩
theorem GProblem.form {F:Frz}{c:List Value}{x:GProblem}(h:GProblem.rep F c x):(c.drop 0).take 4=[nth c 0,nth c 1,nth c 2,nth c 3]:=by
 obtain ⟨v0,cs0,v1,v2,v3,h0,h1,h2,h3,h4⟩:=h;subst h0;rfl
def zbF (l:List Int)(n:Int):Bool:=
 zax (fun (_:Unit)=>
  false)
 (fun k1=>
  zai (fun (i_3:Nat) (next2:Unit→Bool) (_:Unit)=>
   (bif decide ((nth l i_3)=n) then
    true
    else
    next2 ()))
  (fun (_:Unit)=>
   k1 ()) (l.length - 0) 0 ())
theorem zfu (F0:Frz)(w:World)(hF0:F0.At w)(l:List Int)(vl:Value)(hl:SlC F0 vl 1 (l.map eI))(n:Int):Calls Tryz.prog 18 #[vl, .int .i64 n] w fun e w'=>e= .returned (.bool (zbF l n))∧Below w.heap.size w w':=by
 obtain ⟨r,hk⟩:∃r,zbF l n=r:=⟨_,rfl⟩;rw [hk];unfold zbF at hk;haveI:=hl.oneC;obtain ⟨S0,F1,rfl,hS0,hp0⟩:=zan hF0;refine zac Tryz.func18 rfl rfl rfl hp0 ?_;refine T.sr ?_;refine TL.run 1 rfl ?_;refine TL.ns (T.seq (T.sr ?_));refine TL.run 1 rfl ?_;refine TL.ns ?_;have hq:=zae hk;clear hk;obtain ⟨k1,hk1,hk⟩:=hq; (try dsimp only at hk);refine T.al (ι:=Unit) (fun z=>[]) (fun z=>[.fr F1]) (fun z=>k1 ()=r) ?_ ?_
 ·have hq:=zaj hk;clear hk;obtain ⟨f2,kk2,hf2,hkk2,hk⟩:=hq;refine T.block ?_;refine T.loop (ι:=Nat) (fun z=>[(0,vl),(1, .int .i64 n),(5, .int .i64 (z:Int))]) (fun z=>[.fr F1]) (fun z=>zai f2 kk2 (l.length - z) z ()=r) (fun z=>l.length - z) 0 ?_ ?_ ?_ ?_
  ·exact hk
  ·exact (.c (.c (.c .nil)))
  ·exact List.Sublist.refl _
  ·rintro i_3 hk;refine T.seq (T.sr ?_);refine TL.run 2 rfl ?_;refine TL.y (Yv.ar rfl rfl hl (List.length_map _)) ?_;have hm8:l.length≤9223372036854775807:=(List.length_map _)▸hl.max;refine TL.run 1 rfl ?_;refine TL.ns ?_;refine T.cond rfl (fun h4=>?_) (fun h4=>?_)
   ·have p4:=of_decide_eq_true h4;rw [zar (by omega)] at hk;generalize hn2:zai f2 kk2 (l.length - (i_3+1)) (i_3+1)=next2 at hk;rw [←hf2] at hk; (try dsimp only at hk);refine T.skip (K.seq (T.seq (T.block (T.sr ?_))));refine TL.run 2 rfl ?_;refine TL.y (Yv.ao (i:=i_3) rfl rfl rfl hl (List.length_map _) rfl (by omega)) ?_;refine TL.y (Yv.az 0 (i:=i_3) (j:=0) rfl rfl rfl hl (by omega) rfl rfl) ?_;refine TL.run 2 rfl ?_;refine TL.ns ?_;refine T.cond rfl (fun h5=>?_) (fun h5=>?_)
    ·have p5:=of_decide_eq_true h5;replace hk:=zab hk h5;refine T.sr ?_;refine TL.run 1 rfl ?_;refine TL.ns (T.ret (K.ag (K.aa (K.aa (K.ag (K.aa ?_))))));subst hk;exact K.ah rfl rfl (fun w' hw=>⟨rfl,hw.isBelow⟩)
    ·have p5:=of_decide_eq_false h5;replace hk:=zaa hk h5;refine T.skip (K.ad (K.seq (T.region ?_)));refine TL.run 1 rfl ?_;refine TL.y (Yv.an rfl rfl rfl (by omega)) ?_;refine TL.run 1 rfl ?_;refine TL.nil ?_;rw [←hn2] at hk;exact K.next (i_3+1) hk (by omega) (.c (.c (.c .nil))) (List.Sublist.refl _)
   ·have p4:=of_decide_eq_false h4;rw [zas (by omega),←hkk2] at hk; (try dsimp only at hk);refine T.exit (K.ab (K.ab (K.ae ?_)));exact K.aj () hk .nil (List.Sublist.refl _)
 ·rintro _ hk;rw [←hk1] at hk; (try dsimp only at hk);refine T.sr ?_;refine TL.run 1 rfl ?_;refine TL.ns (T.ret ?_);subst hk;exact K.ah rfl rfl (fun w' hw=>⟨rfl,hw.isBelow⟩)
def zaq (n:Int):Bool:=
 ((decide (0≤n))&&(decide (n≤511)))
theorem zbh (F0:Frz)(w:World)(hF0:F0.At w)(n:Int):Calls Tryz.prog 36 #[.int .i64 n] w fun e w'=>e= .returned (.bool (zaq n))∧Below w.heap.size w w':=by
 obtain ⟨r,hk⟩:∃r,zaq n=r:=⟨_,rfl⟩;rw [hk];unfold zaq at hk;obtain ⟨S0,F1,rfl,hS0,hp0⟩:=zan hF0;refine zac Tryz.func36 rfl rfl rfl hp0 ?_;refine T.sr ?_;refine TL.run 1 rfl ?_;refine TL.ns (T.seq ?_);refine T.al (ι:=Unit) (fun z=>[(2, .bool ((decide (0≤n))&&(decide (n≤511))))]) (fun z=>[.fr F1]) (fun z=>True) ?_ ?_
 ·refine T.region ?_;refine TL.run 3 rfl ?_;refine TL.gs rfl rfl rfl (fun h1=>?_) (fun h1=>?_)
  ·have p1:=of_decide_eq_true h1;refine TL.run 4 rfl ?_;refine TL.nil ?_;exact K.aj () trivial (.b (zdi h1) .nil) (List.Sublist.refl _)
  ·have p1:=of_decide_eq_false h1;refine TL.run 4 rfl ?_;refine TL.nil ?_;exact K.aj () trivial (.b (zaJ h1).symm .nil) (List.Sublist.refl _)
 ·rintro _ _;refine T.ret ?_;subst hk;exact K.ah rfl rfl (fun w' hw=>⟨rfl,hw.isBelow⟩)
def zaS (l:List GChoice):Bool:=
 zax (fun (_:Unit)=>
  true)
 (fun k1=>
  zai (fun (i_3:Nat) (next2:Unit→Bool) (_:Unit)=>
   (bif ((((!(zaq ((nth l i_3).Station)))||(decide ((nth l i_3).Channel<2)))||(decide (51<(nth l i_3).Channel)))||((decide (0<(i_3:Int)))&&(decide ((nth l i_3).Station≤(nth l (((i_3:Int) - 1).toNat)).Station)))) then
    false
    else
    next2 ()))
  (fun (_:Unit)=>
   k1 ()) (l.length - 0) 0 ())
theorem zc8 (F0:Frz)(w:World)(hF0:F0.At w)(l:List GChoice)(vl:Value)(hl:SlC F0 vl 2 (l.map GChoice.enc)):Calls Tryz.prog 20 #[vl] w fun e w'=>e= .returned (.bool (zaS l))∧Below w.heap.size w w':=by
 obtain ⟨r,hk⟩:∃r,zaS l=r:=⟨_,rfl⟩;rw [hk];unfold zaS at hk;haveI:=hl.oneC;obtain ⟨S0,F1,rfl,hS0,hp0⟩:=zan hF0;refine zac Tryz.func20 rfl rfl rfl hp0 ?_;refine T.sr ?_;refine TL.run 1 rfl ?_;refine TL.ns (T.seq (T.sr ?_));refine TL.run 1 rfl ?_;refine TL.ns ?_;have hq:=zae hk;clear hk;obtain ⟨k1,hk1,hk⟩:=hq; (try dsimp only at hk);refine T.al (ι:=Unit) (fun z=>[]) (fun z=>[.fr F1]) (fun z=>k1 ()=r) ?_ ?_
 ·have hq:=zaj hk;clear hk;obtain ⟨f2,kk2,hf2,hkk2,hk⟩:=hq;refine T.block ?_;refine T.loop (ι:=Nat) (fun z=>[(0,vl),(3, .int .i64 (z:Int))]) (fun z=>[.fr F1]) (fun z=>zai f2 kk2 (l.length - z) z ()=r) (fun z=>l.length - z) 0 ?_ ?_ ?_ ?_
  ·exact hk
  ·exact (.c (.c .nil))
  ·exact List.Sublist.refl _
  ·rintro i_3 hk;refine T.seq (T.sr ?_);refine TL.run 2 rfl ?_;refine TL.y (Yv.ar rfl rfl hl (List.length_map _)) ?_;have hm6:l.length≤9223372036854775807:=(List.length_map _)▸hl.max;refine TL.run 1 rfl ?_;refine TL.ns ?_;refine T.cond rfl (fun h4=>?_) (fun h4=>?_)
   ·have p4:=of_decide_eq_true h4;rw [zar (by omega)] at hk;generalize hn2:zai f2 kk2 (l.length - (i_3+1)) (i_3+1)=next2 at hk;rw [←hf2] at hk; (try dsimp only at hk);refine T.skip (K.seq (T.seq (T.block (T.seq ?_))));refine T.al (ι:=Unit) (fun z=>[(0,vl),(3, .int .i64 (i_3:Int)),(50, .bool ((((!(zaq ((nth l i_3).Station)))||(decide ((nth l i_3).Channel<2)))||(decide (51<(nth l i_3).Channel)))||((decide (0<(i_3:Int)))&&(decide ((nth l i_3).Station≤(nth l (((i_3:Int) - 1).toNat)).Station)))))]) (fun z=>[.fr F1]) (fun z=>True) ?_ ?_
    ·refine T.as (.still 0 (.still 1 (.still 2 (.still 3 (.still 4 (.eff 5 (.still 6 (.still 7 (.still 8 (.still 9 (.still 10 (.still 11 (.still 12 (.still 13 (.still 14 (.still 15 (.still 16 (.still 17 (.still 18 (.still 19 (.still 20 (.still 21 (.still 22 (.still 23 (.still 24 (.still 25 (.still 26 (.still 27 (.still 28 (.still 29 (.still 30 (.still 31 (.still 32 (.still 33 (.still 34 (.still 35 (.still 36 (.still 37 (.still 38 (.still 39 (.still 40 .done))))))))))))))))))))))))))))))))))))))))) _ (by kernel_rfl) (List.Sublist.refl _) ?_;refine TS.run 2 rfl ?_;refine TS.y rfl (Yv.ao (i:=i_3) rfl rfl rfl hl (List.length_map _) rfl (by omega)) ?_;refine TS.y rfl (Yv.aG rfl rfl hl (List.length_map _) (by omega)) ?_;refine TS.y rfl (Yv.az 0 (i:=i_3) (j:=0) rfl rfl rfl hl (by omega) rfl rfl) ?_;refine TS.eff ?_;refine TSo.aD rfl (Wt.none rfl) rfl rfl (Ew.af rfl rfl rfl (fun w hw=>zbh _ w (hw.fr (i:=0) rfl) ((nth l i_3).Station))) ?_;rintro _ _ ⟨rfl,rfl⟩;refine ⟨(fun w hw=>hw.sub Sx),?_⟩;refine TS.run 2 rfl ?_;refine TS.gs rfl rfl rfl rfl (fun h5=>?_) (fun h5=>?_)
     ·refine TS.run 33 rfl ?_;refine TS.done ?_;exact K.aj () trivial (.c (.c (.b (zbN (zbN (zbN h5))).symm .nil))) (List.Sublist.refl _)
     ·refine TS.run 2 rfl ?_;refine TS.y rfl (Yv.ao (i:=i_3) rfl rfl rfl hl (List.length_map _) rfl (by omega)) ?_;refine TS.y rfl (Yv.aG rfl rfl hl (List.length_map _) (by omega)) ?_;refine TS.y rfl (Yv.az 0 (i:=i_3) (j:=1) rfl rfl rfl hl (by omega) rfl rfl) ?_;refine TS.run 3 rfl ?_;refine TS.gs rfl rfl rfl rfl (fun h6=>?_) (fun h6=>?_)
      ·have p6:=of_decide_eq_true h6;refine TS.run 25 rfl ?_;refine TS.done ?_;exact K.aj () trivial (.c (.c (.b (zbN (zbN (zcp h5 h6))).symm .nil))) (List.Sublist.refl _)
      ·have p6:=of_decide_eq_false h6;refine TS.run 2 rfl ?_;refine TS.y rfl (Yv.ao (i:=i_3) rfl rfl rfl hl (List.length_map _) rfl (by omega)) ?_;refine TS.y rfl (Yv.aG rfl rfl hl (List.length_map _) (by omega)) ?_;refine TS.y rfl (Yv.az 0 (i:=i_3) (j:=1) rfl rfl rfl hl (by omega) rfl rfl) ?_;refine TS.run 3 rfl ?_;refine TS.gs rfl rfl rfl rfl (fun h7=>?_) (fun h7=>?_)
       ·have p7:=of_decide_eq_true h7;refine TS.run 17 rfl ?_;refine TS.done ?_;exact K.aj () trivial (.c (.c (.b (zbN (zcp (zcp h5 h6) h7)).symm .nil))) (List.Sublist.refl _)
       ·have p7:=of_decide_eq_false h7;refine TS.run 3 rfl ?_;refine TS.gs rfl rfl rfl rfl (fun h8=>?_) (fun h8=>?_)
        ·have p8:=of_decide_eq_true h8;refine TS.run 2 rfl ?_;refine TS.y rfl (Yv.aP rfl rfl rfl (by omega)) ?_;refine TS.y rfl (Yv.ao (i:=((i_3:Int) - 1).toNat) rfl rfl rfl hl (List.length_map _) (by omega) (by omega)) ?_;refine TS.y rfl (Yv.aG rfl rfl hl (List.length_map _) (by omega)) ?_;refine TS.y rfl (Yv.az 0 (i:=((i_3:Int) - 1).toNat) (j:=0) rfl rfl rfl hl (by omega) rfl rfl) ?_;refine TS.run 2 rfl ?_;refine TS.y rfl (Yv.ao (i:=i_3) rfl rfl rfl hl (List.length_map _) rfl (by omega)) ?_;refine TS.y rfl (Yv.aG rfl rfl hl (List.length_map _) (by omega)) ?_;refine TS.y rfl (Yv.az 0 (i:=i_3) (j:=0) rfl rfl rfl hl (by omega) rfl rfl) ?_;refine TS.run 3 rfl ?_;refine TS.done ?_;exact K.aj () trivial (.c (.c (.b (Eq.trans (zdi h8) (or_f (zcp (zcp h5 h6) h7))) .nil))) (List.Sublist.refl _)
        ·have p8:=of_decide_eq_false h8;refine TS.run 14 rfl ?_;refine TS.done ?_;exact K.aj () trivial (.c (.c (.b (zcp (zcp (zcp h5 h6) h7) (zaJ h8)).symm .nil))) (List.Sublist.refl _)
    ·rintro _ _;refine T.cond rfl (fun h9=>?_) (fun h9=>?_)
     ·replace hk:=zab hk h9;refine T.sr ?_;refine TL.run 1 rfl ?_;refine TL.ns (T.ret (K.ag (K.aa (K.aa (K.ag (K.aa ?_))))));subst hk;exact K.ah rfl rfl (fun w' hw=>⟨rfl,hw.isBelow⟩)
     ·have p9:=h9; (try simp only [nfB] at p9);replace hk:=zaa hk h9;refine T.skip (K.ad (K.seq (T.region ?_)));refine TL.run 1 rfl ?_;refine TL.y (Yv.an rfl rfl rfl (by omega)) ?_;refine TL.run 1 rfl ?_;refine TL.nil ?_;rw [←hn2] at hk;exact K.next (i_3+1) hk (by omega) (.c (.c .nil)) (List.Sublist.refl _)
   ·have p4:=of_decide_eq_false h4;rw [zas (by omega),←hkk2] at hk; (try dsimp only at hk);refine T.exit (K.ab (K.ab (K.ae ?_)));exact K.aj () hk .nil (List.Sublist.refl _)
 ·rintro _ hk;rw [←hk1] at hk; (try dsimp only at hk);refine T.sr ?_;refine TL.run 1 rfl ?_;refine TL.ns (T.ret ?_);subst hk;exact K.ah rfl rfl (fun w' hw=>⟨rfl,hw.isBelow⟩)
def zad (p:GProblem)(n:Int):Int:=
 zax (fun (_:Unit)=>
  (-1))
 (fun k1=>
  zai (fun (i_3:Nat) (next2:Unit→Int) (_:Unit)=>
   (bif decide ((nth p.Domains i_3).Station=n) then
    (i_3:Int)
    else
    next2 ()))
  (fun (_:Unit)=>
   k1 ()) (p.Domains.length - 0) 0 ())
theorem zbT (F0:Frz)(w:World)(hF0:F0.At w)(p:GProblem)(vp_0:Value)(cp_0:List (List Value))(hp_0:SlD GDomain.rep F0 vp_0 2 cp_0 p.Domains)(vp_1:Value)(hp_1:SlC F0 vp_1 5 (p.Rules.Pairs.map GPair.enc))(vp_2:Value)(hp_2:SlC F0 vp_2 5 (p.Rules.Loads.map GLoad.enc))(vp_3:Value)(hp_3:SlC F0 vp_3 4 (p.Rules.Caps.map GCap.enc))(n:Int):Calls Tryz.prog 21 #[.agg [vp_0,vp_1,vp_2,vp_3].toArray, .int .i64 n] w fun e w'=>e= .returned (.int .i64 (zad p n))∧Below w.heap.size w w':=by
 obtain ⟨r,hk⟩:∃r,zad p n=r:=⟨_,rfl⟩;rw [hk];unfold zad at hk;haveI:=hp_0.1.oneC;haveI:=hp_1.oneC;haveI:=hp_2.oneC;haveI:=hp_3.oneC;obtain ⟨S0,F1,rfl,hS0,hp0⟩:=zan hF0;refine zac Tryz.func21 rfl rfl rfl hp0 ?_;refine T.sr ?_;refine TL.e (Ew.aA rfl rfl) ?_;rintro _ _ ⟨g2,rfl,rfl⟩;refine TL.run 1 rfl ?_;refine TL.ns (T.seq (T.sr ?_));refine TL.run 1 rfl ?_;refine TL.ns ?_;have hq:=zae hk;clear hk;obtain ⟨k1,hk1,hk⟩:=hq; (try dsimp only at hk);refine T.al (ι:=Unit) (fun z=>[]) (fun z=>[.fr F1]) (fun z=>k1 ()=r) ?_ ?_
 ·have hq:=zaj hk;clear hk;obtain ⟨f2,kk2,hf2,hkk2,hk⟩:=hq;refine T.block ?_;refine T.loop (ι:=Nat) (fun z=>[(1, .int .i64 n),(2, .pointer (some ⟨g2,0,none⟩)),(5, .int .i64 (z:Int))]) (fun z=>[.row g2 29 [vp_0,vp_1,vp_2,vp_3], .fr F1]) (fun z=>zai f2 kk2 (p.Domains.length - z) z ()=r) (fun z=>p.Domains.length - z) 0 ?_ ?_ ?_ ?_
  ·exact hk
  ·exact (.c (.c (.c .nil)))
  ·exact List.Sublist.refl _
  ·rintro i_3 hk;refine T.seq (T.sr ?_);refine TL.run 1 rfl ?_;refine TL.y (Yv.fieldAddr rfl rfl) ?_;refine TL.y (Yv.ac 0 rfl rfl rfl rfl) ?_;refine TL.y (Yv.ar rfl rfl hp_0.1 hp_0.2.1) ?_;have hm9:p.Domains.length≤9223372036854775807:=hp_0.2.1▸hp_0.1.max;refine TL.run 1 rfl ?_;refine TL.ns ?_;refine T.cond rfl (fun h4=>?_) (fun h4=>?_)
   ·have p4:=of_decide_eq_true h4;rw [zar (by omega)] at hk;generalize hn2:zai f2 kk2 (p.Domains.length - (i_3+1)) (i_3+1)=next2 at hk;rw [←hf2] at hk; (try dsimp only at hk);refine T.skip (K.seq (T.seq (T.block (T.sr ?_))));refine TL.y (Yv.fieldAddr rfl rfl) ?_;refine TL.y (Yv.ac 0 rfl rfl rfl rfl) ?_;refine TL.run 1 rfl ?_;refine TL.y (Yv.ao (i:=i_3) rfl rfl rfl hp_0.1 hp_0.2.1 rfl (by omega)) ?_;refine TL.y (Yv.aG rfl rfl hp_0.1 hp_0.2.1 (by omega)) ?_;refine TL.y (Yv.loadR 1 (i:=i_3) (j:=0) rfl rfl rfl hp_0.1 hp_0.2.1 (by omega) rfl (GDomain.c0 (hp_0.2.2 i_3 (by omega)))) ?_;refine TL.run 2 rfl ?_;refine TL.ns ?_;refine T.cond rfl (fun h5=>?_) (fun h5=>?_)
    ·have p5:=of_decide_eq_true h5;replace hk:=zab hk h5;refine T.sr ?_;refine TL.run 2 rfl ?_;refine TL.ns (T.ret (K.ag (K.aa (K.aa (K.ag (K.aa ?_))))));subst hk;exact K.ah rfl rfl (fun w' hw=>⟨rfl,hw.isBelow⟩)
    ·have p5:=of_decide_eq_false h5;replace hk:=zaa hk h5;refine T.skip (K.ad (K.seq (T.region ?_)));refine TL.run 1 rfl ?_;refine TL.y (Yv.an rfl rfl rfl (by omega)) ?_;refine TL.run 1 rfl ?_;refine TL.nil ?_;rw [←hn2] at hk;exact K.next (i_3+1) hk (by omega) (.c (.c (.c .nil))) (List.Sublist.refl _)
   ·have p4:=of_decide_eq_false h4;rw [zas (by omega),←hkk2] at hk; (try dsimp only at hk);refine T.exit (K.ab (K.ab (K.ae ?_)));refine K.pick [1] rfl (by decide) ?_;exact K.aj () hk .nil (List.Sublist.refl _)
 ·rintro _ hk;rw [←hk1] at hk; (try dsimp only at hk);refine T.sr ?_;refine TL.run 1 rfl ?_;refine TL.ns (T.ret ?_);subst hk;exact K.ah rfl rfl (fun w' hw=>⟨rfl,hw.isBelow⟩)
def zaF (a:List Int)(b:List Int):Bool:=
 (bif decide (¬(a.length:Int)=(b.length:Int)) then
  false
  else
  zax (fun (_:Unit)=>
   true)
  (fun k2=>
   zai (fun (i_4:Nat) (next3:Unit→Bool) (_:Unit)=>
    (bif decide (¬(nth a i_4)=(nth b i_4)) then
     false
     else
     next3 ()))
   (fun (_:Unit)=>
    k2 ()) (a.length - 0) 0 ()))
theorem zcF (F0:Frz)(w:World)(hF0:F0.At w)(a:List Int)(va:Value)(ha:SlC F0 va 1 (a.map eI))(b:List Int)(vb:Value)(hb:SlC F0 vb 1 (b.map eI)):Calls Tryz.prog 39 #[va,vb] w fun e w'=>e= .returned (.bool (zaF a b))∧Below w.heap.size w w':=by
 obtain ⟨r,hk⟩:∃r,zaF a b=r:=⟨_,rfl⟩;rw [hk];unfold zaF at hk;haveI:=ha.oneC;haveI:=hb.oneC;obtain ⟨S0,F1,rfl,hS0,hp0⟩:=zan hF0;refine zac Tryz.func39 rfl rfl rfl hp0 ?_;refine T.sr ?_;refine TL.run 1 rfl ?_;refine TL.ns (T.seq (T.sr ?_));refine TL.run 1 rfl ?_;refine TL.y (Yv.ar rfl rfl ha (List.length_map _)) ?_;have hm7:a.length≤9223372036854775807:=(List.length_map _)▸ha.max;refine TL.run 1 rfl ?_;refine TL.y (Yv.ar rfl rfl hb (List.length_map _)) ?_;have hm9:b.length≤9223372036854775807:=(List.length_map _)▸hb.max;refine TL.run 1 rfl ?_;refine TL.ns ?_;refine T.cond rfl (fun h1=>?_) (fun h1=>?_)
 ·have p1:=of_decide_eq_true h1;replace hk:=zab hk h1;refine T.sr ?_;refine TL.run 1 rfl ?_;refine TL.ns (T.ret (K.aa ?_));subst hk;exact K.ah rfl rfl (fun w' hw=>⟨rfl,hw.isBelow⟩)
 ·have p1:=of_decide_eq_false h1;replace hk:=zaa hk h1;refine T.skip (K.seq (T.seq (T.sr ?_)));refine TL.run 1 rfl ?_;refine TL.ns ?_;have hq:=zae hk;clear hk;obtain ⟨k2,hk2,hk⟩:=hq; (try dsimp only at hk);refine T.al (ι:=Unit) (fun z=>[]) (fun z=>[.fr F1]) (fun z=>k2 ()=r) ?_ ?_
  ·have hq:=zaj hk;clear hk;obtain ⟨f3,kk3,hf3,hkk3,hk⟩:=hq;refine T.block ?_;refine T.loop (ι:=Nat) (fun z=>[(0,va),(1,vb),(5, .int .i64 (z:Int))]) (fun z=>[.fr F1]) (fun z=>zai f3 kk3 (a.length - z) z ()=r) (fun z=>a.length - z) 0 ?_ ?_ ?_ ?_
   ·exact hk
   ·exact (.c (.c (.c .nil)))
   ·exact List.Sublist.refl _
   ·rintro i_4 hk;refine T.seq (T.sr ?_);refine TL.run 2 rfl ?_;refine TL.y (Yv.ar rfl rfl ha (List.length_map _)) ?_;refine TL.run 1 rfl ?_;refine TL.ns ?_;refine T.cond rfl (fun h5=>?_) (fun h5=>?_)
    ·have p5:=of_decide_eq_true h5;rw [zar (by omega)] at hk;generalize hn3:zai f3 kk3 (a.length - (i_4+1)) (i_4+1)=next3 at hk;rw [←hf3] at hk; (try dsimp only at hk);refine T.skip (K.seq (T.seq (T.block (T.seq ?_))));refine T.as (.still 0 (.still 1 (.still 2 (.still 3 (.still 4 (.still 5 (.still 6 (.still 7 (.still 8 .done))))))))) _ (by kernel_rfl) (List.Sublist.refl _) ?_;refine TS.run 2 rfl ?_;refine TS.y rfl (Yv.ao (i:=i_4) rfl rfl rfl ha (List.length_map _) rfl (by omega)) ?_;refine TS.y rfl (Yv.az 0 (i:=i_4) (j:=0) rfl rfl rfl ha (by omega) rfl rfl) ?_;refine TS.run 2 rfl ?_;refine TS.y rfl (Yv.ao (i:=i_4) rfl rfl rfl hb (List.length_map _) rfl (by omega)) ?_;refine TS.y rfl (Yv.az 0 (i:=i_4) (j:=0) rfl rfl rfl hb (by omega) rfl rfl) ?_;refine TS.run 1 rfl ?_;refine TS.done ?_;refine K.seq ?_;refine T.cond rfl (fun h6=>?_) (fun h6=>?_)
     ·have p6:=of_decide_eq_true h6;replace hk:=zab hk h6;refine T.sr ?_;refine TL.run 1 rfl ?_;refine TL.ns (T.ret (K.ag (K.aa (K.aa (K.ag (K.aa ?_))))));subst hk;exact K.ah rfl rfl (fun w' hw=>⟨rfl,hw.isBelow⟩)
     ·have p6:=of_decide_eq_false h6;replace hk:=zaa hk h6;refine T.skip (K.ad (K.seq (T.region ?_)));refine TL.run 1 rfl ?_;refine TL.y (Yv.an rfl rfl rfl (by omega)) ?_;refine TL.run 1 rfl ?_;refine TL.nil ?_;rw [←hn3] at hk;exact K.next (i_4+1) hk (by omega) (.c (.c (.c .nil))) (List.Sublist.refl _)
    ·have p5:=of_decide_eq_false h5;rw [zas (by omega),←hkk3] at hk; (try dsimp only at hk);refine T.exit (K.ab (K.ab (K.ae ?_)));exact K.aj () hk .nil (List.Sublist.refl _)
  ·rintro _ hk;rw [←hk2] at hk; (try dsimp only at hk);refine T.sr ?_;refine TL.run 1 rfl ?_;refine TL.ns (T.ret ?_);subst hk;exact K.ah rfl rfl (fun w' hw=>⟨rfl,hw.isBelow⟩)
def zaP (a:List GDomain)(b:List GDomain):Bool:=
 (bif decide (¬(a.length:Int)=(b.length:Int)) then
  false
  else
  zax (fun (_:Unit)=>
   true)
  (fun k2=>
   zai (fun (i_4:Nat) (next3:Unit→Bool) (_:Unit)=>
    (bif ((decide (¬(nth a i_4).Station=(nth b i_4).Station))||(!(zaF ((nth a i_4).Channels) ((nth b i_4).Channels)))) then
     false
     else
     next3 ()))
   (fun (_:Unit)=>
    k2 ()) (a.length - 0) 0 ()))
theorem zcP (F0:Frz)(w:World)(hF0:F0.At w)(a:List GDomain)(va:Value)(ca:List (List Value))(ha:SlD GDomain.rep F0 va 2 ca a)(b:List GDomain)(vb:Value)(cb:List (List Value))(hb:SlD GDomain.rep F0 vb 2 cb b):Calls Tryz.prog 23 #[va,vb] w fun e w'=>e= .returned (.bool (zaP a b))∧Below w.heap.size w w':=by
 obtain ⟨r,hk⟩:∃r,zaP a b=r:=⟨_,rfl⟩;rw [hk];unfold zaP at hk;haveI:=ha.1.oneC;haveI:=hb.1.oneC;obtain ⟨S0,F1,rfl,hS0,hp0⟩:=zan hF0;refine zac Tryz.func23 rfl rfl rfl hp0 ?_;refine T.sr ?_;refine TL.run 1 rfl ?_;refine TL.ns (T.seq (T.sr ?_));refine TL.run 1 rfl ?_;refine TL.y (Yv.ar rfl rfl ha.1 ha.2.1) ?_;have hm7:a.length≤9223372036854775807:=ha.2.1▸ha.1.max;refine TL.run 1 rfl ?_;refine TL.y (Yv.ar rfl rfl hb.1 hb.2.1) ?_;have hm9:b.length≤9223372036854775807:=hb.2.1▸hb.1.max;refine TL.run 1 rfl ?_;refine TL.ns ?_;refine T.cond rfl (fun h1=>?_) (fun h1=>?_)
 ·have p1:=of_decide_eq_true h1;replace hk:=zab hk h1;refine T.sr ?_;refine TL.run 1 rfl ?_;refine TL.ns (T.ret (K.aa ?_));subst hk;exact K.ah rfl rfl (fun w' hw=>⟨rfl,hw.isBelow⟩)
 ·have p1:=of_decide_eq_false h1;replace hk:=zaa hk h1;refine T.skip (K.seq (T.seq (T.sr ?_)));refine TL.run 1 rfl ?_;refine TL.ns ?_;have hq:=zae hk;clear hk;obtain ⟨k2,hk2,hk⟩:=hq; (try dsimp only at hk);refine T.al (ι:=Unit) (fun z=>[]) (fun z=>[.fr F1]) (fun z=>k2 ()=r) ?_ ?_
  ·have hq:=zaj hk;clear hk;obtain ⟨f3,kk3,hf3,hkk3,hk⟩:=hq;refine T.block ?_;refine T.loop (ι:=Nat) (fun z=>[(0,va),(1,vb),(5, .int .i64 (z:Int))]) (fun z=>[.fr F1]) (fun z=>zai f3 kk3 (a.length - z) z ()=r) (fun z=>a.length - z) 0 ?_ ?_ ?_ ?_
   ·exact hk
   ·exact (.c (.c (.c .nil)))
   ·exact List.Sublist.refl _
   ·rintro i_4 hk;refine T.seq (T.sr ?_);refine TL.run 2 rfl ?_;refine TL.y (Yv.ar rfl rfl ha.1 ha.2.1) ?_;refine TL.run 1 rfl ?_;refine TL.ns ?_;refine T.cond rfl (fun h5=>?_) (fun h5=>?_)
    ·have p5:=of_decide_eq_true h5;rw [zar (by omega)] at hk;generalize hn3:zai f3 kk3 (a.length - (i_4+1)) (i_4+1)=next3 at hk;rw [←hf3] at hk; (try dsimp only at hk);refine T.skip (K.seq (T.seq (T.block (T.seq ?_))));refine T.al (ι:=Unit) (fun z=>[(0,va),(1,vb),(5, .int .i64 (i_4:Int)),(41, .bool ((decide (¬(nth a i_4).Station=(nth b i_4).Station))||(!(zaF ((nth a i_4).Channels) ((nth b i_4).Channels)))))]) (fun z=>[.fr F1]) (fun z=>True) ?_ ?_
     ·refine T.as (.still 0 (.still 1 (.still 2 (.still 3 (.still 4 (.still 5 (.still 6 (.still 7 (.still 8 (.still 9 (.still 10 (.still 11 (.still 12 (.still 13 (.still 14 (.still 15 (.still 16 (.still 17 (.still 18 (.still 19 (.still 20 (.still 21 (.eff 22 (.still 23 (.still 24 .done))))))))))))))))))))))))) _ (by kernel_rfl) (List.Sublist.refl _) ?_;refine TS.run 2 rfl ?_;refine TS.y rfl (Yv.ao (i:=i_4) rfl rfl rfl ha.1 ha.2.1 rfl (by omega)) ?_;refine TS.y rfl (Yv.aG rfl rfl ha.1 ha.2.1 (by omega)) ?_;refine TS.y rfl (Yv.loadR 0 (i:=i_4) (j:=0) rfl rfl rfl ha.1 ha.2.1 (by omega) rfl (GDomain.c0 (ha.2.2 i_4 (by omega)))) ?_;refine TS.run 2 rfl ?_;refine TS.y rfl (Yv.ao (i:=i_4) rfl rfl rfl hb.1 hb.2.1 rfl (by omega)) ?_;refine TS.y rfl (Yv.aG rfl rfl hb.1 hb.2.1 (by omega)) ?_;refine TS.y rfl (Yv.loadR 0 (i:=i_4) (j:=0) rfl rfl rfl hb.1 hb.2.1 (by omega) rfl (GDomain.c0 (hb.2.2 i_4 (by omega)))) ?_;refine TS.run 2 rfl ?_;refine TS.gs rfl rfl rfl rfl (fun h6=>?_) (fun h6=>?_)
      ·have p6:=of_decide_eq_true h6;refine TS.run 10 rfl ?_;refine TS.eff ?_;refine TSo.off rfl (Wt.not rfl rfl rfl rfl) rfl rfl ?_;refine TS.run 2 rfl ?_;refine TS.done ?_;exact K.aj () trivial (.c (.c (.c (.b (zbN h6).symm .nil)))) (List.Sublist.refl _)
      ·have p6:=of_decide_eq_false h6;refine TS.run 2 rfl ?_;refine TS.y rfl (Yv.ao (i:=i_4) rfl rfl rfl ha.1 ha.2.1 rfl (by omega)) ?_;refine TS.y rfl (Yv.aG rfl rfl ha.1 ha.2.1 (by omega)) ?_;refine TS.y rfl (Yv.loadR 0 (i:=i_4) (j:=1) rfl rfl rfl ha.1 ha.2.1 (by omega) rfl (GDomain.c1 (ha.2.2 i_4 (by omega))).1) ?_;have hd33_1:=(GDomain.c1 (ha.2.2 i_4 (by omega))).2;haveI:=hd33_1.oneC;refine TS.run 2 rfl ?_;refine TS.y rfl (Yv.ao (i:=i_4) rfl rfl rfl hb.1 hb.2.1 rfl (by omega)) ?_;refine TS.y rfl (Yv.aG rfl rfl hb.1 hb.2.1 (by omega)) ?_;refine TS.y rfl (Yv.loadR 0 (i:=i_4) (j:=1) rfl rfl rfl hb.1 hb.2.1 (by omega) rfl (GDomain.c1 (hb.2.2 i_4 (by omega))).1) ?_;have hd38_1:=(GDomain.c1 (hb.2.2 i_4 (by omega))).2;haveI:=hd38_1.oneC;refine TS.eff ?_;refine TSo.aD rfl (Wt.some rfl rfl rfl rfl) rfl rfl (Ew.af rfl rfl rfl (fun w hw=>zcF _ w (hw.fr (i:=0) rfl) ((nth a i_4).Channels) (nth (nth ca i_4) 1) hd33_1 ((nth b i_4).Channels) (nth (nth cb i_4) 1) hd38_1)) ?_;rintro _ _ ⟨rfl,rfl⟩;refine ⟨(fun w hw=>hw.sub Sx),?_⟩;refine TS.run 2 rfl ?_;refine TS.done ?_;exact K.aj () trivial (.c (.c (.c (.b (or_f h6) .nil)))) (List.Sublist.refl _)
     ·rintro _ _;refine T.cond rfl (fun h7=>?_) (fun h7=>?_)
      ·replace hk:=zab hk h7;refine T.sr ?_;refine TL.run 1 rfl ?_;refine TL.ns (T.ret (K.ag (K.aa (K.aa (K.ag (K.aa ?_))))));subst hk;exact K.ah rfl rfl (fun w' hw=>⟨rfl,hw.isBelow⟩)
      ·have p7:=h7; (try simp only [nfB] at p7);replace hk:=zaa hk h7;refine T.skip (K.ad (K.seq (T.region ?_)));refine TL.run 1 rfl ?_;refine TL.y (Yv.an rfl rfl rfl (by omega)) ?_;refine TL.run 1 rfl ?_;refine TL.nil ?_;rw [←hn3] at hk;exact K.next (i_4+1) hk (by omega) (.c (.c (.c .nil))) (List.Sublist.refl _)
    ·have p5:=of_decide_eq_false h5;rw [zas (by omega),←hkk3] at hk; (try dsimp only at hk);refine T.exit (K.ab (K.ab (K.ae ?_)));exact K.aj () hk .nil (List.Sublist.refl _)
  ·rintro _ hk;rw [←hk2] at hk; (try dsimp only at hk);refine T.sr ?_;refine TL.run 1 rfl ?_;refine TL.ns (T.ret ?_);subst hk;exact K.ah rfl rfl (fun w' hw=>⟨rfl,hw.isBelow⟩)
def zbl (a:List GChoice)(b:List GChoice):Bool:=
 (bif decide (¬(a.length:Int)=(b.length:Int)) then
  false
  else
  zax (fun (_:Unit)=>
   true)
  (fun k2=>
   zai (fun (i_4:Nat) (next3:Unit→Bool) (_:Unit)=>
    (bif !(decide ((nth a i_4).Station=(nth b i_4).Station)&&decide ((nth a i_4).Channel=(nth b i_4).Channel)) then
     false
     else
     next3 ()))
   (fun (_:Unit)=>
    k2 ()) (a.length - 0) 0 ()))
theorem ze1 (F0:Frz)(w:World)(hF0:F0.At w)(a:List GChoice)(va:Value)(ha:SlC F0 va 2 (a.map GChoice.enc))(b:List GChoice)(vb:Value)(hb:SlC F0 vb 2 (b.map GChoice.enc)):Calls Tryz.prog 55 #[va,vb] w fun e w'=>e= .returned (.bool (zbl a b))∧Below w.heap.size w w':=by
 obtain ⟨r,hk⟩:∃r,zbl a b=r:=⟨_,rfl⟩;rw [hk];unfold zbl at hk;haveI:=ha.oneC;haveI:=hb.oneC;obtain ⟨S0,F1,rfl,hS0,hp0⟩:=zan hF0;refine zac Tryz.func55 rfl rfl rfl hp0 ?_;refine T.sr ?_;refine TL.run 1 rfl ?_;refine TL.ns (T.seq (T.sr ?_));refine TL.run 1 rfl ?_;refine TL.y (Yv.ar rfl rfl ha (List.length_map _)) ?_;have hm7:a.length≤9223372036854775807:=(List.length_map _)▸ha.max;refine TL.run 1 rfl ?_;refine TL.y (Yv.ar rfl rfl hb (List.length_map _)) ?_;have hm9:b.length≤9223372036854775807:=(List.length_map _)▸hb.max;refine TL.run 1 rfl ?_;refine TL.ns ?_;refine T.cond rfl (fun h1=>?_) (fun h1=>?_)
 ·have p1:=of_decide_eq_true h1;replace hk:=zab hk h1;refine T.sr ?_;refine TL.run 1 rfl ?_;refine TL.ns (T.ret (K.aa ?_));subst hk;exact K.ah rfl rfl (fun w' hw=>⟨rfl,hw.isBelow⟩)
 ·have p1:=of_decide_eq_false h1;replace hk:=zaa hk h1;refine T.skip (K.seq (T.seq (T.sr ?_)));refine TL.run 1 rfl ?_;refine TL.ns ?_;have hq:=zae hk;clear hk;obtain ⟨k2,hk2,hk⟩:=hq; (try dsimp only at hk);refine T.al (ι:=Unit) (fun z=>[]) (fun z=>[.fr F1]) (fun z=>k2 ()=r) ?_ ?_
  ·have hq:=zaj hk;clear hk;obtain ⟨f3,kk3,hf3,hkk3,hk⟩:=hq;refine T.block ?_;refine T.loop (ι:=Nat) (fun z=>[(0,va),(1,vb),(5, .int .i64 (z:Int))]) (fun z=>[.fr F1]) (fun z=>zai f3 kk3 (a.length - z) z ()=r) (fun z=>a.length - z) 0 ?_ ?_ ?_ ?_
   ·exact hk
   ·exact (.c (.c (.c .nil)))
   ·exact List.Sublist.refl _
   ·rintro i_4 hk;refine T.seq (T.sr ?_);refine TL.run 2 rfl ?_;refine TL.y (Yv.ar rfl rfl ha (List.length_map _)) ?_;refine TL.run 1 rfl ?_;refine TL.ns ?_;refine T.cond rfl (fun h5=>?_) (fun h5=>?_)
    ·have p5:=of_decide_eq_true h5;rw [zar (by omega)] at hk;generalize hn3:zai f3 kk3 (a.length - (i_4+1)) (i_4+1)=next3 at hk;rw [←hf3] at hk; (try dsimp only at hk);refine T.skip (K.seq (T.seq (T.block (T.seq ?_))));refine T.as (.still 0 (.still 1 (.still 2 (.still 3 (.still 4 (.still 5 (.still 6 (.still 7 (.still 8 .done))))))))) _ (by kernel_rfl) (List.Sublist.refl _) ?_;refine TS.run 2 rfl ?_;refine TS.y rfl (Yv.ao (i:=i_4) rfl rfl rfl ha (List.length_map _) rfl (by omega)) ?_;refine TS.y rfl (Yv.aI 0 (i:=i_4) rfl rfl rfl ha (by omega) rfl rfl rfl) ?_;refine TS.run 2 rfl ?_;refine TS.y rfl (Yv.ao (i:=i_4) rfl rfl rfl hb (List.length_map _) rfl (by omega)) ?_;refine TS.y rfl (Yv.aI 0 (i:=i_4) rfl rfl rfl hb (by omega) rfl rfl rfl) ?_;refine TS.y rfl (Yv.cD (by kernel_rfl) rfl rfl rfl) ?_;refine TS.done ?_;refine K.seq ?_;refine T.cond rfl (fun h6=>?_) (fun h6=>?_)
     ·replace hk:=zab hk h6;refine T.sr ?_;refine TL.run 1 rfl ?_;refine TL.ns (T.ret (K.ag (K.aa (K.aa (K.ag (K.aa ?_))))));subst hk;exact K.ah rfl rfl (fun w' hw=>⟨rfl,hw.isBelow⟩)
     ·have p6:=h6; (try simp only [nfB] at p6);replace hk:=zaa hk h6;refine T.skip (K.ad (K.seq (T.region ?_)));refine TL.run 1 rfl ?_;refine TL.y (Yv.an rfl rfl rfl (by omega)) ?_;refine TL.run 1 rfl ?_;refine TL.nil ?_;rw [←hn3] at hk;exact K.next (i_4+1) hk (by omega) (.c (.c (.c .nil))) (List.Sublist.refl _)
    ·have p5:=of_decide_eq_false h5;rw [zas (by omega),←hkk3] at hk; (try dsimp only at hk);refine T.exit (K.ab (K.ab (K.ae ?_)));exact K.aj () hk .nil (List.Sublist.refl _)
  ·rintro _ hk;rw [←hk2] at hk; (try dsimp only at hk);refine T.sr ?_;refine TL.run 1 rfl ?_;refine TL.ns (T.ret ?_);subst hk;exact K.ah rfl rfl (fun w' hw=>⟨rfl,hw.isBelow⟩)
def za4 (low:Int)(high:Int):Bool:=
 (((decide (2≤low))&&(decide (low≤high)))&&(decide (high≤51)))
theorem zdH (F0:Frz)(w:World)(hF0:F0.At w)(low:Int)(high:Int):Calls Tryz.prog 56 #[.int .i64 low, .int .i64 high] w fun e w'=>e= .returned (.bool (za4 low high))∧Below w.heap.size w w':=by
 obtain ⟨r,hk⟩:∃r,za4 low high=r:=⟨_,rfl⟩;rw [hk];unfold za4 at hk;obtain ⟨S0,F1,rfl,hS0,hp0⟩:=zan hF0;refine zac Tryz.func56 rfl rfl rfl hp0 ?_;refine T.sr ?_;refine TL.run 1 rfl ?_;refine TL.ns (T.seq ?_);refine T.al (ι:=Unit) (fun z=>[(4, .bool (((decide (2≤low))&&(decide (low≤high)))&&(decide (high≤51))))]) (fun z=>[.fr F1]) (fun z=>True) ?_ ?_
 ·refine T.region ?_;refine TL.run 3 rfl ?_;refine TL.gs rfl rfl rfl (fun h1=>?_) (fun h1=>?_)
  ·have p1:=of_decide_eq_true h1;refine TL.run 5 rfl ?_;refine TL.gs rfl rfl rfl (fun h2=>?_) (fun h2=>?_)
   ·have p2:=of_decide_eq_true h2;refine TL.run 4 rfl ?_;refine TL.nil ?_;exact K.aj () trivial (.b (zdi (za8 h1 h2)) .nil) (List.Sublist.refl _)
   ·have p2:=of_decide_eq_false h2;refine TL.run 4 rfl ?_;refine TL.nil ?_;exact K.aj () trivial (.b (zaJ (za8 h1 h2)).symm .nil) (List.Sublist.refl _)
  ·have p1:=of_decide_eq_false h1;refine TL.run 9 rfl ?_;refine TL.nil ?_;exact K.aj () trivial (.b (zaJ (zaJ h1)).symm .nil) (List.Sublist.refl _)
 ·rintro _ _;refine T.ret ?_;subst hk;exact K.ah rfl rfl (fun w' hw=>⟨rfl,hw.isBelow⟩)
def za9 (a:List Int)(b:List Int):Option Bool:=
 zax (fun (_:Unit)=>
  some false)
 (fun k1=>
  zai (fun (i_3:Nat) (next2:Unit→Option Bool) (_:Unit)=>
   grd (0≤(i_3:Int)∧(i_3:Int)<(b.length:Int)) <|
   (bif decide (¬(nth a i_3)=(nth b i_3)) then
    some (decide ((nth a i_3)<(nth b i_3)))
    else
    next2 ()))
  (fun (_:Unit)=>
   k1 ()) (a.length - 0) 0 ())
theorem zdB (F0:Frz)(w:World)(hF0:F0.At w)(a:List Int)(va:Value)(ha:SlC F0 va 1 (a.map eI))(b:List Int)(vb:Value)(hb:SlC F0 vb 1 (b.map eI))(r:Bool)(hr:za9 a b=some r):Calls Tryz.prog 57 #[va,vb] w fun e w'=>e= .returned (.bool r)∧Below w.heap.size w w':=by
 have hk:=hr;unfold za9 at hk;haveI:=ha.oneC;haveI:=hb.oneC;obtain ⟨S0,F1,rfl,hS0,hp0⟩:=zan hF0;refine zac Tryz.func57 rfl rfl rfl hp0 ?_;refine T.sr ?_;refine TL.run 1 rfl ?_;refine TL.ns (T.seq (T.sr ?_));refine TL.run 1 rfl ?_;refine TL.ns ?_;have hq:=zae hk;clear hk;obtain ⟨k1,hk1,hk⟩:=hq; (try dsimp only at hk);refine T.al (ι:=Unit) (fun z=>[]) (fun z=>[.fr F1]) (fun z=>k1 ()=some r) ?_ ?_
 ·have hq:=zaj hk;clear hk;obtain ⟨f2,kk2,hf2,hkk2,hk⟩:=hq;refine T.block ?_;refine T.loop (ι:=Nat) (fun z=>[(0,va),(1,vb),(5, .int .i64 (z:Int))]) (fun z=>[.fr F1]) (fun z=>zai f2 kk2 (a.length - z) z ()=some r) (fun z=>a.length - z) 0 ?_ ?_ ?_ ?_
  ·exact hk
  ·exact (.c (.c (.c .nil)))
  ·exact List.Sublist.refl _
  ·rintro i_3 hk;refine T.seq (T.sr ?_);refine TL.run 2 rfl ?_;refine TL.y (Yv.ar rfl rfl ha (List.length_map _)) ?_;have hm8:a.length≤9223372036854775807:=(List.length_map _)▸ha.max;refine TL.run 1 rfl ?_;refine TL.ns ?_;refine T.cond rfl (fun h4=>?_) (fun h4=>?_)
   ·have p4:=of_decide_eq_true h4;rw [zar (by omega)] at hk;generalize hn2:zai f2 kk2 (a.length - (i_3+1)) (i_3+1)=next2 at hk;rw [←hf2] at hk; (try dsimp only at hk);refine T.skip (K.seq (T.seq (T.block (T.seq ?_))));have hq:(0≤(i_3:Int)∧(i_3:Int)<(b.length:Int))∧_:=zaE hk;clear hk;obtain ⟨g18,hk⟩:=hq; (try dsimp only at hk);refine T.as (.still 0 (.still 1 (.still 2 (.still 3 (.still 4 (.still 5 (.still 6 (.still 7 (.still 8 .done))))))))) _ (by kernel_rfl) (List.Sublist.refl _) ?_;refine TS.run 2 rfl ?_;refine TS.y rfl (Yv.ao (i:=i_3) rfl rfl rfl ha (List.length_map _) rfl (by omega)) ?_;refine TS.y rfl (Yv.az 0 (i:=i_3) (j:=0) rfl rfl rfl ha (by omega) rfl rfl) ?_;refine TS.run 2 rfl ?_;refine TS.y rfl (Yv.ao (i:=i_3) rfl rfl rfl hb (List.length_map _) rfl (by omega)) ?_;refine TS.y rfl (Yv.az 0 (i:=i_3) (j:=0) rfl rfl rfl hb (by omega) rfl rfl) ?_;refine TS.run 1 rfl ?_;refine TS.done ?_;refine K.seq ?_;refine T.cond rfl (fun h5=>?_) (fun h5=>?_)
    ·have p5:=of_decide_eq_true h5;replace hk:=zab hk h5;refine T.seq ?_;refine T.as (.still 0 (.still 1 (.still 2 (.still 3 (.still 4 (.still 5 (.still 6 (.still 7 (.still 8 (.still 9 .done)))))))))) _ (by kernel_rfl) (List.Sublist.refl _) ?_;refine TS.run 2 rfl ?_;refine TS.y rfl (Yv.ao (i:=i_3) rfl rfl rfl ha (List.length_map _) rfl (by omega)) ?_;refine TS.y rfl (Yv.az 0 (i:=i_3) (j:=0) rfl rfl rfl ha (by omega) rfl rfl) ?_;refine TS.run 2 rfl ?_;refine TS.y rfl (Yv.ao (i:=i_3) rfl rfl rfl hb (List.length_map _) rfl (by omega)) ?_;refine TS.y rfl (Yv.az 0 (i:=i_3) (j:=0) rfl rfl rfl hb (by omega) rfl rfl) ?_;refine TS.run 2 rfl ?_;refine TS.done ?_;refine K.seq (T.ret (K.ag (K.aa (K.aa (K.ag (K.aa ?_))))));obtain rfl:=Option.some.inj hk;exact K.ah rfl rfl (fun w' hw=>⟨rfl,hw.isBelow⟩)
    ·have p5:=of_decide_eq_false h5;replace hk:=zaa hk h5;refine T.skip (K.ad (K.seq (T.region ?_)));refine TL.run 1 rfl ?_;refine TL.y (Yv.an rfl rfl rfl (by omega)) ?_;refine TL.run 1 rfl ?_;refine TL.nil ?_;rw [←hn2] at hk;exact K.next (i_3+1) hk (by omega) (.c (.c (.c .nil))) (List.Sublist.refl _)
   ·have p4:=of_decide_eq_false h4;rw [zas (by omega),←hkk2] at hk; (try dsimp only at hk);refine T.exit (K.ab (K.ab (K.ae ?_)));exact K.aj () hk .nil (List.Sublist.refl _)
 ·rintro _ hk;rw [←hk1] at hk; (try dsimp only at hk);refine T.sr ?_;refine TL.run 1 rfl ?_;refine TL.ns (T.ret ?_);obtain rfl:=Option.some.inj hk;exact K.ah rfl rfl (fun w' hw=>⟨rfl,hw.isBelow⟩)
def zaC (x_:GPair):List Int:=
 [x_.A,x_.B,x_.Offset,x_.Low,x_.High]
theorem zdT (F0:Frz)(w:World)(hF0:F0.At w)(x_:GPair):Calls Tryz.prog 58 #[.agg [.int .i64 x_.A, .int .i64 x_.B, .int .i64 x_.Offset, .int .i64 x_.Low, .int .i64 x_.High].toArray] w fun e w'=>∃(y:Value) (G:Frz),(SlC G y 1 ((zaC x_).map eI))∧e= .returned (y)∧Fx F0 w G w':=by
 obtain ⟨r,hk⟩:∃r,zaC x_=r:=⟨_,rfl⟩;rw [hk];unfold zaC at hk;obtain ⟨S0,F1,rfl,hS0,hp0⟩:=zan hF0;refine zac Tryz.func58 rfl rfl rfl hp0 ?_;refine T.sr ?_;refine TL.e (Ew.aA rfl rfl) ?_;rintro _ _ ⟨g1,rfl,rfl⟩;refine TL.run 1 rfl ?_;refine TL.nx ?_;refine TL.y (Yv.fieldAddr rfl rfl) ?_;refine TL.y (Yv.ac 0 rfl rfl rfl rfl) ?_;refine TL.y (Yv.fieldAddr rfl rfl) ?_;refine TL.y (Yv.ac 0 rfl rfl rfl rfl) ?_;refine TL.y (Yv.fieldAddr rfl rfl) ?_;refine TL.y (Yv.ac 0 rfl rfl rfl rfl) ?_;refine TL.y (Yv.fieldAddr rfl rfl) ?_;refine TL.y (Yv.ac 0 rfl rfl rfl rfl) ?_;refine TL.y (Yv.fieldAddr rfl rfl) ?_;refine TL.y (Yv.ac 0 rfl rfl rfl rfl) ?_;refine TL.e (Ew.buildSlice rfl rfl rfl (by decide)) ?_;rintro _ _ ⟨g13,rfl,rfl⟩;refine TL.run 1 rfl ?_;refine TL.ns (T.ret ?_);refine K.aX (fun w hw=>hw.freezeR (i:=2) (j:=0) (by decide) rfl rfl) ?_;rintro F2 ⟨le1_2,hz2⟩;dsimp only [List.set,List.eraseIdx];have hf2:SlC F2.toFrz (.slice (some ⟨g13,0,none⟩) 5 5) 1 ([x_.A,x_.B,x_.Offset,x_.Low,x_.High].map eI):=(SlK.lit hz2 rfl (Nat.le_refl _) (by decide)).toF (xs:=[x_.A,x_.B,x_.Offset,x_.Low,x_.High]) rfl (fun _=>rfl);subst hk;exact K.ah rfl rfl (fun w' hw=>⟨(.slice (some ⟨g13,0,none⟩) 5 5),F2.toFrz,hf2,rfl,Fx.of hw (i:=1) rfl hS0 le1_2⟩)
def zaB (x_:GLoad):List Int:=
 [x_.To,x_.From,x_.Weight,x_.Low,x_.High]
theorem zdR (F0:Frz)(w:World)(hF0:F0.At w)(x_:GLoad):Calls Tryz.prog 59 #[.agg [.int .i64 x_.To, .int .i64 x_.From, .int .i64 x_.Weight, .int .i64 x_.Low, .int .i64 x_.High].toArray] w fun e w'=>∃(y:Value) (G:Frz),(SlC G y 1 ((zaB x_).map eI))∧e= .returned (y)∧Fx F0 w G w':=by
 obtain ⟨r,hk⟩:∃r,zaB x_=r:=⟨_,rfl⟩;rw [hk];unfold zaB at hk;obtain ⟨S0,F1,rfl,hS0,hp0⟩:=zan hF0;refine zac Tryz.func59 rfl rfl rfl hp0 ?_;refine T.sr ?_;refine TL.e (Ew.aA rfl rfl) ?_;rintro _ _ ⟨g1,rfl,rfl⟩;refine TL.run 1 rfl ?_;refine TL.nx ?_;refine TL.y (Yv.fieldAddr rfl rfl) ?_;refine TL.y (Yv.ac 0 rfl rfl rfl rfl) ?_;refine TL.y (Yv.fieldAddr rfl rfl) ?_;refine TL.y (Yv.ac 0 rfl rfl rfl rfl) ?_;refine TL.y (Yv.fieldAddr rfl rfl) ?_;refine TL.y (Yv.ac 0 rfl rfl rfl rfl) ?_;refine TL.y (Yv.fieldAddr rfl rfl) ?_;refine TL.y (Yv.ac 0 rfl rfl rfl rfl) ?_;refine TL.y (Yv.fieldAddr rfl rfl) ?_;refine TL.y (Yv.ac 0 rfl rfl rfl rfl) ?_;refine TL.e (Ew.buildSlice rfl rfl rfl (by decide)) ?_;rintro _ _ ⟨g13,rfl,rfl⟩;refine TL.run 1 rfl ?_;refine TL.ns (T.ret ?_);refine K.aX (fun w hw=>hw.freezeR (i:=2) (j:=0) (by decide) rfl rfl) ?_;rintro F2 ⟨le1_2,hz2⟩;dsimp only [List.set,List.eraseIdx];have hf2:SlC F2.toFrz (.slice (some ⟨g13,0,none⟩) 5 5) 1 ([x_.To,x_.From,x_.Weight,x_.Low,x_.High].map eI):=(SlK.lit hz2 rfl (Nat.le_refl _) (by decide)).toF (xs:=[x_.To,x_.From,x_.Weight,x_.Low,x_.High]) rfl (fun _=>rfl);subst hk;exact K.ah rfl rfl (fun w' hw=>⟨(.slice (some ⟨g13,0,none⟩) 5 5),F2.toFrz,hf2,rfl,Fx.of hw (i:=1) rfl hS0 le1_2⟩)
def zaI (x_:GCap):List Int:=
 [x_.Station,x_.Max,x_.Low,x_.High]
theorem zey (F0:Frz)(w:World)(hF0:F0.At w)(x_:GCap):Calls Tryz.prog 60 #[.agg [.int .i64 x_.Station, .int .i64 x_.Max, .int .i64 x_.Low, .int .i64 x_.High].toArray] w fun e w'=>∃(y:Value) (G:Frz),(SlC G y 1 ((zaI x_).map eI))∧e= .returned (y)∧Fx F0 w G w':=by
 obtain ⟨r,hk⟩:∃r,zaI x_=r:=⟨_,rfl⟩;rw [hk];unfold zaI at hk;obtain ⟨S0,F1,rfl,hS0,hp0⟩:=zan hF0;refine zac Tryz.func60 rfl rfl rfl hp0 ?_;refine T.sr ?_;refine TL.e (Ew.aA rfl rfl) ?_;rintro _ _ ⟨g1,rfl,rfl⟩;refine TL.run 1 rfl ?_;refine TL.nx ?_;refine TL.y (Yv.fieldAddr rfl rfl) ?_;refine TL.y (Yv.ac 0 rfl rfl rfl rfl) ?_;refine TL.y (Yv.fieldAddr rfl rfl) ?_;refine TL.y (Yv.ac 0 rfl rfl rfl rfl) ?_;refine TL.y (Yv.fieldAddr rfl rfl) ?_;refine TL.y (Yv.ac 0 rfl rfl rfl rfl) ?_;refine TL.y (Yv.fieldAddr rfl rfl) ?_;refine TL.y (Yv.ac 0 rfl rfl rfl rfl) ?_;refine TL.e (Ew.buildSlice rfl rfl rfl (by decide)) ?_;rintro _ _ ⟨g11,rfl,rfl⟩;refine TL.run 1 rfl ?_;refine TL.ns (T.ret ?_);refine K.aX (fun w hw=>hw.freezeR (i:=2) (j:=0) (by decide) rfl rfl) ?_;rintro F2 ⟨le1_2,hz2⟩;dsimp only [List.set,List.eraseIdx];have hf2:SlC F2.toFrz (.slice (some ⟨g11,0,none⟩) 4 4) 1 ([x_.Station,x_.Max,x_.Low,x_.High].map eI):=(SlK.lit hz2 rfl (Nat.le_refl _) (by decide)).toF (xs:=[x_.Station,x_.Max,x_.Low,x_.High]) rfl (fun _=>rfl);subst hk;exact K.ah rfl rfl (fun w' hw=>⟨(.slice (some ⟨g11,0,none⟩) 4 4),F2.toFrz,hf2,rfl,Fx.of hw (i:=1) rfl hS0 le1_2⟩)
end Go.Proofs.YtbpbhbkcahcdiaaGreatDoor
