/- Pm M8 Pf Cd Ce Sa Sb Sc Pb Sd M13 Se M14 Ff Fo St Fv Sz Ka Yn Sk: shortened and put together by squeeze.py. -/
import Derived.Test.YtbpkdjionfhohaaDoorQ06
import Derived.Laws.Slices
set_option maxRecDepth 100000
set_option maxHeartbeats 4000000
set_option linter.unusedVariables false
set_option linter.unusedSectionVars false
set_option linter.unusedSimpArgs false
namespace Go.Proofs.YtbpkdjionfhohaaDoor
open Go.RowKit
theorem zd4 {α:Type}{f:BitVec 64→α→BitVec 64}{h:α→Bool}{j:Nat}(hf:∀g x,(f g x).getLsbD j=(g.getLsbD j||h x)):∀(l:List α) (g:BitVec 64),(l.foldl f g).getLsbD j=(g.getLsbD j||l.any h)
 | [],g=>by simp
 |x :: r,g=>by rw [List.foldl_cons,zd4 hf r,hf,List.any_cons,Bool.or_assoc]
theorem zgU {α:Type}{f:BitVec 64→α→BitVec 64}{h:α→Bool}{j:Nat}:∀(l:List α) (g:BitVec 64),(∀x∈l,∀g,(f g x).getLsbD j=(g.getLsbD j||h x))→(l.foldl f g).getLsbD j=(g.getLsbD j||l.any h)
 | [],g,_=>by simp
 |x :: r,g,hf=>by rw [List.foldl_cons,zgU r _ (fun y hy=>hf y (by simp [hy])),hf x (by simp),List.any_cons,Bool.or_assoc]
theorem zgn {c j:Nat}(hj:j<64):(1#64 <<< c).getLsbD j=decide (c=j):=by
 rw [BitVec.getLsbD_shiftLeft,BitVec.getLsbD_one];by_cases h:c=j
 ·subst h;simp [hj]
 ·by_cases h2:j<c
  ·simp [h2,h]
  ·simp [hj,h];omega
theorem ze3 {g:BitVec 64}{c j:Nat}(hj:j<64):(g ||| 1#64 <<< c).getLsbD j=(g.getLsbD j||decide (c=j)):=by rw [BitVec.getLsbD_or,zgn hj]
def zc3 (L:Ws)(i j:Nat)(x:Pr):Bool:=
 if x.a=(i:Int) then decide ((only L x.b.toNat:Int)≠0∧x.lo≤(only L x.b.toNat:Int) - x.off∧(only L x.b.toNat:Int) - x.off≤x.hi∧((only L x.b.toNat:Int) - x.off).toNat=j)
 else decide (x.lo≤(only L x.a.toNat:Int)∧(only L x.a.toNat:Int)≤x.hi∧((only L x.a.toNat:Int)+x.off).toNat=j)
theorem zfF {Y:Tb}{L:Ws}{i j:Nat}(hj:j<64):(zb7 Y L i).getLsbD j=(Y.ps i).any (zc3 L i j):=by
 unfold zb7;rw [zd4 (h:=zc3 L i j) (fun g x=>?_),BitVec.getLsbD_zero,Bool.false_or];unfold zbi zc3
 split
 ·split
  ·rename_i h;rw [ze3 hj];congr 1;exact decide_eq_decide.2 ⟨fun hh=>⟨h.1,h.2.1,h.2.2,hh⟩,fun hh=>hh.2.2.2⟩
  ·rename_i h;have:¬((only L x.b.toNat:Int)≠0∧x.lo≤(only L x.b.toNat:Int) - x.off∧(only L x.b.toNat:Int) - x.off≤x.hi∧((only L x.b.toNat:Int) - x.off).toNat=j):=fun hh=>h ⟨hh.1,hh.2.1,hh.2.2.1⟩;rw [decide_eq_false this,Bool.or_false]
 ·split
  ·rename_i h;rw [ze3 hj];simp [h]
  ·rename_i h;have:¬(x.lo≤(only L x.a.toNat:Int)∧(only L x.a.toNat:Int)≤x.hi∧((only L x.a.toNat:Int)+x.off).toNat=j):=fun hh=>h ⟨hh.1,hh.2.1⟩;rw [decide_eq_false this,Bool.or_false]
theorem zgb {f:Nat→Int}{g:BitVec 64}{x:Cp}{j:Nat}(hj:j<64)(hlo:0≤x.lo)(hhi:0≤x.hi):(zcY f g x).getLsbD j=(g.getLsbD j||decide (x.lo≤(j:Int)∧(j:Int)≤x.hi∧x.mx<f j)):=by
 unfold zcY;rw [zd4 (h:=fun d=>decide (x.mx<f d)&&decide (d=j)) (fun g d=>?_)]
 ·congr 1
  rw [Bool.eq_iff_iff,List.any_eq_true,decide_eq_true_eq];constructor
  ·rintro ⟨d,hd,h⟩;obtain ⟨h1,h2⟩:=List.mem_range'_1.1 hd;simp only [Bool.and_eq_true,decide_eq_true_eq] at h;obtain ⟨h3,rfl⟩:=h;exact ⟨by omega,by omega,h3⟩
  ·rintro ⟨h1,h2,h3⟩;exact ⟨j,List.mem_range'_1.2 ⟨by omega,by omega⟩,by simp [h3]⟩
 ·unfold zfn
  split
  ·rename_i h;rw [ze3 hj];simp [h]
  ·rename_i h;simp [h]
theorem zgC {Y:Tb}{L:Ws}{i j:Nat}(hok:Y.Ok)(hi:i<Y.n)(hj:j<64):(zcN Y L i).getLsbD j=(Y.cs i).any fun x=>decide (x.lo≤(j:Int)∧(j:Int)≤x.hi∧x.mx<zaN L (Y.inn i) j):=by
 unfold zcN;rw [zgU (h:=fun x=>decide (x.lo≤(j:Int)∧(j:Int)≤x.hi∧x.mx<zaN L (Y.inn i) j)) _ _ (fun x hx g=>by have:=(hok.cs i hi).2 x hx;exact zgb hj (by omega) (by omega)),BitVec.getLsbD_zero,Bool.false_or]
def zc0 (Y:Tb)(L:Ws)(i j:Nat)(x:Ld):Bool:=decide (x.lo≤(only L x.to.toNat:Int)∧(only L x.to.toNat:Int)≤x.hi∧only L x.to.toNat=j∧∃c∈Y.cs x.to.toNat,(c.lo≤(j:Int)∧(j:Int)≤c.hi)∧c.mx<zb8 L i j (Y.inn x.to.toNat))
theorem zjN {lost:Int}{d j:Nat}{l:List Cp}{g:BitVec 64}(hj:j<64):(l.foldl (zcv lost d) g).getLsbD j=(g.getLsbD j||(decide (d=j)&&decide (∃c∈l,(c.lo≤(d:Int)∧(d:Int)≤c.hi)∧c.mx<lost))):=by
 rw [zd4 (h:=fun c=>decide (d=j)&&decide ((c.lo≤(d:Int)∧(d:Int)≤c.hi)∧c.mx<lost)) (fun g c=>?_)]
 ·congr 1
  rw [Bool.eq_iff_iff,List.any_eq_true];simp only [Bool.and_eq_true,decide_eq_true_eq];constructor
  ·rintro ⟨c,hc,h1,h2⟩;exact ⟨h1,c,hc,h2⟩
  ·rintro ⟨h1,c,hc,h2⟩;exact ⟨c,hc,h1,h2⟩
 ·unfold zcv
  split
  ·rename_i h;rw [ze3 hj];simp [h]
  ·rename_i h;simp [h]
theorem zfO {Y:Tb}{L:Ws}{i j:Nat}(hj:j<64):(zb9 Y L i).getLsbD j=(Y.out i).any (zc0 Y L i j):=by
 unfold zb9;rw [zd4 (h:=zc0 Y L i j) (fun g x=>?_),BitVec.getLsbD_zero,Bool.false_or];unfold za5
 split
 ·rename_i h;rcases h with h|h
  ·rw [show zc0 Y L i j x=false from decide_eq_false (fun hh=>by omega),Bool.or_false]
  ·cases hh:zc0 Y L i j x with
   |false=>rw [Bool.or_false]
   |true=>
    have:=of_decide_eq_true hh;rw [this.2.2.1] at h;rw [h];rfl
 ·rename_i h;rw [zjN hj]
  congr 1
  unfold zc0;rw [Bool.eq_iff_iff];simp only [Bool.and_eq_true,decide_eq_true_eq];constructor
  ·rintro ⟨rfl,hc⟩;exact ⟨by omega,by omega,rfl,hc⟩
  ·rintro ⟨_,_,rfl,hc⟩;exact ⟨rfl,hc⟩
def Le' (S M:Ws):Prop:=∀i j,(nth S i).getLsbD j=true→(nth M i).getLsbD j=true
theorem zie {a b:BitVec 64}(hs:∀j,a.getLsbD j=true→b.getLsbD j=true)(ha:a≠0#64)(h:zbr b≠0):zbr a=zbr b:=by
 by_cases e:a=b
 ·rw [e]
 ·exact absurd (zeX hs e ha) h
section
variable {Y:Tb}{S M:Ws}
theorem zhB (hle:Le' S M)(hne:∀i,i<Y.n→nth S i≠0#64){k:Nat}(hk:k<Y.n)(h:only M k≠0):only S k=only M k:=zie (hle k) (hne k hk) h
theorem zff (hok:Y.Ok)(hle:Le' S M)(hne:∀i,i<Y.n→nth S i≠0#64){d:Nat}(hd:d≠0):∀(l:List Ld),(∀x∈l,0≤x.fr∧x.fr<Y.n∧1≤x.wt)→∀f f':Nat→Int,f d≤f' d→l.foldl (zaL M) f d≤l.foldl (zaL S) f' d
 | [],_,f,f',h=>h
 |x :: r,hx,f,f',h=>by
  rw [List.foldl_cons,List.foldl_cons];refine zff hok hle hne hd r (fun y hy=>hx y (by simp [hy])) _ _ ?_;have h1:=hx x (by simp);unfold zaL;by_cases hh:x.lo≤(only M x.fr.toNat:Int)∧(only M x.fr.toNat:Int)≤x.hi∧only M x.fr.toNat=d
  ·have e:=zhB (Y:=Y) hle hne (k:=x.fr.toNat) (by omega) (by omega);rw [if_pos hh,if_pos (by rw [e];exact hh)];omega
  ·rw [if_neg hh];split <;> omega
theorem zgP (hok:Y.Ok)(hle:Le' S M)(hne:∀i,i<Y.n→nth S i≠0#64){i d:Nat}(hd:d≠0):∀(l:List Ld),(∀x∈l,0≤x.fr∧x.fr<Y.n∧1≤x.wt)→∀s s':Int,s≤s'→l.foldl (zaZ M i d) s≤l.foldl (zaZ S i d) s'
 | [],_,s,s',h=>h
 |x :: r,hx,s,s',h=>by
  rw [List.foldl_cons,List.foldl_cons];refine zgP hok hle hne hd r (fun y hy=>hx y (by simp [hy])) _ _ ?_;have h1:=hx x (by simp);unfold zaZ;by_cases hh:(x.lo≤(d:Int)∧(d:Int)≤x.hi)∧(x.fr=(i:Int)∨only M x.fr.toNat=d)
  ·rw [if_pos hh,if_pos ⟨hh.1,by
    rcases hh.2 with h2|h2
    ·exact .inl h2
    ·exact .inr (by rw [zhB (Y:=Y) hle hne (k:=x.fr.toNat) (by omega) (by omega)];exact h2)⟩]
   omega
  ·rw [if_neg hh];split <;> omega
theorem zig (hok:Y.Ok)(hle:Le' S M)(hne:∀i,i<Y.n→nth S i≠0#64){i j:Nat}(hi:i<Y.n)(h:(zbQ Y M i).getLsbD j=true):(zbQ Y S i).getLsbD j=true:=by
 have hj:j<64:=BitVec.lt_of_getLsbD h;unfold zbQ at h ⊢;rw [BitVec.getLsbD_or,BitVec.getLsbD_or,zfF hj,zgC hok hi hj,zfO hj,Bool.or_eq_true,Bool.or_eq_true,List.any_eq_true,List.any_eq_true,List.any_eq_true] at h ⊢;rcases h with (⟨x,hx,h⟩|⟨x,hx,h⟩)|⟨x,hx,h⟩
 ·refine .inl (.inl ⟨x,hx,?_⟩);have hr:=(hok.ps i hi).2 x hx;unfold zc3 at h ⊢
  split at h
  ·rename_i ha;rw [if_pos ha];have h1:=of_decide_eq_true h;have e:=zhB (Y:=Y) hle hne (k:=x.b.toNat) (by omega) (by omega);rw [e];exact h
  ·rename_i ha;rw [if_neg ha];have h1:=of_decide_eq_true h;have e:=zhB (Y:=Y) hle hne (k:=x.a.toNat) (by omega) (by omega);rw [e];exact h
 ·refine .inl (.inr ⟨x,hx,?_⟩);have hr:=(hok.cs i hi).2 x hx;have h1:=of_decide_eq_true h;have hm:=zff hok hle hne (d:=j) (by omega) (Y.inn i) (fun y hy=>by have:=(hok.inn i hi).2 y hy;omega) (fun _=>0) (fun _=>0) (Int.le_refl _);exact decide_eq_true ⟨h1.1,h1.2.1,by have:zaN M (Y.inn i) j≤zaN S (Y.inn i) j:=hm;omega⟩
 ·refine .inr ⟨x,hx,?_⟩;have hr:=(hok.out i hi).2 x hx;have h1:=of_decide_eq_true h;obtain ⟨h2,h3,h4,c,hc,h5,h6⟩:=h1;have e:=zhB (Y:=Y) hle hne (k:=x.to.toNat) (by omega) (by omega);have hm:=zgP hok hle hne (i:=i) (d:=j) (by omega) (Y.inn x.to.toNat) (fun y hy=>by have:=(hok.inn _ (show x.to.toNat<Y.n by omega)).2 y hy;omega) 0 0 (Int.le_refl _);exact decide_eq_true ⟨by rw [e];exact h2,by rw [e];exact h3,by rw [e];exact h4,c,hc,h5,by have:zb8 M i j (Y.inn x.to.toNat)≤zb8 S i j (Y.inn x.to.toNat):=hm;omega⟩
structure Closed (Y:Tb) (S:Ws):Prop where
 len:S.length=Y.n
 calm:∀i,i<Y.n→zfh Y S i
theorem Closed.ne (h:Closed Y S):∀i,i<Y.n→nth S i≠0#64:=fun i hi=>(h.calm i hi).1
theorem Closed.keep (hok:Y.Ok)(h:Closed Y S){L:Ws}(hl:L.length=Y.n)(hle:Le' S L)(hr:Reach Y L M):Le' S M:=by
 induction hr with
 |refl=>exact hle
 | @step M' k b hr hk hb ih=>
  intro i j hij;rw [zbd (by rw [hr.len,hl];exact hk)]
  split
  ·rename_i e;subst e;rw [BitVec.getLsbD_and,ih i j hij,BitVec.getLsbD_not,Bool.true_and];have hj:j<64:=BitVec.lt_of_getLsbD hij
   cases hbj:b.getLsbD j with
   |false=>simp [hj]
   |true=>
    have h1:=zig hok ih h.ne hk (hb j hbj);have h2:=congrArg (fun v=>BitVec.getLsbD v j) (h.calm i hk).2;simp only [BitVec.getLsbD_and,BitVec.getLsbD_zero] at h2;rw [hij,h1] at h2
    cases h2
  ·exact ih i j hij
structure Is (Y:Tb) (T L:Ws) (c:Bool):Prop where
 tlen:T.length=Y.n
 len:L.length=Y.n
 sub:Le' L T
 best:∀S,Closed Y S→Le' S T→Le' S L
 bad:c=true→∃i,i<Y.n∧nth L i=0#64
 good:c=false→Closed Y L
theorem Is.of {T L:Ws}{c:Bool}(hok:Y.Ok)(hl:T.length=Y.n)(h:SPost Y T L c):Is Y T L c:=
 ⟨hl,h.2.1,h.1.sub hl,fun S hS hle=>hS.keep hok hl hle h.1,h.2.2.1,fun hc=>⟨h.2.1,h.2.2.2 hc⟩⟩
theorem Le'.antisymm (h1:Le' S M)(h2:Le' M S)(hl:S.length=M.length):S=M:=by
 apply List.ext_getElem hl;intro i hi1 hi2;have a1:=h1 i;have a2:=h2 i;rw [zam hi1,zam hi2] at a1 a2;apply BitVec.eq_of_getLsbD_eq;intro j _
 cases h:S[i].getLsbD j with
 |true=>rw [a1 j h]
 |false=>
  cases h':M[i].getLsbD j with
  |false=>rfl
  |true=>rw [a2 j h'] at h;cases h
theorem Is.cut {T L L':Ws}{c:Bool}{i:Nat}{g:BitVec 64}(hok:Y.Ok)(hi:i<Y.n)(h:Is Y T L false)(k:Is Y (cutL L i g) L' c):Is Y (cutL T i g) L' c where
 tlen:=by unfold cutL;rw [List.length_set,h.tlen]
 len:=k.len
 sub a j hj:=by
  have h1:=k.sub a j hj;unfold cutL at h1 ⊢;rw [zbd (by rw [h.len];exact hi)] at h1;rw [zbd (by rw [h.tlen];exact hi)]
  split at h1
  ·rename_i e;rw [if_pos e];rw [BitVec.getLsbD_and,Bool.and_eq_true] at h1 ⊢;exact ⟨h.sub _ _ h1.1,h1.2⟩
  ·rename_i e;rw [if_neg e];exact h.sub _ _ h1
 best S hS hle:=k.best S hS (fun a j hj=>by
  have h0:Le' S T:=fun a j hj=>by
   have:=hle a j hj;unfold cutL at this;rw [zbd (by rw [h.tlen];exact hi)] at this
   split at this
   ·rename_i e;subst e;rw [BitVec.getLsbD_and,Bool.and_eq_true] at this;exact this.1
   ·exact this
  have h1:=h.best S hS h0 a j hj;have h2:=hle a j hj;unfold cutL at h2 ⊢;rw [zbd (by rw [h.tlen];exact hi)] at h2;rw [zbd (by rw [h.len];exact hi)]
  split at h2
  ·rename_i e;rw [if_pos e];subst e;rw [BitVec.getLsbD_and,Bool.and_eq_true] at h2 ⊢;exact ⟨h1,h2.2⟩
  ·rename_i e;rw [if_neg e];exact h1)
 bad:=k.bad
 good:=k.good
theorem Is.eq {T L K:Ws}{c:Bool}(hok:Y.Ok)(h:Is Y T L c)(hK:Closed Y K)(hr:Reach Y T K):L=K∧c=false:=by
 have hKT:Le' K T:=hr.sub h.tlen;have h1:=h.best K hK hKT
 have hc:c=false:=by
  cases c with
  |false=>rfl
  |true=>
   obtain ⟨i,hi,h0⟩:=h.bad rfl;exfalso;apply hK.ne i hi;apply BitVec.eq_of_getLsbD_eq;intro j _
   cases hh:(nth K i).getLsbD j with
   |false=>rw [BitVec.getLsbD_zero]
   |true=>have:=h1 i j hh;rw [h0,BitVec.getLsbD_zero] at this;cases this
 subst hc;exact ⟨Le'.antisymm ((h.good rfl).keep hok h.tlen h.sub hr) h1 (by rw [h.len,hK.len]),rfl⟩
end
theorem zj7 (ds:List Dx):∀k j,0≤ixAt ds k j∧ixAt ds k j≤(k:Int)
 |0,j=>by simp [ixAt]
 |k+1,j=>by
  have:=zj7 ds k j
  show 0≤(if j=(nth ds k).st.toNat then (k:Int)+1 else ixAt ds k j)∧(if j=(nth ds k).st.toNat then (k:Int)+1 else ixAt ds k j)≤((k+1:Nat):Int)
  split <;> omega
theorem TbOf.n {P:Pb}{Y:Tb}(h:TbOf P Y):Y.n=P.ds.length:=by unfold Tb.n;rw [h.st];simp
theorem TbOf.ixn {P:Pb}{Y:Tb}(h:TbOf P Y):∀j,0≤Y.ix j∧Y.ix j≤Y.n:=fun j=>by rw [h.ix,h.n];exact zj7 _ _ _
theorem NewIs.is {P:Pb}{Y:Tb}{L:Ws}{c:Bool}{tp:Nat}{w0:World}(hG:P.Good)(h:NewIs P Y L c tp w0):Is Y P.left L c:=Is.of (h.tb.ok hG) (by rw [h.tb.n];simp [Pb.left]) h.post
theorem zhn {Y:Tb}{T L L':Ws}{c:Bool}{i:Nat}{g:BitVec 64}(hok:Y.Ok)(hi:i<Y.n)(h:Is Y T L false)(k:SPost Y (cutL L i g) L' c):Is Y (cutL T i g) L' c:=
 h.cut hok hi (Is.of hok (by unfold cutL;rw [List.length_set,h.len]) k)
structure Ac where
 kind:Int
 ch:Ch
deriving DecidableEq,Inhabited
def Ac.cells (a:Ac):List Value:=[.int .i64 a.kind, .int .i64 a.ch.st, .int .i64 a.ch.ch]
def Ac.bits (a:Ac):BitVec 64:=if a.kind=0 then ~~~(1#64 <<< a.ch.ch.toNat) else 1#64 <<< a.ch.ch.toNat
def actT (Y:Tb)(T:Ws)(a:Ac):Ws:=if (zaD Y false a.ch).2=0 then cutL T (zaD Y false a.ch).1.toNat a.bits else T
structure Fin (Y:Tb) (T L:Ws) (c:Bool):Prop where
 tlen:T.length=Y.n
 len:L.length=Y.n
 good:c=false→Is Y T L false
 bad:c=true→∀S,Closed Y S→¬Le' S T
section
variable {Y:Tb}{T L L':Ws}{c c':Bool}
theorem Is.fin (h:Is Y T L c):Fin Y T L c where
 tlen:=h.tlen
 len:=h.len
 good hc:=hc▸h
 bad hc S hS hle:=by
  obtain ⟨i,hi,h0⟩:=h.bad hc;apply hS.ne i hi;apply BitVec.eq_of_getLsbD_eq;intro j _
  cases hh:(nth S i).getLsbD j with
  |false=>rw [BitVec.getLsbD_zero]
  |true=>have:=h.best S hS hle i j hh;rw [h0,BitVec.getLsbD_zero] at this;cases this
theorem zh8 {i:Nat}{g:BitVec 64}:Le' (cutL T i g) T:=fun a j hj=>by
 unfold cutL at hj;by_cases hi:i<T.length
 ·rw [zbd hi] at hj
  split at hj
  ·rename_i e;subst e;rw [BitVec.getLsbD_and,Bool.and_eq_true] at hj;exact hj.1
  ·exact hj
 ·rw [List.set_eq_of_length_le (by omega)] at hj;exact hj
theorem zjw {a:Ac}:Le' (actT Y T a) T:=by
 unfold actT;split
 ·exact zh8
 ·exact fun _ _ h=>h
theorem zi1 {a:Ac}:(actT Y T a).length=T.length:=by
 unfold actT cutL;split <;> simp
theorem Fin.skip {a:Ac}(h:Fin Y T L true):Fin Y (actT Y T a) L true:=
 ⟨by rw [zi1,h.tlen],h.len,(fun hh=>by cases hh),fun _ S hS hle=>h.bad rfl S hS (fun i j hj=>zjw i j (hle i j hj))⟩
theorem Fin.step {a:Ac}(hok:Y.Ok)(hix:∀j,0≤Y.ix j∧Y.ix j≤Y.n)(h:Fin Y T L false)(he:(zaD Y false a.ch).2=0)(hp:SPost Y (cutL L (zaD Y false a.ch).1.toNat a.bits) L' c'):Fin Y (actT Y T a) L' c':=by
 unfold actT;rw [if_pos he];have:=zbR hix he;exact (zhn hok (by omega) (h.good rfl) hp).fin
theorem Fin.same (h:Fin Y T L c)(h':Fin Y T L' c'):c=c'∧(c=false→L=L'):=by
 have hc:c=c':=by
  cases c with
  |true=>
   cases c' with
   |true=>rfl
   |false=>exact absurd (h'.good rfl).sub (h.bad rfl L' ((h'.good rfl).good rfl))
  |false=>
   cases c' with
   |false=>rfl
   |true=>exact absurd (h.good rfl).sub (h'.bad rfl L ((h.good rfl).good rfl))
 subst hc;refine ⟨rfl,fun hf=>?_⟩;have a:=h.good hf;have b:=h'.good hf;exact Le'.antisymm (b.best L (a.good rfl) a.sub) (a.best L' (b.good rfl) b.sub) (by rw [h.len,h'.len])
end
def Pr.er (x:Pr):GPair:=⟨x.a,x.b,x.off,x.lo,x.hi⟩
def Ld.er (x:Ld):GLoad:=⟨x.to,x.fr,x.wt,x.lo,x.hi⟩
def Cp.er (x:Cp):GCap:=⟨x.st,x.mx,x.lo,x.hi⟩
def Dx.er (x:Dx):GDomain:=⟨x.st,x.chs⟩
def Pb.er (P:Pb):GProblem:=⟨P.ds.map Dx.er,⟨P.ps.map Pr.er,P.ls.map Ld.er,P.cs.map Cp.er⟩⟩
def gd (Y:Tb)(L:Ws):List GDomain:=(List.range Y.n).map fun i=>⟨nth Y.st i,(chansN (nth L i)).map fun j:Nat=>(j:Int)⟩
theorem zaO {Y:Tb}{L:Ws}:(gd Y L).length=Y.n:=by simp [gd]
theorem za7 {Y:Tb}{L:Ws}{i:Nat}(h:i<Y.n):nth (gd Y L) i=⟨nth Y.st i,(chansN (nth L i)).map fun j:Nat=>(j:Int)⟩:=by
 rw [zam (by rw [zaO];exact h)];simp [gd]
theorem zeW {b:BitVec 64}(hb:b≠0#64){c:Int}(hc:c≠0):(∀j∈chansN b,(j:Int)=c)↔((zbr b:Nat):Int)=c:=by
 have hz:=(zcz hb 0).1;constructor
 ·intro h;have h1:=h (ctz b) (chansN_mem.2 hz)
  have h2:b &&& (b - 1#64)=0#64:=by
   apply BitVec.eq_of_getLsbD_eq;intro j _;rw [zdy hb,BitVec.getLsbD_zero]
   cases hj:b.getLsbD j with
   |false=>rfl
   |true=>have:=h j (chansN_mem.2 hj);simp;omega
  unfold zbr;rw [if_pos ⟨hb,h2⟩];exact h1
 ·intro h j hj;unfold zbr at h
  split at h
  ·rename_i h2;have h3:=congrArg (fun v=>BitVec.getLsbD v j) h2.2;simp only [zdy hb,BitVec.getLsbD_zero,chansN_mem.1 hj,Bool.true_and,Bool.not_eq_false',decide_eq_true_eq] at h3;rw [h3];exact h
  ·exact absurd h.symm hc
theorem zdx {α:Type}{p q:α→Bool}:∀ {l:List α},(∀x∈l,p x=q x)→l.any p=l.any q
 | [],_=>rfl
 |x :: r,h=>by rw [List.any_cons,List.any_cons,h x (by simp),zdx (l:=r) (fun y hy=>h y (by simp [hy]))]
theorem zjR {P:Pb}(h:P.ok=true):P.ls.length≤1024:=by
 simp only [Pb.ok,Pb.rulesOk,Bool.and_eq_true,decide_eq_true_eq] at h;omega
section
variable {P:Pb}{Y:Tb}{L:Ws}
theorem TbOf.nth_st (hY:TbOf P Y){i:Nat}(hi:i<Y.n):nth Y.st i=(nth P.ds i).st:=by
 rw [hY.st];exact zbE (by rw [←hY.n];exact hi)
theorem zc8 (hG:P.Good)(hY:TbOf P Y){i j:Nat}(hi:i<Y.n)(hj:j<Y.n)(h:nth Y.st i=nth Y.st j):i=j:=by
 rw [hY.nth_st hi,hY.nth_st hj] at h;have hn:=hY.n;rcases Nat.lt_trichotomy i j with h1|h1|h1
 ·have:=hG.inc i j h1 (by omega);omega
 ·exact h1
 ·have:=hG.inc j i h1 (by omega);omega
theorem zcQ (hG:P.Good)(hY:TbOf P Y)(hne:∀i,i<Y.n→nth L i≠0#64){k:Nat}(hk:k<Y.n){c:Int}(hc:c≠0):zcn (gd Y L) (nth Y.st k) c=true↔((only L k:Nat):Int)=c:=by
 rw [zfs];unfold only;rw [←zeW (hne k hk) hc];constructor
 ·intro h j hj;exact h (nth (gd Y L) k) (zaR (by rw [zaO];exact hk)) (by rw [za7 hk]) j (by rw [za7 hk];exact List.mem_map.2 ⟨j,hj,rfl⟩)
 ·intro h x hx hs q hq;obtain ⟨i,hi,rfl⟩:=zb2 hx;rw [zaO] at hi;rw [za7 hi] at hs hq;obtain rfl:=zc8 hG hY hi hk hs;obtain ⟨j,hj,rfl⟩:=List.mem_map.1 hq;exact h j hj
theorem zf5 (hG:P.Good)(hY:TbOf P Y){i:Nat}(hi:i<Y.n):P.ix (nth Y.st i)=(i:Int):=by
 rw [hY.nth_st hi];exact Pb.ix_of hG (by rw [←hY.n];exact hi)
theorem ziR (hG:P.Good)(hY:TbOf P Y)(hne:∀i,i<Y.n→nth L i≠0#64){i j:Nat}(hi:i<Y.n)(hj:j<64):P.er.Rules.Pairs.any (zeL (gd Y L) (nth Y.st i) j)=(Y.ps i).any (zc3 L i j):=by
 have hn:=hY.n
 have key:∀x∈P.ps,((decide ((P.rp x).a=(i:Int))||decide ((P.rp x).b=(i:Int)))&&zc3 L i j (P.rp x))=zeL (gd Y L) (nth Y.st i) j x.er:=by
  intro x hx;obtain ⟨hok,⟨ia,hia,ha⟩,⟨ib,hib,hb⟩⟩:=hG.ps x hx;simp only [Pr.ok,rngB,inB,Bool.and_eq_true,decide_eq_true_eq] at hok; (have hsa:x.a=nth Y.st ia:=by rw [hY.nth_st (by omega)];exact ha); (have hsb:x.b=nth Y.st ib:=by rw [hY.nth_st (by omega)];exact hb); (have e1:(P.rp x).a=(ia:Int):=by unfold Pb.rp;dsimp only;rw [hsa,zf5 hG hY (by omega)]); (have e2:(P.rp x).b=(ib:Int):=by unfold Pb.rp;dsimp only;rw [hsb,zf5 hG hY (by omega)]);have e3:(P.rp x).off=x.off:=rfl;have e4:(P.rp x).lo=x.lo:=rfl;have e5:(P.rp x).hi=x.hi:=rfl;have ea:x.a=nth Y.st i↔ia=i:=⟨fun h=>zc8 hG hY (by omega) hi (hsa.symm.trans h),fun h=>by rw [hsa,h]⟩;have eb:x.b=nth Y.st i↔ib=i:=⟨fun h=>zc8 hG hY (by omega) hi (hsb.symm.trans h),fun h=>by rw [hsb,h]⟩;have w1:wI ((j:Int)+x.off)=(j:Int)+x.off:=zgW (by omega);have w2:wI ((j:Int) - x.off)=(j:Int) - x.off:=zgW (by omega);rw [Bool.eq_iff_iff];unfold zc3 zeL Pr.er;simp only [e1,e2,e3,e4,e5,w1,w2,Bool.and_eq_true,Bool.or_eq_true,decide_eq_true_eq,ea,eb,Int.toNat_natCast]; (have hab:ia≠ib:=fun h=>by subst h;omega);by_cases h1:ia=i
  ·subst h1;rw [if_pos rfl];simp only [decide_eq_true_eq];rw [hsb];constructor
   ·rintro ⟨_,h2,h3,h4,h5⟩;exact .inl ⟨⟨trivial,by omega,by omega⟩,(zcQ hG hY hne (by omega) (by omega)).2 (by omega)⟩
   ·rintro (⟨⟨_,h2⟩,h3⟩|⟨⟨h2,_⟩,_⟩)
    ·have:=(zcQ hG hY hne (k:=ib) (by omega) (by omega)).1 h3;exact ⟨.inl trivial,by omega,by omega,by omega,by omega⟩
    ·exact absurd h2.symm hab
  ·rw [if_neg (by omega)];simp only [decide_eq_true_eq];rw [hsa];constructor
   ·rintro ⟨h2,h3,h4,h5⟩;exact .inr ⟨⟨by omega,by omega,by omega⟩,(zcQ hG hY hne (by omega) (by omega)).2 (by omega)⟩
   ·rintro (⟨⟨h2,_⟩,_⟩|⟨⟨h2,h3⟩,h4⟩)
    ·exact absurd h2 h1
    ·have:=(zcQ hG hY hne (k:=ia) (by omega) (by omega)).1 h4;exact ⟨.inr (by omega),by omega,by omega,by omega⟩
 show (P.ps.map Pr.er).any _=_
 rw [hY.ps];unfold Pb.psA;rw [List.take_length,List.any_map,List.any_filter,List.any_map];exact zdx fun x hx=>(key x hx).symm
theorem zgk (hG:P.Good)(hY:TbOf P Y){x:Ld}(hx:x∈P.ls):∃a b,a<Y.n∧b<Y.n∧x.to=nth Y.st a∧x.fr=nth Y.st b∧(P.rl x).to=(a:Int)∧(P.rl x).fr=(b:Int)∧0≤x.fr∧1≤x.wt∧x.wt≤1073741824∧2≤x.lo:=by
 have hn:=hY.n;obtain ⟨hok,⟨ia,hia,ha⟩,⟨ib,hib,hb⟩⟩:=hG.ls x hx;simp only [Ld.ok,rngB,inB,Bool.and_eq_true,decide_eq_true_eq] at hok; (have hsa:x.to=nth Y.st ia:=by rw [hY.nth_st (by omega)];exact ha); (have hsb:x.fr=nth Y.st ib:=by rw [hY.nth_st (by omega)];exact hb);refine ⟨ia,ib,by omega,by omega,hsa,hsb,?_,?_,by omega,by omega,by omega,by omega⟩
 ·unfold Pb.rl;dsimp only;rw [hsa,zf5 hG hY (by omega)]
 ·unfold Pb.rl;dsimp only;rw [hsb,zf5 hG hY (by omega)]
theorem zgs (hG : P.Good) (hY : TbOf P Y) (hne : ∀ i, i < Y.n → nth L i ≠ 0#64) {t j : Nat} (ht : t < Y.n) (hj0 : j ≠ 0) : ∀ (l : List Ld), (∀ x ∈ l, x ∈ P.ls) → ∀ (f : Nat → Int), 0 ≤ f j → f j + 1073741824 * (l.length : Int) ≤ 4611686018427387904 →
    (l.map Ld.er).foldl (fun n x => bif loadC (gd Y L) (nth Y.st t) j (-1) x then wI (n + x.Weight) else n) (f j) = ((l.map P.rl).filter fun x => decide (x.to = (t : Int))).foldl (zaL L) f j
  | [], _, f, _, _ => rfl
  | x :: r, hl, f, h0, hb => by
    obtain ⟨a, b, ha, hbn, hsa, hsb, e1, e2, h1, h2, h3, h4⟩ := zgk hG hY (hl x (by simp)); simp only [List.length_cons] at hb; have hw : wI (f j + x.wt) = f j + x.wt := zgW (by omega); have hto : x.to = nth Y.st t ↔ a = t := ⟨fun h => zc8 hG hY ha ht (hsa.symm.trans h), fun h => by rw [hsa, h]⟩
    have hon : zcn (gd Y L) x.fr j = true ↔ only L b = j := by
      rw [hsb, zcQ hG hY hne hbn (by omega)]; omega
    rw [List.map_cons, List.map_cons, List.foldl_cons, List.filter_cons]
    have hc : loadC (gd Y L) (nth Y.st t) j (-1) x.er = decide (a = t ∧ (x.lo ≤ (j : Int) ∧ (j : Int) ≤ x.hi) ∧ only L b = j) := by
      rw [Bool.eq_iff_iff]; unfold loadC Ld.er; simp only [Bool.and_eq_true, Bool.or_eq_true, decide_eq_true_eq, hto, hon]; constructor
      · rintro ⟨⟨h5, h6⟩, h7 | h7⟩
        · omega
        · exact ⟨h5, h6, h7⟩
      · rintro ⟨h5, h6, h7⟩; exact ⟨⟨h5, h6⟩, .inr h7⟩
    rw [hc]; by_cases hat : a = t
    · subst hat; rw [if_pos (by rw [e1]; simp), List.foldl_cons]
      have hs : zaL L f (P.rl x) j = bif decide (a = a ∧ (x.lo ≤ (j : Int) ∧ (j : Int) ≤ x.hi) ∧ only L b = j) then wI (f j + x.er.Weight) else f j := by
        show (if x.lo ≤ (only L (P.rl x).fr.toNat : Int) ∧ (only L (P.rl x).fr.toNat : Int) ≤ x.hi ∧ only L (P.rl x).fr.toNat = j then f j + x.wt else f j) = _
        rw [e2, Int.toNat_natCast]; by_cases h5 : (x.lo ≤ (j : Int) ∧ (j : Int) ≤ x.hi) ∧ only L b = j
        · rw [if_pos ⟨by rw [h5.2]; omega, by rw [h5.2]; omega, h5.2⟩, decide_eq_true ⟨rfl, h5⟩, cond_true]; exact hw.symm
        · rw [if_neg (fun h6 => h5 ⟨by rw [← h6.2.2]; omega, h6.2.2⟩), decide_eq_false (fun h6 => h5 h6.2), cond_false]
      rw [← hs]; refine zgs hG hY hne ht hj0 r (fun y hy => hl y (by simp [hy])) (zaL L f (P.rl x)) ?_ ?_
      · rw [hs]; cases decide (a = a ∧ (x.lo ≤ (j : Int) ∧ (j : Int) ≤ x.hi) ∧ only L b = j)
        · exact h0
        · show 0 ≤ wI (f j + x.wt); rw [hw]; omega
      · rw [hs]; cases decide (a = a ∧ (x.lo ≤ (j : Int) ∧ (j : Int) ≤ x.hi) ∧ only L b = j)
        · rw [cond_false]; omega
        · show wI (f j + x.wt) + _ ≤ _; rw [hw]; omega
    · rw [if_neg (by rw [e1]; simp; omega), decide_eq_false (fun h => hat h.1), cond_false]; exact zgs hG hY hne ht hj0 r (fun y hy => hl y (by simp [hy])) f h0 (by omega)
theorem zho (hG : P.Good) (hY : TbOf P Y) (hne : ∀ i, i < Y.n → nth L i ≠ 0#64) {t i j : Nat} (ht : t < Y.n) (hi : i < Y.n) (hj0 : j ≠ 0) : ∀ (l : List Ld), (∀ x ∈ l, x ∈ P.ls) → ∀ (n : Int), 0 ≤ n → n + 1073741824 * (l.length : Int) ≤ 4611686018427387904 →
    (l.map Ld.er).foldl (fun n x => bif loadC (gd Y L) (nth Y.st t) j (nth Y.st i) x then wI (n + x.Weight) else n) n = ((l.map P.rl).filter fun x => decide (x.to = (t : Int))).foldl (zaZ L i j) n
  | [], _, n, _, _ => rfl
  | x :: r, hl, n, h0, hb => by
    obtain ⟨a, b, ha, hbn, hsa, hsb, e1, e2, h1, h2, h3, h4⟩ := zgk hG hY (hl x (by simp)); simp only [List.length_cons] at hb; have hw : wI (n + x.wt) = n + x.wt := zgW (by omega); have hto : x.to = nth Y.st t ↔ a = t := ⟨fun h => zc8 hG hY ha ht (hsa.symm.trans h), fun h => by rw [hsa, h]⟩; have hfr : x.fr = nth Y.st i ↔ b = i := ⟨fun h => zc8 hG hY hbn hi (hsb.symm.trans h), fun h => by rw [hsb, h]⟩
    have hon : zcn (gd Y L) x.fr j = true ↔ only L b = j := by
      rw [hsb, zcQ hG hY hne hbn (by omega)]; omega
    rw [List.map_cons, List.map_cons, List.foldl_cons, List.filter_cons]
    have hc : loadC (gd Y L) (nth Y.st t) j (nth Y.st i) x.er = decide (a = t ∧ (x.lo ≤ (j : Int) ∧ (j : Int) ≤ x.hi) ∧ (b = i ∨ only L b = j)) := by
      rw [Bool.eq_iff_iff]; unfold loadC Ld.er; simp only [Bool.and_eq_true, Bool.or_eq_true, decide_eq_true_eq, hto, hon, hfr, and_assoc]
    rw [hc]; by_cases hat : a = t
    · subst hat; rw [if_pos (by rw [e1]; simp), List.foldl_cons]
      have hs : zaZ L i j n (P.rl x) = bif decide (a = a ∧ (x.lo ≤ (j : Int) ∧ (j : Int) ≤ x.hi) ∧ (b = i ∨ only L b = j)) then wI (n + x.er.Weight) else n := by
        show (if (x.lo ≤ (j : Int) ∧ (j : Int) ≤ x.hi) ∧ ((P.rl x).fr = (i : Int) ∨ only L (P.rl x).fr.toNat = j) then n + x.wt else n) = _
        rw [e2, Int.toNat_natCast]; by_cases h5 : (x.lo ≤ (j : Int) ∧ (j : Int) ≤ x.hi) ∧ (b = i ∨ only L b = j)
        · rw [if_pos ⟨h5.1, h5.2.imp (fun h => by omega) id⟩, decide_eq_true ⟨rfl, h5⟩, cond_true]; exact hw.symm
        · rw [if_neg (fun h6 => h5 ⟨h6.1, h6.2.imp (fun h => by omega) id⟩), decide_eq_false (fun h6 => h5 h6.2), cond_false]
      rw [← hs]; refine zho hG hY hne ht hi hj0 r (fun y hy => hl y (by simp [hy])) _ ?_ ?_
      · rw [hs]; cases decide (a = a ∧ (x.lo ≤ (j : Int) ∧ (j : Int) ≤ x.hi) ∧ (b = i ∨ only L b = j))
        · exact h0
        · show 0 ≤ wI (n + x.wt); rw [hw]; omega
      · rw [hs]; cases decide (a = a ∧ (x.lo ≤ (j : Int) ∧ (j : Int) ≤ x.hi) ∧ (b = i ∨ only L b = j))
        · rw [cond_false]; omega
        · show wI (n + x.wt) + _ ≤ _; rw [hw]; omega
    · rw [if_neg (by rw [e1]; simp; omega), decide_eq_false (fun h => hat h.1), cond_false]; exact zho hG hY hne ht hi hj0 r (fun y hy => hl y (by simp [hy])) n h0 (by omega)
theorem zhI (hG:P.Good)(hY:TbOf P Y){t j:Nat}(ht:t<Y.n){l:Int}:zdI P.er (nth Y.st t) j l=true↔∃x∈Y.cs t,(x.lo≤(j:Int)∧(j:Int)≤x.hi)∧x.mx<l:=by
 have hn:=hY.n;unfold zdI
 show (P.cs.map Cp.er).any _=true↔_
 rw [hY.cs,List.any_eq_true];unfold Pb.csA;rw [List.take_length];constructor
 ·rintro ⟨y,hy,h⟩;obtain ⟨x,hx,rfl⟩:=List.mem_map.1 hy;rw [Bool.and_eq_true,Bool.and_eq_true] at h;have h1:x.st=nth Y.st t:=of_decide_eq_true h.1.1;refine ⟨P.rc x,List.mem_filter.2 ⟨List.mem_map.2 ⟨x,hx,rfl⟩,?_⟩,of_decide_eq_true h.1.2,of_decide_eq_true h.2⟩;unfold Pb.rc;dsimp only;rw [h1,zf5 hG hY ht];simp
 ·rintro ⟨y,hy,h⟩;obtain ⟨h1,h2⟩:=List.mem_filter.1 hy;obtain ⟨x,hx,rfl⟩:=List.mem_map.1 h1;refine ⟨x.er,List.mem_map.2 ⟨x,hx,rfl⟩,?_⟩;obtain ⟨_,k,hk,hs⟩:=hG.cs x hx; (have hs':x.st=nth Y.st k:=by rw [hY.nth_st (by omega)];exact hs);have h3:P.ix x.st=(t:Int):=of_decide_eq_true h2;rw [hs',zf5 hG hY (by omega)] at h3; (have:k=t:=by omega);subst this;rw [Bool.and_eq_true,Bool.and_eq_true];exact ⟨⟨decide_eq_true hs',decide_eq_true h.1⟩,decide_eq_true h.2⟩
theorem zhU (hG:P.Good)(hok:P.ok=true)(hY:TbOf P Y)(hne:∀i,i<Y.n→nth L i≠0#64){t j:Nat}(ht:t<Y.n)(hj0:j≠0):sumP P.er (gd Y L) (nth Y.st t) j (-1)=zaN L (Y.inn t) j:=by
 have hl:=zjR hok;unfold sumP zaN;rw [hY.inn];unfold Pb.inA;rw [List.take_length];exact zgs hG hY hne ht hj0 P.ls (fun _ h=>h) (fun _=>0) (Int.le_refl _) (by omega)
theorem ziy (hG:P.Good)(hok:P.ok=true)(hY:TbOf P Y)(hne:∀i,i<Y.n→nth L i≠0#64){t i j:Nat}(ht:t<Y.n)(hi:i<Y.n)(hj0:j≠0):sumP P.er (gd Y L) (nth Y.st t) j (nth Y.st i)=zb8 L i j (Y.inn t):=by
 have hl:=zjR hok;unfold sumP zb8;rw [hY.inn];unfold Pb.inA;rw [List.take_length];exact zho hG hY hne ht hi hj0 P.ls (fun _ h=>h) 0 (Int.le_refl _) (by omega)
theorem zgG (hok:P.ok=true)(hY:TbOf P Y)(hne:∀i,i<Y.n→nth L i≠0#64){i j:Nat}(hi:i<Y.n)(hj0:j≠0)(hj:j<64):remP P.er (gd Y L) (nth Y.st i) j=(zbQ Y L i).getLsbD j:=by
 have hG:=Pb.good hok;have hYo:=hY.ok hG;unfold remP zbQ;rw [BitVec.getLsbD_or,BitVec.getLsbD_or,zfF hj,zgC hYo hi hj,zfO hj,ziR hG hY hne hi hj]
 congr 1
 ·congr 1
  rw [Bool.eq_iff_iff,zhU hG hok hY hne hi hj0,zhI hG hY hi,List.any_eq_true];simp only [decide_eq_true_eq,and_assoc]
 ·have key:∀x∈P.ls,(decide ((P.rl x).fr=(i:Int))&&zc0 Y L i j (P.rl x))=loadR P.er (gd Y L) (nth Y.st i) j x.er:=by
   intro x hx;obtain ⟨a,b,ha,hbn,hsa,hsb,e1,e2,h1,h2,h3,h4⟩:=zgk hG hY hx;have hfr:x.fr=nth Y.st i↔b=i:=⟨fun h=>zc8 hG hY hbn hi (hsb.symm.trans h),fun h=>by rw [hsb,h]⟩
   have hon:zcn (gd Y L) x.to j=true↔only L a=j:=by
    rw [hsa,zcQ hG hY hne ha (by omega)];omega
   have hov:zdI P.er x.to j (sumP P.er (gd Y L) x.to j (nth Y.st i))=true↔∃c∈Y.cs a,(c.lo≤(j:Int)∧(j:Int)≤c.hi)∧c.mx<zb8 L i j (Y.inn a):=by
    rw [hsa,ziy hG hok hY hne ha hi hj0,zhI hG hY ha]
   rw [Bool.eq_iff_iff];unfold loadR;simp only [Bool.and_eq_true,decide_eq_true_eq]
   show _↔((x.fr=nth Y.st i∧x.lo≤(j:Int)∧(j:Int)≤x.hi)∧zcn (gd Y L) x.to j=true)∧zdI P.er x.to j (sumP P.er (gd Y L) x.to j (nth Y.st i))=true
   rw [hfr,hon,hov];unfold zc0;rw [decide_eq_true_eq,e1,e2,Int.toNat_natCast]
   show _∧x.lo≤(only L a:Int)∧(only L a:Int)≤x.hi∧_↔_
   constructor
   ·rintro ⟨h5,h6,h7,h8,h9⟩;exact ⟨⟨⟨by omega,by omega,by omega⟩,h8⟩,h9⟩
   ·rintro ⟨⟨⟨h5,h6,h7⟩,h8⟩,h9⟩;exact ⟨by omega,by omega,by omega,h8,h9⟩
  show (P.ls.map Ld.er).any _=_
  rw [hY.out];unfold Pb.ouA;rw [List.take_length,List.any_map,List.any_filter,List.any_map];exact zdx fun x hx=>(key x hx).symm
end
theorem chansN_sub {b:BitVec 64}:(chansN b).Sublist (List.range' 0 64):=by unfold chansN;exact List.filter_sublist
theorem zcu (b:BitVec 64):(chansN b).Nodup:=List.Nodup.sublist chansN_sub List.nodup_range'
theorem zfm (b:BitVec 64):(chansN b).length≤64:=by have:=(chansN_sub (b:=b)).length_le;simpa using this
theorem zfP {b:BitVec 64}(h:b≠0#64):chansN b≠[]:=fun e=>by
 have:=chansN_mem.2 (zcz h 0).1;rw [e] at this;cases this
theorem zdf {b c:BitVec 64}(h:∀j,c.getLsbD j=true→b.getLsbD j=true):chansN c=(chansN b).filter c.getLsbD:=by
 unfold chansN;rw [List.filter_filter];apply List.filter_congr;intro j _
 cases hc:c.getLsbD j with
 |false=>rfl
 |true=>rw [h j hc];rfl
theorem zbw {α:Type}[DecidableEq α]:∀ {a l:List α},a.Sublist l→l.Nodup→a=l.filter fun x=>decide (x∈a)
 |a,[],h,_=>by cases h;rfl
 |a,y :: l,h,hn=>by
  rw [List.nodup_cons] at hn
  cases h with
  |cons _ h=>
   have:y∉a:=fun hy=>hn.1 (h.subset hy);rw [List.filter_cons,if_neg (by simpa using this)];exact zbw h hn.2
  |cons_cons _ h=>
   rename_i a';rw [List.filter_cons,if_pos (by simp)]
   congr 1
   conv=>lhs;rw [zbw h hn.2]
   apply List.filter_congr;intro x hx;have:x≠y:=fun e=>hn.1 (e▸hx);simp [this]
theorem zcR {α:Type}[DecidableEq α]{a b l:List α}(ha:a.Sublist l)(hb:b.Sublist l)(hn:l.Nodup)(h:∀x,x∈a↔x∈b):a=b:=by
 rw [zbw ha hn,zbw hb hn];apply List.filter_congr;intro x _;exact decide_eq_decide.2 (h x)
theorem mapI_mem {l:List Nat}{c:Int}:c∈l.map (fun j:Nat=>(j:Int))↔∃j∈l,c=(j:Int):=by
 rw [List.mem_map];exact ⟨fun ⟨j,h,e⟩=>⟨j,h,e.symm⟩,fun ⟨j,h,e⟩=>⟨j,h,e.symm⟩⟩
theorem zdr {l:List Nat}(h:l.Nodup):(l.map fun j:Nat=>(j:Int)).Nodup:=List.Pairwise.map _ (fun a b h e=>h (by omega)) h
theorem zd9 (j:Nat)(hj:j<64):∀(l:List Int) (m:BitVec 64),(l.foldl (fun m c=>m ||| 1#64 <<< c.toNat) m).getLsbD j=(m.getLsbD j||l.any fun c=>decide (c.toNat=j))
 | [],m=>by simp
 |x :: r,m=>by rw [List.foldl_cons,zd9 j hj r,ze3 hj,List.any_cons,Bool.or_assoc]
theorem zcM {l:List Int}{j:Nat}(hl:∀c∈l,0≤c∧c<64):(zbk l).getLsbD j=true↔(j:Int)∈l:=by
 constructor
 ·intro h;have hj:=BitVec.lt_of_getLsbD h;unfold zbk at h;rw [zd9 j hj,BitVec.getLsbD_zero,Bool.false_or,List.any_eq_true] at h;obtain ⟨c,hc,h⟩:=h;have:=hl c hc;have h2:=of_decide_eq_true h;rw [show (j:Int)=c by omega];exact hc
 ·intro h;have:=hl _ h;unfold zbk;rw [zd9 j (by omega),BitVec.getLsbD_zero,Bool.false_or,List.any_eq_true];exact ⟨_,h,by simp⟩
section
variable {P:Pb}{Y:Tb}{L T:Ws}{c:Bool}
def In51 (T:Ws):Prop:=∀i j,(nth T i).getLsbD j=true→2≤j∧j≤51
theorem In51.le {S:Ws}(h:In51 T)(k:Le' S T):In51 S:=fun i j hj=>h i j (k i j hj)
theorem zdZ {i:Nat}(hi:i<Y.n){q:Int}:q∈(nth (gd Y L) i).Channels↔∃j:Nat,(nth L i).getLsbD j=true∧q=(j:Int):=by
 rw [za7 hi]
 show q∈(chansN (nth L i)).map (fun j:Nat=>(j:Int))↔_
 rw [mapI_mem];exact ⟨fun ⟨j,h,e⟩=>⟨j,chansN_mem.1 h,e⟩,fun ⟨j,h,e⟩=>⟨j,chansN_mem.2 h,e⟩⟩
theorem zid {S:Ws}(h:Le' S T):SubD (gd Y S) (gd Y T):=by
 refine ⟨by rw [zaO,zaO],fun i hi=>?_⟩;rw [zaO] at hi;refine ⟨by rw [za7 hi,za7 hi],fun q hq=>?_⟩;obtain ⟨j,hj,rfl⟩:=(zdZ hi).1 hq;exact (zdZ hi).2 ⟨j,h i j hj,rfl⟩
theorem zkr (hn:Y.n≤512):Bd (gd Y L):=by
 refine ⟨by rw [zaO];omega,fun x hx=>?_⟩;obtain ⟨i,hi,rfl⟩:=zb2 hx;rw [zaO] at hi;rw [za7 hi];refine ⟨?_,zdr (zcu _)⟩;have:=zfm (nth L i);simp;omega
theorem zjY (hok:P.ok=true):WtP P.er:=by
 refine ⟨?_,fun x hx=>?_⟩
 ·show (P.ls.map Ld.er).length≤1024
  rw [List.length_map];exact zjR hok
 ·obtain ⟨y,hy,rfl⟩:=List.mem_map.1 hx;have hok':=((Pb.good hok).ls y hy).1;simp only [Ld.ok,rngB,inB,Bool.and_eq_true,decide_eq_true_eq] at hok'
  show 0≤y.wt∧y.wt≤1073741824
  omega
theorem zfR (hok:P.ok=true)(hY:TbOf P Y)(h:Closed Y L)(hb:In51 L):ClosedD P.er (gd Y L):=by
 refine ⟨fun x hx=>?_,fun x hx q hq=>?_⟩
 ·obtain ⟨i,hi,rfl⟩:=zb2 hx;rw [zaO] at hi;rw [za7 hi];have:=zfP (h.ne i hi);simpa using this
 ·obtain ⟨i,hi,rfl⟩:=zb2 hx;rw [zaO] at hi;obtain ⟨j,hj,rfl⟩:=(zdZ hi).1 hq;have h2:=hb i j hj;rw [za7 hi]
  show remP P.er (gd Y L) (nth Y.st i) j=false
  rw [zgG hok hY h.ne hi (by omega) (by omega)];have h3:=congrArg (fun v=>BitVec.getLsbD v j) (h.calm i hi).2;simp only [BitVec.getLsbD_and,BitVec.getLsbD_zero,hj,Bool.true_and] at h3;exact h3
theorem zfE (hok:P.ok=true)(hY:TbOf P Y)(hb:In51 T){S:List GDomain}(hS:ClosedD P.er S)(hs:SubD S (gd Y T)):∃S':Ws,Closed Y S'∧Le' S' T∧SubD S (gd Y S'):=by
 (have hl:S.length=Y.n:=by rw [hs.1,zaO]);have hch:∀i,i<Y.n→∀q∈(nth S i).Channels,∃j:Nat,(nth T i).getLsbD j=true∧q=(j:Int):=fun i hi q hq=>(zdZ hi).1 ((hs.2 i (by rw [zaO];exact hi)).2 q hq)
 have hbit:∀i j,i<Y.n→((nth (S.map fun x=>zbk x.Channels) i).getLsbD j=true↔(j:Int)∈(nth S i).Channels):=fun i j hi=>by
  rw [zbD (by rw [hl];exact hi)];refine zcM fun q hq=>?_;obtain ⟨k,hk,rfl⟩:=hch i hi q hq;have:=hb i k hk;omega
 (have hlen:(S.map fun x=>zbk x.Channels).length=Y.n:=by rw [List.length_map,hl])
 have hle:Le' (S.map fun x=>zbk x.Channels) T:=fun i j hj=>by
  rcases Nat.lt_or_ge i Y.n with hi|hi
  ·obtain ⟨k,hk,e⟩:=hch i hi _ ((hbit i j hi).1 hj);rw [show j=k by omega];exact hk
  ·unfold nth at hj;rw [List.getD_eq_getElem?_getD,List.getElem?_eq_none (by rw [hlen];exact hi)] at hj;have hj':(0#64).getLsbD j=true:=hj;rw [BitVec.getLsbD_zero] at hj'
   cases hj'
 have hsub:SubD S (gd Y (S.map fun x=>zbk x.Channels)):=by
  refine ⟨by rw [hl,zaO],fun i hi=>?_⟩;rw [zaO] at hi;refine ⟨?_,fun q hq=>?_⟩
  ·rw [(hs.2 i (by rw [zaO];exact hi)).1,za7 hi,za7 hi]
  ·obtain ⟨j,hj,rfl⟩:=hch i hi q hq;exact (zdZ hi).2 ⟨j,(hbit i j hi).2 hq,rfl⟩
 have hne:∀i,i<Y.n→nth (S.map fun x=>zbk x.Channels) i≠0#64:=fun i hi e=>by
  have h1:=hS.ne _ (zaR (show i<S.length by rw [hl];exact hi))
  cases hc:(nth S i).Channels with
  |nil=>exact h1 hc
  |cons q r=>
   (have hq:q∈(nth S i).Channels:=by rw [hc];simp);obtain ⟨j,hj,rfl⟩:=hch i hi q hq;have:=(hbit i j hi).2 hq;rw [e,BitVec.getLsbD_zero] at this
   cases this
 refine ⟨_,⟨hlen,fun i hi=>⟨hne i hi,?_⟩⟩,hle,hsub⟩;apply BitVec.eq_of_getLsbD_eq;intro j hj;rw [BitVec.getLsbD_and,BitVec.getLsbD_zero]
 cases h1:(nth (S.map fun x=>zbk x.Channels) i).getLsbD j with
 |false=>rfl
 |true=>
  have h2:=(hb.le hle) i j h1
  cases h3:(zbQ Y (S.map fun x=>zbk x.Channels) i).getLsbD j with
  |false=>rfl
  |true=>
   rw [←zgG hok hY hne hi (by omega) (by omega)] at h3;have h4:=zfS (zjY hok) hsub h3;have h5:=hS.calm _ (zaR (show i<S.length by rw [hl];exact hi)) _ ((hbit i j hi).1 h1);rw [(hs.2 i (by rw [zaO];exact hi)).1,za7 hi] at h5;rw [h4] at h5
   cases h5
theorem ziS (hok:P.ok=true)(hY:TbOf P Y)(hb:In51 T)(hF:Fin Y T L c){r:List GDomain×Bool}(hr:ziY P.er (gd Y T) r):r=if c then ([],false) else (gd Y L,true):=by
 cases c with
 |true=>
  rcases hr with ⟨_,h2,h3,_⟩|⟨h,_⟩
  ·obtain ⟨S',h4,h5,_⟩:=zfE hok hY hb h2 h3.1;exact absurd h5 (hF.bad rfl S' h4)
  ·exact h
 |false=>
  have hI:=hF.good rfl;have hC:=hI.good rfl;have hbL:=hb.le hI.sub;rcases hr with ⟨h1,h2,h3,h4⟩|⟨_,h⟩
  ·have h5:=h4 _ (zfR hok hY hC hbL) (zid hI.sub);obtain ⟨S',h6,h7,h8⟩:=zfE hok hY hb h2 h3.1;have h9:SubD r.1 (gd Y L):=h8.trans (zid (hI.best S' h6 h7))
   have e:r.1=gd Y L:=by
    refine zeQ (by rw [h9.1]) fun i hi=>?_; (have hi':i<Y.n:=by rw [h9.1,zaO] at hi;exact hi);have a1:=h9.2 i (by rw [zaO];exact hi');have a2:=h5.2 i hi
    have hsub:(nth (gd Y L) i).Channels.Sublist (nth (gd Y T) i).Channels:=by
     rw [za7 hi',za7 hi']
     show ((chansN (nth L i)).map _).Sublist ((chansN (nth T i)).map _)
     rw [zdf (hI.sub i)];exact List.filter_sublist.map _
    have hch:(nth r.1 i).Channels=(nth (gd Y L) i).Channels:=by
     refine zcR (h3.2 i (by rw [zaO];exact hi')) hsub ?_ (fun x=>⟨a1.2 x,a2.2 x⟩);rw [za7 hi'];exact zdr (zcu _)
    cases hx:nth r.1 i with
    |mk s1 c1=>
     cases hy:nth (gd Y L) i with
     |mk s2 c2=>
      have b1:=a1.1;rw [hx,hy] at b1 hch;simp only at b1 hch;rw [b1,hch]
   rw [if_neg (by simp),←e,←h1]
  ·exact absurd (zid hI.sub) (h _ (zfR hok hY hC hbL))
end
theorem SlC.slof {α:Type}[Inhabited α]{F:Frz}{w:World}{v:Value}{size:Nat}{enc:α→List Value}{xs:List α}(h:SlC F v size (xs.map enc))(hF:F.At w):SlOf w v enc size xs:=by
 obtain ⟨A,cap,h1,h2,h3,h4,h5⟩:=h;rw [List.length_map] at h1 h5;refine ⟨A,cap,h1,fun hl=>?_⟩;obtain ⟨g,off,rfl,hg,hc⟩:=h5 hl;refine ⟨g,off,rfl,fun i hi=>?_⟩;have:=Cs.at hF hg (hc i hi)
 rwa [zbE hi,zam hi] at this
def GPair.b (x:GPair):Pr:=⟨x.A,x.B,x.Offset,x.Low,x.High⟩
def GLoad.b (x:GLoad):Ld:=⟨x.To,x.From,x.Weight,x.Low,x.High⟩
def GCap.b (x:GCap):Cp:=⟨x.Station,x.Max,x.Low,x.High⟩
def GChoice.b (x:GChoice):Ch:=⟨x.Station,x.Channel⟩
def Ch.er (x:Ch):GChoice:=⟨x.st,x.ch⟩
theorem zet {α β:Type}{f:α→β}{g:β→α}(h:∀x,g (f x)=x)(l:List α):(l.map f).map g=l:=by
 rw [List.map_map]
 conv=>rhs;rw [←List.map_id l]
 congr 1
 funext x
 exact h x
theorem SlOf.ofMap {α β:Type}{w:World}{v:Value}{size:Nat}{enc:α→List Value}{enc':β→List Value}{f:α→β}(he:∀x,enc' (f x)=enc x){xs:List α}(h:SlOf w v enc size xs):SlOf w v enc' size (xs.map f):=by
 obtain ⟨A,cap,h1,h2⟩:=h;refine ⟨A,cap,by rw [List.length_map];exact h1,fun hl=>?_⟩;rw [List.length_map] at hl;obtain ⟨g,off,hA,hc⟩:=h2 hl;refine ⟨g,off,hA,fun i hi=>?_⟩;rw [List.length_map] at hi;rw [List.getElem_map,he];exact hc i hi
structure PbF (F:Frz) (vd:Value) (cd:List (List Value)) (vp vl vc:Value) (p:GProblem):Prop where
 ds:SlD GDomain.rep F vd 2 cd p.Domains
 ps:SlC F vp 5 (p.Rules.Pairs.map GPair.enc)
 ls:SlC F vl 5 (p.Rules.Loads.map GLoad.enc)
 cs:SlC F vc 4 (p.Rules.Caps.map GCap.enc)
theorem zhX {F:Frz}{w:World}{vd vp vl vc:Value}{cd:List (List Value)}{p:GProblem}(h:PbF F vd cd vp vl vc p)(hF:F.At w):∃P:Pb,P.er=p∧ProbAt w vd vp vl vc P:=by
 obtain ⟨hd,hp,hl,hc⟩:=h;have hlen:=hd.2.1
 have hrow:∀i,i<p.Domains.length→nth cd i=[.int .i64 (nth p.Domains i).Station,nth (nth cd i) 1]∧SlC F (nth (nth cd i) 1) 1 ((nth p.Domains i).Channels.map eI):=fun i hi=>by
  obtain ⟨v1,h0,h1⟩:=hd.2.2 i hi;rw [h0];exact ⟨rfl,h1⟩
 have eds:((List.range p.Domains.length).map fun i=>(⟨(nth p.Domains i).Station,nth (nth cd i) 1,(nth p.Domains i).Channels⟩:Dx)).map Dx.er=p.Domains:=by
  refine zeQ (by simp) fun i hi=>?_;simp at hi;rw [zbD (by simpa using hi),zam (by simpa using hi)];simp [Dx.er]
 refine ⟨⟨(List.range p.Domains.length).map fun i=>⟨(nth p.Domains i).Station,nth (nth cd i) 1,(nth p.Domains i).Channels⟩,p.Rules.Pairs.map GPair.b,p.Rules.Loads.map GLoad.b,p.Rules.Caps.map GCap.b⟩,?_,?_⟩
 ·unfold Pb.er;dsimp only;rw [eds,zet (g:=Pr.er) (fun _=>rfl),zet (g:=Ld.er) (fun _=>rfl),zet (g:=Cp.er) (fun _=>rfl)]
 ·refine ⟨⟨?_,?_⟩,⟨(hp.slof hF).ofMap (f:=GPair.b) (enc':=Pr.cells) (fun _=>rfl),(hl.slof hF).ofMap (f:=GLoad.b) (enc':=Ld.cells) (fun _=>rfl),(hc.slof hF).ofMap (f:=GCap.b) (enc':=Cp.cells) (fun _=>rfl),?_,?_,?_⟩,?_,?_⟩
  ·obtain ⟨A,cap,h1,h2,h3,h4,h5⟩:=hd.1;dsimp only;refine ⟨A,cap,by rw [h1,hlen];simp,fun hl0=>?_⟩;simp at hl0;obtain ⟨g,off,rfl,hg,hcs⟩:=h5 (by omega);refine ⟨g,off,rfl,fun i hi=>?_⟩;simp at hi;have:=Cs.at hF hg (hcs i (by omega));rw [(hrow i hi).1] at this;simpa [Dx.cells] using this
  ·intro d hd';obtain ⟨i,hi,rfl⟩:=List.mem_map.1 hd';have hi':=List.mem_range.1 hi; (exact ((hrow i hi').2.slof hF).ofMap (f:=fun x=>x) (enc':=Ie) (fun _=>rfl) |> fun q=>by simpa using q)
  ·have:=hp.max;simpa using this
  ·have:=hl.max;simpa using this
  ·have:=hc.max;simpa using this
  ·have:=hd.1.max;simp;omega
  ·intro d hd';obtain ⟨i,hi,rfl⟩:=List.mem_map.1 hd';have:=(hrow i (List.mem_range.1 hi)).2.max;simpa using this
theorem Fx.hp {F:Frz}{w w':World}{es:HS}(hF:F.At w)(h:Hp w (fun _=>False) es w'):∃G:Frz,Fx F w G w'∧G.w=w'∧∀e∈es,∀g,e.fp g→Cb w' g→G.S g:=by
 have hb:=h.isBelow;have hF':=hF.below hb;refine ⟨⟨fun g=>F.S g∨((∃ e∈es,e.fp g)∧Cb w' g),w',fun g hg=>hg.elim (fun h=>hF'.cb h) (fun h=>h.2)⟩,⟨fun g hg=>⟨.inl hg,hF' g hg⟩,fun g _=>rfl,fun g hg=>?_,hb⟩,rfl,fun e he g hg hc=> .inr ⟨⟨e,he,hg⟩,hc⟩⟩;rcases hg with h1|⟨⟨e,he,hg⟩,_⟩
 ·exact .inl h1
 ·exact .inr ((h.new e he g hg).elim (fun h=>h.elim) id)
theorem SlK.ent {G:Frz}{w':World}{v:Value}{e:TypeId}{size k:Nat}{l:List Value}(hok:(Ent.sl v e size k l).ok w')(hw:G.w=w')(hS:∀g,(Ent.sl v e size k l).fp g→Cb w' g→G.S g):SlK G v size k l:=by
 have ho:=Ent.sl_ok.1 hok;rcases ho.2 with ⟨rfl,h0⟩|⟨g,cap,cur,rfl,hb,hg,hnc,hcm,hcs,htake⟩
 ·subst h0;exact ⟨ho.1,none,0,rfl,Nat.le_refl _,by omega,fun h=>by omega⟩
 ·refine ⟨ho.1,_,cap,rfl,hnc,by unfold maxLen at hcm;omega,fun _=>⟨g,rfl,hS g (Ent.sl_fp.2 rfl) ⟨_,_,_,hg⟩,fun q hq=>?_⟩⟩;rw [hw,Nat.zero_add,World.ownsRow.cellAt ho q (by rw [←ho.1];exact hq)]
theorem ziH {F:Frz}{w w':World}{v:Value}{xs:List Dx}(hF:F.At w)(h:Hp w (fun _=>False) [.sl v 62 2 xs.length (xs.flatMap Dx.cells), .bag (xs.map dE)] w'):∃G:Frz,Fx F w G w'∧∃cs,SlD GDomain.rep G v 2 cs (xs.map Dx.er):=by
 obtain ⟨G,h1,h2,h3⟩:=Fx.hp hF h;refine ⟨G,h1,xs.map Dx.cells,?_⟩;have h4:=SlK.ent (G:=G) (h.own (.sl v 62 2 xs.length (xs.flatMap Dx.cells)) (by simp)) h2 (h3 _ (by simp));have hb:=Ent.bag_ok.1 (h.own (.bag (xs.map dE)) (by simp));have h5:=h4.toC (cs:=xs.map Dx.cells) (List.flatMap_def ..) (by simp) (fun c hc=>by obtain ⟨x,_,rfl⟩:=List.mem_map.1 hc;rfl);refine ⟨h5,by simp,fun i hi=>?_⟩;simp at hi;rw [zbE hi,zbE hi];have hm:nth xs i∈xs:=zaR hi;have h6:=hb.1 (dE (nth xs i)) (List.mem_map.2 ⟨_,hm,rfl⟩);have h7:=SlK.ent (G:=G) h6 h2 (fun g hg hc=>h3 (.bag (xs.map dE)) (by simp) g (Ent.bag_fp.2 ⟨_,List.mem_map.2 ⟨_,hm,rfl⟩,hg⟩) hc);exact ⟨(nth xs i).v,rfl,h7.toF rfl (fun _=>rfl)⟩
theorem zjr {F:Frz}{w w':World}{v:Value}{xs:List Ch}(hF:F.At w)(h:Hp w (fun _=>False) [.sl v 55 2 xs.length (xs.flatMap Ch.cells)] w'):∃G:Frz,Fx F w G w'∧SlC G v 2 ((xs.map Ch.er).map GChoice.enc):=by
 obtain ⟨G,h1,h2,h3⟩:=Fx.hp hF h;refine ⟨G,h1,?_⟩;have h4:=SlK.ent (G:=G) (h.own (.sl v 55 2 xs.length (xs.flatMap Ch.cells)) (by simp)) h2 (h3 _ (by simp))
 have e:xs.flatMap Ch.cells=(xs.map Ch.er).flatMap GChoice.enc:=by
  rw [List.flatMap_map];rfl
 rw [e] at h4;exact h4.toF (by simp) GChoice.len
theorem zi7 {w w':World}{es es' rest:HS}(h:(Ent.bag (es++rest)).ok w)(hk:Hp w (fps es) es' w'):Hp w (Ent.bag (es++rest)).fp [.bag (es'++rest)] w':=by
 obtain ⟨hok,hap⟩:=Ent.bag_ok.1 h;obtain ⟨a1,a2,a3⟩:=List.pairwise_append.1 hap;have hold:∀e∈rest,∀g,e.fp g→w'.heap[g]?=w.heap[g]?:=fun e he g hg=>hk.base g (e.lt (hok e (List.mem_append_right _ he)) g hg) (fun ⟨f,hf,hfg⟩=>a3 f hf e he g hfg hg);refine ⟨hk.os,hk.tape,hk.output,hk.size,fun k hk1 hk2=>hk.base k hk1 (fun ⟨e,he,hg⟩=>hk2 (Ent.bag_fp.2 ⟨e,List.mem_append_left _ he,hg⟩)),?_,?_,List.pairwise_singleton _ _⟩
 ·intro e he;simp at he;subst he;refine Ent.bag_ok.2 ⟨fun e he=>?_,List.pairwise_append.2 ⟨hk.apart,a2,fun e he f hf g hg hfg=>?_⟩⟩
  ·rcases List.mem_append.1 he with he|he
   ·exact hk.own e he
   ·exact e.loc (hold e he) (hok e (List.mem_append_right _ he))
  ·rcases hk.new e he g hg with ⟨x,hx,hxg⟩|hn
   ·exact a3 x hx f hf g hxg hfg
   ·have:=f.lt (hok f (List.mem_append_right _ hf)) g hfg;omega
 ·intro e he g hg;simp at he;subst he;obtain ⟨f,hf,hfg⟩:=Ent.bag_fp.1 hg;rcases List.mem_append.1 hf with hf|hf
  ·rcases hk.new f hf g hfg with ⟨x,hx,hxg⟩|hn
   ·exact .inl (Ent.bag_fp.2 ⟨x,List.mem_append_left _ hx,hxg⟩)
   ·exact .inr hn
  ·exact .inl (Ent.bag_fp.2 ⟨f,List.mem_append_right _ hf,hfg⟩)
theorem zgf {w w':World}{es:HS}(h:Hp w (fun _=>False) es w'):Hp w (fun _=>False) [.bag es] w':=
 ⟨h.os,h.tape,h.output,h.size,h.base,fun e he=>by simp at he;subst he;exact Ent.bag_ok.2 ⟨h.own,h.apart⟩,fun e he g hg=>by
  simp at he;subst he;obtain ⟨f,hf,hfg⟩:=Ent.bag_fp.1 hg
  exact h.new f hf g hfg,List.pairwise_singleton _ _⟩
theorem zdA {α:Type}{p q:α→Bool}:∀ {l:List α},(∀x∈l,p x=q x)→l.all p=l.all q
 | [],_=>rfl
 |x :: r,h=>by rw [List.all_cons,List.all_cons,h x (by simp),zdA (l:=r) (fun y hy=>h y (by simp [hy]))]
theorem zkq {Y:Tb}{L:Ws}:totG (gd Y L)≤Y.n*64:=by
 unfold totG gd;rw [List.map_map]
 have:∀l:List Nat,(l.map ((fun x:GDomain=>x.Channels.length)∘fun i=>(⟨nth Y.st i,(chansN (nth L i)).map fun j:Nat=>(j:Int)⟩:GDomain))).sum≤l.length*64:=by
  intro l
  induction l with
  |nil=>simp
  |cons i r ih=>
   have:=zfm (nth L i);simp only [List.map_cons,List.sum_cons,List.length_cons,Function.comp,List.length_map] at ih ⊢;omega
 have h:=this (List.range Y.n)
 rwa [List.length_range] at h
theorem zcT:∀(n a:Nat) (l:List Int),(∀q∈l,(a:Int)≤q∧q<(a:Int)+n)→l.Pairwise (· < ·)→l.Sublist ((List.range' a n).map fun j:Nat=>(j:Int))
 |0,a,l,h,_=>by
  cases l with
  |nil=>exact List.Sublist.refl _
  |cons q r=>have:=h q (by simp);omega
 |n+1,a,l,h,hp=>by
  rw [List.range'_succ,List.map_cons]
  cases l with
  |nil=>exact List.nil_sublist _
  |cons q r=>
   have hq:=h q (by simp);have hr:=List.pairwise_cons.1 hp;by_cases e:q=(a:Int)
   ·subst e;refine List.Sublist.cons_cons _ (zcT n (a+1) r (fun x hx=>?_) hr.2);have h1:=h x (by simp [hx]);have h2:=hr.1 x hx;omega
   ·refine List.Sublist.cons _ (zcT n (a+1) (q :: r) (fun x hx=>?_) hp);have h1:=h x hx;rcases List.mem_cons.1 hx with rfl|hx
    ·omega
    ·have h2:=hr.1 x hx;omega
theorem zjI {l:List Int}(h:incB cmpI l=true):l.Pairwise (· < ·):=by
 unfold incB at h;rw [List.all_eq_true] at h
 have step:∀k,k+1<l.length→nth l k<nth l (k+1):=fun k hk=>by
  have:=h (k+1) (List.mem_range.2 hk);simp only [Bool.or_eq_true,decide_eq_true_eq,Bool.not_eq_true',decide_eq_false_iff_not,Nat.add_sub_cancel] at this;rcases this with h1|h1
  ·omega
  ·unfold cmpI at h1;split at h1
   ·assumption
   ·split at h1 <;> omega
 rw [List.pairwise_iff_getElem];intro i j hi hj hij
 have key:∀m,i+m+1<l.length→nth l i<nth l (i+m+1):=by
  intro m
  induction m with
  |zero=>intro h;exact step i h
  |succ m ih=>intro h;exact Int.lt_trans (ih (by omega)) (step (i+m+1) (by omega))
 have:=key (j - i - 1) (by omega);rw [show i+(j - i - 1)+1=j by omega,zam hi,zam hj] at this;exact this
theorem zjE {P:Pb}(hok:P.ok=true){i:Nat}(hi:i<P.ds.length):(nth P.ds i).chs.Sublist ((List.range' 0 64).map fun j:Nat=>(j:Int)):=by
 have hb:=((Pb.good hok).chs _ (zaR hi)).2;refine zcT 64 0 _ (fun q hq=>by have:=hb q hq;omega) (zjI ?_);simp only [Pb.ok,Bool.and_eq_true] at hok;have:=allB_mem.1 hok.1 _ (zaR hi);simp only [Dx.ok,Bool.and_eq_true] at this;exact this.2.2
def GDomain.b (x:GDomain):Dx:=⟨x.Station, .slice none 0 0,x.Channels⟩
def pbG (p:GProblem):Pb:=⟨p.Domains.map GDomain.b,p.Rules.Pairs.map GPair.b,p.Rules.Loads.map GLoad.b,p.Rules.Caps.map GCap.b⟩
def okG (p:GProblem):Bool:=(pbG p).ok
theorem zkf (P:Pb):P.ok=okG P.er:=by
 have e1:(pbG P.er).ps=P.ps:=zet (fun _=>rfl) P.ps;have e2:(pbG P.er).ls=P.ls:=zet (fun _=>rfl) P.ls;have e3:(pbG P.er).cs=P.cs:=zet (fun _=>rfl) P.cs
 have e4:(pbG P.er).ds=P.ds.map fun d=>⟨d.st, .slice none 0 0,d.chs⟩:=by
  show (P.ds.map Dx.er).map GDomain.b=_
  rw [List.map_map];rfl
 (have e5:(pbG P.er).ds.map (·.st)=P.ds.map (·.st):=by rw [e4,List.map_map];rfl); (have e6:(pbG P.er).has=P.has:=by funext i;unfold Pb.has;rw [e5]); (have hn:∀k,k<P.ds.length→nth (pbG P.er).ds k=⟨(nth P.ds k).st, .slice none 0 0,(nth P.ds k).chs⟩:=fun k hk=>by rw [e4,zbE hk]); (have hl:(pbG P.er).ds.length=P.ds.length:=by rw [e4,List.length_map])
 have e7:allB Dx.ok (pbG P.er).ds=allB Dx.ok P.ds:=by
  unfold allB;rw [hl];refine zdA fun k hk=>?_;rw [hn k (List.mem_range.1 hk)];rfl
 have e8:incB (fun a b=>cmpI a.st b.st) (pbG P.er).ds=incB (fun a b=>cmpI a.st b.st) P.ds:=by
  unfold incB;rw [hl];refine zdA fun k hk=>?_;have:=List.mem_range.1 hk;rw [hn k this,hn (k - 1) (by omega)]
 unfold okG Pb.ok Pb.rulesOk;rw [e1,e2,e3,e6,e7,e8]
theorem zjD {P : Pb} {Y : Tb} (hok : P.ok = true) (hY : TbOf P Y) : gd Y P.left = P.er.Domains ∧ In51 P.left := by
  have hG := Pb.good hok; have hn := hY.n; have hb : ∀ i, i < P.ds.length → ∀ q ∈ (nth P.ds i).chs, 2 ≤ q ∧ q ≤ 51 := fun i hi => (hG.chs _ (zaR hi)).2; (have hleft : ∀ i, i < P.ds.length → nth P.left i = zbk (nth P.ds i).chs := fun i hi => by unfold Pb.left; rw [zbE hi]); constructor
  · refine zeQ (by rw [zaO, hn]; simp [Pb.er]) fun i hi => ?_; rw [zaO] at hi; (have hi' : i < P.ds.length := by omega); rw [za7 hi, hleft i hi']
    show _ = nth (P.ds.map Dx.er) i
    rw [zbD hi', hY.nth_st hi]; unfold Dx.er
    congr 1
    -- the channels of the word are the channels
    refine zcR (l := (List.range' 0 64).map fun j : Nat => (j : Int)) (chansN_sub.map _) ?_ (zdr List.nodup_range') (fun q => ?_)
    · exact zjE hok hi'
    · rw [mapI_mem]; constructor
      · rintro ⟨j, hj, rfl⟩; exact (zcM (fun c hc => by have := hb i hi' c hc; omega)).1 (chansN_mem.1 hj)
      · intro hq; have h2 := hb i hi' q hq; refine ⟨q.toNat, chansN_mem.2 ((zcM (fun c hc => by have := hb i hi' c hc; omega)).2 ?_), by omega⟩; rw [Int.toNat_of_nonneg (by omega)]; exact hq
  · intro i j hj; rcases Nat.lt_or_ge i P.ds.length with hi | hi
    · rw [hleft i hi] at hj; have := hb i hi _ ((zcM (fun c hc => by have := hb i hi c hc; omega)).1 hj); omega
    · unfold nth at hj; rw [List.getD_eq_getElem?_getD, List.getElem?_eq_none (by unfold Pb.left; rw [List.length_map]; exact hi)] at hj; have hj' : (0#64).getLsbD j = true := hj; rw [BitVec.getLsbD_zero] at hj'
      cases hj'
structure SK where
 sp:Nat
 gl:GL
 tp:Nat
 w0:World
 Y:Tb
abbrev stL (k:SK)(L:Ws)(b:Bool):HS:=[sRow k.sp k.gl k.tp k.Y.n b,zaB k.gl k.Y.n L,Ent.fz k.w0]
abbrev stE (k:SK)(L:Ws)(b:Bool):Ent:= .bag (stL k L b)
structure SI (p:GProblem) (m:List GDomain×Bool) (k:SK) (L:Ws):Prop where
 pb:∃P:Pb,P.er=p∧P.ok=true∧TbOf P k.Y
 tb:TablesAt k.w0 k.tp k.Y
 len:L.length=k.Y.n
 good:m.2=true→Closed k.Y L∧In51 L∧m.1=gd k.Y L
 bad:m.2=false→m.1=[]
theorem SI.of {P:Pb}{k:SK}{T L:Ws}{c:Bool}(hok:P.ok=true)(hY:TbOf P k.Y)(ht:TablesAt k.w0 k.tp k.Y)(hT:T.length=k.Y.n)(hb:In51 T)(hI:Is k.Y T L c){fuel:Nat}(hf:100000≤fuel){r:List GDomain×Bool}(hr:zaG fuel P.er (gd k.Y T)=some r):SI P.er r k L∧c= !r.2:=by
 have hG:=Pb.good hok;have hn:=hY.n;have h512:=hG.n
 obtain ⟨r',h1,h2⟩:=zge (fuel:=fuel) (zjY hok) (zkr (Y:=k.Y) (L:=T) (by omega)) (by rw [zaO];omega) (by
  have:totG (gd k.Y T)≤k.Y.n*64:=zkq
  omega)
 rw [hr] at h1;obtain rfl:=Option.some.inj h1;have h3:=ziS hok hY hb hI.fin h2
 cases c with
 |true=>
  rw [if_pos rfl] at h3;subst h3;exact ⟨⟨⟨P,rfl,hok,hY⟩,ht,hI.len,(fun h=>by cases h),fun _=>rfl⟩,rfl⟩
 |false=>
  rw [if_neg (by simp)] at h3;subst h3;exact ⟨⟨⟨P,rfl,hok,hY⟩,ht,hI.len,fun _=>⟨hI.good rfl,hb.le hI.sub,rfl⟩,(fun h=>by cases h)⟩,rfl⟩
section
variable {F0:Frz}{w:World}
theorem zkd {vd vp vl vc : Value} {cd : List (List Value)} {p : GProblem} (hF0 : F0.At w) (h : PbF F0 vd cd vp vl vc p) (htab : Tab w) (hv : okG p = true) {fuel : Nat} (hf : 100000 ≤ fuel) {r : List GDomain × Bool} (hr : zaG fuel p p.Domains = some r) :
    Calls Tryd.prog 25 #[.agg [vd, vp, vl, vc].toArray] w fun e w' => ∃ y : SK × Ws, SI p r y.1 y.2 ∧ e = .returned (.tuple #[.pointer (some ⟨y.1.sp, 0, none⟩), .int .i64 0]) ∧ Hp w (fun _ => False) [stE y.1 y.2 (!r.2)] w' := by
  obtain ⟨P, rfl, hP⟩ := zhX h hF0; (have hok : P.ok = true := by rw [zkf]; exact hv); refine (zke P vd vp vl vc w hP htab hok).mono ?_; rintro e w' ⟨⟨sp, gl, tp, Y, L, c, w0⟩, hN, rfl, hw⟩; dsimp only at hN hw ⊢; have hI := hN.is (Pb.good hok); obtain ⟨h1, h2⟩ := zjD hok hN.tb; rw [← h1] at hr; obtain ⟨h3, h4⟩ := SI.of (k := ⟨sp, gl, tp, w0, Y⟩) hok hN.tb hN.at' hI.tlen h2 hI hf hr; refine ⟨⟨⟨sp, gl, tp, w0, Y⟩, L⟩, h3, rfl, zgf ?_⟩
  show Hp w (fun _ => False) [sRow sp gl tp Y.n (!r.2), zaB gl Y.n L, Ent.fz w0] w'
  rw [hN.tb.n, ← h4]; exact hw
theorem zin {vd vp vl vc : Value} {cd : List (List Value)} {p : GProblem} (hF0 : F0.At w) (h : PbF F0 vd cd vp vl vc p) (hv : okG p = false) :
    Calls Tryd.prog 25 #[.agg [vd, vp, vl, vc].toArray] w fun e w' => e = .returned (.tuple #[.pointer none, .int .i64 2]) ∧ Below w.heap.size w w' := by
  obtain ⟨P, rfl, hP⟩ := zhX h hF0; exact zjV P vd vp vl vc w hP (by rw [zkf]; exact hv)
end
def zfy (p:GProblem)(s:Int):Bool:=p.Domains.any fun d=>decide (d.Station=s)
def zic (c:GChoice):Bool:=decide (0≤c.Station∧c.Station<512∧2≤c.Channel∧c.Channel≤51)
def zeo (fuel:Nat)(p:GProblem)(m:List GDomain×Bool)(keep:Bool)(c:GChoice):Option ((List GDomain×Bool)×Int):=
 bif !zic c then some (m,2) else
 bif !m.2 then some (m,8) else
 bif !zfy p c.Station then some (m,9) else
 (bif keep then zbX m.1 c.Station c.Channel else zbj m.1 c.Station c.Channel).bind fun d=>(zaG fuel p d).bind fun r=>some (r,0)
section
variable {p:GProblem}{m:List GDomain×Bool}{k:SK}{L:Ws}{w:World}{F0:Frz}
theorem SI.stF (h:SI p m k L){b:Bool}(hok:(stE k L b).ok w)(htab:Tab w):StF k.w0 w k.sp k.gl k.tp k.Y L b:=by
 obtain ⟨h1,h2⟩:=Ent.bag_ok.1 hok;exact StF.of (Hp.startL h1 h2) h.tb (Ent.fz_ok.1 (h1 _ (by simp))) htab 0 1 rfl rfl h.len
theorem zfG (hs:StateAt w k.sp k.Y L (!m.2)):Calls Tryd.prog 30 #[.pointer (some ⟨k.sp,0,none⟩)] w fun e w'=>e= .returned (.bool (!m.2))∧Below w.heap.size w w':=
 ze6 k.sp k.Y L (!m.2) w hs
theorem SI.ok (h:SI p m k L):k.Y.Ok:=by obtain ⟨P,_,hok,hY⟩:=h.pb;exact hY.ok (Pb.good hok)
theorem er_pl {xs:List Dx}{Y:Tb}{L:Ws}(h:xs.map Dx.pl=zf4 Y L Y.n):xs.map Dx.er=gd Y L:=by
 (have e:xs.map Dx.er=(xs.map Dx.pl).map fun q=>(⟨q.1,q.2⟩:GDomain):=by rw [List.map_map];rfl);rw [e,h];unfold zf4 gd;rw [List.map_map];rfl
theorem zgh (hF0:F0.At w)(h:SI p m k L)(hs:StateAt w k.sp k.Y L (!m.2)):Calls Tryd.prog 19 #[.pointer (some ⟨k.sp,0,none⟩)] w fun e w'=>∃(y:Value×List (List Value)) (G:Frz),SlD GDomain.rep G y.1 2 y.2 m.1∧e= .returned y.1∧Fx F0 w G w':=by
 cases hm:m.2 with
 |false=>
  rw [hm] at hs;refine (zf2 k.sp k.Y L w hs).mono ?_;rintro e w' ⟨rfl,hb⟩;exact ⟨(.slice none 0 0,[]),F0,by rw [h.bad hm];exact SlD.nil _ _ 2,rfl,Fx.refl hF0 hb⟩
 |true=>
  rw [hm] at hs;refine (zg3 k.sp k.Y L w hs h.ok).mono ?_;rintro e w' ⟨⟨v,xs⟩,hp,rfl,hw⟩;obtain ⟨G,h1,cs,h2⟩:=ziH hF0 hw;refine ⟨(v,cs),G,?_,rfl,h1⟩;rw [(h.good hm).2.2,←er_pl hp];exact h2
theorem zhm {ds:List Dx}{j:Nat}:∀k,(∀i,i<k→(nth ds i).st.toNat≠j)→ixAt ds k j=0
 |0,_=>rfl
 |k+1,h=>by
  unfold ixAt;rw [if_neg (fun e=>h k (by omega) e.symm)];exact zhm k (fun i hi=>h i (by omega))
theorem zhu {P:Pb}{Y:Tb}(hok:P.ok=true)(hY:TbOf P Y){i:Nat}(hi:i<Y.n):atF Y (nth Y.st i)=((i:Int),true):=by
 have hG:=Pb.good hok;have h1:=hG.st (nth P.ds i) (zaR (by rw [←hY.n];exact hi));rw [←hY.nth_st hi] at h1;have h2:=zf5 hG hY hi;unfold Pb.ix at h2;unfold atF;rw [hY.ix,if_neg (by omega)]
 congr 1
theorem zku {P:Pb}{Y:Tb}(hok:P.ok=true)(hY:TbOf P Y){s:Int}(h:∀i,i<Y.n→nth Y.st i≠s):atF Y s=(0,false):=by
 have hG:=Pb.good hok;unfold atF;by_cases hs:s<0∨512≤s
 ·rw [if_pos (by rcases hs with h1|h1;exact .inl h1;exact .inr (.inl h1))]
 ·have h0:Y.ix s.toNat=0:=by
   rw [hY.ix];refine zhm _ fun i hi e=>?_; (have hi':i<Y.n:=by rw [hY.n];exact hi);have h1:=hG.st (nth P.ds i) (zaR hi);apply h i hi';rw [hY.nth_st hi'];omega
  rw [if_pos (.inr (.inr h0))]
theorem zca {P:Pb}{Y:Tb}(hY:TbOf P Y){s:Int}:zfy P.er s=true↔∃i,i<Y.n∧nth Y.st i=s:=by
 unfold zfy;rw [List.any_eq_true]
 show (∃x∈P.ds.map Dx.er,_)↔_
 constructor
 ·rintro ⟨x,hx,h⟩;obtain ⟨i,hi,rfl⟩:=zb2 hx;rw [List.length_map] at hi;rw [zbD hi] at h; (have hi':i<Y.n:=by rw [hY.n];exact hi);exact ⟨i,hi',by rw [hY.nth_st hi'];exact of_decide_eq_true h⟩
 ·rintro ⟨i,hi,rfl⟩; (have hi':i<P.ds.length:=by rw [←hY.n];exact hi);exact ⟨Dx.er (nth P.ds i),List.mem_map.2 ⟨_,zaR hi',rfl⟩,decide_eq_true (hY.nth_st hi).symm⟩
theorem zjj {Y:Tb}{L:Ws}{i:Nat}{g:BitVec 64}{f:GDomain→GDomain}(hl:L.length=Y.n)(hi:i<Y.n)(h1:f (nth (gd Y L) i)=⟨nth Y.st i,(chansN (nth L i &&& ~~~g)).map fun j:Nat=>(j:Int)⟩)(h2:∀j,j<Y.n→j≠i→f (nth (gd Y L) j)=nth (gd Y L) j):(gd Y L).map f=gd Y (cutL L i g):=by
 refine zeQ (by rw [List.length_map,zaO,zaO]) fun j hj=>?_;rw [List.length_map,zaO] at hj;rw [zbD (by rw [zaO];exact hj),za7 (L:=cutL L i g) hj];unfold cutL;rw [zbd (by omega)];by_cases e:j=i
 ·subst e;rw [if_pos rfl,h1]
 ·rw [if_neg e,h2 j hj e,za7 hj]
theorem zix {b:BitVec 64}{c j:Nat}(hc:c<64):(b &&& ~~~(~~~(1#64 <<< c))).getLsbD j=(b.getLsbD j&&decide (c=j)):=by
 rw [BitVec.not_not,BitVec.getLsbD_and];by_cases hj:j<64
 ·rw [zgn hj]
 ·rw [BitVec.getLsbD_of_ge b j (by omega)];simp
theorem zgF {b:BitVec 64}{c j:Nat}(hc:c<64):(b &&& ~~~(1#64 <<< c)).getLsbD j=(b.getLsbD j&& !decide (c=j)):=by
 rw [BitVec.getLsbD_and];by_cases hj:j<64
 ·rw [BitVec.getLsbD_not,zgn hj];simp [hj]
 ·rw [BitVec.getLsbD_of_ge b j (by omega)];simp
theorem zg2 {b:BitVec 64}{c:Nat}(hc:c<64):chansN (b &&& ~~~(~~~(1#64 <<< c)))=if b.getLsbD c then [c] else []:=by
 have h:∀j,j∈chansN (b &&& ~~~(~~~(1#64 <<< c)))↔j∈(if b.getLsbD c then [c] else []):=fun j=>by
  rw [chansN_mem,zix hc]
  cases hb:b.getLsbD c with
  |false=>
   simp;intro h e;subst e;rw [hb] at h;cases h
  |true=>
   simp;constructor
   ·rintro ⟨_,rfl⟩;rfl
   ·rintro rfl;exact ⟨hb,rfl⟩
 refine zcR chansN_sub ?_ List.nodup_range' h
 split
 ·exact List.singleton_sublist.2 (List.mem_range'_1.2 ⟨by omega,by omega⟩)
 ·exact List.nil_sublist _
theorem ziL {Y:Tb}{L:Ws}{i c:Nat}(hl:L.length=Y.n)(hi:i<Y.n)(hinj:∀j,j<Y.n→nth Y.st j=nth Y.st i→j=i)(hc:c<64):(gd Y L).map (zeI (nth Y.st i) c)=gd Y (cutL L i (~~~(1#64 <<< c))):=by
 refine zjj hl hi ?_ (fun j hj hne=>?_)
 ·rw [za7 hi,zg2 hc];unfold zeI;dsimp only;rw [decide_eq_true rfl,cond_true]
  congr 1
  have e:((chansN (nth L i)).map fun j:Nat=>(j:Int)).any (fun k=>decide (k=(c:Int)))=(nth L i).getLsbD c:=by
   rw [Bool.eq_iff_iff,List.any_eq_true];constructor
   ·rintro ⟨q,hq,h⟩;obtain ⟨j,hj,rfl⟩:=mapI_mem.1 hq;have:=of_decide_eq_true h;rw [show c=j by omega];exact chansN_mem.1 hj
   ·intro h;exact ⟨c,mapI_mem.2 ⟨c,chansN_mem.2 h,rfl⟩,by simp⟩
  rw [e]
  cases (nth L i).getLsbD c <;> rfl
 ·rw [za7 hj];unfold zeI;dsimp only;rw [decide_eq_false (fun e=>hne (hinj j hj e)),cond_false]
theorem zi0 {Y:Tb}{L:Ws}{i c:Nat}(hl:L.length=Y.n)(hi:i<Y.n)(hinj:∀j,j<Y.n→nth Y.st j=nth Y.st i→j=i)(hc:c<64):(gd Y L).map (zc5 (nth Y.st i) c)=gd Y (cutL L i (1#64 <<< c)):=by
 refine zjj hl hi ?_ (fun j hj hne=>?_)
 ·rw [za7 hi];unfold zc5;dsimp only
  congr 1
  rw [zdf (b:=nth L i) (c:=nth L i &&& ~~~(1#64 <<< c)) (fun j hj=>by rw [zgF hc,Bool.and_eq_true] at hj;exact hj.1),List.filter_map]
  congr 1
  apply List.filter_congr;intro j hj;rw [zgF hc,chansN_mem.1 hj];simp only [Function.comp,Bool.true_and,not_true_eq_false,decide_false,Bool.false_or];by_cases e:c=j
  ·subst e;simp
  ·(have:¬(j:Int)=(c:Int):=by omega);simp [e,this]
 ·rw [za7 hj];unfold zc5;dsimp only
  congr 1
  rw [List.filter_eq_self];intro q _;rw [Bool.or_eq_true];exact .inl (decide_eq_true (fun e=>hne (hinj j hj e)))
theorem SI.two (h:SI p m k L){b:Bool}(hok:(stE k L b).ok w)(htab:Tab w)(hn0:0<k.Y.n):Hp w (fps [sRow k.sp k.gl k.tp k.Y.n b,zaB k.gl k.Y.n L]) [sRow k.sp k.gl k.tp k.Y.n b,zaB k.gl k.Y.n L] w∧(∀g,fps [sRow k.sp k.gl k.tp k.Y.n b,zaB k.gl k.Y.n L] g→¬IsC k.w0 g)∧¬fps [sRow k.sp k.gl k.tp k.Y.n b,zaB k.gl k.Y.n L] 0∧Fz k.w0 w:=by
 obtain ⟨h1,h2⟩:=Ent.bag_ok.1 hok;have h3:([sRow k.sp k.gl k.tp k.Y.n b,zaB k.gl k.Y.n L]++[Ent.fz k.w0]).Pairwise fun e f=>∀g,e.fp g→¬f.fp g:=h2;obtain ⟨a1,a2,a3⟩:=List.pairwise_append.1 h3;refine ⟨Hp.startL (fun e he=>h1 e (by simp at he ⊢;rcases he with h|h <;> simp [h])) a1,fun g ⟨e,he,hg⟩ hc=>a3 e he _ (by simp) g hg (Ent.fz_fp.2 hc),?_,Ent.fz_ok.1 (h1 _ (by simp))⟩;rintro ⟨e,he,hg⟩;have hT:=htab 0 (by decide);simp at he;rcases he with rfl|rfl
 ·have h4:=Ent.row_fp.1 hg;have h5:=Ent.row_ok.1 (h1 (sRow k.sp k.gl k.tp k.Y.n b) (by simp));rw [←h4] at h5;rw [zaE h5] at hT
  cases hT
 ·have h4:=Ent.sl_fp.1 hg;have h5:=Ent.sl_ok.1 (h1 (zaB k.gl k.Y.n L) (by simp)); (have e0:k.gl.b=0:=by simpa [sG,Value.ownBlock] using h4);have h9:=World.ownsRow.cellAt (by have:=h5;unfold sG at this;exact this) 0 (by omega);rw [e0] at h9;rw [hT] at h9
  cases L with
  |nil=>have:=h.len;simp at this;omega
  |cons x r=>simp [Ws.cells] at h9
theorem zhx (h:SI p m k L){c:GChoice}:zaD k.Y (!m.2) c.b=bif !zic c then (0,2) else bif !m.2 then (0,8) else bif !zfy p c.Station then (0,9) else ((atF k.Y c.Station).1,0):=by
 obtain ⟨P,rfl,hok,hY⟩:=h.pb;unfold zaD GChoice.b zic;dsimp only;by_cases h1:c.Station<0∨512≤c.Station∨c.Channel<2∨51<c.Channel
 ·rw [if_pos h1,decide_eq_false (by omega)];rfl
 ·rw [if_neg h1,decide_eq_true (by omega)];simp only [Bool.not_true,cond_false]
  cases m.2 with
  |false=>rfl
  |true=>
   simp only [Bool.not_true,cond_false,Bool.false_eq_true,if_false]
   cases hh:zfy P.er c.Station with
   |true=>
    obtain ⟨i,hi,e⟩:=(zca hY).1 hh;rw [←e,zhu hok hY hi];rfl
   |false=>
    rw [zku hok hY (s:=c.Station) (fun i hi e=>by rw [(zca hY).2 ⟨i,hi,e⟩] at hh;cases hh)];rfl
theorem zjo (kp : Bool) (num : FuncId) (h : SI p m k L) (hok : (stE k L (!m.2)).ok w) (htab : Tab w) {fuel : Nat} (hf : 100000 ≤ fuel) (c : GChoice) {r : (List GDomain × Bool) × Int} (hr : zeo fuel p m kp c = some r)
    (hE : (zaD k.Y (!m.2) c.b).2 ≠ 0 → Calls Tryd.prog num #[.pointer (some ⟨k.sp, 0, none⟩), .agg (Ch.cells c.b).toArray] w fun e w' => e = .returned (.int .i64 (zaD k.Y (!m.2) c.b).2) ∧ Below w.heap.size w w')
    (hO : m.2 = true → (zaD k.Y false c.b).2 = 0 → Calls Tryd.prog num #[.pointer (some ⟨k.sp, 0, none⟩), .agg (Ch.cells c.b).toArray] w fun e w' => ∃ y : Ws × Bool, SPost k.Y (cutL L (zaD k.Y false c.b).1.toNat (bif kp then ~~~(1#64 <<< c.Channel.toNat) else 1#64 <<< c.Channel.toNat)) y.1 y.2 ∧ e = .returned (.int .i64 0) ∧ Hp w (fps [sRow k.sp k.gl k.tp k.Y.n false, zaB k.gl k.Y.n L]) [sRow k.sp k.gl k.tp k.Y.n y.2, zaB k.gl k.Y.n y.1] w') :
    Calls Tryd.prog num #[.pointer (some ⟨k.sp, 0, none⟩), .agg [.int .i64 c.Station, .int .i64 c.Channel].toArray] w fun e w' => ∃ L', SI p r.1 k L' ∧ e = .returned (.int .i64 r.2) ∧ Hp w (stE k L (!m.2)).fp [stE k L' (!r.1.2)] w' := by
  have hfit := zhx h (c := c)
  have keepE : ∀ {n : Int}, r = (m, n) → (zaD k.Y (!m.2) c.b).2 = n → n ≠ 0 → Calls Tryd.prog num #[.pointer (some ⟨k.sp, 0, none⟩), .agg [.int .i64 c.Station, .int .i64 c.Channel].toArray] w fun e w' => ∃ L', SI p r.1 k L' ∧ e = .returned (.int .i64 r.2) ∧ Hp w (stE k L (!m.2)).fp [stE k L' (!r.1.2)] w' := by
    intro n hr hc hn; subst hr; refine (hE (by rw [hc]; exact hn)).mono ?_; rintro e w' ⟨rfl, hb⟩; exact ⟨L, h, by rw [hc], (Hp.start hok).below hb⟩
  unfold zeo at hr
  cases hg : zic c with
  | false => rw [hg] at hr hfit; exact keepE (Option.some.inj hr).symm (by rw [hfit]; rfl) (by decide)
  | true =>
    rw [hg] at hr hfit; simp only [Bool.not_true, cond_false] at hr hfit
    cases hm : m.2 with
    | false => rw [hm] at hr hfit; rw [← hm]; exact keepE (Option.some.inj hr).symm (by rw [hm]; rw [hfit]; rfl) (by decide)
    | true =>
      rw [hm] at hr hfit; simp only [Bool.not_true, cond_false] at hr hfit
      cases hh : zfy p c.Station with
      | false => rw [hh] at hr hfit; rw [← hm]; exact keepE (Option.some.inj hr).symm (by rw [hm, Bool.not_true, hfit]; rfl) (by decide)
      | true =>
        rw [hh] at hr hfit; simp only [Bool.not_true, cond_false] at hr hfit; obtain ⟨P, rfl, hok', hY⟩ := h.pb; have hG := Pb.good hok'; obtain ⟨i, hi, e⟩ := (zca hY).1 hh; rw [← e, zhu hok' hY hi] at hfit; obtain ⟨hC, hb, hd⟩ := h.good hm; (have hch : 2 ≤ c.Channel ∧ c.Channel ≤ 51 := by have := of_decide_eq_true hg; omega); have hn := hY.n; have h512 := hG.n; have hbd : Bd (gd k.Y L) := zkr (by omega); have hinj : ∀ j, j < k.Y.n → nth k.Y.st j = nth k.Y.st i → j = i := fun j hj e' => zc8 hG hY hj hi e'; have hcn : ((c.Channel.toNat : Nat) : Int) = c.Channel := Int.toNat_of_nonneg (by omega)
        -- the domains after the cut
        have hdom : (bif kp then zbX m.1 c.Station c.Channel else zbj m.1 c.Station c.Channel) = some (gd k.Y (cutL L i (bif kp then ~~~(1#64 <<< c.Channel.toNat) else 1#64 <<< c.Channel.toNat))) := by
          rw [hd, ← e]
          cases kp with
          | true => rw [cond_true, cond_true, zj8 hbd.len (fun x hx => (hbd.ch x hx).1), ← ziL h.len hi hinj (by omega), hcn]
          | false => rw [cond_false, cond_false, zjk hbd.len (fun x hx => (hbd.ch x hx).1), ← zi0 h.len hi hinj (by omega), hcn]
        rw [hdom, Option.bind_some] at hr; obtain ⟨q, hq, hr⟩ := zak hr; obtain rfl := Option.some.inj hr; refine (hO hm (by rw [hfit])).mono ?_; rintro e' w' ⟨⟨L', c'⟩, hp, rfl, hw⟩; rw [hfit] at hp; dsimp only at hp hw ⊢; rw [Int.toNat_natCast] at hp; (have hlen : (cutL L i (bif kp then ~~~(1#64 <<< c.Channel.toNat) else 1#64 <<< c.Channel.toNat)).length = k.Y.n := by unfold cutL; rw [List.length_set, h.len]); obtain ⟨h3, h4⟩ := SI.of hok' hY h.tb hlen (hb.le zh8) (Is.of (hY.ok hG) hlen hp) hf hq; refine ⟨L', h3, rfl, ?_⟩; rw [← h4]; (have hok2 : (Ent.bag ([sRow k.sp k.gl k.tp k.Y.n false, zaB k.gl k.Y.n L] ++ [Ent.fz k.w0])).ok w := by rw [hm] at hok; exact hok); exact zi7 hok2 hw
theorem zh7 (h : SI p m k L) (hok : (stE k L (!m.2)).ok w) (htab : Tab w) {fuel : Nat} (hf : 100000 ≤ fuel) (c : GChoice) {r : (List GDomain × Bool) × Int} (hr : zeo fuel p m true c = some r) :
    Calls Tryd.prog 31 #[.pointer (some ⟨k.sp, 0, none⟩), .agg [.int .i64 c.Station, .int .i64 c.Channel].toArray] w fun e w' => ∃ L', SI p r.1 k L' ∧ e = .returned (.int .i64 r.2) ∧ Hp w (stE k L (!m.2)).fp [stE k L' (!r.1.2)] w' := by
  have hs := (h.stF hok htab).st; obtain ⟨P, hP, hok', hY⟩ := h.pb; have hix := hY.ixn; refine zjo true _ h hok htab hf c hr (fun he => zeC k.sp k.Y L (!m.2) c.b w hs (k.Y.ix512 h.ok hix) he) (fun hm he => ?_); have hok2 := hok; rw [hm] at hok2; (have hn0 : 0 < k.Y.n := by have := zbR (Y := k.Y) hix he; omega); obtain ⟨h1, h2, h3, h4⟩ := h.two hok2 htab hn0; exact zhZ k.w0 k.sp k.gl k.tp k.Y L w h.tb h.ok h4 htab h1 h2 h3 h.len (h.good hm).1.calm hix c.b he
theorem zii (h : SI p m k L) (hok : (stE k L (!m.2)).ok w) (htab : Tab w) {fuel : Nat} (hf : 100000 ≤ fuel) (c : GChoice) {r : (List GDomain × Bool) × Int} (hr : zeo fuel p m false c = some r) :
    Calls Tryd.prog 34 #[.pointer (some ⟨k.sp, 0, none⟩), .agg [.int .i64 c.Station, .int .i64 c.Channel].toArray] w fun e w' => ∃ L', SI p r.1 k L' ∧ e = .returned (.int .i64 r.2) ∧ Hp w (stE k L (!m.2)).fp [stE k L' (!r.1.2)] w' := by
  have hs := (h.stF hok htab).st; obtain ⟨P, hP, hok', hY⟩ := h.pb; have hix := hY.ixn; refine zjo false _ h hok htab hf c hr (fun he => zer k.sp k.Y L (!m.2) c.b w hs (k.Y.ix512 h.ok hix) he) (fun hm he => ?_); have hok2 := hok; rw [hm] at hok2; (have hn0 : 0 < k.Y.n := by have := zbR (Y := k.Y) hix he; omega); obtain ⟨h1, h2, h3, h4⟩ := h.two hok2 htab hn0; exact zhC k.w0 k.sp k.gl k.tp k.Y L w h.tb h.ok h4 htab h1 h2 h3 h.len (h.good hm).1.calm hix c.b he
end
def hv:List Nat→Nat
 | []=>0
 |d :: r=>d+256*hv r
section
variable {B w:World}{M S0:Nat→Prop}{hs:HS}{F:FzB B M S0}{e:Ent}{i j:Nat}
theorem Hp.newAt (hw:Hp B M hs w)(hi:hs[i]?=some e){g:Nat}(hg:e.fp g):M g∨B.heap.size≤g:=hw.new e (List.mem_of_getElem? hi) g hg
theorem Hp.apartF (hw:Hp B M hs w)(hi:hs[i]?=some e)(hj:hs[j]?=some (.fr F))(hij:i<j):∀g,e.fp g→¬F.toFrz.S g:=fun g hg hS=>
 hw.ne hij hi hj hg (Ent.fr_fp.2 ⟨hS,hw.newAt hi hg⟩)
end
def zdX (Y:Tb)(L:Ws)(c:Bool)(x:Ch):Bool:=if c=true∨x.ch<2∨51<x.ch then false else if (atF Y x.st).2=false then false else (nth L (atF Y x.st).1.toNat).getLsbD x.ch.toNat
theorem ziX (sp:Nat)(Y:Tb)(L:Ws)(c:Bool)(x:Ch)(w:World)(h:StateAt w sp Y L c)(hok:Y.Ok)(hix:∀j,0≤Y.ix j∧Y.ix j≤Y.n):Calls Tryd.prog 44 #[.pointer (some ⟨sp,0,none⟩), .agg (Ch.cells x).toArray] w fun e w'=>e= .returned (.bool (zdX Y L c x))∧Below w.heap.size w w':=by
 obtain ⟨tp,hsp0,hT⟩:=h.tb;obtain ⟨vL,hsp1,hL⟩:=h.left;obtain ⟨AL,capL,rfl,hLs⟩:=hL.op;have hLn:=h.len;have hcon:=h.con;refine zaa (M:=fun _=>False) (hs:=[]) Tryd.func44 rfl rfl rfl (Hp.refl _ _) ?_;simp only [Ch.cells];refine T.sr ?_; (refine TL.ew (Wt.none rfl) rfl rfl (Ew.aA rfl rfl) ?_;rintro _ _ ⟨g3,rfl,rfl⟩);refine TL.run 1 rfl ?_;refine TL.ns (T.seq (T.sr ?_));refine TL.run 1 rfl ?_; (refine TL.ew (Wt.none rfl) rfl rfl (Ew.af rfl rfl rfl (fun w hw=>za8 sp Y L c w (h.kept hw))) ?_;rintro _ _ ⟨rfl,rfl⟩);refine TL.run 1 rfl ?_;refine TL.yv (Wt.some rfl rfl rfl rfl) rfl rfl (Yv.au rfl) ?_;refine TL.yv (Wt.some rfl rfl rfl rfl) rfl rfl (Yv.au rfl) ?_;refine TL.yv (Wt.some rfl rfl rfl rfl) rfl rfl (Yv.fieldAddr rfl rfl) ?_;refine TL.yv (Wt.some rfl rfl rfl rfl) rfl rfl (Yv.ar rfl rfl hcon (fun h=>h)) ?_;refine TL.run 2 rfl ?_;refine TL.ak rfl rfl rfl (fun h1=>?_) (fun h1=>?_)
 ·have p1:=h1; (try simp only [nfB] at p1);refine TL.off (Wt.not rfl rfl rfl h1) rfl rfl ?_;refine TL.off (Wt.not rfl rfl rfl h1) rfl rfl ?_;refine TL.off (Wt.not rfl rfl rfl h1) rfl rfl ?_;refine TL.y (Yv.am rfl rfl h1 rfl) ?_;refine TL.run 5 rfl ?_;refine TL.ns ?_;refine T.aC rfl rfl ?_;refine T.sr ?_;refine TL.run 1 rfl ?_;refine TL.ns (T.ret (K.aa ?_));refine K.ah rfl rfl (fun w' hw=>⟨?_,hw.isBelow⟩);exact zae (by rw [zdX,if_pos (by first|(left;assumption)|(right;omega))])
 ·have p1:=h1; (try simp only [nfB] at p1);refine TL.yv (Wt.some rfl rfl rfl h1) rfl rfl (Yv.fieldAddr rfl rfl) ?_;refine TL.yv (Wt.some rfl rfl rfl h1) rfl rfl (Yv.ac 0 rfl rfl rfl rfl) ?_;refine TL.yv (Wt.some rfl rfl rfl h1) rfl rfl (Yv.au rfl) ?_;refine TL.y (Yv.an rfl rfl h1 rfl) ?_;refine TL.run 1 rfl ?_;refine TL.ak rfl rfl rfl (fun h2=>?_) (fun h2=>?_)
  ·have p2:=h2; (try simp only [nfB] at p2);refine TL.off (Wt.not rfl rfl rfl h2) rfl rfl ?_;refine TL.off (Wt.not rfl rfl rfl h2) rfl rfl ?_;refine TL.off (Wt.not rfl rfl rfl h2) rfl rfl ?_;refine TL.y (Yv.am rfl rfl h2 rfl) ?_;refine TL.ns ?_;refine T.aC rfl rfl ?_;refine T.sr ?_;refine TL.run 1 rfl ?_;refine TL.ns (T.ret (K.aa ?_));refine K.ah rfl rfl (fun w' hw=>⟨?_,hw.isBelow⟩);exact zae (by rw [zdX,if_pos (by first|(left;assumption)|(right;omega))])
  ·have p2:=h2; (try simp only [nfB] at p2);refine TL.yv (Wt.some rfl rfl rfl h2) rfl rfl (Yv.fieldAddr rfl rfl) ?_;refine TL.yv (Wt.some rfl rfl rfl h2) rfl rfl (Yv.ac 0 rfl rfl rfl rfl) ?_;refine TL.yv (Wt.some rfl rfl rfl h2) rfl rfl (Yv.au rfl) ?_;refine TL.y (Yv.an rfl rfl h2 rfl) ?_;refine TL.ns ?_;refine T.cond rfl (fun h3=>?_) (fun h3=>?_)
   ·have p3:=h3; (try simp only [nfB] at p3);refine T.sr ?_;refine TL.run 1 rfl ?_;refine TL.ns (T.ret (K.aa ?_));refine K.ah rfl rfl (fun w' hw=>⟨?_,hw.isBelow⟩);exact zae (by rw [zdX,if_pos (by first|(left;assumption)|(right;omega))])
   ·have p3:=h3; (try simp only [nfB] at p3);refine T.skip (K.seq (T.seq ?_));refine T.ay (.still 0 (.still 1 (.still 2 (.still 3 (.still 4 (.still 5 (.eff 6 (.still 7 (.still 8 (.still 9 (.still 10 (.still 11 .done)))))))))))) _ (by kernel_rfl) (List.Sublist.refl _) ?_;refine TS.run 2 rfl ?_;refine TS.y rfl (Yv.fieldAddr rfl rfl) ?_;refine TS.y rfl (Yv.ar rfl rfl hsp0 (fun h=>h)) ?_;refine TS.y rfl (Yv.fieldAddr rfl rfl) ?_;refine TS.y rfl (Yv.ac 0 rfl rfl rfl rfl) ?_;refine TS.eff ?_; (refine TSo.ew rfl (Wt.none rfl) rfl rfl (Ew.af rfl rfl rfl (fun w hw=>zje tp Y x.st w (hT.later (Fz.of_below hw.isBelow)) (Y.ix512 hok hix))) ?_;rintro _ _ ⟨rfl,rfl⟩;refine ⟨Sx,?_⟩);refine TS.run 5 rfl ?_;refine TS.done ?_;refine K.seq (T.seq ?_);refine T.ay (.still 0 (.still 1 (.still 2 (.still 3 (.still 4 (.still 5 (.still 6 (.still 7 (.still 8 (.still 9 (.still 10 (.still 11 (.still 12 (.still 13 (.still 14 (.still 15 .done)))))))))))))))) _ (by kernel_rfl) (List.Sublist.refl _) ?_;refine TS.run 2 rfl ?_;refine TS.ak rfl rfl rfl rfl (fun h4=>?_) (fun h4=>?_)
    ·have p4:=h4; (try simp only [nfB] at p4); (try (have hat:=zeJ hix (s:=x.st) (by assumption);obtain ⟨gL,oL,rfl,hc⟩:=hLs (by omega);have hk:=hc (atF Y x.st).1.toNat (by omega);simp only [Le] at hk));refine TS.still rfl (Wt.some rfl rfl rfl h4) rfl rfl (Yv.au rfl) ?_;refine TS.still rfl (Wt.some rfl rfl rfl h4) rfl rfl (Yv.au rfl) ?_;refine TS.still rfl (Wt.some rfl rfl rfl h4) rfl rfl (Yv.fieldAddr rfl rfl) ?_;refine TS.still rfl (Wt.some rfl rfl rfl h4) rfl rfl (Yv.ar rfl rfl hsp1 (fun h=>h)) ?_;refine TS.still rfl (Wt.some rfl rfl rfl h4) rfl rfl (Yv.au rfl) ?_;refine TS.still rfl (Wt.some rfl rfl rfl h4) rfl rfl (Yv.ag rfl rfl rfl (show (atF Y x.st).1=(((atF Y x.st).1.toNat:Nat):Int) from by omega) (by omega)) ?_;refine TS.still rfl (Wt.some rfl rfl rfl h4) rfl rfl (Yv.loadC (j:=0) rfl rfl hk rfl rfl (fun h=>h)) ?_;refine TS.still rfl (Wt.some rfl rfl rfl h4) rfl rfl (Yv.fieldAddr rfl rfl) ?_;refine TS.still rfl (Wt.some rfl rfl rfl h4) rfl rfl (Yv.ac 0 rfl rfl rfl rfl) ?_;refine TS.still rfl (Wt.some rfl rfl rfl h4) rfl rfl (Yv.aY x.ch.toNat rfl rfl rfl (by omega) (by omega)) ?_;refine TS.still rfl (Wt.some rfl rfl rfl h4) rfl rfl (Yv.aV (b:=1#64) rfl rfl rfl) ?_;refine TS.still rfl (Wt.some rfl rfl rfl h4) rfl rfl (Yv.au rfl) ?_;refine TS.y rfl (Yv.am rfl rfl h4 rfl) ?_;refine TS.run 1 rfl ?_;refine TS.done ?_;refine K.seq (T.ret ?_);refine K.ah rfl rfl (fun w' hw=>⟨?_,hw.isBelow⟩);exact zae (by rw [zdX,if_neg (fun h=>by rcases h with h|h|h; (rw [p1] at h;cases h);omega;omega),if_neg (by rw [p4];simp),ze1])
    ·have p4:=h4; (try simp only [nfB] at p4); (try (have hat:=zeJ hix (s:=x.st) (by assumption);obtain ⟨gL,oL,rfl,hc⟩:=hLs (by omega);have hk:=hc (atF Y x.st).1.toNat (by omega);simp only [Le] at hk));refine TS.aG rfl (Wt.not rfl rfl rfl h4) rfl rfl ?_;refine TS.aG rfl (Wt.not rfl rfl rfl h4) rfl rfl ?_;refine TS.aG rfl (Wt.not rfl rfl rfl h4) rfl rfl ?_;refine TS.aG rfl (Wt.not rfl rfl rfl h4) rfl rfl ?_;refine TS.aG rfl (Wt.not rfl rfl rfl h4) rfl rfl ?_;refine TS.aG rfl (Wt.not rfl rfl rfl h4) rfl rfl ?_;refine TS.aG rfl (Wt.not rfl rfl rfl h4) rfl rfl ?_;refine TS.aG rfl (Wt.not rfl rfl rfl h4) rfl rfl ?_;refine TS.aG rfl (Wt.not rfl rfl rfl h4) rfl rfl ?_;refine TS.aG rfl (Wt.not rfl rfl rfl h4) rfl rfl ?_;refine TS.aG rfl (Wt.not rfl rfl rfl h4) rfl rfl ?_;refine TS.aG rfl (Wt.not rfl rfl rfl h4) rfl rfl ?_;refine TS.y rfl (Yv.an rfl rfl h4 rfl) ?_;refine TS.run 1 rfl ?_;refine TS.done ?_;refine K.seq (T.ret ?_);refine K.ah rfl rfl (fun w' hw=>⟨?_,hw.isBelow⟩);exact zae (by rw [zdX,if_neg (fun h=>by rcases h with h|h|h; (rw [p1] at h;cases h);omega;omega),if_pos (by assumption)])
theorem zh9 (sp:Nat)(Y:Tb)(L:Ws)(w:World)(h:StateAt w sp Y L true):Calls Tryd.prog 43 #[.pointer (some ⟨sp,0,none⟩)] w fun e w'=>e= .returned (.slice none 0 0)∧Below w.heap.size w w':=by
 have hcon:=h.con;refine zaa (M:=fun _=>False) (hs:=[]) Tryd.func43 rfl rfl rfl (Hp.refl _ _) ?_;refine T.sr ?_;refine TL.run 1 rfl ?_;refine TL.ns (T.seq (T.sr ?_));refine TL.run 1 rfl ?_; (refine TL.ew (Wt.none rfl) rfl rfl (Ew.af rfl rfl rfl (fun w hw=>za8 sp Y L true w (h.kept hw))) ?_;rintro _ _ ⟨rfl,rfl⟩);refine TL.run 1 rfl ?_;refine TL.yv (Wt.some rfl rfl rfl rfl) rfl rfl (Yv.au rfl) ?_;refine TL.yv (Wt.some rfl rfl rfl rfl) rfl rfl (Yv.au rfl) ?_;refine TL.yv (Wt.some rfl rfl rfl rfl) rfl rfl (Yv.fieldAddr rfl rfl) ?_;refine TL.yv (Wt.some rfl rfl rfl rfl) rfl rfl (Yv.ar rfl rfl hcon (fun h=>h)) ?_;refine TL.run 1 rfl ?_;refine TL.ns ?_;refine T.aC rfl rfl ?_;refine T.sr ?_;refine TL.run 1 rfl ?_;refine TL.ns (T.ret (K.aa ?_));refine K.ah rfl rfl (fun w' hw=>⟨?_,hw.isBelow⟩)
 rfl
def fixD (d:List GDomain):List GChoice:=(d.filter fun x=>decide (x.Channels.length=1)).map fun x=>⟨x.Station,nth x.Channels 0⟩
def zbB (m:List GDomain×Bool):List GChoice:=bif m.2 then fixD m.1 else []
def zhv (m:List GDomain×Bool)(c:GChoice):Bool:=m.2&&m.1.any fun x=>decide (x.Station=c.Station)&&x.Channels.any fun k=>decide (k=c.Channel)
theorem zhM {d:List GDomain}{x:GDomain}:fixD (d++[x])=fixD d++(if x.Channels.length=1 then [⟨x.Station,nth x.Channels 0⟩] else []):=by
 unfold fixD;rw [List.filter_append,List.map_append]
 congr 1
 by_cases h:x.Channels.length=1 <;> simp [h]
theorem ziO {b:BitVec 64}(hb:b≠0#64)(h0:b.getLsbD 0=false):(zbr b≠0↔(chansN b).length=1)∧(zbr b≠0→chansN b=[zbr b]):=by
 have key:zbr b≠0→chansN b=[zbr b]:=fun h=>by
  have h1:=(zeW hb (c:=((zbr b:Nat):Int)) (by omega)).2 rfl
  cases hc:chansN b with
  |nil=>exact absurd hc (zfP hb)
  |cons j r=>
   have hj:=h1 j (by rw [hc];simp)
   cases r with
   |nil=>rw [show j=zbr b by omega]
   |cons k s=>
    have hk:=h1 k (by rw [hc];simp);have hn:=zcu b;rw [hc,List.nodup_cons] at hn;exact absurd (by simp;left;omega) hn.1
 refine ⟨⟨fun h=>by rw [key h];rfl,fun h hz=>?_⟩,key⟩;obtain ⟨j,hj⟩:=List.length_eq_one_iff.1 h
 have hj0:j≠0:=fun e=>by
  (have:j∈chansN b:=by rw [hj];simp);rw [chansN_mem,e,h0] at this
  cases this
 have:=(zeW hb (c:=(j:Int)) (by omega)).1 (fun k hk=>by rw [hj] at hk;simp at hk;omega);omega
theorem zjp {Y:Tb}{L:Ws}(hl:L.length=Y.n)(hne:∀i,i<Y.n→nth L i≠0#64)(hb:In51 L):∀k,k≤Y.n→(fixF Y L k).map Ch.er=fixD ((gd Y L).take k)
 |0,_=>by simp [fixF,fixD]
 |k+1,h=>by
  have h0:(nth L k).getLsbD 0=false:=by
   cases e:(nth L k).getLsbD 0 with
   |false=>rfl
   |true=>have:=hb k 0 e;omega
  obtain ⟨h1,h2⟩:=ziO (hne k (by omega)) h0;rw [zee,List.map_append,zjp hl hne hb k (by omega),List.take_succ_eq_append_getElem (by rw [zaO];omega),←zam (by rw [zaO];omega),za7 (by omega),zhM]
  congr 1
  show List.map Ch.er (if zbr (nth L k)≠0 then [⟨nth Y.st k,(zbr (nth L k):Int)⟩] else [])=_
  dsimp only;rw [List.length_map];by_cases e:zbr (nth L k)=0
  ·rw [if_neg (by simpa using e),if_neg (fun q=>(h1.2 q) e)];rfl
  ·rw [if_pos e,if_pos (h1.1 e),h2 e];rfl
section
variable {p:GProblem}{m:List GDomain×Bool}{k:SK}{L:Ws}{w:World}{F0:Frz}
theorem SI.ne (h:SI p m k L)(hm:m.2=true):∀i,i<k.Y.n→nth L i≠0#64:=fun i hi=>(h.good hm).1.ne i hi
theorem zhl (hF0:F0.At w)(h:SI p m k L)(hs:StateAt w k.sp k.Y L (!m.2)):Calls Tryd.prog 43 #[.pointer (some ⟨k.sp,0,none⟩)] w fun e w'=>∃(y:Value) (G:Frz),SlC G y 2 ((zbB m).map GChoice.enc)∧e= .returned y∧Fx F0 w G w':=by
 cases hm:m.2 with
 |false=>
  rw [hm] at hs;refine (zh9 k.sp k.Y L w hs).mono ?_;rintro e w' ⟨rfl,hb⟩;exact ⟨.slice none 0 0,F0,by unfold zbB;rw [hm];exact SlC.nil _ 2,rfl,Fx.refl hF0 hb⟩
 |true=>
  rw [hm] at hs;refine (zh4 k.sp k.Y L w hs h.ok).mono ?_;rintro e w' ⟨v, -,rfl,hw⟩;obtain ⟨G,h1,h2⟩:=zjr hF0 hw;refine ⟨v,G,?_,rfl,h1⟩
  have e:zbB m=(fixF k.Y L k.Y.n).map Ch.er:=by
   unfold zbB;rw [hm,cond_true,zjp h.len (h.ne hm) (h.good hm).2.1 _ (Nat.le_refl _),(h.good hm).2.2,List.take_of_length_le (by rw [zaO];exact Nat.le_refl _)]
  rw [e];exact h2
theorem zjF (h:SI p m k L)(hs:StateAt w k.sp k.Y L (!m.2))(c:GChoice):Calls Tryd.prog 44 #[.pointer (some ⟨k.sp,0,none⟩), .agg [.int .i64 c.Station, .int .i64 c.Channel].toArray] w fun e w'=>e= .returned (.bool (zhv m c))∧Below w.heap.size w w':=by
 obtain ⟨P,hP,hok',hY⟩:=h.pb;have hG:=Pb.good hok';refine (ziX k.sp k.Y L (!m.2) c.b w hs h.ok hY.ixn).mono ?_;rintro e w' ⟨rfl,hb⟩;refine ⟨?_,hb⟩
 congr 2
 unfold zdX zhv
 cases hm:m.2 with
 |false=>rw [if_pos (.inl rfl)];rfl
 |true=>
  obtain ⟨-,h51,hd⟩:=h.good hm;rw [Bool.true_and,hd]
  have hany:∀q,(gd k.Y L).any (fun x=>decide (x.Station=c.Station)&&x.Channels.any fun k=>decide (k=c.Channel))=q↔((∃ i,i<k.Y.n∧nth k.Y.st i=c.Station∧∃j:Nat,(nth L i).getLsbD j=true∧(j:Int)=c.Channel)↔q=true):=fun q=>by
   have e1:(gd k.Y L).any (fun x=>decide (x.Station=c.Station)&&x.Channels.any fun k=>decide (k=c.Channel))=true↔(∃i,i<k.Y.n∧nth k.Y.st i=c.Station∧∃j:Nat,(nth L i).getLsbD j=true∧(j:Int)=c.Channel):=by
    rw [List.any_eq_true];constructor
    ·rintro ⟨x,hx,hh⟩;obtain ⟨i,hi,rfl⟩:=zb2 hx;rw [zaO] at hi;rw [Bool.and_eq_true,decide_eq_true_eq,List.any_eq_true] at hh;obtain ⟨h1,q,hq,h2⟩:=hh;obtain ⟨j,hj,rfl⟩:=(zdZ hi).1 hq;rw [za7 hi] at h1;exact ⟨i,hi,h1,j,hj,of_decide_eq_true h2⟩
    ·rintro ⟨i,hi,h1,j,hj,h2⟩;refine ⟨_,zaR (by rw [zaO];exact hi),?_⟩;rw [Bool.and_eq_true,decide_eq_true_eq,List.any_eq_true];exact ⟨by rw [za7 hi];exact h1,(j:Int),(zdZ hi).2 ⟨j,hj,rfl⟩,decide_eq_true h2⟩
   rw [←e1]
   cases (gd k.Y L).any (fun x=>decide (x.Station=c.Station)&&x.Channels.any fun k=>decide (k=c.Channel)) <;> cases q <;> simp
  symm
  rw [hany]
  show _↔(if (!true)=true∨c.Channel<2∨51<c.Channel then false else if (atF k.Y c.Station).2=false then false else (nth L (atF k.Y c.Station).1.toNat).getLsbD c.Channel.toNat)=true
  by_cases hc:c.Channel<2∨51<c.Channel
  ·rw [if_pos (.inr hc)];refine ⟨fun ⟨i,hi,_,j,hj,h2⟩=>?_,fun h=>by cases h⟩;have:=h51 i j hj;omega
  ·rw [if_neg (by simpa using hc)]
   cases hh:zfy P.er c.Station with
   |true=>
    obtain ⟨i,hi,e⟩:=(zca hY).1 hh;rw [←e,zhu hok' hY hi];simp only [Bool.true_eq_false,if_false,Int.toNat_natCast];constructor
    ·rintro ⟨i',hi',h1,j,hj,h2⟩;rw [zc8 hG hY hi hi' h1.symm,←h2,Int.toNat_natCast];exact hj
    ·intro h;exact ⟨i,hi,rfl,c.Channel.toNat,h,by omega⟩
   |false=>
    (have hno:∀i,i<k.Y.n→nth k.Y.st i≠c.Station:=fun i hi e=>by rw [(zca hY).2 ⟨i,hi,e⟩] at hh;cases hh);rw [zku hok' hY hno];simp only [if_true];exact ⟨fun ⟨i,hi,h1,_⟩=>absurd h1 (hno i hi),fun h=>by cases h⟩
end
def zbV (v:Value)(l h k:Nat):Value:=match v with
 | .slice a _ cap=>sliced a l h cap k
 |x=>x
theorem SlC.slice {F:Frz}{v:Value}{size:Nat}{cs:List (List Value)}(h:SlC F v size cs){l i:Nat}(hl:l≤i)(hi:i≤cs.length):SlC F (zbV v l i size) size ((cs.take i).drop l):=by
 obtain ⟨A,cap,rfl,h2,h3,h4,h5⟩:=h; (have hlen:((cs.take i).drop l).length=i - l:=by rw [List.length_drop,List.length_take];omega);have hmem:∀c∈(cs.take i).drop l,c∈cs:=fun c hc=>List.mem_of_mem_take (List.mem_of_mem_drop hc);refine ⟨if cap=l then A else A.map (·.add (l*size)),cap - l,?_,by omega,by omega,fun c hc=>h4 c (hmem c hc),fun hp=>?_⟩
 ·rw [hlen];rfl
 ·rw [hlen] at hp;obtain ⟨g,off,rfl,hg,hc⟩:=h5 (by omega);rw [if_neg (by omega)];refine ⟨g,off+l*size,by simp [zck],hg,fun j hj=>?_⟩;rw [hlen] at hj;have h6:=hc (l+j) (by omega)
  have e:nth ((cs.take i).drop l) j=nth cs (l+j):=by
   rw [zam (by omega),zam (by omega),List.getElem_drop,List.getElem_take]
  rw [e,show off+l*size+j*size=off+(l+j) *size by rw [Nat.add_mul];omega];exact h6
theorem SlD.slice {α:Type}[Inhabited α]{rep:Frz→List Value→α→Prop}{F:Frz}{v:Value}{size:Nat}{cs:List (List Value)}{xs:List α}(h:SlD rep F v size cs xs){l i:Nat}(hl:l≤i)(hi:i≤xs.length):SlD rep F (zbV v l i size) size ((cs.take i).drop l) ((xs.take i).drop l):=by
 refine ⟨h.1.slice hl (by rw [h.2.1];exact hi),?_,fun j hj=>?_⟩
 ·rw [List.length_drop,List.length_take,List.length_drop,List.length_take,h.2.1]
 ·have hj':=hj;rw [List.length_drop,List.length_take] at hj'
  have e:nth ((cs.take i).drop l) j=nth cs (l+j):=by
   rw [zam (by rw [List.length_drop,List.length_take,h.2.1];omega),zam (by rw [h.2.1];omega),List.getElem_drop,List.getElem_take]
  have e':nth ((xs.take i).drop l) j=nth xs (l+j):=by
   rw [zam hj,zam (by omega),List.getElem_drop,List.getElem_take]
  rw [e,e'];exact h.2.2 _ (by omega)
section
variable {F:Frz}{v:Value}{size:Nat}
theorem SlC.sliceh {α:Type}{enc:α→List Value}{xs:List α}(h:SlC F v size (xs.map enc)){i:Nat}(hi:i≤xs.length):SlC F (zbV v 0 i size) size ((xs.take i).map enc):=by
 have:=h.slice (l:=0) (i:=i) (Nat.zero_le _) (by rw [List.length_map];exact hi)
 rwa [List.drop_zero,←List.map_take] at this
variable {α:Type}[Inhabited α]{rep:Frz→List Value→α→Prop}{cs:List (List Value)}{xs:List α}
theorem SlD.sliceh (h:SlD rep F v size cs xs){i:Nat}(hi:i≤xs.length):SlD rep F (zbV v 0 i size) size (cs.take i) (xs.take i):=by
 have:=h.slice (l:=0) (Nat.zero_le _) hi
 rwa [List.drop_zero,List.drop_zero] at this
end
section
variable {P:Program}{n:Nat}{B:World}{M:Nat→Prop}{fs:SFs}{hs:HS}{o:Oper}{v:Value}
theorem TySl.elem {t e k:Nat}(h:TySl P t e k):P.underlying t=some (.slice (P.elem t))∧∀w,(sizeOf (P.elem t)).run P w= .ok k w:=by
 have h:=h.h;unfold zdt at h
 split at h
 ·rename_i el hU; (have he:P.elem t=el:=by unfold Program.elem;rw [hU])
  cases hi':P.info? el with
  |none=>rw [hi'] at h;cases h
  |some inf=>
   rw [hi'] at h
   cases h
   refine ⟨by rw [he];exact hU,fun w=>?_⟩;rw [he];simp [sizeOf,typeInfo,hi']
 ·cases h
theorem Yv.bQ {F:Frz}{t e k i m:Nat}{z:Int}{q:IntKind}{cs:List (List Value)}{x y:Operand}[hT:TySl P t e k](ho:o.op= .slice t x none (some y) none)(hx:ev fs x=some v)(hy:ev fs y=some (.int q z))(h:SlC F v k cs)(hm:cs.length=m)(hz:z=(i:Int))(hi:i≤m):Yv P n B M fs hs o (zbV v 0 i k):=fun a w ha _=>by
 subst hm hz;obtain ⟨A,cap,rfl,h2,h3,h4,h5⟩:=h;unfold execOp;have:=run_slice_h (P:=P) w t A cs.length cap hT.elem.1 q (i:Int) (by omega) (by omega);simp [ho,ha.ev hx,ha.ev hy,run_sliceAt_slice w t _ _ _ _ hT.elem.1,this,hT.elem.2,zbV]
end
structure FxM (F:Frz) (w:World) (M:Nat→Prop) (G:Frz) (es:HS) (w':World):Prop where
 le:F.Le G
 at_:G.At w'
 hp:Hp w M es w'
 new:∀g,G.S g→F.S g∨M g∨w.heap.size≤g
 ap:∀e∈es,∀g,e.fp g→¬G.S g
theorem zgi:fps []=fun _=>False:=by funext g;unfold fps;simp
section
variable {B w w':World}{M S0:Nat→Prop}{hs:HS}{F:FzB B M S0}
theorem FxM.of {F0:Frz}{es:HS}{G:FzB B M S0}(hw:Hp B M (es++[Ent.fr G]) w')(hS:∀g,S0 g→F0.S g)(hle:F0.Le G.toFrz):FxM F0 B M G.toFrz es w':=by
 have h1:=hw;have h2:=List.pairwise_append.1 h1.apart;refine ⟨hle,hw.fr (i:=es.length) (by simp),hw.sub (List.sublist_append_left _ _),fun g hg=>(G.new g hg).imp (hS g) id,fun e he g hg hS=>?_⟩;refine h2.2.2 e he (.fr G) (by simp) g hg (Ent.fr_fp.2 ⟨hS,?_⟩);exact h1.new e (List.mem_append_left _ he) g hg
theorem FxM.up {M':Nat→Prop}{G:Frz}{es:HS}(h:FxM F.toFrz w M' G es w')(hw:Hp B M hs w)(hM:∀g,M' g→M g∨B.heap.size≤g):∃G':FzB B M S0,G'.toFrz=G:=by
 refine ⟨⟨G,fun g hg hb hm=>?_,fun g hg=>?_⟩,rfl⟩
 ·rcases h.new g hg with h1|h1|h1
  ·rw [(h.le g h1).2,F.base g h1 hb hm]
  ·rcases hM g h1 with h2|h2
   ·exact absurd h2 hm
   ·omega
  ·have:=hw.size;omega
 ·rcases h.new g hg with h1|h1|h1
  ·exact F.new g h1
  ·exact .inr (hM g h1)
  ·have:=hw.size;exact .inr (.inr (by omega))
end
section
variable {P:Program}{n:Nat}{B D:World}{M S0:Nat→Prop}{fs:SFs}{hs:HS}{o:Oper}{v:Value}
theorem Ew.aD (idx : List Nat) (bs rest : HS) {ι : Type} {F : FzB B M S0} {φ : ι → Frz → Prop} {val : ι → Value} {es : ι → HS} {c : Operand} {xs : Array Operand} {ts : Array TypeId} {f : FuncId} {fst caps : Array Value} {vs : List Value} [hE : Enters P f]
    (ho : o.op = .call { callee := .value c, args := xs, argTypes := ts }) (hc : ev fs c = some (.func (.func f) fst caps)) (hv : evs fs xs.toList = some vs) (hp : zdM hs idx = some (bs ++ .fr F :: rest)) (hn : idx.Nodup)
    (C : ∀ w, Hp B M hs w → Hp B M (bs ++ .fr F :: rest) w → F.toFrz.At w → Calls P f (fst.toList ++ vs ++ caps.toList).toArray w (fun e w' => ∃ y G, φ y G ∧ e = .returned (val y) ∧ FxM F.toFrz w (fps bs) G (es y) w')) :
    Ew P n B M fs hs o (fun v hs'' => ∃ y, ∃ G : FzB B M S0, F.toFrz.Le G.toFrz ∧ φ y G.toFrz ∧ v = val y ∧ hs'' = es y ++ .fr G :: rest) :=
  Ew.call ho hc hv fun w hw => by
    have hw2 := hw.pick hp hn; have hF : F.toFrz.At w := hw2.fr (i := bs.length) (by simp); refine (C w hw hw2 hF).mono fun e w' ⟨y, G, hy, he, hx⟩ => ?_; have hM : ∀ g, fps bs g → M g ∨ B.heap.size ≤ g := fun g ⟨e, he, hg⟩ => hw2.new e (List.mem_append_left _ he) g hg; obtain ⟨G', rfl⟩ := hx.up hw2 hM; refine ⟨val y, es y ++ .fr G' :: rest, he, Kp.only hx.hp.only (fun g hg c => ?_), ?_, y, G', hx.le, hy, rfl, rfl⟩
    · obtain ⟨e, h1, h2⟩ := hg; exact e.nd (hw2.own e (List.mem_append_left _ h1)) g h2 c
    · (have h3 : Hp B M ((bs ++ [.fr F]) ++ rest) w := by rw [List.append_assoc]; exact hw2); have h4 := Hp.go (es := bs ++ [.fr F]) (es' := es y ++ [.fr G']) h3 hx.hp.only (fun g _ ⟨e, he, hg⟩ => ⟨e, List.mem_append_left _ he, hg⟩) (fun e he => ?_) (fun e he g hg => ?_) ?_
      · rw [List.append_assoc] at h4; exact h4
      · rcases List.mem_append.1 he with he | he
        · exact hx.hp.own e he
        · simp at he; subst he; exact Ent.fr_ok.2 (fun g hg => hx.at_ g hg.1)
      · rcases List.mem_append.1 he with he | he
        · rcases hx.hp.new e he g hg with ⟨f, hf, hfg⟩ | h5
          · exact .inl ⟨f, List.mem_append_left _ hf, hfg⟩
          · exact .inr h5
        · simp at he; subst he; have h6 := Ent.fr_fp.1 hg; rcases hx.new g h6.1 with h7 | ⟨f, hf, hfg⟩ | h7
          · exact .inl ⟨.fr F, by simp, Ent.fr_fp.2 ⟨h7, h6.2⟩⟩
          · exact .inl ⟨f, List.mem_append_left _ hf, hfg⟩
          · exact .inr h7
      · exact List.pairwise_append.2 ⟨hx.hp.apart, List.pairwise_singleton _ _, fun e he f hf g hg hfg => by
          simp at hf; subst hf
          exact hx.ap e he g hg (Ent.fr_fp.1 hfg).1⟩
theorem Ew.aS (idx : List Nat) (bs rest : HS) {ι : Type} {F : FzB B M S0} {φ : ι → Prop} {val : ι → Value} {es : ι → HS} {c : Operand} {xs : Array Operand} {ts : Array TypeId} {f : FuncId} {fst caps : Array Value} {vs : List Value} [hE : Enters P f]
    (ho : o.op = .call { callee := .value c, args := xs, argTypes := ts }) (hc : ev fs c = some (.func (.func f) fst caps)) (hv : evs fs xs.toList = some vs) (hp : zdM hs idx = some (bs ++ .fr F :: rest)) (hn : idx.Nodup)
    (C : ∀ w, Hp B M hs w → Hp B M (bs ++ .fr F :: rest) w → F.toFrz.At w → Calls P f (fst.toList ++ vs ++ caps.toList).toArray w (fun e w' => ∃ y, φ y ∧ e = .returned (val y) ∧ FxM F.toFrz w (fps bs) F.toFrz (es y) w')) :
    Ew P n B M fs hs o (fun v hs'' => ∃ y, φ y ∧ v = val y ∧ hs'' = es y ++ .fr F :: rest) :=
  Ew.call ho hc hv fun w hw => by
    have hw2 := hw.pick hp hn; have hF : F.toFrz.At w := hw2.fr (i := bs.length) (by simp); refine (C w hw hw2 hF).mono fun e w' ⟨y, hy, he, hx⟩ => ?_; refine ⟨val y, es y ++ .fr F :: rest, he, Kp.only hx.hp.only (fun g hg c => ?_), ?_, y, hy, rfl, rfl⟩
    · obtain ⟨e, h1, h2⟩ := hg; exact e.nd (hw2.own e (List.mem_append_left _ h1)) g h2 c
    · exact Hp.go (es := bs) (es' := es y) hw2 hx.hp.only (fun g _ ⟨e, he, hg⟩ => ⟨e, he, hg⟩) hx.hp.own (fun e he g hg => hx.hp.new e he g hg) hx.hp.apart
end
section
variable {w:World}{bs:HS}{F:Frz}
theorem zbe (hF:F.At w)(h:Hp w (fps bs) bs w)(hA:∀g,fps bs g→¬F.S g):∃(S0:Nat→Prop) (G:FzB w (fps bs) S0),G.toFrz=F∧(∀g,S0 g→F.S g)∧Hp w (fps bs) (bs++[Ent.fr G]) w:=⟨F.S,Frz.inB hF _,rfl,fun _ h=>h,Hp.startFM hF h hA⟩
variable {B:World}{M S0:Nat→Prop}{G:FzB B M S0}{rest:HS}
theorem Hp.takes (h:Hp B M (bs++ .fr G :: rest) w):Hp w (fps bs) bs w∧∀g,fps bs g→¬G.toFrz.S g:=by
 have h1:Hp B M bs w:=h.sub (List.sublist_append_left _ _);refine ⟨Hp.startL h1.own h1.apart,fun g ⟨e,he,hg⟩ hS=>?_⟩;exact (List.pairwise_append.1 h.apart).2.2 e he (.fr G) (by simp) g hg (Ent.fr_fp.2 ⟨hS,h1.new e he g hg⟩)
theorem Hp.takes0 (h:Hp B M (bs++ .fr G :: rest) w)(h0:¬M 0)(hB:0<B.heap.size):¬fps bs 0:=fun ⟨e,he,hg⟩=>by
 rcases h.new e (List.mem_append_left _ he) 0 hg with h1|h1
 ·exact h0 h1
 ·omega
end
theorem Tab.pos {w:World}(h:Tab w):0<w.heap.size:=by
 have h0:=h 0 (by decide);unfold World.cell? at h0;rcases Nat.eq_zero_or_pos w.heap.size with e|e
 ·rw [Array.getElem?_eq_none (by omega)] at h0;simp at h0
 ·exact e
abbrev st2L (k:SK)(v:Value)(L:Ws)(b:Bool):HS:=[.row k.sp 87 [.pointer (some ⟨k.tp,0,none⟩),v, .bool b], .sl v 25 1 k.Y.n (Ws.cells L)]
abbrev st2 (k:SK)(v:Value)(L:Ws)(b:Bool):Ent:= .bag (st2L k v L b)
def TbF (F:Frz)(k:SK):Prop:=∀g,IsC k.w0 g→F.S g∧F.w.heap[g]?=k.w0.heap[g]?
theorem TbF.mono {F G:Frz}{k:SK}(h:TbF F k)(hle:F.Le G):TbF G k:=fun g hg=>⟨(hle g (h g hg).1).1,(hle g (h g hg).1).2.trans (h g hg).2⟩
theorem TbF.fz {F:Frz}{k:SK}{w:World}(h:TbF F k)(hF:F.At w):Fz k.w0 w:=fun g hg=>(hF g (h g hg).1).trans (h g hg).2
theorem zdU:∀L:Ws,L.flatMap Le=Ws.cells L
 | []=>rfl
 |b :: r=>by
  rw [List.flatMap_cons,zdU r];rfl
section
variable {p:GProblem}{m:List GDomain×Bool}{k:SK}{v:Value}{L:Ws}{b:Bool}{w w':World}{F F0:Frz}
theorem SI.gl (h:SI p m k L)(gl:GL):SI p m { k with gl:=gl } L:=⟨h.pb,h.tb,h.len,h.good,h.bad⟩
theorem SI.sp (h:SI p m k L)(sp:Nat):SI p m { k with sp:=sp } L:=⟨h.pb,h.tb,h.len,h.good,h.bad⟩
theorem SI.n512 (h:SI p m k L):k.Y.n≤512:=h.ok.n
theorem zbq {g:Nat}{t:TypeId}{l:List Value}{i:Nat}{x:Value}(h:(Ent.row g t l).ok w)(hx:l[i]?=some x):w.cell? ⟨g,i,none⟩=some x:=by rw [zaE (Ent.row_ok.1 h)];exact hx
theorem zd6 (h:SI p m k L)(hok:(st2 k v L b).ok w)(hf:Fz k.w0 w)(htab:Tab w):StateAt w k.sp k.Y L b:=by
 have h1:=(Ent.bag_ok.1 hok).1;have hr:=h1 (.row k.sp 87 [.pointer (some ⟨k.tp,0,none⟩),v, .bool b]) (by simp);have hl:=Ent.sl_ok.1 (h1 (.sl v 25 1 k.Y.n (Ws.cells L)) (by simp));refine ⟨htab,⟨k.tp,zbq hr rfl,h.tb.later hf⟩,⟨v,zbq hr rfl,?_⟩,h.len,zbq hr rfl⟩;refine SlOf.own (enc:=Le) (size:=1) (fun _=>rfl) (xs:=L) (e:=25) (k:=k.Y.n) ?_ h.len.symm;rw [zdU];exact hl
theorem zj5 (h:SI p m k L)(hok:(st2 k v L b).ok w)(hn:0<k.Y.n):∃gl:GL,v=sG gl k.Y.n:=by
 have h1:=(Ent.bag_ok.1 hok).1;have hl:=Ent.sl_ok.1 (h1 (.sl v 25 1 k.Y.n (Ws.cells L)) (by simp));rcases hl.2 with ⟨_,h0⟩|⟨g,cap,cur,rfl,_⟩
 ·omega
 ·exact ⟨⟨g,cap⟩,rfl⟩
theorem zjM {gl:GL}(hok:(st2 k (sG gl k.Y.n) L b).ok w)(hf:Fz k.w0 w)(hap:∀g,(st2 k (sG gl k.Y.n) L b).fp g→¬IsC k.w0 g):(stE { k with gl:=gl } L b).ok w:=by
 obtain ⟨h1,h2⟩:=Ent.bag_ok.1 hok;refine Ent.bag_ok.2 ⟨fun e he=>?_,?_⟩
 ·simp at he;rcases he with rfl|rfl|rfl
  ·exact h1 _ (by simp)
  ·exact h1 _ (by simp)
  ·exact Ent.fz_ok.2 hf
 ·show ([sRow k.sp gl k.tp k.Y.n b,zaB gl k.Y.n L]++[Ent.fz k.w0]).Pairwise _
  refine List.pairwise_append.2 ⟨h2,List.pairwise_singleton _ _,fun e he f hf' g hg hfg=>?_⟩;simp only [List.mem_singleton] at hf';subst hf';exact hap g (Ent.bag_fp.2 ⟨e,he,hg⟩) (Ent.fz_fp.1 hfg)
theorem zkb {gl:GL}{L':Ws}{b':Bool}(hf:Fz k.w0 w)(h:Hp w (stE { k with gl:=gl } L b).fp [stE { k with gl:=gl } L' b'] w'):Hp w (st2 k (sG gl k.Y.n) L b).fp [st2 k (sG gl k.Y.n) L' b'] w':=by
 have hok:=h.own (stE { k with gl:=gl } L' b') (by simp);obtain ⟨h1,h2⟩:=Ent.bag_ok.1 hok;have h3:([sRow k.sp gl k.tp k.Y.n b',zaB gl k.Y.n L']++[Ent.fz k.w0]).Pairwise fun e f=>∀g,e.fp g→¬f.fp g:=h2;obtain ⟨a1,a2,a3⟩:=List.pairwise_append.1 h3;have hf':Fz k.w0 w':=Ent.fz_ok.1 (h1 (.fz k.w0) (by simp));have hsp:∀g,(st2 k (sG gl k.Y.n) L' b').fp g↔∃e∈[sRow k.sp gl k.tp k.Y.n b',zaB gl k.Y.n L'],e.fp g:=fun g=>Ent.bag_fp;have hfp:∀g,(st2 k (sG gl k.Y.n) L b).fp g↔∃e∈[sRow k.sp gl k.tp k.Y.n b,zaB gl k.Y.n L],e.fp g:=fun g=>Ent.bag_fp
 have hE:∀g,(stE { k with gl:=gl } L b).fp g↔(st2 k (sG gl k.Y.n) L b).fp g∨IsC k.w0 g:=fun g=>by
  rw [hfp,Ent.bag_fp];simp only [List.mem_cons,List.not_mem_nil,or_false,exists_eq_or_imp,exists_eq_left,Ent.fz_fp];exact or_assoc.symm
 refine ⟨h.os,h.tape,h.output,h.size,fun g hg hn=>?_,fun e he=>?_,fun e he g hg=>?_,List.pairwise_singleton _ _⟩
 ·by_cases hc:IsC k.w0 g
  ·rw [hf' g hc,hf g hc]
  ·exact h.base g hg (fun hh=>((hE g).1 hh).elim hn hc)
 ·simp at he;subst he;exact Ent.bag_ok.2 ⟨fun e he=>h1 e (by simp at he ⊢;rcases he with h|h <;> simp [h]),a1⟩
 ·simp at he;subst he;have hg':=(hsp g).1 hg;obtain ⟨x,hx,hxg⟩:=hg';rcases h.new (stE { k with gl:=gl } L' b') (by simp) g (Ent.bag_fp.2 ⟨x,by simp at hx ⊢;rcases hx with h|h <;> simp [h],hxg⟩) with h4|h4
  ·rcases (hE g).1 h4 with h5|h5
   ·exact .inl h5
   ·exact absurd (Ent.fz_fp.2 h5) (a3 x hx (.fz k.w0) (by simp) g hxg)
  ·exact .inr h4
theorem zc1 (h:SI p m k L)(tf:TbF F k)(hok:(st2 k v L (!m.2)).ok w)(hF:F.At w)(htab:Tab w):Calls Tryd.prog 30 #[.pointer (some ⟨k.sp,0,none⟩)] w fun e w'=>e= .returned (.bool (!m.2))∧Below w.heap.size w w':=zfG (zd6 h hok (tf.fz hF) htab)
theorem zg6 (h:SI p m k L)(tf:TbF F k)(hok:(st2 k v L (!m.2)).ok w)(hF:F.At w)(htab:Tab w):Calls Tryd.prog 19 #[.pointer (some ⟨k.sp,0,none⟩)] w fun e w'=>∃(y:Value×List (List Value)) (G:Frz),SlD GDomain.rep G y.1 2 y.2 m.1∧e= .returned y.1∧Fx F w G w':=zgh hF h (zd6 h hok (tf.fz hF) htab)
theorem ziG (h:SI p m k L)(tf:TbF F k)(hok:(st2 k v L (!m.2)).ok w)(hF:F.At w)(htab:Tab w):Calls Tryd.prog 43 #[.pointer (some ⟨k.sp,0,none⟩)] w fun e w'=>∃(y:Value) (G:Frz),SlC G y 2 ((zbB m).map GChoice.enc)∧e= .returned y∧Fx F w G w':=zhl hF h (zd6 h hok (tf.fz hF) htab)
theorem zj0 (h:SI p m k L)(tf:TbF F k)(hok:(st2 k v L (!m.2)).ok w)(hF:F.At w)(htab:Tab w)(c:GChoice):Calls Tryd.prog 44 #[.pointer (some ⟨k.sp,0,none⟩), .agg [.int .i64 c.Station, .int .i64 c.Channel].toArray] w fun e w'=>e= .returned (.bool (zhv m c))∧Below w.heap.size w w':=zjF h (zd6 h hok (tf.fz hF) htab) c
theorem zjl (kp : Bool) (num : FuncId) (h : SI p m k L) (tf : TbF F k) (hok : (st2 k v L (!m.2)).ok w) (hF : F.At w) (hap : ∀ g, (st2 k v L (!m.2)).fp g → ¬ F.S g) (htab : Tab w) {fuel : Nat} (c : GChoice) {r : (List GDomain × Bool) × Int} (hr : zeo fuel p m kp c = some r)
    (hE : (zaD k.Y (!m.2) c.b).2 ≠ 0 → Calls Tryd.prog num #[.pointer (some ⟨k.sp, 0, none⟩), .agg (Ch.cells c.b).toArray] w fun e w' => e = .returned (.int .i64 (zaD k.Y (!m.2) c.b).2) ∧ Below w.heap.size w w')
    (hO : ∀ gl : GL, SI p m { k with gl := gl } L → (stE { k with gl := gl } L (!m.2)).ok w → Calls Tryd.prog num #[.pointer (some ⟨k.sp, 0, none⟩), .agg [.int .i64 c.Station, .int .i64 c.Channel].toArray] w fun e w' => ∃ L', SI p r.1 { k with gl := gl } L' ∧ e = .returned (.int .i64 r.2) ∧ Hp w (stE { k with gl := gl } L (!m.2)).fp [stE { k with gl := gl } L' (!r.1.2)] w') :
    Calls Tryd.prog num #[.pointer (some ⟨k.sp, 0, none⟩), .agg [.int .i64 c.Station, .int .i64 c.Channel].toArray] w fun e w' => ∃ L', SI p r.1 k L' ∧ e = .returned (.int .i64 r.2) ∧ Hp w (st2 k v L (!m.2)).fp [st2 k v L' (!r.1.2)] w' := by
  have hfit := zhx h (c := c)
  have keepE : ∀ {n : Int}, r = (m, n) → (zaD k.Y (!m.2) c.b).2 = n → n ≠ 0 → Calls Tryd.prog num #[.pointer (some ⟨k.sp, 0, none⟩), .agg [.int .i64 c.Station, .int .i64 c.Channel].toArray] w fun e w' => ∃ L', SI p r.1 k L' ∧ e = .returned (.int .i64 r.2) ∧ Hp w (st2 k v L (!m.2)).fp [st2 k v L' (!r.1.2)] w' := by
    intro n hr hc hn; subst hr; refine (hE (by rw [hc]; exact hn)).mono ?_; rintro e w' ⟨rfl, hb⟩; exact ⟨L, h, by rw [hc], (Hp.start hok).below hb⟩
  by_cases hn : 0 < k.Y.n
  · obtain ⟨gl, rfl⟩ := zj5 h hok hn; refine (hO gl (h.gl gl) (zjM hok (tf.fz hF) (fun g hg hc => hap g hg (tf g hc).1))).mono ?_; rintro e w' ⟨L', h1, rfl, h2⟩; exact ⟨L', ⟨h1.pb, h1.tb, h1.len, h1.good, h1.bad⟩, rfl, zkb (tf.fz hF) h2⟩
  · unfold zeo at hr
    cases hg : zic c with
    | false => rw [hg] at hr hfit; exact keepE (Option.some.inj hr).symm (by rw [hfit]; rfl) (by decide)
    | true =>
      rw [hg] at hr hfit; simp only [Bool.not_true, cond_false] at hr hfit
      cases hm : m.2 with
      | false => rw [hm] at hr hfit; rw [← hm]; exact keepE (Option.some.inj hr).symm (by rw [hm]; rw [hfit]; rfl) (by decide)
      | true =>
        rw [hm] at hr hfit; simp only [Bool.not_true, cond_false] at hr hfit
        cases hh : zfy p c.Station with
        | false => rw [hh] at hr hfit; rw [← hm]; exact keepE (Option.some.inj hr).symm (by rw [hm, Bool.not_true, hfit]; rfl) (by decide)
        | true =>
          obtain ⟨P, rfl, _, hY⟩ := h.pb; obtain ⟨i, hi, _⟩ := (zca hY).1 hh; omega
theorem zhq (h : SI p m k L) (tf : TbF F k) (hok : (st2 k v L (!m.2)).ok w) (hF : F.At w) (hap : ∀ g, (st2 k v L (!m.2)).fp g → ¬ F.S g) (htab : Tab w) {fuel : Nat} (hf : 100000 ≤ fuel) (c : GChoice) {r : (List GDomain × Bool) × Int} (hr : zeo fuel p m true c = some r) :
    Calls Tryd.prog 31 #[.pointer (some ⟨k.sp, 0, none⟩), .agg [.int .i64 c.Station, .int .i64 c.Channel].toArray] w fun e w' => ∃ L', SI p r.1 k L' ∧ e = .returned (.int .i64 r.2) ∧ Hp w (st2 k v L (!m.2)).fp [st2 k v L' (!r.1.2)] w' := by
  obtain ⟨P, hP, hok', hY⟩ := h.pb; exact zjl true _ h tf hok hF hap htab c hr (fun he => zeC k.sp k.Y L (!m.2) c.b w (zd6 h hok (tf.fz hF) htab) (k.Y.ix512 h.ok hY.ixn) he) (fun gl h1 h2 => zh7 h1 h2 htab hf c hr)
theorem zif (h : SI p m k L) (tf : TbF F k) (hok : (st2 k v L (!m.2)).ok w) (hF : F.At w) (hap : ∀ g, (st2 k v L (!m.2)).fp g → ¬ F.S g) (htab : Tab w) {fuel : Nat} (hf : 100000 ≤ fuel) (c : GChoice) {r : (List GDomain × Bool) × Int} (hr : zeo fuel p m false c = some r) :
    Calls Tryd.prog 34 #[.pointer (some ⟨k.sp, 0, none⟩), .agg [.int .i64 c.Station, .int .i64 c.Channel].toArray] w fun e w' => ∃ L', SI p r.1 k L' ∧ e = .returned (.int .i64 r.2) ∧ Hp w (st2 k v L (!m.2)).fp [st2 k v L' (!r.1.2)] w' := by
  obtain ⟨P, hP, hok', hY⟩ := h.pb; exact zjl false _ h tf hok hF hap htab c hr (fun he => zer k.sp k.Y L (!m.2) c.b w (zd6 h hok (tf.fz hF) htab) (k.Y.ix512 h.ok hY.ixn) he) (fun gl h1 h2 => zii h1 h2 htab hf c hr)
theorem zjO (hF:F0.At w)(h:SI p m k L)(hw:Hp w (fun _=>False) [stE k L b] w'):∃G,TbF G k∧FxM F0 w (fps []) G [st2 k (sG k.gl k.Y.n) L b] w':=by
 have hok:=hw.own (stE k L b) (by simp);obtain ⟨h1,h2⟩:=Ent.bag_ok.1 hok;have h3:([sRow k.sp k.gl k.tp k.Y.n b,zaB k.gl k.Y.n L]++[Ent.fz k.w0]).Pairwise fun e f=>∀g,e.fp g→¬f.fp g:=h2;obtain ⟨a1,a2,a3⟩:=List.pairwise_append.1 h3;have hf':Fz k.w0 w':=Ent.fz_ok.1 (h1 (.fz k.w0) (by simp));have hb:=hw.isBelow;have hF':=hF.below hb;have hnew:∀g,IsC k.w0 g→w.heap.size≤g:=fun g hg=>(hw.new (stE k L b) (by simp) g (Ent.bag_fp.2 ⟨.fz k.w0,by simp,Ent.fz_fp.2 hg⟩)).elim (fun h=>h.elim) id
 have hnew2:∀g,(st2 k (sG k.gl k.Y.n) L b).fp g→w.heap.size≤g:=fun g hg=>by
  obtain ⟨e,he,hg⟩:=Ent.bag_fp.1 hg;exact (hw.new (stE k L b) (by simp) g (Ent.bag_fp.2 ⟨e,by simp at he ⊢;rcases he with h|h <;> simp [h],hg⟩)).elim (fun h=>h.elim) id
 refine ⟨⟨fun g=>F0.S g∨IsC k.w0 g,w',fun g hg=>?_⟩,fun g hg=>⟨.inr hg,hf' g hg⟩,⟨fun g hg=>⟨.inl hg,hF' g hg⟩,fun g _=>rfl,?_,fun g hg=>hg.imp id (fun h=> .inr (hnew g h)),fun e he g hg hS=>?_⟩⟩
 ·rcases hg with hg|hg
  ·exact hF'.cb hg
  ·obtain ⟨cs,t,q,e⟩:=hg;exact ⟨cs,t,q,(hf' g ⟨cs,t,q,e⟩).trans e⟩
 ·rw [zgi];refine ⟨hw.os,hw.tape,hw.output,hw.size,hw.base,fun e he=>?_,fun e he g hg=>?_,List.pairwise_singleton _ _⟩
  ·simp at he;subst he;exact Ent.bag_ok.2 ⟨fun e he=>h1 e (by simp at he ⊢;rcases he with h|h <;> simp [h]),a1⟩
  ·simp at he;subst he;exact .inr (hnew2 g hg)
 ·simp at he;subst he;rcases hS with hS|hS
  ·have:=(hF.cb hS).lt;have:=hnew2 g hg;omega
  ·obtain ⟨e,he,hg⟩:=Ent.bag_fp.1 hg;exact a3 e he (.fz k.w0) (by simp) g hg (Ent.fz_fp.2 hS)
theorem zkc {vd vp vl vc : Value} {cd : List (List Value)} (hF0 : F0.At w) (h : PbF F0 vd cd vp vl vc p) (htab : Tab w) (hv : okG p = true) {fuel : Nat} (hf : 100000 ≤ fuel) {r : List GDomain × Bool} (hr : zaG fuel p p.Domains = some r) :
    Calls Tryd.prog 25 #[.agg [vd, vp, vl, vc].toArray] w fun e w' => ∃ (y : SK × Value × Ws) (G : Frz), (SI p r y.1 y.2.2 ∧ TbF G y.1) ∧ e = .returned (.tuple #[.pointer (some ⟨y.1.sp, 0, none⟩), .int .i64 0]) ∧ FxM F0 w (fps []) G [st2 y.1 y.2.1 y.2.2 (!r.2)] w' := by
  refine (zkd hF0 h htab hv hf hr).mono ?_; rintro e w' ⟨⟨k, L⟩, hs, rfl, hw⟩; obtain ⟨G, h1, h2⟩ := zjO hF0 hs hw; exact ⟨(k, sG k.gl k.Y.n, L), G, ⟨hs, h1⟩, rfl, h2⟩
theorem zju (h : SI p m k L) (tf : TbF F k) (hok : (st2 k v L (!m.2)).ok w) (hF : F.At w) (htab : Tab w) : Calls Tryd.prog 23 #[.pointer (some ⟨k.sp, 0, none⟩)] w fun e w' => ∃ (y : SK × Value) (G : Frz), (SI p m y.1 L ∧ TbF G y.1) ∧ e = .returned (.pointer (some ⟨y.1.sp, 0, none⟩)) ∧ FxM F w (fps []) G [st2 y.1 y.2 L (!m.2)] w' := by
  have hs := zd6 h hok (tf.fz hF) htab; have h1 := (Ent.bag_ok.1 hok).1; have hr := h1 (.row k.sp 87 [.pointer (some ⟨k.tp, 0, none⟩), v, .bool (!m.2)]) (by simp); have hl := h1 (.sl v 25 1 k.Y.n (Ws.cells L)) (by simp); have hn := h.n512
  -- what is there is frozen for the time of the call
  have hC : SlC (Frz.all w) v 1 (L.map Le) := by
    have hl2 := hl; rw [← zdU] at hl2; exact (SlK.ent (G := Frz.all w) hl2 rfl (fun g _ hc => hc)).toF h.len.symm (fun _ => rfl)
  haveI := hC.oneC; refine Calls.mono (R := fun e w' => ∃ (y : Nat × Value), OneC y.2 ∧ e = .returned (.pointer (some ⟨y.1, 0, none⟩)) ∧ Hp w (fun _ => False) [.row y.1 87 [.pointer (some ⟨k.tp, 0, none⟩), y.2, .bool (!m.2)], .sl y.2 25 1 k.Y.n (Ws.cells L)] w') ?_ ?_
  · obtain ⟨S0, F1, hF1, hS0, hp0⟩ := zaA (Frz.all_at w); rw [← hF1] at hC; refine zaa (M := fun _ => False) (hs := [.fr F1]) Tryd.func23 rfl rfl rfl hp0 ?_; refine T.sr ?_; refine TL.run 1 rfl ?_; refine TL.ns (T.seq (T.sr ?_)); refine TL.run 1 rfl ?_; refine TL.e (Ew.af rfl rfl rfl (fun w' hw => za8 k.sp k.Y L (!m.2) w' (hs.kept hw))) ?_; rintro _ _ ⟨rfl, rfl⟩; refine TL.ns ?_; refine T.aE rfl rfl ?_; refine T.skip (K.seq (T.seq ?_)); refine T.ay (.still 0 (.still 1 (.still 2 (.still 3 (.still 4 (.still 5 (.still 6 (.still 7 (.still 9 (.still 10 (.still 11 (.still 12 (.eff 8 (.still 13 (.eff 14 (.still 15 .done)))))))))))))))) [.fr F1] (by kernel_rfl) (List.Sublist.refl _) ?_; refine TS.run 2 rfl ?_; refine TS.y rfl (Yv.fieldAddr rfl rfl) ?_; refine TS.y rfl (Yv.ar rfl rfl (zbq (i := 0) hr rfl) (fun h => h)) ?_; refine TS.run 2 rfl ?_; refine TS.y rfl (Yv.fieldAddr rfl rfl) ?_; refine TS.y rfl (Yv.ar rfl rfl (zbq (i := 1) hr rfl) (fun h => h)) ?_; refine TS.run 2 rfl ?_; refine TS.y rfl (Yv.fieldAddr rfl rfl) ?_; refine TS.y rfl (Yv.ar rfl rfl (zbq (i := 2) hr rfl) (fun h => h)) ?_; refine TS.slNil 25 1 ?_; refine TS.eff ?_; refine TSo.bk rfl (Wt.none rfl) rfl rfl (Ew.bF 0 1 (F := F1) (k' := k.Y.n) (l' := Ws.cells L) (zio (enc := Le) (fun x => inferInstanceAs (OneCs [U x]))) rfl rfl rfl rfl rfl hC (by rw [List.length_map, h.len]; omega) (by rw [List.nil_append, ← List.flatMap_def, zdU]) (by omega) (by decide)) ?_; rintro v' _ ⟨hv', rfl⟩; refine ⟨fun w hw => hw.sub (List.sublist_cons_self _ _), ?_⟩; refine TS.y rfl (Yv.build rfl rfl) ?_; refine TS.eff ?_; refine TSo.bk rfl (Wt.none rfl) rfl rfl (Ew.aA rfl rfl) ?_; rintro _ _ ⟨g, rfl, rfl⟩; refine ⟨fun w hw => hw.sub Sx, ?_⟩; refine TS.run 1 rfl ?_; refine TS.done ?_; refine K.seq (T.ret ?_); exact K.ah rfl rfl (fun w' hw => ⟨(g, v'), hv', rfl, hw.sub Sx⟩)
  · rintro e w' ⟨⟨g, v'⟩, hv', rfl, hw⟩; refine ⟨({ k with sp := g }, v'), F, ⟨h.sp g, tf⟩, rfl, ⟨Frz.Le.refl _, hF.below hw.isBelow, ?_, fun g hg => .inl hg, fun e he q hq hS => ?_⟩⟩
    · rw [zgi]; exact zgf hw
    · simp at he; subst he; have h2 := (zgf hw).new _ (by simp) q hq; have := (hF.cb hS).lt; rcases h2 with h2 | h2
      · exact h2
      · omega
end
abbrev vI (z:Int):Value:= .int .i64 z
abbrev Vec (n:Nat)(α:Type):={ l:List α // l.length=n }
def Vec.fill {α:Type}(n:Nat)(v:α):Vec n α:=⟨List.replicate n v,List.length_replicate⟩
instance {n:Nat} {α:Type} [Inhabited α]:Inhabited (Vec n α):=⟨Vec.fill n default⟩
def Vec.get {n:Nat}{α:Type}[Inhabited α](x:Vec n α)(i:Nat):α:=nth x.1 i
def Vec.put {n:Nat}{α:Type}(x:Vec n α)(i:Nat)(v:α):Vec n α:=⟨x.1.set i v,by rw [List.length_set,x.2]⟩
section
variable {α:Type}[Inhabited α]{n i j m p:Nat}{x:Vec n α}{f:α→Value}{a b l r:List Value}{v:Value}
theorem Vec.len:(x.1.map f).length=n:=by rw [List.length_map,x.2]
theorem Vec.cell (h:i<n):(x.1.map f)[i]?=some (f (x.get i)):=by
 unfold Vec.get;rw [List.getElem?_map,List.getElem?_eq_getElem (by rw [x.2];exact h),zam (by rw [x.2];exact h)];rfl
theorem Vec.upd {v:α}(h:i<n):(x.1.map f).set i (f v)=(x.put i v).1.map f:=by
 show _=(x.1.set i v).map f
 rw [List.map_set]
theorem zcr (hp:p=i)(h:l[i]?=some v):l[p]?=some v:=by rw [hp];exact h
theorem zgl {u:Value}(hp:p=i)(h:l.set i u=r):l.set p u=r:=by rw [hp];exact h
theorem zhK (ha:a.length=m)(hi:i<m)(h:a[i]?=some v):(a++b)[i]?=some v:=by
 rw [List.getElem?_append_left (by omega)];exact h
theorem zcC (ha:a.length=m)(h:b[j]?=some v):(a++b)[m+j]?=some v:=by
 rw [List.getElem?_append_right (by omega),ha,show m+j - m=j by omega];exact h
theorem zgH {u:Value}(ha:a.length=m)(h:b.set j u=r):(a++b).set (m+j) u=a++r:=by
 rw [List.set_append_right _ _ (by omega),ha,show m+j - m=j by omega,h]
theorem zdv {k:Nat}(ha:a.length=m)(hb:b.length=k):(a++b).length=m+k:=by rw [List.length_append,ha,hb]
instance OneCs.vmap {β:Type} {g:β→Value} {y:List β} [h:∀z,OneC (g z)]:OneCs (y.map g):=⟨fun z hz=>by obtain ⟨b,_,rfl⟩:=List.mem_map.1 hz;exact (h b).h⟩
instance OneCs.cat [h:OneCs a] [k:OneCs b]:OneCs (a++b):=⟨fun z hz=>(List.mem_append.1 hz).elim (h.h z) (k.h z)⟩
end
section
variable {P:Program}{n:Nat}{B D:World}{M:Nat→Prop}{fs:SFs}{hs:HS}{o:Oper}{v:Value}
theorem Ew.bj {t:TypeId}{z l:List Value}[hT:TyZ P t z](ho:o.op= .alloc t)(hz:z=l):Ew P n B M fs hs o (fun v hs'=>∃g,v= .pointer (some ⟨g,0,none⟩)∧hs'= .row g t l :: hs):=by
 subst hz;exact Ew.alloc ho
theorem zfo {place:Nat→Option (Nat×Nat)}{l l1 m:List Value}{l2:Array Value}{i off size:Nat}{v:Value}{ps:List (Nat×Value)}(hp:place i=some (off,size))(hc:v.cells=m.toArray)(hs:m.length=size)(h1:zch l off m=l1)(hb:off+m.length≤l.length)(h2:Instr.fill place l1.toArray ps=some l2):Instr.fill place l.toArray ((i,v) :: ps)=some l2:=by
 obtain ⟨l2'⟩:=l2;haveI:Place place i off size:=⟨hp⟩;haveI:Cells v m:=⟨hc⟩;haveI:Splice l off m l1:=⟨h1,hb⟩;haveI:Fill place l1 ps l2':=⟨h2⟩;haveI:LenIs m size:=⟨hs⟩;exact (inferInstance:Fill place l ((i,v) :: ps) l2').h
theorem zgY {l r:List Value}{off:Nat}{v:Value}(h:off<l.length)(hr:l.set off v=r):zch l off [v]=r:=by
 rw [←hr];exact zdD l off v h
theorem zhk {a b m:List Value}(h:a.length=m.length):zch (a++b) 0 m=m++b:=by
 simp [zch,←h]
theorem Yv.cg {t:TypeId}{ps:Array (Nat×Operand)}{vs:List (Nat×Value)}{z l0 l:List Value}[hS:TySt P t][hZ:TyZ P t z](ho:o.op= .build t ps)(hv:evPs fs ps.toList=some vs)(hz:z=l0)(hF:Instr.fill (zdW P t) l0.toArray vs=some l.toArray):Yv P n B M fs hs o (.agg l.toArray):=by
 subst hz;haveI:Fill (zdW P t) z vs l:=⟨hF⟩;exact Yv.build ho hv
end
section
variable {B:World}{M S0:Nat→Prop}{hs:HS}{F:FzB B M S0}
def FzB.addE {w:World}(F:FzB B M S0)(hF:F.toFrz.At w)(T:Nat→Prop)(hc:∀g,T g→Cb w g)(hb:∀g,T g→M g∨B.heap.size≤g):FzB B M S0 where
 S k:=F.S k∨T k
 w:=w
 c k hk:=hk.elim (fun h=>hF.cb h) (hc k)
 base k hk h1 h2:=by
  rcases hk with h|h
  ·rw [hF k h,F.base k h h1 h2]
  ·rcases hb k h with h3|h3
   ·exact absurd h3 h2
   ·omega
 new k hk:=hk.elim (F.new k) (fun h=> .inr (hb k h))
theorem Hp.freezeE {w : World} {i j : Nat} {e : Ent} (hw : Hp B M hs w) (hij : i ≠ j) (hi : hs[i]? = some (.fr F)) (hj : hs[j]? = some e) (hc : ∀ g, e.fp g → Cb w g) :
    ∃ G : FzB B M S0, F.toFrz.Le G.toFrz ∧ (∀ w', G.toFrz.At w' → e.ok w') ∧ Hp B M ((hs.set i (.fr G)).eraseIdx j) w := by
  have hF := hw.fr hi; have hb := hw.new e (List.mem_of_getElem? hj); refine ⟨F.addE hF e.fp hc hb, fun k hk => ⟨.inl hk, hF k hk⟩, fun w' hw' => e.loc (fun g hg => hw' g (.inr hg)) (hw.get hj), ?_⟩; obtain ⟨r, h1, h2⟩ := zcO (a' := .fr (F.addE hF e.fp hc hb)) hij hi hj; refine Hp.perm ?_ h2.symm; refine Hp.repl (hw.perm h1) ?_ ?_ (List.pairwise_singleton _ _)
  · intro x hx; simp at hx; subst hx; exact Ent.fr_ok.2 (fun k hk => rfl)
  · intro x hx k hk; simp at hx; subst hx; have h := Ent.fr_fp.1 hk; rcases h.1 with h3 | h3
    · exact ⟨_, by simp, Ent.fr_fp.2 ⟨h3, h.2⟩⟩
    · exact ⟨e, by simp, h3⟩
end
theorem zka {k:SK}{v:Value}{L:Ws}{b:Bool}{w:World}(h:(st2 k v L b).ok w):∀g,(st2 k v L b).fp g→Cb w g:=fun g hg=>by
 have h1:=(Ent.bag_ok.1 h).1;obtain ⟨e,he,hg⟩:=Ent.bag_fp.1 hg;simp at he;rcases he with rfl|rfl
 ·have:=Ent.row_fp.1 hg;subst this;exact ⟨_,_,_,Ent.row_ok.1 (h1 _ (List.mem_cons_self ..))⟩
 ·have h2:=Ent.sl_fp.1 hg;rcases (Ent.sl_ok.1 (h1 (.sl v 25 1 k.Y.n (Ws.cells L)) (by simp))).2 with ⟨rfl,_⟩|⟨g',cap,cur,rfl,_,hgg,_⟩
  ·cases h2
  ·simp [Value.ownBlock] at h2;subst h2;exact ⟨_,_,_,hgg⟩
def SzF (F:Frz)(k:SK)(v:Value)(L:Ws)(b:Bool):Prop:=∀w,F.At w→(st2 k v L b).ok w
theorem SzF.mono {F G:Frz}{k:SK}{v:Value}{L:Ws}{b:Bool}(h:SzF F k v L b)(hle:F.Le G):SzF G k v L b:=fun w hw=>h w (hw.le hle)
theorem Hp.freezeSt {B w : World} {M S0 : Nat → Prop} {hs : HS} {F : FzB B M S0} {i j : Nat} {k : SK} {v : Value} {L : Ws} {b : Bool} (hw : Hp B M hs w) (hij : i ≠ j) (hi : hs[i]? = some (.fr F)) (hj : hs[j]? = some (st2 k v L b)) :
    ∃ G : FzB B M S0, (F.toFrz.Le G.toFrz ∧ SzF G.toFrz k v L b) ∧ Hp B M ((hs.set i (.fr G)).eraseIdx j) w := by
  obtain ⟨G, h1, h2, h3⟩ := hw.freezeE hij hi hj (zka (hw.get hj)); exact ⟨G, ⟨h1, h2⟩, h3⟩
section
variable {P:Program}{n:Nat}{B:World}{M:Nat→Prop}{fs:SFs}{hs:HS}{o:Oper}
theorem zco {w:World}{v:Value}{e:TypeId}{size k:Nat}{l:List Value}(h:(Ent.sl v e size k l).ok w):k≤9223372036854775807:=by
 have ho:=Ent.sl_ok.1 h;rcases ho.2 with ⟨rfl,h0⟩|⟨g,cap,cur,rfl,hb,hg,hnc,hcm,hcs,htake⟩
 ·omega
 ·unfold maxLen at hcm;omega
theorem Ew.bx {t e:TypeId}{size bytes:Nat}{z:List Value}[hT:TyE P t e size bytes z](ho:o.op= .buildSlice t 0 #[]):Ew P n B M fs hs o (fun v hs'=>∃g,v= .slice (some ⟨g,0,none⟩) 0 0∧hs'= .sl (.slice (some ⟨g,0,none⟩) 0 0) e size 0 [] :: hs):=Ew.aM fun a w ha hp=>by
 obtain ⟨i,zv,hU,hi,hz,hzc,rfl,rfl,hzs,hpos⟩:=hT.get;refine ⟨_,w.alloc (.cells #[] e),_,?_,Kp.alloc w _,hp.fresh ((Below.refl _ _).alloc (Nat.le_refl _) _) (Ent.sl_ok.2 (World.ownsRow_made (base:=0) (e:=e) (size:=i.size) w #[] 0 (Nat.zero_le _) (by unfold maxLen;omega) (by simp))) (fun g hg=>?_),w.heap.size,rfl,rfl⟩
 ·unfold execOp;simp [ho,Instr.buildSlice,underlying,hU,sizeOf,typeInfo,hi,Instr.fill,newRow];rw [show Array.range 0= #[] from by simp [Array.range]];simp
 ·have:=Ent.sl_fp.1 hg;simp [Value.ownBlock] at this;omega
end
section
variable {Fe:Fence}[hFe:Calm Fe]{P:Program}{n:Nat}{B D:World}{M S0:Nat→Prop}{Q:Exit→Act→World→Prop}{fs:SFs}{hs:HS}{ops:Array Oper}
theorem TL.aZ {l:List Oper}{v:Value}{e:TypeId}{size k:Nat}{cs:List Value}(j:Nat)(hj:hs[j]?=some (.sl v e size k cs))(h:OneC v→k≤9223372036854775807→TL Fe P n B D M ops Q l fs hs):TL Fe P n B D M ops Q l fs hs:=
 TL.aW (ι:=Unit) (φ:=fun _=>OneC v∧k≤9223372036854775807) (hs':=fun _=>hs) (fun w hw=>⟨(),⟨zcp (hw.get hj),zco (hw.get hj)⟩,hw⟩) (fun _ hx=>h hx.1 hx.2)
theorem TS.aZ {hs0:HS}{r:Ord}{v:Value}{e:TypeId}{size k:Nat}{cs:List Value}(j:Nat)(hj:hs[j]?=some (.sl v e size k cs))(h:OneC v→k≤9223372036854775807→TS Fe P n B D M ops Q hs0 r fs hs):TS Fe P n B D M ops Q hs0 r fs hs:=
 TS.aW (ι:=Unit) (φ:=fun _=>OneC v∧k≤9223372036854775807) (hs':=fun _=>hs) (fun w hw=>⟨(),⟨zcp (hw.get hj),zco (hw.get hj)⟩,hw⟩) (fun _ hx=>h hx.1 hx.2)
end
section
variable {B w:World}{M S0:Nat→Prop}{hs bs rest:HS}{F:FzB B M S0}{G:FzB B M S0}{F':Frz}
end
section
variable {P:Program}{n:Nat}{B D:World}{M:Nat→Prop}{fs:SFs}{hs:HS}{o:Oper}{v val sv:Value}
end
section
variable {P:Program}{n:Nat}{B D:World}{M:Nat→Prop}{fs:SFs}{hs:HS}{v v2:Value}
theorem T.aZ {Fe:Fence}[hFe:Calm Fe]{Q:Exit→Act→World→Prop}{c:Code}{e:TypeId}{size k:Nat}{cs:List Value}(j:Nat)(hj:hs[j]?=some (.sl v e size k cs))(h:OneC v→k≤9223372036854775807→T Fe P n B D M c Q fs hs):T Fe P n B D M c Q fs hs:=
 T.aW (ι:=Unit) (φ:=fun _=>OneC v∧k≤9223372036854775807) (hs':=fun _=>hs) (fun w hw=>⟨(),⟨zcp (hw.get hj),zco (hw.get hj)⟩,hw⟩) (fun _ hx=>h hx.1 hx.2)
end
theorem zfl (F0:Frz)(w:World)(hF0:F0.At w)(l:List GChoice)(vl:Value)(hl:SlC F0 vl 2 (l.map GChoice.enc))(hr:room l.length 16):Calls Tryd.prog 22 #[vl] w fun e w'=>∃v':Value,True∧e= .returned v'∧Hp w (fun _=>False) [.sl v' 55 2 l.length (l.flatMap GChoice.enc)] w':=by
 haveI:=hl.oneC;have hl0:=hl;obtain ⟨A,cap,hv,hlc,hcm,hcl,hcs⟩:=hl0;have hlen:(l.map GChoice.enc).length=l.length:=List.length_map _;obtain ⟨S0,F1,hF1,hS0,hp0⟩:=zaA hF0
 cases hA:A with
 |none=>
  have h0:l=[]:=by
   cases l with
   |nil=>rfl
   |cons x r=>
    obtain ⟨g,off,h1,_⟩:=hcs (by simp);rw [hA] at h1;cases h1
  subst h0;refine zaa (M:=fun _=>False) (hs:=[.fr F1]) Tryd.func22 rfl rfl rfl hp0 ?_;refine T.sr ?_;refine TL.run 1 rfl ?_;refine TL.ns (T.seq (T.sr ?_));refine TL.run 1 rfl ?_;refine TL.y (Yv.bP (v:= .bool true) rfl rfl rfl (fun w=>by rw [hv,hA];kernel_rfl)) ?_;refine TL.ns ?_;refine T.aC rfl rfl ?_;refine T.sr ?_;refine TL.run 1 rfl ?_;refine TL.slNil 55 2 ?_;refine TL.ns (T.ret (K.aa ?_));exact K.ah rfl rfl (fun w' hw=>⟨.slice none 0 0,trivial,rfl,hw.sub Sx⟩)
 |some a=>
  rw [←hF1] at hl;refine zaa (M:=fun _=>False) (hs:=[.fr F1]) Tryd.func22 rfl rfl rfl hp0 ?_;refine T.sr ?_;refine TL.run 1 rfl ?_;refine TL.ns (T.seq (T.sr ?_));refine TL.run 1 rfl ?_;refine TL.y (Yv.bP (v:= .bool false) rfl rfl rfl (fun w=>by rw [hv,hA];kernel_rfl)) ?_;refine TL.ns ?_;refine T.aE rfl rfl ?_;refine T.skip (K.seq (T.sr ?_));refine TL.e (Ew.bx rfl) ?_;rintro _ _ ⟨g,rfl,rfl⟩;refine TL.run 1 rfl ?_;refine TL.e (Ew.bF 0 1 (k':=l.length) (l':=l.flatMap GChoice.enc) (zio (enc:=GChoice.enc) (fun _=>inferInstance)) rfl rfl rfl rfl rfl hl (by rw [List.length_map];omega) (by rw [List.nil_append,←List.flatMap_def]) hr (by decide)) ?_;rintro v' _ ⟨hv',rfl⟩;refine TL.run 1 rfl ?_;refine TL.ns (T.ret ?_);exact K.ah rfl rfl (fun w' hw=>⟨v',trivial,rfl,hw.sub Sx⟩)
theorem zfr (F0:Frz)(w:World)(hF0:F0.At w)(l:List GChoice)(vl:Value)(hl:SlC F0 vl 2 (l.map GChoice.enc))(hr:room l.length 16):Calls Tryd.prog 22 #[vl] w fun e w'=>∃(y:Value) (G:Frz),SlC G y 2 (l.map GChoice.enc)∧e= .returned y∧Fx F0 w G w':=by
 refine (zfl F0 w hF0 l vl hl hr).mono ?_;rintro e w' ⟨v',_,rfl,hw⟩;obtain ⟨G,h1,h2,h3⟩:=Fx.hp hF0 hw;have h4:=SlK.ent (G:=G) (hw.own (.sl v' 55 2 l.length (l.flatMap GChoice.enc)) (by simp)) h2 (h3 _ (by simp));exact ⟨v',G,h4.toF rfl (fun _=>rfl),rfl,h1⟩
end Go.Proofs.YtbpkdjionfhohaaDoor
