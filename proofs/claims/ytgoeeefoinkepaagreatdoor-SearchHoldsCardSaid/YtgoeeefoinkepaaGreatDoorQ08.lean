/- Pm M8 Pf Cd Ce Sa Sb Sc Pb Sd M13 Se M14 Ff Fo St Fv Sz Ka: shortened and put together by squeeze.py. -/
import Derived.Test.YtgoeeefoinkepaaGreatDoorQ07
import Derived.Laws.Slices
set_option maxRecDepth 100000
set_option maxHeartbeats 4000000
set_option linter.unusedVariables false
set_option linter.unusedSectionVars false
set_option linter.unusedSimpArgs false
namespace Go.Proofs.YtgoeeefoinkepaaGreatDoor
open Go.RowKit
theorem zgw {α:Type}{f:BitVec 64→α→BitVec 64}{h:α→Bool}{j:Nat}(hf:∀g x,(f g x).getLsbD j=(g.getLsbD j||h x)):∀(l:List α) (g:BitVec 64),(l.foldl f g).getLsbD j=(g.getLsbD j||l.any h)
 | [],g=>by simp
 |x :: r,g=>by rw [List.foldl_cons,zgw hf r,hf,List.any_cons,Bool.or_assoc]
theorem zj5 {α:Type}{f:BitVec 64→α→BitVec 64}{h:α→Bool}{j:Nat}:∀(l:List α) (g:BitVec 64),(∀x∈l,∀g,(f g x).getLsbD j=(g.getLsbD j||h x))→(l.foldl f g).getLsbD j=(g.getLsbD j||l.any h)
 | [],g,_=>by simp
 |x :: r,g,hf=>by rw [List.foldl_cons,zj5 r _ (fun y hy=>hf y (by simp [hy])),hf x b2,List.any_cons,Bool.or_assoc]
theorem zjd {c j:Nat}(hj:j<64):(1#64 <<< c).getLsbD j=decide (c=j):=by
 rw [BitVec.getLsbD_shiftLeft,BitVec.getLsbD_one];by_cases h:c=j
 ·subst h;simp [hj]
 ·by_cases h2:j<c
  ·simp [h2,h]
  ·simp [hj,h];omega
theorem zh8 {g:BitVec 64}{c j:Nat}(hj:j<64):(g ||| 1#64 <<< c).getLsbD j=(g.getLsbD j||decide (c=j)):=by rw [BitVec.getLsbD_or,zjd hj]
def zeO (L:Ws)(i j:Nat)(x:Pr):Bool:=
 if x.a=(i:Int) then decide ((only L x.b.toNat:Int)≠0∧x.lo≤(only L x.b.toNat:Int) - x.off∧(only L x.b.toNat:Int) - x.off≤x.hi∧((only L x.b.toNat:Int) - x.off).toNat=j)
 else decide (x.lo≤(only L x.a.toNat:Int)∧(only L x.a.toNat:Int)≤x.hi∧((only L x.a.toNat:Int)+x.off).toNat=j)
theorem zh4 {Y:Tb}{L:Ws}{i j:Nat}(hj:j<64):(me Y L i).getLsbD j=(Y.ps i).any (zeO L i j):=by
 unfold me;rw [zgw (h:=zeO L i j) (fun g x=>?_),BitVec.getLsbD_zero,Bool.false_or];unfold mG zeO
 split
 ·split
  ·rename_i h;rw [zh8 hj];congr 1;exact decide_eq_decide.2 ⟨fun hh=>⟨h.1,h.2.1,h.2.2,hh⟩,fun hh=>hh.2.2.2⟩
  ·rename_i h;have:¬((only L x.b.toNat:Int)≠0∧x.lo≤(only L x.b.toNat:Int) - x.off∧(only L x.b.toNat:Int) - x.off≤x.hi∧((only L x.b.toNat:Int) - x.off).toNat=j):=fun hh=>h ⟨hh.1,hh.2.1,hh.2.2.1⟩;rw [decide_eq_false this,Bool.or_false]
 ·split
  ·rename_i h;rw [zh8 hj];simp [h]
  ·rename_i h;have:¬(x.lo≤(only L x.a.toNat:Int)∧(only L x.a.toNat:Int)≤x.hi∧((only L x.a.toNat:Int)+x.off).toNat=j):=fun hh=>h ⟨hh.1,hh.2.1⟩;rw [decide_eq_false this,Bool.or_false]
theorem zji {f:Nat→Int}{g:BitVec 64}{x:Cp}{j:Nat}(hj:j<64)(hlo:0≤x.lo)(hhi:0≤x.hi):(zeE f g x).getLsbD j=(g.getLsbD j||decide (x.lo≤(j:Int)∧(j:Int)≤x.hi∧x.mx<f j)):=by
 unfold zeE;rw [zgw (h:=fun d=>decide (x.mx<f d)&&decide (d=j)) (fun g d=>?_)]
 ·congr 1
  rw [Bool.eq_iff_iff,List.any_eq_true,decide_eq_true_eq];constructor
  ·rintro ⟨d,hd,h⟩;obtain ⟨h1,h2⟩:=List.mem_range'_1.1 hd;simp only [Bool.and_eq_true,decide_eq_true_eq] at h;obtain ⟨h3,rfl⟩:=h;exact ⟨by omega,by omega,h3⟩
  ·rintro ⟨h1,h2,h3⟩;exact ⟨j,List.mem_range'_1.2 ⟨by omega,by omega⟩,by simp [h3]⟩
 ·unfold zhU
  split
  ·rename_i h;rw [zh8 hj];simp [h]
  ·rename_i h;simp [h]
theorem zkg {Y:Tb}{L:Ws}{i j:Nat}(hok:Y.Ok)(hi:i<Y.n)(hj:j<64):(kQ Y L i).getLsbD j=(Y.cs i).any fun x=>decide (x.lo≤(j:Int)∧(j:Int)≤x.hi∧x.mx<iG L (Y.inn i) j):=by
 unfold kQ;rw [zj5 (h:=fun x=>decide (x.lo≤(j:Int)∧(j:Int)≤x.hi∧x.mx<iG L (Y.inn i) j)) _ _ (fun x hx g=>by have:=(hok.cs i hi).2 x hx;exact zji hj a6 a6),BitVec.getLsbD_zero,Bool.false_or]
def zeR (Y:Tb)(L:Ws)(i j:Nat)(x:Ld):Bool:=decide (x.lo≤(only L x.to.toNat:Int)∧(only L x.to.toNat:Int)≤x.hi∧only L x.to.toNat=j∧∃c∈Y.cs x.to.toNat,(c.lo≤(j:Int)∧(j:Int)≤c.hi)∧c.mx<jU L i j (Y.inn x.to.toNat))
theorem znC {lost:Int}{d j:Nat}{l:List Cp}{g:BitVec 64}(hj:j<64):(l.foldl (zd5 lost d) g).getLsbD j=(g.getLsbD j||(decide (d=j)&&decide (∃c∈l,(c.lo≤(d:Int)∧(d:Int)≤c.hi)∧c.mx<lost))):=by
 rw [zgw (h:=fun c=>decide (d=j)&&decide ((c.lo≤(d:Int)∧(d:Int)≤c.hi)∧c.mx<lost)) (fun g c=>?_)]
 ·congr 1
  rw [Bool.eq_iff_iff,List.any_eq_true];simp only [Bool.and_eq_true,decide_eq_true_eq];constructor
  ·rintro ⟨c,hc,h1,h2⟩;exact ⟨h1,c,hc,h2⟩
  ·rintro ⟨h1,c,hc,h2⟩;exact ⟨c,hc,h1,h2⟩
 ·unfold zd5
  split
  ·rename_i h;rw [zh8 hj];simp [h]
  ·rename_i h;simp [h]
theorem ziN {Y:Tb}{L:Ws}{i j:Nat}(hj:j<64):(mb Y L i).getLsbD j=(Y.out i).any (zeR Y L i j):=by
 unfold mb;rw [zgw (h:=zeR Y L i j) (fun g x=>?_),BitVec.getLsbD_zero,Bool.false_or];unfold lh
 split
 ·rename_i h;rcases h with h|h
  ·rw [show zeR Y L i j x=false from decide_eq_false (fun hh=>by omega),Bool.or_false]
  ·cases hh:zeR Y L i j x with
   |false=>rw [Bool.or_false]
   |true=>
    have:=of_decide_eq_true hh;rw [this.2.2.1] at h;rw [h];rfl
 ·rename_i h;rw [znC hj]
  congr 1
  unfold zeR;rw [Bool.eq_iff_iff];simp only [Bool.and_eq_true,decide_eq_true_eq];constructor
  ·rintro ⟨rfl,hc⟩;exact ⟨by omega,by omega,rfl,hc⟩
  ·rintro ⟨_,_,rfl,hc⟩;exact ⟨rfl,hc⟩
def Le' (S M:Ws):Prop:=∀i j,(cI S i).getLsbD j=true→(cI M i).getLsbD j=true
theorem zmc {a b:BitVec 64}(hs:∀j,a.getLsbD j=true→b.getLsbD j=true)(ha:a≠0#64)(h:i8 b≠0):i8 a=i8 b:=by
 by_cases e:a=b
 ·rw [e]
 ·exact absurd (zhL hs e ha) h
section
variable {Y:Tb}{S M:Ws}
theorem zlA (hle:Le' S M)(hne:∀i,i<Y.n→cI S i≠0#64){k:Nat}(hk:k<Y.n)(h:only M k≠0):only S k=only M k:=zmc (hle k) (hne k hk) h
theorem ziv (hok:Y.Ok)(hle:Le' S M)(hne:∀i,i<Y.n→cI S i≠0#64){d:Nat}(hd:d≠0):∀(l:List Ld),(∀x∈l,0≤x.fr∧x.fr<Y.n∧1≤x.wt)→∀f f':Nat→Int,f d≤f' d→l.foldl (j0 M) f d≤l.foldl (j0 S) f' d
 | [],_,f,f',h=>h
 |x :: r,hx,f,f',h=>by
  rw [List.foldl_cons,List.foldl_cons];refine ziv hok hle hne hd r (fun y hy=>hx y (by simp [hy])) _ _ ?_;have h1:=hx x b2;unfold j0;by_cases hh:x.lo≤(only M x.fr.toNat:Int)∧(only M x.fr.toNat:Int)≤x.hi∧only M x.fr.toNat=d
  ·have e:=zlA (Y:=Y) hle hne (k:=x.fr.toNat) a6 a6;rw [if_pos hh,if_pos (by rw [e];exact hh)];omega
  ·rw [if_neg hh];split <;> omega
theorem zj2 (hok:Y.Ok)(hle:Le' S M)(hne:∀i,i<Y.n→cI S i≠0#64){i d:Nat}(hd:d≠0):∀(l:List Ld),(∀x∈l,0≤x.fr∧x.fr<Y.n∧1≤x.wt)→∀s s':Int,s≤s'→l.foldl (j2 M i d) s≤l.foldl (j2 S i d) s'
 | [],_,s,s',h=>h
 |x :: r,hx,s,s',h=>by
  rw [List.foldl_cons,List.foldl_cons];refine zj2 hok hle hne hd r (fun y hy=>hx y (by simp [hy])) _ _ ?_;have h1:=hx x b2;unfold j2;by_cases hh:(x.lo≤(d:Int)∧(d:Int)≤x.hi)∧(x.fr=(i:Int)∨only M x.fr.toNat=d)
  ·rw [if_pos hh,if_pos ⟨hh.1,by
    rcases hh.2 with h2|h2
    ·exact .inl h2
    ·exact .inr (by rw [zlA (Y:=Y) hle hne (k:=x.fr.toNat) a6 a6];exact h2)⟩]
   omega
  ·rw [if_neg hh];split <;> omega
theorem zkX (hok:Y.Ok)(hle:Le' S M)(hne:∀i,i<Y.n→cI S i≠0#64){i j:Nat}(hi:i<Y.n)(h:(jq Y M i).getLsbD j=true):(jq Y S i).getLsbD j=true:=by
 have hj:j<64:=BitVec.lt_of_getLsbD h;unfold jq at h ⊢;rw [BitVec.getLsbD_or,BitVec.getLsbD_or,zh4 hj,zkg hok hi hj,ziN hj,Bool.or_eq_true,Bool.or_eq_true,List.any_eq_true,List.any_eq_true,List.any_eq_true] at h ⊢;rcases h with (⟨x,hx,h⟩|⟨x,hx,h⟩)|⟨x,hx,h⟩
 ·refine .inl (.inl ⟨x,hx,?_⟩);have hr:=(hok.ps i hi).2 x hx;unfold zeO at h ⊢
  split at h
  ·rename_i ha;rw [if_pos ha];have h1:=of_decide_eq_true h;have e:=zlA (Y:=Y) hle hne (k:=x.b.toNat) a6 a6;rw [e];exact h
  ·rename_i ha;rw [if_neg ha];have h1:=of_decide_eq_true h;have e:=zlA (Y:=Y) hle hne (k:=x.a.toNat) a6 a6;rw [e];exact h
 ·refine .inl (.inr ⟨x,hx,?_⟩);have hr:=(hok.cs i hi).2 x hx;have h1:=of_decide_eq_true h;have hm:=ziv hok hle hne (d:=j) a6 (Y.inn i) (fun y hy=>by have:=(hok.inn i hi).2 y hy;omega) (fun _=>0) (fun _=>0) (Int.le_refl _);exact decide_eq_true ⟨h1.1,h1.2.1,by have:iG M (Y.inn i) j≤iG S (Y.inn i) j:=hm;omega⟩
 ·refine .inr ⟨x,hx,?_⟩;have hr:=(hok.out i hi).2 x hx;have h1:=of_decide_eq_true h;obtain ⟨h2,h3,h4,c,hc,h5,h6⟩:=h1;have e:=zlA (Y:=Y) hle hne (k:=x.to.toNat) a6 a6;have hm:=zj2 hok hle hne (i:=i) (d:=j) a6 (Y.inn x.to.toNat) (fun y hy=>by have:=(hok.inn _ (show x.to.toNat<Y.n by omega)).2 y hy;omega) 0 0 (Int.le_refl _);exact decide_eq_true ⟨by rw [e];exact h2,by rw [e];exact h3,by rw [e];exact h4,c,hc,h5,by have:jU M i j (Y.inn x.to.toNat)≤jU S i j (Y.inn x.to.toNat):=hm;omega⟩
structure Closed (Y:Tb) (S:Ws):Prop where
 len:S.length=Y.n
 calm:∀i,i<Y.n→zhV Y S i
theorem Closed.ne (h:Closed Y S):∀i,i<Y.n→cI S i≠0#64:=fun i hi=>(h.calm i hi).1
theorem Closed.keep (hok:Y.Ok)(h:Closed Y S){L:Ws}(hl:L.length=Y.n)(hle:Le' S L)(hr:Reach Y L M):Le' S M:=by
 induction hr with
 |refl=>exact hle
 | @step M' k b hr hk hb ih=>
  intro i j hij;rw [kU (by rw [hr.len,hl];exact hk)]
  split
  ·rename_i e;subst e;rw [BitVec.getLsbD_and,ih i j hij,BitVec.getLsbD_not,Bool.true_and];have hj:j<64:=BitVec.lt_of_getLsbD hij
   cases hbj:b.getLsbD j with
   |false=>simp [hj]
   |true=>
    have h1:=zkX hok ih h.ne hk (hb j hbj);have h2:=congrArg (fun v=>BitVec.getLsbD v j) (h.calm i hk).2;simp only [BitVec.getLsbD_and,BitVec.getLsbD_zero] at h2;rw [hij,h1] at h2
    cases h2
  ·exact ih i j hij
structure Is (Y:Tb) (T L:Ws) (c:Bool):Prop where
 tlen:T.length=Y.n
 len:L.length=Y.n
 sub:Le' L T
 best:∀S,Closed Y S→Le' S T→Le' S L
 bad:c=true→∃i,i<Y.n∧cI L i=0#64
 good:c=false→Closed Y L
theorem mV {T L:Ws}{c:Bool}(hok:Y.Ok)(hl:T.length=Y.n)(h:gX Y T L c):Is Y T L c:=
 ⟨hl,h.2.1,h.1.sub hl,fun S hS hle=>hS.keep hok hl hle h.1,h.2.2.1,fun hc=>⟨h.2.1,h.2.2.2 hc⟩⟩
theorem i2 (h1:Le' S M)(h2:Le' M S)(hl:S.length=M.length):S=M:=by
 apply List.ext_getElem hl;intro i hi1 hi2;have a1:=h1 i;have a2:=h2 i;rw [d9 hi1,d9 hi2] at a1 a2;apply BitVec.eq_of_getLsbD_eq;intro j _
 cases h:S[i].getLsbD j with
 |true=>rw [a1 j h]
 |false=>
  cases h':M[i].getLsbD j with
  |false=>rfl
  |true=>rw [a2 j h'] at h;cases h
theorem Is.cut {T L L':Ws}{c:Bool}{i:Nat}{g:BitVec 64}(hok:Y.Ok)(hi:i<Y.n)(h:Is Y T L false)(k:Is Y (dx L i g) L' c):Is Y (dx T i g) L' c where
 tlen:=by unfold dx;rw [List.length_set,h.tlen]
 len:=k.len
 sub a j hj:=by
  have h1:=k.sub a j hj;unfold dx at h1 ⊢;rw [kU (by rw [h.len];exact hi)] at h1;rw [kU (by rw [h.tlen];exact hi)]
  split at h1
  ·rename_i e;rw [if_pos e];rw [BitVec.getLsbD_and,Bool.and_eq_true] at h1 ⊢;exact ⟨h.sub _ _ h1.1,h1.2⟩
  ·rename_i e;rw [if_neg e];exact h.sub _ _ h1
 best S hS hle:=k.best S hS (fun a j hj=>by
  have h0:Le' S T:=fun a j hj=>by
   have:=hle a j hj;unfold dx at this;rw [kU (by rw [h.tlen];exact hi)] at this
   split at this
   ·rename_i e;subst e;rw [BitVec.getLsbD_and,Bool.and_eq_true] at this;exact this.1
   ·exact this
  have h1:=h.best S hS h0 a j hj;have h2:=hle a j hj;unfold dx at h2 ⊢;rw [kU (by rw [h.tlen];exact hi)] at h2;rw [kU (by rw [h.len];exact hi)]
  split at h2
  ·rename_i e;rw [if_pos e];subst e;rw [BitVec.getLsbD_and,Bool.and_eq_true] at h2 ⊢;exact ⟨h1,h2.2⟩
  ·rename_i e;rw [if_neg e];exact h1)
 bad:=k.bad
 good:=k.good
theorem Is.eq {T L K:Ws}{c:Bool}(hok:Y.Ok)(h:Is Y T L c)(hK:Closed Y K)(hr:Reach Y T K):L=K∧c=false:=by
 have hKT:Le' K T:=hr.sub h.tlen;have h1:=h.best K hK hKT
 have hc:c=false:=by
  cases c with
  |false=>rfl
  |true=>
   obtain ⟨i,hi,h0⟩:=h.bad rfl;exfalso;apply hK.ne i hi;apply BitVec.eq_of_getLsbD_eq;intro j _
   cases hh:(cI K i).getLsbD j with
   |false=>rw [BitVec.getLsbD_zero]
   |true=>have:=h1 i j hh;rw [h0,BitVec.getLsbD_zero] at this;cases this
 subst hc;exact ⟨i2 ((h.good rfl).keep hok h.tlen h.sub hr) h1 (by rw [h.len,hK.len]),rfl⟩
theorem Is.conflict {T L K:Ws}{c:Bool}{i:Nat}(hok:Y.Ok)(h:Is Y T L c)(hi:i<Y.n)(h0:cI K i=0#64)(hr:Reach Y T K):c=true:=by
 cases c with
 |true=>rfl
 |false=>
  have hL:=h.good rfl;have h1:=hL.keep hok h.tlen h.sub hr;exfalso;apply hL.ne i hi;apply BitVec.eq_of_getLsbD_eq;intro j _
  cases hh:(cI L i).getLsbD j with
  |false=>rw [BitVec.getLsbD_zero]
  |true=>have:=h1 i j hh;rw [h0,BitVec.getLsbD_zero] at this;cases this
end
theorem zoI (ds:List Dx):∀k j,0≤dX ds k j∧dX ds k j≤(k:Int)
 |0,j=>by simp [dX]
 |k+1,j=>by
  have:=zoI ds k j
  show 0≤(if j=(cI ds k).st.toNat then (k:Int)+1 else dX ds k j)∧(if j=(cI ds k).st.toNat then (k:Int)+1 else dX ds k j)≤((k+1:Nat):Int)
  split <;> omega
theorem TbOf.n {P:Pb}{Y:Tb}(h:TbOf P Y):Y.n=P.ds.length:=by unfold Tb.n;rw [h.st];simp
theorem TbOf.ixn {P:Pb}{Y:Tb}(h:TbOf P Y):∀j,0≤Y.ix j∧Y.ix j≤Y.n:=fun j=>by rw [h.ix,h.n];exact zoI _ _ _
theorem NewIs.is {P:Pb}{Y:Tb}{L:Ws}{c:Bool}{tp:Nat}{w0:World}(hG:P.Good)(h:NewIs P Y L c tp w0):Is Y P.left L c:=mV (h.tb.ok hG) (by rw [h.tb.n];simp [Pb.left]) h.post
theorem zlh {Y:Tb}{T L L':Ws}{c:Bool}{i:Nat}{g:BitVec 64}(hok:Y.Ok)(hi:i<Y.n)(h:Is Y T L false)(k:gX Y (dx L i g) L' c):Is Y (dx T i g) L' c:=
 h.cut hok hi (mV hok (by unfold dx;rw [List.length_set,h.len]) k)
structure Ac where
 kind:Int
 ch:Ch
deriving DecidableEq,Inhabited
def Ac.cells (a:Ac):List Value:=[.int .i64 a.kind, .int .i64 a.ch.st, .int .i64 a.ch.ch]
def Ac.bits (a:Ac):BitVec 64:=if a.kind=0 then ~~~(1#64 <<< a.ch.ch.toNat) else 1#64 <<< a.ch.ch.toNat
def lw (Y:Tb)(T:Ws)(a:Ac):Ws:=if (gF Y false a.ch).2=0 then dx T (gF Y false a.ch).1.toNat a.bits else T
structure Fin (Y:Tb) (T L:Ws) (c:Bool):Prop where
 tlen:T.length=Y.n
 len:L.length=Y.n
 good:c=false→Is Y T L false
 bad:c=true→∀S,Closed Y S→¬Le' S T
section
variable {Y:Tb}{T L L':Ws}{c c':Bool}
theorem Is.fin (h:Is Y T L c):Fin Y T L c where
 tlen:=h.tlen
 len:=h.len
 good hc:=hc▸h
 bad hc S hS hle:=by
  obtain ⟨i,hi,h0⟩:=h.bad hc;apply hS.ne i hi;apply BitVec.eq_of_getLsbD_eq;intro j _
  cases hh:(cI S i).getLsbD j with
  |false=>rw [BitVec.getLsbD_zero]
  |true=>have:=h.best S hS hle i j hh;rw [h0,BitVec.getLsbD_zero] at this;cases this
theorem zlL {i:Nat}{g:BitVec 64}:Le' (dx T i g) T:=fun a j hj=>by
 unfold dx at hj;by_cases hi:i<T.length
 ·rw [kU hi] at hj
  split at hj
  ·rename_i e;subst e;rw [BitVec.getLsbD_and,Bool.and_eq_true] at hj;exact hj.1
  ·exact hj
 ·rw [List.set_eq_of_length_le a6] at hj;exact hj
theorem zoi {a:Ac}:Le' (lw Y T a) T:=by
 unfold lw;split
 ·exact zlL
 ·exact fun _ _ h=>h
theorem znd {a:Ac}:(lw Y T a).length=T.length:=by
 unfold lw dx;split <;> simp
theorem Fin.skip {a:Ac}(h:Fin Y T L true):Fin Y (lw Y T a) L true:=
 ⟨by rw [znd,h.tlen],h.len,(fun hh=>by cases hh),fun _ S hS hle=>h.bad rfl S hS (fun i j hj=>zoi i j (hle i j hj))⟩
theorem Fin.step {a:Ac}(hok:Y.Ok)(hix:∀j,0≤Y.ix j∧Y.ix j≤Y.n)(h:Fin Y T L false)(he:(gF Y false a.ch).2=0)(hp:gX Y (dx L (gF Y false a.ch).1.toNat a.bits) L' c'):Fin Y (lw Y T a) L' c':=by
 unfold lw;rw [if_pos he];have:=zdm hix he;exact (zlh hok a6 (h.good rfl) hp).fin
theorem Fin.same (h:Fin Y T L c)(h':Fin Y T L' c'):c=c'∧(c=false→L=L'):=by
 have hc:c=c':=by
  cases c with
  |true=>
   cases c' with
   |true=>rfl
   |false=>exact absurd (h'.good rfl).sub (h.bad rfl L' ((h'.good rfl).good rfl))
  |false=>
   cases c' with
   |false=>rfl
   |true=>exact absurd (h.good rfl).sub (h'.bad rfl L ((h.good rfl).good rfl))
 subst hc;refine ⟨rfl,fun hf=>?_⟩;have a:=h.good hf;have b:=h'.good hf;exact i2 (b.best L (a.good rfl) a.sub) (a.best L' (b.good rfl) b.sub) (by rw [h.len,h'.len])
end
def Pr.er (x:Pr):GPair:=⟨x.a,x.b,x.off,x.lo,x.hi⟩
def Ld.er (x:Ld):GLoad:=⟨x.to,x.fr,x.wt,x.lo,x.hi⟩
def Cp.er (x:Cp):GCap:=⟨x.st,x.mx,x.lo,x.hi⟩
def Dx.er (x:Dx):GDomain:=⟨x.st,x.chs⟩
def Pb.er (P:Pb):GProblem:=⟨P.ds.map Dx.er,⟨P.ps.map Pr.er,P.ls.map Ld.er,P.cs.map Cp.er⟩⟩
def gd (Y:Tb)(L:Ws):List GDomain:=(List.range Y.n).map fun i=>⟨cI Y.st i,(de (cI L i)).map fun j:Nat=>(j:Int)⟩
theorem iO {Y:Tb}{L:Ws}:(gd Y L).length=Y.n:=by simp [gd]
theorem jh {Y:Tb}{L:Ws}{i:Nat}(h:i<Y.n):cI (gd Y L) i=⟨cI Y.st i,(de (cI L i)).map fun j:Nat=>(j:Int)⟩:=by
 rw [d9 (by rw [iO];exact h)];simp [gd]
theorem zhv {b:BitVec 64}(hb:b≠0#64){c:Int}(hc:c≠0):(∀j∈de b,(j:Int)=c)↔((i8 b:Nat):Int)=c:=by
 have hz:=(zea hb 0).1;constructor
 ·intro h;have h1:=h (ctz b) (dR.2 hz)
  have h2:b &&& (b - 1#64)=0#64:=by
   apply BitVec.eq_of_getLsbD_eq;intro j _;rw [zfo hb,BitVec.getLsbD_zero]
   cases hj:b.getLsbD j with
   |false=>rfl
   |true=>have:=h j (dR.2 hj);simp;omega
  unfold i8;rw [if_pos ⟨hb,h2⟩];exact h1
 ·intro h j hj;unfold i8 at h
  split at h
  ·rename_i h2;have h3:=congrArg (fun v=>BitVec.getLsbD v j) h2.2;simp only [zfo hb,BitVec.getLsbD_zero,dR.1 hj,Bool.true_and,Bool.not_eq_false',decide_eq_true_eq] at h3;rw [h3];exact h
  ·exact absurd h.symm hc
theorem zft {α:Type}{p q:α→Bool}:∀ {l:List α},(∀x∈l,p x=q x)→l.any p=l.any q
 | [],_=>rfl
 |x :: r,h=>by rw [List.any_cons,List.any_cons,h x b2,zft (l:=r) (fun y hy=>h y (by simp [hy]))]
theorem znX {P:Pb}(h:P.ok=true):P.ls.length≤1024:=by
 simp only [Pb.ok,Pb.rulesOk,Bool.and_eq_true,decide_eq_true_eq] at h;omega
section
variable {P:Pb}{Y:Tb}{L:Ws}
theorem TbOf.nth_st (hY:TbOf P Y){i:Nat}(hi:i<Y.n):cI Y.st i=(cI P.ds i).st:=by
 rw [hY.st];exact jH (by rw [←hY.n];exact hi)
theorem ze3 (hG:P.Good)(hY:TbOf P Y){i j:Nat}(hi:i<Y.n)(hj:j<Y.n)(h:cI Y.st i=cI Y.st j):i=j:=by
 rw [hY.nth_st hi,hY.nth_st hj] at h;have hn:=hY.n;rcases Nat.lt_trichotomy i j with h1|h1|h1
 ·have:=hG.inc i j h1 a6;omega
 ·exact h1
 ·have:=hG.inc j i h1 a6;omega
theorem zeH (hG:P.Good)(hY:TbOf P Y)(hne:∀i,i<Y.n→cI L i≠0#64){k:Nat}(hk:k<Y.n){c:Int}(hc:c≠0):iQ (gd Y L) (cI Y.st k) c=true↔((only L k:Nat):Int)=c:=by
 rw [eT];unfold only;rw [←zhv (hne k hk) hc];constructor
 ·intro h j hj;exact h (cI (gd Y L) k) (eo (by rw [iO];exact hk)) (by rw [jh hk]) j (by rw [jh hk];exact List.mem_map.2 ⟨j,hj,rfl⟩)
 ·intro h x hx hs q hq;obtain ⟨i,hi,rfl⟩:=gp hx;rw [iO] at hi;rw [jh hi] at hs hq;obtain rfl:=ze3 hG hY hi hk hs;obtain ⟨j,hj,rfl⟩:=List.mem_map.1 hq;exact h j hj
theorem zjk (hG:P.Good)(hY:TbOf P Y){i:Nat}(hi:i<Y.n):P.ix (cI Y.st i)=(i:Int):=by
 rw [hY.nth_st hi];exact eL hG (by rw [←hY.n];exact hi)
theorem zmz (hG:P.Good)(hY:TbOf P Y)(hne:∀i,i<Y.n→cI L i≠0#64){i j:Nat}(hi:i<Y.n)(hj:j<64):P.er.Rules.Pairs.any (mL (gd Y L) (cI Y.st i) j)=(Y.ps i).any (zeO L i j):=by
 have hn:=hY.n
 have key:∀x∈P.ps,((decide ((P.rp x).a=(i:Int))||decide ((P.rp x).b=(i:Int)))&&zeO L i j (P.rp x))=mL (gd Y L) (cI Y.st i) j x.er:=by
  intro x hx;obtain ⟨hok,⟨ia,hia,ha⟩,⟨ib,hib,hb⟩⟩:=hG.ps x hx;simp only [Pr.ok,fh,inB,Bool.and_eq_true,decide_eq_true_eq] at hok; (have hsa:x.a=cI Y.st ia:=by rw [hY.nth_st a6];exact ha); (have hsb:x.b=cI Y.st ib:=by rw [hY.nth_st a6];exact hb); (have e1:(P.rp x).a=(ia:Int):=by unfold Pb.rp;dsimp only;rw [hsa,zjk hG hY a6]); (have e2:(P.rp x).b=(ib:Int):=by unfold Pb.rp;dsimp only;rw [hsb,zjk hG hY a6]);have e3:(P.rp x).off=x.off:=rfl;have e4:(P.rp x).lo=x.lo:=rfl;have e5:(P.rp x).hi=x.hi:=rfl;have ea:x.a=cI Y.st i↔ia=i:=⟨fun h=>ze3 hG hY a6 hi (hsa.symm.trans h),fun h=>by rw [hsa,h]⟩;have eb:x.b=cI Y.st i↔ib=i:=⟨fun h=>ze3 hG hY a6 hi (hsb.symm.trans h),fun h=>by rw [hsb,h]⟩;have w1:wI ((j:Int)+x.off)=(j:Int)+x.off:=nh a6;have w2:wI ((j:Int) - x.off)=(j:Int) - x.off:=nh a6;rw [Bool.eq_iff_iff];unfold zeO mL Pr.er;simp only [e1,e2,e3,e4,e5,w1,w2,Bool.and_eq_true,Bool.or_eq_true,decide_eq_true_eq,ea,eb,Int.toNat_natCast]; (have hab:ia≠ib:=fun h=>by subst h;omega);by_cases h1:ia=i
  ·subst h1;rw [if_pos rfl];simp only [decide_eq_true_eq];rw [hsb];constructor
   ·rintro ⟨_,h2,h3,h4,h5⟩;exact .inl ⟨⟨trivial,by omega,by omega⟩,(zeH hG hY hne a6 a6).2 a6⟩
   ·rintro (⟨⟨_,h2⟩,h3⟩|⟨⟨h2,_⟩,_⟩)
    ·have:=(zeH hG hY hne (k:=ib) a6 a6).1 h3;exact ⟨.inl trivial,by omega,by omega,by omega,by omega⟩
    ·exact absurd h2.symm hab
  ·rw [if_neg a6];simp only [decide_eq_true_eq];rw [hsa];constructor
   ·rintro ⟨h2,h3,h4,h5⟩;exact .inr ⟨⟨by omega,by omega,by omega⟩,(zeH hG hY hne a6 a6).2 a6⟩
   ·rintro (⟨⟨h2,_⟩,_⟩|⟨⟨h2,h3⟩,h4⟩)
    ·exact absurd h2 h1
    ·have:=(zeH hG hY hne (k:=ia) a6 a6).1 h4;exact ⟨.inr a6,by omega,by omega,by omega⟩
 show (P.ps.map Pr.er).any _=_
 rw [hY.ps];unfold Pb.psA;rw [List.take_length,List.any_map,List.any_filter,List.any_map];exact zft fun x hx=>(key x hx).symm
theorem zjj (hG:P.Good)(hY:TbOf P Y){x:Ld}(hx:x∈P.ls):∃a b,a<Y.n∧b<Y.n∧x.to=cI Y.st a∧x.fr=cI Y.st b∧(P.rl x).to=(a:Int)∧(P.rl x).fr=(b:Int)∧0≤x.fr∧1≤x.wt∧x.wt≤1073741824∧2≤x.lo:=by
 have hn:=hY.n;obtain ⟨hok,⟨ia,hia,ha⟩,⟨ib,hib,hb⟩⟩:=hG.ls x hx;simp only [Ld.ok,fh,inB,Bool.and_eq_true,decide_eq_true_eq] at hok; (have hsa:x.to=cI Y.st ia:=by rw [hY.nth_st a6];exact ha); (have hsb:x.fr=cI Y.st ib:=by rw [hY.nth_st a6];exact hb);refine ⟨ia,ib,by omega,by omega,hsa,hsb,?_,?_,by omega,by omega,by omega,by omega⟩
 ·unfold Pb.rl;dsimp only;rw [hsa,zjk hG hY a6]
 ·unfold Pb.rl;dsimp only;rw [hsb,zjk hG hY a6]
theorem zjE (hG : P.Good) (hY : TbOf P Y) (hne : ∀ i, i < Y.n → cI L i ≠ 0#64) {t j : Nat} (ht : t < Y.n) (hj0 : j ≠ 0) : ∀ (l : List Ld), (∀ x ∈ l, x ∈ P.ls) → ∀ (f : Nat → Int), 0 ≤ f j → f j + 1073741824 * (l.length : Int) ≤ 4611686018427387904 →
    (l.map Ld.er).foldl (fun n x => bif loadC (gd Y L) (cI Y.st t) j (-1) x then wI (n + x.Weight) else n) (f j) = ((l.map P.rl).filter fun x => decide (x.to = (t : Int))).foldl (j0 L) f j
  | [], _, f, _, _ => rfl
  | x :: r, hl, f, h0, hb => by
    obtain ⟨a, b, ha, hbn, hsa, hsb, e1, e2, h1, h2, h3, h4⟩ := zjj hG hY (hl x b2); simp only [List.length_cons] at hb; have hw : wI (f j + x.wt) = f j + x.wt := nh a6; have hto : x.to = cI Y.st t ↔ a = t := ⟨fun h => ze3 hG hY ha ht (hsa.symm.trans h), fun h => by rw [hsa, h]⟩
    have hon : iQ (gd Y L) x.fr j = true ↔ only L b = j := by
      rw [hsb, zeH hG hY hne hbn a6]; omega
    rw [List.map_cons, List.map_cons, List.foldl_cons, List.filter_cons]
    have hc : loadC (gd Y L) (cI Y.st t) j (-1) x.er = decide (a = t ∧ (x.lo ≤ (j : Int) ∧ (j : Int) ≤ x.hi) ∧ only L b = j) := by
      rw [Bool.eq_iff_iff]; unfold loadC Ld.er;simp only [Bool.and_eq_true, Bool.or_eq_true, decide_eq_true_eq, hto, hon]; constructor
      · rintro ⟨⟨h5, h6⟩, h7 | h7⟩
        · omega
        · exact ⟨h5, h6, h7⟩
      · rintro ⟨h5, h6, h7⟩; exact ⟨⟨h5, h6⟩, .inr h7⟩
    rw [hc]; by_cases hat : a = t
    · subst hat; rw [if_pos (by rw [e1]; simp), List.foldl_cons]
      have hs : j0 L f (P.rl x) j = bif decide (a = a ∧ (x.lo ≤ (j : Int) ∧ (j : Int) ≤ x.hi) ∧ only L b = j) then wI (f j + x.er.Weight) else f j := by
        show (if x.lo ≤ (only L (P.rl x).fr.toNat : Int) ∧ (only L (P.rl x).fr.toNat : Int) ≤ x.hi ∧ only L (P.rl x).fr.toNat = j then f j + x.wt else f j) = _
        rw [e2, Int.toNat_natCast]; by_cases h5 : (x.lo ≤ (j : Int) ∧ (j : Int) ≤ x.hi) ∧ only L b = j
        · rw [if_pos ⟨by rw [h5.2]; omega, by rw [h5.2]; omega, h5.2⟩, decide_eq_true ⟨rfl, h5⟩, cond_true]; exact hw.symm
        · rw [if_neg (fun h6 => h5 ⟨by rw [← h6.2.2]; omega, h6.2.2⟩), decide_eq_false (fun h6 => h5 h6.2), cond_false]
      rw [← hs]; refine zjE hG hY hne ht hj0 r (fun y hy => hl y (by simp [hy])) (j0 L f (P.rl x)) ?_ ?_
      · rw [hs]; cases decide (a = a ∧ (x.lo ≤ (j : Int) ∧ (j : Int) ≤ x.hi) ∧ only L b = j)
        · exact h0
        · show 0 ≤ wI (f j + x.wt); rw [hw]; omega
      · rw [hs]; cases decide (a = a ∧ (x.lo ≤ (j : Int) ∧ (j : Int) ≤ x.hi) ∧ only L b = j)
        · rw [cond_false]; omega
        · show wI (f j + x.wt) + _ ≤ _; rw [hw]; omega
    · rw [if_neg (by rw [e1]; simp; omega), decide_eq_false (fun h => hat h.1), cond_false]; exact zjE hG hY hne ht hj0 r (fun y hy => hl y (by simp [hy])) f h0 a6
theorem zlD (hG : P.Good) (hY : TbOf P Y) (hne : ∀ i, i < Y.n → cI L i ≠ 0#64) {t i j : Nat} (ht : t < Y.n) (hi : i < Y.n) (hj0 : j ≠ 0) : ∀ (l : List Ld), (∀ x ∈ l, x ∈ P.ls) → ∀ (n : Int), 0 ≤ n → n + 1073741824 * (l.length : Int) ≤ 4611686018427387904 →
    (l.map Ld.er).foldl (fun n x => bif loadC (gd Y L) (cI Y.st t) j (cI Y.st i) x then wI (n + x.Weight) else n) n = ((l.map P.rl).filter fun x => decide (x.to = (t : Int))).foldl (j2 L i j) n
  | [], _, n, _, _ => rfl
  | x :: r, hl, n, h0, hb => by
    obtain ⟨a, b, ha, hbn, hsa, hsb, e1, e2, h1, h2, h3, h4⟩ := zjj hG hY (hl x b2); simp only [List.length_cons] at hb; have hw : wI (n + x.wt) = n + x.wt := nh a6; have hto : x.to = cI Y.st t ↔ a = t := ⟨fun h => ze3 hG hY ha ht (hsa.symm.trans h), fun h => by rw [hsa, h]⟩; have hfr : x.fr = cI Y.st i ↔ b = i := ⟨fun h => ze3 hG hY hbn hi (hsb.symm.trans h), fun h => by rw [hsb, h]⟩
    have hon : iQ (gd Y L) x.fr j = true ↔ only L b = j := by
      rw [hsb, zeH hG hY hne hbn a6]; omega
    rw [List.map_cons, List.map_cons, List.foldl_cons, List.filter_cons]
    have hc : loadC (gd Y L) (cI Y.st t) j (cI Y.st i) x.er = decide (a = t ∧ (x.lo ≤ (j : Int) ∧ (j : Int) ≤ x.hi) ∧ (b = i ∨ only L b = j)) := by
      rw [Bool.eq_iff_iff]; unfold loadC Ld.er;simp only [Bool.and_eq_true, Bool.or_eq_true, decide_eq_true_eq, hto, hon, hfr, and_assoc]
    rw [hc]; by_cases hat : a = t
    · subst hat; rw [if_pos (by rw [e1]; simp), List.foldl_cons]
      have hs : j2 L i j n (P.rl x) = bif decide (a = a ∧ (x.lo ≤ (j : Int) ∧ (j : Int) ≤ x.hi) ∧ (b = i ∨ only L b = j)) then wI (n + x.er.Weight) else n := by
        show (if (x.lo ≤ (j : Int) ∧ (j : Int) ≤ x.hi) ∧ ((P.rl x).fr = (i : Int) ∨ only L (P.rl x).fr.toNat = j) then n + x.wt else n) = _
        rw [e2, Int.toNat_natCast]; by_cases h5 : (x.lo ≤ (j : Int) ∧ (j : Int) ≤ x.hi) ∧ (b = i ∨ only L b = j)
        · rw [if_pos ⟨h5.1, h5.2.imp (fun h => by omega) id⟩, decide_eq_true ⟨rfl, h5⟩, cond_true]; exact hw.symm
        · rw [if_neg (fun h6 => h5 ⟨h6.1, h6.2.imp (fun h => by omega) id⟩), decide_eq_false (fun h6 => h5 h6.2), cond_false]
      rw [← hs]; refine zlD hG hY hne ht hi hj0 r (fun y hy => hl y (by simp [hy])) _ ?_ ?_
      · rw [hs]; cases decide (a = a ∧ (x.lo ≤ (j : Int) ∧ (j : Int) ≤ x.hi) ∧ (b = i ∨ only L b = j))
        · exact h0
        · show 0 ≤ wI (n + x.wt); rw [hw]; omega
      · rw [hs]; cases decide (a = a ∧ (x.lo ≤ (j : Int) ∧ (j : Int) ≤ x.hi) ∧ (b = i ∨ only L b = j))
        · rw [cond_false]; omega
        · show wI (n + x.wt) + _ ≤ _; rw [hw]; omega
    · rw [if_neg (by rw [e1]; simp; omega), decide_eq_false (fun h => hat h.1), cond_false]; exact zlD hG hY hne ht hi hj0 r (fun y hy => hl y (by simp [hy])) n h0 a6
theorem zmj (hG:P.Good)(hY:TbOf P Y){t j:Nat}(ht:t<Y.n){l:Int}:kP P.er (cI Y.st t) j l=true↔∃x∈Y.cs t,(x.lo≤(j:Int)∧(j:Int)≤x.hi)∧x.mx<l:=by
 have hn:=hY.n;unfold kP
 show (P.cs.map Cp.er).any _=true↔_
 rw [hY.cs,List.any_eq_true];unfold Pb.csA;rw [List.take_length];constructor
 ·rintro ⟨y,hy,h⟩;obtain ⟨x,hx,rfl⟩:=List.mem_map.1 hy;rw [Bool.and_eq_true,Bool.and_eq_true] at h;have h1:x.st=cI Y.st t:=of_decide_eq_true h.1.1;refine ⟨P.rc x,List.mem_filter.2 ⟨List.mem_map.2 ⟨x,hx,rfl⟩,?_⟩,of_decide_eq_true h.1.2,of_decide_eq_true h.2⟩;unfold Pb.rc;dsimp only;rw [h1,zjk hG hY ht];simp
 ·rintro ⟨y,hy,h⟩;obtain ⟨h1,h2⟩:=List.mem_filter.1 hy;obtain ⟨x,hx,rfl⟩:=List.mem_map.1 h1;refine ⟨x.er,List.mem_map.2 ⟨x,hx,rfl⟩,?_⟩;obtain ⟨_,k,hk,hs⟩:=hG.cs x hx; (have hs':x.st=cI Y.st k:=by rw [hY.nth_st a6];exact hs);have h3:P.ix x.st=(t:Int):=of_decide_eq_true h2;rw [hs',zjk hG hY a6] at h3; (have:k=t:=by omega);subst this;rw [Bool.and_eq_true,Bool.and_eq_true];exact ⟨⟨decide_eq_true hs',decide_eq_true h.1⟩,decide_eq_true h.2⟩
theorem zlN (hG:P.Good)(hok:P.ok=true)(hY:TbOf P Y)(hne:∀i,i<Y.n→cI L i≠0#64){t j:Nat}(ht:t<Y.n)(hj0:j≠0):ii P.er (gd Y L) (cI Y.st t) j (-1)=iG L (Y.inn t) j:=by
 have hl:=znX hok;unfold ii iG;rw [hY.inn];unfold Pb.inA;rw [List.take_length];exact zjE hG hY hne ht hj0 P.ls (fun _ h=>h) (fun _=>0) (Int.le_refl _) a6
theorem zmN (hG:P.Good)(hok:P.ok=true)(hY:TbOf P Y)(hne:∀i,i<Y.n→cI L i≠0#64){t i j:Nat}(ht:t<Y.n)(hi:i<Y.n)(hj0:j≠0):ii P.er (gd Y L) (cI Y.st t) j (cI Y.st i)=jU L i j (Y.inn t):=by
 have hl:=znX hok;unfold ii jU;rw [hY.inn];unfold Pb.inA;rw [List.take_length];exact zlD hG hY hne ht hi hj0 P.ls (fun _ h=>h) 0 (Int.le_refl _) a6
theorem zjI (hok:P.ok=true)(hY:TbOf P Y)(hne:∀i,i<Y.n→cI L i≠0#64){i j:Nat}(hi:i<Y.n)(hj0:j≠0)(hj:j<64):iA P.er (gd Y L) (cI Y.st i) j=(jq Y L i).getLsbD j:=by
 have hG:=Pb.good hok;have hYo:=hY.ok hG;unfold iA jq;rw [BitVec.getLsbD_or,BitVec.getLsbD_or,zh4 hj,zkg hYo hi hj,ziN hj,zmz hG hY hne hi hj]
 congr 1
 ·congr 1
  rw [Bool.eq_iff_iff,zlN hG hok hY hne hi hj0,zmj hG hY hi,List.any_eq_true];simp only [decide_eq_true_eq,and_assoc]
 ·have key:∀x∈P.ls,(decide ((P.rl x).fr=(i:Int))&&zeR Y L i j (P.rl x))=loadR P.er (gd Y L) (cI Y.st i) j x.er:=by
   intro x hx;obtain ⟨a,b,ha,hbn,hsa,hsb,e1,e2,h1,h2,h3,h4⟩:=zjj hG hY hx;have hfr:x.fr=cI Y.st i↔b=i:=⟨fun h=>ze3 hG hY hbn hi (hsb.symm.trans h),fun h=>by rw [hsb,h]⟩
   have hon:iQ (gd Y L) x.to j=true↔only L a=j:=by
    rw [hsa,zeH hG hY hne ha a6];omega
   have hov:kP P.er x.to j (ii P.er (gd Y L) x.to j (cI Y.st i))=true↔∃c∈Y.cs a,(c.lo≤(j:Int)∧(j:Int)≤c.hi)∧c.mx<jU L i j (Y.inn a):=by
    rw [hsa,zmN hG hok hY hne ha hi hj0,zmj hG hY ha]
   rw [Bool.eq_iff_iff];unfold loadR;simp only [Bool.and_eq_true,decide_eq_true_eq]
   show _↔((x.fr=cI Y.st i∧x.lo≤(j:Int)∧(j:Int)≤x.hi)∧iQ (gd Y L) x.to j=true)∧kP P.er x.to j (ii P.er (gd Y L) x.to j (cI Y.st i))=true
   rw [hfr,hon,hov];unfold zeR;rw [decide_eq_true_eq,e1,e2,Int.toNat_natCast]
   show _∧x.lo≤(only L a:Int)∧(only L a:Int)≤x.hi∧_↔_
   constructor
   ·rintro ⟨h5,h6,h7,h8,h9⟩;exact ⟨⟨⟨by omega,by omega,by omega⟩,h8⟩,h9⟩
   ·rintro ⟨⟨⟨h5,h6,h7⟩,h8⟩,h9⟩;exact ⟨by omega,by omega,by omega,h8,h9⟩
  show (P.ls.map Ld.er).any _=_
  rw [hY.out];unfold Pb.ouA;rw [List.take_length,List.any_map,List.any_filter,List.any_map];exact zft fun x hx=>(key x hx).symm
end
theorem chansN_sub {b:BitVec 64}:(de b).Sublist (List.range' 0 64):=by unfold de;exact List.filter_sublist
theorem zef (b:BitVec 64):(de b).Nodup:=List.Nodup.sublist chansN_sub List.nodup_range'
theorem zhZ (b:BitVec 64):(de b).length≤64:=by have:=(chansN_sub (b:=b)).length_le;simpa using this
theorem ziL {b:BitVec 64}(h:b≠0#64):de b≠[]:=fun e=>by
 have:=dR.2 (zea h 0).1;rw [e] at this;cases this
theorem ze1 {b c:BitVec 64}(h:∀j,c.getLsbD j=true→b.getLsbD j=true):de c=(de b).filter c.getLsbD:=by
 unfold de;rw [List.filter_filter];apply List.filter_congr;intro j _
 cases hc:c.getLsbD j with
 |false=>rfl
 |true=>rw [h j hc];rfl
theorem zcP {α:Type}[DecidableEq α]:∀ {a l:List α},a.Sublist l→l.Nodup→a=l.filter fun x=>decide (x∈a)
 |a,[],h,_=>by cases h;rfl
 |a,y :: l,h,hn=>by
  rw [List.nodup_cons] at hn
  cases h with
  |cons _ h=>
   have:y∉a:=fun hy=>hn.1 (h.subset hy);rw [List.filter_cons,if_neg (by simpa using this)];exact zcP h hn.2
  |cons_cons _ h=>
   rename_i a';rw [List.filter_cons,if_pos b2]
   congr 1
   conv=>lhs;rw [zcP h hn.2]
   apply List.filter_congr;intro x hx;have:x≠y:=fun e=>hn.1 (e▸hx);simp [this]
theorem zdl {α:Type}[DecidableEq α]{a b l:List α}(ha:a.Sublist l)(hb:b.Sublist l)(hn:l.Nodup)(h:∀x,x∈a↔x∈b):a=b:=by
 rw [zcP ha hn,zcP hb hn];apply List.filter_congr;intro x _;exact decide_eq_decide.2 (h x)
theorem iR {l:List Nat}{c:Int}:c∈l.map (fun j:Nat=>(j:Int))↔∃j∈l,c=(j:Int):=by
 rw [List.mem_map];exact ⟨fun ⟨j,h,e⟩=>⟨j,h,e.symm⟩,fun ⟨j,h,e⟩=>⟨j,h,e.symm⟩⟩
theorem zeu {l:List Nat}(h:l.Nodup):(l.map fun j:Nat=>(j:Int)).Nodup:=List.Pairwise.map _ (fun a b h e=>h a6) h
theorem zgB (j:Nat)(hj:j<64):∀(l:List Int) (m:BitVec 64),(l.foldl (fun m c=>m ||| 1#64 <<< c.toNat) m).getLsbD j=(m.getLsbD j||l.any fun c=>decide (c.toNat=j))
 | [],m=>by simp
 |x :: r,m=>by rw [List.foldl_cons,zgB j hj r,zh8 hj,List.any_cons,Bool.or_assoc]
theorem zet {l:List Int}{j:Nat}(hl:∀c∈l,0≤c∧c<64):(jP l).getLsbD j=true↔(j:Int)∈l:=by
 constructor
 ·intro h;have hj:=BitVec.lt_of_getLsbD h;unfold jP at h;rw [zgB j hj,BitVec.getLsbD_zero,Bool.false_or,List.any_eq_true] at h;obtain ⟨c,hc,h⟩:=h;have:=hl c hc;have h2:=of_decide_eq_true h;rw [show (j:Int)=c by omega];exact hc
 ·intro h;have:=hl _ h;unfold jP;rw [zgB j a6,BitVec.getLsbD_zero,Bool.false_or,List.any_eq_true];exact ⟨_,h,by simp⟩
section
variable {P:Pb}{Y:Tb}{L T:Ws}{c:Bool}
def In51 (T:Ws):Prop:=∀i j,(cI T i).getLsbD j=true→2≤j∧j≤51
theorem In51.le {S:Ws}(h:In51 T)(k:Le' S T):In51 S:=fun i j hj=>h i j (k i j hj)
theorem zgC {i:Nat}(hi:i<Y.n){q:Int}:q∈(cI (gd Y L) i).Channels↔∃j:Nat,(cI L i).getLsbD j=true∧q=(j:Int):=by
 rw [jh hi]
 show q∈(de (cI L i)).map (fun j:Nat=>(j:Int))↔_
 rw [iR];exact ⟨fun ⟨j,h,e⟩=>⟨j,dR.1 h,e⟩,fun ⟨j,h,e⟩=>⟨j,dR.2 h,e⟩⟩
theorem zmg {S:Ws}(h:Le' S T):SubD (gd Y S) (gd Y T):=by
 refine ⟨by rw [iO,iO],fun i hi=>?_⟩;rw [iO] at hi;refine ⟨by rw [jh hi,jh hi],fun q hq=>?_⟩;obtain ⟨j,hj,rfl⟩:=(zgC hi).1 hq;exact (zgC hi).2 ⟨j,h i j hj,rfl⟩
theorem zor (hn:Y.n≤512):Bd (gd Y L):=by
 refine ⟨by rw [iO];omega,fun x hx=>?_⟩;obtain ⟨i,hi,rfl⟩:=gp hx;rw [iO] at hi;rw [jh hi];refine ⟨?_,zeu (zef _)⟩;have:=zhZ (cI L i);simp;omega
theorem zn3 (hok:P.ok=true):WtP P.er:=by
 refine ⟨?_,fun x hx=>?_⟩
 ·show (P.ls.map Ld.er).length≤1024
  rw [List.length_map];exact znX hok
 ·obtain ⟨y,hy,rfl⟩:=List.mem_map.1 hx;have hok':=((Pb.good hok).ls y hy).1;simp only [Ld.ok,fh,inB,Bool.and_eq_true,decide_eq_true_eq] at hok'
  show 0≤y.wt∧y.wt≤1073741824
  omega
theorem zhR (hok:P.ok=true)(hY:TbOf P Y)(h:Closed Y L)(hb:In51 L):ClosedD P.er (gd Y L):=by
 refine ⟨fun x hx=>?_,fun x hx q hq=>?_⟩
 ·obtain ⟨i,hi,rfl⟩:=gp hx;rw [iO] at hi;rw [jh hi];have:=ziL (h.ne i hi);simpa using this
 ·obtain ⟨i,hi,rfl⟩:=gp hx;rw [iO] at hi;obtain ⟨j,hj,rfl⟩:=(zgC hi).1 hq;have h2:=hb i j hj;rw [jh hi]
  show iA P.er (gd Y L) (cI Y.st i) j=false
  rw [zjI hok hY h.ne hi a6 a6];have h3:=congrArg (fun v=>BitVec.getLsbD v j) (h.calm i hi).2;simp only [BitVec.getLsbD_and,BitVec.getLsbD_zero,hj,Bool.true_and] at h3;exact h3
theorem zix (hok:P.ok=true)(hY:TbOf P Y)(hb:In51 T){S:List GDomain}(hS:ClosedD P.er S)(hs:SubD S (gd Y T)):∃S':Ws,Closed Y S'∧Le' S' T∧SubD S (gd Y S'):=by
 (have hl:S.length=Y.n:=by rw [hs.1,iO]);have hch:∀i,i<Y.n→∀q∈(cI S i).Channels,∃j:Nat,(cI T i).getLsbD j=true∧q=(j:Int):=fun i hi q hq=>(zgC hi).1 ((hs.2 i (by rw [iO];exact hi)).2 q hq)
 have hbit:∀i j,i<Y.n→((cI (S.map fun x=>jP x.Channels) i).getLsbD j=true↔(j:Int)∈(cI S i).Channels):=fun i j hi=>by
  rw [ie (by rw [hl];exact hi)];refine zet fun q hq=>?_;obtain ⟨k,hk,rfl⟩:=hch i hi q hq;have:=hb i k hk;omega
 (have hlen:(S.map fun x=>jP x.Channels).length=Y.n:=by rw [List.length_map,hl])
 have hle:Le' (S.map fun x=>jP x.Channels) T:=fun i j hj=>by
  rcases Nat.lt_or_ge i Y.n with hi|hi
  ·obtain ⟨k,hk,e⟩:=hch i hi _ ((hbit i j hi).1 hj);rw [show j=k by omega];exact hk
  ·unfold cI at hj;rw [List.getD_eq_getElem?_getD,List.getElem?_eq_none (by rw [hlen];exact hi)] at hj;have hj':(0#64).getLsbD j=true:=hj;rw [BitVec.getLsbD_zero] at hj'
   cases hj'
 have hsub:SubD S (gd Y (S.map fun x=>jP x.Channels)):=by
  refine ⟨by rw [hl,iO],fun i hi=>?_⟩;rw [iO] at hi;refine ⟨?_,fun q hq=>?_⟩
  ·rw [(hs.2 i (by rw [iO];exact hi)).1,jh hi,jh hi]
  ·obtain ⟨j,hj,rfl⟩:=hch i hi q hq;exact (zgC hi).2 ⟨j,(hbit i j hi).2 hq,rfl⟩
 have hne:∀i,i<Y.n→cI (S.map fun x=>jP x.Channels) i≠0#64:=fun i hi e=>by
  have h1:=hS.ne _ (eo (show i<S.length by rw [hl];exact hi))
  cases hc:(cI S i).Channels with
  |nil=>exact h1 hc
  |cons q r=>
   (have hq:q∈(cI S i).Channels:=by rw [hc];simp);obtain ⟨j,hj,rfl⟩:=hch i hi q hq;have:=(hbit i j hi).2 hq;rw [e,BitVec.getLsbD_zero] at this
   cases this
 refine ⟨_,⟨hlen,fun i hi=>⟨hne i hi,?_⟩⟩,hle,hsub⟩;apply BitVec.eq_of_getLsbD_eq;intro j hj;rw [BitVec.getLsbD_and,BitVec.getLsbD_zero]
 cases h1:(cI (S.map fun x=>jP x.Channels) i).getLsbD j with
 |false=>rfl
 |true=>
  have h2:=(hb.le hle) i j h1
  cases h3:(jq Y (S.map fun x=>jP x.Channels) i).getLsbD j with
  |false=>rfl
  |true=>
   rw [←zjI hok hY hne hi a6 a6] at h3;have h4:=zgm (zn3 hok) hsub h3;have h5:=hS.calm _ (eo (show i<S.length by rw [hl];exact hi)) _ ((hbit i j hi).1 h1);rw [(hs.2 i (by rw [iO];exact hi)).1,jh hi] at h5;rw [h4] at h5
   cases h5
theorem zmS (hok:P.ok=true)(hY:TbOf P Y)(hb:In51 T)(hF:Fin Y T L c){r:List GDomain×Bool}(hr:PropD P.er (gd Y T) r):r=if c then ([],false) else (gd Y L,true):=by
 cases c with
 |true=>
  rcases hr with ⟨_,h2,h3,_⟩|⟨h,_⟩
  ·obtain ⟨S',h4,h5,_⟩:=zix hok hY hb h2 h3.1;exact absurd h5 (hF.bad rfl S' h4)
  ·exact h
 |false=>
  have hI:=hF.good rfl;have hC:=hI.good rfl;have hbL:=hb.le hI.sub;rcases hr with ⟨h1,h2,h3,h4⟩|⟨_,h⟩
  ·have h5:=h4 _ (zhR hok hY hC hbL) (zmg hI.sub);obtain ⟨S',h6,h7,h8⟩:=zix hok hY hb h2 h3.1;have h9:SubD r.1 (gd Y L):=h8.trans (zmg (hI.best S' h6 h7))
   have e:r.1=gd Y L:=by
    refine zd8 (by rw [h9.1]) fun i hi=>?_; (have hi':i<Y.n:=by rw [h9.1,iO] at hi;exact hi);have a1:=h9.2 i (by rw [iO];exact hi');have a2:=h5.2 i hi
    have hsub:(cI (gd Y L) i).Channels.Sublist (cI (gd Y T) i).Channels:=by
     rw [jh hi',jh hi']
     show ((de (cI L i)).map _).Sublist ((de (cI T i)).map _)
     rw [ze1 (hI.sub i)];exact List.filter_sublist.map _
    have hch:(cI r.1 i).Channels=(cI (gd Y L) i).Channels:=by
     refine zdl (h3.2 i (by rw [iO];exact hi')) hsub ?_ (fun x=>⟨a1.2 x,a2.2 x⟩);rw [jh hi'];exact zeu (zef _)
    cases hx:cI r.1 i with
    |mk s1 c1=>
     cases hy:cI (gd Y L) i with
     |mk s2 c2=>
      have b1:=a1.1;rw [hx,hy] at b1 hch;simp only at b1 hch;rw [b1,hch]
   rw [if_neg b2,←e,←h1]
  ·exact absurd (zmg hI.sub) (h _ (zhR hok hY hC hbL))
end
theorem SlC.slof {α:Type}[Inhabited α]{F:Frz}{w:World}{v:Value}{size:Nat}{enc:α→List Value}{xs:List α}(h:SlC F v size (xs.map enc))(hF:F.At w):SlOf w v enc size xs:=by
 obtain ⟨A,cap,h1,h2,h3,h4,h5⟩:=h;rw [List.length_map] at h1 h5;refine ⟨A,cap,h1,fun hl=>?_⟩;obtain ⟨g,off,rfl,hg,hc⟩:=h5 hl;refine ⟨g,off,rfl,fun i hi=>?_⟩;have:=Cs.at hF hg (hc i hi)
 rwa [jH hi,d9 hi] at this
def GPair.b (x:GPair):Pr:=⟨x.A,x.B,x.Offset,x.Low,x.High⟩
def GLoad.b (x:GLoad):Ld:=⟨x.To,x.From,x.Weight,x.Low,x.High⟩
def GCap.b (x:GCap):Cp:=⟨x.Station,x.Max,x.Low,x.High⟩
def GChoice.b (x:GChoice):Ch:=⟨x.Station,x.Channel⟩
def Ch.er (x:Ch):GChoice:=⟨x.st,x.ch⟩
theorem zeD {α β:Type}{f:α→β}{g:β→α}(h:∀x,g (f x)=x)(l:List α):(l.map f).map g=l:=by
 rw [List.map_map]
 conv=>rhs;rw [←List.map_id l]
 congr 1
 funext x
 exact h x
theorem SlOf.ofMap {α β:Type}{w:World}{v:Value}{size:Nat}{enc:α→List Value}{enc':β→List Value}{f:α→β}(he:∀x,enc' (f x)=enc x){xs:List α}(h:SlOf w v enc size xs):SlOf w v enc' size (xs.map f):=by
 obtain ⟨A,cap,h1,h2⟩:=h;refine ⟨A,cap,by rw [List.length_map];exact h1,fun hl=>?_⟩;rw [List.length_map] at hl;obtain ⟨g,off,hA,hc⟩:=h2 hl;refine ⟨g,off,hA,fun i hi=>?_⟩;rw [List.length_map] at hi;rw [List.getElem_map,he];exact hc i hi
structure PbF (F:Frz) (vd:Value) (cd:List (List Value)) (vp vl vc:Value) (p:GProblem):Prop where
 ds:SlD cK F vd 2 cd p.Domains
 ps:SlC F vp 5 (p.Rules.Pairs.map cX)
 ls:SlC F vl 5 (p.Rules.Loads.map c4)
 cs:SlC F vc 4 (p.Rules.Caps.map dg)
theorem zi5 {F:Frz}{w:World}{vd vp vl vc:Value}{cd:List (List Value)}{p:GProblem}(h:PbF F vd cd vp vl vc p)(hF:F.At w):∃P:Pb,P.er=p∧ProbAt w vd vp vl vc P:=by
 obtain ⟨hd,hp,hl,hc⟩:=h;have hlen:=hd.2.1
 have hrow:∀i,i<p.Domains.length→cI cd i=[.int .i64 (cI p.Domains i).Station,cI (cI cd i) 1]∧SlC F (cI (cI cd i) 1) 1 ((cI p.Domains i).Channels.map eI):=fun i hi=>by
  obtain ⟨v1,h0,h1⟩:=hd.2.2 i hi;rw [h0];exact ⟨rfl,h1⟩
 have eds:((List.range p.Domains.length).map fun i=>(⟨(cI p.Domains i).Station,cI (cI cd i) 1,(cI p.Domains i).Channels⟩:Dx)).map Dx.er=p.Domains:=by
  refine zd8 b2 fun i hi=>?_;simp at hi;rw [ie (by simpa using hi),d9 (by simpa using hi)];simp [Dx.er]
 refine ⟨⟨(List.range p.Domains.length).map fun i=>⟨(cI p.Domains i).Station,cI (cI cd i) 1,(cI p.Domains i).Channels⟩,p.Rules.Pairs.map GPair.b,p.Rules.Loads.map GLoad.b,p.Rules.Caps.map GCap.b⟩,?_,?_⟩
 ·unfold Pb.er;dsimp only;rw [eds,zeD (g:=Pr.er) (fun _=>rfl),zeD (g:=Ld.er) (fun _=>rfl),zeD (g:=Cp.er) (fun _=>rfl)]
 ·refine ⟨⟨?_,?_⟩,⟨(hp.slof hF).ofMap (f:=GPair.b) (enc':=Pr.cells) (fun _=>rfl),(hl.slof hF).ofMap (f:=GLoad.b) (enc':=Ld.cells) (fun _=>rfl),(hc.slof hF).ofMap (f:=GCap.b) (enc':=Cp.cells) (fun _=>rfl),?_,?_,?_⟩,?_,?_⟩
  ·obtain ⟨A,cap,h1,h2,h3,h4,h5⟩:=hd.1;dsimp only;refine ⟨A,cap,by rw [h1,hlen];simp,fun hl0=>?_⟩;simp at hl0;obtain ⟨g,off,rfl,hg,hcs⟩:=h5 a6;refine ⟨g,off,rfl,fun i hi=>?_⟩;simp at hi;have:=Cs.at hF hg (hcs i a6);rw [(hrow i hi).1] at this;simpa [Dx.cells] using this
  ·intro d hd';obtain ⟨i,hi,rfl⟩:=List.mem_map.1 hd';have hi':=List.mem_range.1 hi; (exact ((hrow i hi').2.slof hF).ofMap (f:=fun x=>x) (enc':=Ie) (fun _=>rfl) |> fun q=>by simpa using q)
  ·have:=hp.max;simpa using this
  ·have:=hl.max;simpa using this
  ·have:=hc.max;simpa using this
  ·have:=hd.1.max;simp;omega
  ·intro d hd';obtain ⟨i,hi,rfl⟩:=List.mem_map.1 hd';have:=(hrow i (List.mem_range.1 hi)).2.max;simpa using this
theorem Fx.hp {F:Frz}{w w':World}{es:HS}(hF:F.At w)(h:Hp w (fun _=>False) es w'):∃G:Frz,Fx F w G w'∧G.w=w'∧∀e∈es,∀g,e.fp g→Cb w' g→G.S g:=by
 have hb:=h.isBelow;have hF':=hF.below hb;refine ⟨⟨fun g=>F.S g∨((∃ e∈es,e.fp g)∧Cb w' g),w',fun g hg=>hg.elim (fun h=>hF'.cb h) (fun h=>h.2)⟩,⟨fun g hg=>⟨.inl hg,hF' g hg⟩,fun g _=>rfl,fun g hg=>?_,hb⟩,rfl,fun e he g hg hc=> .inr ⟨⟨e,he,hg⟩,hc⟩⟩;rcases hg with h1|⟨⟨e,he,hg⟩,_⟩
 ·exact .inl h1
 ·exact .inr ((h.new e he g hg).elim (fun h=>h.elim) id)
theorem i1 {G:Frz}{w':World}{v:Value}{e:TypeId}{size k:Nat}{l:List Value}(hok:(Ent.sl v e size k l).ok w')(hw:G.w=w')(hS:∀g,(Ent.sl v e size k l).fp g→Cb w' g→G.S g):SlK G v size k l:=by
 have ho:=cU.1 hok;rcases ho.2 with ⟨rfl,h0⟩|⟨g,cap,cur,rfl,hb,hg,hnc,hcm,hcs,htake⟩
 ·subst h0;exact ⟨ho.1,none,0,rfl,Nat.le_refl _,by omega,fun h=>by omega⟩
 ·refine ⟨ho.1,_,cap,rfl,hnc,by unfold maxLen at hcm;omega,fun _=>⟨g,rfl,hS g (c7.2 rfl) ⟨_,_,_,hg⟩,fun q hq=>?_⟩⟩;rw [hw,Nat.zero_add,World.ownsRow.cellAt ho q (by rw [←ho.1];exact hq)]
theorem zm6 {F:Frz}{w w':World}{v:Value}{xs:List Dx}(hF:F.At w)(h:Hp w (fun _=>False) [.sl v 59 2 xs.length (xs.flatMap Dx.cells), .bag (xs.map dE)] w'):∃G:Frz,Fx F w G w'∧∃cs,SlD cK G v 2 cs (xs.map Dx.er):=by
 obtain ⟨G,h1,h2,h3⟩:=Fx.hp hF h;refine ⟨G,h1,xs.map Dx.cells,?_⟩;have h4:=i1 (G:=G) (h.own (.sl v 59 2 xs.length (xs.flatMap Dx.cells)) b2) h2 (h3 _ b2);have hb:=dh.1 (h.own (.bag (xs.map dE)) b2);have h5:=h4.toC (cs:=xs.map Dx.cells) (List.flatMap_def ..) b2 (fun c hc=>by obtain ⟨x,_,rfl⟩:=List.mem_map.1 hc;rfl);refine ⟨h5,by simp,fun i hi=>?_⟩;simp at hi;rw [jH hi,jH hi];have hm:cI xs i∈xs:=eo hi;have h6:=hb.1 (dE (cI xs i)) (List.mem_map.2 ⟨_,hm,rfl⟩);have h7:=i1 (G:=G) h6 h2 (fun g hg hc=>h3 (.bag (xs.map dE)) b2 g (dc.2 ⟨_,List.mem_map.2 ⟨_,hm,rfl⟩,hg⟩) hc);exact ⟨(cI xs i).v,rfl,h7.toF rfl (fun _=>rfl)⟩
theorem zn8 {F:Frz}{w w':World}{v:Value}{xs:List Ch}(hF:F.At w)(h:Hp w (fun _=>False) [.sl v 34 2 xs.length (xs.flatMap Ch.cells)] w'):∃G:Frz,Fx F w G w'∧SlC G v 2 ((xs.map Ch.er).map cH):=by
 obtain ⟨G,h1,h2,h3⟩:=Fx.hp hF h;refine ⟨G,h1,?_⟩;have h4:=i1 (G:=G) (h.own (.sl v 34 2 xs.length (xs.flatMap Ch.cells)) b2) h2 (h3 _ b2)
 have e:xs.flatMap Ch.cells=(xs.map Ch.er).flatMap cH:=by
  rw [List.flatMap_map];rfl
 rw [e] at h4;exact h4.toF b2 GChoice.len
theorem zmW {w w':World}{es es' rest:HS}(h:(Ent.bag (es++rest)).ok w)(hk:Hp w (dG es) es' w'):Hp w (Ent.bag (es++rest)).fp [.bag (es'++rest)] w':=by
 obtain ⟨hok,hap⟩:=dh.1 h;obtain ⟨a1,a2,a3⟩:=List.pairwise_append.1 hap;have hold:∀e∈rest,∀g,e.fp g→w'.heap[g]?=w.heap[g]?:=fun e he g hg=>hk.base g (e.lt (hok e (List.mem_append_right _ he)) g hg) (fun ⟨f,hf,hfg⟩=>a3 f hf e he g hfg hg);refine ⟨hk.os,hk.tape,hk.output,hk.size,fun k hk1 hk2=>hk.base k hk1 (fun ⟨e,he,hg⟩=>hk2 (dc.2 ⟨e,List.mem_append_left _ he,hg⟩)),?_,?_,List.pairwise_singleton _ _⟩
 ·intro e he;simp at he;subst he;refine dh.2 ⟨fun e he=>?_,List.pairwise_append.2 ⟨hk.apart,a2,fun e he f hf g hg hfg=>?_⟩⟩
  ·rcases List.mem_append.1 he with he|he
   ·exact hk.own e he
   ·exact e.loc (hold e he) (hok e (List.mem_append_right _ he))
  ·rcases hk.new e he g hg with ⟨x,hx,hxg⟩|hn
   ·exact a3 x hx f hf g hxg hfg
   ·have:=f.lt (hok f (List.mem_append_right _ hf)) g hfg;omega
 ·intro e he g hg;simp at he;subst he;obtain ⟨f,hf,hfg⟩:=dc.1 hg;rcases List.mem_append.1 hf with hf|hf
  ·rcases hk.new f hf g hfg with ⟨x,hx,hxg⟩|hn
   ·exact .inl (dc.2 ⟨x,List.mem_append_left _ hx,hxg⟩)
   ·exact .inr hn
  ·exact .inl (dc.2 ⟨f,List.mem_append_right _ hf,hfg⟩)
theorem zjb {w w':World}{es:HS}(h:Hp w (fun _=>False) es w'):Hp w (fun _=>False) [.bag es] w':=
 ⟨h.os,h.tape,h.output,h.size,h.base,fun e he=>by simp at he;subst he;exact dh.2 ⟨h.own,h.apart⟩,fun e he g hg=>by
  simp at he;subst he;obtain ⟨f,hf,hfg⟩:=dc.1 hg
  exact h.new f hf g hfg,List.pairwise_singleton _ _⟩
theorem zfz {α:Type}{p q:α→Bool}:∀ {l:List α},(∀x∈l,p x=q x)→l.all p=l.all q
 | [],_=>rfl
 |x :: r,h=>by rw [List.all_cons,List.all_cons,h x b2,zfz (l:=r) (fun y hy=>h y (by simp [hy]))]
theorem zoy {Y:Tb}{L:Ws}:ey (gd Y L)≤Y.n*64:=by
 unfold ey gd;rw [List.map_map]
 have:∀l:List Nat,(l.map ((fun x:GDomain=>x.Channels.length)∘fun i=>(⟨cI Y.st i,(de (cI L i)).map fun j:Nat=>(j:Int)⟩:GDomain))).sum≤l.length*64:=by
  intro l
  induction l with
  |nil=>simp
  |cons i r ih=>
   have:=zhZ (cI L i);simp only [List.map_cons,List.sum_cons,List.length_cons,Function.comp,List.length_map] at ih ⊢;omega
 have h:=this (List.range Y.n)
 rwa [List.length_range] at h
theorem zeF:∀(n a:Nat) (l:List Int),(∀q∈l,(a:Int)≤q∧q<(a:Int)+n)→l.Pairwise (· < ·)→l.Sublist ((List.range' a n).map fun j:Nat=>(j:Int))
 |0,a,l,h,_=>by
  cases l with
  |nil=>exact List.Sublist.refl _
  |cons q r=>have:=h q b2;omega
 |n+1,a,l,h,hp=>by
  rw [List.range'_succ,List.map_cons]
  cases l with
  |nil=>exact List.nil_sublist _
  |cons q r=>
   have hq:=h q b2;have hr:=List.pairwise_cons.1 hp;by_cases e:q=(a:Int)
   ·subst e;refine List.Sublist.cons_cons _ (zeF n (a+1) r (fun x hx=>?_) hr.2);have h1:=h x (by simp [hx]);have h2:=hr.1 x hx;omega
   ·refine List.Sublist.cons _ (zeF n (a+1) (q :: r) (fun x hx=>?_) hp);have h1:=h x hx;rcases List.mem_cons.1 hx with rfl|hx
    ·omega
    ·have h2:=hr.1 x hx;omega
theorem zkT {l:List Int}(h:fy dL l=true):l.Pairwise (· < ·):=by
 unfold fy at h;rw [List.all_eq_true] at h
 have step:∀k,k+1<l.length→cI l k<cI l (k+1):=fun k hk=>by
  have:=h (k+1) (List.mem_range.2 hk);simp only [Bool.or_eq_true,decide_eq_true_eq,Bool.not_eq_true',decide_eq_false_iff_not,Nat.add_sub_cancel] at this;rcases this with h1|h1
  ·omega
  ·unfold dL at h1;split at h1
   ·assumption
   ·split at h1 <;> omega
 rw [List.pairwise_iff_getElem];intro i j hi hj hij
 have key:∀m,i+m+1<l.length→cI l i<cI l (i+m+1):=by
  intro m
  induction m with
  |zero=>intro h;exact step i h
  |succ m ih=>intro h;exact Int.lt_trans (ih a6) (step (i+m+1) a6)
 have:=key (j - i - 1) a6;rw [show i+(j - i - 1)+1=j by omega,d9 hi,d9 hj] at this;exact this
theorem zk3 {P:Pb}(hok:P.ok=true){i:Nat}(hi:i<P.ds.length):(cI P.ds i).chs.Sublist ((List.range' 0 64).map fun j:Nat=>(j:Int)):=by
 have hb:=((Pb.good hok).chs _ (eo hi)).2;refine zeF 64 0 _ (fun q hq=>by have:=hb q hq;omega) (zkT ?_);simp only [Pb.ok,Bool.and_eq_true] at hok;have:=d5.1 hok.1 _ (eo hi);simp only [Dx.ok,Bool.and_eq_true] at this;exact this.2.2
def GDomain.b (x:GDomain):Dx:=⟨x.Station, .slice none 0 0,x.Channels⟩
def d7 (p:GProblem):Pb:=⟨p.Domains.map GDomain.b,p.Rules.Pairs.map GPair.b,p.Rules.Loads.map GLoad.b,p.Rules.Caps.map GCap.b⟩
def eN (p:GProblem):Bool:=(d7 p).ok
theorem znW (P:Pb):P.ok=eN P.er:=by
 have e1:(d7 P.er).ps=P.ps:=zeD (fun _=>rfl) P.ps;have e2:(d7 P.er).ls=P.ls:=zeD (fun _=>rfl) P.ls;have e3:(d7 P.er).cs=P.cs:=zeD (fun _=>rfl) P.cs
 have e4:(d7 P.er).ds=P.ds.map fun d=>⟨d.st, .slice none 0 0,d.chs⟩:=by
  show (P.ds.map Dx.er).map GDomain.b=_
  rw [List.map_map];rfl
 (have e5:(d7 P.er).ds.map (·.st)=P.ds.map (·.st):=by rw [e4,List.map_map];rfl); (have e6:(d7 P.er).has=P.has:=by funext i;unfold Pb.has;rw [e5]); (have hn:∀k,k<P.ds.length→cI (d7 P.er).ds k=⟨(cI P.ds k).st, .slice none 0 0,(cI P.ds k).chs⟩:=fun k hk=>by rw [e4,jH hk]); (have hl:(d7 P.er).ds.length=P.ds.length:=by rw [e4,List.length_map])
 have e7:fM Dx.ok (d7 P.er).ds=fM Dx.ok P.ds:=by
  unfold fM;rw [hl];refine zfz fun k hk=>?_;rw [hn k (List.mem_range.1 hk)];rfl
 have e8:fy (fun a b=>dL a.st b.st) (d7 P.er).ds=fy (fun a b=>dL a.st b.st) P.ds:=by
  unfold fy;rw [hl];refine zfz fun k hk=>?_;have:=List.mem_range.1 hk;rw [hn k this,hn (k - 1) a6]
 unfold eN Pb.ok Pb.rulesOk;rw [e1,e2,e3,e6,e7,e8]
theorem znR {P : Pb} {Y : Tb} (hok : P.ok = true) (hY : TbOf P Y) : gd Y P.left = P.er.Domains ∧ In51 P.left := by
  have hG := Pb.good hok; have hn := hY.n; have hb : ∀ i, i < P.ds.length → ∀ q ∈ (cI P.ds i).chs, 2 ≤ q ∧ q ≤ 51 := fun i hi => (hG.chs _ (eo hi)).2; (have hleft : ∀ i, i < P.ds.length → cI P.left i = jP (cI P.ds i).chs := fun i hi => by unfold Pb.left; rw [jH hi]); constructor
  · refine zd8 (by rw [iO, hn]; simp [Pb.er]) fun i hi => ?_; rw [iO] at hi; (have hi' : i < P.ds.length := by omega); rw [jh hi, hleft i hi']
    show _ = cI (P.ds.map Dx.er) i
    rw [ie hi', hY.nth_st hi]; unfold Dx.er
    congr 1
    -- the channels of the word are the channels
    refine zdl (l := (List.range' 0 64).map fun j : Nat => (j : Int)) (chansN_sub.map _) ?_ (zeu List.nodup_range') (fun q => ?_)
    · exact zk3 hok hi'
    · rw [iR]; constructor
      · rintro ⟨j, hj, rfl⟩; exact (zet (fun c hc => by have := hb i hi' c hc; omega)).1 (dR.1 hj)
      · intro hq; have h2 := hb i hi' q hq;refine ⟨q.toNat, dR.2 ((zet (fun c hc => by have := hb i hi' c hc; omega)).2 ?_), by omega⟩; rw [Int.toNat_of_nonneg a6]; exact hq
  · intro i j hj; rcases Nat.lt_or_ge i P.ds.length with hi | hi
    · rw [hleft i hi] at hj; have := hb i hi _ ((zet (fun c hc => by have := hb i hi c hc; omega)).1 hj); omega
    · unfold cI at hj; rw [List.getD_eq_getElem?_getD, List.getElem?_eq_none (by unfold Pb.left; rw [List.length_map]; exact hi)] at hj; have hj' : (0#64).getLsbD j = true := hj; rw [BitVec.getLsbD_zero] at hj'
      cases hj'
structure SK where
 sp:Nat
 gl:GL
 tp:Nat
 w0:World
 Y:Tb
abbrev stL (k:SK)(L:Ws)(b:Bool):HS:=[dI k.sp k.gl k.tp k.Y.n b,eU k.gl k.Y.n L,Ent.fz k.w0]
abbrev jb (k:SK)(L:Ws)(b:Bool):Ent:= .bag (stL k L b)
structure SI (p:GProblem) (m:List GDomain×Bool) (k:SK) (L:Ws):Prop where
 pb:∃P:Pb,P.er=p∧P.ok=true∧TbOf P k.Y
 tb:TablesAt k.w0 k.tp k.Y
 len:L.length=k.Y.n
 good:m.2=true→Closed k.Y L∧In51 L∧m.1=gd k.Y L
 bad:m.2=false→m.1=[]
theorem SI.of {P:Pb}{k:SK}{T L:Ws}{c:Bool}(hok:P.ok=true)(hY:TbOf P k.Y)(ht:TablesAt k.w0 k.tp k.Y)(hT:T.length=k.Y.n)(hb:In51 T)(hI:Is k.Y T L c){fuel:Nat}(hf:100000≤fuel){r:List GDomain×Bool}(hr:za8 fuel P.er (gd k.Y T)=some r):SI P.er r k L∧c= !r.2:=by
 have hG:=Pb.good hok;have hn:=hY.n;have h512:=hG.n
 obtain ⟨r',h1,h2⟩:=zeJ (fuel:=fuel) (zn3 hok) (zor (Y:=k.Y) (L:=T) a6) (by rw [iO];omega) (by
  have:ey (gd k.Y T)≤k.Y.n*64:=zoy
  omega)
 rw [hr] at h1;obtain rfl:=Option.some.inj h1;have h3:=zmS hok hY hb hI.fin h2
 cases c with
 |true=>
  rw [if_pos rfl] at h3;subst h3;exact ⟨⟨⟨P,rfl,hok,hY⟩,ht,hI.len,(fun h=>by cases h),fun _=>rfl⟩,rfl⟩
 |false=>
  rw [if_neg b2] at h3;subst h3;exact ⟨⟨⟨P,rfl,hok,hY⟩,ht,hI.len,fun _=>⟨hI.good rfl,hb.le hI.sub,rfl⟩,(fun h=>by cases h)⟩,rfl⟩
section
variable {F0:Frz}{w:World}
theorem zoX {vd vp vl vc : Value} {cd : List (List Value)} {p : GProblem} (hF0 : F0.At w) (h : PbF F0 vd cd vp vl vc p) (htab : Tab w) (hv : eN p = true) {fuel : Nat} (hf : 100000 ≤ fuel) {r : List GDomain × Bool} (hr : za8 fuel p p.Domains = some r) :
    Calls Tryz.prog 67 #[.agg [vd, vp, vl, vc].toArray] w fun e w' => ∃ y : SK × Ws, SI p r y.1 y.2 ∧ e = .returned (.tuple #[.pointer (some ⟨y.1.sp, 0, none⟩), .int .i64 0]) ∧ Hp w (fun _ => False) [jb y.1 y.2 (!r.2)] w' := by
  obtain ⟨P, rfl, hP⟩ := zi5 h hF0; (have hok : P.ok = true := by rw [znW]; exact hv);refine (zoM P vd vp vl vc w hP htab hok).mono ?_; rintro e w' ⟨⟨sp, gl, tp, Y, L, c, w0⟩, hN, rfl, hw⟩; dsimp only at hN hw ⊢; have hI := hN.is (Pb.good hok); obtain ⟨h1, h2⟩ := znR hok hN.tb; rw [← h1] at hr; obtain ⟨h3, h4⟩ := SI.of (k := ⟨sp, gl, tp, w0, Y⟩) hok hN.tb hN.at' hI.tlen h2 hI hf hr;refine ⟨⟨⟨sp, gl, tp, w0, Y⟩, L⟩, h3, rfl, zjb ?_⟩
  show Hp w (fun _ => False) [dI sp gl tp Y.n (!r.2), eU gl Y.n L, Ent.fz w0] w'
  rw [hN.tb.n, ← h4]; exact hw
theorem zlq {vd vp vl vc : Value} {cd : List (List Value)} {p : GProblem} (hF0 : F0.At w) (h : PbF F0 vd cd vp vl vc p) (hv : eN p = false) :
    Calls Tryz.prog 67 #[.agg [vd, vp, vl, vc].toArray] w fun e w' => e = .returned (.tuple #[.pointer none, .int .i64 2]) ∧ Below w.heap.size w w' := by
  obtain ⟨P, rfl, hP⟩ := zi5 h hF0; exact zoj P vd vp vl vc w hP (by rw [znW]; exact hv)
end
def fY (p:GProblem)(s:Int):Bool:=p.Domains.any fun d=>decide (d.Station=s)
def kb (c:GChoice):Bool:=decide (0≤c.Station∧c.Station<512∧2≤c.Channel∧c.Channel≤51)
def mF (fuel:Nat)(p:GProblem)(m:List GDomain×Bool)(keep:Bool)(c:GChoice):Option ((List GDomain×Bool)×Int):=
 bif !kb c then some (m,2) else
 bif !m.2 then some (m,8) else
 bif !fY p c.Station then some (m,9) else
 (bif keep then zbE m.1 c.Station c.Channel else mU m.1 c.Station c.Channel).bind fun d=>(za8 fuel p d).bind fun r=>some (r,0)
section
variable {p:GProblem}{m:List GDomain×Bool}{k:SK}{L:Ws}{w:World}{F0:Frz}
theorem SI.stF (h:SI p m k L){b:Bool}(hok:(jb k L b).ok w)(htab:Tab w):StF k.w0 w k.sp k.gl k.tp k.Y L b:=by
 obtain ⟨h1,h2⟩:=dh.1 hok;exact iM (iq h1 h2) h.tb (fo.1 (h1 _ b2)) htab 0 1 rfl rfl h.len
theorem ziK (hs:StateAt w k.sp k.Y L (!m.2)):Calls Tryz.prog 118 #[.pointer (some ⟨k.sp,0,none⟩)] w fun e w'=>e= .returned (.bool (!m.2))∧Below w.heap.size w w':=
 ziE k.sp k.Y L (!m.2) w hs
theorem SI.ok (h:SI p m k L):k.Y.Ok:=by obtain ⟨P,_,hok,hY⟩:=h.pb;exact hY.ok (Pb.good hok)
theorem er_pl {xs:List Dx}{Y:Tb}{L:Ws}(h:xs.map lC=zje Y L Y.n):xs.map Dx.er=gd Y L:=by
 (have e:xs.map Dx.er=(xs.map lC).map fun q=>(⟨q.1,q.2⟩:GDomain):=by rw [List.map_map];rfl);rw [e,h];unfold zje gd;rw [List.map_map];rfl
theorem zjD (hF0:F0.At w)(h:SI p m k L)(hs:StateAt w k.sp k.Y L (!m.2)):Calls Tryz.prog 98 #[.pointer (some ⟨k.sp,0,none⟩)] w fun e w'=>∃(y:Value×List (List Value)) (G:Frz),SlD cK G y.1 2 y.2 m.1∧e= .returned y.1∧Fx F0 w G w':=by
 cases hm:m.2 with
 |false=>
  rw [hm] at hs;refine (zi2 k.sp k.Y L w hs).mono ?_;rintro e w' ⟨rfl,hb⟩;exact ⟨(.slice none 0 0,[]),F0,by rw [h.bad hm];exact SlD.nil _ _ 2,rfl,Fx.refl hF0 hb⟩
 |true=>
  rw [hm] at hs;refine (zkC k.sp k.Y L w hs h.ok).mono ?_;rintro e w' ⟨⟨v,xs⟩,hp,rfl,hw⟩;obtain ⟨G,h1,cs,h2⟩:=zm6 hF0 hw;refine ⟨(v,cs),G,?_,rfl,h1⟩;rw [(h.good hm).2.2,←er_pl hp];exact h2
theorem zkZ {ds:List Dx}{j:Nat}:∀k,(∀i,i<k→(cI ds i).st.toNat≠j)→dX ds k j=0
 |0,_=>rfl
 |k+1,h=>by
  unfold dX;rw [if_neg (fun e=>h k a6 e.symm)];exact zkZ k (fun i hi=>h i a6)
theorem zly {P:Pb}{Y:Tb}(hok:P.ok=true)(hY:TbOf P Y){i:Nat}(hi:i<Y.n):jd Y (cI Y.st i)=((i:Int),true):=by
 have hG:=Pb.good hok;have h1:=hG.st (cI P.ds i) (eo (by rw [←hY.n];exact hi));rw [←hY.nth_st hi] at h1;have h2:=zjk hG hY hi;unfold Pb.ix at h2;unfold jd;rw [hY.ix,if_neg a6]
 congr 1
theorem zoC {P:Pb}{Y:Tb}(hok:P.ok=true)(hY:TbOf P Y){s:Int}(h:∀i,i<Y.n→cI Y.st i≠s):jd Y s=(0,false):=by
 have hG:=Pb.good hok;unfold jd;by_cases hs:s<0∨512≤s
 ·rw [if_pos (by rcases hs with h1|h1;exact .inl h1;exact .inr (.inl h1))]
 ·have h0:Y.ix s.toNat=0:=by
   rw [hY.ix];refine zkZ _ fun i hi e=>?_; (have hi':i<Y.n:=by rw [hY.n];exact hi);have h1:=hG.st (cI P.ds i) (eo hi);apply h i hi';rw [hY.nth_st hi'];omega
  rw [if_pos (.inr (.inr h0))]
theorem zdF {P:Pb}{Y:Tb}(hY:TbOf P Y){s:Int}:fY P.er s=true↔∃i,i<Y.n∧cI Y.st i=s:=by
 unfold fY;rw [List.any_eq_true]
 show (∃x∈P.ds.map Dx.er,_)↔_
 constructor
 ·rintro ⟨x,hx,h⟩;obtain ⟨i,hi,rfl⟩:=gp hx;rw [List.length_map] at hi;rw [ie hi] at h; (have hi':i<Y.n:=by rw [hY.n];exact hi);exact ⟨i,hi',by rw [hY.nth_st hi'];exact of_decide_eq_true h⟩
 ·rintro ⟨i,hi,rfl⟩; (have hi':i<P.ds.length:=by rw [←hY.n];exact hi);exact ⟨Dx.er (cI P.ds i),List.mem_map.2 ⟨_,eo hi',rfl⟩,decide_eq_true (hY.nth_st hi).symm⟩
theorem znv {Y:Tb}{L:Ws}{i:Nat}{g:BitVec 64}{f:GDomain→GDomain}(hl:L.length=Y.n)(hi:i<Y.n)(h1:f (cI (gd Y L) i)=⟨cI Y.st i,(de (cI L i &&& ~~~g)).map fun j:Nat=>(j:Int)⟩)(h2:∀j,j<Y.n→j≠i→f (cI (gd Y L) j)=cI (gd Y L) j):(gd Y L).map f=gd Y (dx L i g):=by
 refine zd8 (by rw [List.length_map,iO,iO]) fun j hj=>?_;rw [List.length_map,iO] at hj;rw [ie (by rw [iO];exact hj),jh (L:=dx L i g) hj];unfold dx;rw [kU a6];by_cases e:j=i
 ·subst e;rw [if_pos rfl,h1]
 ·rw [if_neg e,h2 j hj e,jh hj]
theorem zmK {b:BitVec 64}{c j:Nat}(hc:c<64):(b &&& ~~~(~~~(1#64 <<< c))).getLsbD j=(b.getLsbD j&&decide (c=j)):=by
 rw [BitVec.not_not,BitVec.getLsbD_and];by_cases hj:j<64
 ·rw [zjd hj]
 ·rw [BitVec.getLsbD_of_ge b j a6];simp
theorem zjZ {b:BitVec 64}{c j:Nat}(hc:c<64):(b &&& ~~~(1#64 <<< c)).getLsbD j=(b.getLsbD j&& !decide (c=j)):=by
 rw [BitVec.getLsbD_and];by_cases hj:j<64
 ·rw [BitVec.getLsbD_not,zjd hj];simp [hj]
 ·rw [BitVec.getLsbD_of_ge b j a6];simp
theorem zkp {b:BitVec 64}{c:Nat}(hc:c<64):de (b &&& ~~~(~~~(1#64 <<< c)))=if b.getLsbD c then [c] else []:=by
 have h:∀j,j∈de (b &&& ~~~(~~~(1#64 <<< c)))↔j∈(if b.getLsbD c then [c] else []):=fun j=>by
  rw [dR,zmK hc]
  cases hb:b.getLsbD c with
  |false=>
   simp;intro h e;subst e;rw [hb] at h;cases h
  |true=>
   simp;constructor
   ·rintro ⟨_,rfl⟩;rfl
   ·rintro rfl;exact ⟨hb,rfl⟩
 refine zdl chansN_sub ?_ List.nodup_range' h
 split
 ·exact List.singleton_sublist.2 (List.mem_range'_1.2 ⟨by omega,by omega⟩)
 ·exact List.nil_sublist _
theorem zmw {Y:Tb}{L:Ws}{i c:Nat}(hl:L.length=Y.n)(hi:i<Y.n)(hinj:∀j,j<Y.n→cI Y.st j=cI Y.st i→j=i)(hc:c<64):(gd Y L).map (i5 (cI Y.st i) c)=gd Y (dx L i (~~~(1#64 <<< c))):=by
 refine znv hl hi ?_ (fun j hj hne=>?_)
 ·rw [jh hi,zkp hc];unfold i5;dsimp only;rw [decide_eq_true rfl,cond_true]
  congr 1
  have e:((de (cI L i)).map fun j:Nat=>(j:Int)).any (fun k=>decide (k=(c:Int)))=(cI L i).getLsbD c:=by
   rw [Bool.eq_iff_iff,List.any_eq_true];constructor
   ·rintro ⟨q,hq,h⟩;obtain ⟨j,hj,rfl⟩:=iR.1 hq;have:=of_decide_eq_true h;rw [show c=j by omega];exact dR.1 hj
   ·intro h;exact ⟨c,iR.2 ⟨c,dR.2 h,rfl⟩,by simp⟩
  rw [e]
  cases (cI L i).getLsbD c <;> rfl
 ·rw [jh hj];unfold i5;dsimp only;rw [decide_eq_false (fun e=>hne (hinj j hj e)),cond_false]
theorem zm9 {Y:Tb}{L:Ws}{i c:Nat}(hl:L.length=Y.n)(hi:i<Y.n)(hinj:∀j,j<Y.n→cI Y.st j=cI Y.st i→j=i)(hc:c<64):(gd Y L).map (je (cI Y.st i) c)=gd Y (dx L i (1#64 <<< c)):=by
 refine znv hl hi ?_ (fun j hj hne=>?_)
 ·rw [jh hi];unfold je;dsimp only
  congr 1
  rw [ze1 (b:=cI L i) (c:=cI L i &&& ~~~(1#64 <<< c)) (fun j hj=>by rw [zjZ hc,Bool.and_eq_true] at hj;exact hj.1),List.filter_map]
  congr 1
  apply List.filter_congr;intro j hj;rw [zjZ hc,dR.1 hj];simp only [Function.comp,Bool.true_and,not_true_eq_false,decide_false,Bool.false_or];by_cases e:c=j
  ·subst e;simp
  ·(have:¬(j:Int)=(c:Int):=by omega);simp [e,this]
 ·rw [jh hj];unfold je;dsimp only
  congr 1
  rw [List.filter_eq_self];intro q _;rw [Bool.or_eq_true];exact .inl (decide_eq_true (fun e=>hne (hinj j hj e)))
theorem SI.two (h:SI p m k L){b:Bool}(hok:(jb k L b).ok w)(htab:Tab w)(hn0:0<k.Y.n):Hp w (dG [dI k.sp k.gl k.tp k.Y.n b,eU k.gl k.Y.n L]) [dI k.sp k.gl k.tp k.Y.n b,eU k.gl k.Y.n L] w∧(∀g,dG [dI k.sp k.gl k.tp k.Y.n b,eU k.gl k.Y.n L] g→¬jF k.w0 g)∧¬dG [dI k.sp k.gl k.tp k.Y.n b,eU k.gl k.Y.n L] 0∧Fz k.w0 w:=by
 obtain ⟨h1,h2⟩:=dh.1 hok;have h3:([dI k.sp k.gl k.tp k.Y.n b,eU k.gl k.Y.n L]++[Ent.fz k.w0]).Pairwise fun e f=>∀g,e.fp g→¬f.fp g:=h2;obtain ⟨a1,a2,a3⟩:=List.pairwise_append.1 h3;refine ⟨iq (fun e he=>h1 e (by simp at he ⊢;rcases he with h|h <;> simp [h])) a1,fun g ⟨e,he,hg⟩ hc=>a3 e he _ b2 g hg (eR.2 hc),?_,fo.1 (h1 _ b2)⟩;rintro ⟨e,he,hg⟩;have hT:=htab 0 a7;simp at he;rcases he with rfl|rfl
 ·have h4:=cQ.1 hg;have h5:=cW.1 (h1 (dI k.sp k.gl k.tp k.Y.n b) b2);rw [←h4] at h5;rw [jM h5] at hT
  cases hT
 ·have h4:=c7.1 hg;have h5:=cU.1 (h1 (eU k.gl k.Y.n L) b2); (have e0:k.gl.b=0:=by simpa [sG,Value.ownBlock] using h4);have h9:=World.ownsRow.cellAt (by have:=h5;unfold sG at this;exact this) 0 a6;rw [e0] at h9;rw [hT] at h9
  cases L with
  |nil=>have:=h.len;simp at this;omega
  |cons x r=>simp [Ws.cells] at h9
theorem zmq (h:SI p m k L){c:GChoice}:gF k.Y (!m.2) c.b=bif !kb c then (0,2) else bif !m.2 then (0,8) else bif !fY p c.Station then (0,9) else ((jd k.Y c.Station).1,0):=by
 obtain ⟨P,rfl,hok,hY⟩:=h.pb;unfold gF GChoice.b kb;dsimp only;by_cases h1:c.Station<0∨512≤c.Station∨c.Channel<2∨51<c.Channel
 ·rw [if_pos h1,decide_eq_false a6];rfl
 ·rw [if_neg h1,decide_eq_true a6];simp only [Bool.not_true,cond_false]
  cases m.2 with
  |false=>rfl
  |true=>
   simp only [Bool.not_true,cond_false,Bool.false_eq_true,if_false]
   cases hh:fY P.er c.Station with
   |true=>
    obtain ⟨i,hi,e⟩:=(zdF hY).1 hh;rw [←e,zly hok hY hi];rfl
   |false=>
    rw [zoC hok hY (s:=c.Station) (fun i hi e=>by rw [(zdF hY).2 ⟨i,hi,e⟩] at hh;cases hh)];rfl
theorem znk (kp : Bool) (num : FuncId) (h : SI p m k L) (hok : (jb k L (!m.2)).ok w) (htab : Tab w) {fuel : Nat} (hf : 100000 ≤ fuel) (c : GChoice) {r : (List GDomain × Bool) × Int} (hr : mF fuel p m kp c = some r)
    (hE : (gF k.Y (!m.2) c.b).2 ≠ 0 → Calls Tryz.prog num #[.pointer (some ⟨k.sp, 0, none⟩), .agg (Ch.cells c.b).toArray] w fun e w' => e = .returned (.int .i64 (gF k.Y (!m.2) c.b).2) ∧ Below w.heap.size w w')
    (hO : m.2 = true → (gF k.Y false c.b).2 = 0 → Calls Tryz.prog num #[.pointer (some ⟨k.sp, 0, none⟩), .agg (Ch.cells c.b).toArray] w fun e w' => ∃ y : Ws × Bool, gX k.Y (dx L (gF k.Y false c.b).1.toNat (bif kp then ~~~(1#64 <<< c.Channel.toNat) else 1#64 <<< c.Channel.toNat)) y.1 y.2 ∧ e = .returned (.int .i64 0) ∧ Hp w (dG [dI k.sp k.gl k.tp k.Y.n false, eU k.gl k.Y.n L]) [dI k.sp k.gl k.tp k.Y.n y.2, eU k.gl k.Y.n y.1] w') :
    Calls Tryz.prog num #[.pointer (some ⟨k.sp, 0, none⟩), .agg [.int .i64 c.Station, .int .i64 c.Channel].toArray] w fun e w' => ∃ L', SI p r.1 k L' ∧ e = .returned (.int .i64 r.2) ∧ Hp w (jb k L (!m.2)).fp [jb k L' (!r.1.2)] w' := by
  have hfit := zmq h (c := c)
  have keepE : ∀ {n : Int}, r = (m, n) → (gF k.Y (!m.2) c.b).2 = n → n ≠ 0 → Calls Tryz.prog num #[.pointer (some ⟨k.sp, 0, none⟩), .agg [.int .i64 c.Station, .int .i64 c.Channel].toArray] w fun e w' => ∃ L', SI p r.1 k L' ∧ e = .returned (.int .i64 r.2) ∧ Hp w (jb k L (!m.2)).fp [jb k L' (!r.1.2)] w' := by
    intro n hr hc hn; subst hr;refine (hE (by rw [hc]; exact hn)).mono ?_; rintro e w' ⟨rfl, hb⟩; exact ⟨L, h, by rw [hc], (Hp.start hok).below hb⟩
  unfold mF at hr
  cases hg : kb c with
  | false => rw [hg] at hr hfit; exact keepE (Option.some.inj hr).symm (by rw [hfit]; rfl) a7
  | true =>
    rw [hg] at hr hfit; simp only [Bool.not_true, cond_false] at hr hfit
    cases hm : m.2 with
    | false => rw [hm] at hr hfit; rw [← hm]; exact keepE (Option.some.inj hr).symm (by rw [hm]; rw [hfit]; rfl) a7
    | true =>
      rw [hm] at hr hfit; simp only [Bool.not_true, cond_false] at hr hfit
      cases hh : fY p c.Station with
      | false => rw [hh] at hr hfit; rw [← hm]; exact keepE (Option.some.inj hr).symm (by rw [hm, Bool.not_true, hfit]; rfl) a7
      | true =>
        rw [hh] at hr hfit; simp only [Bool.not_true, cond_false] at hr hfit; obtain ⟨P, rfl, hok', hY⟩ := h.pb; have hG := Pb.good hok'; obtain ⟨i, hi, e⟩ := (zdF hY).1 hh; rw [← e, zly hok' hY hi] at hfit; obtain ⟨hC, hb, hd⟩ := h.good hm; (have hch : 2 ≤ c.Channel ∧ c.Channel ≤ 51 := by have := of_decide_eq_true hg; omega); have hn := hY.n; have h512 := hG.n; have hbd : Bd (gd k.Y L) := zor a6; have hinj : ∀ j, j < k.Y.n → cI k.Y.st j = cI k.Y.st i → j = i := fun j hj e' => ze3 hG hY hj hi e'; have hcn : ((c.Channel.toNat : Nat) : Int) = c.Channel := Int.toNat_of_nonneg a6
        -- the domains after the cut
        have hdom : (bif kp then zbE m.1 c.Station c.Channel else mU m.1 c.Station c.Channel) = some (gd k.Y (dx L i (bif kp then ~~~(1#64 <<< c.Channel.toNat) else 1#64 <<< c.Channel.toNat))) := by
          rw [hd, ← e]
          cases kp with
          | true => rw [cond_true, cond_true, zmp hbd.len (fun x hx => (hbd.ch x hx).1), ← zmw h.len hi hinj a6, hcn]
          | false => rw [cond_false, cond_false, zmf hbd.len (fun x hx => (hbd.ch x hx).1), ← zm9 h.len hi hinj a6, hcn]
        rw [hdom, Option.bind_some] at hr; obtain ⟨q, hq, hr⟩ := fu hr; obtain rfl := Option.some.inj hr;refine (hO hm (by rw [hfit])).mono ?_; rintro e' w' ⟨⟨L', c'⟩, hp, rfl, hw⟩; rw [hfit] at hp; dsimp only at hp hw ⊢; rw [Int.toNat_natCast] at hp; (have hlen : (dx L i (bif kp then ~~~(1#64 <<< c.Channel.toNat) else 1#64 <<< c.Channel.toNat)).length = k.Y.n := by unfold dx; rw [List.length_set, h.len]); obtain ⟨h3, h4⟩ := SI.of hok' hY h.tb hlen (hb.le zlL) (mV (hY.ok hG) hlen hp) hf hq;refine ⟨L', h3, rfl, ?_⟩; rw [← h4]; (have hok2 : (Ent.bag ([dI k.sp k.gl k.tp k.Y.n false, eU k.gl k.Y.n L] ++ [Ent.fz k.w0])).ok w := by rw [hm] at hok; exact hok); exact zmW hok2 hw
theorem zkV (h : SI p m k L) (hok : (jb k L (!m.2)).ok w) (htab : Tab w) {fuel : Nat} (hf : 100000 ≤ fuel) (c : GChoice) {r : (List GDomain × Bool) × Int} (hr : mF fuel p m true c = some r) :
    Calls Tryz.prog 119 #[.pointer (some ⟨k.sp, 0, none⟩), .agg [.int .i64 c.Station, .int .i64 c.Channel].toArray] w fun e w' => ∃ L', SI p r.1 k L' ∧ e = .returned (.int .i64 r.2) ∧ Hp w (jb k L (!m.2)).fp [jb k L' (!r.1.2)] w' := by
  have hs := (h.stF hok htab).st; obtain ⟨P, hP, hok', hY⟩ := h.pb; have hix := hY.ixn; refine znk true _ h hok htab hf c hr (fun he => zhi k.sp k.Y L (!m.2) c.b w hs (k.Y.ix512 h.ok hix) he) (fun hm he => ?_); have hok2 := hok; rw [hm] at hok2; (have hn0 : 0 < k.Y.n := by have := zdm (Y := k.Y) hix he; omega); obtain ⟨h1, h2, h3, h4⟩ := h.two hok2 htab hn0; exact zlr k.w0 k.sp k.gl k.tp k.Y L w h.tb h.ok h4 htab h1 h2 h3 h.len (h.good hm).1.calm hix c.b he
theorem zms (h : SI p m k L) (hok : (jb k L (!m.2)).ok w) (htab : Tab w) {fuel : Nat} (hf : 100000 ≤ fuel) (c : GChoice) {r : (List GDomain × Bool) × Int} (hr : mF fuel p m false c = some r) :
    Calls Tryz.prog 122 #[.pointer (some ⟨k.sp, 0, none⟩), .agg [.int .i64 c.Station, .int .i64 c.Channel].toArray] w fun e w' => ∃ L', SI p r.1 k L' ∧ e = .returned (.int .i64 r.2) ∧ Hp w (jb k L (!m.2)).fp [jb k L' (!r.1.2)] w' := by
  have hs := (h.stF hok htab).st; obtain ⟨P, hP, hok', hY⟩ := h.pb; have hix := hY.ixn; refine znk false _ h hok htab hf c hr (fun he => zg0 k.sp k.Y L (!m.2) c.b w hs (k.Y.ix512 h.ok hix) he) (fun hm he => ?_); have hok2 := hok; rw [hm] at hok2; (have hn0 : 0 < k.Y.n := by have := zdm (Y := k.Y) hix he; omega); obtain ⟨h1, h2, h3, h4⟩ := h.two hok2 htab hn0; exact zl2 k.w0 k.sp k.gl k.tp k.Y L w h.tb h.ok h4 htab h1 h2 h3 h.len (h.good hm).1.calm hix c.b he
end
def hv:List Nat→Nat
 | []=>0
 |d :: r=>d+256*hv r
section
variable {B w:World}{M S0:Nat→Prop}{hs:HS}{F:FzB B M S0}{e:Ent}{i j:Nat}
theorem Hp.newAt (hw:Hp B M hs w)(hi:hs[i]?=some e){g:Nat}(hg:e.fp g):M g∨B.heap.size≤g:=hw.new e (List.mem_of_getElem? hi) g hg
theorem Hp.apartF (hw:Hp B M hs w)(hi:hs[i]?=some e)(hj:hs[j]?=some (.fr F))(hij:i<j):∀g,e.fp g→¬F.toFrz.S g:=fun g hg hS=>
 hw.ne hij hi hj hg (dB.2 ⟨hS,hw.newAt hi hg⟩)
end
def zgq (Y:Tb)(L:Ws)(c:Bool)(x:Ch):Bool:=if c=true∨x.ch<2∨51<x.ch then false else if (jd Y x.st).2=false then false else (cI L (jd Y x.st).1.toNat).getLsbD x.ch.toNat
theorem zmL (sp:Nat)(Y:Tb)(L:Ws)(c:Bool)(x:Ch)(w:World)(h:StateAt w sp Y L c)(hok:Y.Ok)(hix:∀j,0≤Y.ix j∧Y.ix j≤Y.n):Calls Tryz.prog 140 #[.pointer (some ⟨sp,0,none⟩), .agg (Ch.cells x).toArray] w fun e w'=>e= .returned (.bool (zgq Y L c x))∧Below w.heap.size w w':=by
 obtain ⟨tp,hsp0,hT⟩:=h.tb;obtain ⟨vL,hsp1,hL⟩:=h.left;obtain ⟨AL,capL,rfl,hLs⟩:=hL.op;have hLn:=h.len;have hcon:=h.con;refine dA (M:=fun _=>False) (hs:=[]) Tryz.func140 rfl rfl rfl (Hp.refl _ _) ?_;simp only [Ch.cells];refine df ?_; (refine cN (Wt.none) rfl rfl (dC) ?_;rintro _ _ ⟨g3,rfl,rfl⟩);refine kA ?_;refine di ?_; (refine cN (Wt.none) rfl rfl (cM rfl rfl rfl (fun w hw=>zcd sp Y L c w (h.kept hw))) ?_;rintro _ _ ⟨rfl,rfl⟩);refine q1Q ?_;refine ef ?_;refine dv rfl rfl rfl (fun h1=>?_) (fun h1=>?_)
 ·have p1:=h1; (try simp only [cT] at p1);refine kl ?_;refine TL.off (Wt.not rfl rfl rfl h1) rfl rfl ?_;refine la ?_;refine TL.run 5 rfl ?_;refine mA ?_;refine jc ?_;refine cV rfl rfl (fun w' hw=>⟨?_,hw.isBelow⟩);exact q5d
 ·have p1:=h1; (try simp only [cT] at p1);refine q0J ?_;refine jV ?_;refine q28 ?_;refine di ?_;refine dv rfl rfl rfl (fun h2=>?_) (fun h2=>?_)
  ·have p2:=h2; (try simp only [cT] at p2);refine q0l ?_;refine q2V ?_;refine mA ?_;refine jc ?_;refine cV rfl rfl (fun w' hw=>⟨?_,hw.isBelow⟩);exact q5d
  ·have p2:=h2; (try simp only [cT] at p2);refine m0 ?_;refine mJ ?_;refine q4y ?_;refine cS ?_;refine T.cond rfl (fun h3=>?_) (fun h3=>?_)
   ·have p3:=h3; (try simp only [cT] at p3);refine jc ?_;refine cV rfl rfl (fun w' hw=>⟨?_,hw.isBelow⟩);exact q5d
   ·have p3:=h3; (try simp only [cT] at p3);refine q2p ?_; (refine da rfl (Wt.none) rfl rfl (cM rfl rfl rfl (fun w hw=>znz tp Y x.st w (hT.later (ig hw.isBelow)) (Y.ix512 hok hix))) ?_;rintro _ _ ⟨rfl,rfl⟩;refine ⟨Sx,?_⟩);refine TS.run 5 rfl ?_;refine ij ?_;refine K.seq (T.seq ?_);refine dF (sN 0 15 (.still 15 .done)) _ a8 (List.Sublist.refl _) ?_;refine gG ?_;refine TS.aq rfl rfl rfl rfl (fun h4=>?_) (fun h4=>?_)
    ·have p4:=h4; (try simp only [cT] at p4); (try (have hat:=zho hix (s:=x.st) b7;obtain ⟨gL,oL,rfl,hc⟩:=hLs a6;have hk:=hc (jd Y x.st).1.toNat a6;simp only [Le] at hk));refine q3J ?_;refine q3J ?_;refine TS.still rfl (Wt.some rfl rfl rfl h4) rfl rfl (Yv.fieldAddr) ?_;refine TS.still rfl (Wt.some rfl rfl rfl h4) rfl rfl (dP rfl rfl hsp1 (fun h=>h)) ?_;refine q3J ?_;refine TS.still rfl (Wt.some rfl rfl rfl h4) rfl rfl (gy rfl rfl rfl (show (jd Y x.st).1=(((jd Y x.st).1.toNat:Nat):Int) from by omega) a6) ?_;refine TS.still rfl (Wt.some rfl rfl rfl h4) rfl rfl (d4 (j:=0) rfl rfl hk rfl rfl (fun h=>h)) ?_;refine TS.still rfl (Wt.some rfl rfl rfl h4) rfl rfl (Yv.fieldAddr) ?_;refine TS.still rfl (Wt.some rfl rfl rfl h4) rfl rfl (cY 0) ?_;refine TS.still rfl (Wt.some rfl rfl rfl h4) rfl rfl (gW x.ch.toNat rfl rfl rfl a6 a6) ?_;refine TS.still rfl (Wt.some rfl rfl rfl h4) rfl rfl (gu (b:=1#64)) ?_;refine q3J ?_;refine cO rfl (eJ rfl rfl h4) ?_;refine q4x ?_;refine cV rfl rfl (fun w' hw=>⟨?_,hw.isBelow⟩);exact ki (by rw [zgq,if_neg (fun h=>by rcases h with h|h|h; (rw [p1] at h;cases h);omega;omega),if_neg (by rw [p4];simp),ziH])
    ·have p4:=h4; (try simp only [cT] at p4); (try (have hat:=zho hix (s:=x.st) b7;obtain ⟨gL,oL,rfl,hc⟩:=hLs a6;have hk:=hc (jd Y x.st).1.toNat a6;simp only [Le] at hk));refine q0w ?_;refine q0w ?_;refine cO rfl (ek rfl rfl h4) ?_;refine q4x ?_;refine cV rfl rfl (fun w' hw=>⟨?_,hw.isBelow⟩);exact ki (by rw [zgq,if_neg (fun h=>by rcases h with h|h|h; (rw [p1] at h;cases h);omega;omega),if_pos b7])
theorem zle (sp:Nat)(Y:Tb)(L:Ws)(w:World)(h:StateAt w sp Y L true):Calls Tryz.prog 139 #[.pointer (some ⟨sp,0,none⟩)] w fun e w'=>e= .returned (.slice none 0 0)∧Below w.heap.size w w':=by
 have hcon:=h.con;refine dA (M:=fun _=>False) (hs:=[]) Tryz.func139 rfl rfl rfl (Hp.refl _ _) ?_;refine jD ?_; (refine cN (Wt.none) rfl rfl (cM rfl rfl rfl (fun w hw=>zcd sp Y L true w (h.kept hw))) ?_;rintro _ _ ⟨rfl,rfl⟩);refine q1Q ?_;refine dM ?_;refine kn rfl rfl ?_;refine jc ?_;refine cV rfl rfl (fun w' hw=>⟨?_,hw.isBelow⟩)
 rfl
def fq (d:List GDomain):List GChoice:=(d.filter fun x=>decide (x.Channels.length=1)).map fun x=>⟨x.Station,cI x.Channels 0⟩
def gH (m:List GDomain×Bool):List GChoice:=bif m.2 then fq m.1 else []
def zgO (m:List GDomain×Bool)(c:GChoice):Bool:=m.2&&m.1.any fun x=>decide (x.Station=c.Station)&&x.Channels.any fun k=>decide (k=c.Channel)
theorem zmn {d:List GDomain}{x:GDomain}:fq (d++[x])=fq d++(if x.Channels.length=1 then [⟨x.Station,cI x.Channels 0⟩] else []):=by
 unfold fq;rw [List.filter_append,List.map_append]
 congr 1
 by_cases h:x.Channels.length=1 <;> simp [h]
theorem zmy {b:BitVec 64}(hb:b≠0#64)(h0:b.getLsbD 0=false):(i8 b≠0↔(de b).length=1)∧(i8 b≠0→de b=[i8 b]):=by
 have key:i8 b≠0→de b=[i8 b]:=fun h=>by
  have h1:=(zhv hb (c:=((i8 b:Nat):Int)) a6).2 rfl
  cases hc:de b with
  |nil=>exact absurd hc (ziL hb)
  |cons j r=>
   have hj:=h1 j (by rw [hc];simp)
   cases r with
   |nil=>rw [show j=i8 b by omega]
   |cons k s=>
    have hk:=h1 k (by rw [hc];simp);have hn:=zef b;rw [hc,List.nodup_cons] at hn;exact absurd (by simp;left;omega) hn.1
 refine ⟨⟨fun h=>by rw [key h];rfl,fun h hz=>?_⟩,key⟩;obtain ⟨j,hj⟩:=List.length_eq_one_iff.1 h
 have hj0:j≠0:=fun e=>by
  (have:j∈de b:=by rw [hj];simp);rw [dR,e,h0] at this
  cases this
 have:=(zhv hb (c:=(j:Int)) a6).1 (fun k hk=>by rw [hj] at hk;simp at hk;omega);omega
theorem znu {Y:Tb}{L:Ws}(hl:L.length=Y.n)(hne:∀i,i<Y.n→cI L i≠0#64)(hb:In51 L):∀k,k≤Y.n→(jg Y L k).map Ch.er=fq ((gd Y L).take k)
 |0,_=>by simp [jg,fq]
 |k+1,h=>by
  have h0:(cI L k).getLsbD 0=false:=by
   cases e:(cI L k).getLsbD 0 with
   |false=>rfl
   |true=>have:=hb k 0 e;omega
  obtain ⟨h1,h2⟩:=zmy (hne k a6) h0;rw [zgo,List.map_append,znu hl hne hb k a6,List.take_succ_eq_append_getElem (by rw [iO];omega),←d9 (by rw [iO];omega),jh a6,zmn]
  congr 1
  show List.map Ch.er (if i8 (cI L k)≠0 then [⟨cI Y.st k,(i8 (cI L k):Int)⟩] else [])=_
  dsimp only;rw [List.length_map];by_cases e:i8 (cI L k)=0
  ·rw [if_neg (by simpa using e),if_neg (fun q=>(h1.2 q) e)];rfl
  ·rw [if_pos e,if_pos (h1.1 e),h2 e];rfl
section
variable {p:GProblem}{m:List GDomain×Bool}{k:SK}{L:Ws}{w:World}{F0:Frz}
theorem SI.ne (h:SI p m k L)(hm:m.2=true):∀i,i<k.Y.n→cI L i≠0#64:=fun i hi=>(h.good hm).1.ne i hi
theorem zmk (hF0:F0.At w)(h:SI p m k L)(hs:StateAt w k.sp k.Y L (!m.2)):Calls Tryz.prog 139 #[.pointer (some ⟨k.sp,0,none⟩)] w fun e w'=>∃(y:Value) (G:Frz),SlC G y 2 ((gH m).map cH)∧e= .returned y∧Fx F0 w G w':=by
 cases hm:m.2 with
 |false=>
  rw [hm] at hs;refine (zle k.sp k.Y L w hs).mono ?_;rintro e w' ⟨rfl,hb⟩;exact ⟨.slice none 0 0,F0,by unfold gH;rw [hm];exact SlC.nil _ 2,rfl,Fx.refl hF0 hb⟩
 |true=>
  rw [hm] at hs;refine (zlv k.sp k.Y L w hs h.ok).mono ?_;rintro e w' ⟨v, -,rfl,hw⟩;obtain ⟨G,h1,h2⟩:=zn8 hF0 hw;refine ⟨v,G,?_,rfl,h1⟩
  have e:gH m=(jg k.Y L k.Y.n).map Ch.er:=by
   unfold gH;rw [hm,cond_true,znu h.len (h.ne hm) (h.good hm).2.1 _ (Nat.le_refl _),(h.good hm).2.2,List.take_of_length_le (by rw [iO];exact Nat.le_refl _)]
  rw [e];exact h2
theorem zn0 (h:SI p m k L)(hs:StateAt w k.sp k.Y L (!m.2))(c:GChoice):Calls Tryz.prog 140 #[.pointer (some ⟨k.sp,0,none⟩), .agg [.int .i64 c.Station, .int .i64 c.Channel].toArray] w fun e w'=>e= .returned (.bool (zgO m c))∧Below w.heap.size w w':=by
 obtain ⟨P,hP,hok',hY⟩:=h.pb;have hG:=Pb.good hok';refine (zmL k.sp k.Y L (!m.2) c.b w hs h.ok hY.ixn).mono ?_;rintro e w' ⟨rfl,hb⟩;refine ⟨?_,hb⟩
 congr 2
 unfold zgq zgO
 cases hm:m.2 with
 |false=>rw [if_pos (.inl rfl)];rfl
 |true=>
  obtain ⟨-,h51,hd⟩:=h.good hm;rw [Bool.true_and,hd]
  have hany:∀q,(gd k.Y L).any (fun x=>decide (x.Station=c.Station)&&x.Channels.any fun k=>decide (k=c.Channel))=q↔((∃ i,i<k.Y.n∧cI k.Y.st i=c.Station∧∃j:Nat,(cI L i).getLsbD j=true∧(j:Int)=c.Channel)↔q=true):=fun q=>by
   have e1:(gd k.Y L).any (fun x=>decide (x.Station=c.Station)&&x.Channels.any fun k=>decide (k=c.Channel))=true↔(∃i,i<k.Y.n∧cI k.Y.st i=c.Station∧∃j:Nat,(cI L i).getLsbD j=true∧(j:Int)=c.Channel):=by
    rw [List.any_eq_true];constructor
    ·rintro ⟨x,hx,hh⟩;obtain ⟨i,hi,rfl⟩:=gp hx;rw [iO] at hi;rw [Bool.and_eq_true,decide_eq_true_eq,List.any_eq_true] at hh;obtain ⟨h1,q,hq,h2⟩:=hh;obtain ⟨j,hj,rfl⟩:=(zgC hi).1 hq;rw [jh hi] at h1;exact ⟨i,hi,h1,j,hj,of_decide_eq_true h2⟩
    ·rintro ⟨i,hi,h1,j,hj,h2⟩;refine ⟨_,eo (by rw [iO];exact hi),?_⟩;rw [Bool.and_eq_true,decide_eq_true_eq,List.any_eq_true];exact ⟨by rw [jh hi];exact h1,(j:Int),(zgC hi).2 ⟨j,hj,rfl⟩,decide_eq_true h2⟩
   rw [←e1]
   cases (gd k.Y L).any (fun x=>decide (x.Station=c.Station)&&x.Channels.any fun k=>decide (k=c.Channel)) <;> cases q <;> simp
  symm
  rw [hany]
  show _↔(if (!true)=true∨c.Channel<2∨51<c.Channel then false else if (jd k.Y c.Station).2=false then false else (cI L (jd k.Y c.Station).1.toNat).getLsbD c.Channel.toNat)=true
  by_cases hc:c.Channel<2∨51<c.Channel
  ·rw [if_pos (.inr hc)];refine ⟨fun ⟨i,hi,_,j,hj,h2⟩=>?_,fun h=>by cases h⟩;have:=h51 i j hj;omega
  ·rw [if_neg (by simpa using hc)]
   cases hh:fY P.er c.Station with
   |true=>
    obtain ⟨i,hi,e⟩:=(zdF hY).1 hh;rw [←e,zly hok' hY hi];simp only [Bool.true_eq_false,if_false,Int.toNat_natCast];constructor
    ·rintro ⟨i',hi',h1,j,hj,h2⟩;rw [ze3 hG hY hi hi' h1.symm,←h2,Int.toNat_natCast];exact hj
    ·intro h;exact ⟨i,hi,rfl,c.Channel.toNat,h,by omega⟩
   |false=>
    (have hno:∀i,i<k.Y.n→cI k.Y.st i≠c.Station:=fun i hi e=>by rw [(zdF hY).2 ⟨i,hi,e⟩] at hh;cases hh);rw [zoC hok' hY hno];simp only [if_true];exact ⟨fun ⟨i,hi,h1,_⟩=>absurd h1 (hno i hi),fun h=>by cases h⟩
end
def jl (v:Value)(l h k:Nat):Value:=match v with
 | .slice a _ cap=>sliced a l h cap k
 |x=>x
theorem SlC.slice {F:Frz}{v:Value}{size:Nat}{cs:List (List Value)}(h:SlC F v size cs){l i:Nat}(hl:l≤i)(hi:i≤cs.length):SlC F (jl v l i size) size ((cs.take i).drop l):=by
 obtain ⟨A,cap,rfl,h2,h3,h4,h5⟩:=h; (have hlen:((cs.take i).drop l).length=i - l:=by rw [List.length_drop,List.length_take];omega);have hmem:∀c∈(cs.take i).drop l,c∈cs:=fun c hc=>List.mem_of_mem_take (List.mem_of_mem_drop hc);refine ⟨if cap=l then A else A.map (·.add (l*size)),cap - l,?_,by omega,by omega,fun c hc=>h4 c (hmem c hc),fun hp=>?_⟩
 ·rw [hlen];rfl
 ·rw [hlen] at hp;obtain ⟨g,off,rfl,hg,hc⟩:=h5 a6;rw [if_neg a6];refine ⟨g,off+l*size,by simp [mp],hg,fun j hj=>?_⟩;rw [hlen] at hj;have h6:=hc (l+j) a6
  have e:cI ((cs.take i).drop l) j=cI cs (l+j):=by
   rw [d9 a6,d9 a6,List.getElem_drop,List.getElem_take]
  rw [e,show off+l*size+j*size=off+(l+j) *size by rw [Nat.add_mul];omega];exact h6
theorem SlD.slice {α:Type}[Inhabited α]{rep:Frz→List Value→α→Prop}{F:Frz}{v:Value}{size:Nat}{cs:List (List Value)}{xs:List α}(h:SlD rep F v size cs xs){l i:Nat}(hl:l≤i)(hi:i≤xs.length):SlD rep F (jl v l i size) size ((cs.take i).drop l) ((xs.take i).drop l):=by
 refine ⟨h.1.slice hl (by rw [h.2.1];exact hi),?_,fun j hj=>?_⟩
 ·rw [List.length_drop,List.length_take,List.length_drop,List.length_take,h.2.1]
 ·have hj':=hj;rw [List.length_drop,List.length_take] at hj'
  have e:cI ((cs.take i).drop l) j=cI cs (l+j):=by
   rw [d9 (by rw [List.length_drop,List.length_take,h.2.1];omega),d9 (by rw [h.2.1];omega),List.getElem_drop,List.getElem_take]
  have e':cI ((xs.take i).drop l) j=cI xs (l+j):=by
   rw [d9 hj,d9 a6,List.getElem_drop,List.getElem_take]
  rw [e,e'];exact h.2.2 _ a6
section
variable {F:Frz}{v:Value}{size:Nat}
theorem SlC.sliceh {α:Type}{enc:α→List Value}{xs:List α}(h:SlC F v size (xs.map enc)){i:Nat}(hi:i≤xs.length):SlC F (jl v 0 i size) size ((xs.take i).map enc):=by
 have:=h.slice (l:=0) (i:=i) (Nat.zero_le _) (by rw [List.length_map];exact hi)
 rwa [List.drop_zero,←List.map_take] at this
variable {α:Type}[Inhabited α]{rep:Frz→List Value→α→Prop}{cs:List (List Value)}{xs:List α}
theorem SlD.sliceh (h:SlD rep F v size cs xs){i:Nat}(hi:i≤xs.length):SlD rep F (jl v 0 i size) size (cs.take i) (xs.take i):=by
 have:=h.slice (l:=0) (Nat.zero_le _) hi
 rwa [List.drop_zero,List.drop_zero] at this
end
section
variable {P:Program}{n:Nat}{B:World}{M:Nat→Prop}{fs:dZ}{hs:HS}{o:Oper}{v:Value}
theorem TySl.elem {t e k:Nat}(h:TySl P t e k):P.underlying t=some (.slice (P.elem t))∧∀w,(sizeOf (P.elem t)).run P w= .ok k w:=by
 have h:=h.h;unfold zfy at h
 split at h
 ·rename_i el hU; (have he:P.elem t=el:=by unfold Program.elem;rw [hU])
  cases hi':P.info? el with
  |none=>rw [hi'] at h;cases h
  |some inf=>
   rw [hi'] at h
   cases h
   refine ⟨by rw [he];exact hU,fun w=>?_⟩;rw [he];simp [sizeOf,typeInfo,hi']
 ·cases h
theorem kN {F:Frz}{t e k i m:Nat}{z:Int}{q:IntKind}{cs:List (List Value)}{x y:Operand}[hT:TySl P t e k](ho:o.op= .slice t x none (some y) none)(hx:ev fs x=some v)(hy:ev fs y=some (.int q z))(h:SlC F v k cs)(hm:cs.length=m)(hz:z=(i:Int))(hi:i≤m):Yv P n B M fs hs o (jl v 0 i k):=fun a w ha _=>by
 subst hm hz;obtain ⟨A,cap,rfl,h2,h3,h4,h5⟩:=h;unfold execOp;have:=run_slice_h (P:=P) w t A cs.length cap hT.elem.1 q (i:Int) a6 a6;simp [ho,ha.ev hx,ha.ev hy,run_sliceAt_slice w t _ _ _ _ hT.elem.1,this,hT.elem.2,jl]
end
structure FxM (F:Frz) (w:World) (M:Nat→Prop) (G:Frz) (es:HS) (w':World):Prop where
 le:F.Le G
 at_:G.At w'
 hp:Hp w M es w'
 new:∀g,G.S g→F.S g∨M g∨w.heap.size≤g
 ap:∀e∈es,∀g,e.fp g→¬G.S g
theorem zhz:dG []=fun _=>False:=by funext g;unfold dG;simp
section
variable {B w w':World}{M S0:Nat→Prop}{hs:HS}{F:FzB B M S0}
theorem dD {F0:Frz}{es:HS}{G:FzB B M S0}(hw:Hp B M (es++[Ent.fr G]) w')(hS:∀g,S0 g→F0.S g)(hle:F0.Le G.toFrz):FxM F0 B M G.toFrz es w':=by
 have h1:=hw;have h2:=List.pairwise_append.1 h1.apart;refine ⟨hle,hw.fr (i:=es.length) b2,hw.sub (List.sublist_append_left _ _),fun g hg=>(G.new g hg).imp (hS g) id,fun e he g hg hS=>?_⟩;refine h2.2.2 e he (.fr G) b2 g hg (dB.2 ⟨hS,?_⟩);exact h1.new e (List.mem_append_left _ he) g hg
theorem FxM.up {M':Nat→Prop}{G:Frz}{es:HS}(h:FxM F.toFrz w M' G es w')(hw:Hp B M hs w)(hM:∀g,M' g→M g∨B.heap.size≤g):∃G':FzB B M S0,G'.toFrz=G:=by
 refine ⟨⟨G,fun g hg hb hm=>?_,fun g hg=>?_⟩,rfl⟩
 ·rcases h.new g hg with h1|h1|h1
  ·rw [(h.le g h1).2,F.base g h1 hb hm]
  ·rcases hM g h1 with h2|h2
   ·exact absurd h2 hm
   ·omega
  ·have:=hw.size;omega
 ·rcases h.new g hg with h1|h1|h1
  ·exact F.new g h1
  ·exact .inr (hM g h1)
  ·have:=hw.size;exact .inr (.inr a6)
end
section
variable {P:Program}{n:Nat}{B D:World}{M S0:Nat→Prop}{fs:dZ}{hs:HS}{o:Oper}{v:Value}
theorem fC (idx : List Nat) (bs rest : HS) {ι : Type} {F : FzB B M S0} {φ : ι → Frz → Prop} {val : ι → Value} {es : ι → HS} {c : Operand} {xs : Array Operand} {ts : Array TypeId} {f : FuncId} {fst caps : Array Value} {vs : List Value} [hE : Enters P f]
    (ho : o.op = .call { callee := .value c, args := xs, argTypes := ts }) (hc : ev fs c = some (.func (.func f) fst caps)) (hv : evs fs xs.toList = some vs) (hp : mB hs idx = some (bs ++ .fr F :: rest)) (hn : idx.Nodup)
    (C : ∀ w, Hp B M hs w → Hp B M (bs ++ .fr F :: rest) w → F.toFrz.At w → Calls P f (fst.toList ++ vs ++ caps.toList).toArray w (fun e w' => ∃ y G, φ y G ∧ e = .returned (val y) ∧ FxM F.toFrz w (dG bs) G (es y) w')) :
    Ew P n B M fs hs o (fun v hs'' => ∃ y, ∃ G : FzB B M S0, F.toFrz.Le G.toFrz ∧ φ y G.toFrz ∧ v = val y ∧ hs'' = es y ++ .fr G :: rest) :=
  Ew.call ho hc hv fun w hw => by
    have hw2 := hw.pick hp hn; have hF : F.toFrz.At w := hw2.fr (i := bs.length) b2; refine (C w hw hw2 hF).mono fun e w' ⟨y, G, hy, he, hx⟩ => ?_; have hM : ∀ g, dG bs g → M g ∨ B.heap.size ≤ g := fun g ⟨e, he, hg⟩ => hw2.new e (List.mem_append_left _ he) g hg; obtain ⟨G', rfl⟩ := hx.up hw2 hM; refine ⟨val y, es y ++ .fr G' :: rest, he, Kp.only hx.hp.only (fun g hg c => ?_), ?_, y, G', hx.le, hy, rfl, rfl⟩
    · obtain ⟨e, h1, h2⟩ := hg; exact e.nd (hw2.own e (List.mem_append_left _ h1)) g h2 c
    · (have h3 : Hp B M ((bs ++ [.fr F]) ++ rest) w := by rw [List.append_assoc]; exact hw2); have h4 := iW (es := bs ++ [.fr F]) (es' := es y ++ [.fr G']) h3 hx.hp.only (fun g _ ⟨e, he, hg⟩ => ⟨e, List.mem_append_left _ he, hg⟩) (fun e he => ?_) (fun e he g hg => ?_) ?_
      · rw [List.append_assoc] at h4; exact h4
      · rcases List.mem_append.1 he with he | he
        · exact hx.hp.own e he
        · simp at he; subst he; exact eW.2 (fun g hg => hx.at_ g hg.1)
      · rcases List.mem_append.1 he with he | he
        · rcases hx.hp.new e he g hg with ⟨f, hf, hfg⟩ | h5
          · exact .inl ⟨f, List.mem_append_left _ hf, hfg⟩
          · exact .inr h5
        · simp at he; subst he; have h6 := dB.1 hg; rcases hx.new g h6.1 with h7 | ⟨f, hf, hfg⟩ | h7
          · exact .inl ⟨.fr F, by simp, dB.2 ⟨h7, h6.2⟩⟩
          · exact .inl ⟨f, List.mem_append_left _ hf, hfg⟩
          · exact .inr h7
      · exact List.pairwise_append.2 ⟨hx.hp.apart, List.pairwise_singleton _ _, fun e he f hf g hg hfg => by
          simp at hf; subst hf
          exact hx.ap e he g hg (dB.1 hfg).1⟩
theorem fQ (idx : List Nat) (bs rest : HS) {ι : Type} {F : FzB B M S0} {φ : ι → Prop} {val : ι → Value} {es : ι → HS} {c : Operand} {xs : Array Operand} {ts : Array TypeId} {f : FuncId} {fst caps : Array Value} {vs : List Value} [hE : Enters P f]
    (ho : o.op = .call { callee := .value c, args := xs, argTypes := ts }) (hc : ev fs c = some (.func (.func f) fst caps)) (hv : evs fs xs.toList = some vs) (hp : mB hs idx = some (bs ++ .fr F :: rest)) (hn : idx.Nodup)
    (C : ∀ w, Hp B M hs w → Hp B M (bs ++ .fr F :: rest) w → F.toFrz.At w → Calls P f (fst.toList ++ vs ++ caps.toList).toArray w (fun e w' => ∃ y, φ y ∧ e = .returned (val y) ∧ FxM F.toFrz w (dG bs) F.toFrz (es y) w')) :
    Ew P n B M fs hs o (fun v hs'' => ∃ y, φ y ∧ v = val y ∧ hs'' = es y ++ .fr F :: rest) :=
  Ew.call ho hc hv fun w hw => by
    have hw2 := hw.pick hp hn; have hF : F.toFrz.At w := hw2.fr (i := bs.length) b2; refine (C w hw hw2 hF).mono fun e w' ⟨y, hy, he, hx⟩ => ?_; refine ⟨val y, es y ++ .fr F :: rest, he, Kp.only hx.hp.only (fun g hg c => ?_), ?_, y, hy, rfl, rfl⟩
    · obtain ⟨e, h1, h2⟩ := hg; exact e.nd (hw2.own e (List.mem_append_left _ h1)) g h2 c
    · exact iW (es := bs) (es' := es y) hw2 hx.hp.only (fun g _ ⟨e, he, hg⟩ => ⟨e, he, hg⟩) hx.hp.own (fun e he g hg => hx.hp.new e he g hg) hx.hp.apart
end
section
variable {w:World}{bs:HS}{F:Frz}
theorem lJ (hF:F.At w)(h:Hp w (dG bs) bs w)(hA:∀g,dG bs g→¬F.S g):∃(S0:Nat→Prop) (G:FzB w (dG bs) S0),G.toFrz=F∧(∀g,S0 g→F.S g)∧Hp w (dG bs) (bs++[Ent.fr G]) w:=⟨F.S,iw hF _,rfl,fun _ h=>h,li hF h hA⟩
variable {B:World}{M S0:Nat→Prop}{G:FzB B M S0}{rest:HS}
theorem Hp.takes (h:Hp B M (bs++ .fr G :: rest) w):Hp w (dG bs) bs w∧∀g,dG bs g→¬G.toFrz.S g:=by
 have h1:Hp B M bs w:=h.sub (List.sublist_append_left _ _);refine ⟨iq h1.own h1.apart,fun g ⟨e,he,hg⟩ hS=>?_⟩;exact (List.pairwise_append.1 h.apart).2.2 e he (.fr G) b2 g hg (dB.2 ⟨hS,h1.new e he g hg⟩)
theorem Hp.takes0 (h:Hp B M (bs++ .fr G :: rest) w)(h0:¬M 0)(hB:0<B.heap.size):¬dG bs 0:=fun ⟨e,he,hg⟩=>by
 rcases h.new e (List.mem_append_left _ he) 0 hg with h1|h1
 ·exact h0 h1
 ·omega
end
theorem Tab.pos {w:World}(h:Tab w):0<w.heap.size:=by
 have h0:=h 0 a7;unfold World.cell? at h0;rcases Nat.eq_zero_or_pos w.heap.size with e|e
 ·rw [Array.getElem?_eq_none a6] at h0;simp at h0
 ·exact e
abbrev st2L (k:SK)(v:Value)(L:Ws)(b:Bool):HS:=[.row k.sp 145 [.pointer (some ⟨k.tp,0,none⟩),v, .bool b], .sl v 98 1 k.Y.n (Ws.cells L)]
abbrev eC (k:SK)(v:Value)(L:Ws)(b:Bool):Ent:= .bag (st2L k v L b)
def TbF (F:Frz)(k:SK):Prop:=∀g,jF k.w0 g→F.S g∧F.w.heap[g]?=k.w0.heap[g]?
theorem TbF.mono {F G:Frz}{k:SK}(h:TbF F k)(hle:F.Le G):TbF G k:=fun g hg=>⟨(hle g (h g hg).1).1,(hle g (h g hg).1).2.trans (h g hg).2⟩
theorem TbF.fz {F:Frz}{k:SK}{w:World}(h:TbF F k)(hF:F.At w):Fz k.w0 w:=fun g hg=>(hF g (h g hg).1).trans (h g hg).2
theorem zf8:∀L:Ws,L.flatMap Le=Ws.cells L
 | []=>rfl
 |b :: r=>by
  rw [List.flatMap_cons,zf8 r];rfl
section
variable {p:GProblem}{m:List GDomain×Bool}{k:SK}{v:Value}{L:Ws}{b:Bool}{w w':World}{F F0:Frz}
theorem SI.gl (h:SI p m k L)(gl:GL):SI p m { k with gl:=gl } L:=⟨h.pb,h.tb,h.len,h.good,h.bad⟩
theorem SI.sp (h:SI p m k L)(sp:Nat):SI p m { k with sp:=sp } L:=⟨h.pb,h.tb,h.len,h.good,h.bad⟩
theorem SI.n512 (h:SI p m k L):k.Y.n≤512:=h.ok.n
theorem zcD {g:Nat}{t:TypeId}{l:List Value}{i:Nat}{x:Value}(h:(Ent.row g t l).ok w)(hx:l[i]?=some x):w.cell? ⟨g,i,none⟩=some x:=by rw [jM (cW.1 h)];exact hx
theorem zgA (h:SI p m k L)(hok:(eC k v L b).ok w)(hf:Fz k.w0 w)(htab:Tab w):StateAt w k.sp k.Y L b:=by
 have h1:=(dh.1 hok).1;have hr:=h1 (.row k.sp 145 [.pointer (some ⟨k.tp,0,none⟩),v, .bool b]) b2;have hl:=cU.1 (h1 (.sl v 98 1 k.Y.n (Ws.cells L)) b2);refine ⟨htab,⟨k.tp,zcD hr rfl,h.tb.later hf⟩,⟨v,zcD hr rfl,?_⟩,h.len,zcD hr rfl⟩;refine SlOf.own (enc:=Le) (size:=1) (fun _=>rfl) (xs:=L) (e:=98) (k:=k.Y.n) ?_ h.len.symm;rw [zf8];exact hl
theorem zou (h:SI p m k L)(hok:(eC k v L b).ok w)(hn:0<k.Y.n):∃gl:GL,v=sG gl k.Y.n:=by
 have h1:=(dh.1 hok).1;have hl:=cU.1 (h1 (.sl v 98 1 k.Y.n (Ws.cells L)) b2);rcases hl.2 with ⟨_,h0⟩|⟨g,cap,cur,rfl,_⟩
 ·omega
 ·exact ⟨⟨g,cap⟩,rfl⟩
theorem zob {gl:GL}(hok:(eC k (sG gl k.Y.n) L b).ok w)(hf:Fz k.w0 w)(hap:∀g,(eC k (sG gl k.Y.n) L b).fp g→¬jF k.w0 g):(jb { k with gl:=gl } L b).ok w:=by
 obtain ⟨h1,h2⟩:=dh.1 hok;refine dh.2 ⟨fun e he=>?_,?_⟩
 ·simp at he;rcases he with rfl|rfl|rfl
  ·exact h1 _ b2
  ·exact h1 _ b2
  ·exact fo.2 hf
 ·show ([dI k.sp gl k.tp k.Y.n b,eU gl k.Y.n L]++[Ent.fz k.w0]).Pairwise _
  refine List.pairwise_append.2 ⟨h2,List.pairwise_singleton _ _,fun e he f hf' g hg hfg=>?_⟩;simp only [List.mem_singleton] at hf';subst hf';exact hap g (dc.2 ⟨e,he,hg⟩) (eR.1 hfg)
theorem zop {gl:GL}{L':Ws}{b':Bool}(hf:Fz k.w0 w)(h:Hp w (jb { k with gl:=gl } L b).fp [jb { k with gl:=gl } L' b'] w'):Hp w (eC k (sG gl k.Y.n) L b).fp [eC k (sG gl k.Y.n) L' b'] w':=by
 have hok:=h.own (jb { k with gl:=gl } L' b') b2;obtain ⟨h1,h2⟩:=dh.1 hok;have h3:([dI k.sp gl k.tp k.Y.n b',eU gl k.Y.n L']++[Ent.fz k.w0]).Pairwise fun e f=>∀g,e.fp g→¬f.fp g:=h2;obtain ⟨a1,a2,a3⟩:=List.pairwise_append.1 h3;have hf':Fz k.w0 w':=fo.1 (h1 (.fz k.w0) b2);have hsp:∀g,(eC k (sG gl k.Y.n) L' b').fp g↔∃e∈[dI k.sp gl k.tp k.Y.n b',eU gl k.Y.n L'],e.fp g:=fun g=>dc;have hfp:∀g,(eC k (sG gl k.Y.n) L b).fp g↔∃e∈[dI k.sp gl k.tp k.Y.n b,eU gl k.Y.n L],e.fp g:=fun g=>dc
 have hE:∀g,(jb { k with gl:=gl } L b).fp g↔(eC k (sG gl k.Y.n) L b).fp g∨jF k.w0 g:=fun g=>by
  rw [hfp,dc];simp only [List.mem_cons,List.not_mem_nil,or_false,exists_eq_or_imp,exists_eq_left,eR];exact or_assoc.symm
 refine ⟨h.os,h.tape,h.output,h.size,fun g hg hn=>?_,fun e he=>?_,fun e he g hg=>?_,List.pairwise_singleton _ _⟩
 ·by_cases hc:jF k.w0 g
  ·rw [hf' g hc,hf g hc]
  ·exact h.base g hg (fun hh=>((hE g).1 hh).elim hn hc)
 ·simp at he;subst he;exact q5p
 ·simp at he;subst he;have hg':=(hsp g).1 hg;obtain ⟨x,hx,hxg⟩:=hg';rcases h.new (jb { k with gl:=gl } L' b') b2 g (dc.2 ⟨x,by simp at hx ⊢;rcases hx with h|h <;> simp [h],hxg⟩) with h4|h4
  ·rcases (hE g).1 h4 with h5|h5
   ·exact .inl h5
   ·exact absurd (eR.2 h5) (a3 x hx (.fz k.w0) b2 g hxg)
  ·exact .inr h4
theorem zeN (h:SI p m k L)(tf:TbF F k)(hok:(eC k v L (!m.2)).ok w)(hF:F.At w)(htab:Tab w):Calls Tryz.prog 118 #[.pointer (some ⟨k.sp,0,none⟩)] w fun e w'=>e= .returned (.bool (!m.2))∧Below w.heap.size w w':=ziK (zgA h hok (tf.fz hF) htab)
theorem zkm (h:SI p m k L)(tf:TbF F k)(hok:(eC k v L (!m.2)).ok w)(hF:F.At w)(htab:Tab w):Calls Tryz.prog 98 #[.pointer (some ⟨k.sp,0,none⟩)] w fun e w'=>∃(y:Value×List (List Value)) (G:Frz),SlD cK G y.1 2 y.2 m.1∧e= .returned y.1∧Fx F w G w':=zjD hF h (zgA h hok (tf.fz hF) htab)
theorem zmC (h:SI p m k L)(tf:TbF F k)(hok:(eC k v L (!m.2)).ok w)(hF:F.At w)(htab:Tab w):Calls Tryz.prog 139 #[.pointer (some ⟨k.sp,0,none⟩)] w fun e w'=>∃(y:Value) (G:Frz),SlC G y 2 ((gH m).map cH)∧e= .returned y∧Fx F w G w':=zmk hF h (zgA h hok (tf.fz hF) htab)
theorem zoz (h:SI p m k L)(tf:TbF F k)(hok:(eC k v L (!m.2)).ok w)(hF:F.At w)(htab:Tab w)(c:GChoice):Calls Tryz.prog 140 #[.pointer (some ⟨k.sp,0,none⟩), .agg [.int .i64 c.Station, .int .i64 c.Channel].toArray] w fun e w'=>e= .returned (.bool (zgO m c))∧Below w.heap.size w w':=zn0 h (zgA h hok (tf.fz hF) htab) c
theorem zns (kp : Bool) (num : FuncId) (h : SI p m k L) (tf : TbF F k) (hok : (eC k v L (!m.2)).ok w) (hF : F.At w) (hap : ∀ g, (eC k v L (!m.2)).fp g → ¬ F.S g) (htab : Tab w) {fuel : Nat} (c : GChoice) {r : (List GDomain × Bool) × Int} (hr : mF fuel p m kp c = some r)
    (hE : (gF k.Y (!m.2) c.b).2 ≠ 0 → Calls Tryz.prog num #[.pointer (some ⟨k.sp, 0, none⟩), .agg (Ch.cells c.b).toArray] w fun e w' => e = .returned (.int .i64 (gF k.Y (!m.2) c.b).2) ∧ Below w.heap.size w w')
    (hO : ∀ gl : GL, SI p m { k with gl := gl } L → (jb { k with gl := gl } L (!m.2)).ok w → Calls Tryz.prog num #[.pointer (some ⟨k.sp, 0, none⟩), .agg [.int .i64 c.Station, .int .i64 c.Channel].toArray] w fun e w' => ∃ L', SI p r.1 { k with gl := gl } L' ∧ e = .returned (.int .i64 r.2) ∧ Hp w (jb { k with gl := gl } L (!m.2)).fp [jb { k with gl := gl } L' (!r.1.2)] w') :
    Calls Tryz.prog num #[.pointer (some ⟨k.sp, 0, none⟩), .agg [.int .i64 c.Station, .int .i64 c.Channel].toArray] w fun e w' => ∃ L', SI p r.1 k L' ∧ e = .returned (.int .i64 r.2) ∧ Hp w (eC k v L (!m.2)).fp [eC k v L' (!r.1.2)] w' := by
  have hfit := zmq h (c := c)
  have keepE : ∀ {n : Int}, r = (m, n) → (gF k.Y (!m.2) c.b).2 = n → n ≠ 0 → Calls Tryz.prog num #[.pointer (some ⟨k.sp, 0, none⟩), .agg [.int .i64 c.Station, .int .i64 c.Channel].toArray] w fun e w' => ∃ L', SI p r.1 k L' ∧ e = .returned (.int .i64 r.2) ∧ Hp w (eC k v L (!m.2)).fp [eC k v L' (!r.1.2)] w' := by
    intro n hr hc hn; subst hr;refine (hE (by rw [hc]; exact hn)).mono ?_; rintro e w' ⟨rfl, hb⟩; exact ⟨L, h, by rw [hc], (Hp.start hok).below hb⟩
  by_cases hn : 0 < k.Y.n
  · obtain ⟨gl, rfl⟩ := zou h hok hn;refine (hO gl (h.gl gl) (zob hok (tf.fz hF) (fun g hg hc => hap g hg (tf g hc).1))).mono ?_; rintro e w' ⟨L', h1, rfl, h2⟩; exact ⟨L', ⟨h1.pb, h1.tb, h1.len, h1.good, h1.bad⟩, rfl, zop (tf.fz hF) h2⟩
  · unfold mF at hr
    cases hg : kb c with
    | false => rw [hg] at hr hfit; exact keepE (Option.some.inj hr).symm (by rw [hfit]; rfl) a7
    | true =>
      rw [hg] at hr hfit; simp only [Bool.not_true, cond_false] at hr hfit
      cases hm : m.2 with
      | false => rw [hm] at hr hfit; rw [← hm]; exact keepE (Option.some.inj hr).symm (by rw [hm]; rw [hfit]; rfl) a7
      | true =>
        rw [hm] at hr hfit; simp only [Bool.not_true, cond_false] at hr hfit
        cases hh : fY p c.Station with
        | false => rw [hh] at hr hfit; rw [← hm]; exact keepE (Option.some.inj hr).symm (by rw [hm, Bool.not_true, hfit]; rfl) a7
        | true =>
          obtain ⟨P, rfl, _, hY⟩ := h.pb; obtain ⟨i, hi, _⟩ := (zdF hY).1 hh; omega
theorem zlt (h : SI p m k L) (tf : TbF F k) (hok : (eC k v L (!m.2)).ok w) (hF : F.At w) (hap : ∀ g, (eC k v L (!m.2)).fp g → ¬ F.S g) (htab : Tab w) {fuel : Nat} (hf : 100000 ≤ fuel) (c : GChoice) {r : (List GDomain × Bool) × Int} (hr : mF fuel p m true c = some r) :
    Calls Tryz.prog 119 #[.pointer (some ⟨k.sp, 0, none⟩), .agg [.int .i64 c.Station, .int .i64 c.Channel].toArray] w fun e w' => ∃ L', SI p r.1 k L' ∧ e = .returned (.int .i64 r.2) ∧ Hp w (eC k v L (!m.2)).fp [eC k v L' (!r.1.2)] w' := by
  obtain ⟨P, hP, hok', hY⟩ := h.pb; exact zns true _ h tf hok hF hap htab c hr (fun he => zhi k.sp k.Y L (!m.2) c.b w (zgA h hok (tf.fz hF) htab) (k.Y.ix512 h.ok hY.ixn) he) (fun gl h1 h2 => zkV h1 h2 htab hf c hr)
theorem zkY (h : SI p m k L) (tf : TbF F k) (hok : (eC k v L (!m.2)).ok w) (hF : F.At w) (hap : ∀ g, (eC k v L (!m.2)).fp g → ¬ F.S g) (htab : Tab w) {fuel : Nat} (hf : 100000 ≤ fuel) (c : GChoice) {r : (List GDomain × Bool) × Int} (hr : mF fuel p m false c = some r) :
    Calls Tryz.prog 122 #[.pointer (some ⟨k.sp, 0, none⟩), .agg [.int .i64 c.Station, .int .i64 c.Channel].toArray] w fun e w' => ∃ L', SI p r.1 k L' ∧ e = .returned (.int .i64 r.2) ∧ Hp w (eC k v L (!m.2)).fp [eC k v L' (!r.1.2)] w' := by
  obtain ⟨P, hP, hok', hY⟩ := h.pb; exact zns false _ h tf hok hF hap htab c hr (fun he => zg0 k.sp k.Y L (!m.2) c.b w (zgA h hok (tf.fz hF) htab) (k.Y.ix512 h.ok hY.ixn) he) (fun gl h1 h2 => zms h1 h2 htab hf c hr)
theorem zon (hF:F0.At w)(h:SI p m k L)(hw:Hp w (fun _=>False) [jb k L b] w'):∃G,TbF G k∧FxM F0 w (dG []) G [eC k (sG k.gl k.Y.n) L b] w':=by
 have hok:=hw.own (jb k L b) b2;obtain ⟨h1,h2⟩:=dh.1 hok;have h3:([dI k.sp k.gl k.tp k.Y.n b,eU k.gl k.Y.n L]++[Ent.fz k.w0]).Pairwise fun e f=>∀g,e.fp g→¬f.fp g:=h2;obtain ⟨a1,a2,a3⟩:=List.pairwise_append.1 h3;have hf':Fz k.w0 w':=fo.1 (h1 (.fz k.w0) b2);have hb:=hw.isBelow;have hF':=hF.below hb;have hnew:∀g,jF k.w0 g→w.heap.size≤g:=fun g hg=>(hw.new (jb k L b) b2 g (dc.2 ⟨.fz k.w0,by simp,eR.2 hg⟩)).elim (fun h=>h.elim) id
 have hnew2:∀g,(eC k (sG k.gl k.Y.n) L b).fp g→w.heap.size≤g:=fun g hg=>by
  obtain ⟨e,he,hg⟩:=dc.1 hg;exact (hw.new (jb k L b) b2 g (dc.2 ⟨e,by simp at he ⊢;rcases he with h|h <;> simp [h],hg⟩)).elim (fun h=>h.elim) id
 refine ⟨⟨fun g=>F0.S g∨jF k.w0 g,w',fun g hg=>?_⟩,fun g hg=>⟨.inr hg,hf' g hg⟩,⟨fun g hg=>⟨.inl hg,hF' g hg⟩,fun g _=>rfl,?_,fun g hg=>hg.imp id (fun h=> .inr (hnew g h)),fun e he g hg hS=>?_⟩⟩
 ·rcases hg with hg|hg
  ·exact hF'.cb hg
  ·obtain ⟨cs,t,q,e⟩:=hg;exact ⟨cs,t,q,(hf' g ⟨cs,t,q,e⟩).trans e⟩
 ·rw [zhz];refine ⟨hw.os,hw.tape,hw.output,hw.size,hw.base,fun e he=>?_,fun e he g hg=>?_,List.pairwise_singleton _ _⟩
  ·simp at he;subst he;exact q5p
  ·simp at he;subst he;exact .inr (hnew2 g hg)
 ·simp at he;subst he;rcases hS with hS|hS
  ·have:=(hF.cb hS).lt;have:=hnew2 g hg;omega
  ·obtain ⟨e,he,hg⟩:=dc.1 hg;exact a3 e he (.fz k.w0) b2 g hg (eR.2 hS)
theorem zoP {vd vp vl vc : Value} {cd : List (List Value)} (hF0 : F0.At w) (h : PbF F0 vd cd vp vl vc p) (htab : Tab w) (hv : eN p = true) {fuel : Nat} (hf : 100000 ≤ fuel) {r : List GDomain × Bool} (hr : za8 fuel p p.Domains = some r) :
    Calls Tryz.prog 67 #[.agg [vd, vp, vl, vc].toArray] w fun e w' => ∃ (y : SK × Value × Ws) (G : Frz), (SI p r y.1 y.2.2 ∧ TbF G y.1) ∧ e = .returned (.tuple #[.pointer (some ⟨y.1.sp, 0, none⟩), .int .i64 0]) ∧ FxM F0 w (dG []) G [eC y.1 y.2.1 y.2.2 (!r.2)] w' := by
  refine (zoX hF0 h htab hv hf hr).mono ?_; rintro e w' ⟨⟨k, L⟩, hs, rfl, hw⟩; obtain ⟨G, h1, h2⟩ := zon hF0 hs hw; exact ⟨(k, sG k.gl k.Y.n, L), G, ⟨hs, h1⟩, rfl, h2⟩
theorem zoa (h : SI p m k L) (tf : TbF F k) (hok : (eC k v L (!m.2)).ok w) (hF : F.At w) (htab : Tab w) : Calls Tryz.prog 117 #[.pointer (some ⟨k.sp, 0, none⟩)] w fun e w' => ∃ (y : SK × Value) (G : Frz), (SI p m y.1 L ∧ TbF G y.1) ∧ e = .returned (.pointer (some ⟨y.1.sp, 0, none⟩)) ∧ FxM F w (dG []) G [eC y.1 y.2 L (!m.2)] w' := by
  have hs := zgA h hok (tf.fz hF) htab; have h1 := (dh.1 hok).1; have hr := h1 (.row k.sp 145 [.pointer (some ⟨k.tp, 0, none⟩), v, .bool (!m.2)]) b2; have hl := h1 (.sl v 98 1 k.Y.n (Ws.cells L)) b2; have hn := h.n512
  -- what is there is frozen for the time of the call
  have hC : SlC (Frz.all w) v 1 (L.map Le) := by
    have hl2 := hl; rw [← zf8] at hl2; exact (i1 (G := Frz.all w) hl2 rfl (fun g _ hc => hc)).toF h.len.symm (fun _ => rfl)
  haveI := hC.oneC; refine Calls.mono (R := fun e w' => ∃ (y : Nat × Value), OneC y.2 ∧ e = .returned (.pointer (some ⟨y.1, 0, none⟩)) ∧ Hp w (fun _ => False) [.row y.1 145 [.pointer (some ⟨k.tp, 0, none⟩), y.2, .bool (!m.2)], .sl y.2 98 1 k.Y.n (Ws.cells L)] w') ?_ ?_
  · obtain ⟨S0, F1, hF1, hS0, hp0⟩ := fk (jv w); rw [← hF1] at hC;refine dA (M := fun _ => False) (hs := [.fr F1]) Tryz.func117 rfl rfl rfl hp0 ?_;refine jD ?_;refine c8 (cM rfl rfl rfl (fun w' hw => zcd k.sp k.Y L (!m.2) w' (hs.kept hw))) ?_; rintro _ _ ⟨rfl, rfl⟩;refine nu ?_;refine ke ?_;refine dF (sN 0 8 (sN 9 4 (.eff 8 (.still 13 (.eff 14 (.still 15 .done)))))) [.fr F1] a8 (List.Sublist.refl _) ?_;refine jn ?_;refine cO rfl (dP rfl rfl (zcD (i := 0) hr rfl) (fun h => h)) ?_;refine jn ?_;refine cO rfl (dP rfl rfl (zcD (i := 1) hr rfl) (fun h => h)) ?_;refine jn ?_;refine cO rfl (dP rfl rfl (zcD (i := 2) hr rfl) (fun h => h)) ?_;refine TS.slNil 98 1 ?_;refine dw ?_;refine cR rfl (Wt.none) rfl rfl (lD 0 1 (F := F1) (k' := k.Y.n) (l' := Ws.cells L) (zhD (enc := Le) (fun x => inferInstanceAs (OneCs [U x]))) rfl rfl rfl rfl rfl hC (by rw [List.length_map, h.len]; omega) (by rw [List.nil_append, ← List.flatMap_def, zf8]) a6 a7) ?_; rintro v' _ ⟨hv', rfl⟩; refine ⟨fun w hw => hw.sub (List.sublist_cons_self _ _), ?_⟩;refine m7 ?_;refine cR rfl (Wt.none) rfl rfl (dC) ?_; rintro _ _ ⟨g, rfl, rfl⟩; refine ⟨fun w hw => hw.sub Sx, ?_⟩;refine q4x ?_; exact cV rfl rfl (fun w' hw => ⟨(g, v'), hv', rfl, hw.sub Sx⟩)
  · rintro e w' ⟨⟨g, v'⟩, hv', rfl, hw⟩; refine ⟨({ k with sp := g }, v'), F, ⟨h.sp g, tf⟩, rfl, ⟨Frz.Le.refl _, hF.below hw.isBelow, ?_, fun g hg => .inl hg, fun e he q hq hS => ?_⟩⟩
    · rw [zhz]; exact zjb hw
    · simp at he; subst he; have h2 := (zjb hw).new _ b2 q hq; have := (hF.cb hS).lt; rcases h2 with h2 | h2
      · exact h2
      · omega
end
abbrev vI (z:Int):Value:= .int .i64 z
abbrev Vec (n:Nat)(α:Type):={ l:List α // l.length=n }
def Vec.fill {α:Type}(n:Nat)(v:α):Vec n α:=⟨List.replicate n v,List.length_replicate⟩
instance {n:Nat} {α:Type} [Inhabited α]:Inhabited (Vec n α):=⟨Vec.fill n default⟩
def Vec.get {n:Nat}{α:Type}[Inhabited α](x:Vec n α)(i:Nat):α:=cI x.1 i
def Vec.put {n:Nat}{α:Type}(x:Vec n α)(i:Nat)(v:α):Vec n α:=⟨x.1.set i v,by rw [List.length_set,x.2]⟩
theorem iS {α:Type}[Inhabited α]{n i:Nat}{v:α}(h:i<n):(Vec.fill n v).get i=v:=by
 unfold Vec.get Vec.fill;rw [d9 (by simpa using h)];simp
theorem fZ {α:Type}[Inhabited α]{n i j:Nat}{x:Vec n α}{v:α}(h:i<n):(x.put i v).get j=if j=i then v else x.get j:=by
 unfold Vec.get Vec.put; (have hx:i<x.1.length:=by rw [x.2];exact h);unfold cI;rw [List.getD_eq_getElem?_getD,List.getD_eq_getElem?_getD];by_cases e:j=i
 ·rw [if_pos e,e,List.getElem?_set_self hx];rfl
 ·rw [if_neg e,List.getElem?_set_ne (fun h=>e h.symm)]
section
variable {α:Type}[Inhabited α]{n i j m p:Nat}{x:Vec n α}{f:α→Value}{a b l r:List Value}{v:Value}
theorem Vec.len:(x.1.map f).length=n:=by rw [List.length_map,x.2]
theorem Vec.cell (h:i<n):(x.1.map f)[i]?=some (f (x.get i)):=by
 unfold Vec.get;rw [List.getElem?_map,List.getElem?_eq_getElem (by rw [x.2];exact h),d9 (by rw [x.2];exact h)];rfl
theorem Vec.upd {v:α}(h:i<n):(x.1.map f).set i (f v)=(x.put i v).1.map f:=by
 show _=(x.1.set i v).map f
 rw [List.map_set]
theorem m4 (hp:p=i)(h:l[i]?=some v):l[p]?=some v:=by rw [hp];exact h
theorem zjg {u:Value}(hp:p=i)(h:l.set i u=r):l.set p u=r:=by rw [hp];exact h
theorem zlP (ha:a.length=m)(hi:i<m)(h:a[i]?=some v):(a++b)[i]?=some v:=by
 rw [List.getElem?_append_left a6];exact h
theorem zdv (ha:a.length=m)(h:b[j]?=some v):(a++b)[m+j]?=some v:=by
 rw [List.getElem?_append_right a6,ha,show m+j - m=j by omega];exact h
theorem zj0 {u:Value}(ha:a.length=m)(h:b.set j u=r):(a++b).set (m+j) u=a++r:=by
 rw [List.set_append_right _ _ a6,ha,show m+j - m=j by omega,h]
theorem zfp {k:Nat}(ha:a.length=m)(hb:b.length=k):(a++b).length=m+k:=by rw [List.length_append,ha,hb]
instance OneCs.vmap {β:Type} {g:β→Value} {y:List β} [h:∀z,OneC (g z)]:OneCs (y.map g):=⟨fun z hz=>by obtain ⟨b,_,rfl⟩:=List.mem_map.1 hz;exact (h b).h⟩
instance OneCs.cat [h:OneCs a] [k:OneCs b]:OneCs (a++b):=⟨fun z hz=>(List.mem_append.1 hz).elim (h.h z) (k.h z)⟩
end
section
variable {P:Program}{n:Nat}{B D:World}{M:Nat→Prop}{fs:dZ}{hs:HS}{o:Oper}{v:Value}
theorem nl {t:TypeId}{z l:List Value}[hT:TyZ P t z](ho:o.op= .alloc t)(hz:z=l):Ew P n B M fs hs o (fun v hs'=>∃g,v= .pointer (some ⟨g,0,none⟩)∧hs'= .row g t l :: hs):=by
 subst hz;exact Ew.alloc ho
theorem zit {place:Nat→Option (Nat×Nat)}{l l1 m:List Value}{l2:Array Value}{i off size:Nat}{v:Value}{ps:List (Nat×Value)}(hp:place i=some (off,size))(hc:v.cells=m.toArray)(hs:m.length=size)(h1:zdU l off m=l1)(hb:off+m.length≤l.length)(h2:Instr.fill place l1.toArray ps=some l2):Instr.fill place l.toArray ((i,v) :: ps)=some l2:=by
 obtain ⟨l2'⟩:=l2;haveI:Place place i off size:=⟨hp⟩;haveI:Cells v m:=⟨hc⟩;haveI:Splice l off m l1:=⟨h1,hb⟩;haveI:Fill place l1 ps l2':=⟨h2⟩;haveI:LenIs m size:=⟨hs⟩;exact (inferInstance:Fill place l ((i,v) :: ps) l2').h
theorem zkD {l r:List Value}{off:Nat}{v:Value}(h:off<l.length)(hr:l.set off v=r):zdU l off [v]=r:=by
 rw [←hr];exact zfi l off v h
theorem zkt {a b m:List Value}(h:a.length=m.length):zdU (a++b) 0 m=m++b:=by
 simp [zdU,←h]
theorem Yv.cf {t:TypeId}{ps:Array (Nat×Operand)}{vs:List (Nat×Value)}{z l0 l:List Value}[hS:TySt P t][hZ:TyZ P t z](ho:o.op= .build t ps)(hv:evPs fs ps.toList=some vs)(hz:z=l0)(hF:Instr.fill (zgg P t) l0.toArray vs=some l.toArray):Yv P n B M fs hs o (.agg l.toArray):=by
 subst hz;haveI:Fill (zgg P t) z vs l:=⟨hF⟩;exact Yv.build ho hv
end
section
variable {B:World}{M S0:Nat→Prop}{hs:HS}{F:FzB B M S0}
def FzB.addE {w:World}(F:FzB B M S0)(hF:F.toFrz.At w)(T:Nat→Prop)(hc:∀g,T g→Cb w g)(hb:∀g,T g→M g∨B.heap.size≤g):FzB B M S0 where
 S k:=F.S k∨T k
 w:=w
 c k hk:=hk.elim (fun h=>hF.cb h) (hc k)
 base k hk h1 h2:=by
  rcases hk with h|h
  ·rw [hF k h,F.base k h h1 h2]
  ·rcases hb k h with h3|h3
   ·exact absurd h3 h2
   ·omega
 new k hk:=hk.elim (F.new k) (fun h=> .inr (hb k h))
theorem Hp.freezeE {w : World} {i j : Nat} {e : Ent} (hw : Hp B M hs w) (hij : i ≠ j) (hi : hs[i]? = some (.fr F)) (hj : hs[j]? = some e) (hc : ∀ g, e.fp g → Cb w g) :
    ∃ G : FzB B M S0, F.toFrz.Le G.toFrz ∧ (∀ w', G.toFrz.At w' → e.ok w') ∧ Hp B M ((hs.set i (.fr G)).eraseIdx j) w := by
  have hF := hw.fr hi; have hb := hw.new e (List.mem_of_getElem? hj); refine ⟨F.addE hF e.fp hc hb, fun k hk => ⟨.inl hk, hF k hk⟩, fun w' hw' => e.loc (fun g hg => hw' g (.inr hg)) (hw.get hj), ?_⟩; obtain ⟨r, h1, h2⟩ := zeA (a' := .fr (F.addE hF e.fp hc hb)) hij hi hj;refine Hp.perm ?_ h2.symm; refine ip (hw.perm h1) ?_ ?_ (List.pairwise_singleton _ _)
  · intro x hx; simp at hx; subst hx; exact eW.2 (fun k hk => rfl)
  · intro x hx k hk; simp at hx; subst hx; have h := dB.1 hk; rcases h.1 with h3 | h3
    · exact ⟨_, by simp, dB.2 ⟨h3, h.2⟩⟩
    · exact ⟨e, by simp, h3⟩
end
theorem zoq {k:SK}{v:Value}{L:Ws}{b:Bool}{w:World}(h:(eC k v L b).ok w):∀g,(eC k v L b).fp g→Cb w g:=fun g hg=>by
 have h1:=(dh.1 h).1;obtain ⟨e,he,hg⟩:=dc.1 hg;simp at he;rcases he with rfl|rfl
 ·have:=cQ.1 hg;subst this;exact ⟨_,_,_,cW.1 (h1 _ (List.mem_cons_self ..))⟩
 ·have h2:=c7.1 hg;rcases (cU.1 (h1 (.sl v 98 1 k.Y.n (Ws.cells L)) b2)).2 with ⟨rfl,_⟩|⟨g',cap,cur,rfl,_,hgg,_⟩
  ·cases h2
  ·simp [Value.ownBlock] at h2;subst h2;exact ⟨_,_,_,hgg⟩
def SzF (F:Frz)(k:SK)(v:Value)(L:Ws)(b:Bool):Prop:=∀w,F.At w→(eC k v L b).ok w
theorem SzF.mono {F G:Frz}{k:SK}{v:Value}{L:Ws}{b:Bool}(h:SzF F k v L b)(hle:F.Le G):SzF G k v L b:=fun w hw=>h w (hw.le hle)
theorem Hp.freezeSt {B w : World} {M S0 : Nat → Prop} {hs : HS} {F : FzB B M S0} {i j : Nat} {k : SK} {v : Value} {L : Ws} {b : Bool} (hw : Hp B M hs w) (hij : i ≠ j) (hi : hs[i]? = some (.fr F)) (hj : hs[j]? = some (eC k v L b)) :
    ∃ G : FzB B M S0, (F.toFrz.Le G.toFrz ∧ SzF G.toFrz k v L b) ∧ Hp B M ((hs.set i (.fr G)).eraseIdx j) w := by
  obtain ⟨G, h1, h2, h3⟩ := hw.freezeE hij hi hj (zoq (hw.get hj)); exact ⟨G, ⟨h1, h2⟩, h3⟩
section
variable {P:Program}{n:Nat}{B:World}{M:Nat→Prop}{fs:dZ}{hs:HS}{o:Oper}
theorem jC {w:World}{v:Value}{e:TypeId}{size k:Nat}{l:List Value}(h:(Ent.sl v e size k l).ok w):k≤9223372036854775807:=by
 have ho:=cU.1 h;rcases ho.2 with ⟨rfl,h0⟩|⟨g,cap,cur,rfl,hb,hg,hnc,hcm,hcs,htake⟩
 ·omega
 ·unfold maxLen at hcm;omega
theorem Ew.bC {t e:TypeId}{size bytes:Nat}{z:List Value}[hT:TyE P t e size bytes z](ho:o.op= .buildSlice t 0 #[]):Ew P n B M fs hs o (fun v hs'=>∃g,v= .slice (some ⟨g,0,none⟩) 0 0∧hs'= .sl (.slice (some ⟨g,0,none⟩) 0 0) e size 0 [] :: hs):=gv fun a w ha hp=>by
 obtain ⟨i,zv,hU,hi,hz,hzc,rfl,rfl,hzs,hpos⟩:=hT.get;refine ⟨_,w.alloc (.cells #[] e),_,?_,Kp.alloc w _,hp.fresh ((Below.refl _ _).alloc (Nat.le_refl _) _) (cU.2 (World.ownsRow_made (base:=0) (e:=e) (size:=i.size) w #[] 0 (Nat.zero_le _) (by unfold maxLen;omega) b2)) (fun g hg=>?_),w.heap.size,rfl,rfl⟩
 ·unfold execOp;simp [ho,Instr.buildSlice,underlying,hU,sizeOf,typeInfo,hi,Instr.fill,newRow];rw [show Array.range 0= #[] from by simp [Array.range]];simp
 ·have:=c7.1 hg;simp [Value.ownBlock] at this;omega
end
section
variable {Fe:Fence}[hFe:Calm Fe]{P:Program}{n:Nat}{B D:World}{M S0:Nat→Prop}{Q:Exit→Act→World→Prop}{fs:dZ}{hs:HS}{ops:Array Oper}
theorem gz {l:List Oper}{v:Value}{e:TypeId}{size k:Nat}{cs:List Value}(j:Nat)(hj:hs[j]?=some (.sl v e size k cs))(h:OneC v→k≤9223372036854775807→TL Fe P n B D M ops Q l fs hs):TL Fe P n B D M ops Q l fs hs:=
 kJ (ι:=Unit) (φ:=fun _=>OneC v∧k≤9223372036854775807) (hs':=fun _=>hs) (fun w hw=>⟨(),⟨jN (hw.get hj),jC (hw.get hj)⟩,hw⟩) (fun _ hx=>h hx.1 hx.2)
theorem lL {hs0:HS}{r:Ord}{v:Value}{e:TypeId}{size k:Nat}{cs:List Value}(j:Nat)(hj:hs[j]?=some (.sl v e size k cs))(h:OneC v→k≤9223372036854775807→TS Fe P n B D M ops Q hs0 r fs hs):TS Fe P n B D M ops Q hs0 r fs hs:=
 jR (ι:=Unit) (φ:=fun _=>OneC v∧k≤9223372036854775807) (hs':=fun _=>hs) (fun w hw=>⟨(),⟨jN (hw.get hj),jC (hw.get hj)⟩,hw⟩) (fun _ hx=>h hx.1 hx.2)
end
structure Bor (F:Frz) (E:Ent) (w:World) (F':Frz):Prop where
 le:F.Le F'
 at_:F'.At w
 new:∀g,F'.S g→F.S g∨E.fp g
section
variable {B w:World}{M S0:Nat→Prop}{hs bs rest:HS}{F:FzB B M S0}{G:FzB B M S0}{F':Frz}
theorem Hp.bor {i j:Nat}{v:Value}{e:TypeId}{size k:Nat}{l:List Value}(hw:Hp B M hs w)(hi:hs[i]?=some (.fr F))(hj:hs[j]?=some (.sl v e size k l)):∃F':Frz,Bor F.toFrz (.sl v e size k l) w F'∧SlK F' v size k l:=by
 have hF:=hw.fr hi;have ho:=cU.1 (hw.get hj);rcases ho.2 with ⟨rfl,h0⟩|⟨g,cap,cur,rfl,hb,hg,hnc,hcm,hcs,htake⟩
 ·subst h0;exact q5q
 ·refine ⟨⟨fun k=>F.S k∨k=g,w,fun k hk=>?_⟩,⟨fun k hk=>⟨.inl hk,hF k hk⟩,fun k _=>rfl,fun k hk=>hk.imp id fun e=>c7.2 (by rw [e];rfl)⟩,ho.1,_,cap,rfl,hnc,by unfold maxLen at hcm;omega,fun _=>⟨g,rfl, .inr rfl,fun q hq=>?_⟩⟩
  ·rcases hk with h|rfl
   ·exact hF.cb h
   ·exact ⟨_,_,_,hg⟩
  ·rw [Nat.zero_add,World.ownsRow.cellAt ho q (by rw [←ho.1];exact hq)]
theorem Hp.takesB {E:Ent}{j:Nat}(h:Hp B M (bs++ .fr G :: rest) w)(hj:rest[j]?=some E)(b:Bor G.toFrz E w F'):∀g,dG bs g→¬F'.S g:=fun g hg hS=>by
 rcases b.new g hS with h1|h1
 ·exact h.takes.2 g hg h1
 ·obtain ⟨e,he,h2⟩:=hg;exact (List.pairwise_append.1 h.apart).2.2 e he E (List.mem_cons_of_mem _ (List.mem_of_getElem? hj)) g h2 h1
end
theorem FxM.back {F F':Frz}{w w':World}{M:Nat→Prop}{es:HS}(h:FxM F' w M F' es w')(hle:F.Le F'):FxM F w M F es w':=
 ⟨.refl _,h.at_.le hle,h.hp,fun g hg=> .inl hg,fun e he g hg hS=>h.ap e he g hg (hle g hS).1⟩
theorem zoH {α:Type}[Inhabited α]{xs:List α}{i:Nat}{x:α}(h:xs[i]?=some x):i<xs.length∧x=cI xs i:=by
 obtain ⟨hi,rfl⟩:=List.getElem?_eq_some_iff.1 h;exact ⟨hi,(d9 hi).symm⟩
section
variable {P:Program}{n:Nat}{B D:World}{M:Nat→Prop}{fs:dZ}{hs:HS}{o:Oper}{v val sv:Value}
end
section
variable {P:Program}{n:Nat}{B D:World}{M:Nat→Prop}{fs:dZ}{hs:HS}{v v2:Value}
theorem T.aX {Fe:Fence}[hFe:Calm Fe]{Q:Exit→Act→World→Prop}{c:Code}{e:TypeId}{size k:Nat}{cs:List Value}(j:Nat)(hj:hs[j]?=some (.sl v e size k cs))(h:OneC v→k≤9223372036854775807→T Fe P n B D M c Q fs hs):T Fe P n B D M c Q fs hs:=
 kO (ι:=Unit) (φ:=fun _=>OneC v∧k≤9223372036854775807) (hs':=fun _=>hs) (fun w hw=>⟨(),⟨jN (hw.get hj),jC (hw.get hj)⟩,hw⟩) (fun _ hx=>h hx.1 hx.2)
end
end Go.Proofs.YtgoeeefoinkepaaGreatDoor
