/- Pn H2 J1 J2 J3 J4: shortened and put together by squeeze.py. -/
import Derived.Test.YtogbggmckmnlfaaGreatDoorQ05
set_option maxRecDepth 100000
set_option maxHeartbeats 4000000
set_option linter.unusedVariables false
set_option linter.unusedSectionVars false
set_option linter.unusedSimpArgs false
namespace Go.Proofs.YtogbggmckmnlfaaGreatDoor
open Go.RowKit
theorem cH {p:Prop}(h:p:=by rw [zfx (by omega)];omega):p:=h
theorem b7 {p:Prop}(h:p:=by simp only [dl,List.length_append,List.length_singleton];omega):p:=h
theorem a8 {p:Prop}(h:p:=by dsimp only;omega):p:=h
def jD (Y:Tb)(L:Ws)(i:Nat):BitVec 64:=mu Y L i ||| kX Y L i ||| mi Y L i
theorem zbR {α β:Type}{f g:β→α→β}:∀(l:List α) (z:β),(∀x∈l,∀s,f s x=g s x)→l.foldl f z=l.foldl g z
 | [],_,_=>rfl
 |x :: r,z,h=>by rw [List.foldl_cons,List.foldl_cons,h x a9 z];exact zbR r _ (fun y hy=>h y (by simp [hy]))
structure Alike (Y:Tb) (L L':Ws) (k:Nat):Prop where
 ps:∀x∈Y.ps k,(x.a=(k:Int)→only L' x.b.toNat=only L x.b.toNat)∧(x.a≠(k:Int)→only L' x.a.toNat=only L x.a.toNat)
 inn:∀x∈Y.inn k,only L' x.fr.toNat=only L x.fr.toNat
 out:∀x∈Y.out k,only L' x.to.toNat=only L x.to.toNat∧(only L x.to.toNat≠0→∀o∈Y.inn x.to.toNat,o.fr≠(k:Int)→only L' o.fr.toNat=only L o.fr.toNat)
theorem zgV {Y:Tb}{L L':Ws}{k:Nat}(h:Alike Y L L' k)(hlo:∀x∈Y.out k,2≤x.lo):jD Y L' k=jD Y L k:=by
 have e1:mu Y L' k=mu Y L k:=zbR _ _ fun x hx s=>by
  have:=h.ps x hx;unfold mN;by_cases ha:x.a=(k:Int)
  ·rw [if_pos ha,if_pos ha,this.1 ha]
  ·rw [if_neg ha,if_neg ha,this.2 ha]
 have e2:kX Y L' k=kX Y L k:=by
  have:iG L' (Y.inn k)=iG L (Y.inn k):=zbR _ _ fun x hx s=>by
   funext d
   unfold j2;rw [h.inn x hx]
  unfold kX;rw [this]
 have e3:mi Y L' k=mi Y L k:=zbR _ _ fun x hx s=>by
  have ho:=h.out x hx;unfold lN;rw [ho.1];by_cases hz:only L x.to.toNat=0
  ·have:=hlo x hx;rw [if_pos (.inl (.inl (by rw [hz];show (0:Int)<_;omega))),if_pos (.inl (.inl (by rw [hz];show (0:Int)<_;omega)))]
  ·have e:j7 L' k (only L x.to.toNat) (Y.inn x.to.toNat)=j7 L k (only L x.to.toNat) (Y.inn x.to.toNat):=zbR _ _ fun o ho' s=>by
    unfold ka;by_cases hk:o.fr=(k:Int)
    ·simp [hk]
    ·rw [ho.2 hz o ho' hk]
   rw [e]
 unfold jD;rw [e1,e2,e3]
theorem lm {L:Ws}{i j:Nat}{b:BitVec 64}(hi:i<L.length):cJ (L.set i b) j=if j=i then b else cJ L j:=by
 unfold cJ;rw [List.getD_eq_getElem?_getD,List.getD_eq_getElem?_getD];by_cases h:j=i
 ·subst h;rw [List.getElem?_set_self hi,if_pos rfl];rfl
 ·rw [List.getElem?_set_ne (fun e=>h e.symm),if_neg h]
theorem zeS {L:Ws}{i j:Nat}{b:BitVec 64}(hi:i<L.length)(h:j≠i):only (L.set i b) j=only L j:=by
 unfold only;rw [lm hi,if_neg h]
theorem zgJ {Y:Tb}{L:Ws}{i:Nat}{b:BitVec 64}(hok:Y.Ok)(hi:i<Y.n)(hl:L.length=Y.n):mu Y (L.set i b) i=mu Y L i∧kX Y (L.set i b) i=kX Y L i∧mi Y (L.set i b) i=mi Y L i:=by
 (have hil:i<L.length:=by omega);refine ⟨zbR _ _ fun x hx s=>?_,?_,zbR _ _ fun x hx s=>?_⟩
 ·have h1:=(hok.psS i hi x hx).1;have h2:=(hok.ps i hi).2 x hx;unfold mN;by_cases ha:x.a=(i:Int)
  ·rw [if_pos ha,if_pos ha,zeS hil a5]
  ·rw [if_neg ha,if_neg ha,zeS hil a5]
 ·have:iG (L.set i b) (Y.inn i)=iG L (Y.inn i):=zbR _ _ fun x hx s=>by
   have h1:=(hok.innS i hi x hx).1;have h2:=(hok.inn i hi).2 x hx
   funext d
   unfold j2;rw [zeS hil a5]
  unfold kX;rw [this]
 ·have h1:=(hok.outS i hi x hx).1;have h2:=(hok.out i hi).2 x hx;unfold lN;rw [zeS hil a5]
  have e:j7 (L.set i b) i (only L x.to.toNat) (Y.inn x.to.toNat)=j7 L i (only L x.to.toNat) (Y.inn x.to.toNat):=zbR _ _ fun o ho s=>by
   have h3:=(hok.inn _ a5).2 o ho;unfold ka;by_cases hk:o.fr=(i:Int)
   ·simp [hk]
   ·rw [zeS hil a5]
  rw [e]
def ziZ (Y:Tb)(L:Ws)(i:Nat):Prop:=cJ L i≠0#64∧cJ L i &&& jD Y L i=0#64
theorem zks {α:Type}(f:α→Nat)(hf:∀_:α,True):∀(l:List α) (s:Ws),s.length=8→(∀x∈l,f x<512)→∀j,j<512→(eP (l.foldl (fun s x=>d3 s (f x)) s) j=true↔eP s j=true∨∃x∈l,f x=j)
 | [],s,_,_,j,_=>by simp
 |x :: r,s,hs,hx,j,hj=>by
  rw [List.foldl_cons,zks f hf r _ (by rw [lz,hs]) (fun y hy=>hx y (by simp [hy])) j hj,zgz hs (hx x a9) hj];simp only [Bool.or_eq_true,decide_eq_true_eq,List.mem_cons];constructor
  ·rintro ((h|h)|⟨y,hy,h⟩)
   ·exact .inl h
   ·exact .inr ⟨x, .inl rfl,h⟩
   ·exact .inr ⟨y, .inr hy,h⟩
  ·rintro (h|⟨y,rfl|hy,h⟩)
   ·exact .inl (.inl h)
   ·exact .inl (.inr h)
   ·exact .inr ⟨y,hy,h⟩
def nm (Y:Tb)(L:Ws)(i j:Nat):Prop:=
 (∃x∈Y.ps i,(x.a+x.b - (i:Int)).toNat=j)∨(∃x∈Y.inn i,x.fr.toNat=j)∨(∃x∈Y.out i,x.to.toNat=j∨(only L x.to.toNat≠0∧∃o∈Y.inn x.to.toNat,o.fr.toNat=j))
theorem znQ {Y : Tb} {L : Ws} : ∀ (l : List Ld) (s : Ws), s.length = 8 → (∀ x ∈ l, x.to.toNat < 512 ∧ ∀ o ∈ Y.inn x.to.toNat, o.fr.toNat < 512) → ∀ j, j < 512 →
    (eP (l.foldl (ml Y L) s) j = true ↔ eP s j = true ∨ ∃ x ∈ l, x.to.toNat = j ∨ (only L x.to.toNat ≠ 0 ∧ ∃ o ∈ Y.inn x.to.toNat, o.fr.toNat = j))
  | [], s, _, _, j, _ => by simp
  | x :: r, s, hs, hx, j, hj => by
    have h1 := hx x a9; rw [List.foldl_cons, znQ r _ (by rw [zg4, hs]) (fun y hy => hx y (by simp [hy])) j hj]
    have e : eP (ml Y L s x) j = true ↔ eP s j = true ∨ (x.to.toNat = j ∨ (only L x.to.toNat ≠ 0 ∧ ∃ o ∈ Y.inn x.to.toNat, o.fr.toNat = j)) := by
      unfold ml; by_cases hz : (only L x.to.toNat : Int) = 0
      · rw [if_pos hz, zgz hs h1.1 hj];simp only [Bool.or_eq_true, decide_eq_true_eq]; constructor
        · rintro (h | h)
          · exact .inl h
          · exact .inr (.inl h)
        · rintro (h | h | h)
          · exact .inl h
          · exact .inr h
          · exact absurd (show only L x.to.toNat = 0 by omega) h.1
      · rw [if_neg hz, zks (fun o : Ld => o.fr.toNat) (fun _ => trivial) _ _ (by rw [lz, hs]) h1.2 j hj, zgz hs h1.1 hj];simp only [Bool.or_eq_true, decide_eq_true_eq]; constructor
        · rintro ((h | h) | h)
          · exact .inl h
          · exact .inr (.inl h)
          · exact .inr (.inr ⟨by omega, h⟩)
        · rintro (h | h | h)
          · exact .inl (.inl h)
          · exact .inl (.inr h)
          · exact .inr h.2
    rw [e];simp only [List.mem_cons]; constructor
    · rintro ((h | h) | ⟨y, hy, h⟩)
      · exact .inl h
      · exact .inr ⟨x, .inl rfl, h⟩
      · exact .inr ⟨y, .inr hy, h⟩
    · rintro (h | ⟨y, rfl | hy, h⟩)
      · exact .inl (.inl h)
      · exact .inl (.inr h)
      · exact .inr ⟨y, hy, h⟩
theorem zd0 {Y:Tb}{L:Ws}{i:Nat}{ws:Ws}(hok:Y.Ok)(hi:i<Y.n)(hws:ws.length=8)(j:Nat)(hj:j<512):eP (ki Y L i ws) j=true↔eP ws j=true∨(only L i≠0∧nm Y L i j):=by
 have hn:=hok.n;unfold ki;by_cases hz:(only L i:Int)=0
 ·rw [if_pos hz];constructor
  ·exact .inl
  ·rintro (h|h)
   ·exact h
   ·exact absurd (show only L i=0 by omega) h.1
 ·rw [if_neg hz];have hp:=(hok.ps i hi).2;have hI:=(hok.inn i hi).2;have hO:=(hok.out i hi).2
  have:=znQ (Y:=Y) (L:=L) (Y.out i) ((Y.inn i).foldl (fun s x=>d3 s x.fr.toNat) ((Y.ps i).foldl (fun s x=>d3 s (x.a+x.b - (i:Int)).toNat) ws)) (by rw [zdG,zdC,hws]) (fun x hx=>by
   have:=hO x hx
   exact ⟨by omega,fun o ho=>by have:=(hok.inn x.to.toNat a5).2 o ho;omega⟩) j hj
  refine Iff.trans this ?_;rw [zks (fun x:Ld=>x.fr.toNat) (fun _=>trivial) _ _ (by rw [zdC,hws]) (fun x hx=>by have:=hI x hx;omega) j hj,zks (fun x:Pr=>(x.a+x.b - (i:Int)).toNat) (fun _=>trivial) _ _ hws (fun x hx=>by have:=hp x hx;omega) j hj];unfold nm;constructor
  ·rintro (((h|h)|h)|h)
   ·exact .inl h
   ·exact .inr ⟨by omega, .inl h⟩
   ·exact .inr ⟨by omega, .inr (.inl h)⟩
   ·exact .inr ⟨by omega, .inr (.inr h)⟩
  ·rintro (h|⟨_,h|h|h⟩)
   ·exact .inl (.inl (.inl h))
   ·exact .inl (.inl (.inr h))
   ·exact .inl (.inr h)
   ·exact .inr h
theorem zi2 {Y:Tb}{L L':Ws}{i k:Nat}(hok:Y.Ok)(hi:i<Y.n)(hk:k<Y.n)(hki:k≠i)(hsame:∀j,j≠i→only L' j=only L j)(h0:only L i=0)(hfar:¬nm Y L' i k):Alike Y L L' k where
 ps x hx:=by
  have h1:=(hok.ps k hk).2 x hx;have h2:=hok.psS k hk x hx;constructor
  ·intro ha;by_cases hb:x.b.toNat=i
   ·exact absurd (.inl ⟨x,by rw [←hb];exact h2.2.2,by omega⟩) hfar
   ·exact hsame _ hb
  ·intro ha;by_cases hb:x.a.toNat=i
   ·exact absurd (.inl ⟨x,by rw [←hb];exact h2.2.1,by omega⟩) hfar
   ·exact hsame _ hb
 inn x hx:=by
  have h1:=(hok.inn k hk).2 x hx;by_cases hb:x.fr.toNat=i
  ·exact absurd (.inr (.inr ⟨x,by rw [←hb];exact (hok.innS k hk x hx).2, .inl a5⟩)) hfar
  ·exact hsame _ hb
 out x hx:=by
  have h1:=(hok.out k hk).2 x hx;have h2:=hok.outS k hk x hx;have hto:x.to.toNat≠i:=fun hb=>hfar (.inr (.inl ⟨x,by rw [←hb];exact h2.2,by omega⟩));refine ⟨hsame _ hto,fun hz o ho hok'=>?_⟩;have h3:=(hok.inn x.to.toNat a5).2 o ho;by_cases hb:o.fr.toNat=i
  ·have h4:=(hok.innS x.to.toNat a5 o ho).2;rw [hb] at h4;refine absurd (.inr (.inr ⟨o,h4, .inr ⟨?_,x,?_,by omega⟩⟩)) hfar
   ·rw [show o.to.toNat=x.to.toNat by omega,hsame _ hto];exact hz
   ·rw [show o.to.toNat=x.to.toNat by omega];exact h2.2
  ·exact hsame _ hb
def zl1 (L:Ws):Nat:=(L.map fun b=>(dC b).length).sum
theorem dQ {b:BitVec 64}{j:Nat}:j∈dC b↔b.getLsbD j=true:=by
 unfold dC;rw [List.mem_filter,List.mem_range'_1];constructor
 ·exact fun h=>h.2
 ·intro h;refine ⟨⟨Nat.zero_le _,?_⟩,h⟩;have:=BitVec.lt_of_getLsbD h;omega
theorem ziK {p q:Nat→Bool}:∀(l:List Nat),(∀x∈l,q x=true→p x=true)→(∃x∈l,p x=true∧q x=false)→(l.filter q).length<(l.filter p).length
 | [],_,h=>by obtain ⟨x,hx,_⟩:=h;cases hx
 |y :: r,h,⟨x,hx,hp,hq⟩=>by
  have hle:∀(l:List Nat),(∀x∈l,q x=true→p x=true)→(l.filter q).length≤(l.filter p).length:=by
   intro l
   induction l with
   |nil=>intro _;simp
   |cons z s ih=>
    intro hz;have h1:=ih (fun x hx=>hz x (by simp [hx]));have h2:=hz z a9
    cases hqz:q z <;> cases hpz:p z <;> simp [hqz,hpz] at h2 ⊢ <;> omega
  have h2:=h y a9;rcases List.mem_cons.1 hx with rfl|hx
  ·rw [List.filter_cons_of_neg (by rw [hq];simp),List.filter_cons_of_pos hp];have:=hle r (fun x hx=>h x (by simp [hx]));simp;omega
  ·have:=ziK r (fun x hx=>h x (by simp [hx])) ⟨x,hx,hp,hq⟩
   cases hqz:q y <;> cases hpz:p y <;> simp [hqz,hpz] at h2 ⊢ <;> omega
theorem zpC {a b:BitVec 64}(h:∀j,a.getLsbD j=true→b.getLsbD j=true)(hne:a≠b):(dC a).length<(dC b).length:=by
 unfold dC;refine ziK _ (fun j _=>h j) ?_;apply Classical.byContradiction;intro hno;apply hne;apply BitVec.eq_of_getLsbD_eq;intro j hj
 cases ha:a.getLsbD j with
 |true=>rw [h j ha]
 |false=>
  cases hb:b.getLsbD j with
  |false=>rfl
  |true=>exact absurd ⟨j,List.mem_range'_1.2 ⟨Nat.zero_le _,by omega⟩,hb,ha⟩ hno
theorem ziy:∀(L:Ws) (i:Nat) (b:BitVec 64),i<L.length→zl1 (L.set i b)+(dC (cJ L i)).length=zl1 L+(dC b).length
 | [],i,b,h=>by simp at h
 |x :: r,0,b,h=>by simp [zl1,cJ];omega
 |x :: r,i+1,b,h=>by
  have:=ziy r i b (by simpa using h);simp only [zl1,cJ,List.set_cons_succ,List.map_cons,List.sum_cons,List.getD_cons_succ] at this ⊢;omega
inductive Reach (Y:Tb) (L:Ws):Ws→Prop
 |refl:Reach Y L L
 |step {M:Ws} {i:Nat} {b:BitVec 64}:Reach Y L M→i<Y.n→(∀j,b.getLsbD j=true→(jD Y M i).getLsbD j=true)→Reach Y L (M.set i (cJ M i &&& ~~~b))
theorem Reach.len {Y:Tb}{L M:Ws}(h:Reach Y L M):M.length=L.length:=by
 induction h with
 |refl=>rfl
 |step _ _ _ ih=>rw [List.length_set,ih]
theorem Reach.sub {Y:Tb}{L M:Ws}(h:Reach Y L M)(hl:L.length=Y.n):∀i j,(cJ M i).getLsbD j=true→(cJ L i).getLsbD j=true:=by
 induction h with
 |refl=>exact fun _ _ h=>h
 | @step M' k b hr hk _ ih=>
  intro i j hij;rw [lm (by rw [hr.len,hl];exact hk)] at hij
  split at hij
  ·rename_i e;subst e;rw [BitVec.getLsbD_and,Bool.and_eq_true] at hij;exact ih _ _ hij.1
  ·exact ih _ _ hij
structure SInv (Y:Tb) (L0 L:Ws) (q:List Nat) (ws:Ws) (c:Bool):Prop where
 reach:Reach Y L0 L
 len:L.length=Y.n
 ws8:ws.length=8
 wsn:∀j,j<512→eP ws j=true→j<Y.n
 qn:∀j∈q,j<Y.n
 q512:q.length≤512
 bad:c=true→∃i,i<Y.n∧cJ L i=0#64
 good:c=false→∀i,i<Y.n→i∈q∨eP ws i=true∨ziZ Y L i
def smu (L:Ws)(q:List Nat)(ws:Ws):Nat:=zl1 L*2000+q.length+(if fk ws=[] then 0 else 600)
theorem znw:fk fx=[]:=zg9 fun j _ _=>zeg j
theorem SInv.refill {Y:Tb}{L0 L:Ws}{ws:Ws}{c:Bool}(h:SInv Y L0 L [] ws c):SInv Y L0 L (fk ws) fx c where
 reach:=h.reach
 len:=h.len
 ws8:=rfl
 wsn j _ hb:=by rw [zeg] at hb;cases hb
 qn j hj:=by obtain ⟨_,h1,h2⟩:=fS.1 hj;exact h.wsn j h1 h2
 q512:=zgD ws 0
 bad:=h.bad
 good hc i hi:=by
  rcases h.good hc i hi with h1|h1|h1
  ·cases h1
  ·have:=h.len;by_cases h512:i<512
   ·exact .inl (fS.2 ⟨Nat.zero_le _,h512,h1⟩)
   ·exfalso;unfold eP cJ at h1;rw [List.getD_eq_getElem?_getD,List.getElem?_eq_none (by rw [h.ws8];omega)] at h1;exact absurd h1 (by show ¬(0#64).getLsbD _=true;rw [BitVec.getLsbD_zero];simp)
  ·exact .inr (.inr h1)
theorem zkL {L:Ws}{ws:Ws}(h:fk ws≠[]):smu L (fk ws) fx<smu L [] ws:=by
 unfold smu;rw [if_pos znw,if_neg h];have:(fk ws).length≤512:=zgD ws 0;simp only [List.length_nil];omega
theorem SInv.calm {Y:Tb}{L0 L:Ws}{ws:Ws}(h:SInv Y L0 L [] ws false)(hm:fk ws=[]):∀i,i<Y.n→ziZ Y L i:=fun i hi=>by
 rcases h.refill.good rfl i hi with h1|h1|h1
 ·rw [hm] at h1;cases h1
 ·rw [zeg] at h1;cases h1
 ·exact h1
theorem zla {Y:Tb}{L0 L:Ws}{i:Nat}{b:BitVec 64}(h:Reach Y L0 L)(hi:i<Y.n)(hb:∀j,b.getLsbD j=true→(jD Y L i).getLsbD j=true):Reach Y L0 (L.set i (cJ L i &&& ~~~b)):= .step h hi hb
theorem zpz {Y:Tb}{L:Ws}{i j:Nat}(h:(mu Y L i).getLsbD j=true):(jD Y L i).getLsbD j=true:=by simp [jD,h]
theorem zpc {Y:Tb}{L:Ws}{i j:Nat}(h:(kX Y L i).getLsbD j=true):(jD Y L i).getLsbD j=true:=by simp [jD,h]
theorem zo8 {Y:Tb}{L:Ws}{i j:Nat}(h:(mi Y L i).getLsbD j=true):(jD Y L i).getLsbD j=true:=by simp [jD,h]
def zhn (Y:Tb)(L:Ws)(i k:Nat):BitVec 64:=if k=0 then mu Y L i else if k=1 then kX Y L i else mi Y L i
theorem zoW {Y:Tb}{L:Ws}{i j k:Nat}(h:(zhn Y L i k).getLsbD j=true):(jD Y L i).getLsbD j=true:=by
 unfold zhn at h
 split at h
 ·exact zpz h
 ·split at h
  ·exact zpc h
  ·exact zo8 h
def eF (Y:Tb)(L:Ws)(i:Nat):Nat→Ws
 |0=>L
 |k+1=>(eF Y L i k).set i (cJ (eF Y L i k) i &&& ~~~(zhn Y (eF Y L i k) i k))
theorem zcv {Y:Tb}{L:Ws}{i:Nat}:∀k,(eF Y L i k).length=L.length
 |0=>rfl
 |k+1=>by rw [eF,List.length_set,zcv k]
theorem zeL {Y:Tb}{L0 L:Ws}{i:Nat}(h:Reach Y L0 L)(hi:i<Y.n):∀k,Reach Y L0 (eF Y L i k)
 |0=>h
 |k+1=>zla (zeL h hi k) hi (fun j hj=>zoW hj)
theorem zew {Y:Tb}{L:Ws}{i j:Nat}(hi:i<L.length)(hj:j≠i):∀k,cJ (eF Y L i k) j=cJ L j
 |0=>rfl
 |k+1=>by rw [eF,lm (by rw [zcv];exact hi),if_neg hj,zew hi hj k]
theorem zf1 {Y:Tb}{L:Ws}{i:Nat}(hi:i<L.length):∀k j,(cJ (eF Y L i k) i).getLsbD j=true→(cJ L i).getLsbD j=true
 |0,_,h=>h
 |k+1,j,h=>by
  rw [eF,lm (by rw [zcv];exact hi),if_pos rfl,BitVec.getLsbD_and,Bool.and_eq_true] at h;exact zf1 hi k j h.1
theorem zme {Y:Tb}{L:Ws}{i:Nat}{b:BitVec 64}(hok:Y.Ok)(hi:i<Y.n)(hl:L.length=Y.n)(m:Nat):zhn Y (L.set i b) i m=zhn Y L i m:=by
 have h1:=zgJ (b:=b) hok hi hl;unfold zhn;rw [h1.1,h1.2.1,h1.2.2]
theorem zhd {Y:Tb}{L:Ws}{i:Nat}(hok:Y.Ok)(hi:i<Y.n)(hl:L.length=Y.n):∀k m,zhn Y (eF Y L i k) i m=zhn Y L i m
 |0,_=>rfl
 |k+1,m=>by rw [eF,zme hok hi (by rw [zcv,hl]),zhd hok hi hl k m]
theorem zl0 {Y:Tb}{L:Ws}{i:Nat}(hok:Y.Ok)(hi:i<Y.n)(hl:L.length=Y.n):cJ (eF Y L i 3) i=cJ L i &&& ~~~(mu Y L i) &&& ~~~(kX Y L i) &&& ~~~(mi Y L i):=by
 have h:∀k,cJ (eF Y L i (k+1)) i=cJ (eF Y L i k) i &&& ~~~(zhn Y L i k):=fun k=>by
  rw [eF,lm (by rw [zcv,hl];exact hi),if_pos rfl,zhd hok hi hl]
 rw [h 2,h 1,h 0]
 rfl
theorem zf6 {Y : Tb} {L : Ws} {i : Nat} (hi : i < L.length) : eF Y L i 3 = L.set i (cJ (eF Y L i 3) i) := by
  have h : ∀ k, ∃ b, eF Y L i k = L.set i b := by
    intro k
    induction k with
    | zero => exact ⟨cJ L i, by
        apply List.ext_getElem?; intro j; by_cases hj : j = i
        · subst hj; rw [List.getElem?_set_self hi, eF, List.getElem?_eq_getElem hi, dV hi]
        · rw [List.getElem?_set_ne (fun e => hj e.symm)]; rfl⟩
    | succ k ih =>
      obtain ⟨b, hb⟩ := ih; exact ⟨_, by rw [eF, hb, List.set_set]⟩
  obtain ⟨b, hb⟩ := h 3; rw [hb, lm hi, if_pos rfl]
theorem zib {a b:BitVec 64}(hs:∀j,a.getLsbD j=true→b.getLsbD j=true)(hne:a≠b)(h0:a≠0#64):ja b=0:=by
 unfold ja;rw [if_neg];rintro ⟨hb,hz⟩
 have h1:∀j,b.getLsbD j=true→j=ctz b:=fun j hj=>by
  have:=zjE hb j;rw [hz,hj,BitVec.getLsbD_zero,Bool.true_and] at this;simpa using this.symm
 apply hne;apply BitVec.eq_of_getLsbD_eq;intro j hj
 cases hbj:b.getLsbD j with
 |false=>
  cases haj:a.getLsbD j with
  |false=>rfl
  |true=>rw [hs j haj] at hbj;cases hbj
 |true=>
  have e:=h1 j hbj;obtain ⟨k,hk⟩:∃k,a.getLsbD k=true:=⟨ctz a,(zgF h0 0).1⟩;rw [e,←h1 k (hs k hk)];exact hk
theorem SInv.step {Y : Tb} {L0 L : Ws} {i : Nat} {q : List Nat} {ws : Ws} (hok : Y.Ok) (h : SInv Y L0 L (i :: q) ws false) :
    SInv Y L0 (eF Y L i 3) q (if cJ (eF Y L i 3) i = cJ L i then ws else ki Y (eF Y L i 3) i ws) (decide (cJ (eF Y L i 3) i = 0#64)) := by
  have hi : i < Y.n := h.qn i a9; (have hil : i < L.length := by rw [h.len]; exact hi); have hn := hok.n; have hsub := zf1 (Y := Y) hil 3; refine ⟨zeL h.reach hi 3, by rw [zcv, h.len], ?_, ?_, fun j hj => h.qn j (by simp [hj]), by have := h.q512; simp at this; omega, ?_, ?_⟩
  · split
    · exact h.ws8
    · rw [zfL, h.ws8]
  · intro j hj hb
    split at hb
    · exact h.wsn j hj hb
    · rcases (zd0 hok hi h.ws8 j hj).1 hb with h1 | ⟨_, h1 | h1 | h1⟩
      · exact h.wsn j hj h1
      · obtain ⟨x, hx, he⟩ := h1; have := (hok.ps i hi).2 x hx; omega
      · obtain ⟨x, hx, he⟩ := h1; have := (hok.inn i hi).2 x hx; omega
      · obtain ⟨x, hx, he⟩ := h1; have h2 := (hok.out i hi).2 x hx; rcases he with he | ⟨_, o, ho, he⟩
        · omega
        · have := (hok.inn x.to.toNat a5).2 o ho; omega
  · intro hc; exact ⟨i, hi, of_decide_eq_true hc⟩
  · intro hc k hk; have h0 : cJ (eF Y L i 3) i ≠ 0#64 := of_decide_eq_false hc; by_cases hki : k = i
    · subst hki;refine .inr (.inr ⟨h0, ?_⟩); have e := zgJ (b := cJ (eF Y L k 3) k) hok hi h.len; rw [← zf6 hil] at e; unfold jD; rw [e.1, e.2.1, e.2.2, zl0 hok hi h.len]; apply BitVec.eq_of_getLsbD_eq; intro j hj;simp only [BitVec.getLsbD_and, BitVec.getLsbD_or, BitVec.getLsbD_not, BitVec.getLsbD_zero]
      cases (cJ L k).getLsbD j <;> cases (mu Y L k).getLsbD j <;> cases (kX Y L k).getLsbD j <;> cases (mi Y L k).getLsbD j <;> simp
    · have hkeep := zew (Y := Y) hil hki 3; by_cases hsame : cJ (eF Y L i 3) i = cJ L i
      · rw [if_pos hsame]
        have e : eF Y L i 3 = L := by
          rw [zf6 hil, hsame]; apply List.ext_getElem?; intro j; by_cases hj : j = i
          · subst hj; rw [List.getElem?_set_self hil, List.getElem?_eq_getElem hil, dV hil]
          · rw [List.getElem?_set_ne (fun e => hj e.symm)]
        rw [e]; rcases h.good rfl k hk with h1 | h1 | h1
        · rcases List.mem_cons.1 h1 with h1 | h1
          · exact absurd h1 hki
          · exact .inl h1
        · exact .inr (.inl h1)
        · exact .inr (.inr h1)
      · rw [if_neg hsame]; have h00 : only L i = 0 := zib hsub hsame h0; (have honly : ∀ j, j ≠ i → only (eF Y L i 3) j = only L j := fun j hj => by unfold only; rw [zew hil hj]); rcases h.good rfl k hk with h1 | h1 | h1
        · rcases List.mem_cons.1 h1 with h1 | h1
          · exact absurd h1 hki
          · exact .inl h1
        · exact .inr (.inl ((zd0 hok hi h.ws8 k a5).2 (.inl h1)))
        · by_cases hnear : only (eF Y L i 3) i ≠ 0 ∧ nm Y (eF Y L i 3) i k
          · exact .inr (.inl ((zd0 hok hi h.ws8 k a5).2 (.inr hnear)))
          · refine .inr (.inr ⟨by rw [hkeep]; exact h1.1, ?_⟩)
            have ha : Alike Y L (eF Y L i 3) k := by
              by_cases hz : only (eF Y L i 3) i = 0
              · have hall : ∀ j, only (eF Y L i 3) j = only L j := fun j => by
                  by_cases hj : j = i
                  · subst hj; rw [hz, h00]
                  · exact honly j hj
                exact q5E
              · exact zi2 hok hi hk hki honly h00 (fun hh => hnear ⟨hz, hh⟩)
            rw [zgV ha (fun x hx => by have := (hok.out k hk).2 x hx; omega), hkeep]; exact h1.2
theorem znn {Y:Tb}{L:Ws}{i:Nat}{q:List Nat}{ws:Ws}(hi:i<L.length)(hq:q.length≤511):smu (eF Y L i 3) q (if cJ (eF Y L i 3) i=cJ L i then ws else ki Y (eF Y L i 3) i ws)<smu L (i :: q) ws:=by
 have hb:=ziy L i (cJ (eF Y L i 3) i) hi;rw [←zf6 hi] at hb;unfold smu;by_cases hs:cJ (eF Y L i 3) i=cJ L i
 ·rw [if_pos hs];rw [hs] at hb;simp only [List.length_cons];omega
 ·rw [if_neg hs];have hlt:=zpC (zf1 (Y:=Y) hi 3) hs; (have h6:(if fk (ki Y (eF Y L i 3) i ws)=[] then 0 else 600)≤600:=by split <;> omega);simp only [List.length_cons];omega
def Ne (j:Nat):List Value:=[.int .i64 (j:Int)]
structure QuOk (w:World) (v:Value) (q:List Nat):Prop where
 sl:SlOf w v Ne 1 q
 cap:∀A n c,v= .slice A n c→n≤c
 lt:∀g,v.ownBlock=some g→∃cs t,w.heap[g]?=some (.cells cs t (0,0))
theorem SlOf.loc {α:Type}{w w':World}{v:Value}{enc:α→List Value}{size:Nat}{xs:List α}(h:SlOf w v enc size xs)(hl:∀g,v.ownBlock=some g→w'.heap[g]?=w.heap[g]?):SlOf w' v enc size xs:=by
 obtain ⟨A,cap,rfl,hc⟩:=h;refine ⟨A,cap,rfl,fun hp=>?_⟩;obtain ⟨g,off,rfl,hcs⟩:=hc hp;have hg:=hl g rfl
 exact ⟨g,off,rfl,fun i hi j hj=>by
  rw [←hcs i hi j hj]
  exact World.cell?_of_block (w:=w) hg⟩
@[irreducible] def Ent.qu (v:Value) (q:List Nat):Ent where
 fp g:=v.ownBlock=some g
 ok w:=QuOk w v q
 loc h k:=⟨k.sl.loc h,k.cap,fun g hg=>by rw [h g hg];exact k.lt g hg⟩
 lt h g hg:=by obtain ⟨cs,t,e⟩:=h.lt g hg;exact (Array.getElem?_eq_some_iff.1 e).1
 nd h g hg c:=by obtain ⟨cs,t,e⟩:=h.lt g hg;rw [e];simp
theorem gk {v:Value}{q:List Nat}{g:Nat}:(Ent.qu v q).fp g↔v.ownBlock=some g:=by unfold Ent.qu;exact Iff.rfl
theorem fO {v:Value}{q:List Nat}{w:World}:(Ent.qu v q).ok w↔QuOk w v q:=by unfold Ent.qu;exact Iff.rfl
theorem zn9 (l:List Nat):jr l=l.flatMap Ne:=by
 unfold jr
 induction l with
 |nil=>rfl
 |cons x r ih=>simp_all [Ne]
theorem zih {w:World}{v:Value}{e:TypeId}{q:List Nat}{n:Nat}(hn:n=q.length)(h:(Ent.sl v e 1 n (jr q)).ok w):(Ent.qu v q).ok w:=by
 have ho:=cY.1 h;rw [zn9] at ho;refine fO.2 ⟨SlOf.own (enc:=Ne) (size:=1) (fun _=>rfl) ho hn,?_,?_⟩
 ·rintro A m c rfl;rcases ho.2 with ⟨e,_⟩|⟨g,cap,cur,e,_,_,h1,_⟩
  ·cases e;exact Nat.le_refl _
  ·cases e;exact h1
 ·intro g hg;rcases ho.2 with ⟨e,_⟩|⟨g',cap,cur,e,_,h1,_⟩
  ·rw [e] at hg;cases hg
  ·rw [e] at hg;simp [Value.ownBlock] at hg;subst hg;exact ⟨_,_,h1⟩
section
variable {F:Fence}{P:Program}{n:Nat}{B D:World}{M:Nat→Prop}{Q:Exit→Act→World→Prop}{fs:d4}{hs:HS}{o:Oper}{ops:Array Oper}{l:List Oper}{c:Code}{e:Exit}
theorem Hp.conv {w:World}{i:Nat}{a b:Ent}(h:Hp B M hs w)(hi:hs[i]?=some a)(hok:a.ok w→b.ok w)(hfp:∀g,b.fp g→a.fp g):Hp B M (hs.set i b) w:=
 h.updAt hi (Only.refl (fun _=>False) w) (fun _ _ h=>h.elim) (hok (h.get hi)) (fun g hg=> .inl (hfp g hg))
theorem TL.conv (i:Nat)(a b:Ent){hs':HS}(hi:hs[i]?=some a)(hok:∀w,a.ok w→b.ok w)(hfp:∀g,b.fp g→a.fp g)[hH:SetAt hs i b hs'](h:TL F P n B D M ops Q l fs hs'):TL F P n B D M ops Q l fs hs:=⟨fun a' w ha hw hm=>h.out a' w ha (by rw [←hH.h];exact hw.conv hi (hok w) hfp) hm⟩
theorem K.conv (i:Nat)(a b:Ent){hs':HS}(hi:hs[i]?=some a)(hok:∀w,a.ok w→b.ok w)(hfp:∀g,b.fp g→a.fp g)[hH:SetAt hs i b hs'](h:K n B D M Q e fs hs'):K n B D M Q e fs hs:=⟨fun a' w ha hw hm=>h.out a' w ha (by rw [←hH.h];exact hw.conv hi (hok w) hfp) hm⟩
theorem Yv.cB (i:Nat){t e:TypeId}{k:Nat}{x:Operand}{v:Value}{q:List Nat}[hT:TySl P t e k](ho:o.op= .call { callee:= .builtin .len,args:= #[x],argTypes:= #[t] })(hx:ev fs x=some v)(hi:hs[i]?=some (.qu v q)):Yv P n B M fs hs o (.int .i64 (q.length:Int)):=fun a w ha hw=>by
 obtain ⟨A,cap,rfl,_⟩:=(fO.1 (hw.get hi)).sl;exact iD (B:=B) (M:=M) (hs:=hs) ho hx a w ha hw
theorem T.ce (i:Nat){v:Value}{x:Nat}{q:List Nat}(hi:hs[i]?=some (.qu v (x :: q)))(h:∀g off cap,v= .slice (some ⟨g,off,none⟩) (q.length+1) cap→q.length+1≤cap→T F P n B D M c Q fs hs):T F P n B D M c Q fs hs:=⟨fun a w ha hw hm=>by
 have hq:=fO.1 (hw.get hi);obtain ⟨A,cap,rfl,hc⟩:=hq.sl;obtain ⟨g,off,rfl,_⟩:=hc a9
 exact (h g off cap rfl (hq.cap _ _ _ rfl)).out a w ha hw hm⟩
theorem Yv.cq (i:Nat){t:TypeId}[hT:TyS P t]{g off p cap m:Nat}{x:Nat}{q:List Nat}{y:Operand}(ho:o.op= .load t y)(hy:ev fs y=some (.pointer (some ⟨g,p,none⟩)))(hi:hs[i]?=some (.qu (.slice (some ⟨g,off,none⟩) m cap) (x :: q)))(hp:p=off):Yv P n B M fs hs o (.int .i64 (x:Int)):=fun a w ha hw=>by
 subst hp;obtain ⟨A,cap',e,hc⟩:=(fO.1 (hw.get hi)).sl
 cases e
 obtain ⟨g',off',e,hcs⟩:=hc a9
 cases e
 have:=hcs 0 a9 0 (by simp [Ne]);exact zeN ho (ha.ev hy) (by simpa [Ne] using this)
def lh (g off n:Nat):Value:= .slice (if n+1=1 then some ⟨g,off,none⟩ else some ⟨g,off+1,none⟩) n n
theorem Yv.cf {t e:TypeId}{x a b d:Operand}{g off m cap:Nat}[hT:TySl P t e 1](ho:o.op= .slice t x (some a) (some b) (some d))(hx:ev fs x=some (.slice (some ⟨g,off,none⟩) (m+1) cap))(ha:ev fs a=some (.int .i64 1))(hb:ev fs b=some (.int .i64 ((m+1:Nat):Int)))(hd:ev fs d=some (.int .i64 ((m+1:Nat):Int)))(hc:m+1≤cap):Yv P n B M fs hs o (lh g off m):=fun f w hf _=>by
 have hr:(Instr.sliceAt t (.slice (some ⟨g,off,none⟩) (m+1) cap) (some (.int .i64 1)) (some (.int .i64 ((m+1:Nat):Int))) (some (.int .i64 ((m+1:Nat):Int)))).run P w= .ok (lh g off m) w:=by
  have h:=hT.h;unfold zfY at h
  split at h
  ·rename_i el hU
   cases hi':P.info? el with
   |none=>rw [hi'] at h;cases h
   |some inf=>
    rw [hi'] at h;simp only [Option.map,Option.some.injEq,Prod.mk.injEq] at h;obtain ⟨rfl,hsz⟩:=h
    have h1:(Instr.sliceBounds true (m+1) cap (some (.int .i64 1)) (some (.int .i64 ((m+1:Nat):Int))) (some (.int .i64 ((m+1:Nat):Int)))).run P w= .ok (1,m+1,m+1) w:=by
     unfold Instr.sliceBounds;simp only [Sem.run_bind,run_sliceBound w .i64 ((m+1:Nat):Int) cap _ a5 a5,Result.andThen,Int.toNat_natCast,run_sliceBound w .i64 ((m+1:Nat):Int) (m+1) _ a5 a5,run_sliceBound w .i64 1 (m+1) _ a5 a5]
     rfl
    obtain ⟨z,hz⟩:∃z:Int,z=((m+1:Nat):Int):=⟨_,rfl⟩;rw [←hz] at h1 ⊢;simp [Instr.sliceAt,Instr.slice,underlying,hU,h1,sizeOf,typeInfo,hi',hsz,lh,Addr.add,Result.andThen]
  ·cases h
 unfold execOp;simp only [ho,hf.ev hx,hf.ev ha,hf.ev hb,hf.ev hd,Option.map];rw [Sem.run_bind,hr]
 rfl
end
theorem zlT {g off n b:Nat}(h:(lh g off n).ownBlock=some b):b=g:=by
 unfold lh at h
 split at h <;> (simp [Value.ownBlock] at h;exact h.symm)
theorem zpd {w:World}{g off cap x:Nat}{q:List Nat}(h:(Ent.qu (.slice (some ⟨g,off,none⟩) (q.length+1) cap) (x :: q)).ok w):(Ent.qu (lh g off q.length) q).ok w:=by
 have hq:=fO.1 h;obtain ⟨A,cap',e,hc⟩:=hq.sl
 cases e
 obtain ⟨g',off',e,hcs⟩:=hc a9
 cases e
 refine fO.2 ⟨⟨_,_,rfl,fun hl=>?_⟩,?_,fun b hb=>?_⟩
 ·refine ⟨g,off+1,by rw [if_neg a5],fun i hi=>?_⟩;have:=hcs (i+1) (by simpa using hi);simp only [List.getElem_cons_succ] at this;rw [show off+1+i*1=off+(i+1) *1 by omega];exact this
 ·intro A n c e;unfold lh at e
  cases e
  exact Nat.le_refl _
 ·rw [zlT hb];exact hq.lt g rfl
def gE (Y:Tb)(L0 L:Ws)(c:Bool):Prop:=Reach Y L0 L∧L.length=Y.n∧(c=true→∃i,i<Y.n∧cJ L i=0#64)∧(c=false→∀i,i<Y.n→ziZ Y L i)
def rid (k:Nat):Nat:=if k=0 then 153 else if k=1 then 154 else 155
instance (k:Nat):Enters Tryz.prog (rid k):=by
 unfold rid;split
 ·exact inferInstance
 ·split <;> exact inferInstance
def ruleFs:List Value:=[.func (.func 153) #[] #[], .func (.func 154) #[] #[], .func (.func 155) #[] #[]]
theorem zpp {k:Nat}(h:k<3):ruleFs[k]?=some (.func (.func (rid k)) #[] #[]):=by
 (obtain rfl|rfl|rfl:k=0∨k=1∨k=2:=by omega)
 all_goals rfl
theorem zkC (sp:Nat)(Y:Tb)(L:Ws)(c:Bool)(i:Nat)(z:Int)(hz:z=(i:Int))(hi:i<Y.n)(w:World)(h:StateAt w sp Y L c)(hok:Y.Ok)(k:Nat)(hk:k<3):Calls Tryz.prog (rid k) #[.pointer (some ⟨sp,0,none⟩), .int .i64 z] w fun e w'=>e= .returned (U (zhn Y L i k))∧Below w.heap.size w w':=by
 (obtain rfl|rfl|rfl:k=0∨k=1∨k=2:=by omega)
 ·exact zjJ sp Y L c i z hz hi w h hok
 ·exact zkR sp Y L c i z hz hi w h hok
 ·exact zjD sp Y L c i z hz hi w h hok
abbrev sV (gl n:Nat):Value:= .slice (some ⟨gl,0,none⟩) n n
abbrev sG (gl:GL)(n:Nat):Value:= .slice (some ⟨gl.b,0,none⟩) n gl.c
abbrev dF (sp:Nat)(gl:GL)(tp n:Nat)(c:Bool):Ent:= .row sp 188 [.pointer (some ⟨tp,0,none⟩),sG gl n, .bool c]
abbrev eX (gl:GL)(n:Nat)(L:Ws):Ent:= .sl (sG gl n) 80 1 n (Ws.cells L)
theorem zm7 (L:Ws):Ws.cells L=L.flatMap Le:=by
 induction L with
 |nil=>rfl
 |cons x r ih=>simp_all [Le,Ws.cells]
theorem iH {B w0 w:World}{M:Nat→Prop}{hs:HS}{sp:Nat}{gl:GL}{tp:Nat}{Y:Tb}{L:Ws}{c:Bool}(hw:Hp B M hs w)(ht:TablesAt w0 tp Y)(hfr:Fz w0 w)(htab:Tab w)(i j:Nat)(hi:hs[i]?=some (dF sp gl tp Y.n c))(hj:hs[j]?=some (eX gl Y.n L))(hl:L.length=Y.n):StF w0 w sp gl tp Y L c:=by
 have h1:=c7.1 (hw.get hi);have h2:=cY.1 (hw.get hj);rw [zm7] at h2;have h3:=SlOf.own (enc:=Le) (size:=1) (fun _=>rfl) h2 hl.symm;rw [←hl] at h1 h3;exact ⟨ht,hfr,by rw [jP h1];rfl,by rw [jP h1];rfl,h3,hl,by rw [jP h1];rfl,htab⟩
theorem zgI {L:Ws}{i p:Nat}{b:BitVec 64}(hp:p=i):(Ws.cells L).set p (U b)=Ws.cells (L.set i b):=Ws.put hp
theorem zhE (w0:World)(sp:Nat)(gl:GL)(tp:Nat)(Y:Tb)(L:Ws)(c:Bool)(v:Value)(q:List Nat)(w:World)(ht:TablesAt w0 tp Y)(hok:Y.Ok)(hfr:Fz w0 w)(htab:Tab w)(hes:Hp w (dG [dF sp gl tp Y.n c,eX gl Y.n L,Ent.qu v q]) [dF sp gl tp Y.n c,eX gl Y.n L,Ent.qu v q] w)(hMN:∀g,dG [dF sp gl tp Y.n c,eX gl Y.n L,Ent.qu v q] g→¬jJ w0 g)(hM0:¬dG [dF sp gl tp Y.n c,eX gl Y.n L,Ent.qu v q] 0)(hinv:SInv Y L L q fx c):Calls Tryz.prog 143 #[.pointer (some ⟨sp,0,none⟩),v] w fun e w'=>∃y:Ws×Bool,gE Y L y.1 y.2∧e= .returned (.tuple #[])∧Hp w (dG [dF sp gl tp Y.n c,eX gl Y.n L,Ent.qu v q]) [dF sp gl tp Y.n y.2,eX gl Y.n y.1] w':=by
 have hn512:=hok.n;refine dt (M:=dG [dF sp gl tp Y.n c,eX gl Y.n L,Ent.qu v q]) (hs:=[dF sp gl tp Y.n c,eX gl Y.n L,Ent.qu v q]) Tryz.func143 rfl rfl rfl hes ?_;refine T.scope ?_;refine dh ?_;refine cL (Yv.bT rfl rfl) ?_; (refine cN (Wt.none) rfl rfl (Ew.alloc) ?_;rintro _ _ ⟨g4,rfl,rfl⟩); (refine dP (Wt.none) rfl (dI 0) ?_;rintro _ _ ⟨rfl,rfl⟩);refine dX ?_; (refine cN (Wt.none) rfl rfl (Ew.alloc) ?_;rintro _ _ ⟨g5,rfl,rfl⟩);refine lQ ?_;refine T.label ?_;refine K.seq (T.block ?_);refine T.loop (ι:=Ws×List Nat×Ws×Bool×Value) (fun x=>[(0, .pointer (some ⟨sp,0,none⟩)),(4, .pointer (some ⟨g4,0,none⟩)),(5, .pointer (some ⟨g5,0,none⟩)),(1,x.2.2.2.2)]) (fun x=>[.row g5 83 (Ws.cells x.2.2.1), .row g4 217 ruleFs,dF sp gl tp Y.n x.2.2.2.1,eX gl Y.n x.1,Ent.qu x.2.2.2.2 x.2.1]) (fun x=>SInv Y L x.1 x.2.1 x.2.2.1 x.2.2.2.1) (fun x=>smu x.1 x.2.1 x.2.2.1) (L,q,fx,c,v) ?_ ?_ ?_ ?_
 ·exact hinv
 ·exact (by repeat (first|exact Sub.nil|refine Sub.cons rfl ?_))
 ·exact Sx
 ·intro x hphi;obtain ⟨L1,q1,ws1,c1,v1⟩:=x;dsimp only at hphi ⊢;have hws8:=hphi.ws8;refine iC ?_;refine nn ?_;refine dA ?_;refine T.cond rfl (fun h1=>?_) (fun h1=>?_)
  ·have p1:=h1; (try simp only [cX] at p1); (obtain rfl:c1=false:=by simpa using p1);refine T.skip (K.seq (T.block ?_));refine kl (ι:=List Nat×Ws×Value) (fun y=>[(0, .pointer (some ⟨sp,0,none⟩)),(4, .pointer (some ⟨g4,0,none⟩)),(5, .pointer (some ⟨g5,0,none⟩)),(1,y.2.2)]) (fun y=>[.row g5 83 (Ws.cells y.2.1), .row g4 217 ruleFs,dF sp gl tp Y.n false,eX gl Y.n L1,Ent.qu y.2.2 y.1]) (fun y=>SInv Y L L1 y.1 y.2.1 false∧y.1≠[]∧smu L1 y.1 y.2.1≤smu L1 q1 ws1) ?_ ?_
   ·skip;refine gy ?_;refine cL (Yv.cB 4 rfl rfl rfl) ?_;refine dA ?_;refine T.cond rfl (fun h2=>?_) (fun h2=>?_)
    ·have p2:=h2; (try simp only [cX] at p2);obtain rfl:q1=[]:=List.eq_nil_of_length_eq_zero a5;refine dh ?_;refine cL (dO 0 rfl rfl rfl (by rw [List.length_map,hws8])) ?_; (refine cN (Wt.none) rfl rfl (jy rfl rfl rfl (fun w hw=>zkH ws1 hws8 w (htab.kept hw hM0))) ?_;rintro v20 _ ⟨_, -,rfl,rfl⟩);refine fI ?_;refine lk ?_;refine di ?_; (refine dP (Wt.none) rfl (dI 1 rfl rfl rfl rfl rfl (by rw [List.length_map,hws8];rfl)) ?_;rintro _ _ ⟨rfl,rfl⟩);refine m7 ?_;refine cL (lY 0 rfl rfl rfl) ?_;refine dA ?_;refine T.cond rfl (fun h3=>?_) (fun h3=>?_)
     ·have p3:=h3; (try simp only [cX] at p3);have hfin:gE Y L L1 false:=⟨hphi.reach,hphi.len,(fun hh=>by cases hh),fun _=>hphi.calm (List.eq_nil_of_length_eq_zero a5)⟩;refine T.exit (gg ?_);refine K.bc rfl ?_;refine gg (jt ?_);refine K.bn ?_;exact q5u
     ·have p3:=h3; (try simp only [cX] at p3); (have hmem:fk ws1≠[]:=by intro hh;rw [hh] at p3;exact p3 rfl);refine T.skip ?_;refine K.conv 0 _ (Ent.qu v20 (fk ws1)) rfl (fun w hh=>zih rfl hh) (fun g hg=>dg.2 (gk.1 hg)) ?_;refine K.bI (List.perm_append_comm (l₁:=[Ent.qu v20 (fk ws1)])) ?_;exact cS (fk ws1,fx,v20) ⟨hphi.refill,hmem,Nat.le_of_lt (zkL hmem)⟩ (by repeat (first|exact Sub.nil|refine Sub.cons rfl ?_)) Sx
    ·have p2:=h2; (try simp only [cX] at p2);refine T.skip ?_;exact cS (q1,ws1,v1) ⟨hphi,fun hh=>p2 (by rw [show q1=[] from hh];rfl),Nat.le_refl _⟩ (by repeat (first|exact Sub.nil|refine Sub.cons rfl ?_)) Sx
   ·skip;intro y hphi;obtain ⟨q2,ws2,v2⟩:=y;dsimp only at hphi ⊢;obtain ⟨hinv2,hq2,hmu2⟩:=hphi; (obtain ⟨i,r,rfl⟩:∃i r,q2=i :: r:=by cases q2 with|nil=>exact absurd rfl hq2|cons a b=>exact ⟨a,b,rfl⟩);have hws8:=hinv2.ws8;have hi:i<Y.n:=hinv2.qn i a9;have hl1:=hinv2.len; (have hr511:r.length≤511:=by have:=hinv2.q512;simp at this;omega);have hstep:=hinv2.step hok;have hsmu:=znn (Y:=Y) (L:=L1) (i:=i) (q:=r) (ws:=ws2) a5 hr511;refine T.ce 4 rfl ?_;rintro gq oq capq rfl hcq;refine gy ?_;refine cL (gJ rfl rfl rfl (show (0:Int)=((0:Nat):Int) from rfl) a5) ?_;refine cL (Yv.cq 4 rfl rfl rfl a5) ?_;refine gF ?_;refine d8 ?_;refine mn ?_;refine di ?_;refine mn ?_;refine cL (Yv.cf rfl rfl rfl rfl rfl hcq) ?_;refine j9 ?_;have hld0:(Ws.cells L1)[0+i*1]?=some (U (cJ L1 i)):=Ws.get a5 a5;refine fP ?_;refine TL.conv 4 _ (Ent.qu (lh gq oq r.length) r) rfl (fun w hh=>zpd hh) (fun g hg=>by rw [zlT (gk.1 hg)];exact gk.2 rfl) ?_;refine d8 ?_;refine nn ?_;refine mZ ?_;refine cL (fm 3 rfl rfl rfl hld0) ?_;refine dA ?_;refine T.cut (gs:=[(0, .pointer (some ⟨sp,0,none⟩)),(4, .pointer (some ⟨g4,0,none⟩)),(5, .pointer (some ⟨g5,0,none⟩)),(1,lh gq oq r.length),(6, .int .i64 (i:Int)),(7,U (cJ L1 i))]) (hs':=[.row g5 83 (Ws.cells ws2), .row g4 217 ruleFs,dF sp gl tp Y.n false,eX gl Y.n (eF Y L1 i 3),Ent.qu (lh gq oq r.length) r]) ?_ ?_
    ·skip;refine dh ?_;refine cL (dO 1) ?_;refine di ?_;refine db (T.block ?_);refine T.loop (ι:=Nat) (fun k=>[(0, .pointer (some ⟨sp,0,none⟩)),(4, .pointer (some ⟨g4,0,none⟩)),(5, .pointer (some ⟨g5,0,none⟩)),(1,lh gq oq r.length),(6, .int .i64 (i:Int)),(7,U (cJ L1 i)),(41, .agg ruleFs.toArray),(42, .int .i64 (k:Int))]) (fun k=>[.row g5 83 (Ws.cells ws2), .row g4 217 ruleFs,dF sp gl tp Y.n false,eX gl Y.n (eF Y L1 i k),Ent.qu (lh gq oq r.length) r]) (fun k=>k≤3) (fun k=>3 - k) 0 ?_ ?_ ?_ ?_
     ·omega
     ·exact (by repeat (first|exact Sub.nil|refine Sub.cons rfl ?_))
     ·exact Sx
     ·intro k hphi;refine fb ?_;refine T.cond rfl (fun h4=>?_) (fun h4=>?_)
      ·have p4:=h4; (try simp only [cX] at p4);have hrl:=zcv (Y:=Y) (L:=L1) (i:=i) k;have hld:(Ws.cells (eF Y L1 i k))[0+i*1]?=some (U (cJ (eF Y L1 i k) i)):=Ws.get a5 a5;have hrid:=zpp (k:=k) a5;refine fh ?_;refine cL (m8 rfl rfl rfl rfl a5 hrid) ?_;refine kv ?_;refine d8 ?_;refine nn ?_;refine mZ ?_;refine cL (fm 3 rfl rfl rfl hld) ?_;refine dA ?_;refine T.cond rfl (fun h5=>?_) (fun h5=>?_)
       ·have p5:=h5; (try simp only [cX] at p5);have hfin:gE Y L (eF Y L1 i k) true:=⟨zeL hinv2.reach hi k,by omega,fun _=>⟨i,hi,BitVec.eq_of_toNat_eq (by show _=0;omega)⟩,fun hh=>by cases hh⟩;refine jg ?_;refine fc ?_; (refine dP (Wt.none) rfl (eo 2 rfl rfl rfl rfl b5) ?_;rintro _ _ ⟨rfl,rfl⟩);refine db (T.exit (gg ?_));refine K.bc rfl ?_;refine gg (gg ?_);refine K.bc rfl ?_;refine gg ?_;refine K.bc rfl ?_;refine gg (jt ?_);refine K.bn ?_;exact q5u
       ·have p5:=h5; (try simp only [cX] at p5);refine mR ?_;refine dD (.still 0 (.still 1 (.still 2 (.still 3 (.still 4 (.still 5 (.still 7 (.still 8 (.still 9 (.two 6 10 (.eff 10 (sN 11 2 (.eff 13 .done))) (.eff 6 (sN 11 2 (.eff 13 .done))))))))))))) (List.eraseIdx _ 3) a7 (List.eraseIdx_sublist _ _) ?_;refine jO ?_;refine cQ rfl (dc 2) ?_;refine fK ?_;refine q3h ?_;refine gb ?_;refine TS.two ?_ ?_
        ·skip;refine eT rfl (Wt.none) rfl rfl (fm 3 rfl rfl rfl hld) Sx ?_;refine dy ?_; (refine de rfl (Wt.none) rfl rfl (cM rfl rfl rfl (fun w hw=>zkC sp Y (eF Y L1 i k) false i _ rfl hi w (iH hw ht (Fz.hp hfr hw hMN) (htab.kept hw hM0) 2 3 rfl rfl a5).st hok k a5)) ?_;rintro _ _ ⟨rfl,rfl⟩;refine ⟨Sx,?_⟩);refine cQ rfl (lZ rfl rfl rfl) ?_;refine q3h ?_;refine dy ?_; (refine dL rfl (Wt.none) rfl (fy 3 (Ws.cells (eF Y L1 i (k+1))) rfl rfl rfl rfl cE (zgI a5)) ?_;rintro _ _ ⟨rfl,rfl⟩;refine ⟨Sx,?_⟩);refine q1J ?_;exact K.next (k+1) a5 a5 (by repeat (first|exact Sub.nil|refine Sub.cons rfl ?_)) Sx
        ·skip; (refine de rfl (Wt.none) rfl rfl (cM rfl rfl rfl (fun w hw=>zkC sp Y (eF Y L1 i k) false i _ rfl hi w (iH hw ht (Fz.hp hfr hw hMN) (htab.kept hw hM0) 2 3 rfl rfl a5).st hok k a5)) ?_;rintro _ _ ⟨rfl,rfl⟩;refine ⟨Sx,?_⟩);refine dy ?_;refine eT rfl (Wt.none) rfl rfl (fm 3 rfl rfl rfl hld) Sx ?_;refine cQ rfl (lZ rfl rfl rfl) ?_;refine q3h ?_;refine dy ?_; (refine dL rfl (Wt.none) rfl (fy 3 (Ws.cells (eF Y L1 i (k+1))) rfl rfl rfl rfl cE (zgI a5)) ?_;rintro _ _ ⟨rfl,rfl⟩;refine ⟨Sx,?_⟩);refine q1J ?_;exact K.next (k+1) a5 a5 (by repeat (first|exact Sub.nil|refine Sub.cons rfl ?_)) Sx
      ·have p4:=h4; (try simp only [cX] at p4);refine eC ?_;exact K.at (by repeat (first|exact Sub.nil|refine Sub.cons rfl ?_)) (by rw [show 3=k by omega];exact Sx)
    ·skip;refine T.cut (gs:=[(0, .pointer (some ⟨sp,0,none⟩)),(4, .pointer (some ⟨g4,0,none⟩)),(5, .pointer (some ⟨g5,0,none⟩)),(1,lh gq oq r.length),(6, .int .i64 (i:Int)),(7,U (cJ L1 i))]) (hs':=[.row g5 83 (Ws.cells ws2), .row g4 217 ruleFs,dF sp gl tp Y.n (decide (cJ (eF Y L1 i 3) i=0#64)),eX gl Y.n (eF Y L1 i 3),Ent.qu (lh gq oq r.length) r]) ?_ ?_
     ·skip;refine T.seq ?_;have hrl3:=zcv (Y:=Y) (L:=L1) (i:=i) 3;have hld3:(Ws.cells (eF Y L1 i 3))[0+i*1]?=some (U (cJ (eF Y L1 i 3) i)):=Ws.get a5 a5;refine iW ?_;refine nn ?_;refine mZ ?_;refine cL (fm 3 rfl rfl rfl hld3) ?_;refine dA ?_;refine T.cond rfl (fun h6=>?_) (fun h6=>?_)
      ·have p6:=h6; (try simp only [cX] at p6);have hz3:cJ (eF Y L1 i 3) i=0#64:=BitVec.eq_of_toNat_eq (by show _=0;omega);refine iW ?_;refine fc ?_; (refine dP (Wt.none) rfl (eo 2 rfl rfl rfl rfl b5) ?_;rintro _ _ ⟨rfl,rfl⟩);refine eW ?_; (rw [decide_eq_true hz3];exact K.at (by repeat (first|exact Sub.nil|refine Sub.cons rfl ?_)) Sx)
      ·have p6:=h6; (try simp only [cX] at p6); (have hz3n:¬cJ (eF Y L1 i 3) i=0#64:=fun hh=>by rename_i hh2;exact (by assumption:¬((cJ (eF Y L1 i 3) i).toNat:Int)=0) (by rw [hh];rfl));refine T.skip ?_; (rw [decide_eq_false hz3n];exact K.at (by repeat (first|exact Sub.nil|refine Sub.cons rfl ?_)) Sx)
     ·skip;refine T.seq ?_;have hrl3:=zcv (Y:=Y) (L:=L1) (i:=i) 3;have hld3:(Ws.cells (eF Y L1 i 3))[0+i*1]?=some (U (cJ (eF Y L1 i 3) i)):=Ws.get a5 a5;refine iW ?_;refine nn ?_;refine mZ ?_;refine cL (fm 3 rfl rfl rfl hld3) ?_;refine jE ?_;refine T.cond rfl (fun h7=>?_) (fun h7=>?_)
      ·have p7:=h7; (try simp only [cX] at p7);have hch:¬cJ (eF Y L1 i 3) i=cJ L1 i:=fun hh=>(by assumption:¬((cJ (eF Y L1 i 3) i).toNat:Int)=((cJ L1 i).toNat:Int)) (by rw [hh]);refine iW ?_; (refine cN (Wt.none) rfl rfl (lV 0 rfl rfl rfl rfl (fun w hw=>zjz w0 sp gl tp g5 Y (eF Y L1 i 3) _ ws2 hws8 i _ rfl hi w (iH hw ht (Fz.hp hfr hw hMN) (htab.kept hw hM0) 2 3 rfl rfl a5) hok (by rcases hw.new _ (List.mem_of_getElem? (i:=0) rfl) g5 (cT.2 rfl) with hh|hh;exact hMN _ hh;exact (fun hc=>by have h9:=hfr _ hc;obtain ⟨_,_,_,h8⟩:=hc;rw [h8] at h9;have:=(Array.getElem?_eq_some_iff.1 h9).1;omega)) (by intro hz0;subst hz0;rcases hw.new _ (List.mem_of_getElem? (i:=0) rfl) 0 (cT.2 rfl) with hh|hh;exact hM0 hh;have:=htab.size;omega) (fun hh=>hw.ne (i:=0) (j:=2) a5 rfl rfl (g:=g5) (cT.2 rfl) (cT.2 hh.symm)) (fun hh=>hw.ne (i:=0) (j:=3) a5 rfl rfl (g:=g5) (cT.2 rfl) (dg.2 (congrArg some hh))) (hw.get (i:=0) rfl))) ?_;rintro _ _ ⟨-, -,rfl,rfl⟩);refine TL.nil (gT ?_);exact K.next (eF Y L1 i 3,r,(if cJ (eF Y L1 i 3) i=cJ L1 i then ws2 else ki Y (eF Y L1 i 3) i ws2),decide (cJ (eF Y L1 i 3) i=0#64),lh gq oq r.length) hstep a8 (by repeat (first|exact Sub.nil|refine Sub.cons rfl ?_)) (by dsimp only;first|(rw [if_neg hch];exact Sx)|(rw [if_pos hsm];exact Sx))
      ·have p7:=h7; (try simp only [cX] at p7);have hsm:cJ (eF Y L1 i 3) i=cJ L1 i:=BitVec.eq_of_toNat_eq a5;refine T.skip (gT ?_);exact K.next (eF Y L1 i 3,r,(if cJ (eF Y L1 i 3) i=cJ L1 i then ws2 else ki Y (eF Y L1 i 3) i ws2),decide (cJ (eF Y L1 i 3) i=0#64),lh gq oq r.length) hstep a8 (by repeat (first|exact Sub.nil|refine Sub.cons rfl ?_)) (by dsimp only;first|(rw [if_neg hch];exact Sx)|(rw [if_pos hsm];exact Sx))
  ·have p1:=h1; (try simp only [cX] at p1); (obtain rfl:c1=true:=by simpa using p1);have hfin:gE Y L L1 true:=⟨hphi.reach,hphi.len,hphi.bad,fun hh=>by cases hh⟩;refine eC ?_;refine K.bn ?_;exact q5u
def gn (N:Nat)(f:Nat→Int):List Value:=(List.range N).map fun d=> .int .i64 (f d)
theorem nF {N:Nat}{f:Nat→Int}:(gn N f).length=N:=by simp [gn]
theorem zhx {N:Nat}{f:Nat→Int}{d p:Nat}(hp:p=d)(hd:d<N):(gn N f)[p]?=some (.int .i64 (f d)):=by subst hp;simp [gn,hd]
theorem zk8 {N:Nat}{f f':Nat→Int}{d p:Nat}{v:Int}(hp:p=d)(hd:d<N)(h1:f' d=v)(h2:∀e,e≠d→f' e=f e):(gn N f).set p (.int .i64 v)=gn N f':=by
 subst hp h1;apply List.ext_getElem?;intro e;unfold gn;by_cases he:e=p
 ·subst he;rw [List.getElem?_set_self (by simpa using hd)];simp [hd]
 ·rw [List.getElem?_set_ne (fun h=>he h.symm)];simp only [List.getElem?_map,List.getElem?_range];by_cases h52:e<N
  ·simp [h52,h2 e he]
  ·simp [h52]
def dk (s:Value)(ix:List Value)(tot:Int)(p c i f:Value):List Value:=s :: (ix++[.int .i64 tot,p,c,i,f])
instance (N:Nat) (f:Nat→Int):OneCs (gn N f):=⟨fun x hx=>by obtain ⟨b,_,rfl⟩:=List.mem_map.1 hx;rfl⟩
instance (s:Value) (ix:List Value) (tot:Int) (p c i f:Value) [h1:OneC s] [h2:OneCs ix] [h3:OneC p] [h4:OneC c] [h5:OneC i] [h6:OneC f]:OneCs (dk s ix tot p c i f):=by unfold dk;exact inferInstance
section
variable {s p c i f:Value}{ix:List Value}{tot:Int}
theorem zhP (hix:ix.length=512):(dk s ix tot p c i f).length=518:=by simp [dk,hix]
theorem mt (hix:ix.length=512){q j:Nat}(hq:q=513+j:=by exact rfl):(dk s ix tot p c i f)[q]?=[.int .i64 tot,p,c,i,f][j]?:=by
 subst hq;unfold dk;rw [show 513+j=(512+j)+1 by omega,List.getElem?_cons_succ,List.getElem?_append_right a5,hix,Nat.add_sub_cancel_left]
theorem ziu (hix:ix.length=512){q j:Nat}(hj:j<512)(hq:q=1+j):(dk s ix tot p c i f)[q]?=ix[j]?:=by
 subst hq;unfold dk;rw [show 1+j=j+1 by omega,List.getElem?_cons_succ,List.getElem?_append_left a5]
theorem zjf (hix:ix.length=512){q j:Nat}{v:Value}(hj:j<512)(hq:q=1+j):(dk s ix tot p c i f).set q v=dk s (ix.set j v) tot p c i f:=by
 subst hq;unfold dk;rw [show 1+j=j+1 by omega,List.set_cons_succ,List.set_append_left _ _ a5]
theorem zh2 (hix:ix.length=512){q:Nat}{t:Int}(hq:q=513):(dk s ix tot p c i f).set q (.int .i64 t)=dk s ix t p c i f:=by
 subst hq;unfold dk;rw [show 513=512+1 from rfl,List.set_cons_succ,List.set_append_right _ _ a5,hix]
 rfl
end
def dZ (ds:List Dx):Nat→Nat→Int
 |0=>fun _=>0
 |k+1=>fun j=>if j=(cJ ds k).st.toNat then (k:Int)+1 else dZ ds k j
def gG (ds:List Dx):Nat→Int
 |0=>0
 |k+1=>gG ds k+((cJ ds k).chs.length:Int)
def upd {α:Type}(f:Nat→α)(a:Nat)(x:α):Nat→α:=fun j=>if j=a then x else f j
def dd {α:Type}(e:TypeId)(size n:Nat)(vv:Nat→Value)(enc:α→List Value)(f:Nat→List α):HS:=(List.range n).map fun j=> .sl (vv j) e size (f j).length ((f j).flatMap enc)
theorem zc8 {α:Type}{e:TypeId}{size n:Nat}{vv:Nat→Value}{enc:α→List Value}{f:Nat→List α}:(dd e size n vv enc f).length=n:=by simp [dd]
theorem zeU {α:Type}{e:TypeId}{size n:Nat}{vv:Nat→Value}{enc:α→List Value}{f:Nat→List α}{a:Nat}(h:a<n):(dd e size n vv enc f)[a]?=some (.sl (vv a) e size (f a).length ((f a).flatMap enc)):=by simp [dd,h]
theorem zda {α:Type}{e:TypeId}{size n:Nat}{vv:Nat→Value}{enc:α→List Value}{f:Nat→List α}{a:Nat}{v:Value}{x:α}(h:a<n):(dd e size n vv enc f).set a (.sl v e size ((f a).length+1) ((f a).flatMap enc++enc x))=dd e size n (upd vv a v) enc (upd f a (f a++[x])):=by
 apply List.ext_getElem?;intro j;unfold dd;by_cases hj:j=a
 ·subst hj;rw [List.getElem?_set_self (by simpa using h)];simp [h,upd]
 ·rw [List.getElem?_set_ne (fun e=>hj e.symm)];simp only [List.getElem?_map,List.getElem?_range,upd,if_neg hj];by_cases h52:j<n
  ·simp [h52,hj]
  ·simp [h52]
theorem zdP {n:Nat}{vv:Nat→Value}{a q:Nat}{v:Value}(hq:q=a)(h:a<n):((List.range n).map vv).set q v=(List.range n).map (upd vv a v):=by
 subst hq;apply List.ext_getElem?;intro j;by_cases hj:j=q
 ·subst hj;rw [List.getElem?_set_self (by simpa using h)];simp [h,upd]
 ·rw [List.getElem?_set_ne (fun e=>hj e.symm)];simp only [List.getElem?_map,List.getElem?_range];by_cases h52:j<n
  ·simp [h52,upd,hj]
  ·simp [h52]
theorem zhg {n:Nat}{vv:Nat→Value}{a q:Nat}(hq:q=a)(h:a<n):((List.range n).map vv)[q]?=some (vv a):=by subst hq;simp [h]
theorem znt (f:Nat→Value)(z:Value)(n:Nat):fR f z n 0=(List.range n).map fun _=>z:=by
 unfold fR;apply List.ext_getElem?;intro j;by_cases h:j<n
 ·simp [h,List.getElem?_replicate]
 ·simp [h,List.getElem?_replicate]
theorem fillT (g1 g3 g5 g7 g9 n:Nat):Fill (zhj Tryz.prog 215) ([.slice none 0 0]++List.replicate 513 (.int .i64 0)++List.replicate 4 (.slice none 0 0)) [(0,sV g1 n),(3,sV g3 n),(4,sV g5 n),(5,sV g7 n),(6,sV g9 n)] (dk (sV g1 n) (gn 512 fun _=>0) 0 (sV g3 n) (sV g5 n) (sV g7 n) (sV g9 n)):=⟨by kernel_rfl⟩
structure Pb.Good (P:Pb):Prop where
 n:P.ds.length≤512
 st:∀d∈P.ds,0≤d.st∧d.st≤511
 chs:∀d∈P.ds,d.chs.length≤52∧∀c∈d.chs,2≤c∧c≤51
 inc:∀i j,i<j→j<P.ds.length→(cJ P.ds i).st<(cJ P.ds j).st
 ps:∀x∈P.ps,x.ok=true∧(∃i,i<P.ds.length∧x.a=(cJ P.ds i).st)∧∃i,i<P.ds.length∧x.b=(cJ P.ds i).st
 ls:∀x∈P.ls,x.ok=true∧(∃i,i<P.ds.length∧x.to=(cJ P.ds i).st)∧∃i,i<P.ds.length∧x.fr=(cJ P.ds i).st
 cs:∀x∈P.cs,x.ok=true∧∃i,i<P.ds.length∧x.st=(cJ P.ds i).st
 lps:P.ps.length≤4096
 lls:P.ls.length≤1024
 lcs:P.cs.length≤1024
theorem zoZ {xs:List Dx}(h:fG (fun a b:Dx=>dT a.st b.st) xs=true):∀i j,i<j→j<xs.length→(cJ xs i).st<(cJ xs j).st:=by
 intro i j hij
 induction j with
 |zero=>omega
 |succ j ih=>
  intro hj;have h1:=kN.1 (kL.1 h j hj);rcases Nat.lt_or_ge i j with h2|h2
  ·have:=ih h2 a5;omega
  ·rw [show i=j by omega];exact h1
theorem Pb.good {P:Pb}(h:P.ok=true):P.Good:=by
 simp only [Pb.ok,Pb.rulesOk,Bool.and_eq_true,decide_eq_true_eq] at h;obtain ⟨h1,⟨h2,h3,h4,h5,h6,h7,h8,h9,h10⟩,h11,h12,h13,h14⟩:=h
 have hst:∀d∈P.ds,0≤d.st∧d.st≤511:=fun d hd=>by
  have:=em.1 h1 d hd;simp only [Dx.ok,inB,Bool.and_eq_true,decide_eq_true_eq] at this;exact this.1
 have hmem:∀x,P.has x=true→∃i,i<P.ds.length∧x=(cJ P.ds i).st:=fun x hx=>by
  unfold Pb.has at hx;have:=(zjs (P.ds.map fun d:Dx=>d.st) (fun y hy=>by obtain ⟨d,hd,rfl⟩:=List.mem_map.1 hy;exact hst d hd) x).1 hx;obtain ⟨d,hd,rfl⟩:=List.mem_map.1 this;obtain ⟨i,hi,rfl⟩:=List.mem_iff_getElem.1 hd;exact ⟨i,hi,by rw [dV hi]⟩
 refine ⟨zmL h11 h1,hst,fun d hd=>?_,zoZ h11,fun x hx=>?_,fun x hx=>?_,fun x hx=>?_,by omega,by omega,by omega⟩
 ·have:=em.1 h1 d hd;simp only [Dx.ok,inB,Bool.and_eq_true,decide_eq_true_eq] at this
  have hr:∀c∈d.chs,2≤c∧c≤51:=fun c hc=>by
   have:=em.1 this.2.1 c hc;simp only [Bool.and_eq_true,decide_eq_true_eq] at this;exact this
  refine ⟨?_,hr⟩;rcases Nat.lt_or_ge 52 d.chs.length with hl|hl
  ·have h1:=zmt (f:=fun c:Int=>c) this.2.2 (fun c hc=>by have:=hr c hc;omega) 52 hl;have h2:=hr _ (iY hl);omega
  ·exact hl
 ·have:=em.1 h12 x hx;simp only [Bool.and_eq_true] at this;exact ⟨em.1 h3 x hx,hmem _ this.1,hmem _ this.2⟩
 ·have:=em.1 h13 x hx;simp only [Bool.and_eq_true] at this;exact ⟨em.1 h6 x hx,hmem _ this.1,hmem _ this.2⟩
 ·exact ⟨em.1 h9 x hx,hmem _ (em.1 h14 x hx)⟩
theorem zo9 {P:Pb}(h:P.Good){i:Nat}:∀k,k≤P.ds.length→i<k→dZ P.ds k (cJ P.ds i).st.toNat=(i:Int)+1
 |0,_,hi=>by omega
 |k+1,hk,hi=>by
  show (if (cJ P.ds i).st.toNat=(cJ P.ds k).st.toNat then (k:Int)+1 else dZ P.ds k (cJ P.ds i).st.toNat)=(i:Int)+1
  have h1:=h.st _ (iY (show i<P.ds.length by omega));by_cases he:i=k
  ·subst he;rw [if_pos rfl]
  ·have:=h.inc i k a5 a5;rw [if_neg a5];exact zo9 h k a5 a5
def Pb.ix (P:Pb)(s:Int):Int:=dZ P.ds P.ds.length s.toNat - 1
theorem eU {P:Pb}(h:P.Good){i:Nat}(hi:i<P.ds.length):P.ix (cJ P.ds i).st=(i:Int):=by
 unfold Pb.ix;rw [zo9 h _ (Nat.le_refl _) hi];omega
theorem znK {P:Pb}(h:P.Good):∀k,k≤P.ds.length→0≤gG P.ds k∧gG P.ds k≤52* (k:Int)
 |0,_=>by simp [gG]
 |k+1,hk=>by
  have h1:=znK h k a5;have h2:=(h.chs _ (iY (show k<P.ds.length by omega))).1;rw [gG];omega
def Pb.rp (P:Pb)(x:Pr):Pr:={ x with a:=P.ix x.a,b:=P.ix x.b }
def Pb.rl (P:Pb)(x:Ld):Ld:={ x with to:=P.ix x.to,fr:=P.ix x.fr }
def Pb.rc (P:Pb)(x:Cp):Cp:={ x with st:=P.ix x.st }
def Pb.psA (P:Pb)(k j:Nat):List Pr:=((P.ps.take k).map P.rp).filter fun x=>decide (x.a=(j:Int))||decide (x.b=(j:Int))
def Pb.inA (P:Pb)(k j:Nat):List Ld:=((P.ls.take k).map P.rl).filter fun x=>decide (x.to=(j:Int))
def Pb.ouA (P:Pb)(k j:Nat):List Ld:=((P.ls.take k).map P.rl).filter fun x=>decide (x.fr=(j:Int))
def Pb.csA (P:Pb)(k j:Nat):List Cp:=((P.cs.take k).map P.rc).filter fun x=>decide (x.st=(j:Int))
theorem ziL {α β:Type}[Inhabited α]{l:List α}{r:α→β}{q:β→Bool}{k:Nat}(h:k<l.length):((l.take (k+1)).map r).filter q=((l.take k).map r).filter q++(if q (r (cJ l k)) then [r (cJ l k)] else []):=by
 rw [List.take_succ_eq_append_getElem h,dV h,List.map_append,List.filter_append]
 congr 1
 simp only [List.map_cons,List.map_nil,List.filter_cons,List.filter_nil]
theorem zdr {α β:Type}{l:List α}{r:α→β}{q:β→Bool}{k:Nat}:(((l.take k).map r).filter q).length≤l.length:=by
 refine Nat.le_trans (List.length_filter_le _ _) ?_;rw [List.length_map,List.length_take];omega
theorem zkj {P:Pb}{k:Nat}(h:k<P.ps.length){a b:Nat}(ha:P.ix (cJ P.ps k).a=(a:Int))(hb:P.ix (cJ P.ps k).b=(b:Int))(hab:a≠b):upd (upd (P.psA k) a (P.psA k a++[P.rp (cJ P.ps k)])) b (upd (P.psA k) a (P.psA k a++[P.rp (cJ P.ps k)]) b++[P.rp (cJ P.ps k)])=P.psA (k+1):=by
 funext j
 have e:P.psA (k+1) j=P.psA k j++(if (decide ((P.rp (cJ P.ps k)).a=(j:Int))||decide ((P.rp (cJ P.ps k)).b=(j:Int)))=true then [P.rp (cJ P.ps k)] else []):=ziL h;rw [e];have e1:(P.rp (cJ P.ps k)).a=(a:Int):=ha;have e2:(P.rp (cJ P.ps k)).b=(b:Int):=hb;rw [e1,e2];unfold upd;by_cases hjb:j=b
 ·subst hjb;rw [if_pos rfl,if_neg (fun h=>hab h.symm),if_pos a9]
 ·by_cases hja:j=a
  ·subst hja;rw [if_neg hjb,if_pos rfl,if_pos a9]
  ·rw [if_neg hjb,if_neg hja,if_neg cG,List.append_nil]
theorem zh4 {α β:Type}[Inhabited α]{l:List α}{r:α→β}{f:β→Int}{k a:Nat}(h:k<l.length)(ha:f (r (cJ l k))=(a:Int)):upd (fun j:Nat=>((l.take k).map r).filter fun x=>decide (f x=(j:Int))) a (((l.take k).map r).filter (fun x=>decide (f x=(a:Int)))++[r (cJ l k)])=fun j:Nat=>((l.take (k+1)).map r).filter fun x=>decide (f x=(j:Int)):=by
 funext j
 rw [ziL h,ha];unfold upd;by_cases hj:j=a
 ·subst hj;rw [if_pos rfl,if_pos a9]
 ·rw [if_neg hj,if_neg cG,List.append_nil]
theorem ziH {α:Type}{e:TypeId}{size n:Nat}{enc:α→List Value}{f:Nat→List α}(hf:∀j,f j=[]):(∀w,∀x∈dd e size n (fun _=> .slice none 0 0) enc f,x.ok w)∧∀x∈dd e size n (fun _=> .slice none 0 0) enc f,∀g,¬x.fp g:=by
 constructor
 ·intro w x hx;obtain ⟨j,_,rfl⟩:=List.mem_map.1 hx;rw [hf j];exact cY.2 (World.ownsRow_nil w 0 e size)
 ·intro x hx g hg;obtain ⟨j,_,rfl⟩:=List.mem_map.1 hx;have:=dg.1 hg
  cases this
theorem tix {s p c i g:Value}{f:Nat→Int}{tot:Int}{q j:Nat}{z:Int}(hj:j<512)(hq:q=1+j)(he:f j=z):(dk s (gn 512 f) tot p c i g)[q]?=some (.int .i64 z):=by
 rw [ziu nF hj hq,zhx rfl hj,he]
theorem zkh {P:Pb}{k a:Nat}(h:k<P.ls.length)(ha:P.ix (cJ P.ls k).to=(a:Int)):upd (P.inA k) a (P.inA k a++[P.rl (cJ P.ls k)])=P.inA (k+1):=zh4 (f:=Ld.to) (r:=P.rl) h ha
theorem zkc {P:Pb}{k a:Nat}(h:k<P.ls.length)(ha:P.ix (cJ P.ls k).fr=(a:Int)):upd (P.ouA k) a (P.ouA k a++[P.rl (cJ P.ls k)])=P.ouA (k+1):=zh4 (f:=Ld.fr) (r:=P.rl) h ha
theorem zkk {P:Pb}{k a:Nat}(h:k<P.cs.length)(ha:P.ix (cJ P.cs k).st=(a:Int)):upd (P.csA k) a (P.csA k a++[P.rc (cJ P.cs k)])=P.csA (k+1):=zh4 (f:=Cp.st) (r:=P.rc) h ha
theorem zoc {α:Type}{f:Nat→List α}{a b N:Nat}{x:α}(h:∀j,(f j).length≤N):(upd f a (f a++[x]) b).length≤N+1:=by
 unfold upd;split
 ·have:=h a;simp;omega
 ·have:=h b;omega
theorem ziC {P:Pb}{s:Int}{i:Nat}(h:P.ix s=(i:Int)):dZ P.ds P.ds.length s.toNat=(i:Int)+1:=by unfold Pb.ix at h;omega
theorem zj8 (P:Pb)(vd vp vl vc:Value)(w:World)(h:ProbAt w vd vp vl vc P)(hok:P.ok=true):Calls Tryz.prog 141 #[.agg [vd,vp,vl,vc].toArray] w fun e w'=>∃g27 q1 q3 q5 q7 q9:Nat,∃ya2 ya3 yb3 ya4:Nat→Value,e= .returned (.pointer (some ⟨g27,0,none⟩))∧Hp w (fun _=>False) [Ent.bag (dd 100 5 P.ds.length ya2 Pr.cells (P.psA P.ps.length)),Ent.bag (dd 104 4 P.ds.length ya4 Cp.cells (P.csA P.cs.length)),Ent.bag (dd 102 5 P.ds.length ya3 Ld.cells (P.inA P.ls.length)),Ent.bag (dd 102 5 P.ds.length yb3 Ld.cells (P.ouA P.ls.length)), .row g27 215 (dk (sV q1 P.ds.length) (gn 512 (dZ P.ds P.ds.length)) (gG P.ds P.ds.length) (sV q3 P.ds.length) (sV q5 P.ds.length) (sV q7 P.ds.length) (sV q9 P.ds.length)), .sl (sV q1 P.ds.length) 3 1 P.ds.length (fR (fun j=> .int .i64 (cJ P.ds j).st) (.int .i64 0) P.ds.length P.ds.length), .sl (sV q3 P.ds.length) 23 1 P.ds.length ((List.range P.ds.length).map ya2), .sl (sV q5 P.ds.length) 25 1 P.ds.length ((List.range P.ds.length).map ya4), .sl (sV q7 P.ds.length) 24 1 P.ds.length ((List.range P.ds.length).map ya3), .sl (sV q9 P.ds.length) 24 1 P.ds.length ((List.range P.ds.length).map yb3)] w':=by
 obtain ⟨A,cap,rfl,hsl⟩:=h.ds.sl.op;obtain ⟨A1,cap1,rfl,hsl1⟩:=h.ru.ps.op;obtain ⟨A2,cap2,rfl,hsl2⟩:=h.ru.ls.op;obtain ⟨A3,cap3,rfl,hsl3⟩:=h.ru.cs.op;have hG:=Pb.good hok;have hn512:=hG.n;have hlps:=hG.lps;have hlls:=hG.lls;have hlcs:=hG.lcs;refine dt (M:=fun _=>False) (hs:=[]) Tryz.func141 rfl rfl rfl (Hp.refl _ _) ?_;refine dh ?_; (refine cN (Wt.none) rfl rfl (dJ) ?_;rintro _ _ ⟨g1,rfl,rfl⟩);refine gF ?_;refine ef ?_;refine mn ?_;refine j9 ?_;refine dD (.still 0 (.still 2 (.still 4 (.still 6 (.still 8 (.any [1,3,5,7,9] (.still 10 (.eff 11 (.still 12 .done))))))))) _ a7 (List.Sublist.refl _) ?_;refine TS.run 5 rfl ?_;refine TS.any (js:=[1,3,5,7,9]) (fun j=>16+j) (fun _ g=>sV g P.ds.length) (fun j g=> .sl (sV g P.ds.length) (if j=1 then 3 else if j=3 then 23 else if j=5 then 25 else 24) 1 P.ds.length (madeCells (if j=1 then [Value.int .i64 0] else [Value.slice none 0 0]).toArray (P.ds.length*1)).toList) a6 a6 ?_ Sx ?_
 ·intro j hj;simp only [List.mem_cons,List.not_mem_nil,or_false] at hj;rcases hj with rfl|rfl|rfl|rfl|rfl
  all_goals exact ⟨_,rfl,rfl,rfl,rfl,rfl,fun fs' hs' hsb=>Ew.makeSlice rfl (hsb _ _ rfl) (hsb _ _ rfl) rfl rfl a5 a5⟩
 intro gs;simp only [List.map_cons,List.map_nil,List.cons_append,List.nil_append,reduceIte,Nat.reduceEqDiff,Nat.reduceAdd];generalize gs 1=q1;generalize gs 3=q3;generalize gs 5=q5;generalize gs 7=q7;generalize gs 9=q9;refine cQ rfl (Yv.build (hF:=fillT _ _ _ _ _ _)) ?_;refine dy ?_; (refine de rfl (Wt.none) rfl rfl (dJ) ?_;rintro _ _ ⟨g27,rfl,rfl⟩;refine ⟨Sx,?_⟩);refine kg ?_;refine T.cut (gs:=[(1, .pointer (some ⟨g1,0,none⟩)),(4, .pointer (some ⟨g27,0,none⟩))]) (hs':=[.row g27 215 (dk (sV q1 P.ds.length) (gn 512 (dZ P.ds P.ds.length)) (gG P.ds P.ds.length) (sV q3 P.ds.length) (sV q5 P.ds.length) (sV q7 P.ds.length) (sV q9 P.ds.length)), .sl (sV q1 P.ds.length) 3 1 P.ds.length (fR (fun j=> .int .i64 (cJ P.ds j).st) (.int .i64 0) P.ds.length P.ds.length), .sl (sV q3 P.ds.length) 23 1 P.ds.length ((List.range P.ds.length).map (fun _=> .slice none 0 0)), .sl (sV q5 P.ds.length) 25 1 P.ds.length ((List.range P.ds.length).map (fun _=> .slice none 0 0)), .sl (sV q7 P.ds.length) 24 1 P.ds.length ((List.range P.ds.length).map (fun _=> .slice none 0 0)), .sl (sV q9 P.ds.length) 24 1 P.ds.length ((List.range P.ds.length).map (fun _=> .slice none 0 0)), .row g1 29 [.slice A P.ds.length cap, .slice A1 P.ps.length cap1, .slice A2 P.ls.length cap2, .slice A3 P.cs.length cap3]]) ?_ ?_
 ·skip;refine T.seq ?_;simp only [zfi (.slice none 0 0),znt];rw [zfi (.int .i64 0)];refine fP ?_;refine q1O ?_;refine j4 ?_;refine T.loop (ι:=Nat) (fun k=>[(1, .pointer (some ⟨g1,0,none⟩)),(4, .pointer (some ⟨g27,0,none⟩)),(29, .slice A P.ds.length cap),(30, .int .i64 (P.ds.length:Int)),(31, .int .i64 (k:Int))]) (fun k=>[.row g27 215 (dk (sV q1 P.ds.length) (gn 512 (dZ P.ds k)) (gG P.ds k) (sV q3 P.ds.length) (sV q5 P.ds.length) (sV q7 P.ds.length) (sV q9 P.ds.length)), .sl (sV q1 P.ds.length) 3 1 P.ds.length (fR (fun j=> .int .i64 (cJ P.ds j).st) (.int .i64 0) P.ds.length k), .sl (sV q3 P.ds.length) 23 1 P.ds.length ((List.range P.ds.length).map (fun _=> .slice none 0 0)), .sl (sV q5 P.ds.length) 25 1 P.ds.length ((List.range P.ds.length).map (fun _=> .slice none 0 0)), .sl (sV q7 P.ds.length) 24 1 P.ds.length ((List.range P.ds.length).map (fun _=> .slice none 0 0)), .sl (sV q9 P.ds.length) 24 1 P.ds.length ((List.range P.ds.length).map (fun _=> .slice none 0 0)), .row g1 29 [.slice A P.ds.length cap, .slice A1 P.ps.length cap1, .slice A2 P.ls.length cap2, .slice A3 P.cs.length cap3]]) (fun k=>k≤P.ds.length) (fun k=>P.ds.length - k) 0 ?_ ?_ ?_ ?_
  ·omega
  ·exact (by repeat (first|exact Sub.nil|refine Sub.cons rfl ?_))
  ·exact Sx
  ·intro k hphi;refine fb ?_;refine T.cond rfl (fun h1=>?_) (fun h1=>?_)
   ·have p1:=h1; (try simp only [cX] at p1);obtain ⟨g,off,rfl,hc⟩:=hsl a5;have hk:=hc k a5;obtain ⟨Ad,capd,hvd, -⟩:=(h.ds.at (k:=k) a5).op;simp only [Dx.cells,hvd] at hk;have hst:=hG.st _ (iY (xs:=P.ds) (k:=k) a5);have hchs:=(hG.chs _ (iY (xs:=P.ds) (k:=k) a5)).1;have htot:=znK hG k a5;have hix:=nF (N:=512) (f:=dZ P.ds k);have hix1:=nF (N:=512) (f:=dZ P.ds (k+1));refine q4I ?_;refine me ?_; (refine cN (Wt.none) rfl rfl (Ew.alloc) ?_;rintro _ _ ⟨g6,rfl,rfl⟩);refine di ?_; (refine dP (Wt.none) rfl (dI 0) ?_;rintro _ _ ⟨rfl,rfl⟩);refine lQ ?_;refine dD (sN 0 8 (.eff 8 .done)) (List.eraseIdx _ 2) a7 (List.eraseIdx_sublist _ _) ?_;refine gV ?_;refine q1Y ?_;refine fQ ?_;refine q3h ?_;refine dy ?_; (refine dL rfl (Wt.none) rfl (fy 2 (fR (fun j=> .int .i64 (cJ P.ds j).st) (.int .i64 0) P.ds.length (k+1)) rfl rfl rfl rfl (by rw [zfx a5];omega) (zfr a5 a5)) ?_;rintro _ _ ⟨rfl,rfl⟩;refine ⟨Sx,?_⟩);refine gh ?_;refine K.seq (T.seq ?_);refine dD (sN 0 8 (.eff 8 .done)) (List.eraseIdx _ 1) a7 (List.eraseIdx_sublist _ _) ?_;refine fK ?_;refine ni ?_;refine cQ rfl (l6 rfl rfl rfl a5) ?_;refine fK ?_;refine fH ?_;refine cQ rfl (ec rfl rfl rfl (show (cJ P.ds k).st=(((cJ P.ds k).st.toNat:Nat):Int) from by omega) a5) ?_;refine dy ?_; (refine dL rfl (Wt.none) rfl (iA 1 (dk (sV q1 P.ds.length) (gn 512 (dZ P.ds (k+1))) (gG P.ds k) (sV q3 P.ds.length) (sV q5 P.ds.length) (sV q7 P.ds.length) (sV q9 P.ds.length)) rfl rfl rfl rfl (by rw [zhP hix];omega) (by rw [zjf hix (j:=(cJ P.ds k).st.toNat) a5 a5,zk8 (f':=dZ P.ds (k+1)) (d:=(cJ P.ds k).st.toNat) rfl a5 (by show (if _=_ then (k:Int)+1 else _)=_;rw [if_pos rfl]) (fun e he=>by show (if _=_ then (k:Int)+1 else _)=_;rw [if_neg he])])) ?_;rintro _ _ ⟨rfl,rfl⟩;refine ⟨Sx,?_⟩);refine gh ?_;refine K.seq ?_;refine dD (sN 0 3 (sN 4 3 (.eff 3 (sN 7 3 (.eff 10 .done))))) (List.eraseIdx _ 1) a7 (List.eraseIdx_sublist _ _) ?_;refine jO ?_;refine fQ ?_;refine cQ rfl (iD rfl rfl) ?_;refine dy ?_;refine eT rfl (Wt.none) rfl rfl (dc 1 rfl rfl rfl (mt hix1 (j:=0) a5)) Sx ?_;refine cQ rfl (l6 rfl rfl rfl a5) ?_;refine fK ?_;refine lC ?_; (refine dL rfl (Wt.none) rfl (iA 1 (dk (sV q1 P.ds.length) (gn 512 (dZ P.ds (k+1))) (gG P.ds (k+1)) (sV q3 P.ds.length) (sV q5 P.ds.length) (sV q7 P.ds.length) (sV q9 P.ds.length)) rfl rfl rfl rfl (by rw [zhP hix1];omega) (by rw [zh2 hix1 a5];rfl)) ?_;rintro _ _ ⟨rfl,rfl⟩;refine ⟨Sx,?_⟩);refine q1J ?_;exact K.next (k+1) a5 a5 (by repeat (first|exact Sub.nil|refine Sub.cons rfl ?_)) Sx
   ·have p1:=h1; (try simp only [cX] at p1);refine eC ?_; (obtain rfl:k=P.ds.length:=by omega);exact K.at (by repeat (first|exact Sub.nil|refine Sub.cons rfl ?_)) Sx
 ·skip;refine kl (ι:=Nat→Value) (fun y=>[(1, .pointer (some ⟨g1,0,none⟩)),(4, .pointer (some ⟨g27,0,none⟩))]) (fun y=>[Ent.bag (dd 100 5 P.ds.length y Pr.cells (P.psA P.ps.length)),Ent.bag (dd 104 4 P.ds.length (fun _=> .slice none 0 0) Cp.cells (P.csA 0)),Ent.bag (dd 102 5 P.ds.length (fun _=> .slice none 0 0) Ld.cells (P.inA 0)),Ent.bag (dd 102 5 P.ds.length (fun _=> .slice none 0 0) Ld.cells (P.ouA 0)), .row g27 215 (dk (sV q1 P.ds.length) (gn 512 (dZ P.ds P.ds.length)) (gG P.ds P.ds.length) (sV q3 P.ds.length) (sV q5 P.ds.length) (sV q7 P.ds.length) (sV q9 P.ds.length)), .sl (sV q1 P.ds.length) 3 1 P.ds.length (fR (fun j=> .int .i64 (cJ P.ds j).st) (.int .i64 0) P.ds.length P.ds.length), .sl (sV q3 P.ds.length) 23 1 P.ds.length ((List.range P.ds.length).map y), .sl (sV q5 P.ds.length) 25 1 P.ds.length ((List.range P.ds.length).map (fun _=> .slice none 0 0)), .sl (sV q7 P.ds.length) 24 1 P.ds.length ((List.range P.ds.length).map (fun _=> .slice none 0 0)), .sl (sV q9 P.ds.length) 24 1 P.ds.length ((List.range P.ds.length).map (fun _=> .slice none 0 0)), .row g1 29 [.slice A P.ds.length cap, .slice A1 P.ps.length cap1, .slice A2 P.ls.length cap2, .slice A3 P.cs.length cap3]]) (fun y=>True) ?_ ?_
  ·skip;refine T.seq ?_;refine T.bag0 (dd 102 5 P.ds.length (fun _=> .slice none 0 0) Ld.cells (P.ouA 0)) (ziH (fun _=>rfl)).1 (ziH (fun _=>rfl)).2 ?_;refine T.bag0 (dd 102 5 P.ds.length (fun _=> .slice none 0 0) Ld.cells (P.inA 0)) (ziH (fun _=>rfl)).1 (ziH (fun _=>rfl)).2 ?_;refine T.bag0 (dd 104 4 P.ds.length (fun _=> .slice none 0 0) Cp.cells (P.csA 0)) (ziH (fun _=>rfl)).1 (ziH (fun _=>rfl)).2 ?_;refine T.bag0 (dd 100 5 P.ds.length (fun _=> .slice none 0 0) Pr.cells (P.psA 0)) (ziH (fun _=>rfl)).1 (ziH (fun _=>rfl)).2 ?_;refine fP ?_;refine q4C ?_;refine T.loop (ι:=Nat×(Nat→Value)) (fun x=>[(1, .pointer (some ⟨g1,0,none⟩)),(4, .pointer (some ⟨g27,0,none⟩)),(65, .slice A1 P.ps.length cap1),(66, .int .i64 (P.ps.length:Int)),(67, .int .i64 (x.1:Int))]) (fun x=>[Ent.bag (dd 100 5 P.ds.length x.2 Pr.cells (P.psA x.1)),Ent.bag (dd 104 4 P.ds.length (fun _=> .slice none 0 0) Cp.cells (P.csA 0)),Ent.bag (dd 102 5 P.ds.length (fun _=> .slice none 0 0) Ld.cells (P.inA 0)),Ent.bag (dd 102 5 P.ds.length (fun _=> .slice none 0 0) Ld.cells (P.ouA 0)), .row g27 215 (dk (sV q1 P.ds.length) (gn 512 (dZ P.ds P.ds.length)) (gG P.ds P.ds.length) (sV q3 P.ds.length) (sV q5 P.ds.length) (sV q7 P.ds.length) (sV q9 P.ds.length)), .sl (sV q1 P.ds.length) 3 1 P.ds.length (fR (fun j=> .int .i64 (cJ P.ds j).st) (.int .i64 0) P.ds.length P.ds.length), .sl (sV q3 P.ds.length) 23 1 P.ds.length ((List.range P.ds.length).map x.2), .sl (sV q5 P.ds.length) 25 1 P.ds.length ((List.range P.ds.length).map (fun _=> .slice none 0 0)), .sl (sV q7 P.ds.length) 24 1 P.ds.length ((List.range P.ds.length).map (fun _=> .slice none 0 0)), .sl (sV q9 P.ds.length) 24 1 P.ds.length ((List.range P.ds.length).map (fun _=> .slice none 0 0)), .row g1 29 [.slice A P.ds.length cap, .slice A1 P.ps.length cap1, .slice A2 P.ls.length cap2, .slice A3 P.cs.length cap3]]) (fun x=>x.1≤P.ps.length) (fun x=>P.ps.length - x.1) (0,(fun _=> .slice none 0 0)) ?_ ?_ ?_ ?_
   ·exact Nat.zero_le _
   ·exact (by repeat (first|exact Sub.nil|refine Sub.cons rfl ?_))
   ·exact Sx
   ·intro x hphi;obtain ⟨k,va⟩:=x;dsimp only at hphi ⊢;refine fb ?_;refine T.cond rfl (fun h2=>?_) (fun h2=>?_)
    ·have p2:=h2; (try simp only [cX] at p2);obtain ⟨g,off,rfl,hc⟩:=hsl1 a5;have hk:=hc k a5;simp only [Pr.cells] at hk;have hr:=hG.ps _ (iY (xs:=P.ps) (k:=k) a5);obtain ⟨hxo,⟨ia,hia,hea⟩,ib,hib,heb⟩:=hr;simp only [Pr.ok,inB,fj,Bool.and_eq_true,decide_eq_true_eq] at hxo; (have ha:P.ix (cJ P.ps k).a=(ia:Int):=by rw [hea];exact eU hG hia);have hta:(dk (sV q1 P.ds.length) (gn 512 (dZ P.ds P.ds.length)) (gG P.ds P.ds.length) (sV q3 P.ds.length) (sV q5 P.ds.length) (sV q7 P.ds.length) (sV q9 P.ds.length))[0+1+(cJ P.ps k).a.toNat*1]?=some (.int .i64 ((ia:Int)+1)):=tix a5 a5 (ziC ha); (have hb:P.ix (cJ P.ps k).b=(ib:Int):=by rw [heb];exact eU hG hib);have htb:(dk (sV q1 P.ds.length) (gn 512 (dZ P.ds P.ds.length)) (gG P.ds P.ds.length) (sV q3 P.ds.length) (sV q5 P.ds.length) (sV q7 P.ds.length) (sV q9 P.ds.length))[0+1+(cJ P.ps k).b.toNat*1]?=some (.int .i64 ((ib:Int)+1)):=tix a5 a5 (ziC hb); (have hab:ia≠ib:=by rintro rfl;omega); (have hcell:Pr.cells (P.rp (cJ P.ps k))=[.int .i64 ((ia:Int)+1 - 1), .int .i64 ((ib:Int)+1 - 1), .int .i64 (cJ P.ps k).off, .int .i64 (cJ P.ps k).lo, .int .i64 (cJ P.ps k).hi]:=by simp [Pr.cells,Pb.rp,ha,hb]);refine mR ?_;refine kl (ι:=Nat→Value) (fun u2=>[(1, .pointer (some ⟨g1,0,none⟩)),(4, .pointer (some ⟨g27,0,none⟩)),(65, .slice (some ⟨g,off,none⟩) P.ps.length cap1),(66, .int .i64 (P.ps.length:Int)),(67, .int .i64 (k:Int))]) (fun u2=>[Ent.bag (dd 100 5 P.ds.length u2 Pr.cells (P.psA (k+1))),Ent.bag (dd 104 4 P.ds.length (fun _=> .slice none 0 0) Cp.cells (P.csA 0)),Ent.bag (dd 102 5 P.ds.length (fun _=> .slice none 0 0) Ld.cells (P.inA 0)),Ent.bag (dd 102 5 P.ds.length (fun _=> .slice none 0 0) Ld.cells (P.ouA 0)), .row g27 215 (dk (sV q1 P.ds.length) (gn 512 (dZ P.ds P.ds.length)) (gG P.ds P.ds.length) (sV q3 P.ds.length) (sV q5 P.ds.length) (sV q7 P.ds.length) (sV q9 P.ds.length)), .sl (sV q1 P.ds.length) 3 1 P.ds.length (fR (fun j=> .int .i64 (cJ P.ds j).st) (.int .i64 0) P.ds.length P.ds.length), .sl (sV q3 P.ds.length) 23 1 P.ds.length ((List.range P.ds.length).map u2), .sl (sV q5 P.ds.length) 25 1 P.ds.length ((List.range P.ds.length).map (fun _=> .slice none 0 0)), .sl (sV q7 P.ds.length) 24 1 P.ds.length ((List.range P.ds.length).map (fun _=> .slice none 0 0)), .sl (sV q9 P.ds.length) 24 1 P.ds.length ((List.range P.ds.length).map (fun _=> .slice none 0 0)), .row g1 29 [.slice A P.ds.length cap, .slice (some ⟨g,off,none⟩) P.ps.length cap1, .slice A2 P.ls.length cap2, .slice A3 P.cs.length cap3]]) (fun u2=>True) ?_ ?_
     ·skip;refine T.block (dh ?_);refine me ?_; (refine cN (Wt.none) rfl rfl (Ew.alloc) ?_;rintro _ _ ⟨g8,rfl,rfl⟩); (refine dP (Wt.none) rfl (dI 0) ?_;rintro _ _ ⟨rfl,rfl⟩);refine db ?_;refine T.cut (gs:=[(1, .pointer (some ⟨g1,0,none⟩)),(4, .pointer (some ⟨g27,0,none⟩)),(65, .slice (some ⟨g,off,none⟩) P.ps.length cap1),(66, .int .i64 (P.ps.length:Int)),(67, .int .i64 (k:Int)),(8, .pointer (some ⟨g8,0,none⟩))]) (hs':=[.row g8 100 [.int .i64 ((ia:Int)+1 - 1), .int .i64 ((ib:Int)+1 - 1), .int .i64 ((cJ P.ps k).off), .int .i64 ((cJ P.ps k).lo), .int .i64 ((cJ P.ps k).hi)],Ent.bag (dd 100 5 P.ds.length va Pr.cells (P.psA k)),Ent.bag (dd 104 4 P.ds.length (fun _=> .slice none 0 0) Cp.cells (P.csA 0)),Ent.bag (dd 102 5 P.ds.length (fun _=> .slice none 0 0) Ld.cells (P.inA 0)),Ent.bag (dd 102 5 P.ds.length (fun _=> .slice none 0 0) Ld.cells (P.ouA 0)), .row g27 215 (dk (sV q1 P.ds.length) (gn 512 (dZ P.ds P.ds.length)) (gG P.ds P.ds.length) (sV q3 P.ds.length) (sV q5 P.ds.length) (sV q7 P.ds.length) (sV q9 P.ds.length)), .sl (sV q1 P.ds.length) 3 1 P.ds.length (fR (fun j=> .int .i64 (cJ P.ds j).st) (.int .i64 0) P.ds.length P.ds.length), .sl (sV q3 P.ds.length) 23 1 P.ds.length ((List.range P.ds.length).map va), .sl (sV q5 P.ds.length) 25 1 P.ds.length ((List.range P.ds.length).map (fun _=> .slice none 0 0)), .sl (sV q7 P.ds.length) 24 1 P.ds.length ((List.range P.ds.length).map (fun _=> .slice none 0 0)), .sl (sV q9 P.ds.length) 24 1 P.ds.length ((List.range P.ds.length).map (fun _=> .slice none 0 0)), .row g1 29 [.slice A P.ds.length cap, .slice (some ⟨g,off,none⟩) P.ps.length cap1, .slice A2 P.ls.length cap2, .slice A3 P.cs.length cap3]]) ?_ ?_
      ·skip;refine q1w ?_;refine TS.two ?_ ?_
       ·skip;refine q4B ?_;refine dy ?_;refine q3K ?_;refine lC ?_; (refine dL rfl (Wt.none) rfl (eo 0 rfl rfl rfl rfl b5) ?_;rintro _ _ ⟨rfl,rfl⟩;refine ⟨Sx,?_⟩);refine lC ?_; (refine dL rfl (Wt.none) rfl (eo 0 rfl rfl rfl rfl b5) ?_;rintro _ _ ⟨rfl,rfl⟩;refine ⟨Sx,?_⟩);refine gh ?_;exact K.at (by repeat (first|exact Sub.nil|refine Sub.cons rfl ?_)) Sx
       ·skip;refine q3K ?_;refine dy ?_;refine q4B ?_;refine lC ?_; (refine dL rfl (Wt.none) rfl (eo 0 rfl rfl rfl rfl b5) ?_;rintro _ _ ⟨rfl,rfl⟩;refine ⟨Sx,?_⟩);refine lC ?_; (refine dL rfl (Wt.none) rfl (eo 0 rfl rfl rfl rfl b5) ?_;rintro _ _ ⟨rfl,rfl⟩;refine ⟨Sx,?_⟩);refine gh ?_;exact K.at (by repeat (first|exact Sub.nil|refine Sub.cons rfl ?_)) Sx
      ·skip;refine kl (ι:=Nat→Value) (fun u1=>[(1, .pointer (some ⟨g1,0,none⟩)),(4, .pointer (some ⟨g27,0,none⟩)),(65, .slice (some ⟨g,off,none⟩) P.ps.length cap1),(66, .int .i64 (P.ps.length:Int)),(67, .int .i64 (k:Int)),(8, .pointer (some ⟨g8,0,none⟩))]) (fun u1=>[.row g8 100 [.int .i64 ((ia:Int)+1 - 1), .int .i64 ((ib:Int)+1 - 1), .int .i64 ((cJ P.ps k).off), .int .i64 ((cJ P.ps k).lo), .int .i64 ((cJ P.ps k).hi)],Ent.bag (dd 100 5 P.ds.length u1 Pr.cells (upd (P.psA k) ia ((P.psA k) ia++[P.rp (cJ P.ps k)]))),Ent.bag (dd 104 4 P.ds.length (fun _=> .slice none 0 0) Cp.cells (P.csA 0)),Ent.bag (dd 102 5 P.ds.length (fun _=> .slice none 0 0) Ld.cells (P.inA 0)),Ent.bag (dd 102 5 P.ds.length (fun _=> .slice none 0 0) Ld.cells (P.ouA 0)), .row g27 215 (dk (sV q1 P.ds.length) (gn 512 (dZ P.ds P.ds.length)) (gG P.ds P.ds.length) (sV q3 P.ds.length) (sV q5 P.ds.length) (sV q7 P.ds.length) (sV q9 P.ds.length)), .sl (sV q1 P.ds.length) 3 1 P.ds.length (fR (fun j=> .int .i64 (cJ P.ds j).st) (.int .i64 0) P.ds.length P.ds.length), .sl (sV q3 P.ds.length) 23 1 P.ds.length ((List.range P.ds.length).map u1), .sl (sV q5 P.ds.length) 25 1 P.ds.length ((List.range P.ds.length).map (fun _=> .slice none 0 0)), .sl (sV q7 P.ds.length) 24 1 P.ds.length ((List.range P.ds.length).map (fun _=> .slice none 0 0)), .sl (sV q9 P.ds.length) 24 1 P.ds.length ((List.range P.ds.length).map (fun _=> .slice none 0 0)), .row g1 29 [.slice A P.ds.length cap, .slice (some ⟨g,off,none⟩) P.ps.length cap1, .slice A2 P.ls.length cap2, .slice A3 P.cs.length cap3]]) (fun u1=>True) ?_ ?_
       ·skip;refine T.openB 1 ia rfl (zeU hia) ?_;have hvv:((List.range P.ds.length).map va)[0+ia*1]?=some (va ia):=zhg a5 hia;have hlen:((P.psA k) ia).length≤5000:=Nat.le_trans zdr a5;refine dD (.still 0 (.still 1 (.still 2 (.still 3 (.still 4 (.still 5 (.still 6 (.still 7 (.still 8 (.still 9 (.still 10 (.still 11 (.still 12 (.still 14 (.two 13 15 (.eff 15 (.eff 16 (.still 17 (.eff 18 .done)))) (.eff 13 (.eff 16 (.still 17 (.eff 18 .done))))))))))))))))))) [.row g8 100 [.int .i64 ((ia:Int)+1 - 1), .int .i64 ((ib:Int)+1 - 1), .int .i64 ((cJ P.ps k).off), .int .i64 ((cJ P.ps k).lo), .int .i64 ((cJ P.ps k).hi)],Ent.bag ((dd 100 5 P.ds.length va Pr.cells (P.psA k)).eraseIdx ia),Ent.bag (dd 104 4 P.ds.length (fun _=> .slice none 0 0) Cp.cells (P.csA 0)),Ent.bag (dd 102 5 P.ds.length (fun _=> .slice none 0 0) Ld.cells (P.inA 0)),Ent.bag (dd 102 5 P.ds.length (fun _=> .slice none 0 0) Ld.cells (P.ouA 0)), .row g27 215 (dk (sV q1 P.ds.length) (gn 512 (dZ P.ds P.ds.length)) (gG P.ds P.ds.length) (sV q3 P.ds.length) (sV q5 P.ds.length) (sV q7 P.ds.length) (sV q9 P.ds.length)), .sl (sV q1 P.ds.length) 3 1 P.ds.length (fR (fun j=> .int .i64 (cJ P.ds j).st) (.int .i64 0) P.ds.length P.ds.length), .sl (sV q5 P.ds.length) 25 1 P.ds.length ((List.range P.ds.length).map (fun _=> .slice none 0 0)), .sl (sV q7 P.ds.length) 24 1 P.ds.length ((List.range P.ds.length).map (fun _=> .slice none 0 0)), .sl (sV q9 P.ds.length) 24 1 P.ds.length ((List.range P.ds.length).map (fun _=> .slice none 0 0)), .row g1 29 [.slice A P.ds.length cap, .slice (some ⟨g,off,none⟩) P.ps.length cap1, .slice A2 P.ls.length cap2, .slice A3 P.cs.length cap3]] a7 Sx ?_;refine q2Y ?_;refine q2Y ?_;refine q1b ?_;refine jL ?_;refine TS.two ?_ ?_
        ·skip;refine eT rfl (Wt.none) rfl rfl (fm 8 rfl rfl rfl hvv) Sx ?_;refine dy ?_; (refine de rfl (Wt.none) rfl rfl (Ew.buildSlice rfl rfl rfl a6) ?_;rintro _ _ ⟨g104,rfl,rfl⟩;refine ⟨Sx,?_⟩);refine dy ?_; (refine de rfl (Wt.none) rfl rfl (Ew.append 1 0 rfl rfl rfl rfl rfl rfl a5 a5) ?_;rintro v105 _ ⟨hv105,rfl⟩;refine ⟨Sx,?_⟩);refine q1b ?_;refine dy ?_; (refine dL rfl (Wt.none) rfl (fy 9 ((List.range P.ds.length).map (upd va ia v105)) rfl rfl rfl rfl b3 (zdP a5 hia)) ?_;rintro _ _ ⟨rfl,rfl⟩;refine ⟨Sx,?_⟩);refine q2U ?_;exact cS (upd va ia v105) trivial (by repeat (first|exact Sub.nil|refine Sub.cons rfl ?_)) Sx
        ·skip; (refine de rfl (Wt.none) rfl rfl (Ew.buildSlice rfl rfl rfl a6) ?_;rintro _ _ ⟨g104,rfl,rfl⟩;refine ⟨Sx,?_⟩);refine dy ?_;refine q4i ?_; (refine de rfl (Wt.none) rfl rfl (Ew.append 1 0 rfl rfl rfl rfl rfl rfl a5 a5) ?_;rintro v105 _ ⟨hv105,rfl⟩;refine ⟨Sx,?_⟩);refine q1b ?_;refine dy ?_; (refine dL rfl (Wt.none) rfl (fy 9 ((List.range P.ds.length).map (upd va ia v105)) rfl rfl rfl rfl b3 (zdP a5 hia)) ?_;rintro _ _ ⟨rfl,rfl⟩;refine ⟨Sx,?_⟩);refine q2U ?_;exact cS (upd va ia v105) trivial (by repeat (first|exact Sub.nil|refine Sub.cons rfl ?_)) Sx
       ·skip;intro u1 hphi;refine T.openB 1 ib rfl (zeU hib) ?_;have hvv:((List.range P.ds.length).map u1)[0+ib*1]?=some (u1 ib):=zhg a5 hib;have hlen:((upd (P.psA k) ia ((P.psA k) ia++[P.rp (cJ P.ps k)])) ib).length≤5000:=Nat.le_trans (zoc (N:=P.ps.length) (fun j=>zdr)) a5;refine dD (.still 0 (.still 1 (.still 2 (.still 3 (.still 4 (.still 5 (.still 6 (.still 7 (.still 8 (.still 9 (.still 10 (.still 11 (.still 12 (.still 14 (.two 13 15 (.eff 15 (.eff 16 (.still 17 (.eff 18 .done)))) (.eff 13 (.eff 16 (.still 17 (.eff 18 .done))))))))))))))))))) [.row g8 100 [.int .i64 ((ia:Int)+1 - 1), .int .i64 ((ib:Int)+1 - 1), .int .i64 ((cJ P.ps k).off), .int .i64 ((cJ P.ps k).lo), .int .i64 ((cJ P.ps k).hi)],Ent.bag ((dd 100 5 P.ds.length u1 Pr.cells (upd (P.psA k) ia ((P.psA k) ia++[P.rp (cJ P.ps k)]))).eraseIdx ib),Ent.bag (dd 104 4 P.ds.length (fun _=> .slice none 0 0) Cp.cells (P.csA 0)),Ent.bag (dd 102 5 P.ds.length (fun _=> .slice none 0 0) Ld.cells (P.inA 0)),Ent.bag (dd 102 5 P.ds.length (fun _=> .slice none 0 0) Ld.cells (P.ouA 0)), .row g27 215 (dk (sV q1 P.ds.length) (gn 512 (dZ P.ds P.ds.length)) (gG P.ds P.ds.length) (sV q3 P.ds.length) (sV q5 P.ds.length) (sV q7 P.ds.length) (sV q9 P.ds.length)), .sl (sV q1 P.ds.length) 3 1 P.ds.length (fR (fun j=> .int .i64 (cJ P.ds j).st) (.int .i64 0) P.ds.length P.ds.length), .sl (sV q5 P.ds.length) 25 1 P.ds.length ((List.range P.ds.length).map (fun _=> .slice none 0 0)), .sl (sV q7 P.ds.length) 24 1 P.ds.length ((List.range P.ds.length).map (fun _=> .slice none 0 0)), .sl (sV q9 P.ds.length) 24 1 P.ds.length ((List.range P.ds.length).map (fun _=> .slice none 0 0)), .row g1 29 [.slice A P.ds.length cap, .slice (some ⟨g,off,none⟩) P.ps.length cap1, .slice A2 P.ls.length cap2, .slice A3 P.cs.length cap3]] a7 Sx ?_;refine q2Y ?_;refine q2Y ?_;refine q1S ?_;refine jL ?_;refine TS.two ?_ ?_
        ·skip;refine eT rfl (Wt.none) rfl rfl (fm 8 rfl rfl rfl hvv) Sx ?_;refine dy ?_; (refine de rfl (Wt.none) rfl rfl (Ew.buildSlice rfl rfl rfl a6) ?_;rintro _ _ ⟨g122,rfl,rfl⟩;refine ⟨Sx,?_⟩);refine dy ?_; (refine de rfl (Wt.none) rfl rfl (Ew.append 1 0 rfl rfl rfl rfl rfl rfl a5 a5) ?_;rintro v123 _ ⟨hv123,rfl⟩;refine ⟨Sx,?_⟩);refine q1S ?_;refine dy ?_; (refine dL rfl (Wt.none) rfl (fy 9 ((List.range P.ds.length).map (upd u1 ib v123)) rfl rfl rfl rfl b3 (zdP a5 hib)) ?_;rintro _ _ ⟨rfl,rfl⟩;refine ⟨Sx,?_⟩);refine q3P ?_;exact cS (upd u1 ib v123) trivial (by repeat (first|exact Sub.nil|refine Sub.cons rfl ?_)) Sx
        ·skip; (refine de rfl (Wt.none) rfl rfl (Ew.buildSlice rfl rfl rfl a6) ?_;rintro _ _ ⟨g122,rfl,rfl⟩;refine ⟨Sx,?_⟩);refine dy ?_;refine q4i ?_; (refine de rfl (Wt.none) rfl rfl (Ew.append 1 0 rfl rfl rfl rfl rfl rfl a5 a5) ?_;rintro v123 _ ⟨hv123,rfl⟩;refine ⟨Sx,?_⟩);refine q1S ?_;refine dy ?_; (refine dL rfl (Wt.none) rfl (fy 9 ((List.range P.ds.length).map (upd u1 ib v123)) rfl rfl rfl rfl b3 (zdP a5 hib)) ?_;rintro _ _ ⟨rfl,rfl⟩;refine ⟨Sx,?_⟩);refine q3P ?_;exact cS (upd u1 ib v123) trivial (by repeat (first|exact Sub.nil|refine Sub.cons rfl ?_)) Sx
     ·skip;intro u2 hphi;refine fP ?_;refine jH ?_;exact K.next (k+1,u2) a8 a8 (by repeat (first|exact Sub.nil|refine Sub.cons rfl ?_)) Sx
    ·have p2:=h2; (try simp only [cX] at p2);refine eC ?_; (obtain rfl:k=P.ps.length:=by omega);exact cS va trivial (by repeat (first|exact Sub.nil|refine Sub.cons rfl ?_)) Sx
  ·skip;intro y hphi;obtain ⟨ya2,hya⟩:∃z,z=y:=⟨y,rfl⟩;subst hya;refine kl (ι:=(Nat→Value)×(Nat→Value)) (fun y=>[(1, .pointer (some ⟨g1,0,none⟩)),(4, .pointer (some ⟨g27,0,none⟩))]) (fun y=>[Ent.bag (dd 100 5 P.ds.length ya2 Pr.cells (P.psA P.ps.length)),Ent.bag (dd 104 4 P.ds.length (fun _=> .slice none 0 0) Cp.cells (P.csA 0)),Ent.bag (dd 102 5 P.ds.length y.1 Ld.cells (P.inA P.ls.length)),Ent.bag (dd 102 5 P.ds.length y.2 Ld.cells (P.ouA P.ls.length)), .row g27 215 (dk (sV q1 P.ds.length) (gn 512 (dZ P.ds P.ds.length)) (gG P.ds P.ds.length) (sV q3 P.ds.length) (sV q5 P.ds.length) (sV q7 P.ds.length) (sV q9 P.ds.length)), .sl (sV q1 P.ds.length) 3 1 P.ds.length (fR (fun j=> .int .i64 (cJ P.ds j).st) (.int .i64 0) P.ds.length P.ds.length), .sl (sV q3 P.ds.length) 23 1 P.ds.length ((List.range P.ds.length).map ya2), .sl (sV q5 P.ds.length) 25 1 P.ds.length ((List.range P.ds.length).map (fun _=> .slice none 0 0)), .sl (sV q7 P.ds.length) 24 1 P.ds.length ((List.range P.ds.length).map y.1), .sl (sV q9 P.ds.length) 24 1 P.ds.length ((List.range P.ds.length).map y.2), .row g1 29 [.slice A P.ds.length cap, .slice A1 P.ps.length cap1, .slice A2 P.ls.length cap2, .slice A3 P.cs.length cap3]]) (fun y=>True) ?_ ?_
   ·skip;refine dh ?_;refine q4C ?_;refine T.loop (ι:=Nat×(Nat→Value)×(Nat→Value)) (fun x=>[(1, .pointer (some ⟨g1,0,none⟩)),(4, .pointer (some ⟨g27,0,none⟩)),(128, .slice A2 P.ls.length cap2),(129, .int .i64 (P.ls.length:Int)),(130, .int .i64 (x.1:Int))]) (fun x=>[Ent.bag (dd 100 5 P.ds.length ya2 Pr.cells (P.psA P.ps.length)),Ent.bag (dd 104 4 P.ds.length (fun _=> .slice none 0 0) Cp.cells (P.csA 0)),Ent.bag (dd 102 5 P.ds.length x.2.1 Ld.cells (P.inA x.1)),Ent.bag (dd 102 5 P.ds.length x.2.2 Ld.cells (P.ouA x.1)), .row g27 215 (dk (sV q1 P.ds.length) (gn 512 (dZ P.ds P.ds.length)) (gG P.ds P.ds.length) (sV q3 P.ds.length) (sV q5 P.ds.length) (sV q7 P.ds.length) (sV q9 P.ds.length)), .sl (sV q1 P.ds.length) 3 1 P.ds.length (fR (fun j=> .int .i64 (cJ P.ds j).st) (.int .i64 0) P.ds.length P.ds.length), .sl (sV q3 P.ds.length) 23 1 P.ds.length ((List.range P.ds.length).map ya2), .sl (sV q5 P.ds.length) 25 1 P.ds.length ((List.range P.ds.length).map (fun _=> .slice none 0 0)), .sl (sV q7 P.ds.length) 24 1 P.ds.length ((List.range P.ds.length).map x.2.1), .sl (sV q9 P.ds.length) 24 1 P.ds.length ((List.range P.ds.length).map x.2.2), .row g1 29 [.slice A P.ds.length cap, .slice A1 P.ps.length cap1, .slice A2 P.ls.length cap2, .slice A3 P.cs.length cap3]]) (fun x=>x.1≤P.ls.length) (fun x=>P.ls.length - x.1) (0,(fun _=> .slice none 0 0),(fun _=> .slice none 0 0)) ?_ ?_ ?_ ?_
    ·exact Nat.zero_le _
    ·exact (by repeat (first|exact Sub.nil|refine Sub.cons rfl ?_))
    ·exact Sx
    ·intro x hphi;obtain ⟨k,va,vb⟩:=x;dsimp only at hphi ⊢;refine fb ?_;refine T.cond rfl (fun h3=>?_) (fun h3=>?_)
     ·have p3:=h3; (try simp only [cX] at p3);obtain ⟨g,off,rfl,hc⟩:=hsl2 a5;have hk:=hc k a5;simp only [Ld.cells] at hk;have hr:=hG.ls _ (iY (xs:=P.ls) (k:=k) a5);obtain ⟨hxo,⟨ia,hia,hea⟩,ib,hib,heb⟩:=hr;simp only [Ld.ok,inB,fj,Bool.and_eq_true,decide_eq_true_eq] at hxo; (have ha:P.ix (cJ P.ls k).to=(ia:Int):=by rw [hea];exact eU hG hia);have hta:(dk (sV q1 P.ds.length) (gn 512 (dZ P.ds P.ds.length)) (gG P.ds P.ds.length) (sV q3 P.ds.length) (sV q5 P.ds.length) (sV q7 P.ds.length) (sV q9 P.ds.length))[0+1+(cJ P.ls k).to.toNat*1]?=some (.int .i64 ((ia:Int)+1)):=tix a5 a5 (ziC ha); (have hb:P.ix (cJ P.ls k).fr=(ib:Int):=by rw [heb];exact eU hG hib);have htb:(dk (sV q1 P.ds.length) (gn 512 (dZ P.ds P.ds.length)) (gG P.ds P.ds.length) (sV q3 P.ds.length) (sV q5 P.ds.length) (sV q7 P.ds.length) (sV q9 P.ds.length))[0+1+(cJ P.ls k).fr.toNat*1]?=some (.int .i64 ((ib:Int)+1)):=tix a5 a5 (ziC hb); (have hcell:Ld.cells (P.rl (cJ P.ls k))=[.int .i64 ((ia:Int)+1 - 1), .int .i64 ((ib:Int)+1 - 1), .int .i64 (cJ P.ls k).wt, .int .i64 (cJ P.ls k).lo, .int .i64 (cJ P.ls k).hi]:=by simp [Ld.cells,Pb.rl,ha,hb]);refine mR ?_;refine kl (ι:=(Nat→Value)×(Nat→Value)) (fun uu=>[(1, .pointer (some ⟨g1,0,none⟩)),(4, .pointer (some ⟨g27,0,none⟩)),(128, .slice (some ⟨g,off,none⟩) P.ls.length cap2),(129, .int .i64 (P.ls.length:Int)),(130, .int .i64 (k:Int))]) (fun uu=>[Ent.bag (dd 100 5 P.ds.length ya2 Pr.cells (P.psA P.ps.length)),Ent.bag (dd 104 4 P.ds.length (fun _=> .slice none 0 0) Cp.cells (P.csA 0)),Ent.bag (dd 102 5 P.ds.length uu.1 Ld.cells (P.inA (k+1))),Ent.bag (dd 102 5 P.ds.length uu.2 Ld.cells (P.ouA (k+1))), .row g27 215 (dk (sV q1 P.ds.length) (gn 512 (dZ P.ds P.ds.length)) (gG P.ds P.ds.length) (sV q3 P.ds.length) (sV q5 P.ds.length) (sV q7 P.ds.length) (sV q9 P.ds.length)), .sl (sV q1 P.ds.length) 3 1 P.ds.length (fR (fun j=> .int .i64 (cJ P.ds j).st) (.int .i64 0) P.ds.length P.ds.length), .sl (sV q3 P.ds.length) 23 1 P.ds.length ((List.range P.ds.length).map ya2), .sl (sV q5 P.ds.length) 25 1 P.ds.length ((List.range P.ds.length).map (fun _=> .slice none 0 0)), .sl (sV q7 P.ds.length) 24 1 P.ds.length ((List.range P.ds.length).map uu.1), .sl (sV q9 P.ds.length) 24 1 P.ds.length ((List.range P.ds.length).map uu.2), .row g1 29 [.slice A P.ds.length cap, .slice A1 P.ps.length cap1, .slice (some ⟨g,off,none⟩) P.ls.length cap2, .slice A3 P.cs.length cap3]]) (fun uu=>True) ?_ ?_
      ·skip;refine T.block (dh ?_);refine me ?_; (refine cN (Wt.none) rfl rfl (Ew.alloc) ?_;rintro _ _ ⟨g10,rfl,rfl⟩); (refine dP (Wt.none) rfl (dI 0) ?_;rintro _ _ ⟨rfl,rfl⟩);refine db ?_;refine T.cut (gs:=[(1, .pointer (some ⟨g1,0,none⟩)),(4, .pointer (some ⟨g27,0,none⟩)),(128, .slice (some ⟨g,off,none⟩) P.ls.length cap2),(129, .int .i64 (P.ls.length:Int)),(130, .int .i64 (k:Int)),(10, .pointer (some ⟨g10,0,none⟩))]) (hs':=[.row g10 102 [.int .i64 ((ia:Int)+1 - 1), .int .i64 ((ib:Int)+1 - 1), .int .i64 ((cJ P.ls k).wt), .int .i64 ((cJ P.ls k).lo), .int .i64 ((cJ P.ls k).hi)],Ent.bag (dd 100 5 P.ds.length ya2 Pr.cells (P.psA P.ps.length)),Ent.bag (dd 104 4 P.ds.length (fun _=> .slice none 0 0) Cp.cells (P.csA 0)),Ent.bag (dd 102 5 P.ds.length va Ld.cells (P.inA k)),Ent.bag (dd 102 5 P.ds.length vb Ld.cells (P.ouA k)), .row g27 215 (dk (sV q1 P.ds.length) (gn 512 (dZ P.ds P.ds.length)) (gG P.ds P.ds.length) (sV q3 P.ds.length) (sV q5 P.ds.length) (sV q7 P.ds.length) (sV q9 P.ds.length)), .sl (sV q1 P.ds.length) 3 1 P.ds.length (fR (fun j=> .int .i64 (cJ P.ds j).st) (.int .i64 0) P.ds.length P.ds.length), .sl (sV q3 P.ds.length) 23 1 P.ds.length ((List.range P.ds.length).map ya2), .sl (sV q5 P.ds.length) 25 1 P.ds.length ((List.range P.ds.length).map (fun _=> .slice none 0 0)), .sl (sV q7 P.ds.length) 24 1 P.ds.length ((List.range P.ds.length).map va), .sl (sV q9 P.ds.length) 24 1 P.ds.length ((List.range P.ds.length).map vb), .row g1 29 [.slice A P.ds.length cap, .slice A1 P.ps.length cap1, .slice (some ⟨g,off,none⟩) P.ls.length cap2, .slice A3 P.cs.length cap3]]) ?_ ?_
       ·skip;refine q1w ?_;refine TS.two ?_ ?_
        ·skip;refine q4u ?_;refine dy ?_;refine q3G ?_;refine lC ?_; (refine dL rfl (Wt.none) rfl (eo 0 rfl rfl rfl rfl b5) ?_;rintro _ _ ⟨rfl,rfl⟩;refine ⟨Sx,?_⟩);refine lC ?_; (refine dL rfl (Wt.none) rfl (eo 0 rfl rfl rfl rfl b5) ?_;rintro _ _ ⟨rfl,rfl⟩;refine ⟨Sx,?_⟩);refine gh ?_;exact K.at (by repeat (first|exact Sub.nil|refine Sub.cons rfl ?_)) Sx
        ·skip;refine q3G ?_;refine dy ?_;refine q4u ?_;refine lC ?_; (refine dL rfl (Wt.none) rfl (eo 0 rfl rfl rfl rfl b5) ?_;rintro _ _ ⟨rfl,rfl⟩;refine ⟨Sx,?_⟩);refine lC ?_; (refine dL rfl (Wt.none) rfl (eo 0 rfl rfl rfl rfl b5) ?_;rintro _ _ ⟨rfl,rfl⟩;refine ⟨Sx,?_⟩);refine gh ?_;exact K.at (by repeat (first|exact Sub.nil|refine Sub.cons rfl ?_)) Sx
       ·skip;refine kl (ι:=Nat→Value) (fun u1=>[(1, .pointer (some ⟨g1,0,none⟩)),(4, .pointer (some ⟨g27,0,none⟩)),(128, .slice (some ⟨g,off,none⟩) P.ls.length cap2),(129, .int .i64 (P.ls.length:Int)),(130, .int .i64 (k:Int)),(10, .pointer (some ⟨g10,0,none⟩))]) (fun u1=>[.row g10 102 [.int .i64 ((ia:Int)+1 - 1), .int .i64 ((ib:Int)+1 - 1), .int .i64 ((cJ P.ls k).wt), .int .i64 ((cJ P.ls k).lo), .int .i64 ((cJ P.ls k).hi)],Ent.bag (dd 100 5 P.ds.length ya2 Pr.cells (P.psA P.ps.length)),Ent.bag (dd 104 4 P.ds.length (fun _=> .slice none 0 0) Cp.cells (P.csA 0)),Ent.bag (dd 102 5 P.ds.length u1 Ld.cells (P.inA (k+1))),Ent.bag (dd 102 5 P.ds.length vb Ld.cells (P.ouA k)), .row g27 215 (dk (sV q1 P.ds.length) (gn 512 (dZ P.ds P.ds.length)) (gG P.ds P.ds.length) (sV q3 P.ds.length) (sV q5 P.ds.length) (sV q7 P.ds.length) (sV q9 P.ds.length)), .sl (sV q1 P.ds.length) 3 1 P.ds.length (fR (fun j=> .int .i64 (cJ P.ds j).st) (.int .i64 0) P.ds.length P.ds.length), .sl (sV q3 P.ds.length) 23 1 P.ds.length ((List.range P.ds.length).map ya2), .sl (sV q5 P.ds.length) 25 1 P.ds.length ((List.range P.ds.length).map (fun _=> .slice none 0 0)), .sl (sV q7 P.ds.length) 24 1 P.ds.length ((List.range P.ds.length).map u1), .sl (sV q9 P.ds.length) 24 1 P.ds.length ((List.range P.ds.length).map vb), .row g1 29 [.slice A P.ds.length cap, .slice A1 P.ps.length cap1, .slice (some ⟨g,off,none⟩) P.ls.length cap2, .slice A3 P.cs.length cap3]]) (fun u1=>True) ?_ ?_
        ·skip;refine T.openB 3 ia rfl (zeU hia) ?_;have hvv:((List.range P.ds.length).map va)[0+ia*1]?=some (va ia):=zhg a5 hia;have hlen:((P.inA k) ia).length≤5000:=Nat.le_trans zdr a5;refine dD (.still 0 (.still 1 (.still 2 (.still 3 (.still 4 (.still 5 (.still 6 (.still 7 (.still 8 (.still 9 (.still 10 (.still 11 (.still 12 (.still 14 (.two 13 15 (.eff 15 (.eff 16 (.still 17 (.eff 18 .done)))) (.eff 13 (.eff 16 (.still 17 (.eff 18 .done))))))))))))))))))) [.row g10 102 [.int .i64 ((ia:Int)+1 - 1), .int .i64 ((ib:Int)+1 - 1), .int .i64 ((cJ P.ls k).wt), .int .i64 ((cJ P.ls k).lo), .int .i64 ((cJ P.ls k).hi)],Ent.bag (dd 100 5 P.ds.length ya2 Pr.cells (P.psA P.ps.length)),Ent.bag (dd 104 4 P.ds.length (fun _=> .slice none 0 0) Cp.cells (P.csA 0)),Ent.bag ((dd 102 5 P.ds.length va Ld.cells (P.inA k)).eraseIdx ia),Ent.bag (dd 102 5 P.ds.length vb Ld.cells (P.ouA k)), .row g27 215 (dk (sV q1 P.ds.length) (gn 512 (dZ P.ds P.ds.length)) (gG P.ds P.ds.length) (sV q3 P.ds.length) (sV q5 P.ds.length) (sV q7 P.ds.length) (sV q9 P.ds.length)), .sl (sV q1 P.ds.length) 3 1 P.ds.length (fR (fun j=> .int .i64 (cJ P.ds j).st) (.int .i64 0) P.ds.length P.ds.length), .sl (sV q3 P.ds.length) 23 1 P.ds.length ((List.range P.ds.length).map ya2), .sl (sV q5 P.ds.length) 25 1 P.ds.length ((List.range P.ds.length).map (fun _=> .slice none 0 0)), .sl (sV q9 P.ds.length) 24 1 P.ds.length ((List.range P.ds.length).map vb), .row g1 29 [.slice A P.ds.length cap, .slice A1 P.ps.length cap1, .slice (some ⟨g,off,none⟩) P.ls.length cap2, .slice A3 P.cs.length cap3]] a7 Sx ?_;refine jO ?_;refine cQ rfl (dc 5 rfl rfl rfl (mt nF (j:=3))) ?_;refine fQ ?_;refine jO ?_;refine cQ rfl (dc 5 rfl rfl rfl (mt nF (j:=3))) ?_;refine fQ ?_;refine q1b ?_;refine jL ?_;refine TS.two ?_ ?_
         ·skip;refine eT rfl (Wt.none) rfl rfl (fm 10 rfl rfl rfl hvv) Sx ?_;refine dy ?_; (refine de rfl (Wt.none) rfl rfl (Ew.buildSlice rfl rfl rfl a6) ?_;rintro _ _ ⟨g167,rfl,rfl⟩;refine ⟨Sx,?_⟩);refine dy ?_; (refine de rfl (Wt.none) rfl rfl (Ew.append 1 0 rfl rfl rfl rfl rfl rfl a5 a5) ?_;rintro v168 _ ⟨hv168,rfl⟩;refine ⟨Sx,?_⟩);refine q1b ?_;refine dy ?_; (refine dL rfl (Wt.none) rfl (fy 11 ((List.range P.ds.length).map (upd va ia v168)) rfl rfl rfl rfl b3 (zdP a5 hia)) ?_;rintro _ _ ⟨rfl,rfl⟩;refine ⟨Sx,?_⟩);refine q23 ?_;exact cS (upd va ia v168) trivial (by repeat (first|exact Sub.nil|refine Sub.cons rfl ?_)) Sx
         ·skip; (refine de rfl (Wt.none) rfl rfl (Ew.buildSlice rfl rfl rfl a6) ?_;rintro _ _ ⟨g167,rfl,rfl⟩;refine ⟨Sx,?_⟩);refine dy ?_;refine eT rfl (Wt.none) rfl rfl (fm 11 rfl rfl rfl hvv) Sx ?_;refine dy ?_; (refine de rfl (Wt.none) rfl rfl (Ew.append 1 0 rfl rfl rfl rfl rfl rfl a5 a5) ?_;rintro v168 _ ⟨hv168,rfl⟩;refine ⟨Sx,?_⟩);refine q1b ?_;refine dy ?_; (refine dL rfl (Wt.none) rfl (fy 11 ((List.range P.ds.length).map (upd va ia v168)) rfl rfl rfl rfl b3 (zdP a5 hia)) ?_;rintro _ _ ⟨rfl,rfl⟩;refine ⟨Sx,?_⟩);refine q23 ?_;exact cS (upd va ia v168) trivial (by repeat (first|exact Sub.nil|refine Sub.cons rfl ?_)) Sx
        ·skip;intro u1 hphi;refine T.openB 4 ib rfl (zeU hib) ?_;have hvv:((List.range P.ds.length).map vb)[0+ib*1]?=some (vb ib):=zhg a5 hib;have hlen:((P.ouA k) ib).length≤5000:=Nat.le_trans zdr a5;refine dD (.still 0 (.still 1 (.still 2 (.still 3 (.still 4 (.still 5 (.still 6 (.still 7 (.still 8 (.still 9 (.still 10 (.still 11 (.still 12 (.still 14 (.two 13 15 (.eff 15 (.eff 16 (.still 17 (.eff 18 .done)))) (.eff 13 (.eff 16 (.still 17 (.eff 18 .done))))))))))))))))))) [.row g10 102 [.int .i64 ((ia:Int)+1 - 1), .int .i64 ((ib:Int)+1 - 1), .int .i64 ((cJ P.ls k).wt), .int .i64 ((cJ P.ls k).lo), .int .i64 ((cJ P.ls k).hi)],Ent.bag (dd 100 5 P.ds.length ya2 Pr.cells (P.psA P.ps.length)),Ent.bag (dd 104 4 P.ds.length (fun _=> .slice none 0 0) Cp.cells (P.csA 0)),Ent.bag (dd 102 5 P.ds.length u1 Ld.cells (P.inA (k+1))),Ent.bag ((dd 102 5 P.ds.length vb Ld.cells (P.ouA k)).eraseIdx ib), .row g27 215 (dk (sV q1 P.ds.length) (gn 512 (dZ P.ds P.ds.length)) (gG P.ds P.ds.length) (sV q3 P.ds.length) (sV q5 P.ds.length) (sV q7 P.ds.length) (sV q9 P.ds.length)), .sl (sV q1 P.ds.length) 3 1 P.ds.length (fR (fun j=> .int .i64 (cJ P.ds j).st) (.int .i64 0) P.ds.length P.ds.length), .sl (sV q3 P.ds.length) 23 1 P.ds.length ((List.range P.ds.length).map ya2), .sl (sV q5 P.ds.length) 25 1 P.ds.length ((List.range P.ds.length).map (fun _=> .slice none 0 0)), .sl (sV q7 P.ds.length) 24 1 P.ds.length ((List.range P.ds.length).map u1), .row g1 29 [.slice A P.ds.length cap, .slice A1 P.ps.length cap1, .slice (some ⟨g,off,none⟩) P.ls.length cap2, .slice A3 P.cs.length cap3]] a7 Sx ?_;refine jO ?_;refine cQ rfl (dc 5 rfl rfl rfl (mt nF (j:=4))) ?_;refine fQ ?_;refine jO ?_;refine cQ rfl (dc 5 rfl rfl rfl (mt nF (j:=4))) ?_;refine fQ ?_;refine q1S ?_;refine jL ?_;refine TS.two ?_ ?_
         ·skip;refine eT rfl (Wt.none) rfl rfl (fm 11 rfl rfl rfl hvv) Sx ?_;refine dy ?_; (refine de rfl (Wt.none) rfl rfl (Ew.buildSlice rfl rfl rfl a6) ?_;rintro _ _ ⟨g185,rfl,rfl⟩;refine ⟨Sx,?_⟩);refine dy ?_; (refine de rfl (Wt.none) rfl rfl (Ew.append 1 0 rfl rfl rfl rfl rfl rfl a5 a5) ?_;rintro v186 _ ⟨hv186,rfl⟩;refine ⟨Sx,?_⟩);refine q1S ?_;refine dy ?_; (refine dL rfl (Wt.none) rfl (fy 12 ((List.range P.ds.length).map (upd vb ib v186)) rfl rfl rfl rfl b3 (zdP a5 hib)) ?_;rintro _ _ ⟨rfl,rfl⟩;refine ⟨Sx,?_⟩);refine q3U ?_;exact cS (u1,upd vb ib v186) trivial (by repeat (first|exact Sub.nil|refine Sub.cons rfl ?_)) Sx
         ·skip; (refine de rfl (Wt.none) rfl rfl (Ew.buildSlice rfl rfl rfl a6) ?_;rintro _ _ ⟨g185,rfl,rfl⟩;refine ⟨Sx,?_⟩);refine dy ?_;refine eT rfl (Wt.none) rfl rfl (fm 12 rfl rfl rfl hvv) Sx ?_;refine dy ?_; (refine de rfl (Wt.none) rfl rfl (Ew.append 1 0 rfl rfl rfl rfl rfl rfl a5 a5) ?_;rintro v186 _ ⟨hv186,rfl⟩;refine ⟨Sx,?_⟩);refine q1S ?_;refine dy ?_; (refine dL rfl (Wt.none) rfl (fy 12 ((List.range P.ds.length).map (upd vb ib v186)) rfl rfl rfl rfl b3 (zdP a5 hib)) ?_;rintro _ _ ⟨rfl,rfl⟩;refine ⟨Sx,?_⟩);refine q3U ?_;exact cS (u1,upd vb ib v186) trivial (by repeat (first|exact Sub.nil|refine Sub.cons rfl ?_)) Sx
      ·skip;intro uu hphi;obtain ⟨u1,u2⟩:=uu;dsimp only;refine fP ?_;refine jH ?_;exact K.next (k+1,u1,u2) a8 a8 (by repeat (first|exact Sub.nil|refine Sub.cons rfl ?_)) Sx
     ·have p3:=h3; (try simp only [cX] at p3);refine eC ?_; (obtain rfl:k=P.ls.length:=by omega);exact cS (va,vb) trivial (by repeat (first|exact Sub.nil|refine Sub.cons rfl ?_)) Sx
   ·skip;intro y hphi;obtain ⟨ya3,yb3⟩:=y;dsimp only;refine kl (ι:=Nat→Value) (fun y=>[(1, .pointer (some ⟨g1,0,none⟩)),(4, .pointer (some ⟨g27,0,none⟩))]) (fun y=>[Ent.bag (dd 100 5 P.ds.length ya2 Pr.cells (P.psA P.ps.length)),Ent.bag (dd 104 4 P.ds.length y Cp.cells (P.csA P.cs.length)),Ent.bag (dd 102 5 P.ds.length ya3 Ld.cells (P.inA P.ls.length)),Ent.bag (dd 102 5 P.ds.length yb3 Ld.cells (P.ouA P.ls.length)), .row g27 215 (dk (sV q1 P.ds.length) (gn 512 (dZ P.ds P.ds.length)) (gG P.ds P.ds.length) (sV q3 P.ds.length) (sV q5 P.ds.length) (sV q7 P.ds.length) (sV q9 P.ds.length)), .sl (sV q1 P.ds.length) 3 1 P.ds.length (fR (fun j=> .int .i64 (cJ P.ds j).st) (.int .i64 0) P.ds.length P.ds.length), .sl (sV q3 P.ds.length) 23 1 P.ds.length ((List.range P.ds.length).map ya2), .sl (sV q5 P.ds.length) 25 1 P.ds.length ((List.range P.ds.length).map y), .sl (sV q7 P.ds.length) 24 1 P.ds.length ((List.range P.ds.length).map ya3), .sl (sV q9 P.ds.length) 24 1 P.ds.length ((List.range P.ds.length).map yb3), .row g1 29 [.slice A P.ds.length cap, .slice A1 P.ps.length cap1, .slice A2 P.ls.length cap2, .slice A3 P.cs.length cap3]]) (fun y=>True) ?_ ?_
    ·skip;refine dh ?_;refine q4C ?_;refine T.loop (ι:=Nat×(Nat→Value)) (fun x=>[(1, .pointer (some ⟨g1,0,none⟩)),(4, .pointer (some ⟨g27,0,none⟩)),(191, .slice A3 P.cs.length cap3),(192, .int .i64 (P.cs.length:Int)),(193, .int .i64 (x.1:Int))]) (fun x=>[Ent.bag (dd 100 5 P.ds.length ya2 Pr.cells (P.psA P.ps.length)),Ent.bag (dd 104 4 P.ds.length x.2 Cp.cells (P.csA x.1)),Ent.bag (dd 102 5 P.ds.length ya3 Ld.cells (P.inA P.ls.length)),Ent.bag (dd 102 5 P.ds.length yb3 Ld.cells (P.ouA P.ls.length)), .row g27 215 (dk (sV q1 P.ds.length) (gn 512 (dZ P.ds P.ds.length)) (gG P.ds P.ds.length) (sV q3 P.ds.length) (sV q5 P.ds.length) (sV q7 P.ds.length) (sV q9 P.ds.length)), .sl (sV q1 P.ds.length) 3 1 P.ds.length (fR (fun j=> .int .i64 (cJ P.ds j).st) (.int .i64 0) P.ds.length P.ds.length), .sl (sV q3 P.ds.length) 23 1 P.ds.length ((List.range P.ds.length).map ya2), .sl (sV q5 P.ds.length) 25 1 P.ds.length ((List.range P.ds.length).map x.2), .sl (sV q7 P.ds.length) 24 1 P.ds.length ((List.range P.ds.length).map ya3), .sl (sV q9 P.ds.length) 24 1 P.ds.length ((List.range P.ds.length).map yb3), .row g1 29 [.slice A P.ds.length cap, .slice A1 P.ps.length cap1, .slice A2 P.ls.length cap2, .slice A3 P.cs.length cap3]]) (fun x=>x.1≤P.cs.length) (fun x=>P.cs.length - x.1) (0,(fun _=> .slice none 0 0)) ?_ ?_ ?_ ?_
     ·exact Nat.zero_le _
     ·exact (by repeat (first|exact Sub.nil|refine Sub.cons rfl ?_))
     ·exact Sx
     ·intro x hphi;obtain ⟨k,va⟩:=x;dsimp only at hphi ⊢;refine fb ?_;refine T.cond rfl (fun h4=>?_) (fun h4=>?_)
      ·have p4:=h4; (try simp only [cX] at p4);obtain ⟨g,off,rfl,hc⟩:=hsl3 a5;have hk:=hc k a5;simp only [Cp.cells] at hk;have hr:=hG.cs _ (iY (xs:=P.cs) (k:=k) a5);obtain ⟨hxo,ia,hia,hea⟩:=hr;simp only [Cp.ok,inB,fj,Bool.and_eq_true,decide_eq_true_eq] at hxo; (have ha:P.ix (cJ P.cs k).st=(ia:Int):=by rw [hea];exact eU hG hia);have hta:(dk (sV q1 P.ds.length) (gn 512 (dZ P.ds P.ds.length)) (gG P.ds P.ds.length) (sV q3 P.ds.length) (sV q5 P.ds.length) (sV q7 P.ds.length) (sV q9 P.ds.length))[0+1+(cJ P.cs k).st.toNat*1]?=some (.int .i64 ((ia:Int)+1)):=tix a5 a5 (ziC ha); (have hcell:Cp.cells (P.rc (cJ P.cs k))=[.int .i64 ((ia:Int)+1 - 1), .int .i64 (cJ P.cs k).mx, .int .i64 (cJ P.cs k).lo, .int .i64 (cJ P.cs k).hi]:=by simp [Cp.cells,Pb.rc,ha]);refine mR ?_;refine kl (ι:=Nat→Value) (fun u1=>[(1, .pointer (some ⟨g1,0,none⟩)),(4, .pointer (some ⟨g27,0,none⟩)),(191, .slice (some ⟨g,off,none⟩) P.cs.length cap3),(192, .int .i64 (P.cs.length:Int)),(193, .int .i64 (k:Int))]) (fun u1=>[Ent.bag (dd 100 5 P.ds.length ya2 Pr.cells (P.psA P.ps.length)),Ent.bag (dd 104 4 P.ds.length u1 Cp.cells (P.csA (k+1))),Ent.bag (dd 102 5 P.ds.length ya3 Ld.cells (P.inA P.ls.length)),Ent.bag (dd 102 5 P.ds.length yb3 Ld.cells (P.ouA P.ls.length)), .row g27 215 (dk (sV q1 P.ds.length) (gn 512 (dZ P.ds P.ds.length)) (gG P.ds P.ds.length) (sV q3 P.ds.length) (sV q5 P.ds.length) (sV q7 P.ds.length) (sV q9 P.ds.length)), .sl (sV q1 P.ds.length) 3 1 P.ds.length (fR (fun j=> .int .i64 (cJ P.ds j).st) (.int .i64 0) P.ds.length P.ds.length), .sl (sV q3 P.ds.length) 23 1 P.ds.length ((List.range P.ds.length).map ya2), .sl (sV q5 P.ds.length) 25 1 P.ds.length ((List.range P.ds.length).map u1), .sl (sV q7 P.ds.length) 24 1 P.ds.length ((List.range P.ds.length).map ya3), .sl (sV q9 P.ds.length) 24 1 P.ds.length ((List.range P.ds.length).map yb3), .row g1 29 [.slice A P.ds.length cap, .slice A1 P.ps.length cap1, .slice A2 P.ls.length cap2, .slice (some ⟨g,off,none⟩) P.cs.length cap3]]) (fun u1=>True) ?_ ?_
       ·skip;refine T.block (dh ?_);refine me ?_; (refine cN (Wt.none) rfl rfl (Ew.alloc) ?_;rintro _ _ ⟨g12,rfl,rfl⟩); (refine dP (Wt.none) rfl (dI 0) ?_;rintro _ _ ⟨rfl,rfl⟩);refine db ?_;refine T.cut (gs:=[(1, .pointer (some ⟨g1,0,none⟩)),(4, .pointer (some ⟨g27,0,none⟩)),(191, .slice (some ⟨g,off,none⟩) P.cs.length cap3),(192, .int .i64 (P.cs.length:Int)),(193, .int .i64 (k:Int)),(12, .pointer (some ⟨g12,0,none⟩))]) (hs':=[.row g12 104 [.int .i64 ((ia:Int)+1 - 1), .int .i64 ((cJ P.cs k).mx), .int .i64 ((cJ P.cs k).lo), .int .i64 ((cJ P.cs k).hi)],Ent.bag (dd 100 5 P.ds.length ya2 Pr.cells (P.psA P.ps.length)),Ent.bag (dd 104 4 P.ds.length va Cp.cells (P.csA k)),Ent.bag (dd 102 5 P.ds.length ya3 Ld.cells (P.inA P.ls.length)),Ent.bag (dd 102 5 P.ds.length yb3 Ld.cells (P.ouA P.ls.length)), .row g27 215 (dk (sV q1 P.ds.length) (gn 512 (dZ P.ds P.ds.length)) (gG P.ds P.ds.length) (sV q3 P.ds.length) (sV q5 P.ds.length) (sV q7 P.ds.length) (sV q9 P.ds.length)), .sl (sV q1 P.ds.length) 3 1 P.ds.length (fR (fun j=> .int .i64 (cJ P.ds j).st) (.int .i64 0) P.ds.length P.ds.length), .sl (sV q3 P.ds.length) 23 1 P.ds.length ((List.range P.ds.length).map ya2), .sl (sV q5 P.ds.length) 25 1 P.ds.length ((List.range P.ds.length).map va), .sl (sV q7 P.ds.length) 24 1 P.ds.length ((List.range P.ds.length).map ya3), .sl (sV q9 P.ds.length) 24 1 P.ds.length ((List.range P.ds.length).map yb3), .row g1 29 [.slice A P.ds.length cap, .slice A1 P.ps.length cap1, .slice A2 P.ls.length cap2, .slice (some ⟨g,off,none⟩) P.cs.length cap3]]) ?_ ?_
        ·skip;refine dD (sN 0 2 (sN 3 2 (.eff 2 (sN 5 4 (.eff 9 .done))))) (List.eraseIdx _ 0) a7 (List.eraseIdx_sublist _ _) ?_;refine fK ?_;refine fH ?_;refine fK ?_;refine lC ?_;refine q1L ?_;refine cQ rfl (ec rfl rfl rfl (show (cJ P.cs k).st=(((cJ P.cs k).st.toNat:Nat):Int) from by omega) a5) ?_;refine q3C ?_;refine lC ?_; (refine dL rfl (Wt.none) rfl (eo 0 rfl rfl rfl rfl b5) ?_;rintro _ _ ⟨rfl,rfl⟩;refine ⟨Sx,?_⟩);refine gh ?_;exact K.at (by repeat (first|exact Sub.nil|refine Sub.cons rfl ?_)) Sx
        ·skip;refine T.openB 2 ia rfl (zeU hia) ?_;have hvv:((List.range P.ds.length).map va)[0+ia*1]?=some (va ia):=zhg a5 hia;have hlen:((P.csA k) ia).length≤5000:=Nat.le_trans zdr a5;refine dD (.still 0 (.still 1 (.still 2 (.still 3 (.still 4 (.still 5 (.still 6 (.still 7 (.still 8 (.still 9 (.still 10 (.still 11 (.still 12 (.still 14 (.two 13 15 (.eff 15 (.eff 16 (.still 17 (.eff 18 .done)))) (.eff 13 (.eff 16 (.still 17 (.eff 18 .done))))))))))))))))))) [.row g12 104 [.int .i64 ((ia:Int)+1 - 1), .int .i64 ((cJ P.cs k).mx), .int .i64 ((cJ P.cs k).lo), .int .i64 ((cJ P.cs k).hi)],Ent.bag (dd 100 5 P.ds.length ya2 Pr.cells (P.psA P.ps.length)),Ent.bag ((dd 104 4 P.ds.length va Cp.cells (P.csA k)).eraseIdx ia),Ent.bag (dd 102 5 P.ds.length ya3 Ld.cells (P.inA P.ls.length)),Ent.bag (dd 102 5 P.ds.length yb3 Ld.cells (P.ouA P.ls.length)), .row g27 215 (dk (sV q1 P.ds.length) (gn 512 (dZ P.ds P.ds.length)) (gG P.ds P.ds.length) (sV q3 P.ds.length) (sV q5 P.ds.length) (sV q7 P.ds.length) (sV q9 P.ds.length)), .sl (sV q1 P.ds.length) 3 1 P.ds.length (fR (fun j=> .int .i64 (cJ P.ds j).st) (.int .i64 0) P.ds.length P.ds.length), .sl (sV q3 P.ds.length) 23 1 P.ds.length ((List.range P.ds.length).map ya2), .sl (sV q7 P.ds.length) 24 1 P.ds.length ((List.range P.ds.length).map ya3), .sl (sV q9 P.ds.length) 24 1 P.ds.length ((List.range P.ds.length).map yb3), .row g1 29 [.slice A P.ds.length cap, .slice A1 P.ps.length cap1, .slice A2 P.ls.length cap2, .slice (some ⟨g,off,none⟩) P.cs.length cap3]] a7 Sx ?_;refine jO ?_;refine cQ rfl (dc 5 rfl rfl rfl (mt nF (j:=2))) ?_;refine fQ ?_;refine jO ?_;refine cQ rfl (dc 5 rfl rfl rfl (mt nF (j:=2))) ?_;refine fQ ?_;refine q1b ?_;refine jL ?_;refine TS.two ?_ ?_
         ·skip;refine q4i ?_; (refine de rfl (Wt.none) rfl rfl (Ew.buildSlice rfl rfl rfl a6) ?_;rintro _ _ ⟨g221,rfl,rfl⟩;refine ⟨Sx,?_⟩);refine dy ?_; (refine de rfl (Wt.none) rfl rfl (Ew.append 1 0 rfl rfl rfl rfl rfl rfl a5 a5) ?_;rintro v222 _ ⟨hv222,rfl⟩;refine ⟨Sx,?_⟩);refine q1b ?_;refine dy ?_; (refine dL rfl (Wt.none) rfl (fy 10 ((List.range P.ds.length).map (upd va ia v222)) rfl rfl rfl rfl b3 (zdP a5 hia)) ?_;rintro _ _ ⟨rfl,rfl⟩;refine ⟨Sx,?_⟩);refine q3W ?_;exact cS (upd va ia v222) trivial (by repeat (first|exact Sub.nil|refine Sub.cons rfl ?_)) Sx
         ·skip; (refine de rfl (Wt.none) rfl rfl (Ew.buildSlice rfl rfl rfl a6) ?_;rintro _ _ ⟨g221,rfl,rfl⟩;refine ⟨Sx,?_⟩);refine dy ?_;refine eT rfl (Wt.none) rfl rfl (fm 10 rfl rfl rfl hvv) Sx ?_;refine dy ?_; (refine de rfl (Wt.none) rfl rfl (Ew.append 1 0 rfl rfl rfl rfl rfl rfl a5 a5) ?_;rintro v222 _ ⟨hv222,rfl⟩;refine ⟨Sx,?_⟩);refine q1b ?_;refine dy ?_; (refine dL rfl (Wt.none) rfl (fy 10 ((List.range P.ds.length).map (upd va ia v222)) rfl rfl rfl rfl b3 (zdP a5 hia)) ?_;rintro _ _ ⟨rfl,rfl⟩;refine ⟨Sx,?_⟩);refine q3W ?_;exact cS (upd va ia v222) trivial (by repeat (first|exact Sub.nil|refine Sub.cons rfl ?_)) Sx
       ·skip;intro u1 hphi;refine fP ?_;refine jH ?_;exact K.next (k+1,u1) a8 a8 (by repeat (first|exact Sub.nil|refine Sub.cons rfl ?_)) Sx
      ·have p4:=h4; (try simp only [cX] at p4);refine eC ?_; (obtain rfl:k=P.cs.length:=by omega);exact cS va trivial (by repeat (first|exact Sub.nil|refine Sub.cons rfl ?_)) Sx
    ·skip;intro y hphi;obtain ⟨ya4,hya⟩:∃z,z=y:=⟨y,rfl⟩;subst hya;refine jg ?_;refine fW ?_;exact c4 rfl rfl (fun w' hw=>⟨g27,q1,q3,q5,q7,q9,ya2,ya3,yb3,ya4,rfl,hw.sub Sx⟩)
def jW (K:Nat)(w:World):World:={ w with heap:=w.heap.mapIdx fun i o=>if i<K then .deferred none else o }
theorem zjk {K:Nat}{w:World}{g:Nat}(h:K≤g):(jW K w).heap[g]?=w.heap[g]?:=by
 unfold jW;rw [Array.getElem?_mapIdx]
 cases w.heap[g]? with
 |none=>rfl
 |some o=>simp;omega
theorem zi6 {K:Nat}{w:World}{g:Nat}(h:jJ (jW K w) g):K≤g:=by
 obtain ⟨cs,t,p,e⟩:=h;rcases Nat.lt_or_ge g K with hk|hk
 ·unfold jW at e;rw [Array.getElem?_mapIdx] at e
  cases hg:w.heap[g]? with
  |none=>rw [hg] at e;cases e
  |some o=>rw [hg] at e;simp [hk] at e
 ·exact hk
@[irreducible] def Ent.fz (w0:World):Ent where
 fp g:=jJ w0 g
 ok w:=Fz w0 w
 loc h k g hg:=(h g hg).trans (k g hg)
 lt h g hg:=by
  have:=h g hg;obtain ⟨cs,t,p,e⟩:=hg;rw [e] at this;exact (Array.getElem?_eq_some_iff.1 this).1
 nd h g hg c:=by
  have:=h g hg;obtain ⟨cs,t,p,e⟩:=hg;rw [this,e];simp
theorem eZ {w0:World}{g:Nat}:(Ent.fz w0).fp g↔jJ w0 g:=by unfold Ent.fz;exact Iff.rfl
theorem fq {w0 w:World}:(Ent.fz w0).ok w↔Fz w0 w:=by unfold Ent.fz;exact Iff.rfl
theorem zm6 (l:List Value):l.flatMap (fun u=>[u])=l:=by
 induction l with
 |nil=>rfl
 |cons x r ih=>simp [ih]
structure TbOf (P:Pb) (Y:Tb):Prop where
 st:Y.st=P.ds.map (·.st)
 ix:Y.ix=dZ P.ds P.ds.length
 total:Y.total=gG P.ds P.ds.length
 ps:Y.ps=P.psA P.ps.length
 cs:Y.cs=P.csA P.cs.length
 inn:Y.inn=P.inA P.ls.length
 out:Y.out=P.ouA P.ls.length
theorem zgB {α:Type}{W:World}{tp off q n size:Nat}{e t:TypeId}{enc:α→List Value}(he:∀x,(enc x).length=size){f:Nat→List α}{vv:Nat→Value}(hc:W.cell? ⟨tp,off,none⟩=some (sV q n))(ho:(Ent.sl (sV q n) t 1 n ((List.range n).map vv)).ok W)(hb:(Ent.bag (dd e size n vv enc f)).ok W):Lists W ⟨tp,off,none⟩ enc size ((List.range n).map vv) n f where
 at':=⟨_,hc,by
  have h1:=cY.1 ho;rw [←zm6 ((List.range n).map vv)] at h1
  exact SlOf.own (enc:=fun u=>[u]) (size:=1) (fun _=>rfl) h1 a9⟩
 len:=by simp
 each i hi:=by
  have h1:=(dp.1 hb).1 _ (List.mem_of_getElem? (zeU hi));have h2:=SlOf.own he (cY.1 h1) rfl;rw [show cJ ((List.range n).map vv) i=vv i from by simp [cJ,hi]];exact h2
theorem zjS {P : Pb} {w w' : World} {g27 q1 q3 q5 q7 q9 : Nat} {ya2 ya3 yb3 ya4 : Nat → Value} (hw : Hp w (fun _ => False) [Ent.bag (dd 100 5 P.ds.length ya2 Pr.cells (P.psA P.ps.length)), Ent.bag (dd 104 4 P.ds.length ya4 Cp.cells (P.csA P.cs.length)), Ent.bag (dd 102 5 P.ds.length ya3 Ld.cells (P.inA P.ls.length)), Ent.bag (dd 102 5 P.ds.length yb3 Ld.cells (P.ouA P.ls.length)), .row g27 215 (dk (sV q1 P.ds.length) (gn 512 (dZ P.ds P.ds.length)) (gG P.ds P.ds.length) (sV q3 P.ds.length) (sV q5 P.ds.length) (sV q7 P.ds.length) (sV q9 P.ds.length)), .sl (sV q1 P.ds.length) 3 1 P.ds.length (fR (fun j => .int .i64 (cJ P.ds j).st) (.int .i64 0) P.ds.length P.ds.length), .sl (sV q3 P.ds.length) 23 1 P.ds.length ((List.range P.ds.length).map ya2), .sl (sV q5 P.ds.length) 25 1 P.ds.length ((List.range P.ds.length).map ya4), .sl (sV q7 P.ds.length) 24 1 P.ds.length ((List.range P.ds.length).map ya3), .sl (sV q9 P.ds.length) 24 1 P.ds.length ((List.range P.ds.length).map yb3)] w') :
    ∃ Y w0, TbOf P Y ∧ TablesAt w0 g27 Y ∧ Hp w (fun _ => False) [Ent.fz w0] w' := by
  have hok : ∀ e ∈ [Ent.bag (dd 100 5 P.ds.length ya2 Pr.cells (P.psA P.ps.length)), Ent.bag (dd 104 4 P.ds.length ya4 Cp.cells (P.csA P.cs.length)), Ent.bag (dd 102 5 P.ds.length ya3 Ld.cells (P.inA P.ls.length)), Ent.bag (dd 102 5 P.ds.length yb3 Ld.cells (P.ouA P.ls.length)), .row g27 215 (dk (sV q1 P.ds.length) (gn 512 (dZ P.ds P.ds.length)) (gG P.ds P.ds.length) (sV q3 P.ds.length) (sV q5 P.ds.length) (sV q7 P.ds.length) (sV q9 P.ds.length)), .sl (sV q1 P.ds.length) 3 1 P.ds.length (fR (fun j => .int .i64 (cJ P.ds j).st) (.int .i64 0) P.ds.length P.ds.length), .sl (sV q3 P.ds.length) 23 1 P.ds.length ((List.range P.ds.length).map ya2), .sl (sV q5 P.ds.length) 25 1 P.ds.length ((List.range P.ds.length).map ya4), .sl (sV q7 P.ds.length) 24 1 P.ds.length ((List.range P.ds.length).map ya3), .sl (sV q9 P.ds.length) 24 1 P.ds.length ((List.range P.ds.length).map yb3)], e.ok (jW w.heap.size w') := fun e he => e.loc (fun g hg => by
    rcases hw.new e he g hg with h | h
    · exact h.elim
    · exact zjk h) (hw.own e he)
  have hrow := c7.1 (hok _ (List.mem_of_getElem? (i := 4) rfl)); have hst := cY.1 (hok _ (List.mem_of_getElem? (i := 5) rfl)); rw [ziG (fun d : Dx => d.st) (fun _ => rfl) rfl] at hst; have hix := nF (N := 512) (f := dZ P.ds P.ds.length); (have e1 : (P.ds.map fun d : Dx => d.st).length = P.ds.length := by simp); refine ⟨⟨P.ds.map (·.st), dZ P.ds P.ds.length, gG P.ds P.ds.length, (List.range P.ds.length).map ya2, P.psA P.ps.length, (List.range P.ds.length).map ya4, P.csA P.cs.length, (List.range P.ds.length).map ya3, P.inA P.ls.length, (List.range P.ds.length).map yb3, P.ouA P.ls.length⟩, jW w.heap.size w', ⟨rfl, rfl, rfl, rfl, rfl, rfl, rfl⟩, ⟨?_, ?_, ?_, ?_, ?_, ?_, ?_⟩, ?_⟩
  · exact ⟨_, by rw [jP hrow]; rfl, SlOf.own (enc := Ie) (size := 1) (fun _ => rfl) hst a9⟩
  · intro j hj; rw [jP hrow, ziu hix hj rfl, zhx rfl hj]
  · rw [jP hrow, mt hix (j := 0) rfl]; rfl
  · have := zgB (enc := Pr.cells) (fun _ => rfl) (tp := g27) (off := 514) (by rw [jP hrow, mt hix (j := 1) rfl]; rfl) (hok _ (List.mem_of_getElem? (i := 6) rfl)) (hok _ (List.mem_of_getElem? (i := 0) rfl)); simpa [Tb.n] using this
  · have := zgB (enc := Cp.cells) (fun _ => rfl) (tp := g27) (off := 515) (by rw [jP hrow, mt hix (j := 2) rfl]; rfl) (hok _ (List.mem_of_getElem? (i := 7) rfl)) (hok _ (List.mem_of_getElem? (i := 1) rfl)); simpa [Tb.n] using this
  · have := zgB (enc := Ld.cells) (fun _ => rfl) (tp := g27) (off := 516) (by rw [jP hrow, mt hix (j := 3) rfl]; rfl) (hok _ (List.mem_of_getElem? (i := 8) rfl)) (hok _ (List.mem_of_getElem? (i := 2) rfl)); simpa [Tb.n] using this
  · have := zgB (enc := Ld.cells) (fun _ => rfl) (tp := g27) (off := 517) (by rw [jP hrow, mt hix (j := 4) rfl]; rfl) (hok _ (List.mem_of_getElem? (i := 9) rfl)) (hok _ (List.mem_of_getElem? (i := 3) rfl)); simpa [Tb.n] using this
  · refine ⟨hw.os, hw.tape, hw.output, hw.size, hw.base, fun e he => ?_, fun e he g hg => ?_, List.pairwise_singleton _ _⟩
    · rw [List.mem_singleton.1 he]; exact fq.2 fun g hg => (zjk (zi6 hg)).symm
    · rw [List.mem_singleton.1 he] at hg; exact .inr (zi6 (eZ.1 hg))
theorem zjM (P:Pb)(vd vp vl vc:Value)(w:World)(h:ProbAt w vd vp vl vc P)(hok:P.ok=true):Calls Tryz.prog 141 #[.agg [vd,vp,vl,vc].toArray] w fun e w'=>∃y:Nat×Tb×World,(TbOf P y.2.1∧TablesAt y.2.2 y.1 y.2.1)∧e= .returned (.pointer (some ⟨y.1,0,none⟩))∧Hp w (fun _=>False) [Ent.fz y.2.2] w':=
 (zj8 P vd vp vl vc w h hok).mono fun e w' ⟨g27,q1,q3,q5,q7,q9,ya2,ya3,yb3,ya4,he,hw⟩=>by
  obtain ⟨Y,w0,h1,h2,h3⟩:=zjS hw;exact ⟨(g27,Y,w0),⟨h1,h2⟩,he,h3⟩
theorem jl {P:Pb}{j:Nat}{x:Pr}:x∈P.psA P.ps.length j↔(∃y∈P.ps,P.rp y=x)∧(x.a=(j:Int)∨x.b=(j:Int)):=by
 unfold Pb.psA;rw [List.take_length,List.mem_filter,List.mem_map];simp
theorem ko {P:Pb}{j:Nat}{x:Ld}:x∈P.inA P.ls.length j↔(∃y∈P.ls,P.rl y=x)∧x.to=(j:Int):=by
 unfold Pb.inA;rw [List.take_length,List.mem_filter,List.mem_map];simp
theorem kc {P:Pb}{j:Nat}{x:Ld}:x∈P.ouA P.ls.length j↔(∃y∈P.ls,P.rl y=x)∧x.fr=(j:Int):=by
 unfold Pb.ouA;rw [List.take_length,List.mem_filter,List.mem_map];simp
theorem mem_csA {P:Pb}{j:Nat}{x:Cp}:x∈P.csA P.cs.length j↔(∃y∈P.cs,P.rc y=x)∧x.st=(j:Int):=by
 unfold Pb.csA;rw [List.take_length,List.mem_filter,List.mem_map];simp
theorem zku {P:Pb}(hG:P.Good){y:Pr}(hy:y∈P.ps):0≤(P.rp y).a∧(P.rp y).a<P.ds.length∧0≤(P.rp y).b∧(P.rp y).b<P.ds.length∧(P.rp y).a≠(P.rp y).b∧ -1≤y.off∧y.off≤1∧2≤y.lo∧y.lo≤y.hi∧y.hi≤51:=by
 obtain ⟨ho,⟨ia,hia,hea⟩,ib,hib,heb⟩:=hG.ps y hy;simp only [Pr.ok,inB,fj,Bool.and_eq_true,decide_eq_true_eq] at ho; (have h1:(P.rp y).a=(ia:Int):=by show P.ix y.a=_;rw [hea];exact eU hG hia); (have h2:(P.rp y).b=(ib:Int):=by show P.ix y.b=_;rw [heb];exact eU hG hib); (have h3:ia≠ib:=by rintro rfl;omega);omega
theorem zgA {P:Pb}(hG:P.Good){y:Ld}(hy:y∈P.ls):0≤(P.rl y).to∧(P.rl y).to<P.ds.length∧0≤(P.rl y).fr∧(P.rl y).fr<P.ds.length∧(P.rl y).to≠(P.rl y).fr∧1≤y.wt∧y.wt≤1073741824∧2≤y.lo∧y.lo≤y.hi∧y.hi≤51:=by
 obtain ⟨ho,⟨ia,hia,hea⟩,ib,hib,heb⟩:=hG.ls y hy;simp only [Ld.ok,inB,fj,Bool.and_eq_true,decide_eq_true_eq] at ho; (have h1:(P.rl y).to=(ia:Int):=by show P.ix y.to=_;rw [hea];exact eU hG hia); (have h2:(P.rl y).fr=(ib:Int):=by show P.ix y.fr=_;rw [heb];exact eU hG hib); (have h3:ia≠ib:=by rintro rfl;exact ho.2.2.1 (by rw [hea,heb]));omega
theorem TbOf.ok {P:Pb}{Y:Tb}(hG:P.Good)(h:TbOf P Y):Y.Ok:=by
 (have hn:Y.n=P.ds.length:=by unfold Tb.n;rw [h.st];simp);have l1:=hG.lps;have l2:=hG.lls;have l3:=hG.lcs;refine ⟨by rw [hn];exact hG.n,fun i hi=>⟨?_,fun x hx=>?_⟩,fun i hi=>⟨?_,fun x hx=>?_⟩,fun i hi=>⟨?_,fun x hx=>?_⟩,fun i hi x hx=>?_,fun i hi x hx=>?_,fun i hi x hx=>?_,fun i hi=>⟨?_,fun x hx=>?_⟩⟩
 ·rw [h.ps];exact Nat.le_trans zdr l1
 ·rw [h.ps] at hx;obtain ⟨⟨y,hy,rfl⟩,hj⟩:=jl.1 hx;have:=zku hG hy;rw [hn];exact ⟨this.1,this.2.1,this.2.2.1,this.2.2.2.1,this.2.2.2.2.2.1,this.2.2.2.2.2.2.1,this.2.2.2.2.2.2.2.1,this.2.2.2.2.2.2.2.2.1,this.2.2.2.2.2.2.2.2.2,hj⟩
 ·rw [h.cs];exact Nat.le_trans zdr l3
 ·rw [h.cs] at hx;obtain ⟨⟨y,hy,rfl⟩,hj⟩:=mem_csA.1 hx;have ho:=(hG.cs y hy).1;simp only [Cp.ok,inB,fj,Bool.and_eq_true,decide_eq_true_eq] at ho
  show 0≤y.mx∧y.mx≤_∧2≤y.lo∧y.lo≤y.hi∧y.hi≤51
  omega
 ·rw [h.inn];exact Nat.le_trans zdr l2
 ·rw [h.inn] at hx;obtain ⟨⟨y,hy,rfl⟩,hj⟩:=ko.1 hx;have:=zgA hG hy;rw [hn];exact ⟨hj,this.2.2.1,this.2.2.2.1,this.2.2.2.2.2⟩
 ·rw [h.ps] at hx ⊢;obtain ⟨⟨y,hy,rfl⟩,hj⟩:=jl.1 hx;have:=zku hG hy;exact ⟨this.2.2.2.2.1,jl.2 ⟨⟨y,hy,rfl⟩, .inl a5⟩,jl.2 ⟨⟨y,hy,rfl⟩, .inr a5⟩⟩
 ·rw [h.inn] at hx;rw [h.out];obtain ⟨⟨y,hy,rfl⟩,hj⟩:=ko.1 hx;have:=zgA hG hy;exact ⟨this.2.2.2.2.1,kc.2 ⟨⟨y,hy,rfl⟩,by omega⟩⟩
 ·rw [h.out] at hx;rw [h.inn];obtain ⟨⟨y,hy,rfl⟩,hj⟩:=kc.1 hx;have:=zgA hG hy;exact ⟨this.2.2.2.2.1,ko.2 ⟨⟨y,hy,rfl⟩,by omega⟩⟩
 ·rw [h.out];exact Nat.le_trans zdr l2
 ·rw [h.out] at hx;obtain ⟨⟨y,hy,rfl⟩,hj⟩:=kc.1 hx;have:=zgA hG hy;rw [hn];exact ⟨hj,this.1,this.2.1,this.2.2.2.2.2⟩
end Go.Proofs.YtogbggmckmnlfaaGreatDoor
