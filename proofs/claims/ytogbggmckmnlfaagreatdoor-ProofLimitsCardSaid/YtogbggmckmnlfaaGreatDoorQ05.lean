/- Pn H2 J1 J2 J3 J4: shortened and put together by squeeze.py. -/
import Derived.Test.YtogbggmckmnlfaaGreatDoorQ04
set_option maxRecDepth 100000
set_option maxHeartbeats 4000000
set_option linter.unusedVariables false
set_option linter.unusedSectionVars false
set_option linter.unusedSimpArgs false
namespace Go.Proofs.YtogbggmckmnlfaaGreatDoor
open Go.RowKit
theorem cF {p:Prop}(h:p:=by rw [zeR (by omega)];omega):p:=h
theorem a9 {p:Prop}(h:p:=by dsimp only;omega):p:=h
def i7 (Y:Tb)(L:Ws)(i:Nat):BitVec 64:=li Y L i ||| kj Y L i ||| lz Y L i
theorem zbC {α β:Type}{f g:β→α→β}:∀(l:List α) (z:β),(∀x∈l,∀s,f s x=g s x)→l.foldl f z=l.foldl g z
 | [],_,_=>rfl
 |x :: r,z,h=>by rw [List.foldl_cons,List.foldl_cons,h x a7 z];exact zbC r _ (fun y hy=>h y (by simp [hy]))
structure Alike (Y:Tb) (L L':Ws) (k:Nat):Prop where
 ps:∀x∈Y.ps k,(x.a=(k:Int)→only L' x.b.toNat=only L x.b.toNat)∧(x.a≠(k:Int)→only L' x.a.toNat=only L x.a.toNat)
 inn:∀x∈Y.inn k,only L' x.fr.toNat=only L x.fr.toNat
 out:∀x∈Y.out k,only L' x.to.toNat=only L x.to.toNat∧(only L x.to.toNat≠0→∀o∈Y.inn x.to.toNat,o.fr≠(k:Int)→only L' o.fr.toNat=only L o.fr.toNat)
theorem zfO {Y:Tb}{L L':Ws}{k:Nat}(h:Alike Y L L' k)(hlo:∀x∈Y.out k,2≤x.lo):i7 Y L' k=i7 Y L k:=by
 have e1:li Y L' k=li Y L k:=zbC _ _ fun x hx s=>by
  have:=h.ps x hx;unfold lD;by_cases ha:x.a=(k:Int)
  ·rw [if_pos ha,if_pos ha,this.1 ha]
  ·rw [if_neg ha,if_neg ha,this.2 ha]
 have e2:kj Y L' k=kj Y L k:=by
  have:gK L' (Y.inn k)=gK L (Y.inn k):=zbC _ _ fun x hx s=>by
   funext d
   unfold jA;rw [h.inn x hx]
  unfold kj;rw [this]
 have e3:lz Y L' k=lz Y L k:=zbC _ _ fun x hx s=>by
  have ho:=h.out x hx;unfold kE;rw [ho.1];by_cases hz:only L x.to.toNat=0
  ·have:=hlo x hx;rw [if_pos (.inl (.inl (by rw [hz];show (0:Int)<_;omega))),if_pos (.inl (.inl (by rw [hz];show (0:Int)<_;omega)))]
  ·have e:jn L' k (only L x.to.toNat) (Y.inn x.to.toNat)=jn L k (only L x.to.toNat) (Y.inn x.to.toNat):=zbC _ _ fun o ho' s=>by
    unfold jx;by_cases hk:o.fr=(k:Int)
    ·simp [hk]
    ·rw [ho.2 hz o ho' hk]
   rw [e]
 unfold i7;rw [e1,e2,e3]
theorem kb {L:Ws}{i j:Nat}{b:BitVec 64}(hi:i<L.length):cH (L.set i b) j=if j=i then b else cH L j:=by
 unfold cH;rw [List.getD_eq_getElem?_getD,List.getD_eq_getElem?_getD];by_cases h:j=i
 ·subst h;rw [List.getElem?_set_self hi,if_pos rfl];rfl
 ·rw [List.getElem?_set_ne (fun e=>h e.symm),if_neg h]
theorem zeb {L:Ws}{i j:Nat}{b:BitVec 64}(hi:i<L.length)(h:j≠i):only (L.set i b) j=only L j:=by
 unfold only;rw [kb hi,if_neg h]
theorem zf1 {Y:Tb}{L:Ws}{i:Nat}{b:BitVec 64}(hok:Y.Ok)(hi:i<Y.n)(hl:L.length=Y.n):li Y (L.set i b) i=li Y L i∧kj Y (L.set i b) i=kj Y L i∧lz Y (L.set i b) i=lz Y L i:=by
 (have hil:i<L.length:=by omega);refine ⟨zbC _ _ fun x hx s=>?_,?_,zbC _ _ fun x hx s=>?_⟩
 ·have h1:=(hok.psS i hi x hx).1;have h2:=(hok.ps i hi).2 x hx;unfold lD;by_cases ha:x.a=(i:Int)
  ·rw [if_pos ha,if_pos ha,zeb hil a5]
  ·rw [if_neg ha,if_neg ha,zeb hil a5]
 ·have:gK (L.set i b) (Y.inn i)=gK L (Y.inn i):=zbC _ _ fun x hx s=>by
   have h1:=(hok.innS i hi x hx).1;have h2:=(hok.inn i hi).2 x hx
   funext d
   unfold jA;rw [zeb hil a5]
  unfold kj;rw [this]
 ·have h1:=(hok.outS i hi x hx).1;have h2:=(hok.out i hi).2 x hx;unfold kE;rw [zeb hil a5]
  have e:jn (L.set i b) i (only L x.to.toNat) (Y.inn x.to.toNat)=jn L i (only L x.to.toNat) (Y.inn x.to.toNat):=zbC _ _ fun o ho s=>by
   have h3:=(hok.inn _ a5).2 o ho;unfold jx;by_cases hk:o.fr=(i:Int)
   ·simp [hk]
   ·rw [zeb hil a5]
  rw [e]
def zhp (Y:Tb)(L:Ws)(i:Nat):Prop:=cH L i≠0#64∧cH L i &&& i7 Y L i=0#64
theorem ziE {α:Type}(f:α→Nat)(hf:∀_:α,True):∀(l:List α) (s:Ws),s.length=8→(∀x∈l,f x<512)→∀j,j<512→(et (l.foldl (fun s x=>dR s (f x)) s) j=true↔et s j=true∨∃x∈l,f x=j)
 | [],s,_,_,j,_=>by simp
 |x :: r,s,hs,hx,j,hj=>by
  rw [List.foldl_cons,ziE f hf r _ (by rw [kz,hs]) (fun y hy=>hx y (by simp [hy])) j hj,zfu hs (hx x a7) hj];simp only [Bool.or_eq_true,decide_eq_true_eq,List.mem_cons];constructor
  ·rintro ((h|h)|⟨y,hy,h⟩)
   ·exact .inl h
   ·exact .inr ⟨x, .inl rfl,h⟩
   ·exact .inr ⟨y, .inr hy,h⟩
  ·rintro (h|⟨y,rfl|hy,h⟩)
   ·exact .inl (.inl h)
   ·exact .inl (.inr h)
   ·exact .inr ⟨y,hy,h⟩
def l7 (Y:Tb)(L:Ws)(i j:Nat):Prop:=
 (∃x∈Y.ps i,(x.a+x.b - (i:Int)).toNat=j)∨(∃x∈Y.inn i,x.fr.toNat=j)∨(∃x∈Y.out i,x.to.toNat=j∨(only L x.to.toNat≠0∧∃o∈Y.inn x.to.toNat,o.fr.toNat=j))
theorem zlG {Y : Tb} {L : Ws} : ∀ (l : List Ld) (s : Ws), s.length = 8 → (∀ x ∈ l, x.to.toNat < 512 ∧ ∀ o ∈ Y.inn x.to.toNat, o.fr.toNat < 512) → ∀ j, j < 512 →
    (et (l.foldl (lg Y L) s) j = true ↔ et s j = true ∨ ∃ x ∈ l, x.to.toNat = j ∨ (only L x.to.toNat ≠ 0 ∧ ∃ o ∈ Y.inn x.to.toNat, o.fr.toNat = j))
  | [], s, _, _, j, _ => by simp
  | x :: r, s, hs, hx, j, hj => by
    have h1 := hx x a7; rw [List.foldl_cons, zlG r _ (by rw [zf7, hs]) (fun y hy => hx y (by simp [hy])) j hj]
    have e : et (lg Y L s x) j = true ↔ et s j = true ∨ (x.to.toNat = j ∨ (only L x.to.toNat ≠ 0 ∧ ∃ o ∈ Y.inn x.to.toNat, o.fr.toNat = j)) := by
      unfold lg; by_cases hz : (only L x.to.toNat : Int) = 0
      · rw [if_pos hz, zfu hs h1.1 hj];simp only [Bool.or_eq_true, decide_eq_true_eq]; constructor
        · rintro (h | h)
          · exact .inl h
          · exact .inr (.inl h)
        · rintro (h | h | h)
          · exact .inl h
          · exact .inr h
          · exact absurd (show only L x.to.toNat = 0 by omega) h.1
      · rw [if_neg hz, ziE (fun o : Ld => o.fr.toNat) (fun _ => trivial) _ _ (by rw [kz, hs]) h1.2 j hj, zfu hs h1.1 hj];simp only [Bool.or_eq_true, decide_eq_true_eq]; constructor
        · rintro ((h | h) | h)
          · exact .inl h
          · exact .inr (.inl h)
          · exact .inr (.inr ⟨by omega, h⟩)
        · rintro (h | h | h)
          · exact .inl (.inl h)
          · exact .inl (.inr h)
          · exact .inr h.2
    rw [e];simp only [List.mem_cons]; constructor
    · rintro ((h | h) | ⟨y, hy, h⟩)
      · exact .inl h
      · exact .inr ⟨x, .inl rfl, h⟩
      · exact .inr ⟨y, .inr hy, h⟩
    · rintro (h | ⟨y, rfl | hy, h⟩)
      · exact .inl (.inl h)
      · exact .inl (.inr h)
      · exact .inr ⟨y, hy, h⟩
theorem zdr {Y:Tb}{L:Ws}{i:Nat}{ws:Ws}(hok:Y.Ok)(hi:i<Y.n)(hws:ws.length=8)(j:Nat)(hj:j<512):et (jH Y L i ws) j=true↔et ws j=true∨(only L i≠0∧l7 Y L i j):=by
 have hn:=hok.n;unfold jH;by_cases hz:(only L i:Int)=0
 ·rw [if_pos hz];constructor
  ·exact .inl
  ·rintro (h|h)
   ·exact h
   ·exact absurd (show only L i=0 by omega) h.1
 ·rw [if_neg hz];have hp:=(hok.ps i hi).2;have hI:=(hok.inn i hi).2;have hO:=(hok.out i hi).2
  have:=zlG (Y:=Y) (L:=L) (Y.out i) ((Y.inn i).foldl (fun s x=>dR s x.fr.toNat) ((Y.ps i).foldl (fun s x=>dR s (x.a+x.b - (i:Int)).toNat) ws)) (by rw [zc2,zcR,hws]) (fun x hx=>by
   have:=hO x hx
   exact ⟨by omega,fun o ho=>by have:=(hok.inn x.to.toNat a5).2 o ho;omega⟩) j hj
  refine Iff.trans this ?_;rw [ziE (fun x:Ld=>x.fr.toNat) (fun _=>trivial) _ _ (by rw [zcR,hws]) (fun x hx=>by have:=hI x hx;omega) j hj,ziE (fun x:Pr=>(x.a+x.b - (i:Int)).toNat) (fun _=>trivial) _ _ hws (fun x hx=>by have:=hp x hx;omega) j hj];unfold l7;constructor
  ·rintro (((h|h)|h)|h)
   ·exact .inl h
   ·exact .inr ⟨by omega, .inl h⟩
   ·exact .inr ⟨by omega, .inr (.inl h)⟩
   ·exact .inr ⟨by omega, .inr (.inr h)⟩
  ·rintro (h|⟨_,h|h|h⟩)
   ·exact .inl (.inl (.inl h))
   ·exact .inl (.inl (.inr h))
   ·exact .inl (.inr h)
   ·exact .inr h
theorem zhE {Y:Tb}{L L':Ws}{i k:Nat}(hok:Y.Ok)(hi:i<Y.n)(hk:k<Y.n)(hki:k≠i)(hsame:∀j,j≠i→only L' j=only L j)(h0:only L i=0)(hfar:¬l7 Y L' i k):Alike Y L L' k where
 ps x hx:=by
  have h1:=(hok.ps k hk).2 x hx;have h2:=hok.psS k hk x hx;constructor
  ·intro ha;by_cases hb:x.b.toNat=i
   ·exact absurd (.inl ⟨x,by rw [←hb];exact h2.2.2,by omega⟩) hfar
   ·exact hsame _ hb
  ·intro ha;by_cases hb:x.a.toNat=i
   ·exact absurd (.inl ⟨x,by rw [←hb];exact h2.2.1,by omega⟩) hfar
   ·exact hsame _ hb
 inn x hx:=by
  have h1:=(hok.inn k hk).2 x hx;by_cases hb:x.fr.toNat=i
  ·exact absurd (.inr (.inr ⟨x,by rw [←hb];exact (hok.innS k hk x hx).2, .inl a5⟩)) hfar
  ·exact hsame _ hb
 out x hx:=by
  have h1:=(hok.out k hk).2 x hx;have h2:=hok.outS k hk x hx;have hto:x.to.toNat≠i:=fun hb=>hfar (.inr (.inl ⟨x,by rw [←hb];exact h2.2,by omega⟩));refine ⟨hsame _ hto,fun hz o ho hok'=>?_⟩;have h3:=(hok.inn x.to.toNat a5).2 o ho;by_cases hb:o.fr.toNat=i
  ·have h4:=(hok.innS x.to.toNat a5 o ho).2;rw [hb] at h4;refine absurd (.inr (.inr ⟨o,h4, .inr ⟨?_,x,?_,by omega⟩⟩)) hfar
   ·rw [show o.to.toNat=x.to.toNat by omega,hsame _ hto];exact hz
   ·rw [show o.to.toNat=x.to.toNat by omega];exact h2.2
  ·exact hsame _ hb
def zj8 (L:Ws):Nat:=(L.map fun b=>(dt b).length).sum
theorem dD {b:BitVec 64}{j:Nat}:j∈dt b↔b.getLsbD j=true:=by
 unfold dt;rw [List.mem_filter,List.mem_range'_1];constructor
 ·exact fun h=>h.2
 ·intro h;refine ⟨⟨Nat.zero_le _,?_⟩,h⟩;have:=BitVec.lt_of_getLsbD h;omega
theorem zh3 {p q:Nat→Bool}:∀(l:List Nat),(∀x∈l,q x=true→p x=true)→(∃x∈l,p x=true∧q x=false)→(l.filter q).length<(l.filter p).length
 | [],_,h=>by obtain ⟨x,hx,_⟩:=h;cases hx
 |y :: r,h,⟨x,hx,hp,hq⟩=>by
  have hle:∀(l:List Nat),(∀x∈l,q x=true→p x=true)→(l.filter q).length≤(l.filter p).length:=by
   intro l
   induction l with
   |nil=>intro _;simp
   |cons z s ih=>
    intro hz;have h1:=ih (fun x hx=>hz x (by simp [hx]));have h2:=hz z a7
    cases hqz:q z <;> cases hpz:p z <;> simp [hqz,hpz] at h2 ⊢ <;> omega
  have h2:=h y a7;rcases List.mem_cons.1 hx with rfl|hx
  ·rw [List.filter_cons_of_neg (by rw [hq];simp),List.filter_cons_of_pos hp];have:=hle r (fun x hx=>h x (by simp [hx]));simp;omega
  ·have:=zh3 r (fun x hx=>h x (by simp [hx])) ⟨x,hx,hp,hq⟩
   cases hqz:q y <;> cases hpz:p y <;> simp [hqz,hpz] at h2 ⊢ <;> omega
theorem zm9 {a b:BitVec 64}(h:∀j,a.getLsbD j=true→b.getLsbD j=true)(hne:a≠b):(dt a).length<(dt b).length:=by
 unfold dt;refine zh3 _ (fun j _=>h j) ?_;apply Classical.byContradiction;intro hno;apply hne;apply BitVec.eq_of_getLsbD_eq;intro j hj
 cases ha:a.getLsbD j with
 |true=>rw [h j ha]
 |false=>
  cases hb:b.getLsbD j with
  |false=>rfl
  |true=>exact absurd ⟨j,List.mem_range'_1.2 ⟨Nat.zero_le _,by omega⟩,hb,ha⟩ hno
theorem zhy:∀(L:Ws) (i:Nat) (b:BitVec 64),i<L.length→zj8 (L.set i b)+(dt (cH L i)).length=zj8 L+(dt b).length
 | [],i,b,h=>by simp at h
 |x :: r,0,b,h=>by simp [zj8,cH];omega
 |x :: r,i+1,b,h=>by
  have:=zhy r i b (by simpa using h);simp only [zj8,cH,List.set_cons_succ,List.map_cons,List.sum_cons,List.getD_cons_succ] at this ⊢;omega
inductive Reach (Y:Tb) (L:Ws):Ws→Prop
 |refl:Reach Y L L
 |step {M:Ws} {i:Nat} {b:BitVec 64}:Reach Y L M→i<Y.n→(∀j,b.getLsbD j=true→(i7 Y M i).getLsbD j=true)→Reach Y L (M.set i (cH M i &&& ~~~b))
theorem Reach.len {Y:Tb}{L M:Ws}(h:Reach Y L M):M.length=L.length:=by
 induction h with
 |refl=>rfl
 |step _ _ _ ih=>rw [List.length_set,ih]
theorem Reach.sub {Y:Tb}{L M:Ws}(h:Reach Y L M)(hl:L.length=Y.n):∀i j,(cH M i).getLsbD j=true→(cH L i).getLsbD j=true:=by
 induction h with
 |refl=>exact fun _ _ h=>h
 | @step M' k b hr hk _ ih=>
  intro i j hij;rw [kb (by rw [hr.len,hl];exact hk)] at hij
  split at hij
  ·rename_i e;subst e;rw [BitVec.getLsbD_and,Bool.and_eq_true] at hij;exact ih _ _ hij.1
  ·exact ih _ _ hij
structure SInv (Y:Tb) (L0 L:Ws) (q:List Nat) (ws:Ws) (c:Bool):Prop where
 reach:Reach Y L0 L
 len:L.length=Y.n
 ws8:ws.length=8
 wsn:∀j,j<512→et ws j=true→j<Y.n
 qn:∀j∈q,j<Y.n
 q512:q.length≤512
 bad:c=true→∃i,i<Y.n∧cH L i=0#64
 good:c=false→∀i,i<Y.n→i∈q∨et ws i=true∨zhp Y L i
def smu (L:Ws)(q:List Nat)(ws:Ws):Nat:=zj8 L*2000+q.length+(if eT ws=[] then 0 else 600)
theorem zlt:eT e9=[]:=zfW fun j _ _=>zdH j
theorem SInv.refill {Y:Tb}{L0 L:Ws}{ws:Ws}{c:Bool}(h:SInv Y L0 L [] ws c):SInv Y L0 L (eT ws) e9 c where
 reach:=h.reach
 len:=h.len
 ws8:=rfl
 wsn j _ hb:=by rw [zdH] at hb;cases hb
 qn j hj:=by obtain ⟨_,h1,h2⟩:=fj.1 hj;exact h.wsn j h1 h2
 q512:=zfw ws 0
 bad:=h.bad
 good hc i hi:=by
  rcases h.good hc i hi with h1|h1|h1
  ·cases h1
  ·have:=h.len;by_cases h512:i<512
   ·exact .inl (fj.2 ⟨Nat.zero_le _,h512,h1⟩)
   ·exfalso;unfold et cH at h1;rw [List.getD_eq_getElem?_getD,List.getElem?_eq_none (by rw [h.ws8];omega)] at h1;exact absurd h1 (by show ¬(0#64).getLsbD _=true;rw [BitVec.getLsbD_zero];simp)
  ·exact .inr (.inr h1)
theorem zjs {L:Ws}{ws:Ws}(h:eT ws≠[]):smu L (eT ws) e9<smu L [] ws:=by
 unfold smu;rw [if_pos zlt,if_neg h];have:(eT ws).length≤512:=zfw ws 0;simp only [List.length_nil];omega
theorem SInv.calm {Y:Tb}{L0 L:Ws}{ws:Ws}(h:SInv Y L0 L [] ws false)(hm:eT ws=[]):∀i,i<Y.n→zhp Y L i:=fun i hi=>by
 rcases h.refill.good rfl i hi with h1|h1|h1
 ·rw [hm] at h1;cases h1
 ·rw [zdH] at h1;cases h1
 ·exact h1
theorem zjr {Y:Tb}{L0 L:Ws}{i:Nat}{b:BitVec 64}(h:Reach Y L0 L)(hi:i<Y.n)(hb:∀j,b.getLsbD j=true→(i7 Y L i).getLsbD j=true):Reach Y L0 (L.set i (cH L i &&& ~~~b)):= .step h hi hb
theorem zne {Y:Tb}{L:Ws}{i j:Nat}(h:(li Y L i).getLsbD j=true):(i7 Y L i).getLsbD j=true:=by simp [i7,h]
theorem zny {Y:Tb}{L:Ws}{i j:Nat}(h:(kj Y L i).getLsbD j=true):(i7 Y L i).getLsbD j=true:=by simp [i7,h]
theorem zmX {Y:Tb}{L:Ws}{i j:Nat}(h:(lz Y L i).getLsbD j=true):(i7 Y L i).getLsbD j=true:=by simp [i7,h]
def zge (Y:Tb)(L:Ws)(i k:Nat):BitVec 64:=if k=0 then li Y L i else if k=1 then kj Y L i else lz Y L i
theorem zno {Y:Tb}{L:Ws}{i j k:Nat}(h:(zge Y L i k).getLsbD j=true):(i7 Y L i).getLsbD j=true:=by
 unfold zge at h
 split at h
 ·exact zne h
 ·split at h
  ·exact zny h
  ·exact zmX h
def ef (Y:Tb)(L:Ws)(i:Nat):Nat→Ws
 |0=>L
 |k+1=>(ef Y L i k).set i (cH (ef Y L i k) i &&& ~~~(zge Y (ef Y L i k) i k))
theorem zbZ {Y:Tb}{L:Ws}{i:Nat}:∀k,(ef Y L i k).length=L.length
 |0=>rfl
 |k+1=>by rw [ef,List.length_set,zbZ k]
theorem zd0 {Y:Tb}{L0 L:Ws}{i:Nat}(h:Reach Y L0 L)(hi:i<Y.n):∀k,Reach Y L0 (ef Y L i k)
 |0=>h
 |k+1=>zjr (zd0 h hi k) hi (fun j hj=>zno hj)
theorem zdY {Y:Tb}{L:Ws}{i j:Nat}(hi:i<L.length)(hj:j≠i):∀k,cH (ef Y L i k) j=cH L j
 |0=>rfl
 |k+1=>by rw [ef,kb (by rw [zbZ];exact hi),if_neg hj,zdY hi hj k]
theorem zfd {Y:Tb}{L:Ws}{i:Nat}(hi:i<L.length):∀k j,(cH (ef Y L i k) i).getLsbD j=true→(cH L i).getLsbD j=true
 |0,_,h=>h
 |k+1,j,h=>by
  rw [ef,kb (by rw [zbZ];exact hi),if_pos rfl,BitVec.getLsbD_and,Bool.and_eq_true] at h;exact zfd hi k j h.1
theorem zjO {Y:Tb}{L:Ws}{i:Nat}{b:BitVec 64}(hok:Y.Ok)(hi:i<Y.n)(hl:L.length=Y.n)(m:Nat):zge Y (L.set i b) i m=zge Y L i m:=by
 have h1:=zf1 (b:=b) hok hi hl;unfold zge;rw [h1.1,h1.2.1,h1.2.2]
theorem zfX {Y:Tb}{L:Ws}{i:Nat}(hok:Y.Ok)(hi:i<Y.n)(hl:L.length=Y.n):∀k m,zge Y (ef Y L i k) i m=zge Y L i m
 |0,_=>rfl
 |k+1,m=>by rw [ef,zjO hok hi (by rw [zbZ,hl]),zfX hok hi hl k m]
theorem zko {Y:Tb}{L:Ws}{i:Nat}(hok:Y.Ok)(hi:i<Y.n)(hl:L.length=Y.n):cH (ef Y L i 3) i=cH L i &&& ~~~(li Y L i) &&& ~~~(kj Y L i) &&& ~~~(lz Y L i):=by
 have h:∀k,cH (ef Y L i (k+1)) i=cH (ef Y L i k) i &&& ~~~(zge Y L i k):=fun k=>by
  rw [ef,kb (by rw [zbZ,hl];exact hi),if_pos rfl,zfX hok hi hl]
 rw [h 2,h 1,h 0]
 rfl
theorem zeW {Y : Tb} {L : Ws} {i : Nat} (hi : i < L.length) : ef Y L i 3 = L.set i (cH (ef Y L i 3) i) := by
  have h : ∀ k, ∃ b, ef Y L i k = L.set i b := by
    intro k
    induction k with
    | zero => exact ⟨cH L i, by
        apply List.ext_getElem?; intro j; by_cases hj : j = i
        · subst hj; rw [List.getElem?_set_self hi, ef, List.getElem?_eq_getElem hi, dW hi]
        · rw [List.getElem?_set_ne (fun e => hj e.symm)]; rfl⟩
    | succ k ih =>
      obtain ⟨b, hb⟩ := ih; exact ⟨_, by rw [ef, hb, List.set_set]⟩
  obtain ⟨b, hb⟩ := h 3; rw [hb, kb hi, if_pos rfl]
theorem zgK {a b:BitVec 64}(hs:∀j,a.getLsbD j=true→b.getLsbD j=true)(hne:a≠b)(h0:a≠0#64):iy b=0:=by
 unfold iy;rw [if_neg];rintro ⟨hb,hz⟩
 have h1:∀j,b.getLsbD j=true→j=ctz b:=fun j hj=>by
  have:=ziC hb j;rw [hz,hj,BitVec.getLsbD_zero,Bool.true_and] at this;simpa using this.symm
 apply hne;apply BitVec.eq_of_getLsbD_eq;intro j hj
 cases hbj:b.getLsbD j with
 |false=>
  cases haj:a.getLsbD j with
  |false=>rfl
  |true=>rw [hs j haj] at hbj;cases hbj
 |true=>
  have e:=h1 j hbj;obtain ⟨k,hk⟩:∃k,a.getLsbD k=true:=⟨ctz a,(zf8 h0 0).1⟩;rw [e,←h1 k (hs k hk)];exact hk
theorem SInv.step {Y : Tb} {L0 L : Ws} {i : Nat} {q : List Nat} {ws : Ws} (hok : Y.Ok) (h : SInv Y L0 L (i :: q) ws false) :
    SInv Y L0 (ef Y L i 3) q (if cH (ef Y L i 3) i = cH L i then ws else jH Y (ef Y L i 3) i ws) (decide (cH (ef Y L i 3) i = 0#64)) := by
  have hi : i < Y.n := h.qn i a7; (have hil : i < L.length := by rw [h.len]; exact hi); have hn := hok.n; have hsub := zfd (Y := Y) hil 3; refine ⟨zd0 h.reach hi 3, by rw [zbZ, h.len], ?_, ?_, fun j hj => h.qn j (by simp [hj]), by have := h.q512; simp at this; omega, ?_, ?_⟩
  · split
    · exact h.ws8
    · rw [ze6, h.ws8]
  · intro j hj hb
    split at hb
    · exact h.wsn j hj hb
    · rcases (zdr hok hi h.ws8 j hj).1 hb with h1 | ⟨_, h1 | h1 | h1⟩
      · exact h.wsn j hj h1
      · obtain ⟨x, hx, he⟩ := h1; have := (hok.ps i hi).2 x hx; omega
      · obtain ⟨x, hx, he⟩ := h1; have := (hok.inn i hi).2 x hx; omega
      · obtain ⟨x, hx, he⟩ := h1; have h2 := (hok.out i hi).2 x hx; rcases he with he | ⟨_, o, ho, he⟩
        · omega
        · have := (hok.inn x.to.toNat a5).2 o ho; omega
  · intro hc; exact ⟨i, hi, of_decide_eq_true hc⟩
  · intro hc k hk; have h0 : cH (ef Y L i 3) i ≠ 0#64 := of_decide_eq_false hc; by_cases hki : k = i
    · subst hki;refine .inr (.inr ⟨h0, ?_⟩); have e := zf1 (b := cH (ef Y L k 3) k) hok hi h.len; rw [← zeW hil] at e; unfold i7; rw [e.1, e.2.1, e.2.2, zko hok hi h.len]; apply BitVec.eq_of_getLsbD_eq; intro j hj;simp only [BitVec.getLsbD_and, BitVec.getLsbD_or, BitVec.getLsbD_not, BitVec.getLsbD_zero]
      cases (cH L k).getLsbD j <;> cases (li Y L k).getLsbD j <;> cases (kj Y L k).getLsbD j <;> cases (lz Y L k).getLsbD j <;> simp
    · have hkeep := zdY (Y := Y) hil hki 3; by_cases hsame : cH (ef Y L i 3) i = cH L i
      · rw [if_pos hsame]
        have e : ef Y L i 3 = L := by
          rw [zeW hil, hsame]; apply List.ext_getElem?; intro j; by_cases hj : j = i
          · subst hj; rw [List.getElem?_set_self hil, List.getElem?_eq_getElem hil, dW hil]
          · rw [List.getElem?_set_ne (fun e => hj e.symm)]
        rw [e]; rcases h.good rfl k hk with h1 | h1 | h1
        · rcases List.mem_cons.1 h1 with h1 | h1
          · exact absurd h1 hki
          · exact .inl h1
        · exact .inr (.inl h1)
        · exact .inr (.inr h1)
      · rw [if_neg hsame]; have h00 : only L i = 0 := zgK hsub hsame h0; (have honly : ∀ j, j ≠ i → only (ef Y L i 3) j = only L j := fun j hj => by unfold only; rw [zdY hil hj]); rcases h.good rfl k hk with h1 | h1 | h1
        · rcases List.mem_cons.1 h1 with h1 | h1
          · exact absurd h1 hki
          · exact .inl h1
        · exact .inr (.inl ((zdr hok hi h.ws8 k a5).2 (.inl h1)))
        · by_cases hnear : only (ef Y L i 3) i ≠ 0 ∧ l7 Y (ef Y L i 3) i k
          · exact .inr (.inl ((zdr hok hi h.ws8 k a5).2 (.inr hnear)))
          · refine .inr (.inr ⟨by rw [hkeep]; exact h1.1, ?_⟩)
            have ha : Alike Y L (ef Y L i 3) k := by
              by_cases hz : only (ef Y L i 3) i = 0
              · have hall : ∀ j, only (ef Y L i 3) j = only L j := fun j => by
                  by_cases hj : j = i
                  · subst hj; rw [hz, h00]
                  · exact honly j hj
                exact q4G
              · exact zhE hok hi hk hki honly h00 (fun hh => hnear ⟨hz, hh⟩)
            rw [zfO ha (fun x hx => by have := (hok.out k hk).2 x hx; omega), hkeep]; exact h1.2
theorem zlz {Y:Tb}{L:Ws}{i:Nat}{q:List Nat}{ws:Ws}(hi:i<L.length)(hq:q.length≤511):smu (ef Y L i 3) q (if cH (ef Y L i 3) i=cH L i then ws else jH Y (ef Y L i 3) i ws)<smu L (i :: q) ws:=by
 have hb:=zhy L i (cH (ef Y L i 3) i) hi;rw [←zeW hi] at hb;unfold smu;by_cases hs:cH (ef Y L i 3) i=cH L i
 ·rw [if_pos hs];rw [hs] at hb;simp only [List.length_cons];omega
 ·rw [if_neg hs];have hlt:=zm9 (zfd (Y:=Y) hi 3) hs; (have h6:(if eT (jH Y (ef Y L i 3) i ws)=[] then 0 else 600)≤600:=by split <;> omega);simp only [List.length_cons];omega
def Ne (j:Nat):List Value:=[.int .i64 (j:Int)]
structure QuOk (w:World) (v:Value) (q:List Nat):Prop where
 sl:SlOf w v Ne 1 q
 cap:∀A n c,v= .slice A n c→n≤c
 lt:∀g,v.ownBlock=some g→∃cs t,w.heap[g]?=some (.cells cs t (0,0))
theorem SlOf.loc {α:Type}{w w':World}{v:Value}{enc:α→List Value}{size:Nat}{xs:List α}(h:SlOf w v enc size xs)(hl:∀g,v.ownBlock=some g→w'.heap[g]?=w.heap[g]?):SlOf w' v enc size xs:=by
 obtain ⟨A,cap,rfl,hc⟩:=h;refine ⟨A,cap,rfl,fun hp=>?_⟩;obtain ⟨g,off,rfl,hcs⟩:=hc hp;have hg:=hl g rfl
 exact ⟨g,off,rfl,fun i hi j hj=>by
  rw [←hcs i hi j hj]
  exact World.cell?_of_block (w:=w) hg⟩
@[irreducible] def Ent.qu (v:Value) (q:List Nat):Ent where
 fp g:=v.ownBlock=some g
 ok w:=QuOk w v q
 loc h k:=⟨k.sl.loc h,k.cap,fun g hg=>by rw [h g hg];exact k.lt g hg⟩
 lt h g hg:=by obtain ⟨cs,t,e⟩:=h.lt g hg;exact (Array.getElem?_eq_some_iff.1 e).1
 nd h g hg c:=by obtain ⟨cs,t,e⟩:=h.lt g hg;rw [e];simp
theorem fM {v:Value}{q:List Nat}{g:Nat}:(Ent.qu v q).fp g↔v.ownBlock=some g:=by unfold Ent.qu;exact Iff.rfl
theorem fi {v:Value}{q:List Nat}{w:World}:(Ent.qu v q).ok w↔QuOk w v q:=by unfold Ent.qu;exact Iff.rfl
theorem zmw (l:List Nat):i0 l=l.flatMap Ne:=by
 unfold i0
 induction l with
 |nil=>rfl
 |cons x r ih=>simp_all [Ne]
theorem zgO {w:World}{v:Value}{e:TypeId}{q:List Nat}{n:Nat}(hn:n=q.length)(h:(Ent.sl v e 1 n (i0 q)).ok w):(Ent.qu v q).ok w:=by
 have ho:=cT.1 h;rw [zmw] at ho;refine fi.2 ⟨SlOf.own (enc:=Ne) (size:=1) (fun _=>rfl) ho hn,?_,?_⟩
 ·rintro A m c rfl;rcases ho.2 with ⟨e,_⟩|⟨g,cap,cur,e,_,_,h1,_⟩
  ·cases e;exact Nat.le_refl _
  ·cases e;exact h1
 ·intro g hg;rcases ho.2 with ⟨e,_⟩|⟨g',cap,cur,e,_,h1,_⟩
  ·rw [e] at hg;cases hg
  ·rw [e] at hg;simp [Value.ownBlock] at hg;subst hg;exact ⟨_,_,h1⟩
section
variable {F:Fence}{P:Program}{n:Nat}{B D:World}{M:Nat→Prop}{Q:Exit→Act→World→Prop}{fs:dH}{hs:HS}{o:Oper}{ops:Array Oper}{l:List Oper}{c:Code}{e:Exit}
theorem Hp.conv {w:World}{i:Nat}{a b:Ent}(h:Hp B M hs w)(hi:hs[i]?=some a)(hok:a.ok w→b.ok w)(hfp:∀g,b.fp g→a.fp g):Hp B M (hs.set i b) w:=
 h.updAt hi (Only.refl (fun _=>False) w) (fun _ _ h=>h.elim) (hok (h.get hi)) (fun g hg=> .inl (hfp g hg))
theorem TL.conv (i:Nat)(a b:Ent){hs':HS}(hi:hs[i]?=some a)(hok:∀w,a.ok w→b.ok w)(hfp:∀g,b.fp g→a.fp g)[hH:SetAt hs i b hs'](h:TL F P n B D M ops Q l fs hs'):TL F P n B D M ops Q l fs hs:=⟨fun a' w ha hw hm=>h.out a' w ha (by rw [←hH.h];exact hw.conv hi (hok w) hfp) hm⟩
theorem K.conv (i:Nat)(a b:Ent){hs':HS}(hi:hs[i]?=some a)(hok:∀w,a.ok w→b.ok w)(hfp:∀g,b.fp g→a.fp g)[hH:SetAt hs i b hs'](h:K n B D M Q e fs hs'):K n B D M Q e fs hs:=⟨fun a' w ha hw hm=>h.out a' w ha (by rw [←hH.h];exact hw.conv hi (hok w) hfp) hm⟩
theorem Yv.cA (i:Nat){t e:TypeId}{k:Nat}{x:Operand}{v:Value}{q:List Nat}[hT:TySl P t e k](ho:o.op= .call { callee:= .builtin .len,args:= #[x],argTypes:= #[t] })(hx:ev fs x=some v)(hi:hs[i]?=some (.qu v q)):Yv P n B M fs hs o (.int .i64 (q.length:Int)):=fun a w ha hw=>by
 obtain ⟨A,cap,rfl,_⟩:=(fi.1 (hw.get hi)).sl;exact gm (B:=B) (M:=M) (hs:=hs) ho hx a w ha hw
theorem T.ci (i:Nat){v:Value}{x:Nat}{q:List Nat}(hi:hs[i]?=some (.qu v (x :: q)))(h:∀g off cap,v= .slice (some ⟨g,off,none⟩) (q.length+1) cap→q.length+1≤cap→T F P n B D M c Q fs hs):T F P n B D M c Q fs hs:=⟨fun a w ha hw hm=>by
 have hq:=fi.1 (hw.get hi);obtain ⟨A,cap,rfl,hc⟩:=hq.sl;obtain ⟨g,off,rfl,_⟩:=hc a7
 exact (h g off cap rfl (hq.cap _ _ _ rfl)).out a w ha hw hm⟩
theorem Yv.cr (i:Nat){t:TypeId}[hT:TyS P t]{g off p cap m:Nat}{x:Nat}{q:List Nat}{y:Operand}(ho:o.op= .load t y)(hy:ev fs y=some (.pointer (some ⟨g,p,none⟩)))(hi:hs[i]?=some (.qu (.slice (some ⟨g,off,none⟩) m cap) (x :: q)))(hp:p=off):Yv P n B M fs hs o (.int .i64 (x:Int)):=fun a w ha hw=>by
 subst hp;obtain ⟨A,cap',e,hc⟩:=(fi.1 (hw.get hi)).sl
 cases e
 obtain ⟨g',off',e,hcs⟩:=hc a7
 cases e
 have:=hcs 0 a7 0 (by simp [Ne]);exact zdW ho (ha.ev hy) (by simpa [Ne] using this)
def ki (g off n:Nat):Value:= .slice (if n+1=1 then some ⟨g,off,none⟩ else some ⟨g,off+1,none⟩) n n
theorem Yv.cj {t e:TypeId}{x a b d:Operand}{g off m cap:Nat}[hT:TySl P t e 1](ho:o.op= .slice t x (some a) (some b) (some d))(hx:ev fs x=some (.slice (some ⟨g,off,none⟩) (m+1) cap))(ha:ev fs a=some (.int .i64 1))(hb:ev fs b=some (.int .i64 ((m+1:Nat):Int)))(hd:ev fs d=some (.int .i64 ((m+1:Nat):Int)))(hc:m+1≤cap):Yv P n B M fs hs o (ki g off m):=fun f w hf _=>by
 have hr:(Instr.sliceAt t (.slice (some ⟨g,off,none⟩) (m+1) cap) (some (.int .i64 1)) (some (.int .i64 ((m+1:Nat):Int))) (some (.int .i64 ((m+1:Nat):Int)))).run P w= .ok (ki g off m) w:=by
  have h:=hT.h;unfold ze9 at h
  split at h
  ·rename_i el hU
   cases hi':P.info? el with
   |none=>rw [hi'] at h;cases h
   |some inf=>
    rw [hi'] at h;simp only [Option.map,Option.some.injEq,Prod.mk.injEq] at h;obtain ⟨rfl,hsz⟩:=h
    have h1:(Instr.sliceBounds true (m+1) cap (some (.int .i64 1)) (some (.int .i64 ((m+1:Nat):Int))) (some (.int .i64 ((m+1:Nat):Int)))).run P w= .ok (1,m+1,m+1) w:=by
     unfold Instr.sliceBounds;simp only [Sem.run_bind,run_sliceBound w .i64 ((m+1:Nat):Int) cap _ a5 a5,Result.andThen,Int.toNat_natCast,run_sliceBound w .i64 ((m+1:Nat):Int) (m+1) _ a5 a5,run_sliceBound w .i64 1 (m+1) _ a5 a5]
     rfl
    obtain ⟨z,hz⟩:∃z:Int,z=((m+1:Nat):Int):=⟨_,rfl⟩;rw [←hz] at h1 ⊢;simp [Instr.sliceAt,Instr.slice,underlying,hU,h1,sizeOf,typeInfo,hi',hsz,ki,Addr.add,Result.andThen]
  ·cases h
 unfold execOp;simp only [ho,hf.ev hx,hf.ev ha,hf.ev hb,hf.ev hd,Option.map];rw [Sem.run_bind,hr]
 rfl
end
theorem zkD {g off n b:Nat}(h:(ki g off n).ownBlock=some b):b=g:=by
 unfold ki at h
 split at h <;> (simp [Value.ownBlock] at h;exact h.symm)
theorem znm {w:World}{g off cap x:Nat}{q:List Nat}(h:(Ent.qu (.slice (some ⟨g,off,none⟩) (q.length+1) cap) (x :: q)).ok w):(Ent.qu (ki g off q.length) q).ok w:=by
 have hq:=fi.1 h;obtain ⟨A,cap',e,hc⟩:=hq.sl
 cases e
 obtain ⟨g',off',e,hcs⟩:=hc a7
 cases e
 refine fi.2 ⟨⟨_,_,rfl,fun hl=>?_⟩,?_,fun b hb=>?_⟩
 ·refine ⟨g,off+1,by rw [if_neg a5],fun i hi=>?_⟩;have:=hcs (i+1) (by simpa using hi);simp only [List.getElem_cons_succ] at this;rw [show off+1+i*1=off+(i+1) *1 by omega];exact this
 ·intro A n c e;unfold ki at e
  cases e
  exact Nat.le_refl _
 ·rw [zkD hb];exact hq.lt g rfl
def fU (Y:Tb)(L0 L:Ws)(c:Bool):Prop:=Reach Y L0 L∧L.length=Y.n∧(c=true→∃i,i<Y.n∧cH L i=0#64)∧(c=false→∀i,i<Y.n→zhp Y L i)
def rid (k:Nat):Nat:=if k=0 then 153 else if k=1 then 154 else 155
instance (k:Nat):Enters Tryz.prog (rid k):=by
 unfold rid;split
 ·exact inferInstance
 ·split <;> exact inferInstance
def ruleFs:List Value:=[.func (.func 153) #[] #[], .func (.func 154) #[] #[], .func (.func 155) #[] #[]]
theorem zm0 {k:Nat}(h:k<3):ruleFs[k]?=some (.func (.func (rid k)) #[] #[]):=by
 (obtain rfl|rfl|rfl:k=0∨k=1∨k=2:=by omega)
 all_goals rfl
theorem zi9 (sp:Nat)(Y:Tb)(L:Ws)(c:Bool)(i:Nat)(z:Int)(hz:z=(i:Int))(hi:i<Y.n)(w:World)(h:StateAt w sp Y L c)(hok:Y.Ok)(k:Nat)(hk:k<3):Calls Tryz.prog (rid k) #[.pointer (some ⟨sp,0,none⟩), .int .i64 z] w fun e w'=>e= .returned (U (zge Y L i k))∧Below w.heap.size w w':=by
 (obtain rfl|rfl|rfl:k=0∨k=1∨k=2:=by omega)
 ·exact zio sp Y L c i z hz hi w h hok
 ·exact zjn sp Y L c i z hz hi w h hok
 ·exact ziu sp Y L c i z hz hi w h hok
abbrev sV (gl n:Nat):Value:= .slice (some ⟨gl,0,none⟩) n n
abbrev sG (gl:GL)(n:Nat):Value:= .slice (some ⟨gl.b,0,none⟩) n gl.c
abbrev du (sp:Nat)(gl:GL)(tp n:Nat)(c:Bool):Ent:= .row sp 188 [.pointer (some ⟨tp,0,none⟩),sG gl n, .bool c]
abbrev eF (gl:GL)(n:Nat)(L:Ws):Ent:= .sl (sG gl n) 80 1 n (Ws.cells L)
theorem zk2 (L:Ws):Ws.cells L=L.flatMap Le:=by
 induction L with
 |nil=>rfl
 |cons x r ih=>simp_all [Le,Ws.cells]
theorem gT {B w0 w:World}{M:Nat→Prop}{hs:HS}{sp:Nat}{gl:GL}{tp:Nat}{Y:Tb}{L:Ws}{c:Bool}(hw:Hp B M hs w)(ht:TablesAt w0 tp Y)(hfr:Fz w0 w)(htab:Tab w)(i j:Nat)(hi:hs[i]?=some (du sp gl tp Y.n c))(hj:hs[j]?=some (eF gl Y.n L))(hl:L.length=Y.n):StF w0 w sp gl tp Y L c:=by
 have h1:=cW.1 (hw.get hi);have h2:=cT.1 (hw.get hj);rw [zk2] at h2;have h3:=SlOf.own (enc:=Le) (size:=1) (fun _=>rfl) h2 hl.symm;rw [←hl] at h1 h3;exact ⟨ht,hfr,by rw [ja h1];rfl,by rw [ja h1];rfl,h3,hl,by rw [ja h1];rfl,htab⟩
theorem zfC {L:Ws}{i p:Nat}{b:BitVec 64}(hp:p=i):(Ws.cells L).set p (U b)=Ws.cells (L.set i b):=Ws.put hp
theorem zgp (w0:World)(sp:Nat)(gl:GL)(tp:Nat)(Y:Tb)(L:Ws)(c:Bool)(v:Value)(q:List Nat)(w:World)(ht:TablesAt w0 tp Y)(hok:Y.Ok)(hfr:Fz w0 w)(htab:Tab w)(hes:Hp w (cZ [du sp gl tp Y.n c,eF gl Y.n L,Ent.qu v q]) [du sp gl tp Y.n c,eF gl Y.n L,Ent.qu v q] w)(hMN:∀g,cZ [du sp gl tp Y.n c,eF gl Y.n L,Ent.qu v q] g→¬i9 w0 g)(hM0:¬cZ [du sp gl tp Y.n c,eF gl Y.n L,Ent.qu v q] 0)(hinv:SInv Y L L q e9 c):Calls Tryz.prog 143 #[.pointer (some ⟨sp,0,none⟩),v] w fun e w'=>∃y:Ws×Bool,fU Y L y.1 y.2∧e= .returned (.tuple #[])∧Hp w (cZ [du sp gl tp Y.n c,eF gl Y.n L,Ent.qu v q]) [du sp gl tp Y.n y.2,eF gl Y.n y.1] w':=by
 have hn512:=hok.n;refine dq (M:=cZ [du sp gl tp Y.n c,eF gl Y.n L,Ent.qu v q]) (hs:=[du sp gl tp Y.n c,eF gl Y.n L,Ent.qu v q]) Tryz.func143 rfl rfl rfl hes ?_;refine T.scope ?_;refine de ?_;refine cI (Yv.bX rfl rfl) ?_; (refine cK (Wt.none) rfl rfl (Ew.alloc) ?_;rintro _ _ ⟨g4,rfl,rfl⟩); (refine dB (Wt.none) rfl (dr 0) ?_;rintro _ _ ⟨rfl,rfl⟩);refine dG ?_; (refine cK (Wt.none) rfl rfl (Ew.alloc) ?_;rintro _ _ ⟨g5,rfl,rfl⟩);refine i3 ?_;refine T.label ?_;refine K.seq (T.block ?_);refine T.loop (ι:=Ws×List Nat×Ws×Bool×Value) (fun x=>[(0, .pointer (some ⟨sp,0,none⟩)),(4, .pointer (some ⟨g4,0,none⟩)),(5, .pointer (some ⟨g5,0,none⟩)),(1,x.2.2.2.2)]) (fun x=>[.row g5 83 (Ws.cells x.2.2.1), .row g4 217 ruleFs,du sp gl tp Y.n x.2.2.2.1,eF gl Y.n x.1,Ent.qu x.2.2.2.2 x.2.1]) (fun x=>SInv Y L x.1 x.2.1 x.2.2.1 x.2.2.2.1) (fun x=>smu x.1 x.2.1 x.2.2.1) (L,q,e9,c,v) ?_ ?_ ?_ ?_
 ·exact hinv
 ·exact (by repeat (first|exact Sub.nil|refine Sub.cons rfl ?_))
 ·exact Sx
 ·intro x hphi;obtain ⟨L1,q1,ws1,c1,v1⟩:=x;dsimp only at hphi ⊢;have hws8:=hphi.ws8;refine iJ ?_;refine d5 ?_;refine kO ?_;refine dP ?_;refine T.cond rfl (fun h1=>?_) (fun h1=>?_)
  ·have p1:=h1; (try simp only [cV] at p1); (obtain rfl:c1=false:=by simpa using p1);refine T.skip (K.seq (T.block ?_));refine jQ (ι:=List Nat×Ws×Value) (fun y=>[(0, .pointer (some ⟨sp,0,none⟩)),(4, .pointer (some ⟨g4,0,none⟩)),(5, .pointer (some ⟨g5,0,none⟩)),(1,y.2.2)]) (fun y=>[.row g5 83 (Ws.cells y.2.1), .row g4 217 ruleFs,du sp gl tp Y.n false,eF gl Y.n L1,Ent.qu y.2.2 y.1]) (fun y=>SInv Y L L1 y.1 y.2.1 false∧y.1≠[]∧smu L1 y.1 y.2.1≤smu L1 q1 ws1) ?_ ?_
   ·skip;refine gy ?_;refine cI (Yv.cA 4 rfl rfl rfl) ?_;refine dP ?_;refine T.cond rfl (fun h2=>?_) (fun h2=>?_)
    ·have p2:=h2; (try simp only [cV] at p2);obtain rfl:q1=[]:=List.eq_nil_of_length_eq_zero a5;refine de ?_;refine cI (dJ 0 rfl rfl rfl (by rw [List.length_map,hws8])) ?_; (refine cK (Wt.none) rfl rfl (iT rfl rfl rfl (fun w hw=>ziG ws1 hws8 w (htab.kept hw hM0))) ?_;rintro v20 _ ⟨_, -,rfl,rfl⟩);refine em ?_;refine iX ?_;refine dd ?_; (refine dB (Wt.none) rfl (dr 1 rfl rfl rfl rfl rfl (by rw [List.length_map,hws8];rfl)) ?_;rintro _ _ ⟨rfl,rfl⟩);refine lm ?_;refine cI (jk 0 rfl rfl rfl) ?_;refine dP ?_;refine T.cond rfl (fun h3=>?_) (fun h3=>?_)
     ·have p3:=h3; (try simp only [cV] at p3);have hfin:fU Y L L1 false:=⟨hphi.reach,hphi.len,(fun hh=>by cases hh),fun _=>hphi.calm (List.eq_nil_of_length_eq_zero a5)⟩;refine T.exit (fg ?_);refine K.ba rfl ?_;refine fg (it ?_);refine K.bk ?_;exact q4v
     ·have p3:=h3; (try simp only [cV] at p3); (have hmem:eT ws1≠[]:=by intro hh;rw [hh] at p3;exact p3 rfl);refine T.skip ?_;refine K.conv 0 _ (Ent.qu v20 (eT ws1)) rfl (fun w hh=>zgO rfl hh) (fun g hg=>c9.2 (fM.1 hg)) ?_;refine K.bL (List.perm_append_comm (l₁:=[Ent.qu v20 (eT ws1)])) ?_;exact c4 (eT ws1,e9,v20) ⟨hphi.refill,hmem,Nat.le_of_lt (zjs hmem)⟩ (by repeat (first|exact Sub.nil|refine Sub.cons rfl ?_)) Sx
    ·have p2:=h2; (try simp only [cV] at p2);refine T.skip ?_;exact c4 (q1,ws1,v1) ⟨hphi,fun hh=>p2 (by rw [show q1=[] from hh];rfl),Nat.le_refl _⟩ (by repeat (first|exact Sub.nil|refine Sub.cons rfl ?_)) Sx
   ·skip;intro y hphi;obtain ⟨q2,ws2,v2⟩:=y;dsimp only at hphi ⊢;obtain ⟨hinv2,hq2,hmu2⟩:=hphi; (obtain ⟨i,r,rfl⟩:∃i r,q2=i :: r:=by cases q2 with|nil=>exact absurd rfl hq2|cons a b=>exact ⟨a,b,rfl⟩);have hws8:=hinv2.ws8;have hi:i<Y.n:=hinv2.qn i a7;have hl1:=hinv2.len; (have hr511:r.length≤511:=by have:=hinv2.q512;simp at this;omega);have hstep:=hinv2.step hok;have hsmu:=zlz (Y:=Y) (L:=L1) (i:=i) (q:=r) (ws:=ws2) a5 hr511;refine T.ci 4 rfl ?_;rintro gq oq capq rfl hcq;refine gy ?_;refine cI (fV rfl rfl rfl (show (0:Int)=((0:Nat):Int) from rfl) a5) ?_;refine cI (Yv.cr 4 rfl rfl rfl a5) ?_;refine f9 ?_;refine d5 ?_;refine q3Y ?_;refine dd ?_;refine q3Y ?_;refine cI (Yv.cj rfl rfl rfl rfl rfl hcq) ?_;refine kx ?_;have hld0:(Ws.cells L1)[0+i*1]?=some (U (cH L1 i)):=Ws.get a5 a5;refine ed ?_;refine TL.conv 4 _ (Ent.qu (ki gq oq r.length) r) rfl (fun w hh=>znm hh) (fun g hg=>by rw [zkD (fM.1 hg)];exact fM.2 rfl) ?_;refine d5 ?_;refine kO ?_;refine kY ?_;refine cI (eV 3 rfl rfl rfl hld0) ?_;refine dP ?_;refine T.cut (gs:=[(0, .pointer (some ⟨sp,0,none⟩)),(4, .pointer (some ⟨g4,0,none⟩)),(5, .pointer (some ⟨g5,0,none⟩)),(1,ki gq oq r.length),(6, .int .i64 (i:Int)),(7,U (cH L1 i))]) (hs':=[.row g5 83 (Ws.cells ws2), .row g4 217 ruleFs,du sp gl tp Y.n false,eF gl Y.n (ef Y L1 i 3),Ent.qu (ki gq oq r.length) r]) ?_ ?_
    ·skip;refine de ?_;refine cI (dJ 1) ?_;refine dd ?_;refine TL.ns (T.block ?_);refine T.loop (ι:=Nat) (fun k=>[(0, .pointer (some ⟨sp,0,none⟩)),(4, .pointer (some ⟨g4,0,none⟩)),(5, .pointer (some ⟨g5,0,none⟩)),(1,ki gq oq r.length),(6, .int .i64 (i:Int)),(7,U (cH L1 i)),(41, .agg ruleFs.toArray),(42, .int .i64 (k:Int))]) (fun k=>[.row g5 83 (Ws.cells ws2), .row g4 217 ruleFs,du sp gl tp Y.n false,eF gl Y.n (ef Y L1 i k),Ent.qu (ki gq oq r.length) r]) (fun k=>k≤3) (fun k=>3 - k) 0 ?_ ?_ ?_ ?_
     ·omega
     ·exact (by repeat (first|exact Sub.nil|refine Sub.cons rfl ?_))
     ·exact Sx
     ·intro k hphi;refine ei ?_;refine T.cond rfl (fun h4=>?_) (fun h4=>?_)
      ·have p4:=h4; (try simp only [cV] at p4);have hrl:=zbZ (Y:=Y) (L:=L1) (i:=i) k;have hld:(Ws.cells (ef Y L1 i k))[0+i*1]?=some (U (cH (ef Y L1 i k) i)):=Ws.get a5 a5;have hrid:=zm0 (k:=k) a5;refine fq ?_;refine cI (mf rfl rfl rfl rfl a5 hrid) ?_;refine jd ?_;refine d5 ?_;refine kO ?_;refine kY ?_;refine cI (eV 3 rfl rfl rfl hld) ?_;refine dP ?_;refine T.cond rfl (fun h5=>?_) (fun h5=>?_)
       ·have p5:=h5; (try simp only [cV] at p5);have hfin:fU Y L (ef Y L1 i k) true:=⟨zd0 hinv2.reach hi k,by omega,fun _=>⟨i,hi,BitVec.eq_of_toNat_eq (by show _=0;omega)⟩,fun hh=>by cases hh⟩;refine iA ?_;refine eZ ?_; (refine dB (Wt.none) rfl (dC 2 rfl rfl rfl rfl b4) ?_;rintro _ _ ⟨rfl,rfl⟩);refine TL.ns (T.exit (fg ?_));refine K.ba rfl ?_;refine fg (fg ?_);refine K.ba rfl ?_;refine fg ?_;refine K.ba rfl ?_;refine fg (it ?_);refine K.bk ?_;exact q4v
       ·have p5:=h5; (try simp only [cV] at p5);refine kl ?_;refine dT (.still 0 (.still 1 (.still 2 (.still 3 (.still 4 (.still 5 (.still 7 (.still 8 (.still 9 (.two 6 10 (.eff 10 (sN 11 2 (.eff 13 .done))) (.eff 6 (sN 11 2 (.eff 13 .done))))))))))))) (List.eraseIdx _ 3) a8 (List.eraseIdx_sublist _ _) ?_;refine i1 ?_;refine cR rfl (cS 2) ?_;refine gR ?_;refine q2E ?_;refine TS.run 3 rfl ?_;refine TS.two ?_ ?_
        ·skip;refine ep rfl (Wt.none) rfl rfl (eV 3 rfl rfl rfl hld) Sx ?_;refine dF ?_; (refine c6 rfl (Wt.none) rfl rfl (cL rfl rfl rfl (fun w hw=>zi9 sp Y (ef Y L1 i k) false i _ rfl hi w (gT hw ht (Fz.hp hfr hw hMN) (htab.kept hw hM0) 2 3 rfl rfl a5).st hok k a5)) ?_;rintro _ _ ⟨rfl,rfl⟩;refine ⟨Sx,?_⟩);refine cR rfl (kU rfl rfl rfl) ?_;refine q2E ?_;refine dF ?_; (refine dx rfl (Wt.none) rfl (fb 3 (Ws.cells (ef Y L1 i (k+1))) rfl rfl rfl rfl b7 (zfC a5)) ?_;rintro _ _ ⟨rfl,rfl⟩;refine ⟨Sx,?_⟩);refine q1s ?_;exact K.next (k+1) a5 a5 (by repeat (first|exact Sub.nil|refine Sub.cons rfl ?_)) Sx
        ·skip; (refine c6 rfl (Wt.none) rfl rfl (cL rfl rfl rfl (fun w hw=>zi9 sp Y (ef Y L1 i k) false i _ rfl hi w (gT hw ht (Fz.hp hfr hw hMN) (htab.kept hw hM0) 2 3 rfl rfl a5).st hok k a5)) ?_;rintro _ _ ⟨rfl,rfl⟩;refine ⟨Sx,?_⟩);refine dF ?_;refine ep rfl (Wt.none) rfl rfl (eV 3 rfl rfl rfl hld) Sx ?_;refine cR rfl (kU rfl rfl rfl) ?_;refine q2E ?_;refine dF ?_; (refine dx rfl (Wt.none) rfl (fb 3 (Ws.cells (ef Y L1 i (k+1))) rfl rfl rfl rfl b7 (zfC a5)) ?_;rintro _ _ ⟨rfl,rfl⟩;refine ⟨Sx,?_⟩);refine q1s ?_;exact K.next (k+1) a5 a5 (by repeat (first|exact Sub.nil|refine Sub.cons rfl ?_)) Sx
      ·have p4:=h4; (try simp only [cV] at p4);refine ff ?_;exact K.at (by repeat (first|exact Sub.nil|refine Sub.cons rfl ?_)) (by rw [show 3=k by omega];exact Sx)
    ·skip;refine T.cut (gs:=[(0, .pointer (some ⟨sp,0,none⟩)),(4, .pointer (some ⟨g4,0,none⟩)),(5, .pointer (some ⟨g5,0,none⟩)),(1,ki gq oq r.length),(6, .int .i64 (i:Int)),(7,U (cH L1 i))]) (hs':=[.row g5 83 (Ws.cells ws2), .row g4 217 ruleFs,du sp gl tp Y.n (decide (cH (ef Y L1 i 3) i=0#64)),eF gl Y.n (ef Y L1 i 3),Ent.qu (ki gq oq r.length) r]) ?_ ?_
     ·skip;refine T.seq ?_;have hrl3:=zbZ (Y:=Y) (L:=L1) (i:=i) 3;have hld3:(Ws.cells (ef Y L1 i 3))[0+i*1]?=some (U (cH (ef Y L1 i 3) i)):=Ws.get a5 a5;refine gQ ?_;refine kO ?_;refine kY ?_;refine cI (eV 3 rfl rfl rfl hld3) ?_;refine dP ?_;refine T.cond rfl (fun h6=>?_) (fun h6=>?_)
      ·have p6:=h6; (try simp only [cV] at p6);have hz3:cH (ef Y L1 i 3) i=0#64:=BitVec.eq_of_toNat_eq (by show _=0;omega);refine gQ ?_;refine eZ ?_; (refine dB (Wt.none) rfl (dC 2 rfl rfl rfl rfl b4) ?_;rintro _ _ ⟨rfl,rfl⟩);refine TL.nil ?_; (rw [decide_eq_true hz3];exact K.at (by repeat (first|exact Sub.nil|refine Sub.cons rfl ?_)) Sx)
      ·have p6:=h6; (try simp only [cV] at p6); (have hz3n:¬cH (ef Y L1 i 3) i=0#64:=fun hh=>by rename_i hh2;exact (by assumption:¬((cH (ef Y L1 i 3) i).toNat:Int)=0) (by rw [hh];rfl));refine T.skip ?_; (rw [decide_eq_false hz3n];exact K.at (by repeat (first|exact Sub.nil|refine Sub.cons rfl ?_)) Sx)
     ·skip;refine T.seq ?_;have hrl3:=zbZ (Y:=Y) (L:=L1) (i:=i) 3;have hld3:(Ws.cells (ef Y L1 i 3))[0+i*1]?=some (U (cH (ef Y L1 i 3) i)):=Ws.get a5 a5;refine gQ ?_;refine kO ?_;refine kY ?_;refine cI (eV 3 rfl rfl rfl hld3) ?_;refine iK ?_;refine T.cond rfl (fun h7=>?_) (fun h7=>?_)
      ·have p7:=h7; (try simp only [cV] at p7);have hch:¬cH (ef Y L1 i 3) i=cH L1 i:=fun hh=>(by assumption:¬((cH (ef Y L1 i 3) i).toNat:Int)=((cH L1 i).toNat:Int)) (by rw [hh]);refine gQ ?_; (refine cK (Wt.none) rfl rfl (j0 0 rfl rfl rfl rfl (fun w hw=>zhR w0 sp gl tp g5 Y (ef Y L1 i 3) _ ws2 hws8 i _ rfl hi w (gT hw ht (Fz.hp hfr hw hMN) (htab.kept hw hM0) 2 3 rfl rfl a5) hok (by rcases hw.new _ (List.mem_of_getElem? (i:=0) rfl) g5 (cO.2 rfl) with hh|hh;exact hMN _ hh;exact (fun hc=>by have h9:=hfr _ hc;obtain ⟨_,_,_,h8⟩:=hc;rw [h8] at h9;have:=(Array.getElem?_eq_some_iff.1 h9).1;omega)) (by intro hz0;subst hz0;rcases hw.new _ (List.mem_of_getElem? (i:=0) rfl) 0 (cO.2 rfl) with hh|hh;exact hM0 hh;have:=htab.size;omega) (fun hh=>hw.ne (i:=0) (j:=2) a5 rfl rfl (g:=g5) (cO.2 rfl) (cO.2 hh.symm)) (fun hh=>hw.ne (i:=0) (j:=3) a5 rfl rfl (g:=g5) (cO.2 rfl) (c9.2 (congrArg some hh))) (hw.get (i:=0) rfl))) ?_;rintro _ _ ⟨-, -,rfl,rfl⟩);refine TL.nil (fh ?_);exact K.next (ef Y L1 i 3,r,(if cH (ef Y L1 i 3) i=cH L1 i then ws2 else jH Y (ef Y L1 i 3) i ws2),decide (cH (ef Y L1 i 3) i=0#64),ki gq oq r.length) hstep a9 (by repeat (first|exact Sub.nil|refine Sub.cons rfl ?_)) (by dsimp only;first|(rw [if_neg hch];exact Sx)|(rw [if_pos hsm];exact Sx))
      ·have p7:=h7; (try simp only [cV] at p7);have hsm:cH (ef Y L1 i 3) i=cH L1 i:=BitVec.eq_of_toNat_eq a5;refine T.skip (fh ?_);exact K.next (ef Y L1 i 3,r,(if cH (ef Y L1 i 3) i=cH L1 i then ws2 else jH Y (ef Y L1 i 3) i ws2),decide (cH (ef Y L1 i 3) i=0#64),ki gq oq r.length) hstep a9 (by repeat (first|exact Sub.nil|refine Sub.cons rfl ?_)) (by dsimp only;first|(rw [if_neg hch];exact Sx)|(rw [if_pos hsm];exact Sx))
  ·have p1:=h1; (try simp only [cV] at p1); (obtain rfl:c1=true:=by simpa using p1);have hfin:fU Y L L1 true:=⟨hphi.reach,hphi.len,hphi.bad,fun hh=>by cases hh⟩;refine ff ?_;refine K.bk ?_;exact q4v
def fO (N:Nat)(f:Nat→Int):List Value:=(List.range N).map fun d=> .int .i64 (f d)
theorem lP {N:Nat}{f:Nat→Int}:(fO N f).length=N:=by simp [fO]
theorem zgr {N:Nat}{f:Nat→Int}{d p:Nat}(hp:p=d)(hd:d<N):(fO N f)[p]?=some (.int .i64 (f d)):=by subst hp;simp [fO,hd]
theorem zjj {N:Nat}{f f':Nat→Int}{d p:Nat}{v:Int}(hp:p=d)(hd:d<N)(h1:f' d=v)(h2:∀e,e≠d→f' e=f e):(fO N f).set p (.int .i64 v)=fO N f':=by
 subst hp h1;apply List.ext_getElem?;intro e;unfold fO;by_cases he:e=p
 ·subst he;rw [List.getElem?_set_self (by simpa using hd)];simp [hd]
 ·rw [List.getElem?_set_ne (fun h=>he h.symm)];simp only [List.getElem?_map,List.getElem?_range];by_cases h52:e<N
  ·simp [h52,h2 e he]
  ·simp [h52]
def dc (s:Value)(ix:List Value)(tot:Int)(p c i f:Value):List Value:=s :: (ix++[.int .i64 tot,p,c,i,f])
instance (N:Nat) (f:Nat→Int):OneCs (fO N f):=⟨fun x hx=>by obtain ⟨b,_,rfl⟩:=List.mem_map.1 hx;rfl⟩
instance (s:Value) (ix:List Value) (tot:Int) (p c i f:Value) [h1:OneC s] [h2:OneCs ix] [h3:OneC p] [h4:OneC c] [h5:OneC i] [h6:OneC f]:OneCs (dc s ix tot p c i f):=by unfold dc;exact inferInstance
section
variable {s p c i f:Value}{ix:List Value}{tot:Int}
theorem zgn (hix:ix.length=512):(dc s ix tot p c i f).length=518:=by simp [dc,hix]
theorem lq (hix:ix.length=512){q j:Nat}(hq:q=513+j:=by exact rfl):(dc s ix tot p c i f)[q]?=[.int .i64 tot,p,c,i,f][j]?:=by
 subst hq;unfold dc;rw [show 513+j=(512+j)+1 by omega,List.getElem?_cons_succ,List.getElem?_append_right a5,hix,Nat.add_sub_cancel_left]
theorem zhU (hix:ix.length=512){q j:Nat}(hj:j<512)(hq:q=1+j):(dc s ix tot p c i f)[q]?=ix[j]?:=by
 subst hq;unfold dc;rw [show 1+j=j+1 by omega,List.getElem?_cons_succ,List.getElem?_append_left a5]
theorem zhW (hix:ix.length=512){q j:Nat}{v:Value}(hj:j<512)(hq:q=1+j):(dc s ix tot p c i f).set q v=dc s (ix.set j v) tot p c i f:=by
 subst hq;unfold dc;rw [show 1+j=j+1 by omega,List.set_cons_succ,List.set_append_left _ _ a5]
theorem zgR (hix:ix.length=512){q:Nat}{t:Int}(hq:q=513):(dc s ix tot p c i f).set q (.int .i64 t)=dc s ix t p c i f:=by
 subst hq;unfold dc;rw [show 513=512+1 from rfl,List.set_cons_succ,List.set_append_right _ _ a5,hix]
 rfl
end
def dO (ds:List Dx):Nat→Nat→Int
 |0=>fun _=>0
 |k+1=>fun j=>if j=(cH ds k).st.toNat then (k:Int)+1 else dO ds k j
def fZ (ds:List Dx):Nat→Int
 |0=>0
 |k+1=>fZ ds k+((cH ds k).chs.length:Int)
def upd {α:Type}(f:Nat→α)(a:Nat)(x:α):Nat→α:=fun j=>if j=a then x else f j
def c7 {α:Type}(e:TypeId)(size n:Nat)(vv:Nat→Value)(enc:α→List Value)(f:Nat→List α):HS:=(List.range n).map fun j=> .sl (vv j) e size (f j).length ((f j).flatMap enc)
theorem zcz {α:Type}{e:TypeId}{size n:Nat}{vv:Nat→Value}{enc:α→List Value}{f:Nat→List α}:(c7 e size n vv enc f).length=n:=by simp [c7]
theorem zd6 {α:Type}{e:TypeId}{size n:Nat}{vv:Nat→Value}{enc:α→List Value}{f:Nat→List α}{a:Nat}(h:a<n):(c7 e size n vv enc f)[a]?=some (.sl (vv a) e size (f a).length ((f a).flatMap enc)):=by simp [c7,h]
theorem zcw {α:Type}{e:TypeId}{size n:Nat}{vv:Nat→Value}{enc:α→List Value}{f:Nat→List α}{a:Nat}{v:Value}{x:α}(h:a<n):(c7 e size n vv enc f).set a (.sl v e size ((f a).length+1) ((f a).flatMap enc++enc x))=c7 e size n (upd vv a v) enc (upd f a (f a++[x])):=by
 apply List.ext_getElem?;intro j;unfold c7;by_cases hj:j=a
 ·subst hj;rw [List.getElem?_set_self (by simpa using h)];simp [h,upd]
 ·rw [List.getElem?_set_ne (fun e=>hj e.symm)];simp only [List.getElem?_map,List.getElem?_range,upd,if_neg hj];by_cases h52:j<n
  ·simp [h52,hj]
  ·simp [h52]
theorem zdi {n:Nat}{vv:Nat→Value}{a q:Nat}{v:Value}(hq:q=a)(h:a<n):((List.range n).map vv).set q v=(List.range n).map (upd vv a v):=by
 subst hq;apply List.ext_getElem?;intro j;by_cases hj:j=q
 ·subst hj;rw [List.getElem?_set_self (by simpa using h)];simp [h,upd]
 ·rw [List.getElem?_set_ne (fun e=>hj e.symm)];simp only [List.getElem?_map,List.getElem?_range];by_cases h52:j<n
  ·simp [h52,upd,hj]
  ·simp [h52]
theorem zfR {n:Nat}{vv:Nat→Value}{a q:Nat}(hq:q=a)(h:a<n):((List.range n).map vv)[q]?=some (vv a):=by subst hq;simp [h]
theorem zkP (f:Nat→Value)(z:Value)(n:Nat):fm f z n 0=(List.range n).map fun _=>z:=by
 unfold fm;apply List.ext_getElem?;intro j;by_cases h:j<n
 ·simp [h,List.getElem?_replicate]
 ·simp [h,List.getElem?_replicate]
theorem fillT (g1 g3 g5 g7 g9 n:Nat):Fill (zfD Tryz.prog 215) ([.slice none 0 0]++List.replicate 513 (.int .i64 0)++List.replicate 4 (.slice none 0 0)) [(0,sV g1 n),(3,sV g3 n),(4,sV g5 n),(5,sV g7 n),(6,sV g9 n)] (dc (sV g1 n) (fO 512 fun _=>0) 0 (sV g3 n) (sV g5 n) (sV g7 n) (sV g9 n)):=⟨by kernel_rfl⟩
structure Pb.Good (P:Pb):Prop where
 n:P.ds.length≤512
 st:∀d∈P.ds,0≤d.st∧d.st≤511
 chs:∀d∈P.ds,d.chs.length≤52∧∀c∈d.chs,2≤c∧c≤51
 inc:∀i j,i<j→j<P.ds.length→(cH P.ds i).st<(cH P.ds j).st
 ps:∀x∈P.ps,x.ok=true∧(∃i,i<P.ds.length∧x.a=(cH P.ds i).st)∧∃i,i<P.ds.length∧x.b=(cH P.ds i).st
 ls:∀x∈P.ls,x.ok=true∧(∃i,i<P.ds.length∧x.to=(cH P.ds i).st)∧∃i,i<P.ds.length∧x.fr=(cH P.ds i).st
 cs:∀x∈P.cs,x.ok=true∧∃i,i<P.ds.length∧x.st=(cH P.ds i).st
 lps:P.ps.length≤4096
 lls:P.ls.length≤1024
 lcs:P.cs.length≤1024
theorem zm2 {xs:List Dx}(h:fG (fun a b:Dx=>dV a.st b.st) xs=true):∀i j,i<j→j<xs.length→(cH xs i).st<(cH xs j).st:=by
 intro i j hij
 induction j with
 |zero=>omega
 |succ j ih=>
  intro hj;have h1:=j5.1 (j3.1 h j hj);rcases Nat.lt_or_ge i j with h2|h2
  ·have:=ih h2 a5;omega
  ·rw [show i=j by omega];exact h1
theorem Pb.good {P:Pb}(h:P.ok=true):P.Good:=by
 simp only [Pb.ok,Pb.rulesOk,Bool.and_eq_true,decide_eq_true_eq] at h;obtain ⟨h1,⟨h2,h3,h4,h5,h6,h7,h8,h9,h10⟩,h11,h12,h13,h14⟩:=h
 have hst:∀d∈P.ds,0≤d.st∧d.st≤511:=fun d hd=>by
  have:=ec.1 h1 d hd;simp only [Dx.ok,inB,Bool.and_eq_true,decide_eq_true_eq] at this;exact this.1
 have hmem:∀x,P.has x=true→∃i,i<P.ds.length∧x=(cH P.ds i).st:=fun x hx=>by
  unfold Pb.has at hx;have:=(zjD (P.ds.map fun d:Dx=>d.st) (fun y hy=>by obtain ⟨d,hd,rfl⟩:=List.mem_map.1 hy;exact hst d hd) x).1 hx;obtain ⟨d,hd,rfl⟩:=List.mem_map.1 this;obtain ⟨i,hi,rfl⟩:=List.mem_iff_getElem.1 hd;exact ⟨i,hi,by rw [dW hi]⟩
 refine ⟨zj4 h11 h1,hst,fun d hd=>?_,zm2 h11,fun x hx=>?_,fun x hx=>?_,fun x hx=>?_,by omega,by omega,by omega⟩
 ·have:=ec.1 h1 d hd;simp only [Dx.ok,inB,Bool.and_eq_true,decide_eq_true_eq] at this
  have hr:∀c∈d.chs,2≤c∧c≤51:=fun c hc=>by
   have:=ec.1 this.2.1 c hc;simp only [Bool.and_eq_true,decide_eq_true_eq] at this;exact this
  refine ⟨?_,hr⟩;rcases Nat.lt_or_ge 52 d.chs.length with hl|hl
  ·have h1:=zkM (f:=fun c:Int=>c) this.2.2 (fun c hc=>by have:=hr c hc;omega) 52 hl;have h2:=hr _ (iD hl);omega
  ·exact hl
 ·have:=ec.1 h12 x hx;simp only [Bool.and_eq_true] at this;exact ⟨ec.1 h3 x hx,hmem _ this.1,hmem _ this.2⟩
 ·have:=ec.1 h13 x hx;simp only [Bool.and_eq_true] at this;exact ⟨ec.1 h6 x hx,hmem _ this.1,hmem _ this.2⟩
 ·exact ⟨ec.1 h9 x hx,hmem _ (ec.1 h14 x hx)⟩
theorem zmP {P:Pb}(h:P.Good){i:Nat}:∀k,k≤P.ds.length→i<k→dO P.ds k (cH P.ds i).st.toNat=(i:Int)+1
 |0,_,hi=>by omega
 |k+1,hk,hi=>by
  show (if (cH P.ds i).st.toNat=(cH P.ds k).st.toNat then (k:Int)+1 else dO P.ds k (cH P.ds i).st.toNat)=(i:Int)+1
  have h1:=h.st _ (iD (show i<P.ds.length by omega));by_cases he:i=k
  ·subst he;rw [if_pos rfl]
  ·have:=h.inc i k a5 a5;rw [if_neg a5];exact zmP h k a5 a5
def Pb.ix (P:Pb)(s:Int):Int:=dO P.ds P.ds.length s.toNat - 1
theorem ey {P:Pb}(h:P.Good){i:Nat}(hi:i<P.ds.length):P.ix (cH P.ds i).st=(i:Int):=by
 unfold Pb.ix;rw [zmP h _ (Nat.le_refl _) hi];omega
theorem zlK {P:Pb}(h:P.Good):∀k,k≤P.ds.length→0≤fZ P.ds k∧fZ P.ds k≤52* (k:Int)
 |0,_=>by simp [fZ]
 |k+1,hk=>by
  have h1:=zlK h k a5;have h2:=(h.chs _ (iD (show k<P.ds.length by omega))).1;rw [fZ];omega
def Pb.rp (P:Pb)(x:Pr):Pr:={ x with a:=P.ix x.a,b:=P.ix x.b }
def Pb.rl (P:Pb)(x:Ld):Ld:={ x with to:=P.ix x.to,fr:=P.ix x.fr }
def Pb.rc (P:Pb)(x:Cp):Cp:={ x with st:=P.ix x.st }
def Pb.psA (P:Pb)(k j:Nat):List Pr:=((P.ps.take k).map P.rp).filter fun x=>decide (x.a=(j:Int))||decide (x.b=(j:Int))
def Pb.inA (P:Pb)(k j:Nat):List Ld:=((P.ls.take k).map P.rl).filter fun x=>decide (x.to=(j:Int))
def Pb.ouA (P:Pb)(k j:Nat):List Ld:=((P.ls.take k).map P.rl).filter fun x=>decide (x.fr=(j:Int))
def Pb.csA (P:Pb)(k j:Nat):List Cp:=((P.cs.take k).map P.rc).filter fun x=>decide (x.st=(j:Int))
theorem zhz {α β:Type}[Inhabited α]{l:List α}{r:α→β}{q:β→Bool}{k:Nat}(h:k<l.length):((l.take (k+1)).map r).filter q=((l.take k).map r).filter q++(if q (r (cH l k)) then [r (cH l k)] else []):=by
 rw [List.take_succ_eq_append_getElem h,dW h,List.map_append,List.filter_append]
 congr 1
 simp only [List.map_cons,List.map_nil,List.filter_cons,List.filter_nil]
theorem zcJ {α β:Type}{l:List α}{r:α→β}{q:β→Bool}{k:Nat}:(((l.take k).map r).filter q).length≤l.length:=by
 refine Nat.le_trans (List.length_filter_le _ _) ?_;rw [List.length_map,List.length_take];omega
theorem zi5 {P:Pb}{k:Nat}(h:k<P.ps.length){a b:Nat}(ha:P.ix (cH P.ps k).a=(a:Int))(hb:P.ix (cH P.ps k).b=(b:Int))(hab:a≠b):upd (upd (P.psA k) a (P.psA k a++[P.rp (cH P.ps k)])) b (upd (P.psA k) a (P.psA k a++[P.rp (cH P.ps k)]) b++[P.rp (cH P.ps k)])=P.psA (k+1):=by
 funext j
 have e:P.psA (k+1) j=P.psA k j++(if (decide ((P.rp (cH P.ps k)).a=(j:Int))||decide ((P.rp (cH P.ps k)).b=(j:Int)))=true then [P.rp (cH P.ps k)] else []):=zhz h;rw [e];have e1:(P.rp (cH P.ps k)).a=(a:Int):=ha;have e2:(P.rp (cH P.ps k)).b=(b:Int):=hb;rw [e1,e2];unfold upd;by_cases hjb:j=b
 ·subst hjb;rw [if_pos rfl,if_neg (fun h=>hab h.symm),if_pos a7]
 ·by_cases hja:j=a
  ·subst hja;rw [if_neg hjb,if_pos rfl,if_pos a7]
  ·rw [if_neg hjb,if_neg hja,if_neg b8,List.append_nil]
theorem zgW {α β:Type}[Inhabited α]{l:List α}{r:α→β}{f:β→Int}{k a:Nat}(h:k<l.length)(ha:f (r (cH l k))=(a:Int)):upd (fun j:Nat=>((l.take k).map r).filter fun x=>decide (f x=(j:Int))) a (((l.take k).map r).filter (fun x=>decide (f x=(a:Int)))++[r (cH l k)])=fun j:Nat=>((l.take (k+1)).map r).filter fun x=>decide (f x=(j:Int)):=by
 funext j
 rw [zhz h,ha];unfold upd;by_cases hj:j=a
 ·subst hj;rw [if_pos rfl,if_pos a7]
 ·rw [if_neg hj,if_neg b8,List.append_nil]
theorem zhr {α:Type}{e:TypeId}{size n:Nat}{enc:α→List Value}{f:Nat→List α}(hf:∀j,f j=[]):(∀w,∀x∈c7 e size n (fun _=> .slice none 0 0) enc f,x.ok w)∧∀x∈c7 e size n (fun _=> .slice none 0 0) enc f,∀g,¬x.fp g:=by
 constructor
 ·intro w x hx;obtain ⟨j,_,rfl⟩:=List.mem_map.1 hx;rw [hf j];exact cT.2 (World.ownsRow_nil w 0 e size)
 ·intro x hx g hg;obtain ⟨j,_,rfl⟩:=List.mem_map.1 hx;have:=c9.1 hg
  cases this
theorem tix {s p c i g:Value}{f:Nat→Int}{tot:Int}{q j:Nat}{z:Int}(hj:j<512)(hq:q=1+j)(he:f j=z):(dc s (fO 512 f) tot p c i g)[q]?=some (.int .i64 z):=by
 rw [zhU lP hj hq,zgr rfl hj,he]
theorem ziW {P:Pb}{k a:Nat}(h:k<P.ls.length)(ha:P.ix (cH P.ls k).to=(a:Int)):upd (P.inA k) a (P.inA k a++[P.rl (cH P.ls k)])=P.inA (k+1):=zgW (f:=Ld.to) (r:=P.rl) h ha
theorem ziH {P:Pb}{k a:Nat}(h:k<P.ls.length)(ha:P.ix (cH P.ls k).fr=(a:Int)):upd (P.ouA k) a (P.ouA k a++[P.rl (cH P.ls k)])=P.ouA (k+1):=zgW (f:=Ld.fr) (r:=P.rl) h ha
theorem ziK {P:Pb}{k a:Nat}(h:k<P.cs.length)(ha:P.ix (cH P.cs k).st=(a:Int)):upd (P.csA k) a (P.csA k a++[P.rc (cH P.cs k)])=P.csA (k+1):=zgW (f:=Cp.st) (r:=P.rc) h ha
theorem zl1 {α:Type}{f:Nat→List α}{a b N:Nat}{x:α}(h:∀j,(f j).length≤N):(upd f a (f a++[x]) b).length≤N+1:=by
 unfold upd;split
 ·have:=h a;simp;omega
 ·have:=h b;omega
theorem zhh {P:Pb}{s:Int}{i:Nat}(h:P.ix s=(i:Int)):dO P.ds P.ds.length s.toNat=(i:Int)+1:=by unfold Pb.ix at h;omega
theorem zir (P:Pb)(vd vp vl vc:Value)(w:World)(h:ProbAt w vd vp vl vc P)(hok:P.ok=true):Calls Tryz.prog 141 #[.agg [vd,vp,vl,vc].toArray] w fun e w'=>∃g27 q1 q3 q5 q7 q9:Nat,∃ya2 ya3 yb3 ya4:Nat→Value,e= .returned (.pointer (some ⟨g27,0,none⟩))∧Hp w (fun _=>False) [Ent.bag (c7 100 5 P.ds.length ya2 Pr.cells (P.psA P.ps.length)),Ent.bag (c7 104 4 P.ds.length ya4 Cp.cells (P.csA P.cs.length)),Ent.bag (c7 102 5 P.ds.length ya3 Ld.cells (P.inA P.ls.length)),Ent.bag (c7 102 5 P.ds.length yb3 Ld.cells (P.ouA P.ls.length)), .row g27 215 (dc (sV q1 P.ds.length) (fO 512 (dO P.ds P.ds.length)) (fZ P.ds P.ds.length) (sV q3 P.ds.length) (sV q5 P.ds.length) (sV q7 P.ds.length) (sV q9 P.ds.length)), .sl (sV q1 P.ds.length) 3 1 P.ds.length (fm (fun j=> .int .i64 (cH P.ds j).st) (.int .i64 0) P.ds.length P.ds.length), .sl (sV q3 P.ds.length) 23 1 P.ds.length ((List.range P.ds.length).map ya2), .sl (sV q5 P.ds.length) 25 1 P.ds.length ((List.range P.ds.length).map ya4), .sl (sV q7 P.ds.length) 24 1 P.ds.length ((List.range P.ds.length).map ya3), .sl (sV q9 P.ds.length) 24 1 P.ds.length ((List.range P.ds.length).map yb3)] w':=by
 obtain ⟨A,cap,rfl,hsl⟩:=h.ds.sl.op;obtain ⟨A1,cap1,rfl,hsl1⟩:=h.ru.ps.op;obtain ⟨A2,cap2,rfl,hsl2⟩:=h.ru.ls.op;obtain ⟨A3,cap3,rfl,hsl3⟩:=h.ru.cs.op;have hG:=Pb.good hok;have hn512:=hG.n;have hlps:=hG.lps;have hlls:=hG.lls;have hlcs:=hG.lcs;refine dq (M:=fun _=>False) (hs:=[]) Tryz.func141 rfl rfl rfl (Hp.refl _ _) ?_;refine de ?_; (refine cK (Wt.none) rfl rfl (dv) ?_;rintro _ _ ⟨g1,rfl,rfl⟩);refine f9 ?_;refine eu ?_;refine q3Y ?_;refine kx ?_;refine dT (.still 0 (.still 2 (.still 4 (.still 6 (.still 8 (.any [1,3,5,7,9] (.still 10 (.eff 11 (.still 12 .done))))))))) _ a8 (List.Sublist.refl _) ?_;refine TS.run 5 rfl ?_;refine TS.any (js:=[1,3,5,7,9]) (fun j=>16+j) (fun _ g=>sV g P.ds.length) (fun j g=> .sl (sV g P.ds.length) (if j=1 then 3 else if j=3 then 23 else if j=5 then 25 else 24) 1 P.ds.length (madeCells (if j=1 then [Value.int .i64 0] else [Value.slice none 0 0]).toArray (P.ds.length*1)).toList) a6 a6 ?_ Sx ?_
 ·intro j hj;simp only [List.mem_cons,List.not_mem_nil,or_false] at hj;rcases hj with rfl|rfl|rfl|rfl|rfl
  all_goals exact ⟨_,rfl,rfl,rfl,rfl,rfl,fun fs' hs' hsb=>Ew.makeSlice rfl (hsb _ _ rfl) (hsb _ _ rfl) rfl rfl a5 a5⟩
 intro gs;simp only [List.map_cons,List.map_nil,List.cons_append,List.nil_append,reduceIte,Nat.reduceEqDiff,Nat.reduceAdd];generalize gs 1=q1;generalize gs 3=q3;generalize gs 5=q5;generalize gs 7=q7;generalize gs 9=q9;refine cR rfl (Yv.build (hF:=fillT _ _ _ _ _ _)) ?_;refine dF ?_; (refine c6 rfl (Wt.none) rfl rfl (dv) ?_;rintro _ _ ⟨g27,rfl,rfl⟩;refine ⟨Sx,?_⟩);refine ky ?_;refine T.cut (gs:=[(1, .pointer (some ⟨g1,0,none⟩)),(4, .pointer (some ⟨g27,0,none⟩))]) (hs':=[.row g27 215 (dc (sV q1 P.ds.length) (fO 512 (dO P.ds P.ds.length)) (fZ P.ds P.ds.length) (sV q3 P.ds.length) (sV q5 P.ds.length) (sV q7 P.ds.length) (sV q9 P.ds.length)), .sl (sV q1 P.ds.length) 3 1 P.ds.length (fm (fun j=> .int .i64 (cH P.ds j).st) (.int .i64 0) P.ds.length P.ds.length), .sl (sV q3 P.ds.length) 23 1 P.ds.length ((List.range P.ds.length).map (fun _=> .slice none 0 0)), .sl (sV q5 P.ds.length) 25 1 P.ds.length ((List.range P.ds.length).map (fun _=> .slice none 0 0)), .sl (sV q7 P.ds.length) 24 1 P.ds.length ((List.range P.ds.length).map (fun _=> .slice none 0 0)), .sl (sV q9 P.ds.length) 24 1 P.ds.length ((List.range P.ds.length).map (fun _=> .slice none 0 0)), .row g1 29 [.slice A P.ds.length cap, .slice A1 P.ps.length cap1, .slice A2 P.ls.length cap2, .slice A3 P.cs.length cap3]]) ?_ ?_
 ·skip;refine T.seq ?_;simp only [zeC (.slice none 0 0),zkP];rw [zeC (.int .i64 0)];refine ed ?_;refine eZ ?_;refine cI (cS 6) ?_;refine jj ?_;refine T.loop (ι:=Nat) (fun k=>[(1, .pointer (some ⟨g1,0,none⟩)),(4, .pointer (some ⟨g27,0,none⟩)),(29, .slice A P.ds.length cap),(30, .int .i64 (P.ds.length:Int)),(31, .int .i64 (k:Int))]) (fun k=>[.row g27 215 (dc (sV q1 P.ds.length) (fO 512 (dO P.ds k)) (fZ P.ds k) (sV q3 P.ds.length) (sV q5 P.ds.length) (sV q7 P.ds.length) (sV q9 P.ds.length)), .sl (sV q1 P.ds.length) 3 1 P.ds.length (fm (fun j=> .int .i64 (cH P.ds j).st) (.int .i64 0) P.ds.length k), .sl (sV q3 P.ds.length) 23 1 P.ds.length ((List.range P.ds.length).map (fun _=> .slice none 0 0)), .sl (sV q5 P.ds.length) 25 1 P.ds.length ((List.range P.ds.length).map (fun _=> .slice none 0 0)), .sl (sV q7 P.ds.length) 24 1 P.ds.length ((List.range P.ds.length).map (fun _=> .slice none 0 0)), .sl (sV q9 P.ds.length) 24 1 P.ds.length ((List.range P.ds.length).map (fun _=> .slice none 0 0)), .row g1 29 [.slice A P.ds.length cap, .slice A1 P.ps.length cap1, .slice A2 P.ls.length cap2, .slice A3 P.cs.length cap3]]) (fun k=>k≤P.ds.length) (fun k=>P.ds.length - k) 0 ?_ ?_ ?_ ?_
  ·omega
  ·exact (by repeat (first|exact Sub.nil|refine Sub.cons rfl ?_))
  ·exact Sx
  ·intro k hphi;refine ei ?_;refine T.cond rfl (fun h1=>?_) (fun h1=>?_)
   ·have p1:=h1; (try simp only [cV] at p1);obtain ⟨g,off,rfl,hc⟩:=hsl a5;have hk:=hc k a5;obtain ⟨Ad,capd,hvd, -⟩:=(h.ds.at (k:=k) a5).op;simp only [Dx.cells,hvd] at hk;have hst:=hG.st _ (iD (xs:=P.ds) (k:=k) a5);have hchs:=(hG.chs _ (iD (xs:=P.ds) (k:=k) a5)).1;have htot:=zlK hG k a5;have hix:=lP (N:=512) (f:=dO P.ds k);have hix1:=lP (N:=512) (f:=dO P.ds (k+1));refine fq ?_;refine dd ?_;refine lc ?_; (refine cK (Wt.none) rfl rfl (Ew.alloc) ?_;rintro _ _ ⟨g6,rfl,rfl⟩);refine dd ?_; (refine dB (Wt.none) rfl (dr 0) ?_;rintro _ _ ⟨rfl,rfl⟩);refine i3 ?_;refine dT (sN 0 8 (.eff 8 .done)) (List.eraseIdx _ 2) a8 (List.eraseIdx_sublist _ _) ?_;refine i1 ?_;refine cR rfl (cS 1) ?_;refine gR ?_;refine fY ?_;refine q2E ?_;refine dF ?_; (refine dx rfl (Wt.none) rfl (fb 2 (fm (fun j=> .int .i64 (cH P.ds j).st) (.int .i64 0) P.ds.length (k+1)) rfl rfl rfl rfl (by rw [zeR a5];omega) (zeA a5 a5)) ?_;rintro _ _ ⟨rfl,rfl⟩;refine ⟨Sx,?_⟩);refine TS.done ?_;refine K.seq (T.seq ?_);refine dT (sN 0 8 (.eff 8 .done)) (List.eraseIdx _ 1) a8 (List.eraseIdx_sublist _ _) ?_;refine gR ?_;refine fY ?_;refine gR ?_;refine cR rfl (kJ rfl rfl rfl a5) ?_;refine q3O ?_;refine cR rfl (dX rfl rfl rfl (show (cH P.ds k).st=(((cH P.ds k).st.toNat:Nat):Int) from by omega) a5) ?_;refine dF ?_; (refine dx rfl (Wt.none) rfl (gJ 1 (dc (sV q1 P.ds.length) (fO 512 (dO P.ds (k+1))) (fZ P.ds k) (sV q3 P.ds.length) (sV q5 P.ds.length) (sV q7 P.ds.length) (sV q9 P.ds.length)) rfl rfl rfl rfl (by rw [zgn hix];omega) (by rw [zhW hix (j:=(cH P.ds k).st.toNat) a5 a5,zjj (f':=dO P.ds (k+1)) (d:=(cH P.ds k).st.toNat) rfl a5 (by show (if _=_ then (k:Int)+1 else _)=_;rw [if_pos rfl]) (fun e he=>by show (if _=_ then (k:Int)+1 else _)=_;rw [if_neg he])])) ?_;rintro _ _ ⟨rfl,rfl⟩;refine ⟨Sx,?_⟩);refine TS.done ?_;refine K.seq ?_;refine dT (sN 0 3 (sN 4 3 (.eff 3 (sN 7 3 (.eff 10 .done))))) (List.eraseIdx _ 1) a8 (List.eraseIdx_sublist _ _) ?_;refine i1 ?_;refine fY ?_;refine cR rfl (gm rfl rfl) ?_;refine dF ?_;refine ep rfl (Wt.none) rfl rfl (cS 1 rfl rfl rfl (lq hix1 (j:=0) a5)) Sx ?_;refine cR rfl (kJ rfl rfl rfl a5) ?_;refine gR ?_;refine jc ?_; (refine dx rfl (Wt.none) rfl (gJ 1 (dc (sV q1 P.ds.length) (fO 512 (dO P.ds (k+1))) (fZ P.ds (k+1)) (sV q3 P.ds.length) (sV q5 P.ds.length) (sV q7 P.ds.length) (sV q9 P.ds.length)) rfl rfl rfl rfl (by rw [zgn hix1];omega) (by rw [zgR hix1 a5];rfl)) ?_;rintro _ _ ⟨rfl,rfl⟩;refine ⟨Sx,?_⟩);refine q1s ?_;exact K.next (k+1) a5 a5 (by repeat (first|exact Sub.nil|refine Sub.cons rfl ?_)) Sx
   ·have p1:=h1; (try simp only [cV] at p1);refine ff ?_; (obtain rfl:k=P.ds.length:=by omega);exact K.at (by repeat (first|exact Sub.nil|refine Sub.cons rfl ?_)) Sx
 ·skip;refine jQ (ι:=Nat→Value) (fun y=>[(1, .pointer (some ⟨g1,0,none⟩)),(4, .pointer (some ⟨g27,0,none⟩))]) (fun y=>[Ent.bag (c7 100 5 P.ds.length y Pr.cells (P.psA P.ps.length)),Ent.bag (c7 104 4 P.ds.length (fun _=> .slice none 0 0) Cp.cells (P.csA 0)),Ent.bag (c7 102 5 P.ds.length (fun _=> .slice none 0 0) Ld.cells (P.inA 0)),Ent.bag (c7 102 5 P.ds.length (fun _=> .slice none 0 0) Ld.cells (P.ouA 0)), .row g27 215 (dc (sV q1 P.ds.length) (fO 512 (dO P.ds P.ds.length)) (fZ P.ds P.ds.length) (sV q3 P.ds.length) (sV q5 P.ds.length) (sV q7 P.ds.length) (sV q9 P.ds.length)), .sl (sV q1 P.ds.length) 3 1 P.ds.length (fm (fun j=> .int .i64 (cH P.ds j).st) (.int .i64 0) P.ds.length P.ds.length), .sl (sV q3 P.ds.length) 23 1 P.ds.length ((List.range P.ds.length).map y), .sl (sV q5 P.ds.length) 25 1 P.ds.length ((List.range P.ds.length).map (fun _=> .slice none 0 0)), .sl (sV q7 P.ds.length) 24 1 P.ds.length ((List.range P.ds.length).map (fun _=> .slice none 0 0)), .sl (sV q9 P.ds.length) 24 1 P.ds.length ((List.range P.ds.length).map (fun _=> .slice none 0 0)), .row g1 29 [.slice A P.ds.length cap, .slice A1 P.ps.length cap1, .slice A2 P.ls.length cap2, .slice A3 P.cs.length cap3]]) (fun y=>True) ?_ ?_
  ·skip;refine T.seq ?_;refine T.bag0 (c7 102 5 P.ds.length (fun _=> .slice none 0 0) Ld.cells (P.ouA 0)) (zhr (fun _=>rfl)).1 (zhr (fun _=>rfl)).2 ?_;refine T.bag0 (c7 102 5 P.ds.length (fun _=> .slice none 0 0) Ld.cells (P.inA 0)) (zhr (fun _=>rfl)).1 (zhr (fun _=>rfl)).2 ?_;refine T.bag0 (c7 104 4 P.ds.length (fun _=> .slice none 0 0) Cp.cells (P.csA 0)) (zhr (fun _=>rfl)).1 (zhr (fun _=>rfl)).2 ?_;refine T.bag0 (c7 100 5 P.ds.length (fun _=> .slice none 0 0) Pr.cells (P.psA 0)) (zhr (fun _=>rfl)).1 (zhr (fun _=>rfl)).2 ?_;refine ed ?_;refine q3A ?_;refine T.loop (ι:=Nat×(Nat→Value)) (fun x=>[(1, .pointer (some ⟨g1,0,none⟩)),(4, .pointer (some ⟨g27,0,none⟩)),(65, .slice A1 P.ps.length cap1),(66, .int .i64 (P.ps.length:Int)),(67, .int .i64 (x.1:Int))]) (fun x=>[Ent.bag (c7 100 5 P.ds.length x.2 Pr.cells (P.psA x.1)),Ent.bag (c7 104 4 P.ds.length (fun _=> .slice none 0 0) Cp.cells (P.csA 0)),Ent.bag (c7 102 5 P.ds.length (fun _=> .slice none 0 0) Ld.cells (P.inA 0)),Ent.bag (c7 102 5 P.ds.length (fun _=> .slice none 0 0) Ld.cells (P.ouA 0)), .row g27 215 (dc (sV q1 P.ds.length) (fO 512 (dO P.ds P.ds.length)) (fZ P.ds P.ds.length) (sV q3 P.ds.length) (sV q5 P.ds.length) (sV q7 P.ds.length) (sV q9 P.ds.length)), .sl (sV q1 P.ds.length) 3 1 P.ds.length (fm (fun j=> .int .i64 (cH P.ds j).st) (.int .i64 0) P.ds.length P.ds.length), .sl (sV q3 P.ds.length) 23 1 P.ds.length ((List.range P.ds.length).map x.2), .sl (sV q5 P.ds.length) 25 1 P.ds.length ((List.range P.ds.length).map (fun _=> .slice none 0 0)), .sl (sV q7 P.ds.length) 24 1 P.ds.length ((List.range P.ds.length).map (fun _=> .slice none 0 0)), .sl (sV q9 P.ds.length) 24 1 P.ds.length ((List.range P.ds.length).map (fun _=> .slice none 0 0)), .row g1 29 [.slice A P.ds.length cap, .slice A1 P.ps.length cap1, .slice A2 P.ls.length cap2, .slice A3 P.cs.length cap3]]) (fun x=>x.1≤P.ps.length) (fun x=>P.ps.length - x.1) (0,(fun _=> .slice none 0 0)) ?_ ?_ ?_ ?_
   ·exact Nat.zero_le _
   ·exact (by repeat (first|exact Sub.nil|refine Sub.cons rfl ?_))
   ·exact Sx
   ·intro x hphi;obtain ⟨k,va⟩:=x;dsimp only at hphi ⊢;refine ei ?_;refine T.cond rfl (fun h2=>?_) (fun h2=>?_)
    ·have p2:=h2; (try simp only [cV] at p2);obtain ⟨g,off,rfl,hc⟩:=hsl1 a5;have hk:=hc k a5;simp only [Pr.cells] at hk;have hr:=hG.ps _ (iD (xs:=P.ps) (k:=k) a5);obtain ⟨hxo,⟨ia,hia,hea⟩,ib,hib,heb⟩:=hr;simp only [Pr.ok,inB,ij,Bool.and_eq_true,decide_eq_true_eq] at hxo; (have ha:P.ix (cH P.ps k).a=(ia:Int):=by rw [hea];exact ey hG hia);have hta:(dc (sV q1 P.ds.length) (fO 512 (dO P.ds P.ds.length)) (fZ P.ds P.ds.length) (sV q3 P.ds.length) (sV q5 P.ds.length) (sV q7 P.ds.length) (sV q9 P.ds.length))[0+1+(cH P.ps k).a.toNat*1]?=some (.int .i64 ((ia:Int)+1)):=tix a5 a5 (zhh ha); (have hb:P.ix (cH P.ps k).b=(ib:Int):=by rw [heb];exact ey hG hib);have htb:(dc (sV q1 P.ds.length) (fO 512 (dO P.ds P.ds.length)) (fZ P.ds P.ds.length) (sV q3 P.ds.length) (sV q5 P.ds.length) (sV q7 P.ds.length) (sV q9 P.ds.length))[0+1+(cH P.ps k).b.toNat*1]?=some (.int .i64 ((ib:Int)+1)):=tix a5 a5 (zhh hb); (have hab:ia≠ib:=by rintro rfl;omega); (have hcell:Pr.cells (P.rp (cH P.ps k))=[.int .i64 ((ia:Int)+1 - 1), .int .i64 ((ib:Int)+1 - 1), .int .i64 (cH P.ps k).off, .int .i64 (cH P.ps k).lo, .int .i64 (cH P.ps k).hi]:=by simp [Pr.cells,Pb.rp,ha,hb]);refine kl ?_;refine jQ (ι:=Nat→Value) (fun u2=>[(1, .pointer (some ⟨g1,0,none⟩)),(4, .pointer (some ⟨g27,0,none⟩)),(65, .slice (some ⟨g,off,none⟩) P.ps.length cap1),(66, .int .i64 (P.ps.length:Int)),(67, .int .i64 (k:Int))]) (fun u2=>[Ent.bag (c7 100 5 P.ds.length u2 Pr.cells (P.psA (k+1))),Ent.bag (c7 104 4 P.ds.length (fun _=> .slice none 0 0) Cp.cells (P.csA 0)),Ent.bag (c7 102 5 P.ds.length (fun _=> .slice none 0 0) Ld.cells (P.inA 0)),Ent.bag (c7 102 5 P.ds.length (fun _=> .slice none 0 0) Ld.cells (P.ouA 0)), .row g27 215 (dc (sV q1 P.ds.length) (fO 512 (dO P.ds P.ds.length)) (fZ P.ds P.ds.length) (sV q3 P.ds.length) (sV q5 P.ds.length) (sV q7 P.ds.length) (sV q9 P.ds.length)), .sl (sV q1 P.ds.length) 3 1 P.ds.length (fm (fun j=> .int .i64 (cH P.ds j).st) (.int .i64 0) P.ds.length P.ds.length), .sl (sV q3 P.ds.length) 23 1 P.ds.length ((List.range P.ds.length).map u2), .sl (sV q5 P.ds.length) 25 1 P.ds.length ((List.range P.ds.length).map (fun _=> .slice none 0 0)), .sl (sV q7 P.ds.length) 24 1 P.ds.length ((List.range P.ds.length).map (fun _=> .slice none 0 0)), .sl (sV q9 P.ds.length) 24 1 P.ds.length ((List.range P.ds.length).map (fun _=> .slice none 0 0)), .row g1 29 [.slice A P.ds.length cap, .slice (some ⟨g,off,none⟩) P.ps.length cap1, .slice A2 P.ls.length cap2, .slice A3 P.cs.length cap3]]) (fun u2=>True) ?_ ?_
     ·skip;refine T.block (de ?_);refine lc ?_; (refine cK (Wt.none) rfl rfl (Ew.alloc) ?_;rintro _ _ ⟨g8,rfl,rfl⟩); (refine dB (Wt.none) rfl (dr 0) ?_;rintro _ _ ⟨rfl,rfl⟩);refine TL.ns ?_;refine T.cut (gs:=[(1, .pointer (some ⟨g1,0,none⟩)),(4, .pointer (some ⟨g27,0,none⟩)),(65, .slice (some ⟨g,off,none⟩) P.ps.length cap1),(66, .int .i64 (P.ps.length:Int)),(67, .int .i64 (k:Int)),(8, .pointer (some ⟨g8,0,none⟩))]) (hs':=[.row g8 100 [.int .i64 ((ia:Int)+1 - 1), .int .i64 ((ib:Int)+1 - 1), .int .i64 ((cH P.ps k).off), .int .i64 ((cH P.ps k).lo), .int .i64 ((cH P.ps k).hi)],Ent.bag (c7 100 5 P.ds.length va Pr.cells (P.psA k)),Ent.bag (c7 104 4 P.ds.length (fun _=> .slice none 0 0) Cp.cells (P.csA 0)),Ent.bag (c7 102 5 P.ds.length (fun _=> .slice none 0 0) Ld.cells (P.inA 0)),Ent.bag (c7 102 5 P.ds.length (fun _=> .slice none 0 0) Ld.cells (P.ouA 0)), .row g27 215 (dc (sV q1 P.ds.length) (fO 512 (dO P.ds P.ds.length)) (fZ P.ds P.ds.length) (sV q3 P.ds.length) (sV q5 P.ds.length) (sV q7 P.ds.length) (sV q9 P.ds.length)), .sl (sV q1 P.ds.length) 3 1 P.ds.length (fm (fun j=> .int .i64 (cH P.ds j).st) (.int .i64 0) P.ds.length P.ds.length), .sl (sV q3 P.ds.length) 23 1 P.ds.length ((List.range P.ds.length).map va), .sl (sV q5 P.ds.length) 25 1 P.ds.length ((List.range P.ds.length).map (fun _=> .slice none 0 0)), .sl (sV q7 P.ds.length) 24 1 P.ds.length ((List.range P.ds.length).map (fun _=> .slice none 0 0)), .sl (sV q9 P.ds.length) 24 1 P.ds.length ((List.range P.ds.length).map (fun _=> .slice none 0 0)), .row g1 29 [.slice A P.ds.length cap, .slice (some ⟨g,off,none⟩) P.ps.length cap1, .slice A2 P.ls.length cap2, .slice A3 P.cs.length cap3]]) ?_ ?_
      ·skip;refine q1c ?_;refine TS.two ?_ ?_
       ·skip;refine q3G ?_;refine dF ?_;refine q25 ?_;refine jc ?_; (refine dx rfl (Wt.none) rfl (dC 0 rfl rfl rfl rfl b4) ?_;rintro _ _ ⟨rfl,rfl⟩;refine ⟨Sx,?_⟩);refine jc ?_; (refine dx rfl (Wt.none) rfl (dC 0 rfl rfl rfl rfl b4) ?_;rintro _ _ ⟨rfl,rfl⟩;refine ⟨Sx,?_⟩);refine TS.done ?_;exact K.at (by repeat (first|exact Sub.nil|refine Sub.cons rfl ?_)) Sx
       ·skip;refine q25 ?_;refine dF ?_;refine q3G ?_;refine jc ?_; (refine dx rfl (Wt.none) rfl (dC 0 rfl rfl rfl rfl b4) ?_;rintro _ _ ⟨rfl,rfl⟩;refine ⟨Sx,?_⟩);refine jc ?_; (refine dx rfl (Wt.none) rfl (dC 0 rfl rfl rfl rfl b4) ?_;rintro _ _ ⟨rfl,rfl⟩;refine ⟨Sx,?_⟩);refine TS.done ?_;exact K.at (by repeat (first|exact Sub.nil|refine Sub.cons rfl ?_)) Sx
      ·skip;refine jQ (ι:=Nat→Value) (fun u1=>[(1, .pointer (some ⟨g1,0,none⟩)),(4, .pointer (some ⟨g27,0,none⟩)),(65, .slice (some ⟨g,off,none⟩) P.ps.length cap1),(66, .int .i64 (P.ps.length:Int)),(67, .int .i64 (k:Int)),(8, .pointer (some ⟨g8,0,none⟩))]) (fun u1=>[.row g8 100 [.int .i64 ((ia:Int)+1 - 1), .int .i64 ((ib:Int)+1 - 1), .int .i64 ((cH P.ps k).off), .int .i64 ((cH P.ps k).lo), .int .i64 ((cH P.ps k).hi)],Ent.bag (c7 100 5 P.ds.length u1 Pr.cells (upd (P.psA k) ia ((P.psA k) ia++[P.rp (cH P.ps k)]))),Ent.bag (c7 104 4 P.ds.length (fun _=> .slice none 0 0) Cp.cells (P.csA 0)),Ent.bag (c7 102 5 P.ds.length (fun _=> .slice none 0 0) Ld.cells (P.inA 0)),Ent.bag (c7 102 5 P.ds.length (fun _=> .slice none 0 0) Ld.cells (P.ouA 0)), .row g27 215 (dc (sV q1 P.ds.length) (fO 512 (dO P.ds P.ds.length)) (fZ P.ds P.ds.length) (sV q3 P.ds.length) (sV q5 P.ds.length) (sV q7 P.ds.length) (sV q9 P.ds.length)), .sl (sV q1 P.ds.length) 3 1 P.ds.length (fm (fun j=> .int .i64 (cH P.ds j).st) (.int .i64 0) P.ds.length P.ds.length), .sl (sV q3 P.ds.length) 23 1 P.ds.length ((List.range P.ds.length).map u1), .sl (sV q5 P.ds.length) 25 1 P.ds.length ((List.range P.ds.length).map (fun _=> .slice none 0 0)), .sl (sV q7 P.ds.length) 24 1 P.ds.length ((List.range P.ds.length).map (fun _=> .slice none 0 0)), .sl (sV q9 P.ds.length) 24 1 P.ds.length ((List.range P.ds.length).map (fun _=> .slice none 0 0)), .row g1 29 [.slice A P.ds.length cap, .slice (some ⟨g,off,none⟩) P.ps.length cap1, .slice A2 P.ls.length cap2, .slice A3 P.cs.length cap3]]) (fun u1=>True) ?_ ?_
       ·skip;refine T.openB 1 ia rfl (zd6 hia) ?_;have hvv:((List.range P.ds.length).map va)[0+ia*1]?=some (va ia):=zfR a5 hia;have hlen:((P.psA k) ia).length≤5000:=Nat.le_trans zcJ a5;refine dT (.still 0 (.still 1 (.still 2 (.still 3 (.still 4 (.still 5 (.still 6 (.still 7 (.still 8 (.still 9 (.still 10 (.still 11 (.still 12 (.still 14 (.two 13 15 (.eff 15 (.eff 16 (.still 17 (.eff 18 .done)))) (.eff 13 (.eff 16 (.still 17 (.eff 18 .done))))))))))))))))))) [.row g8 100 [.int .i64 ((ia:Int)+1 - 1), .int .i64 ((ib:Int)+1 - 1), .int .i64 ((cH P.ps k).off), .int .i64 ((cH P.ps k).lo), .int .i64 ((cH P.ps k).hi)],Ent.bag ((c7 100 5 P.ds.length va Pr.cells (P.psA k)).eraseIdx ia),Ent.bag (c7 104 4 P.ds.length (fun _=> .slice none 0 0) Cp.cells (P.csA 0)),Ent.bag (c7 102 5 P.ds.length (fun _=> .slice none 0 0) Ld.cells (P.inA 0)),Ent.bag (c7 102 5 P.ds.length (fun _=> .slice none 0 0) Ld.cells (P.ouA 0)), .row g27 215 (dc (sV q1 P.ds.length) (fO 512 (dO P.ds P.ds.length)) (fZ P.ds P.ds.length) (sV q3 P.ds.length) (sV q5 P.ds.length) (sV q7 P.ds.length) (sV q9 P.ds.length)), .sl (sV q1 P.ds.length) 3 1 P.ds.length (fm (fun j=> .int .i64 (cH P.ds j).st) (.int .i64 0) P.ds.length P.ds.length), .sl (sV q5 P.ds.length) 25 1 P.ds.length ((List.range P.ds.length).map (fun _=> .slice none 0 0)), .sl (sV q7 P.ds.length) 24 1 P.ds.length ((List.range P.ds.length).map (fun _=> .slice none 0 0)), .sl (sV q9 P.ds.length) 24 1 P.ds.length ((List.range P.ds.length).map (fun _=> .slice none 0 0)), .row g1 29 [.slice A P.ds.length cap, .slice (some ⟨g,off,none⟩) P.ps.length cap1, .slice A2 P.ls.length cap2, .slice A3 P.cs.length cap3]] a8 Sx ?_;refine q2k ?_;refine q2k ?_;refine q0Z ?_;refine q2r ?_;refine TS.two ?_ ?_
        ·skip;refine ep rfl (Wt.none) rfl rfl (eV 8 rfl rfl rfl hvv) Sx ?_;refine dF ?_; (refine c6 rfl (Wt.none) rfl rfl (Ew.buildSlice rfl rfl rfl a6) ?_;rintro _ _ ⟨g104,rfl,rfl⟩;refine ⟨Sx,?_⟩);refine dF ?_; (refine c6 rfl (Wt.none) rfl rfl (Ew.append 1 0 rfl rfl rfl rfl rfl rfl a5 a5) ?_;rintro v105 _ ⟨hv105,rfl⟩;refine ⟨Sx,?_⟩);refine q0Z ?_;refine dF ?_; (refine dx rfl (Wt.none) rfl (fb 9 ((List.range P.ds.length).map (upd va ia v105)) rfl rfl rfl rfl b2 (zdi a5 hia)) ?_;rintro _ _ ⟨rfl,rfl⟩;refine ⟨Sx,?_⟩);refine q2G ?_;exact c4 (upd va ia v105) trivial (by repeat (first|exact Sub.nil|refine Sub.cons rfl ?_)) Sx
        ·skip; (refine c6 rfl (Wt.none) rfl rfl (Ew.buildSlice rfl rfl rfl a6) ?_;rintro _ _ ⟨g104,rfl,rfl⟩;refine ⟨Sx,?_⟩);refine dF ?_;refine q3u ?_; (refine c6 rfl (Wt.none) rfl rfl (Ew.append 1 0 rfl rfl rfl rfl rfl rfl a5 a5) ?_;rintro v105 _ ⟨hv105,rfl⟩;refine ⟨Sx,?_⟩);refine q0Z ?_;refine dF ?_; (refine dx rfl (Wt.none) rfl (fb 9 ((List.range P.ds.length).map (upd va ia v105)) rfl rfl rfl rfl b2 (zdi a5 hia)) ?_;rintro _ _ ⟨rfl,rfl⟩;refine ⟨Sx,?_⟩);refine q2G ?_;exact c4 (upd va ia v105) trivial (by repeat (first|exact Sub.nil|refine Sub.cons rfl ?_)) Sx
       ·skip;intro u1 hphi;refine T.openB 1 ib rfl (zd6 hib) ?_;have hvv:((List.range P.ds.length).map u1)[0+ib*1]?=some (u1 ib):=zfR a5 hib;have hlen:((upd (P.psA k) ia ((P.psA k) ia++[P.rp (cH P.ps k)])) ib).length≤5000:=Nat.le_trans (zl1 (N:=P.ps.length) (fun j=>zcJ)) a5;refine dT (.still 0 (.still 1 (.still 2 (.still 3 (.still 4 (.still 5 (.still 6 (.still 7 (.still 8 (.still 9 (.still 10 (.still 11 (.still 12 (.still 14 (.two 13 15 (.eff 15 (.eff 16 (.still 17 (.eff 18 .done)))) (.eff 13 (.eff 16 (.still 17 (.eff 18 .done))))))))))))))))))) [.row g8 100 [.int .i64 ((ia:Int)+1 - 1), .int .i64 ((ib:Int)+1 - 1), .int .i64 ((cH P.ps k).off), .int .i64 ((cH P.ps k).lo), .int .i64 ((cH P.ps k).hi)],Ent.bag ((c7 100 5 P.ds.length u1 Pr.cells (upd (P.psA k) ia ((P.psA k) ia++[P.rp (cH P.ps k)]))).eraseIdx ib),Ent.bag (c7 104 4 P.ds.length (fun _=> .slice none 0 0) Cp.cells (P.csA 0)),Ent.bag (c7 102 5 P.ds.length (fun _=> .slice none 0 0) Ld.cells (P.inA 0)),Ent.bag (c7 102 5 P.ds.length (fun _=> .slice none 0 0) Ld.cells (P.ouA 0)), .row g27 215 (dc (sV q1 P.ds.length) (fO 512 (dO P.ds P.ds.length)) (fZ P.ds P.ds.length) (sV q3 P.ds.length) (sV q5 P.ds.length) (sV q7 P.ds.length) (sV q9 P.ds.length)), .sl (sV q1 P.ds.length) 3 1 P.ds.length (fm (fun j=> .int .i64 (cH P.ds j).st) (.int .i64 0) P.ds.length P.ds.length), .sl (sV q5 P.ds.length) 25 1 P.ds.length ((List.range P.ds.length).map (fun _=> .slice none 0 0)), .sl (sV q7 P.ds.length) 24 1 P.ds.length ((List.range P.ds.length).map (fun _=> .slice none 0 0)), .sl (sV q9 P.ds.length) 24 1 P.ds.length ((List.range P.ds.length).map (fun _=> .slice none 0 0)), .row g1 29 [.slice A P.ds.length cap, .slice (some ⟨g,off,none⟩) P.ps.length cap1, .slice A2 P.ls.length cap2, .slice A3 P.cs.length cap3]] a8 Sx ?_;refine q2k ?_;refine q2k ?_;refine q1y ?_;refine q2r ?_;refine TS.two ?_ ?_
        ·skip;refine ep rfl (Wt.none) rfl rfl (eV 8 rfl rfl rfl hvv) Sx ?_;refine dF ?_; (refine c6 rfl (Wt.none) rfl rfl (Ew.buildSlice rfl rfl rfl a6) ?_;rintro _ _ ⟨g122,rfl,rfl⟩;refine ⟨Sx,?_⟩);refine dF ?_; (refine c6 rfl (Wt.none) rfl rfl (Ew.append 1 0 rfl rfl rfl rfl rfl rfl a5 a5) ?_;rintro v123 _ ⟨hv123,rfl⟩;refine ⟨Sx,?_⟩);refine q1y ?_;refine dF ?_; (refine dx rfl (Wt.none) rfl (fb 9 ((List.range P.ds.length).map (upd u1 ib v123)) rfl rfl rfl rfl b2 (zdi a5 hib)) ?_;rintro _ _ ⟨rfl,rfl⟩;refine ⟨Sx,?_⟩);refine q2B ?_;exact c4 (upd u1 ib v123) trivial (by repeat (first|exact Sub.nil|refine Sub.cons rfl ?_)) Sx
        ·skip; (refine c6 rfl (Wt.none) rfl rfl (Ew.buildSlice rfl rfl rfl a6) ?_;rintro _ _ ⟨g122,rfl,rfl⟩;refine ⟨Sx,?_⟩);refine dF ?_;refine q3u ?_; (refine c6 rfl (Wt.none) rfl rfl (Ew.append 1 0 rfl rfl rfl rfl rfl rfl a5 a5) ?_;rintro v123 _ ⟨hv123,rfl⟩;refine ⟨Sx,?_⟩);refine q1y ?_;refine dF ?_; (refine dx rfl (Wt.none) rfl (fb 9 ((List.range P.ds.length).map (upd u1 ib v123)) rfl rfl rfl rfl b2 (zdi a5 hib)) ?_;rintro _ _ ⟨rfl,rfl⟩;refine ⟨Sx,?_⟩);refine q2B ?_;exact c4 (upd u1 ib v123) trivial (by repeat (first|exact Sub.nil|refine Sub.cons rfl ?_)) Sx
     ·skip;intro u2 hphi;refine ed ?_;refine jS ?_;exact K.next (k+1,u2) a9 a9 (by repeat (first|exact Sub.nil|refine Sub.cons rfl ?_)) Sx
    ·have p2:=h2; (try simp only [cV] at p2);refine ff ?_; (obtain rfl:k=P.ps.length:=by omega);exact c4 va trivial (by repeat (first|exact Sub.nil|refine Sub.cons rfl ?_)) Sx
  ·skip;intro y hphi;obtain ⟨ya2,hya⟩:∃z,z=y:=⟨y,rfl⟩;subst hya;refine jQ (ι:=(Nat→Value)×(Nat→Value)) (fun y=>[(1, .pointer (some ⟨g1,0,none⟩)),(4, .pointer (some ⟨g27,0,none⟩))]) (fun y=>[Ent.bag (c7 100 5 P.ds.length ya2 Pr.cells (P.psA P.ps.length)),Ent.bag (c7 104 4 P.ds.length (fun _=> .slice none 0 0) Cp.cells (P.csA 0)),Ent.bag (c7 102 5 P.ds.length y.1 Ld.cells (P.inA P.ls.length)),Ent.bag (c7 102 5 P.ds.length y.2 Ld.cells (P.ouA P.ls.length)), .row g27 215 (dc (sV q1 P.ds.length) (fO 512 (dO P.ds P.ds.length)) (fZ P.ds P.ds.length) (sV q3 P.ds.length) (sV q5 P.ds.length) (sV q7 P.ds.length) (sV q9 P.ds.length)), .sl (sV q1 P.ds.length) 3 1 P.ds.length (fm (fun j=> .int .i64 (cH P.ds j).st) (.int .i64 0) P.ds.length P.ds.length), .sl (sV q3 P.ds.length) 23 1 P.ds.length ((List.range P.ds.length).map ya2), .sl (sV q5 P.ds.length) 25 1 P.ds.length ((List.range P.ds.length).map (fun _=> .slice none 0 0)), .sl (sV q7 P.ds.length) 24 1 P.ds.length ((List.range P.ds.length).map y.1), .sl (sV q9 P.ds.length) 24 1 P.ds.length ((List.range P.ds.length).map y.2), .row g1 29 [.slice A P.ds.length cap, .slice A1 P.ps.length cap1, .slice A2 P.ls.length cap2, .slice A3 P.cs.length cap3]]) (fun y=>True) ?_ ?_
   ·skip;refine de ?_;refine q3A ?_;refine T.loop (ι:=Nat×(Nat→Value)×(Nat→Value)) (fun x=>[(1, .pointer (some ⟨g1,0,none⟩)),(4, .pointer (some ⟨g27,0,none⟩)),(128, .slice A2 P.ls.length cap2),(129, .int .i64 (P.ls.length:Int)),(130, .int .i64 (x.1:Int))]) (fun x=>[Ent.bag (c7 100 5 P.ds.length ya2 Pr.cells (P.psA P.ps.length)),Ent.bag (c7 104 4 P.ds.length (fun _=> .slice none 0 0) Cp.cells (P.csA 0)),Ent.bag (c7 102 5 P.ds.length x.2.1 Ld.cells (P.inA x.1)),Ent.bag (c7 102 5 P.ds.length x.2.2 Ld.cells (P.ouA x.1)), .row g27 215 (dc (sV q1 P.ds.length) (fO 512 (dO P.ds P.ds.length)) (fZ P.ds P.ds.length) (sV q3 P.ds.length) (sV q5 P.ds.length) (sV q7 P.ds.length) (sV q9 P.ds.length)), .sl (sV q1 P.ds.length) 3 1 P.ds.length (fm (fun j=> .int .i64 (cH P.ds j).st) (.int .i64 0) P.ds.length P.ds.length), .sl (sV q3 P.ds.length) 23 1 P.ds.length ((List.range P.ds.length).map ya2), .sl (sV q5 P.ds.length) 25 1 P.ds.length ((List.range P.ds.length).map (fun _=> .slice none 0 0)), .sl (sV q7 P.ds.length) 24 1 P.ds.length ((List.range P.ds.length).map x.2.1), .sl (sV q9 P.ds.length) 24 1 P.ds.length ((List.range P.ds.length).map x.2.2), .row g1 29 [.slice A P.ds.length cap, .slice A1 P.ps.length cap1, .slice A2 P.ls.length cap2, .slice A3 P.cs.length cap3]]) (fun x=>x.1≤P.ls.length) (fun x=>P.ls.length - x.1) (0,(fun _=> .slice none 0 0),(fun _=> .slice none 0 0)) ?_ ?_ ?_ ?_
    ·exact Nat.zero_le _
    ·exact (by repeat (first|exact Sub.nil|refine Sub.cons rfl ?_))
    ·exact Sx
    ·intro x hphi;obtain ⟨k,va,vb⟩:=x;dsimp only at hphi ⊢;refine ei ?_;refine T.cond rfl (fun h3=>?_) (fun h3=>?_)
     ·have p3:=h3; (try simp only [cV] at p3);obtain ⟨g,off,rfl,hc⟩:=hsl2 a5;have hk:=hc k a5;simp only [Ld.cells] at hk;have hr:=hG.ls _ (iD (xs:=P.ls) (k:=k) a5);obtain ⟨hxo,⟨ia,hia,hea⟩,ib,hib,heb⟩:=hr;simp only [Ld.ok,inB,ij,Bool.and_eq_true,decide_eq_true_eq] at hxo; (have ha:P.ix (cH P.ls k).to=(ia:Int):=by rw [hea];exact ey hG hia);have hta:(dc (sV q1 P.ds.length) (fO 512 (dO P.ds P.ds.length)) (fZ P.ds P.ds.length) (sV q3 P.ds.length) (sV q5 P.ds.length) (sV q7 P.ds.length) (sV q9 P.ds.length))[0+1+(cH P.ls k).to.toNat*1]?=some (.int .i64 ((ia:Int)+1)):=tix a5 a5 (zhh ha); (have hb:P.ix (cH P.ls k).fr=(ib:Int):=by rw [heb];exact ey hG hib);have htb:(dc (sV q1 P.ds.length) (fO 512 (dO P.ds P.ds.length)) (fZ P.ds P.ds.length) (sV q3 P.ds.length) (sV q5 P.ds.length) (sV q7 P.ds.length) (sV q9 P.ds.length))[0+1+(cH P.ls k).fr.toNat*1]?=some (.int .i64 ((ib:Int)+1)):=tix a5 a5 (zhh hb); (have hcell:Ld.cells (P.rl (cH P.ls k))=[.int .i64 ((ia:Int)+1 - 1), .int .i64 ((ib:Int)+1 - 1), .int .i64 (cH P.ls k).wt, .int .i64 (cH P.ls k).lo, .int .i64 (cH P.ls k).hi]:=by simp [Ld.cells,Pb.rl,ha,hb]);refine kl ?_;refine jQ (ι:=(Nat→Value)×(Nat→Value)) (fun uu=>[(1, .pointer (some ⟨g1,0,none⟩)),(4, .pointer (some ⟨g27,0,none⟩)),(128, .slice (some ⟨g,off,none⟩) P.ls.length cap2),(129, .int .i64 (P.ls.length:Int)),(130, .int .i64 (k:Int))]) (fun uu=>[Ent.bag (c7 100 5 P.ds.length ya2 Pr.cells (P.psA P.ps.length)),Ent.bag (c7 104 4 P.ds.length (fun _=> .slice none 0 0) Cp.cells (P.csA 0)),Ent.bag (c7 102 5 P.ds.length uu.1 Ld.cells (P.inA (k+1))),Ent.bag (c7 102 5 P.ds.length uu.2 Ld.cells (P.ouA (k+1))), .row g27 215 (dc (sV q1 P.ds.length) (fO 512 (dO P.ds P.ds.length)) (fZ P.ds P.ds.length) (sV q3 P.ds.length) (sV q5 P.ds.length) (sV q7 P.ds.length) (sV q9 P.ds.length)), .sl (sV q1 P.ds.length) 3 1 P.ds.length (fm (fun j=> .int .i64 (cH P.ds j).st) (.int .i64 0) P.ds.length P.ds.length), .sl (sV q3 P.ds.length) 23 1 P.ds.length ((List.range P.ds.length).map ya2), .sl (sV q5 P.ds.length) 25 1 P.ds.length ((List.range P.ds.length).map (fun _=> .slice none 0 0)), .sl (sV q7 P.ds.length) 24 1 P.ds.length ((List.range P.ds.length).map uu.1), .sl (sV q9 P.ds.length) 24 1 P.ds.length ((List.range P.ds.length).map uu.2), .row g1 29 [.slice A P.ds.length cap, .slice A1 P.ps.length cap1, .slice (some ⟨g,off,none⟩) P.ls.length cap2, .slice A3 P.cs.length cap3]]) (fun uu=>True) ?_ ?_
      ·skip;refine T.block (de ?_);refine lc ?_; (refine cK (Wt.none) rfl rfl (Ew.alloc) ?_;rintro _ _ ⟨g10,rfl,rfl⟩); (refine dB (Wt.none) rfl (dr 0) ?_;rintro _ _ ⟨rfl,rfl⟩);refine TL.ns ?_;refine T.cut (gs:=[(1, .pointer (some ⟨g1,0,none⟩)),(4, .pointer (some ⟨g27,0,none⟩)),(128, .slice (some ⟨g,off,none⟩) P.ls.length cap2),(129, .int .i64 (P.ls.length:Int)),(130, .int .i64 (k:Int)),(10, .pointer (some ⟨g10,0,none⟩))]) (hs':=[.row g10 102 [.int .i64 ((ia:Int)+1 - 1), .int .i64 ((ib:Int)+1 - 1), .int .i64 ((cH P.ls k).wt), .int .i64 ((cH P.ls k).lo), .int .i64 ((cH P.ls k).hi)],Ent.bag (c7 100 5 P.ds.length ya2 Pr.cells (P.psA P.ps.length)),Ent.bag (c7 104 4 P.ds.length (fun _=> .slice none 0 0) Cp.cells (P.csA 0)),Ent.bag (c7 102 5 P.ds.length va Ld.cells (P.inA k)),Ent.bag (c7 102 5 P.ds.length vb Ld.cells (P.ouA k)), .row g27 215 (dc (sV q1 P.ds.length) (fO 512 (dO P.ds P.ds.length)) (fZ P.ds P.ds.length) (sV q3 P.ds.length) (sV q5 P.ds.length) (sV q7 P.ds.length) (sV q9 P.ds.length)), .sl (sV q1 P.ds.length) 3 1 P.ds.length (fm (fun j=> .int .i64 (cH P.ds j).st) (.int .i64 0) P.ds.length P.ds.length), .sl (sV q3 P.ds.length) 23 1 P.ds.length ((List.range P.ds.length).map ya2), .sl (sV q5 P.ds.length) 25 1 P.ds.length ((List.range P.ds.length).map (fun _=> .slice none 0 0)), .sl (sV q7 P.ds.length) 24 1 P.ds.length ((List.range P.ds.length).map va), .sl (sV q9 P.ds.length) 24 1 P.ds.length ((List.range P.ds.length).map vb), .row g1 29 [.slice A P.ds.length cap, .slice A1 P.ps.length cap1, .slice (some ⟨g,off,none⟩) P.ls.length cap2, .slice A3 P.cs.length cap3]]) ?_ ?_
       ·skip;refine q1c ?_;refine TS.two ?_ ?_
        ·skip;refine q3C ?_;refine dF ?_;refine q22 ?_;refine jc ?_; (refine dx rfl (Wt.none) rfl (dC 0 rfl rfl rfl rfl b4) ?_;rintro _ _ ⟨rfl,rfl⟩;refine ⟨Sx,?_⟩);refine jc ?_; (refine dx rfl (Wt.none) rfl (dC 0 rfl rfl rfl rfl b4) ?_;rintro _ _ ⟨rfl,rfl⟩;refine ⟨Sx,?_⟩);refine TS.done ?_;exact K.at (by repeat (first|exact Sub.nil|refine Sub.cons rfl ?_)) Sx
        ·skip;refine q22 ?_;refine dF ?_;refine q3C ?_;refine jc ?_; (refine dx rfl (Wt.none) rfl (dC 0 rfl rfl rfl rfl b4) ?_;rintro _ _ ⟨rfl,rfl⟩;refine ⟨Sx,?_⟩);refine jc ?_; (refine dx rfl (Wt.none) rfl (dC 0 rfl rfl rfl rfl b4) ?_;rintro _ _ ⟨rfl,rfl⟩;refine ⟨Sx,?_⟩);refine TS.done ?_;exact K.at (by repeat (first|exact Sub.nil|refine Sub.cons rfl ?_)) Sx
       ·skip;refine jQ (ι:=Nat→Value) (fun u1=>[(1, .pointer (some ⟨g1,0,none⟩)),(4, .pointer (some ⟨g27,0,none⟩)),(128, .slice (some ⟨g,off,none⟩) P.ls.length cap2),(129, .int .i64 (P.ls.length:Int)),(130, .int .i64 (k:Int)),(10, .pointer (some ⟨g10,0,none⟩))]) (fun u1=>[.row g10 102 [.int .i64 ((ia:Int)+1 - 1), .int .i64 ((ib:Int)+1 - 1), .int .i64 ((cH P.ls k).wt), .int .i64 ((cH P.ls k).lo), .int .i64 ((cH P.ls k).hi)],Ent.bag (c7 100 5 P.ds.length ya2 Pr.cells (P.psA P.ps.length)),Ent.bag (c7 104 4 P.ds.length (fun _=> .slice none 0 0) Cp.cells (P.csA 0)),Ent.bag (c7 102 5 P.ds.length u1 Ld.cells (P.inA (k+1))),Ent.bag (c7 102 5 P.ds.length vb Ld.cells (P.ouA k)), .row g27 215 (dc (sV q1 P.ds.length) (fO 512 (dO P.ds P.ds.length)) (fZ P.ds P.ds.length) (sV q3 P.ds.length) (sV q5 P.ds.length) (sV q7 P.ds.length) (sV q9 P.ds.length)), .sl (sV q1 P.ds.length) 3 1 P.ds.length (fm (fun j=> .int .i64 (cH P.ds j).st) (.int .i64 0) P.ds.length P.ds.length), .sl (sV q3 P.ds.length) 23 1 P.ds.length ((List.range P.ds.length).map ya2), .sl (sV q5 P.ds.length) 25 1 P.ds.length ((List.range P.ds.length).map (fun _=> .slice none 0 0)), .sl (sV q7 P.ds.length) 24 1 P.ds.length ((List.range P.ds.length).map u1), .sl (sV q9 P.ds.length) 24 1 P.ds.length ((List.range P.ds.length).map vb), .row g1 29 [.slice A P.ds.length cap, .slice A1 P.ps.length cap1, .slice (some ⟨g,off,none⟩) P.ls.length cap2, .slice A3 P.cs.length cap3]]) (fun u1=>True) ?_ ?_
        ·skip;refine T.openB 3 ia rfl (zd6 hia) ?_;have hvv:((List.range P.ds.length).map va)[0+ia*1]?=some (va ia):=zfR a5 hia;have hlen:((P.inA k) ia).length≤5000:=Nat.le_trans zcJ a5;refine dT (.still 0 (.still 1 (.still 2 (.still 3 (.still 4 (.still 5 (.still 6 (.still 7 (.still 8 (.still 9 (.still 10 (.still 11 (.still 12 (.still 14 (.two 13 15 (.eff 15 (.eff 16 (.still 17 (.eff 18 .done)))) (.eff 13 (.eff 16 (.still 17 (.eff 18 .done))))))))))))))))))) [.row g10 102 [.int .i64 ((ia:Int)+1 - 1), .int .i64 ((ib:Int)+1 - 1), .int .i64 ((cH P.ls k).wt), .int .i64 ((cH P.ls k).lo), .int .i64 ((cH P.ls k).hi)],Ent.bag (c7 100 5 P.ds.length ya2 Pr.cells (P.psA P.ps.length)),Ent.bag (c7 104 4 P.ds.length (fun _=> .slice none 0 0) Cp.cells (P.csA 0)),Ent.bag ((c7 102 5 P.ds.length va Ld.cells (P.inA k)).eraseIdx ia),Ent.bag (c7 102 5 P.ds.length vb Ld.cells (P.ouA k)), .row g27 215 (dc (sV q1 P.ds.length) (fO 512 (dO P.ds P.ds.length)) (fZ P.ds P.ds.length) (sV q3 P.ds.length) (sV q5 P.ds.length) (sV q7 P.ds.length) (sV q9 P.ds.length)), .sl (sV q1 P.ds.length) 3 1 P.ds.length (fm (fun j=> .int .i64 (cH P.ds j).st) (.int .i64 0) P.ds.length P.ds.length), .sl (sV q3 P.ds.length) 23 1 P.ds.length ((List.range P.ds.length).map ya2), .sl (sV q5 P.ds.length) 25 1 P.ds.length ((List.range P.ds.length).map (fun _=> .slice none 0 0)), .sl (sV q9 P.ds.length) 24 1 P.ds.length ((List.range P.ds.length).map vb), .row g1 29 [.slice A P.ds.length cap, .slice A1 P.ps.length cap1, .slice (some ⟨g,off,none⟩) P.ls.length cap2, .slice A3 P.cs.length cap3]] a8 Sx ?_;refine i1 ?_;refine cR rfl (cS 5 rfl rfl rfl (lq lP (j:=3))) ?_;refine fY ?_;refine i1 ?_;refine cR rfl (cS 5 rfl rfl rfl (lq lP (j:=3))) ?_;refine fY ?_;refine q0Z ?_;refine q2r ?_;refine TS.two ?_ ?_
         ·skip;refine ep rfl (Wt.none) rfl rfl (eV 10 rfl rfl rfl hvv) Sx ?_;refine dF ?_; (refine c6 rfl (Wt.none) rfl rfl (Ew.buildSlice rfl rfl rfl a6) ?_;rintro _ _ ⟨g167,rfl,rfl⟩;refine ⟨Sx,?_⟩);refine dF ?_; (refine c6 rfl (Wt.none) rfl rfl (Ew.append 1 0 rfl rfl rfl rfl rfl rfl a5 a5) ?_;rintro v168 _ ⟨hv168,rfl⟩;refine ⟨Sx,?_⟩);refine q0Z ?_;refine dF ?_; (refine dx rfl (Wt.none) rfl (fb 11 ((List.range P.ds.length).map (upd va ia v168)) rfl rfl rfl rfl b2 (zdi a5 hia)) ?_;rintro _ _ ⟨rfl,rfl⟩;refine ⟨Sx,?_⟩);refine q2Z ?_;exact c4 (upd va ia v168) trivial (by repeat (first|exact Sub.nil|refine Sub.cons rfl ?_)) Sx
         ·skip; (refine c6 rfl (Wt.none) rfl rfl (Ew.buildSlice rfl rfl rfl a6) ?_;rintro _ _ ⟨g167,rfl,rfl⟩;refine ⟨Sx,?_⟩);refine dF ?_;refine ep rfl (Wt.none) rfl rfl (eV 11 rfl rfl rfl hvv) Sx ?_;refine dF ?_; (refine c6 rfl (Wt.none) rfl rfl (Ew.append 1 0 rfl rfl rfl rfl rfl rfl a5 a5) ?_;rintro v168 _ ⟨hv168,rfl⟩;refine ⟨Sx,?_⟩);refine q0Z ?_;refine dF ?_; (refine dx rfl (Wt.none) rfl (fb 11 ((List.range P.ds.length).map (upd va ia v168)) rfl rfl rfl rfl b2 (zdi a5 hia)) ?_;rintro _ _ ⟨rfl,rfl⟩;refine ⟨Sx,?_⟩);refine q2Z ?_;exact c4 (upd va ia v168) trivial (by repeat (first|exact Sub.nil|refine Sub.cons rfl ?_)) Sx
        ·skip;intro u1 hphi;refine T.openB 4 ib rfl (zd6 hib) ?_;have hvv:((List.range P.ds.length).map vb)[0+ib*1]?=some (vb ib):=zfR a5 hib;have hlen:((P.ouA k) ib).length≤5000:=Nat.le_trans zcJ a5;refine dT (.still 0 (.still 1 (.still 2 (.still 3 (.still 4 (.still 5 (.still 6 (.still 7 (.still 8 (.still 9 (.still 10 (.still 11 (.still 12 (.still 14 (.two 13 15 (.eff 15 (.eff 16 (.still 17 (.eff 18 .done)))) (.eff 13 (.eff 16 (.still 17 (.eff 18 .done))))))))))))))))))) [.row g10 102 [.int .i64 ((ia:Int)+1 - 1), .int .i64 ((ib:Int)+1 - 1), .int .i64 ((cH P.ls k).wt), .int .i64 ((cH P.ls k).lo), .int .i64 ((cH P.ls k).hi)],Ent.bag (c7 100 5 P.ds.length ya2 Pr.cells (P.psA P.ps.length)),Ent.bag (c7 104 4 P.ds.length (fun _=> .slice none 0 0) Cp.cells (P.csA 0)),Ent.bag (c7 102 5 P.ds.length u1 Ld.cells (P.inA (k+1))),Ent.bag ((c7 102 5 P.ds.length vb Ld.cells (P.ouA k)).eraseIdx ib), .row g27 215 (dc (sV q1 P.ds.length) (fO 512 (dO P.ds P.ds.length)) (fZ P.ds P.ds.length) (sV q3 P.ds.length) (sV q5 P.ds.length) (sV q7 P.ds.length) (sV q9 P.ds.length)), .sl (sV q1 P.ds.length) 3 1 P.ds.length (fm (fun j=> .int .i64 (cH P.ds j).st) (.int .i64 0) P.ds.length P.ds.length), .sl (sV q3 P.ds.length) 23 1 P.ds.length ((List.range P.ds.length).map ya2), .sl (sV q5 P.ds.length) 25 1 P.ds.length ((List.range P.ds.length).map (fun _=> .slice none 0 0)), .sl (sV q7 P.ds.length) 24 1 P.ds.length ((List.range P.ds.length).map u1), .row g1 29 [.slice A P.ds.length cap, .slice A1 P.ps.length cap1, .slice (some ⟨g,off,none⟩) P.ls.length cap2, .slice A3 P.cs.length cap3]] a8 Sx ?_;refine i1 ?_;refine cR rfl (cS 5 rfl rfl rfl (lq lP (j:=4))) ?_;refine fY ?_;refine i1 ?_;refine cR rfl (cS 5 rfl rfl rfl (lq lP (j:=4))) ?_;refine fY ?_;refine q1y ?_;refine q2r ?_;refine TS.two ?_ ?_
         ·skip;refine ep rfl (Wt.none) rfl rfl (eV 11 rfl rfl rfl hvv) Sx ?_;refine dF ?_; (refine c6 rfl (Wt.none) rfl rfl (Ew.buildSlice rfl rfl rfl a6) ?_;rintro _ _ ⟨g185,rfl,rfl⟩;refine ⟨Sx,?_⟩);refine dF ?_; (refine c6 rfl (Wt.none) rfl rfl (Ew.append 1 0 rfl rfl rfl rfl rfl rfl a5 a5) ?_;rintro v186 _ ⟨hv186,rfl⟩;refine ⟨Sx,?_⟩);refine q1y ?_;refine dF ?_; (refine dx rfl (Wt.none) rfl (fb 12 ((List.range P.ds.length).map (upd vb ib v186)) rfl rfl rfl rfl b2 (zdi a5 hib)) ?_;rintro _ _ ⟨rfl,rfl⟩;refine ⟨Sx,?_⟩);refine q2M ?_;exact c4 (u1,upd vb ib v186) trivial (by repeat (first|exact Sub.nil|refine Sub.cons rfl ?_)) Sx
         ·skip; (refine c6 rfl (Wt.none) rfl rfl (Ew.buildSlice rfl rfl rfl a6) ?_;rintro _ _ ⟨g185,rfl,rfl⟩;refine ⟨Sx,?_⟩);refine dF ?_;refine ep rfl (Wt.none) rfl rfl (eV 12 rfl rfl rfl hvv) Sx ?_;refine dF ?_; (refine c6 rfl (Wt.none) rfl rfl (Ew.append 1 0 rfl rfl rfl rfl rfl rfl a5 a5) ?_;rintro v186 _ ⟨hv186,rfl⟩;refine ⟨Sx,?_⟩);refine q1y ?_;refine dF ?_; (refine dx rfl (Wt.none) rfl (fb 12 ((List.range P.ds.length).map (upd vb ib v186)) rfl rfl rfl rfl b2 (zdi a5 hib)) ?_;rintro _ _ ⟨rfl,rfl⟩;refine ⟨Sx,?_⟩);refine q2M ?_;exact c4 (u1,upd vb ib v186) trivial (by repeat (first|exact Sub.nil|refine Sub.cons rfl ?_)) Sx
      ·skip;intro uu hphi;obtain ⟨u1,u2⟩:=uu;dsimp only;refine ed ?_;refine jS ?_;exact K.next (k+1,u1,u2) a9 a9 (by repeat (first|exact Sub.nil|refine Sub.cons rfl ?_)) Sx
     ·have p3:=h3; (try simp only [cV] at p3);refine ff ?_; (obtain rfl:k=P.ls.length:=by omega);exact c4 (va,vb) trivial (by repeat (first|exact Sub.nil|refine Sub.cons rfl ?_)) Sx
   ·skip;intro y hphi;obtain ⟨ya3,yb3⟩:=y;dsimp only;refine jQ (ι:=Nat→Value) (fun y=>[(1, .pointer (some ⟨g1,0,none⟩)),(4, .pointer (some ⟨g27,0,none⟩))]) (fun y=>[Ent.bag (c7 100 5 P.ds.length ya2 Pr.cells (P.psA P.ps.length)),Ent.bag (c7 104 4 P.ds.length y Cp.cells (P.csA P.cs.length)),Ent.bag (c7 102 5 P.ds.length ya3 Ld.cells (P.inA P.ls.length)),Ent.bag (c7 102 5 P.ds.length yb3 Ld.cells (P.ouA P.ls.length)), .row g27 215 (dc (sV q1 P.ds.length) (fO 512 (dO P.ds P.ds.length)) (fZ P.ds P.ds.length) (sV q3 P.ds.length) (sV q5 P.ds.length) (sV q7 P.ds.length) (sV q9 P.ds.length)), .sl (sV q1 P.ds.length) 3 1 P.ds.length (fm (fun j=> .int .i64 (cH P.ds j).st) (.int .i64 0) P.ds.length P.ds.length), .sl (sV q3 P.ds.length) 23 1 P.ds.length ((List.range P.ds.length).map ya2), .sl (sV q5 P.ds.length) 25 1 P.ds.length ((List.range P.ds.length).map y), .sl (sV q7 P.ds.length) 24 1 P.ds.length ((List.range P.ds.length).map ya3), .sl (sV q9 P.ds.length) 24 1 P.ds.length ((List.range P.ds.length).map yb3), .row g1 29 [.slice A P.ds.length cap, .slice A1 P.ps.length cap1, .slice A2 P.ls.length cap2, .slice A3 P.cs.length cap3]]) (fun y=>True) ?_ ?_
    ·skip;refine de ?_;refine q3A ?_;refine T.loop (ι:=Nat×(Nat→Value)) (fun x=>[(1, .pointer (some ⟨g1,0,none⟩)),(4, .pointer (some ⟨g27,0,none⟩)),(191, .slice A3 P.cs.length cap3),(192, .int .i64 (P.cs.length:Int)),(193, .int .i64 (x.1:Int))]) (fun x=>[Ent.bag (c7 100 5 P.ds.length ya2 Pr.cells (P.psA P.ps.length)),Ent.bag (c7 104 4 P.ds.length x.2 Cp.cells (P.csA x.1)),Ent.bag (c7 102 5 P.ds.length ya3 Ld.cells (P.inA P.ls.length)),Ent.bag (c7 102 5 P.ds.length yb3 Ld.cells (P.ouA P.ls.length)), .row g27 215 (dc (sV q1 P.ds.length) (fO 512 (dO P.ds P.ds.length)) (fZ P.ds P.ds.length) (sV q3 P.ds.length) (sV q5 P.ds.length) (sV q7 P.ds.length) (sV q9 P.ds.length)), .sl (sV q1 P.ds.length) 3 1 P.ds.length (fm (fun j=> .int .i64 (cH P.ds j).st) (.int .i64 0) P.ds.length P.ds.length), .sl (sV q3 P.ds.length) 23 1 P.ds.length ((List.range P.ds.length).map ya2), .sl (sV q5 P.ds.length) 25 1 P.ds.length ((List.range P.ds.length).map x.2), .sl (sV q7 P.ds.length) 24 1 P.ds.length ((List.range P.ds.length).map ya3), .sl (sV q9 P.ds.length) 24 1 P.ds.length ((List.range P.ds.length).map yb3), .row g1 29 [.slice A P.ds.length cap, .slice A1 P.ps.length cap1, .slice A2 P.ls.length cap2, .slice A3 P.cs.length cap3]]) (fun x=>x.1≤P.cs.length) (fun x=>P.cs.length - x.1) (0,(fun _=> .slice none 0 0)) ?_ ?_ ?_ ?_
     ·exact Nat.zero_le _
     ·exact (by repeat (first|exact Sub.nil|refine Sub.cons rfl ?_))
     ·exact Sx
     ·intro x hphi;obtain ⟨k,va⟩:=x;dsimp only at hphi ⊢;refine ei ?_;refine T.cond rfl (fun h4=>?_) (fun h4=>?_)
      ·have p4:=h4; (try simp only [cV] at p4);obtain ⟨g,off,rfl,hc⟩:=hsl3 a5;have hk:=hc k a5;simp only [Cp.cells] at hk;have hr:=hG.cs _ (iD (xs:=P.cs) (k:=k) a5);obtain ⟨hxo,ia,hia,hea⟩:=hr;simp only [Cp.ok,inB,ij,Bool.and_eq_true,decide_eq_true_eq] at hxo; (have ha:P.ix (cH P.cs k).st=(ia:Int):=by rw [hea];exact ey hG hia);have hta:(dc (sV q1 P.ds.length) (fO 512 (dO P.ds P.ds.length)) (fZ P.ds P.ds.length) (sV q3 P.ds.length) (sV q5 P.ds.length) (sV q7 P.ds.length) (sV q9 P.ds.length))[0+1+(cH P.cs k).st.toNat*1]?=some (.int .i64 ((ia:Int)+1)):=tix a5 a5 (zhh ha); (have hcell:Cp.cells (P.rc (cH P.cs k))=[.int .i64 ((ia:Int)+1 - 1), .int .i64 (cH P.cs k).mx, .int .i64 (cH P.cs k).lo, .int .i64 (cH P.cs k).hi]:=by simp [Cp.cells,Pb.rc,ha]);refine kl ?_;refine jQ (ι:=Nat→Value) (fun u1=>[(1, .pointer (some ⟨g1,0,none⟩)),(4, .pointer (some ⟨g27,0,none⟩)),(191, .slice (some ⟨g,off,none⟩) P.cs.length cap3),(192, .int .i64 (P.cs.length:Int)),(193, .int .i64 (k:Int))]) (fun u1=>[Ent.bag (c7 100 5 P.ds.length ya2 Pr.cells (P.psA P.ps.length)),Ent.bag (c7 104 4 P.ds.length u1 Cp.cells (P.csA (k+1))),Ent.bag (c7 102 5 P.ds.length ya3 Ld.cells (P.inA P.ls.length)),Ent.bag (c7 102 5 P.ds.length yb3 Ld.cells (P.ouA P.ls.length)), .row g27 215 (dc (sV q1 P.ds.length) (fO 512 (dO P.ds P.ds.length)) (fZ P.ds P.ds.length) (sV q3 P.ds.length) (sV q5 P.ds.length) (sV q7 P.ds.length) (sV q9 P.ds.length)), .sl (sV q1 P.ds.length) 3 1 P.ds.length (fm (fun j=> .int .i64 (cH P.ds j).st) (.int .i64 0) P.ds.length P.ds.length), .sl (sV q3 P.ds.length) 23 1 P.ds.length ((List.range P.ds.length).map ya2), .sl (sV q5 P.ds.length) 25 1 P.ds.length ((List.range P.ds.length).map u1), .sl (sV q7 P.ds.length) 24 1 P.ds.length ((List.range P.ds.length).map ya3), .sl (sV q9 P.ds.length) 24 1 P.ds.length ((List.range P.ds.length).map yb3), .row g1 29 [.slice A P.ds.length cap, .slice A1 P.ps.length cap1, .slice A2 P.ls.length cap2, .slice (some ⟨g,off,none⟩) P.cs.length cap3]]) (fun u1=>True) ?_ ?_
       ·skip;refine T.block (de ?_);refine lc ?_; (refine cK (Wt.none) rfl rfl (Ew.alloc) ?_;rintro _ _ ⟨g12,rfl,rfl⟩); (refine dB (Wt.none) rfl (dr 0) ?_;rintro _ _ ⟨rfl,rfl⟩);refine TL.ns ?_;refine T.cut (gs:=[(1, .pointer (some ⟨g1,0,none⟩)),(4, .pointer (some ⟨g27,0,none⟩)),(191, .slice (some ⟨g,off,none⟩) P.cs.length cap3),(192, .int .i64 (P.cs.length:Int)),(193, .int .i64 (k:Int)),(12, .pointer (some ⟨g12,0,none⟩))]) (hs':=[.row g12 104 [.int .i64 ((ia:Int)+1 - 1), .int .i64 ((cH P.cs k).mx), .int .i64 ((cH P.cs k).lo), .int .i64 ((cH P.cs k).hi)],Ent.bag (c7 100 5 P.ds.length ya2 Pr.cells (P.psA P.ps.length)),Ent.bag (c7 104 4 P.ds.length va Cp.cells (P.csA k)),Ent.bag (c7 102 5 P.ds.length ya3 Ld.cells (P.inA P.ls.length)),Ent.bag (c7 102 5 P.ds.length yb3 Ld.cells (P.ouA P.ls.length)), .row g27 215 (dc (sV q1 P.ds.length) (fO 512 (dO P.ds P.ds.length)) (fZ P.ds P.ds.length) (sV q3 P.ds.length) (sV q5 P.ds.length) (sV q7 P.ds.length) (sV q9 P.ds.length)), .sl (sV q1 P.ds.length) 3 1 P.ds.length (fm (fun j=> .int .i64 (cH P.ds j).st) (.int .i64 0) P.ds.length P.ds.length), .sl (sV q3 P.ds.length) 23 1 P.ds.length ((List.range P.ds.length).map ya2), .sl (sV q5 P.ds.length) 25 1 P.ds.length ((List.range P.ds.length).map va), .sl (sV q7 P.ds.length) 24 1 P.ds.length ((List.range P.ds.length).map ya3), .sl (sV q9 P.ds.length) 24 1 P.ds.length ((List.range P.ds.length).map yb3), .row g1 29 [.slice A P.ds.length cap, .slice A1 P.ps.length cap1, .slice A2 P.ls.length cap2, .slice (some ⟨g,off,none⟩) P.cs.length cap3]]) ?_ ?_
        ·skip;refine dT (sN 0 2 (sN 3 2 (.eff 2 (sN 5 4 (.eff 9 .done))))) (List.eraseIdx _ 0) a8 (List.eraseIdx_sublist _ _) ?_;refine q3O ?_;refine gR ?_;refine jc ?_;refine q1t ?_;refine cR rfl (dX rfl rfl rfl (show (cH P.cs k).st=(((cH P.cs k).st.toNat:Nat):Int) from by omega) a5) ?_;refine q2V ?_;refine jc ?_; (refine dx rfl (Wt.none) rfl (dC 0 rfl rfl rfl rfl b4) ?_;rintro _ _ ⟨rfl,rfl⟩;refine ⟨Sx,?_⟩);refine TS.done ?_;exact K.at (by repeat (first|exact Sub.nil|refine Sub.cons rfl ?_)) Sx
        ·skip;refine T.openB 2 ia rfl (zd6 hia) ?_;have hvv:((List.range P.ds.length).map va)[0+ia*1]?=some (va ia):=zfR a5 hia;have hlen:((P.csA k) ia).length≤5000:=Nat.le_trans zcJ a5;refine dT (.still 0 (.still 1 (.still 2 (.still 3 (.still 4 (.still 5 (.still 6 (.still 7 (.still 8 (.still 9 (.still 10 (.still 11 (.still 12 (.still 14 (.two 13 15 (.eff 15 (.eff 16 (.still 17 (.eff 18 .done)))) (.eff 13 (.eff 16 (.still 17 (.eff 18 .done))))))))))))))))))) [.row g12 104 [.int .i64 ((ia:Int)+1 - 1), .int .i64 ((cH P.cs k).mx), .int .i64 ((cH P.cs k).lo), .int .i64 ((cH P.cs k).hi)],Ent.bag (c7 100 5 P.ds.length ya2 Pr.cells (P.psA P.ps.length)),Ent.bag ((c7 104 4 P.ds.length va Cp.cells (P.csA k)).eraseIdx ia),Ent.bag (c7 102 5 P.ds.length ya3 Ld.cells (P.inA P.ls.length)),Ent.bag (c7 102 5 P.ds.length yb3 Ld.cells (P.ouA P.ls.length)), .row g27 215 (dc (sV q1 P.ds.length) (fO 512 (dO P.ds P.ds.length)) (fZ P.ds P.ds.length) (sV q3 P.ds.length) (sV q5 P.ds.length) (sV q7 P.ds.length) (sV q9 P.ds.length)), .sl (sV q1 P.ds.length) 3 1 P.ds.length (fm (fun j=> .int .i64 (cH P.ds j).st) (.int .i64 0) P.ds.length P.ds.length), .sl (sV q3 P.ds.length) 23 1 P.ds.length ((List.range P.ds.length).map ya2), .sl (sV q7 P.ds.length) 24 1 P.ds.length ((List.range P.ds.length).map ya3), .sl (sV q9 P.ds.length) 24 1 P.ds.length ((List.range P.ds.length).map yb3), .row g1 29 [.slice A P.ds.length cap, .slice A1 P.ps.length cap1, .slice A2 P.ls.length cap2, .slice (some ⟨g,off,none⟩) P.cs.length cap3]] a8 Sx ?_;refine i1 ?_;refine cR rfl (cS 5 rfl rfl rfl (lq lP (j:=2))) ?_;refine fY ?_;refine i1 ?_;refine cR rfl (cS 5 rfl rfl rfl (lq lP (j:=2))) ?_;refine fY ?_;refine q0Z ?_;refine q2r ?_;refine TS.two ?_ ?_
         ·skip;refine q3u ?_; (refine c6 rfl (Wt.none) rfl rfl (Ew.buildSlice rfl rfl rfl a6) ?_;rintro _ _ ⟨g221,rfl,rfl⟩;refine ⟨Sx,?_⟩);refine dF ?_; (refine c6 rfl (Wt.none) rfl rfl (Ew.append 1 0 rfl rfl rfl rfl rfl rfl a5 a5) ?_;rintro v222 _ ⟨hv222,rfl⟩;refine ⟨Sx,?_⟩);refine q0Z ?_;refine dF ?_; (refine dx rfl (Wt.none) rfl (fb 10 ((List.range P.ds.length).map (upd va ia v222)) rfl rfl rfl rfl b2 (zdi a5 hia)) ?_;rintro _ _ ⟨rfl,rfl⟩;refine ⟨Sx,?_⟩);refine q2S ?_;exact c4 (upd va ia v222) trivial (by repeat (first|exact Sub.nil|refine Sub.cons rfl ?_)) Sx
         ·skip; (refine c6 rfl (Wt.none) rfl rfl (Ew.buildSlice rfl rfl rfl a6) ?_;rintro _ _ ⟨g221,rfl,rfl⟩;refine ⟨Sx,?_⟩);refine dF ?_;refine ep rfl (Wt.none) rfl rfl (eV 10 rfl rfl rfl hvv) Sx ?_;refine dF ?_; (refine c6 rfl (Wt.none) rfl rfl (Ew.append 1 0 rfl rfl rfl rfl rfl rfl a5 a5) ?_;rintro v222 _ ⟨hv222,rfl⟩;refine ⟨Sx,?_⟩);refine q0Z ?_;refine dF ?_; (refine dx rfl (Wt.none) rfl (fb 10 ((List.range P.ds.length).map (upd va ia v222)) rfl rfl rfl rfl b2 (zdi a5 hia)) ?_;rintro _ _ ⟨rfl,rfl⟩;refine ⟨Sx,?_⟩);refine q2S ?_;exact c4 (upd va ia v222) trivial (by repeat (first|exact Sub.nil|refine Sub.cons rfl ?_)) Sx
       ·skip;intro u1 hphi;refine ed ?_;refine jS ?_;exact K.next (k+1,u1) a9 a9 (by repeat (first|exact Sub.nil|refine Sub.cons rfl ?_)) Sx
      ·have p4:=h4; (try simp only [cV] at p4);refine ff ?_; (obtain rfl:k=P.cs.length:=by omega);exact c4 va trivial (by repeat (first|exact Sub.nil|refine Sub.cons rfl ?_)) Sx
    ·skip;intro y hphi;obtain ⟨ya4,hya⟩:∃z,z=y:=⟨y,rfl⟩;subst hya;refine iA ?_;refine fJ ?_;exact cU rfl rfl (fun w' hw=>⟨g27,q1,q3,q5,q7,q9,ya2,ya3,yb3,ya4,rfl,hw.sub Sx⟩)
def jy (K:Nat)(w:World):World:={ w with heap:=w.heap.mapIdx fun i o=>if i<K then .deferred none else o }
theorem zhT {K:Nat}{w:World}{g:Nat}(h:K≤g):(jy K w).heap[g]?=w.heap[g]?:=by
 unfold jy;rw [Array.getElem?_mapIdx]
 cases w.heap[g]? with
 |none=>rfl
 |some o=>simp;omega
theorem zhZ {K:Nat}{w:World}{g:Nat}(h:i9 (jy K w) g):K≤g:=by
 obtain ⟨cs,t,p,e⟩:=h;rcases Nat.lt_or_ge g K with hk|hk
 ·unfold jy at e;rw [Array.getElem?_mapIdx] at e
  cases hg:w.heap[g]? with
  |none=>rw [hg] at e;cases e
  |some o=>rw [hg] at e;simp [hk] at e
 ·exact hk
@[irreducible] def Ent.fz (w0:World):Ent where
 fp g:=i9 w0 g
 ok w:=Fz w0 w
 loc h k g hg:=(h g hg).trans (k g hg)
 lt h g hg:=by
  have:=h g hg;obtain ⟨cs,t,p,e⟩:=hg;rw [e] at this;exact (Array.getElem?_eq_some_iff.1 this).1
 nd h g hg c:=by
  have:=h g hg;obtain ⟨cs,t,p,e⟩:=hg;rw [this,e];simp
theorem eJ {w0:World}{g:Nat}:(Ent.fz w0).fp g↔i9 w0 g:=by unfold Ent.fz;exact Iff.rfl
theorem eY {w0 w:World}:(Ent.fz w0).ok w↔Fz w0 w:=by unfold Ent.fz;exact Iff.rfl
theorem zlu (l:List Value):l.flatMap (fun u=>[u])=l:=by
 induction l with
 |nil=>rfl
 |cons x r ih=>simp [ih]
structure TbOf (P:Pb) (Y:Tb):Prop where
 st:Y.st=P.ds.map (·.st)
 ix:Y.ix=dO P.ds P.ds.length
 total:Y.total=fZ P.ds P.ds.length
 ps:Y.ps=P.psA P.ps.length
 cs:Y.cs=P.csA P.cs.length
 inn:Y.inn=P.inA P.ls.length
 out:Y.out=P.ouA P.ls.length
theorem zfs {α:Type}{W:World}{tp off q n size:Nat}{e t:TypeId}{enc:α→List Value}(he:∀x,(enc x).length=size){f:Nat→List α}{vv:Nat→Value}(hc:W.cell? ⟨tp,off,none⟩=some (sV q n))(ho:(Ent.sl (sV q n) t 1 n ((List.range n).map vv)).ok W)(hb:(Ent.bag (c7 e size n vv enc f)).ok W):Lists W ⟨tp,off,none⟩ enc size ((List.range n).map vv) n f where
 at':=⟨_,hc,by
  have h1:=cT.1 ho;rw [←zlu ((List.range n).map vv)] at h1
  exact SlOf.own (enc:=fun u=>[u]) (size:=1) (fun _=>rfl) h1 a7⟩
 len:=by simp
 each i hi:=by
  have h1:=(dg.1 hb).1 _ (List.mem_of_getElem? (zd6 hi));have h2:=SlOf.own he (cT.1 h1) rfl;rw [show cH ((List.range n).map vv) i=vv i from by simp [cH,hi]];exact h2
theorem zit {P : Pb} {w w' : World} {g27 q1 q3 q5 q7 q9 : Nat} {ya2 ya3 yb3 ya4 : Nat → Value} (hw : Hp w (fun _ => False) [Ent.bag (c7 100 5 P.ds.length ya2 Pr.cells (P.psA P.ps.length)), Ent.bag (c7 104 4 P.ds.length ya4 Cp.cells (P.csA P.cs.length)), Ent.bag (c7 102 5 P.ds.length ya3 Ld.cells (P.inA P.ls.length)), Ent.bag (c7 102 5 P.ds.length yb3 Ld.cells (P.ouA P.ls.length)), .row g27 215 (dc (sV q1 P.ds.length) (fO 512 (dO P.ds P.ds.length)) (fZ P.ds P.ds.length) (sV q3 P.ds.length) (sV q5 P.ds.length) (sV q7 P.ds.length) (sV q9 P.ds.length)), .sl (sV q1 P.ds.length) 3 1 P.ds.length (fm (fun j => .int .i64 (cH P.ds j).st) (.int .i64 0) P.ds.length P.ds.length), .sl (sV q3 P.ds.length) 23 1 P.ds.length ((List.range P.ds.length).map ya2), .sl (sV q5 P.ds.length) 25 1 P.ds.length ((List.range P.ds.length).map ya4), .sl (sV q7 P.ds.length) 24 1 P.ds.length ((List.range P.ds.length).map ya3), .sl (sV q9 P.ds.length) 24 1 P.ds.length ((List.range P.ds.length).map yb3)] w') :
    ∃ Y w0, TbOf P Y ∧ TablesAt w0 g27 Y ∧ Hp w (fun _ => False) [Ent.fz w0] w' := by
  have hok : ∀ e ∈ [Ent.bag (c7 100 5 P.ds.length ya2 Pr.cells (P.psA P.ps.length)), Ent.bag (c7 104 4 P.ds.length ya4 Cp.cells (P.csA P.cs.length)), Ent.bag (c7 102 5 P.ds.length ya3 Ld.cells (P.inA P.ls.length)), Ent.bag (c7 102 5 P.ds.length yb3 Ld.cells (P.ouA P.ls.length)), .row g27 215 (dc (sV q1 P.ds.length) (fO 512 (dO P.ds P.ds.length)) (fZ P.ds P.ds.length) (sV q3 P.ds.length) (sV q5 P.ds.length) (sV q7 P.ds.length) (sV q9 P.ds.length)), .sl (sV q1 P.ds.length) 3 1 P.ds.length (fm (fun j => .int .i64 (cH P.ds j).st) (.int .i64 0) P.ds.length P.ds.length), .sl (sV q3 P.ds.length) 23 1 P.ds.length ((List.range P.ds.length).map ya2), .sl (sV q5 P.ds.length) 25 1 P.ds.length ((List.range P.ds.length).map ya4), .sl (sV q7 P.ds.length) 24 1 P.ds.length ((List.range P.ds.length).map ya3), .sl (sV q9 P.ds.length) 24 1 P.ds.length ((List.range P.ds.length).map yb3)], e.ok (jy w.heap.size w') := fun e he => e.loc (fun g hg => by
    rcases hw.new e he g hg with h | h
    · exact h.elim
    · exact zhT h) (hw.own e he)
  have hrow := cW.1 (hok _ (List.mem_of_getElem? (i := 4) rfl)); have hst := cT.1 (hok _ (List.mem_of_getElem? (i := 5) rfl)); rw [zhw (fun d : Dx => d.st) (fun _ => rfl) rfl] at hst; have hix := lP (N := 512) (f := dO P.ds P.ds.length); (have e1 : (P.ds.map fun d : Dx => d.st).length = P.ds.length := by simp); refine ⟨⟨P.ds.map (·.st), dO P.ds P.ds.length, fZ P.ds P.ds.length, (List.range P.ds.length).map ya2, P.psA P.ps.length, (List.range P.ds.length).map ya4, P.csA P.cs.length, (List.range P.ds.length).map ya3, P.inA P.ls.length, (List.range P.ds.length).map yb3, P.ouA P.ls.length⟩, jy w.heap.size w', ⟨rfl, rfl, rfl, rfl, rfl, rfl, rfl⟩, ⟨?_, ?_, ?_, ?_, ?_, ?_, ?_⟩, ?_⟩
  · exact ⟨_, by rw [ja hrow]; rfl, SlOf.own (enc := Ie) (size := 1) (fun _ => rfl) hst a7⟩
  · intro j hj; rw [ja hrow, zhU hix hj rfl, zgr rfl hj]
  · rw [ja hrow, lq hix (j := 0) rfl]; rfl
  · have := zfs (enc := Pr.cells) (fun _ => rfl) (tp := g27) (off := 514) (by rw [ja hrow, lq hix (j := 1) rfl]; rfl) (hok _ (List.mem_of_getElem? (i := 6) rfl)) (hok _ (List.mem_of_getElem? (i := 0) rfl)); simpa [Tb.n] using this
  · have := zfs (enc := Cp.cells) (fun _ => rfl) (tp := g27) (off := 515) (by rw [ja hrow, lq hix (j := 2) rfl]; rfl) (hok _ (List.mem_of_getElem? (i := 7) rfl)) (hok _ (List.mem_of_getElem? (i := 1) rfl)); simpa [Tb.n] using this
  · have := zfs (enc := Ld.cells) (fun _ => rfl) (tp := g27) (off := 516) (by rw [ja hrow, lq hix (j := 3) rfl]; rfl) (hok _ (List.mem_of_getElem? (i := 8) rfl)) (hok _ (List.mem_of_getElem? (i := 2) rfl)); simpa [Tb.n] using this
  · have := zfs (enc := Ld.cells) (fun _ => rfl) (tp := g27) (off := 517) (by rw [ja hrow, lq hix (j := 4) rfl]; rfl) (hok _ (List.mem_of_getElem? (i := 9) rfl)) (hok _ (List.mem_of_getElem? (i := 3) rfl)); simpa [Tb.n] using this
  · refine ⟨hw.os, hw.tape, hw.output, hw.size, hw.base, fun e he => ?_, fun e he g hg => ?_, List.pairwise_singleton _ _⟩
    · rw [List.mem_singleton.1 he]; exact eY.2 fun g hg => (zhT (zhZ hg)).symm
    · rw [List.mem_singleton.1 he] at hg; exact .inr (zhZ (eJ.1 hg))
theorem ziD (P:Pb)(vd vp vl vc:Value)(w:World)(h:ProbAt w vd vp vl vc P)(hok:P.ok=true):Calls Tryz.prog 141 #[.agg [vd,vp,vl,vc].toArray] w fun e w'=>∃y:Nat×Tb×World,(TbOf P y.2.1∧TablesAt y.2.2 y.1 y.2.1)∧e= .returned (.pointer (some ⟨y.1,0,none⟩))∧Hp w (fun _=>False) [Ent.fz y.2.2] w':=
 (zir P vd vp vl vc w h hok).mono fun e w' ⟨g27,q1,q3,q5,q7,q9,ya2,ya3,yb3,ya4,he,hw⟩=>by
  obtain ⟨Y,w0,h1,h2,h3⟩:=zit hw;exact ⟨(g27,Y,w0),⟨h1,h2⟩,he,h3⟩
theorem iM {P:Pb}{j:Nat}{x:Pr}:x∈P.psA P.ps.length j↔(∃y∈P.ps,P.rp y=x)∧(x.a=(j:Int)∨x.b=(j:Int)):=by
 unfold Pb.psA;rw [List.take_length,List.mem_filter,List.mem_map];simp
theorem jJ {P:Pb}{j:Nat}{x:Ld}:x∈P.inA P.ls.length j↔(∃y∈P.ls,P.rl y=x)∧x.to=(j:Int):=by
 unfold Pb.inA;rw [List.take_length,List.mem_filter,List.mem_map];simp
theorem jI {P:Pb}{j:Nat}{x:Ld}:x∈P.ouA P.ls.length j↔(∃y∈P.ls,P.rl y=x)∧x.fr=(j:Int):=by
 unfold Pb.ouA;rw [List.take_length,List.mem_filter,List.mem_map];simp
theorem mem_csA {P:Pb}{j:Nat}{x:Cp}:x∈P.csA P.cs.length j↔(∃y∈P.cs,P.rc y=x)∧x.st=(j:Int):=by
 unfold Pb.csA;rw [List.take_length,List.mem_filter,List.mem_map];simp
theorem zi3 {P:Pb}(hG:P.Good){y:Pr}(hy:y∈P.ps):0≤(P.rp y).a∧(P.rp y).a<P.ds.length∧0≤(P.rp y).b∧(P.rp y).b<P.ds.length∧(P.rp y).a≠(P.rp y).b∧ -1≤y.off∧y.off≤1∧2≤y.lo∧y.lo≤y.hi∧y.hi≤51:=by
 obtain ⟨ho,⟨ia,hia,hea⟩,ib,hib,heb⟩:=hG.ps y hy;simp only [Pr.ok,inB,ij,Bool.and_eq_true,decide_eq_true_eq] at ho; (have h1:(P.rp y).a=(ia:Int):=by show P.ix y.a=_;rw [hea];exact ey hG hia); (have h2:(P.rp y).b=(ib:Int):=by show P.ix y.b=_;rw [heb];exact ey hG hib); (have h3:ia≠ib:=by rintro rfl;omega);omega
theorem zft {P:Pb}(hG:P.Good){y:Ld}(hy:y∈P.ls):0≤(P.rl y).to∧(P.rl y).to<P.ds.length∧0≤(P.rl y).fr∧(P.rl y).fr<P.ds.length∧(P.rl y).to≠(P.rl y).fr∧1≤y.wt∧y.wt≤1073741824∧2≤y.lo∧y.lo≤y.hi∧y.hi≤51:=by
 obtain ⟨ho,⟨ia,hia,hea⟩,ib,hib,heb⟩:=hG.ls y hy;simp only [Ld.ok,inB,ij,Bool.and_eq_true,decide_eq_true_eq] at ho; (have h1:(P.rl y).to=(ia:Int):=by show P.ix y.to=_;rw [hea];exact ey hG hia); (have h2:(P.rl y).fr=(ib:Int):=by show P.ix y.fr=_;rw [heb];exact ey hG hib); (have h3:ia≠ib:=by rintro rfl;exact ho.2.2.1 (by rw [hea,heb]));omega
theorem TbOf.ok {P:Pb}{Y:Tb}(hG:P.Good)(h:TbOf P Y):Y.Ok:=by
 (have hn:Y.n=P.ds.length:=by unfold Tb.n;rw [h.st];simp);have l1:=hG.lps;have l2:=hG.lls;have l3:=hG.lcs;refine ⟨by rw [hn];exact hG.n,fun i hi=>⟨?_,fun x hx=>?_⟩,fun i hi=>⟨?_,fun x hx=>?_⟩,fun i hi=>⟨?_,fun x hx=>?_⟩,fun i hi x hx=>?_,fun i hi x hx=>?_,fun i hi x hx=>?_,fun i hi=>⟨?_,fun x hx=>?_⟩⟩
 ·rw [h.ps];exact Nat.le_trans zcJ l1
 ·rw [h.ps] at hx;obtain ⟨⟨y,hy,rfl⟩,hj⟩:=iM.1 hx;have:=zi3 hG hy;rw [hn];exact ⟨this.1,this.2.1,this.2.2.1,this.2.2.2.1,this.2.2.2.2.2.1,this.2.2.2.2.2.2.1,this.2.2.2.2.2.2.2.1,this.2.2.2.2.2.2.2.2.1,this.2.2.2.2.2.2.2.2.2,hj⟩
 ·rw [h.cs];exact Nat.le_trans zcJ l3
 ·rw [h.cs] at hx;obtain ⟨⟨y,hy,rfl⟩,hj⟩:=mem_csA.1 hx;have ho:=(hG.cs y hy).1;simp only [Cp.ok,inB,ij,Bool.and_eq_true,decide_eq_true_eq] at ho
  show 0≤y.mx∧y.mx≤_∧2≤y.lo∧y.lo≤y.hi∧y.hi≤51
  omega
 ·rw [h.inn];exact Nat.le_trans zcJ l2
 ·rw [h.inn] at hx;obtain ⟨⟨y,hy,rfl⟩,hj⟩:=jJ.1 hx;have:=zft hG hy;rw [hn];exact ⟨hj,this.2.2.1,this.2.2.2.1,this.2.2.2.2.2⟩
 ·rw [h.ps] at hx ⊢;obtain ⟨⟨y,hy,rfl⟩,hj⟩:=iM.1 hx;have:=zi3 hG hy;exact ⟨this.2.2.2.2.1,iM.2 ⟨⟨y,hy,rfl⟩, .inl a5⟩,iM.2 ⟨⟨y,hy,rfl⟩, .inr a5⟩⟩
 ·rw [h.inn] at hx;rw [h.out];obtain ⟨⟨y,hy,rfl⟩,hj⟩:=jJ.1 hx;have:=zft hG hy;exact ⟨this.2.2.2.2.1,jI.2 ⟨⟨y,hy,rfl⟩,by omega⟩⟩
 ·rw [h.out] at hx;rw [h.inn];obtain ⟨⟨y,hy,rfl⟩,hj⟩:=jI.1 hx;have:=zft hG hy;exact ⟨this.2.2.2.2.1,jJ.2 ⟨⟨y,hy,rfl⟩,by omega⟩⟩
 ·rw [h.out];exact Nat.le_trans zcJ l2
 ·rw [h.out] at hx;obtain ⟨⟨y,hy,rfl⟩,hj⟩:=jI.1 hx;have:=zft hG hy;rw [hn];exact ⟨hj,this.1,this.2.1,this.2.2.2.2.2⟩
end Go.Proofs.YtogbggmckmnlfaaGreatDoor
