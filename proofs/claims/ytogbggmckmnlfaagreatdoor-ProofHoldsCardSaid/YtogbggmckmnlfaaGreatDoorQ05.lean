/- E F G G2 H1 Pn: shortened and put together by squeeze.py. -/
import Derived.Test.YtogbggmckmnlfaaGreatDoorQ04
set_option maxRecDepth 100000
set_option maxHeartbeats 4000000
set_option linter.unusedVariables false
set_option linter.unusedSectionVars false
set_option linter.unusedSimpArgs false
namespace Go.Proofs.YtogbggmckmnlfaaGreatDoor
open Go.RowKit
theorem cI {p:Prop}(h:p:=by rw [zfq (by omega)];omega):p:=h
theorem b7 {p:Prop}(h:p:=by rw [List.length_map,lX]):p:=h
def kZ (ws:Ws)(k:Nat):Nat:=((ws.take k).map zmG).sum
theorem ziQ {ws:Ws}{k:Nat}(h:k<ws.length):kZ ws (k+1)=kZ ws k+zmG (cK ws k):=by
 unfold kZ;rw [List.take_succ_eq_append_getElem h,dQ h,List.map_append,List.sum_append];simp
theorem zjG (ws:Ws):∀k,kZ ws k≤127*k
 |0=>by simp [kZ]
 |k+1=>by
  have:=zjG ws k;rcases Nat.lt_or_ge k ws.length with h|h
  ·rw [ziQ h];have:=zkA (cK ws k);omega
  ·unfold kZ at *;rw [List.take_of_length_le a5] at *;omega
@[irreducible] def fv (ws:Ws) (i:Nat):List Nat:=(List.range' i (512 - i)).filter (eO ws)
abbrev fu (ws:Ws):List Nat:=fv ws 0
def zjb:List Nat→Int
 | []=> -1
 |x :: _=>(x:Int)
theorem zg6 {ws:Ws}{i:Nat}(h:∀j,i≤j→j<512→eO ws j=false):fv ws i=[]:=by
 unfold fv;rw [List.filter_eq_nil_iff];intro j hj;obtain ⟨h1,h2⟩:=List.mem_range'_1.1 hj;rw [h j h1 a5];simp
theorem ziL {ws:Ws}{i r:Nat}(hi:i≤r)(hr:r<512)(hb:eO ws r=true)(h:∀j,i≤j→j<r→eO ws j=false):fv ws i=r :: fv ws (r+1):=by
 unfold fv
 have e:List.range' i (512 - i)=List.range' i (r - i)++(r :: List.range' (r+1) (512 - (r+1))):=by
  rw [show r :: List.range' (r+1) (512 - (r+1))=List.range' r (512 - r) from by rw [show 512 - r=(512 - (r+1))+1 by omega,List.range'_succ]];have:=List.range'_append (s:=i) (m:=r - i) (n:=512 - r) (step:=1);rw [Nat.one_mul,show i+(r - i)=r by omega,show r - i+(512 - r)=512 - i by omega] at this;exact this.symm
 rw [e,List.filter_append,List.filter_cons_of_pos (by simpa using hb)]
 have:(List.range' i (r - i)).filter (eO ws)=[]:=by
  rw [List.filter_eq_nil_iff];intro j hj;obtain ⟨h1,h2⟩:=List.mem_range'_1.1 hj;rw [h j h1 a5];simp
 rw [this];rfl
theorem f9 {ws:Ws}{i j:Nat}:j∈fv ws i↔i≤j∧j<512∧eO ws j=true:=by
 unfold fv;rw [List.mem_filter,List.mem_range'_1];constructor
 ·rintro ⟨⟨h1,h2⟩,h3⟩;exact ⟨h1,by omega,h3⟩
 ·rintro ⟨h1,h2,h3⟩;exact ⟨⟨h1,by omega⟩,h3⟩
theorem zlv {ws:Ws}{i h:Nat}{t:List Nat}(e:fv ws i=h :: t):i≤h∧h<512∧t=fv ws (h+1):=by
 have hm:=f9.1 (show h∈fv ws i by rw [e];simp)
 have hs:fv ws i=h :: fv ws (h+1):=ziL hm.1 hm.2.1 hm.2.2 (fun j h1 h2=>by
  cases hb:eO ws j with
  |false=>rfl
  |true=>
   have hj:j∈fv ws i:=f9.2 ⟨h1,by omega,hb⟩; (have hsort:(fv ws i).Pairwise (· < ·):=by unfold fv;exact List.Pairwise.filter _ List.pairwise_lt_range');rw [e] at hj hsort;rcases List.mem_cons.1 hj with hj|hj
   ·omega
   ·have:=(List.pairwise_cons.1 hsort).1 j hj;omega)
 rw [e] at hs;exact ⟨hm.1,hm.2.1,(List.cons.inj hs).2⟩
theorem zgC (ws:Ws)(i:Nat):(fv ws i).length≤512:=by
 unfold fv;have:=List.length_filter_le (eO ws) (List.range' i (512 - i));rw [List.length_range'] at this;omega
theorem zph (a:BitVec 64)(k j:Nat)(hj:j<64):((a >>> k) <<< k).getLsbD j=(a.getLsbD j&&decide (k≤j)):=by
 rw [BitVec.getLsbD_shiftLeft,BitVec.getLsbD_ushiftRight];by_cases h:j<k
 ·simp [h]
 ·rw [show k+(j - k)=j by omega];simp [hj,h];intro _;omega
structure NxInv (ws:Ws) (i at':Nat) (b:BitVec 64):Prop where
 lt:at'<8
 ge:i<64* (at'+1)
 bit:∀j,j<64→b.getLsbD j=(eO ws (64*at'+j)&&decide (i≤64*at'+j))
 none:∀j,i≤j→j<64*at'→eO ws j=false
theorem NxInv.start {ws:Ws}{i:Nat}(hi:i<512):NxInv ws i (i / 64) ((cK ws (i / 64) >>> (i % 64)) <<< (i % 64)) where
 lt:=by omega
 ge:=by omega
 bit j hj:=by
  rw [zph _ _ _ hj];unfold eO;rw [show (64* (i / 64)+j) / 64=i / 64 by omega,show (64* (i / 64)+j) % 64=j by omega]
  congr 1
  exact decide_eq_decide.2 a5
 none j h1 h2:=by omega
theorem NxInv.next {ws:Ws}{i a:Nat}(h:NxInv ws i a 0#64)(ha:a+1<8):NxInv ws i (a+1) (cK ws (a+1)) where
 lt:=ha
 ge:=by have:=h.ge;omega
 bit j hj:=by
  have:=h.ge;unfold eO;rw [show (64* (a+1)+j) / 64=a+1 by omega,show (64* (a+1)+j) % 64=j by omega,decide_eq_true a5,Bool.and_true]
 none j h1 h2:=by
  rcases Nat.lt_or_ge j (64*a) with hj|hj
  ·exact h.none j h1 hj
  ·have:=h.bit (j - 64*a) a5;rw [show 64*a+(j - 64*a)=j by omega,decide_eq_true h1,Bool.and_true,BitVec.getLsbD_zero] at this;exact this.symm
theorem NxInv.found {ws:Ws}{i a:Nat}{b:BitVec 64}(h:NxInv ws i a b)(hb:b≠0#64):fv ws i=(64*a+ctz b) :: fv ws (64*a+ctz b+1):=by
 have hc:=ziE hb;have h1:=(zg2 hb 0).1;rw [h.bit _ hc] at h1;simp only [Bool.and_eq_true,decide_eq_true_eq] at h1;have:=h.lt;refine ziL h1.2 a5 h1.1 (fun j hi hj=>?_);rcases Nat.lt_or_ge j (64*a) with hj2|hj2
 ·exact h.none j hi hj2
 ·have h2:=(zg2 hb (j - 64*a)).2 a5;rw [h.bit _ a5,show 64*a+(j - 64*a)=j by omega,decide_eq_true hi,Bool.and_true] at h2;exact h2
theorem NxInv.over {ws:Ws}{i a:Nat}(h:NxInv ws i a 0#64)(ha:a+1=8):fv ws i=[]:=zg6 fun j h1 h2=>by
 rcases Nat.lt_or_ge j (64*a) with hj2|hj2
 ·exact h.none j h1 hj2
 ·have h3:=h.bit (j - 64*a) a5;rw [show 64*a+(j - 64*a)=j by omega,decide_eq_true h1,Bool.and_true,BitVec.getLsbD_zero] at h3;exact h3.symm
theorem zji (ws:Ws):∀(k i:Nat),k<(fv ws i).length→fv ws (cK (fv ws i) k+1)=(fv ws i).drop (k+1)
 |k,i,hk=>by
  cases e:fv ws i with
  |nil=>rw [e] at hk;simp at hk
  |cons h t=>
   obtain ⟨h1,h2,h3⟩:=zlv e
   cases k with
   |zero=>simp [cK,h3]
   |succ k=>
    rw [e] at hk;subst h3;have:=zji ws k (h+1) (by simpa using hk);simpa [cK] using this
theorem zhQ {xs:List Nat}{k:Nat}(h:k<xs.length):zjb (xs.drop k)=((cK xs k:Nat):Int):=by
 rw [List.drop_eq_getElem_cons h,dQ h];rfl
theorem zmi {xs:List Nat}{k:Nat}(h:zjb (xs.drop k)<0):xs.length≤k:=by
 rcases Nat.lt_or_ge k xs.length with hk|hk
 ·rw [zhQ hk] at h;omega
 ·exact hk
theorem zmN {xs:List Nat}{k:Nat}(h:0≤zjb (xs.drop k)):k<xs.length:=by
 rcases Nat.lt_or_ge k xs.length with hk|hk
 ·exact hk
 ·rw [List.drop_eq_nil_of_le hk] at h;simp [zjb] at h
theorem zoM {α:Type}[Inhabited α]{xs:List α}{k:Nat}(h:k<xs.length):xs[k]?=some (cK xs k):=by rw [dQ h];exact List.getElem?_eq_getElem h
theorem zoF {α:Type}[Inhabited α]{xs:List α}{k:Nat}{x:α}(h:xs[k]?=some x):k<xs.length∧x=cK xs k:=by
 obtain ⟨h1,h2⟩:=List.getElem?_eq_some_iff.1 h;exact ⟨h1,by rw [dQ h1,h2]⟩
def jF (l:List Nat):List Value:=l.map fun j:Nat=> .int .i64 (j:Int)
theorem zlV {l:List Nat}{k:Nat}(h:k<l.length):jF (l.take (k+1))=jF (l.take k)++[.int .i64 ((cK l k:Nat):Int)]:=by
 unfold jF;rw [List.take_succ_eq_append_getElem h,dQ h,List.map_append];rfl
@[irreducible] def dC (m:BitVec 64):List Nat:=(List.range' 0 64).filter m.getLsbD
theorem zof (ws:Ws)(hws:ws.length=8)(w:World):Calls Tryz.prog 165 #[.agg ws.cells.toArray] w fun e w'=>e= .returned (.int .i64 (kZ ws 8:Int))∧Below w.heap.size w w':=by
 refine dv (M:=fun _=>False) (hs:=[]) Tryz.func165 rfl rfl rfl (Hp.refl _ _) ?_;refine dq ?_; (refine cO (Wt.none) rfl rfl (dI) ?_;rintro _ _ ⟨g1,rfl,rfl⟩);refine ig ?_;refine jN ?_;refine fC ?_;refine q2Q ?_;refine df ?_;refine db (T.block ?_);refine T.loop (ι:=Nat) (fun k=>[(3, .int .i64 (kZ ws k:Int)),(7, .agg ws.cells.toArray),(8, .int .i64 (k:Int))]) (fun k=>[]) (fun k=>k≤8) (fun k=>8 - k) 0 ?_ ?_ ?_ ?_
 ·omega
 ·exact (by repeat (first|exact Sub.nil|refine Sub.cons rfl ?_))
 ·exact Sx
 ·intro k hphi;have hle:=zjG ws k;refine fh ?_;refine T.cond rfl (fun h1=>?_) (fun h1=>?_)
  ·have p1:=h1; (try simp only [cY] at p1);have hld:=Ws.get (ws:=ws) (i:=k) (p:=k) a5 rfl;have hp8:=zkA (cK ws k);refine fS ?_;refine cM (nY rfl rfl rfl rfl a5 hld) ?_;refine df ?_;refine db (T.region ?_);refine eg ?_; (refine cO (Wt.none) rfl rfl (cN rfl rfl rfl (fun w hw=>zny _ w)) ?_;rintro _ _ ⟨rfl,rfl⟩);refine q0d ?_;refine df ?_;refine kA ?_;exact K.next (k+1) a5 a5 (by repeat (first|exact Sub.nil|refine Sub.cons rfl ?_|(refine fb rfl (by rw [ziQ a5];omega) ?_))) Sx
  ·have p1:=h1; (try simp only [cY] at p1);refine q04 ?_;refine kv ?_;exact cZ rfl rfl (fun w' hw=>⟨zc9 (by rw [show k=8 by omega]),hw.isBelow⟩)
theorem zou (ws:Ws)(hws:ws.length=8)(i:Nat)(hi:i<512)(w:World):Calls Tryz.prog 168 #[.agg ws.cells.toArray, .int .i64 (i:Int)] w fun e w'=>e= .returned (.tuple #[.agg (Ws.cells (dX ws i)).toArray, .int .i64 0])∧Below w.heap.size w w':=by
 have hld:=Ws.get (ws:=ws) (i:=i / 64) (p:=0+0+i / 64*1) a5 a5;refine dv (M:=fun _=>False) (hs:=[]) Tryz.func168 rfl rfl rfl (Hp.refl _ _) ?_;refine dq ?_; (refine cO (Wt.none) rfl rfl (dI) ?_;rintro _ _ ⟨g2,rfl,rfl⟩); (refine cO (Wt.none) rfl rfl (Ew.alloc) ?_;rintro _ _ ⟨g4,rfl,rfl⟩);refine no ?_; (refine cO (Wt.none) rfl rfl (cN rfl rfl rfl (fun w hw=>zfc _ _)) ?_;rintro _ _ ⟨rfl,rfl⟩);refine dB ?_;refine iP rfl (by rw [inB,decide_eq_true (show (0:Int)≤(i:Int) by omega),decide_eq_true (show (i:Int)≤511 by omega)];rfl) ?_;refine jM ?_;refine dM (sN 0 4 (sN 5 3 (.still 9 (.eff 4 (.still 8 (.still 10 (.eff 11 .done))))))) [.row g4 83 (Ws.cells fL)] a7 Sx ?_;refine fF ?_;refine cT rfl (ke rfl rfl rfl a5) ?_;refine gr ?_;refine cT rfl (d9 rfl rfl rfl (show (i:Int) / 64=((i / 64:Nat):Int) from by omega) a5) ?_;refine fF ?_;refine cT rfl (jC rfl rfl rfl a5) ?_;refine cT rfl (im (a:=1#64) (i % 64) rfl rfl rfl a5 a5) ?_;refine lB ?_;refine eQ rfl (Wt.none) rfl rfl (c9 1 rfl rfl rfl hld) Sx ?_;refine cT rfl (jf) ?_;refine cT rfl (d9 rfl rfl rfl (show (i:Int) / 64=((i / 64:Nat):Int) from by omega) a5) ?_;refine dD ?_; (refine dL rfl (Wt.none) rfl (iI 1 (Ws.cells (dX ws i)) rfl rfl rfl rfl (by rw [List.length_map,hws];omega) (Ws.put a5)) ?_;rintro _ _ ⟨rfl,rfl⟩;refine ⟨Sx,?_⟩);refine fQ ?_;refine K.seq (dq ?_);refine cM (d7 1 rfl rfl rfl (by rw [List.length_map,lY,hws])) ?_; (refine dN (Wt.none) rfl (dx 0 rfl rfl rfl rfl (by rw [List.length_map,lY,hws]) (by rw [List.length_map,lY,hws];rfl)) ?_;rintro _ _ ⟨rfl,rfl⟩);refine fO ?_;exact iT 0 rfl rfl rfl rfl (by rw [List.length_map,lY,hws]) (fun w' hw=>⟨rfl,hw.isBelow⟩)
theorem zko (ws:Ws)(hws:ws.length=8)(i:Nat)(z:Int)(hz:z=(i:Int))(w:World)(ht:Tab w):Calls Tryz.prog 179 #[.agg ws.cells.toArray, .int .i64 z] w fun e w'=>e= .returned (.int .i64 (zjb (fv ws i)))∧Below w.heap.size w w':=by
 subst hz;refine dv (M:=fun _=>False) (hs:=[]) Tryz.func179 rfl rfl rfl (Hp.refl _ _) ?_;refine dq ?_; (refine cO (Wt.none) rfl rfl (dI) ?_;rintro _ _ ⟨g2,rfl,rfl⟩);refine jN ?_;refine jB ?_;refine iP rfl (decide_eq_false a5) ?_;refine ka ?_;refine jB ?_;refine T.cond rfl (fun h1=>?_) (fun h1=>?_)
 ·have p1:=h1; (try simp only [cY] at p1);refine iN ?_;exact cZ rfl rfl (fun w' hw=>⟨zc9 (by rw [zg6 (fun j h1 h2=>by omega)];rfl),hw.isBelow⟩)
 ·have p1:=h1; (try simp only [cY] at p1);have hld:=Ws.get (ws:=ws) (i:=i / 64) (p:=0+0+i / 64*1) a5 a5;refine i7 ?_;refine df ?_;refine cM (ke rfl rfl rfl a5) ?_;refine li ?_;refine fC ?_;refine cM (d9 rfl rfl rfl (show (i:Int) / 64=((i / 64:Nat):Int) from by omega) a5) ?_;refine cM (c9 0 rfl rfl rfl hld) ?_;refine df ?_;refine cM (jC rfl rfl rfl a5) ?_;refine cM (gn (i % 64) rfl rfl rfl a5 a5) ?_;refine df ?_;refine cM (jC rfl rfl rfl a5) ?_;refine cM (im (i % 64) rfl rfl rfl a5 a5) ?_;refine df ?_;refine db (T.seq (T.block ?_));refine T.loop (ι:=Nat×BitVec 64) (fun x=>[(2, .pointer (some ⟨g2,0,none⟩)),(5, .int .i64 (x.1:Int)),(6,U x.2)]) (fun x=>[.row g2 83 ws.cells]) (fun x=>NxInv ws i x.1 x.2) (fun x=>8 - x.1) (i / 64,(cK ws (i / 64) >>> (i % 64)) <<< (i % 64)) ?_ ?_ ?_ ?_
  ·exact NxInv.start a5
  ·exact (by repeat (first|exact Sub.nil|refine Sub.cons rfl ?_|(refine fb rfl a5 ?_)))
  ·exact Sx
  ·intro x hphi;obtain ⟨a,b⟩:=x;dsimp only at hphi ⊢;have hlt0:=hphi.lt;refine lE ?_;refine jB ?_;refine T.cond rfl (fun h2=>?_) (fun h2=>?_)
   ·have p2:=h2; (try simp only [cY] at p2); (have hb0:b=0#64:=by rw [zok] at h2;exact of_decide_eq_true h2);subst hb0;refine T.skip (K.seq (T.block (dq ?_)));refine df ?_;refine q0d ?_;refine jN ?_;refine jB ?_;refine T.cond rfl (fun h3=>?_) (fun h3=>?_)
    ·have p3:=h3; (try simp only [cY] at p3);refine gu ?_;refine db (T.ret (d6 (fm (d6 (fm (d6 ?_))))));exact cZ rfl rfl (fun w' hw=>⟨zc9 (by rw [hphi.over a5];rfl),hw.isBelow⟩)
    ·have p3:=h3; (try simp only [cY] at p3);have hlt8:=hphi.lt;have hld:=Ws.get (ws:=ws) (i:=a+1) (p:=0+0+(a+1) *1) a5 a5;refine T.skip (K.seq (T.region ?_));refine df ?_;refine fC ?_;refine cM (d9 rfl rfl rfl (show (a:Int)+1=((a+1:Nat):Int) from by omega) a5) ?_;refine cM (c9 0 rfl rfl rfl hld) ?_;refine df ?_;refine TL.nil (gB ?_);exact K.next (a+1,cK ws (a+1)) (hphi.next a5) (by show 8 - (a+1)<8 - a;omega) (by repeat (first|exact Sub.nil|refine Sub.cons rfl ?_|(refine fb rfl a5 ?_))) Sx
   ·have p2:=h2; (try simp only [cY] at p2); (have hb0:b≠0#64:=by rw [zok] at h2;exact of_decide_eq_false h2);have hcz:=ziE hb0;have hlt8:=hphi.lt;refine q04 ?_;refine df ?_;refine cM (Yv.cv rfl rfl rfl a5) ?_;refine df ?_; (refine cO (Wt.none) rfl rfl (cN rfl rfl rfl (fun w hw=>zn4 b hb0 w (ht.keptF hw))) ?_;rintro _ _ ⟨rfl,rfl⟩);refine q0d ?_;refine fO ?_;exact cZ rfl rfl (fun w' hw=>⟨zc9 (by rw [hphi.found hb0];simp only [zjb];omega),hw.isBelow⟩)
theorem zoY (ws:Ws)(hws:ws.length=8)(w:World)(ht:Tab w):Calls Tryz.prog 178 #[.agg ws.cells.toArray] w fun e w'=>e= .returned (.int .i64 (zjb (fu ws)))∧Below w.heap.size w w':=by
 refine dv (M:=fun _=>False) (hs:=[]) Tryz.func178 rfl rfl rfl (Hp.refl _ _) ?_;refine dq ?_; (refine cO (Wt.none) rfl rfl (dI) ?_;rintro _ _ ⟨g1,rfl,rfl⟩);refine ig ?_;refine q2Q ?_; (refine cO (Wt.none) rfl rfl (cN rfl rfl rfl (fun w hw=>zko ws hws 0 0 rfl w (ht.keptF hw))) ?_;rintro _ _ ⟨rfl,rfl⟩);refine fO ?_;refine cZ rfl rfl (fun w' hw=>⟨?_,hw.isBelow⟩)
 rfl
theorem zoR (ws:Ws)(hws:ws.length=8)(w:World):Calls Tryz.prog 166 #[.agg ws.cells.toArray] w fun e w'=>∃x:Nat,True∧e= .returned (.func (.func 177) #[] #[.pointer (some ⟨x,0,none⟩)])∧Hp w (fun _=>False) [.row x 83 ws.cells] w':=by
 refine dv (M:=fun _=>False) (hs:=[]) Tryz.func166 rfl rfl rfl (Hp.refl _ _) ?_;refine dq ?_; (refine cO (Wt.none) rfl rfl (dI) ?_;rintro _ _ ⟨g1,rfl,rfl⟩);refine ig ?_;refine kv ?_;exact cZ rfl rfl (fun w' hw=>⟨g1,trivial,rfl,hw⟩)
theorem znj (ws:Ws)(hws:ws.length=8)(p:Nat)(B:World)(M:Nat→Prop)(ht:Tab B)(hM0:¬M 0):IterAt Tryz.prog 177 [.pointer (some ⟨p,0,none⟩)] (fun j:Nat=>[.int .i64 (j:Int)]) (fu ws) [.row p 83 ws.cells] B M:=by
 intro G Z l W g0 hy hG0 hW;refine zkQ (B:=B) (M:=M) Tryz.func177 rfl rfl rfl hW ?_;refine dq ?_;refine q2Q ?_; (refine cO (Wt.none) rfl rfl (cN rfl rfl rfl (fun w hw=>zoY ws hws w (ht.kept hw hM0))) ?_;rintro _ _ ⟨rfl,rfl⟩);refine df ?_;refine db (T.block ?_);refine T.loop (ι:=Nat×HS) (fun x=>[(0, .func (.yield l) #[] #[]),(1, .pointer (some ⟨p,0,none⟩)),(3, .int .i64 (zjb ((fu ws).drop x.1)))]) (fun x=>[.row p 83 ws.cells]++x.2) (fun x=>x.1≤(fu ws).length∧G x.1 x.2) (fun x=>(fu ws).length - x.1) (0,g0) ?_ ?_ ?_ ?_
 ·exact ⟨by simp,hG0⟩
 ·exact (by repeat (first|exact Sub.nil|refine Sub.cons rfl ?_))
 ·exact eW
 ·intro x hphi;obtain ⟨k,g⟩:=x;dsimp only at hphi ⊢;obtain ⟨hkn,hG⟩:=hphi;refine lE ?_;refine jB ?_;refine T.cond rfl (fun h1=>?_) (fun h1=>?_)
  ·have p1:=h1; (try simp only [cY] at p1);have hk:=zmN p1;have h512:cK (fu ws) k<512:=(f9.1 (i6 hk)).2.1;rw [zhQ hk];refine fS ?_;refine eg ?_;refine TL.bX (Wt.none) rfl rfl rfl rfl rfl hy (zoM hk) hG (enc:=fun j:Nat=>[.int .i64 (j:Int)]) (x:=cK (fu ws) k) (i:=k) ?_ ?_
   ·intro g' hG';refine dB ?_;refine iP rfl rfl ?_;refine q0p ?_;refine q2Q ?_;refine df ?_;refine q0d ?_; (refine cO (Wt.none) rfl rfl (cN rfl rfl rfl (fun w hw=>zko ws hws (cK (fu ws) k+1) _ a5 w (ht.kept hw hM0))) ?_;rintro _ _ ⟨rfl,rfl⟩);refine df ?_;refine ff ?_;exact K.next (k+1,g') ⟨by dsimp only;omega,hG'⟩ (by dsimp only;omega) (by rw [←zji ws k 0 hk];exact (by repeat (first|exact Sub.nil|refine Sub.cons rfl ?_))) (List.Sublist.refl _)
   ·intro z hZ;refine dB ?_;refine my rfl rfl ?_;refine T.ret (fm (d6 (d6 (fm ?_))));exact K.cj rfl (fun w' hw hkp=>⟨⟨_,rfl⟩,hkp, .inr ⟨z,hZ,hw⟩⟩)
  ·have p1:=h1; (try simp only [cY] at p1);have hk:=zmi p1;refine eE ?_;exact K.ck rfl (fun w' hw hkp=>⟨⟨_,rfl⟩,hkp, .inl ⟨g,by rw [show (fu ws).length=k from by omega];exact hG,hw⟩⟩)
theorem zkP (ws:Ws)(hws:ws.length=8)(w:World)(ht:Tab w):Calls Tryz.prog 156 #[.agg ws.cells.toArray] w fun e w'=>∃v:Value,True∧e= .returned v∧Hp w (fun _=>False) [.sl v 3 1 (fu ws).length (jF (fu ws))] w':=by
 have hsl8:=zjG ws 8;have hml:=zgC ws 0;refine dv (M:=fun _=>False) (hs:=[]) Tryz.func156 rfl rfl rfl (Hp.refl _ _) ?_;refine dq ?_; (refine cO (Wt.none) rfl rfl (dI) ?_;rintro _ _ ⟨g1,rfl,rfl⟩);refine ig ?_;refine q2Q ?_; (refine cO (Wt.none) rfl rfl (cN rfl rfl rfl (fun w hw=>zof ws hws w)) ?_;rintro _ _ ⟨rfl,rfl⟩); (refine cO (Wt.none) rfl rfl (Ew.bH rfl rfl rfl rfl a5 a5) ?_;rintro _ _ ⟨g7,rfl,rfl⟩); (refine cO (Wt.none) rfl rfl (Ew.alloc) ?_;rintro _ _ ⟨g3,rfl,rfl⟩); (refine dN (Wt.none) rfl (eJ 0 rfl rfl rfl rfl a6) ?_;rintro _ _ ⟨rfl,rfl⟩);refine i5 ?_;refine cM (d7 2 rfl rfl rfl (by rw [List.length_map,hws])) ?_; (refine cO (Wt.none) rfl rfl (jE rfl rfl rfl (fun w hw=>zoR ws hws _)) ?_;rintro _ _ ⟨b9, -,rfl,rfl⟩);refine fX ?_;refine db (T.block ?_);refine T.bG (α:=Nat) ((fun j:Nat=>[.int .i64 (j:Int)])) (fu ws) ([.row b9 83 ws.cells]) (fun i g=>∃v,g=[.row g3 30 [v], .sl v 3 1 i (jF ((fu ws).take i))]) (fun _ _=>False) (fun x=>[(3, .pointer (some ⟨g3,0,none⟩)),(4, .int .i64 (x:Int))]) (_) (⟨_,rfl⟩) rfl (znj ws hws b9 _ _ ht (fun h=>h)) a6 (fun _=>rfl) (by exact Sx) ?_ ?_ ?_ ?_
 ·intro l i x X D g hx;refine iV ?_;refine ff ?_;exact K.at (by repeat (first|exact Sub.nil|refine Sub.cons rfl ?_)) (List.Sublist.refl _)
 ·intro l i x X D g hx hG;obtain ⟨v,rfl⟩:=hG;obtain ⟨hi,rfl⟩:=zoF hx;have hi2:i<(fv ws 0).length:=hi;refine fX ?_;refine T.block (T.region ?_);refine cM (c9 1) ?_;refine df ?_; (refine cO (Wt.none) rfl rfl (Ew.buildSlice rfl rfl rfl a6) ?_;rintro _ _ ⟨g13,rfl,rfl⟩); (refine cO (Wt.none) rfl rfl (Ew.append 3 0 rfl rfl rfl rfl rfl rfl a5 a5) ?_;rintro v14 _ ⟨hv14,rfl⟩); (refine dN (Wt.none) rfl (eJ 2 rfl rfl rfl rfl b5) ?_;rintro _ _ ⟨rfl,rfl⟩);refine TL.nil (gB ?_);exact K.round _ ⟨_,rfl,v14,rfl⟩ (by rw [zlV hi];exact Sx)
 ·intro g hG;obtain ⟨v,rfl⟩:=hG;refine fX ?_;rw [List.take_length];refine gB (K.seq (dq ?_));refine cM (c9 1) ?_;refine fO ?_;exact cZ rfl rfl (fun w' hw=>⟨_,trivial,rfl,hw.sub Sx⟩)
 ·intro c y hz;exact hz.elim
theorem lA {w:World}{v:Value}{e:TypeId}{size k:Nat}{l:List Value}(h:(Ent.sl v e size k l).ok w):OneC v:=by
 rcases (cX.1 h).2 with ⟨rfl,_⟩|⟨g,cap,cur,rfl,_⟩ <;> exact inferInstance
structure Tb where
 st:List Int
 ix:Nat→Int
 total:Int
 vps:List Value
 ps:Nat→List Pr
 vcs:List Value
 cs:Nat→List Cp
 vin:List Value
 inn:Nat→List Ld
 vout:List Value
 out:Nat→List Ld
abbrev Tb.n (T:Tb):Nat:=T.st.length
structure Lists {α:Type} (w:World) (p:Addr) (enc:α→List Value) (size:Nat) (vs:List Value) (n:Nat) (f:Nat→List α):Prop where
 at':∃v,w.cell? p=some v∧SlOf w v (fun u=>[u]) 1 vs
 len:vs.length=n
 each:∀i,i<n→SlOf w (cK vs i) enc size (f i)
structure TablesAt (w:World) (tp:Nat) (T:Tb):Prop where
 st:∃v,w.cell? ⟨tp,0,none⟩=some v∧zhf w v T.st
 ix:∀j,j<512→w.cell? ⟨tp,1+j,none⟩=some (.int .i64 (T.ix j))
 total:w.cell? ⟨tp,513,none⟩=some (.int .i64 T.total)
 ps:Lists w ⟨tp,514,none⟩ Pr.cells 5 T.vps T.n T.ps
 cs:Lists w ⟨tp,515,none⟩ Cp.cells 4 T.vcs T.n T.cs
 inn:Lists w ⟨tp,516,none⟩ Ld.cells 5 T.vin T.n T.inn
 out:Lists w ⟨tp,517,none⟩ Ld.cells 5 T.vout T.n T.out
structure Tb.Ok (T:Tb):Prop where
 n:T.n≤512
 ps:∀i,i<T.n→(T.ps i).length≤4096∧∀x∈T.ps i,0≤x.a∧x.a<T.n∧0≤x.b∧x.b<T.n∧ -1≤x.off∧x.off≤1∧2≤x.lo∧x.lo≤x.hi∧x.hi≤51∧(x.a=i∨x.b=i)
 cs:∀i,i<T.n→(T.cs i).length≤1024∧∀x∈T.cs i,0≤x.mx∧x.mx≤1099511627776∧2≤x.lo∧x.lo≤x.hi∧x.hi≤51
 inn:∀i,i<T.n→(T.inn i).length≤1024∧∀x∈T.inn i,x.to=i∧0≤x.fr∧x.fr<T.n∧1≤x.wt∧x.wt≤1073741824∧2≤x.lo∧x.lo≤x.hi∧x.hi≤51
 psS:∀i,i<T.n→∀x∈T.ps i,x.a≠x.b∧x∈T.ps x.a.toNat∧x∈T.ps x.b.toNat
 innS:∀i,i<T.n→∀x∈T.inn i,x.to≠x.fr∧x∈T.out x.fr.toNat
 outS:∀i,i<T.n→∀x∈T.out i,x.to≠x.fr∧x∈T.inn x.to.toNat
 out:∀i,i<T.n→(T.out i).length≤1024∧∀x∈T.out i,x.fr=i∧0≤x.to∧x.to<T.n∧1≤x.wt∧x.wt≤1073741824∧2≤x.lo∧x.lo≤x.hi∧x.hi≤51
def jK (w:World)(g:Nat):Prop:=∃cs t p,w.heap[g]?=some (.cells cs t p)
def Fz (w0 w:World):Prop:=∀g,jK w0 g→w.heap[g]?=w0.heap[g]?
theorem zeU {w:World}{p:Addr}{v:Value}(h:w.cell? p=some v):jK w p.block:=by
 unfold World.cell? at h
 split at h
 ·rename_i hh;exact ⟨_,_,_,hh⟩
 ·cases h
theorem Fz.cell {w w':World}(hb:Fz w w'){p:Addr}{v:Value}(h:w.cell? p=some v):w'.cell? p=some v:=(World.cell?_of_block (w:=w) (hb _ (zeU h))).trans h
theorem Fz.cs {w w':World}(hb:Fz w w'){g p:Nat}{l:List Value}(h:Cs w g p l):Cs w' g p l:=fun j hj=>by
 have:=h j hj;rw [List.getElem?_eq_getElem hj] at this ⊢;exact hb.cell this
theorem je {w:World}{g p:Nat}{l:List Value}(h:Cs w g p l)(hl:0<l.length):jK w g:=by
 have:=h 0 hl;rw [List.getElem?_eq_getElem hl] at this;exact zeU this
theorem Fz.sl {α:Type}{w w':World}(hb:Fz w w'){v:Value}{enc:α→List Value}{size:Nat}{xs:List α}(h:SlOf w v enc size xs):SlOf w' v enc size xs:=by
 obtain ⟨A,cap,rfl,hc⟩:=h;refine ⟨A,cap,rfl,fun hp=>?_⟩;obtain ⟨g,off,rfl,hcs⟩:=hc hp;exact ⟨g,off,rfl,fun i hi=>hb.cs (hcs i hi)⟩
theorem ii {w w':World}(hb:Below w.heap.size w w'):Fz w w':=fun g ⟨cs,t,p,h⟩=>hb.block g (Array.getElem?_eq_some_iff.1 h).1
theorem Fz.hp {w0 w w':World}{M:Nat→Prop}{hs:HS}(h:Fz w0 w)(hw:Hp w M hs w')(h0:∀g,M g→¬jK w0 g):Fz w0 w':=fun g hg=>by
 have h1:=h g hg;obtain ⟨cs,t,p,e⟩:=hg;rw [←h1];refine hw.base g ?_ (fun hm=>h0 g hm ⟨cs,t,p,e⟩);rw [e] at h1;exact (Array.getElem?_eq_some_iff.1 h1).1
theorem Lists.later {α:Type}{w w':World}(hb:Fz w w'){p:Addr}{enc:α→List Value}{size:Nat}{vs:List Value}{n:Nat}{f:Nat→List α}(h:Lists w p enc size vs n f):Lists w' p enc size vs n f:=
 ⟨by obtain ⟨v,h1,h2⟩:=h.at';exact ⟨v,hb.cell h1,hb.sl h2⟩,h.len,fun i hi=>hb.sl (h.each i hi)⟩
theorem TablesAt.later {w w':World}(hb:Fz w w'){tp:Nat}{T:Tb}(h:TablesAt w tp T):TablesAt w' tp T:=
 ⟨by obtain ⟨v,h1,h2⟩:=h.st;exact ⟨v,hb.cell h1,hb.sl h2⟩,fun j hj=>hb.cell (h.ix j hj),hb.cell h.total,h.ps.later hb,h.cs.later hb,h.inn.later hb,h.out.later hb⟩
def Le (b:BitVec 64):List Value:=[U b]
structure StateAt (w:World) (sp:Nat) (T:Tb) (L:Ws) (c:Bool):Prop where
 tab:Tab w
 tb:∃tp,w.cell? ⟨sp,0,none⟩=some (.pointer (some ⟨tp,0,none⟩))∧TablesAt w tp T
 left:∃v,w.cell? ⟨sp,1,none⟩=some v∧SlOf w v Le 1 L
 len:L.length=T.n
 con:w.cell? ⟨sp,2,none⟩=some (.bool c)
theorem StateAt.later {w w':World}(hb:Below w.heap.size w w'){sp:Nat}{T:Tb}{L:Ws}{c:Bool}(h:StateAt w sp T L c):StateAt w' sp T L c:=
 have hf:=ii hb
 ⟨h.tab.keptF (iq hb),by obtain ⟨tp,h1,h2⟩:=h.tb;exact ⟨tp,hf.cell h1,h2.later hf⟩,by obtain ⟨v,h1,h2⟩:=h.left;exact ⟨v,hf.cell h1,hf.sl h2⟩,h.len,hf.cell h.con⟩
theorem StateAt.kept {B w:World}{hs:HS}{sp:Nat}{T:Tb}{L:Ws}{c:Bool}(hw:Hp B (fun _=>False) hs w)(h:StateAt B sp T L c):StateAt w sp T L c:=h.later ⟨hw.os,hw.tape,hw.output,hw.size,fun k hk=>hw.base k hk (fun h=>h)⟩
def i8 (b:BitVec 64):Nat:=if b≠0#64∧b &&& (b - 1#64)=0#64 then ctz b else 0
def only (L:Ws)(i:Nat):Nat:=i8 (cK L i)
theorem znl (b:BitVec 64):i8 b<64:=by
 unfold i8;split
 ·rename_i h;exact ziE h.1
 ·decide
theorem zij (L:Ws)(i:Nat):only L i<64:=znl _
def mT (L:Ws)(i:Nat)(g:BitVec 64)(x:Pr):BitVec 64:=
 if x.a=(i:Int) then
  if (only L x.b.toNat:Int)≠0∧x.lo≤(only L x.b.toNat:Int) - x.off∧(only L x.b.toNat:Int) - x.off≤x.hi then g ||| 1#64 <<< ((only L x.b.toNat:Int) - x.off).toNat else g
 else if x.lo≤(only L x.a.toNat:Int)∧(only L x.a.toNat:Int)≤x.hi then g ||| 1#64 <<< ((only L x.a.toNat:Int)+x.off).toNat else g
def mI (T:Tb)(L:Ws)(i:Nat):BitVec 64:=(T.ps i).foldl (mT L i) 0#64
theorem jy {α β:Type}[Inhabited α](f:β→α→β)(z:β){l:List α}{k:Nat}(h:k<l.length):(l.take (k+1)).foldl f z=f ((l.take k).foldl f z) (cK l k):=by
 rw [List.take_succ_eq_append_getElem h,dQ h,List.foldl_append];rfl
theorem znn {b:BitVec 64}(h1:¬(b.toNat:Int)=0)(h2:((b &&& (b - 1#64)).toNat:Int)=0):i8 b=ctz b:=by
 unfold i8;rw [if_pos ⟨by rintro rfl;exact h1 rfl,BitVec.eq_of_toNat_eq (by show _=0;omega)⟩]
theorem zoW {b:BitVec 64}(h2:¬((b &&& (b - 1#64)).toNat:Int)=0):i8 b=0:=by
 unfold i8;rw [if_neg (fun h=>h2 (by rw [h.2];rfl))]
theorem znF {b:BitVec 64}(h1:(b.toNat:Int)=0):i8 b=0:=by
 unfold i8;rw [if_neg (fun h=>h.1 (BitVec.eq_of_toNat_eq (by show _=0;omega)))]
theorem zdE (sp:Nat)(Y:Tb)(L:Ws)(c:Bool)(i:Nat)(z:Int)(hz:z=(i:Int))(hi:i<Y.n)(w:World)(h:StateAt w sp Y L c):Calls Tryz.prog 164 #[.pointer (some ⟨sp,0,none⟩), .int .i64 z] w fun e w'=>e= .returned (.int .i64 (only L i:Int))∧Below w.heap.size w w':=by
 subst hz;obtain ⟨tp,hsp0,hT⟩:=h.tb;obtain ⟨vL,hsp1,hL⟩:=h.left;obtain ⟨AL,fU,rfl,hLs⟩:=hL.op;have hLn:=h.len;obtain ⟨gL,oL,rfl,hc⟩:=hLs a5;have hk:=hc i a5;simp only [Le] at hk;refine dv (M:=fun _=>False) (hs:=[]) Tryz.func164 rfl rfl rfl (Hp.refl _ _) ?_;refine gu ?_;refine i5 ?_;refine eg ?_;refine fC ?_;refine cM (dV rfl rfl b8 (fun h=>h)) ?_;refine df ?_;refine q2b ?_;refine ig ?_;refine eR ?_;refine du rfl rfl rfl (fun h1=>?_) (fun h1=>?_)
 ·have p1:=h1; (try simp only [cY] at p1);refine kh ?_;refine kh ?_;refine c7 (Wt.some rfl rfl rfl h1) rfl rfl (Yv.cw (b:=1#64) rfl rfl rfl) ?_;refine c7 (Wt.some rfl rfl rfl h1) rfl rfl (gE) ?_;refine kh ?_;refine lx ?_;refine db ?_;refine T.cond rfl (fun h2=>?_) (fun h2=>?_)
  ·have p2:=h2; (try simp only [cY] at p2); (have hne:cK L i≠0#64:=by intro hh;rw [hh] at p1;exact p1 rfl);refine gu ?_; (refine cO (Wt.none) rfl rfl (cN rfl rfl rfl (fun w hw=>zn4 _ hne w (h.tab.keptF hw))) ?_;rintro _ _ ⟨rfl,rfl⟩);refine df ?_;refine kB ?_;exact cZ rfl rfl (fun w' hw=>⟨zc9 (by rw [only,znn p1 p2]),hw.isBelow⟩)
  ·have p2:=h2; (try simp only [cY] at p2);refine i7 ?_;refine fO ?_;exact cZ rfl rfl (fun w' hw=>⟨zc9 (by rw [only,zoW p2];rfl),hw.isBelow⟩)
 ·have p1:=h1; (try simp only [cY] at p1);refine ku ?_;refine q1o ?_;refine nH ?_;refine i7 ?_;refine fO ?_;exact cZ rfl rfl (fun w' hw=>⟨zc9 (by rw [only,znF p1];rfl),hw.isBelow⟩)
theorem zjE (sp:Nat)(Y:Tb)(L:Ws)(c:Bool)(i:Nat)(z:Int)(hz:z=(i:Int))(hi:i<Y.n)(w:World)(h:StateAt w sp Y L c)(hok:Y.Ok):Calls Tryz.prog 153 #[.pointer (some ⟨sp,0,none⟩), .int .i64 z] w fun e w'=>e= .returned (U (mI Y L i))∧Below w.heap.size w w':=by
 subst hz;obtain ⟨tp,hsp0,hT⟩:=h.tb;obtain ⟨vL,hsp1,hL⟩:=h.left;obtain ⟨AL,fU,rfl,hLs⟩:=hL.op;have hLn:=h.len;obtain ⟨vP,hP0,hP⟩:=hT.ps.at';obtain ⟨AP,capP,rfl,hPs⟩:=hP.op;have hPn:=hT.ps.len;obtain ⟨gP,oP,rfl,hPc⟩:=hPs a5;rw [hPn] at hP0;have hPi:=hPc i (by rw [hPn];exact hi);obtain ⟨BP,cpP,hvP,hslP⟩:=(hT.ps.each i hi).op;simp only [hvP] at hPi;obtain ⟨hlen,hrng⟩:=hok.ps i hi;have hn512:=hok.n;refine dv (M:=fun _=>False) (hs:=[]) Tryz.func153 rfl rfl rfl (Hp.refl _ _) ?_;refine q3T ?_;refine jN ?_;refine eg ?_;refine q1W ?_;refine cM (dV rfl rfl hP0 (fun h=>h)) ?_;refine mf ?_;refine cM (ed (j:=0) rfl rfl hPi rfl rfl (fun h=>h)) ?_;refine ki ?_;refine T.loop (ι:=Nat) (fun k=>[(0, .pointer (some ⟨sp,0,none⟩)),(1, .int .i64 (i:Int)),(5,U (((Y.ps i).take k).foldl (mT L i) 0#64)),(19, .slice BP (Y.ps i).length cpP),(20, .int .i64 ((Y.ps i).length:Int)),(21, .int .i64 (k:Int))]) (fun k=>[]) (fun k=>k≤(Y.ps i).length) (fun k=>(Y.ps i).length - k) 0 ?_ ?_ ?_ ?_
 ·omega
 ·exact (by repeat (first|exact Sub.nil|refine Sub.cons rfl ?_))
 ·exact Sx
 ·intro k hphi;refine fh ?_;refine T.cond rfl (fun h1=>?_) (fun h1=>?_)
  ·have p1:=h1; (try simp only [cY] at p1);obtain ⟨g,off,rfl,hc⟩:=hslP a5;have hk:=hc k a5;simp only [Pr.cells] at hk;have hr:=hrng _ (i6 (xs:=Y.ps i) (k:=k) a5);have oa:=zij L (cK (Y.ps i) k).a.toNat;have ob:=zij L (cK (Y.ps i) k).b.toNat;refine fS ?_;refine mc ?_; (refine cO (Wt.none) rfl rfl (Ew.alloc) ?_;rintro _ _ ⟨g7,rfl,rfl⟩); (refine dN (Wt.none) rfl (dx 0) ?_;rintro _ _ ⟨rfl,rfl⟩);refine d8 ?_;refine ei ?_;refine jB ?_;refine T.cond rfl (fun h2=>?_) (fun h2=>?_)
   ·have p2:=h2; (try simp only [cY] at p2);refine gu ?_;refine ei ?_; (refine cO (Wt.none) rfl rfl (cN rfl rfl rfl (fun w hw=>zdE sp Y L c (cK (Y.ps i) k).b.toNat _ a5 a5 w (h.kept hw))) ?_;rintro _ _ ⟨rfl,rfl⟩);refine ig ?_;refine eR ?_;refine du rfl rfl rfl (fun h3=>?_) (fun h3=>?_)
    ·have p3:=h3; (try simp only [cY] at p3);refine q0U ?_;refine q1V ?_;refine q0U ?_;refine c7 (Wt.some rfl rfl rfl h3) rfl rfl (kN rfl rfl rfl a5) ?_;refine q1V ?_;refine q3U ?_;refine df ?_;refine du rfl rfl rfl (fun h4=>?_) (fun h4=>?_)
     ·have p4:=h4; (try simp only [cY] at p4);refine c7 (Wt.some rfl rfl rfl h4) rfl rfl (d5) ?_;refine q0V ?_;refine c7 (Wt.some rfl rfl rfl h4) rfl rfl (kN rfl rfl rfl a5) ?_;refine q0V ?_;refine c7 (Wt.some rfl rfl rfl h4) rfl rfl (d5) ?_;refine cM (eT rfl rfl h4) ?_;refine db ?_;refine T.cond rfl (fun h5=>?_) (fun h5=>?_)
      ·have p5:=h5; (try simp only [cY] at p5);refine ji ?_;refine ei ?_;refine q2x ?_;refine cM (im (a:=1#64) ((only L (cK (Y.ps i) k).b.toNat:Int) - (cK (Y.ps i) k).off).toNat rfl rfl rfl a5 a5) ?_;refine q3M ?_;exact K.next (k+1) a5 a5 (by rw [jy _ _ a5,mT,if_pos p2,if_pos ⟨p3,p4,p5⟩];exact (by repeat (first|exact Sub.nil|refine Sub.cons rfl ?_))) Sx
      ·have p5:=h5; (try simp only [cY] at p5);refine iE ?_;exact K.next (k+1) a5 a5 (by rw [jy _ _ a5,mT,if_pos p2,if_neg (fun hh=>absurd hh.2.2 a5)];exact (by repeat (first|exact Sub.nil|refine Sub.cons rfl ?_))) Sx
     ·have p4:=h4; (try simp only [cY] at p4);refine q0q ?_;refine q0q ?_;refine TL.off (Wt.not rfl rfl rfl h4) rfl rfl ?_;refine cM (eu rfl rfl h4) ?_;refine nH ?_;refine iE ?_;exact K.next (k+1) a5 a5 (by rw [jy _ _ a5,mT,if_pos p2,if_neg (fun hh=>absurd hh.2.1 a5)];exact (by repeat (first|exact Sub.nil|refine Sub.cons rfl ?_))) Sx
    ·have p3:=h3; (try simp only [cY] at p3);refine q0r ?_;refine q3p ?_;refine TL.run 9 rfl ?_;refine nH ?_;refine iE ?_;exact K.next (k+1) a5 a5 (by rw [jy _ _ a5,mT,if_pos p2,if_neg (fun hh=>hh.1 p3)];exact (by repeat (first|exact Sub.nil|refine Sub.cons rfl ?_))) Sx
   ·have p2:=h2; (try simp only [cY] at p2);refine gu ?_;refine ei ?_; (refine cO (Wt.none) rfl rfl (cN rfl rfl rfl (fun w hw=>zdE sp Y L c (cK (Y.ps i) k).a.toNat _ a5 a5 w (h.kept hw))) ?_;rintro _ _ ⟨rfl,rfl⟩);refine ig ?_;refine ei ?_;refine eR ?_;refine du rfl rfl rfl (fun h6=>?_) (fun h6=>?_)
    ·have p6:=h6; (try simp only [cY] at p6);refine q2l ?_;refine db ?_;refine T.cond rfl (fun h7=>?_) (fun h7=>?_)
     ·have p7:=h7; (try simp only [cY] at p7);refine ji ?_;refine ei ?_;refine q0d ?_;refine cM (im (a:=1#64) ((only L (cK (Y.ps i) k).a.toNat:Int)+(cK (Y.ps i) k).off).toNat rfl rfl rfl a5 a5) ?_;refine q3M ?_;exact K.next (k+1) a5 a5 (by rw [jy _ _ a5,mT,if_neg p2,if_pos ⟨p6,p7⟩];exact (by repeat (first|exact Sub.nil|refine Sub.cons rfl ?_))) Sx
     ·have p7:=h7; (try simp only [cY] at p7);refine iE ?_;exact K.next (k+1) a5 a5 (by rw [jy _ _ a5,mT,if_neg p2,if_neg (fun hh=>absurd hh.2 a5)];exact (by repeat (first|exact Sub.nil|refine Sub.cons rfl ?_))) Sx
    ·have p6:=h6; (try simp only [cY] at p6);refine q08 ?_;refine q08 ?_;refine cM (eu rfl rfl h6) ?_;refine nH ?_;refine iE ?_;exact K.next (k+1) a5 a5 (by rw [jy _ _ a5,mT,if_neg p2,if_neg (fun hh=>absurd hh.1 a5)];exact (by repeat (first|exact Sub.nil|refine Sub.cons rfl ?_))) Sx
  ·have p1:=h1; (try simp only [cY] at p1);refine q04 ?_;refine kv ?_;exact cZ rfl rfl (fun w' hw=>⟨by rw [mI,List.take_of_length_le a5],hw.isBelow⟩)
def mF (f:Nat→Int):List Value:=(List.range 52).map fun d=> .int .i64 (f d)
theorem zjR (f:Nat→Int):(mF f).length=52:=by simp [mF]
theorem zg4 {f:Nat→Int}{d p:Nat}(hp:p=d)(hd:d<52):(mF f)[p]?=some (.int .i64 (f d)):=by subst hp;simp [mF,hd]
theorem zj0 {f f':Nat→Int}{d p:Nat}{v:Int}(hp:p=d)(hd:d<52)(h1:f' d=v)(h2:∀e,e≠d→f' e=f e):(mF f).set p (.int .i64 v)=mF f':=by
 subst hp h1;apply List.ext_getElem?;intro e;unfold mF;by_cases he:e=p
 ·subst he;rw [List.getElem?_set_self (by simpa using hd)];simp [hd]
 ·rw [List.getElem?_set_ne (fun h=>he h.symm)];simp only [List.getElem?_map,List.getElem?_range];by_cases h52:e<52
  ·simp [h52,h2 e he]
  ·simp [h52]
def kg (L:Ws)(f:Nat→Int)(x:Ld):Nat→Int:=fun d=>if x.lo≤(only L x.fr.toNat:Int)∧(only L x.fr.toNat:Int)≤x.hi∧only L x.fr.toNat=d then f d+x.wt else f d
def iF (L:Ws)(l:List Ld):Nat→Int:=l.foldl (kg L) (fun _=>0)
theorem zl0 (L:Ws):∀(l:List Ld),(∀x∈l,1≤x.wt∧x.wt≤1073741824)→∀(f:Nat→Int) (b:Int),(∀d,0≤f d∧f d≤b)→∀d,0≤l.foldl (kg L) f d∧l.foldl (kg L) f d≤b+1073741824* (l.length:Int)
 | [],_,f,b,hf,d=>by simpa using hf d
 |x :: r,hx,f,b,hf,d=>by
  have h1:=hx x a8
  have:=zl0 L r (fun y hy=>hx y (by simp [hy])) (kg L f x) (b+1073741824) (fun e=>by
   have:=hf e
   unfold kg;split <;> omega) d
  simp only [List.foldl_cons,List.length_cons];omega
def ziz (f:Nat→Int)(mx:Int)(g:BitVec 64)(d:Nat):BitVec 64:=if mx<f d then g ||| 1#64 <<< d else g
def ze8 (f:Nat→Int)(g:BitVec 64)(x:Cp):BitVec 64:=(List.range' x.lo.toNat (x.hi.toNat+1 - x.lo.toNat)).foldl (ziz f x.mx) g
def lj (Y:Tb)(L:Ws)(i:Nat):BitVec 64:=(Y.cs i).foldl (ze8 (iF L (Y.inn i))) 0#64
theorem zfG {L:Ws}{l:List Ld}{k:Nat}(h:k<l.length):iF L (l.take (k+1))=kg L (iF L (l.take k)) (cK l k):=jy _ _ h
theorem zo7 {L:Ws}{l:List Ld}(hl:l.length≤1024)(hw:∀x∈l,1≤x.wt∧x.wt≤1073741824)(k d:Nat):0≤iF L (l.take k) d∧iF L (l.take k) d≤1099511627776:=by
 have:=zl0 L (l.take k) (fun x hx=>hw x (List.mem_of_mem_take hx)) (fun _=>0) 0 (fun _=>⟨by simp,by simp⟩) d; (have hk:(l.take k).length≤1024:=by rw [List.length_take];omega);unfold iF;omega
def j4 (L:Ws)(i d:Nat)(s:Int)(x:Ld):Int:=if (x.lo≤(d:Int)∧(d:Int)≤x.hi)∧(x.fr=(i:Int)∨only L x.fr.toNat=d) then s+x.wt else s
theorem zn7 (L:Ws)(i d:Nat):∀(l:List Ld),(∀x∈l,1≤x.wt∧x.wt≤1073741824)→∀(s:Int),0≤s→0≤l.foldl (j4 L i d) s∧l.foldl (j4 L i d) s≤s+1073741824* (l.length:Int)
 | [],_,s,h=>by simp;exact h
 |x :: r,hx,s,h=>by
  have h1:=hx x a8; (have hs:0≤j4 L i d s x∧j4 L i d s x≤s+1073741824:=by unfold j4;split <;> omega);have:=zn7 L i d r (fun y hy=>hx y (by simp [hy])) (j4 L i d s x) hs.1;simp only [List.foldl_cons,List.length_cons];omega
def j6 (L:Ws)(i d:Nat)(l:List Ld):Int:=l.foldl (j4 L i d) 0
theorem zpp {L:Ws}{l:List Ld}{i d:Nat}(hl:l.length≤1024)(hw:∀x∈l,1≤x.wt∧x.wt≤1073741824)(k:Nat):0≤j6 L i d (l.take k)∧j6 L i d (l.take k)≤1099511627776:=by
 have:=zn7 L i d (l.take k) (fun x hx=>hw x (List.mem_of_mem_take hx)) 0 (Int.le_refl _); (have hk:(l.take k).length≤1024:=by rw [List.length_take];omega);unfold j6;omega
def zeu (lost:Int)(d:Nat)(g:BitVec 64)(x:Cp):BitVec 64:=if (x.lo≤(d:Int)∧(d:Int)≤x.hi)∧x.mx<lost then g ||| 1#64 <<< d else g
def lT (Y:Tb)(L:Ws)(i:Nat)(g:BitVec 64)(x:Ld):BitVec 64:=
 if ((only L x.to.toNat:Int)<x.lo∨x.hi<(only L x.to.toNat:Int))∨g.getLsbD (only L x.to.toNat)=true then g
 else (Y.cs x.to.toNat).foldl (zeu (j6 L i (only L x.to.toNat) (Y.inn x.to.toNat)) (only L x.to.toNat)) g
def mD (Y:Tb)(L:Ws)(i:Nat):BitVec 64:=(Y.out i).foldl (lT Y L i) 0#64
theorem zlo (sp:Nat)(Y:Tb)(L:Ws)(c:Bool)(i:Nat)(z:Int)(hz:z=(i:Int))(hi:i<Y.n)(w:World)(h:StateAt w sp Y L c)(hok:Y.Ok):Calls Tryz.prog 154 #[.pointer (some ⟨sp,0,none⟩), .int .i64 z] w fun e w'=>e= .returned (U (lj Y L i))∧Below w.heap.size w w':=by
 subst hz;obtain ⟨tp,hsp0,hT⟩:=h.tb;obtain ⟨vL,hsp1,hL⟩:=h.left;obtain ⟨AL,fU,rfl,hLs⟩:=hL.op;have hLn:=h.len;obtain ⟨vC,hC0,hC⟩:=hT.cs.at';obtain ⟨AC,capC,rfl,hCs⟩:=hC.op;have hCn:=hT.cs.len;obtain ⟨gC,oC,rfl,hCc⟩:=hCs a5;rw [hCn] at hC0;have hCi:=hCc i (by rw [hCn];exact hi);obtain ⟨BC,cpC,hvC,hslC⟩:=(hT.cs.each i hi).op;simp only [hvC] at hCi;obtain ⟨vI,hI0,hI⟩:=hT.inn.at';obtain ⟨AI,capI,rfl,hIs⟩:=hI.op;have hIn:=hT.inn.len;obtain ⟨gI,oI,rfl,hIc⟩:=hIs a5;rw [hIn] at hI0;have hIi:=hIc i (by rw [hIn];exact hi);obtain ⟨BI,cpI,hvI,hslI⟩:=(hT.inn.each i hi).op;simp only [hvI] at hIi;obtain ⟨hlenC,hrngC⟩:=hok.cs i hi;obtain ⟨hlen,hrng⟩:=hok.inn i hi;have hn512:=hok.n; (have hwt:∀x∈Y.inn i,1≤x.wt∧x.wt≤1073741824:=fun x hx=>by have:=hrng x hx;omega);refine dv (M:=fun _=>False) (hs:=[]) Tryz.func154 rfl rfl rfl (Hp.refl _ _) ?_;refine q3A ?_;refine mJ ?_;refine dB ?_;refine T.cond rfl (fun h1=>?_) (fun h1=>?_)
 ·have p1:=h1; (try simp only [cY] at p1);refine iN ?_;exact cZ rfl rfl (fun w' hw=>⟨by rw [lj,List.eq_nil_of_length_eq_zero (show (Y.cs i).length=0 by omega)];rfl,hw.isBelow⟩)
 ·have p1:=h1; (try simp only [cY] at p1);refine i7 ?_; (refine cO (Wt.none) rfl rfl (Ew.alloc) ?_;rintro _ _ ⟨g5,rfl,rfl⟩);refine db ?_;refine T.cut (gs:=[(0, .pointer (some ⟨sp,0,none⟩)),(1, .int .i64 (i:Int)),(5, .pointer (some ⟨g5,0,none⟩))]) (hs':=[.row g5 227 (mF (iF L (Y.inn i)))]) ?_ ?_
  ·skip;refine jO ?_;refine q1W ?_;refine cM (dV rfl rfl hI0 (fun h=>h)) ?_;refine mf ?_;refine cM (ed (j:=0) rfl rfl hIi rfl rfl (fun h=>h)) ?_;refine ki ?_;refine T.loop (ι:=Nat) (fun k=>[(0, .pointer (some ⟨sp,0,none⟩)),(1, .int .i64 (i:Int)),(5, .pointer (some ⟨g5,0,none⟩)),(34, .slice BI (Y.inn i).length cpI),(35, .int .i64 ((Y.inn i).length:Int)),(36, .int .i64 (k:Int))]) (fun k=>[.row g5 227 (mF (iF L ((Y.inn i).take k)))]) (fun k=>k≤(Y.inn i).length) (fun k=>(Y.inn i).length - k) 0 ?_ ?_ ?_ ?_
   ·omega
   ·exact (by repeat (first|exact Sub.nil|refine Sub.cons rfl ?_))
   ·exact Sx
   ·intro k hphi;refine fh ?_;refine T.cond rfl (fun h2=>?_) (fun h2=>?_)
    ·have p2:=h2; (try simp only [cY] at p2);obtain ⟨g,off,rfl,hc⟩:=hslI a5;have hk:=hc k a5;simp only [Ld.cells] at hk;have hr:=hrng _ (i6 (xs:=Y.inn i) (k:=k) a5);have oa:=zij L (cK (Y.inn i) k).fr.toNat;refine fS ?_;refine mc ?_; (refine cO (Wt.none) rfl rfl (Ew.alloc) ?_;rintro _ _ ⟨g7,rfl,rfl⟩); (refine dN (Wt.none) rfl (dx 0) ?_;rintro _ _ ⟨rfl,rfl⟩);refine j9 ?_;refine ei ?_; (refine cO (Wt.none) rfl rfl (cN rfl rfl rfl (fun w hw=>zdE sp Y L c (cK (Y.inn i) k).fr.toNat _ a5 a5 w (h.kept hw))) ?_;rintro _ _ ⟨rfl,rfl⟩);refine ig ?_;refine ei ?_;refine eR ?_;refine du rfl rfl rfl (fun h3=>?_) (fun h3=>?_)
     ·have p3:=h3; (try simp only [cY] at p3);refine q1V ?_;refine q0U ?_;refine q1V ?_;refine q3U ?_;refine db ?_;refine T.cond rfl (fun h4=>?_) (fun h4=>?_)
      ·have p4:=h4; (try simp only [cY] at p4);have hld:=zg4 (f:=iF L ((Y.inn i).take k)) (d:=only L (cK (Y.inn i) k).fr.toNat) (p:=0+only L (cK (Y.inn i) k).fr.toNat*1) a5 a5;have hbd:=zo7 (L:=L) hlen hwt k (only L (cK (Y.inn i) k).fr.toNat);refine dM (sN 0 2 (sN 3 2 (.eff 2 (sN 5 2 (.eff 7 .done))))) (List.eraseIdx _ 1) a7 (List.eraseIdx_sublist _ _) ?_;refine fF ?_;refine cT rfl (d9 rfl rfl rfl rfl a5) ?_;refine mW ?_;refine eQ rfl (Wt.none) rfl rfl (c9 1 rfl rfl rfl hld) Sx ?_;refine cT rfl (l4 rfl rfl rfl a5) ?_;refine cT rfl (d9 rfl rfl rfl rfl a5) ?_;refine dD ?_; (refine dL rfl (Wt.none) rfl (iI 1 (mF (iF L ((Y.inn i).take (k+1)))) rfl rfl rfl rfl (by rw [zjR];omega) (zj0 (d:=only L (cK (Y.inn i) k).fr.toNat) a5 a5 (by rw [zfG a5,kg,if_pos ⟨by omega,by omega,rfl⟩]) (fun e he=>by rw [zfG a5,kg,if_neg (fun hh=>he hh.2.2.symm)]))) ?_;rintro _ _ ⟨rfl,rfl⟩;refine ⟨Sx,?_⟩);refine q1z ?_;exact K.next (k+1) a5 a5 (by repeat (first|exact Sub.nil|refine Sub.cons rfl ?_)) Sx
      ·have p4:=h4; (try simp only [cY] at p4);refine iE ?_;exact K.next (k+1) a5 a5 (by repeat (first|exact Sub.nil|refine Sub.cons rfl ?_)) (by rw [zfG a5,show kg L (iF L ((Y.inn i).take k)) (cK (Y.inn i) k)=iF L ((Y.inn i).take k) from funext fun d=>by unfold kg;exact if_neg (fun hh=>absurd hh.2.1 a5)];exact Sx)
     ·have p3:=h3; (try simp only [cY] at p3);refine q3p ?_;refine nH ?_;refine iE ?_;exact K.next (k+1) a5 a5 (by repeat (first|exact Sub.nil|refine Sub.cons rfl ?_)) (by rw [zfG a5,show kg L (iF L ((Y.inn i).take k)) (cK (Y.inn i) k)=iF L ((Y.inn i).take k) from funext fun d=>by unfold kg;exact if_neg (fun hh=>absurd hh.1 a5)];exact Sx)
    ·have p2:=h2; (try simp only [cY] at p2);refine eE ?_;exact K.at (by repeat (first|exact Sub.nil|refine Sub.cons rfl ?_)) (by rw [show (Y.inn i).take k=Y.inn i from List.take_of_length_le a5];exact Sx)
  ·skip;refine q3A ?_;refine ki ?_;refine T.loop (ι:=Nat) (fun k=>[(0, .pointer (some ⟨sp,0,none⟩)),(1, .int .i64 (i:Int)),(5, .pointer (some ⟨g5,0,none⟩)),(9,U (((Y.cs i).take k).foldl (ze8 (iF L (Y.inn i))) 0#64)),(71, .slice BC (Y.cs i).length cpC),(72, .int .i64 ((Y.cs i).length:Int)),(73, .int .i64 (k:Int))]) (fun k=>[.row g5 227 (mF (iF L (Y.inn i)))]) (fun k=>k≤(Y.cs i).length) (fun k=>(Y.cs i).length - k) 0 ?_ ?_ ?_ ?_
   ·omega
   ·exact (by repeat (first|exact Sub.nil|refine Sub.cons rfl ?_))
   ·exact Sx
   ·intro k hphi;refine fh ?_;refine T.cond rfl (fun h5=>?_) (fun h5=>?_)
    ·have p5:=h5; (try simp only [cY] at p5);obtain ⟨g,off,rfl,hc⟩:=hslC a5;have hk:=hc k a5;simp only [Cp.cells] at hk;have hr:=hrngC _ (i6 (xs:=Y.cs i) (k:=k) a5);refine mP ?_;refine T.cut (gs:=[(0, .pointer (some ⟨sp,0,none⟩)),(1, .int .i64 (i:Int)),(5, .pointer (some ⟨g5,0,none⟩)),(9,U (((Y.cs i).take (k+1)).foldl (ze8 (iF L (Y.inn i))) 0#64)),(71, .slice (some ⟨g,off,none⟩) (Y.cs i).length cpC),(72, .int .i64 ((Y.cs i).length:Int)),(73, .int .i64 (k:Int))]) (hs':=[.row g5 227 (mF (iF L (Y.inn i)))]) ?_ ?_
     ·skip;refine T.block (dq ?_);refine mc ?_; (refine cO (Wt.none) rfl rfl (Ew.alloc) ?_;rintro _ _ ⟨g11,rfl,rfl⟩); (refine dN (Wt.none) rfl (dx 0) ?_;rintro _ _ ⟨rfl,rfl⟩);refine d8 ?_;refine q4e ?_;refine db (T.block ?_);refine T.loop (ι:=Nat) (fun j=>[(0, .pointer (some ⟨sp,0,none⟩)),(1, .int .i64 (i:Int)),(5, .pointer (some ⟨g5,0,none⟩)),(9,U ((List.range' (cK (Y.cs i) k).lo.toNat j).foldl (ziz (iF L (Y.inn i)) (cK (Y.cs i) k).mx) (((Y.cs i).take k).foldl (ze8 (iF L (Y.inn i))) 0#64))),(11, .pointer (some ⟨g11,0,none⟩)),(12, .int .i64 ((cK (Y.cs i) k).lo+(j:Int))),(71, .slice (some ⟨g,off,none⟩) (Y.cs i).length cpC),(72, .int .i64 ((Y.cs i).length:Int)),(73, .int .i64 (k:Int))]) (fun j=>[.row g11 104 [.int .i64 (cK (Y.cs i) k).st, .int .i64 (cK (Y.cs i) k).mx, .int .i64 (cK (Y.cs i) k).lo, .int .i64 (cK (Y.cs i) k).hi], .row g5 227 (mF (iF L (Y.inn i)))]) (fun j=>(cK (Y.cs i) k).lo+(j:Int)≤(cK (Y.cs i) k).hi+1) (fun j=>((cK (Y.cs i) k).hi+1 - (cK (Y.cs i) k).lo).toNat - j) 0 ?_ ?_ ?_ ?_
      ·omega
      ·exact (by repeat (first|exact Sub.nil|refine Sub.cons rfl ?_|(refine fb rfl a5 ?_)))
      ·exact Sx
      ·intro j hphi;refine kO ?_;refine ei ?_;refine dB ?_;refine T.cond rfl (fun h6=>?_) (fun h6=>?_)
       ·have p6:=h6; (try simp only [cY] at p6);have hld:=zg4 (f:=iF L (Y.inn i)) (d:=(cK (Y.cs i) k).lo.toNat+j) (p:=0+((cK (Y.cs i) k).lo.toNat+j) *1) a5 a5;refine jQ ?_;refine dM (sN 0 5 (.still 5 .done)) _ a7 (List.Sublist.refl _) ?_;refine fF ?_;refine cT rfl (d9 rfl rfl rfl (show (_:Int)=(((cK (Y.cs i) k).lo.toNat+j:Nat):Int) from by omega) a5) ?_;refine cT rfl (c9 1 rfl rfl rfl hld) ?_;refine fH ?_;refine kG ?_;refine T.cond rfl (fun h7=>?_) (fun h7=>?_)
        ·have p7:=h7; (try simp only [cY] at p7);refine ji ?_;refine cM (im (a:=1#64) ((cK (Y.cs i) k).lo.toNat+j) rfl rfl rfl a5 a5) ?_;refine cM (jf) ?_;refine df ?_;refine q2H ?_;exact K.next (j+1) a5 a5 (by rw [List.range'_1_concat,List.foldl_append];simp only [List.foldl_cons,List.foldl_nil];rw [ziz,if_pos a5];repeat (first|exact Sub.nil|refine Sub.cons rfl ?_|(refine fb rfl a5 ?_))) Sx
        ·have p7:=h7; (try simp only [cY] at p7);refine gY ?_;exact K.next (j+1) a5 a5 (by rw [List.range'_1_concat,List.foldl_append];simp only [List.foldl_cons,List.foldl_nil];rw [ziz,if_neg a5];repeat (first|exact Sub.nil|refine Sub.cons rfl ?_|(refine fb rfl a5 ?_))) Sx
       ·have p6:=h6; (try simp only [cY] at p6);refine T.exit (fP (fP (jd (gB ?_))));exact K.at (by rw [jy _ _ a5,ze8,show (cK (Y.cs i) k).hi.toNat+1 - (cK (Y.cs i) k).lo.toNat=j by omega];exact (by repeat (first|exact Sub.nil|refine Sub.cons rfl ?_))) Sx
     ·skip;refine fN ?_;refine kL ?_;exact K.next (k+1) a5 a5 (by repeat (first|exact Sub.nil|refine Sub.cons rfl ?_)) Sx
    ·have p5:=h5; (try simp only [cY] at p5);refine q04 ?_;refine kv ?_;exact cZ rfl rfl (fun w' hw=>⟨by rw [lj,List.take_of_length_le a5],hw.isBelow⟩)
theorem zfC {L:Ws}{i d:Nat}{l:List Ld}{k:Nat}(h:k<l.length):j6 L i d (l.take (k+1))=j4 L i d (j6 L i d (l.take k)) (cK l k):=jy _ _ h
theorem zjP (sp:Nat)(Y:Tb)(L:Ws)(c:Bool)(i:Nat)(z:Int)(hz:z=(i:Int))(hi:i<Y.n)(w:World)(h:StateAt w sp Y L c)(hok:Y.Ok):Calls Tryz.prog 155 #[.pointer (some ⟨sp,0,none⟩), .int .i64 z] w fun e w'=>e= .returned (U (mD Y L i))∧Below w.heap.size w w':=by
 subst hz;obtain ⟨tp,hsp0,hT⟩:=h.tb;obtain ⟨vL,hsp1,hL⟩:=h.left;obtain ⟨AL,fU,rfl,hLs⟩:=hL.op;have hLn:=h.len;obtain ⟨vO,hO0,hO⟩:=hT.out.at';obtain ⟨AO,capO,rfl,hOs⟩:=hO.op;have hOn:=hT.out.len;obtain ⟨gO,oO,rfl,hOc⟩:=hOs a5;rw [hOn] at hO0;have hOi:=hOc i (by rw [hOn];exact hi);obtain ⟨BO,cpO,hvO,hslO⟩:=(hT.out.each i hi).op;simp only [hvO] at hOi;obtain ⟨vI,hI0,hI⟩:=hT.inn.at';obtain ⟨AI,capI,rfl,hIs⟩:=hI.op;have hIn:=hT.inn.len;obtain ⟨gI,oI,rfl,hIc⟩:=hIs a5;rw [hIn] at hI0;obtain ⟨vC,hC0,hC⟩:=hT.cs.at';obtain ⟨AC,capC,rfl,hCs⟩:=hC.op;have hCn:=hT.cs.len;obtain ⟨gC,oC,rfl,hCc⟩:=hCs a5;rw [hCn] at hC0;obtain ⟨hlen,hrng⟩:=hok.out i hi;have hn512:=hok.n;refine dv (M:=fun _=>False) (hs:=[]) Tryz.func155 rfl rfl rfl (Hp.refl _ _) ?_;refine q3T ?_;refine jN ?_;refine eg ?_;refine q1W ?_;refine cM (dV rfl rfl hO0 (fun h=>h)) ?_;refine mf ?_;refine cM (ed (j:=0) rfl rfl hOi rfl rfl (fun h=>h)) ?_;refine ki ?_;refine T.loop (ι:=Nat) (fun k=>[(0, .pointer (some ⟨sp,0,none⟩)),(1, .int .i64 (i:Int)),(23, .slice BO (Y.out i).length cpO),(24, .int .i64 ((Y.out i).length:Int)),(25, .int .i64 (k:Int)),(5,U (((Y.out i).take k).foldl (lT Y L i) 0#64))]) (fun k=>[]) (fun k=>k≤(Y.out i).length) (fun k=>(Y.out i).length - k) 0 ?_ ?_ ?_ ?_
 ·omega
 ·exact (by repeat (first|exact Sub.nil|refine Sub.cons rfl ?_))
 ·exact Sx
 ·intro k hphi;refine fh ?_;refine T.cond rfl (fun h1=>?_) (fun h1=>?_)
  ·have p1:=h1; (try simp only [cY] at p1);obtain ⟨g,off,rfl,hc⟩:=hslO a5;have hk:=hc k a5;simp only [Ld.cells] at hk;have hr:=hrng _ (i6 (xs:=Y.out i) (k:=k) a5);have oa:=zij L (cK (Y.out i) k).to.toNat; (have htn:(cK (Y.out i) k).to.toNat<Y.n:=by omega);obtain ⟨hlenI,hrngI⟩:=hok.inn _ htn;obtain ⟨hlenC,hrngC⟩:=hok.cs _ htn; (have hwt:∀x∈Y.inn (cK (Y.out i) k).to.toNat,1≤x.wt∧x.wt≤1073741824:=fun x hx=>by have:=hrngI x hx;omega);have hIi:=hIc (cK (Y.out i) k).to.toNat (by rw [hIn];exact htn);obtain ⟨BI,cpI,hvI,hslI⟩:=(hT.inn.each (cK (Y.out i) k).to.toNat htn).op;simp only [hvI] at hIi;have hCi:=hCc (cK (Y.out i) k).to.toNat (by rw [hCn];exact htn);obtain ⟨BC,cpC,hvC,hslC⟩:=(hT.cs.each (cK (Y.out i) k).to.toNat htn).op;simp only [hvC] at hCi;refine mP ?_;refine T.cut (gs:=[(0, .pointer (some ⟨sp,0,none⟩)),(1, .int .i64 (i:Int)),(23, .slice (some ⟨g,off,none⟩) (Y.out i).length cpO),(24, .int .i64 ((Y.out i).length:Int)),(25, .int .i64 (k:Int)),(5,U (((Y.out i).take (k+1)).foldl (lT Y L i) 0#64))]) (hs':=[]) ?_ ?_
   ·skip;refine T.block (dq ?_);refine mc ?_; (refine cO (Wt.none) rfl rfl (Ew.alloc) ?_;rintro _ _ ⟨g7,rfl,rfl⟩); (refine dN (Wt.none) rfl (dx 0) ?_;rintro _ _ ⟨rfl,rfl⟩);refine j9 ?_;refine ei ?_; (refine cO (Wt.none) rfl rfl (cN rfl rfl rfl (fun w hw=>zdE sp Y L c ((cK (Y.out i) k).to.toNat) _ a5 a5 w (h.kept hw))) ?_;rintro _ _ ⟨rfl,rfl⟩);refine no ?_;refine ei ?_;refine eg ?_;refine du rfl rfl rfl (fun h2=>?_) (fun h2=>?_)
    ·have p2:=h2; (try simp only [cY] at p2);refine q0k ?_;refine TL.off (Wt.not rfl rfl rfl h2) rfl rfl ?_;refine q2O ?_;refine TL.run 7 rfl ?_;refine mU ?_;refine T.exit (fP (jd ?_)); (refine K.at ?_ Sx;rw [jy _ _ a5,lT,if_pos (.inl a5)];exact (by repeat (first|exact Sub.nil|refine Sub.cons rfl ?_)))
    ·have p2:=h2; (try simp only [cY] at p2);refine m9 ?_;refine nq ?_;refine m9 ?_;refine q4o ?_;refine df ?_;refine du rfl rfl rfl (fun h3=>?_) (fun h3=>?_)
     ·have p3:=h3; (try simp only [cY] at p3);refine q0r ?_;refine TL.off (Wt.not rfl rfl rfl h3) rfl rfl ?_;refine TL.off (Wt.not rfl rfl rfl h3) rfl rfl ?_;refine q3U ?_;refine mU ?_;refine T.exit (fP (jd ?_)); (refine K.at ?_ Sx;rw [jy _ _ a5,lT,if_pos (.inl a5)];exact (by repeat (first|exact Sub.nil|refine Sub.cons rfl ?_)))
     ·have p3:=h3; (try simp only [cY] at p3);refine q1V ?_;refine q1V ?_;refine c7 (Wt.some rfl rfl rfl h3) rfl rfl (gn (only L (cK (Y.out i) k).to.toNat) rfl rfl rfl rfl a5) ?_;refine c7 (Wt.some rfl rfl rfl h3) rfl rfl (gE (b:=1#64)) ?_;refine q1V ?_;refine cM (eu rfl rfl h3) ?_;refine db ?_;refine T.cond rfl (fun h4=>?_) (fun h4=>?_)
      ·have p4:=h4; (try simp only [cY] at p4); (have hbit:((((Y.out i).take k).foldl (lT Y L i) 0#64)).getLsbD (only L (cK (Y.out i) k).to.toNat)=true:=by rw [←zjh];exact decide_eq_true b8);refine T.exit (fP (jd ?_)); (have hb:=hbit;refine K.at ?_ Sx;rw [jy _ _ a5,lT,if_pos (.inr hb)];exact (by repeat (first|exact Sub.nil|refine Sub.cons rfl ?_)))
      ·have p4:=h4; (try simp only [cY] at p4); (have hno:¬(((only L (cK (Y.out i) k).to.toNat:Int)<(cK (Y.out i) k).lo∨(cK (Y.out i) k).hi<(only L (cK (Y.out i) k).to.toNat:Int))∨((((Y.out i).take k).foldl (lT Y L i) 0#64)).getLsbD (only L (cK (Y.out i) k).to.toNat)=true):=by rintro ((hh|hh)|hh);omega;omega;rw [←zjh] at hh;exact absurd (of_decide_eq_true hh) b8);refine i7 ?_;refine dB ?_;refine T.cut (gs:=[(0, .pointer (some ⟨sp,0,none⟩)),(1, .int .i64 (i:Int)),(23, .slice (some ⟨g,off,none⟩) (Y.out i).length cpO),(24, .int .i64 ((Y.out i).length:Int)),(25, .int .i64 (k:Int)),(7, .pointer (some ⟨g7,0,none⟩)),(8, .int .i64 (only L (cK (Y.out i) k).to.toNat:Int)),(5,U (((Y.out i).take k).foldl (lT Y L i) 0#64)),(9, .int .i64 (j6 L i (only L (cK (Y.out i) k).to.toNat) (Y.inn (cK (Y.out i) k).to.toNat)))]) (hs':=[.row g7 102 [.int .i64 (cK (Y.out i) k).to, .int .i64 (cK (Y.out i) k).fr, .int .i64 (cK (Y.out i) k).wt, .int .i64 (cK (Y.out i) k).lo, .int .i64 (cK (Y.out i) k).hi]]) ?_ ?_
       ·skip;refine T.seq ?_;refine q1f ?_;refine jT ?_;refine cT rfl (dV rfl rfl hsp0 (fun h=>h)) ?_;refine fF ?_;refine gr ?_;refine cT rfl (dV rfl rfl hI0 (fun h=>h)) ?_;refine q2u ?_;refine cT rfl (ed (j:=0) rfl rfl hIi rfl rfl (fun h=>h)) ?_;refine q4m ?_;refine T.loop (ι:=Nat) (fun j=>[(0, .pointer (some ⟨sp,0,none⟩)),(1, .int .i64 (i:Int)),(23, .slice (some ⟨g,off,none⟩) (Y.out i).length cpO),(24, .int .i64 ((Y.out i).length:Int)),(25, .int .i64 (k:Int)),(7, .pointer (some ⟨g7,0,none⟩)),(8, .int .i64 (only L (cK (Y.out i) k).to.toNat:Int)),(5,U (((Y.out i).take k).foldl (lT Y L i) 0#64)),(9, .int .i64 (j6 L i (only L (cK (Y.out i) k).to.toNat) ((Y.inn (cK (Y.out i) k).to.toNat).take j))),(60, .slice BI (Y.inn (cK (Y.out i) k).to.toNat).length cpI),(61, .int .i64 ((Y.inn (cK (Y.out i) k).to.toNat).length:Int)),(62, .int .i64 (j:Int))]) (fun j=>[.row g7 102 [.int .i64 (cK (Y.out i) k).to, .int .i64 (cK (Y.out i) k).fr, .int .i64 (cK (Y.out i) k).wt, .int .i64 (cK (Y.out i) k).lo, .int .i64 (cK (Y.out i) k).hi]]) (fun j=>j≤(Y.inn (cK (Y.out i) k).to.toNat).length) (fun j=>(Y.inn (cK (Y.out i) k).to.toNat).length - j) 0 ?_ ?_ ?_ ?_
        ·omega
        ·exact (by repeat (first|exact Sub.nil|refine Sub.cons rfl ?_))
        ·exact Sx
        ·intro j hphi;refine fh ?_;refine T.cond rfl (fun h5=>?_) (fun h5=>?_)
         ·have p5:=h5; (try simp only [cY] at p5);obtain ⟨gi,offi,rfl,hci⟩:=hslI a5;have hj:=hci j a5;simp only [Ld.cells] at hj;have hri:=hrngI _ (i6 (xs:=Y.inn (cK (Y.out i) k).to.toNat) (k:=j) a5);have hbd:=zpp (L:=L) (i:=i) (d:=only L (cK (Y.out i) k).to.toNat) hlenI hwt j;refine fS ?_;refine q0A ?_;refine cM (iH rfl rfl hj rfl (fun h=>h)) ?_; (refine cO (Wt.none) rfl rfl (Ew.alloc) ?_;rintro _ _ ⟨g11,rfl,rfl⟩); (refine dN (Wt.none) rfl (dx 0) ?_;rintro _ _ ⟨rfl,rfl⟩);refine d8 ?_;refine ei ?_;refine eR ?_;refine du rfl rfl rfl (fun h6=>?_) (fun h6=>?_)
          ·have p6:=h6; (try simp only [cY] at p6);refine q2l ?_;refine df ?_;refine du rfl rfl rfl (fun h7=>?_) (fun h7=>?_)
           ·have p7:=h7; (try simp only [cY] at p7);refine q35 ?_;refine c7 (Wt.some rfl rfl rfl h7) rfl rfl (d5) ?_;refine c7 (Wt.some rfl rfl rfl h7) rfl rfl (d5) ?_;refine c7 (Wt.some rfl rfl rfl h7) rfl rfl (d5) ?_;refine du rfl rfl rfl (fun h8=>?_) (fun h8=>?_)
            ·have p8:=h8; (try simp only [cY] at p8);refine q1m ?_;refine q1m ?_;refine c7 (Wt.some rfl rfl rfl h7) rfl rfl (eT rfl rfl h8) ?_;refine cM (eT rfl rfl h7) ?_;refine mU ?_;refine iV ?_;refine ei ?_;refine q0d ?_;refine df ?_;refine kA ?_;exact K.next (j+1) a5 a5 (by rw [zfC a5,j4];split <;> first|(exfalso;omega)|exact (by repeat (first|exact Sub.nil|refine Sub.cons rfl ?_))) Sx
            ·have p8:=h8; (try simp only [cY] at p8);refine c7 (Wt.some rfl rfl rfl h8) rfl rfl (d5) ?_;refine q36 ?_; (refine cO (Wt.some rfl rfl rfl h8) rfl rfl (cN rfl rfl rfl (fun w hw=>zdE sp Y L c (cK (Y.inn (cK (Y.out i) k).to.toNat) j).fr.toNat _ a5 a5 w (h.kept hw))) ?_;rintro _ _ ⟨rfl,rfl⟩);refine c7 (Wt.some rfl rfl rfl h8) rfl rfl (d5) ?_;refine c7 (Wt.some rfl rfl rfl h8) rfl rfl (d5) ?_;refine c7 (Wt.some rfl rfl rfl h7) rfl rfl (eu rfl rfl h8) ?_;refine cM (eT rfl rfl h7) ?_;refine db ?_;refine T.cond rfl (fun h9=>?_) (fun h9=>?_)
             ·have p9:=h9; (try simp only [cY] at p9);refine iV ?_;refine ei ?_;refine q0d ?_;refine df ?_;refine kA ?_;exact K.next (j+1) a5 a5 (by rw [zfC a5,j4];split <;> first|(exfalso;omega)|exact (by repeat (first|exact Sub.nil|refine Sub.cons rfl ?_))) Sx
             ·have p9:=h9; (try simp only [cY] at p9);refine iE ?_;exact K.next (j+1) a5 a5 (by rw [zfC a5,j4];split <;> first|(exfalso;omega)|exact (by repeat (first|exact Sub.nil|refine Sub.cons rfl ?_))) Sx
           ·have p7:=h7; (try simp only [cY] at p7);refine q1M ?_;refine q1M ?_;refine TL.off (Wt.not rfl rfl rfl h7) rfl rfl ?_;refine q0O ?_;refine q0O ?_;refine TL.off (Wt.not rfl rfl rfl h7) rfl rfl ?_;refine cM (eu rfl rfl h7) ?_;refine nH ?_;refine iE ?_;exact K.next (j+1) a5 a5 (by rw [zfC a5,j4];split <;> first|(exfalso;omega)|exact (by repeat (first|exact Sub.nil|refine Sub.cons rfl ?_))) Sx
          ·have p6:=h6; (try simp only [cY] at p6);refine q08 ?_;refine q08 ?_;refine cM (eu rfl rfl h6) ?_;refine TL.run 6 rfl ?_;refine q0O ?_;refine q0O ?_;refine jB ?_;refine iP rfl rfl ?_;refine iE ?_;exact K.next (j+1) a5 a5 (by rw [zfC a5,j4];split <;> first|(exfalso;omega)|exact (by repeat (first|exact Sub.nil|refine Sub.cons rfl ?_))) Sx
         ·have p5:=h5; (try simp only [cY] at p5);refine eE ?_;exact K.at (by rw [show (Y.inn (cK (Y.out i) k).to.toNat).take j=Y.inn (cK (Y.out i) k).to.toNat from List.take_of_length_le a5] at *;exact (by repeat (first|exact Sub.nil|refine Sub.cons rfl ?_))) Sx
       ·skip;refine T.seq ?_;refine q1f ?_;refine jT ?_;refine cT rfl (dV rfl rfl hsp0 (fun h=>h)) ?_;refine fF ?_;refine gr ?_;refine cT rfl (dV rfl rfl hC0 (fun h=>h)) ?_;refine q2u ?_;refine cT rfl (ed (j:=0) rfl rfl hCi rfl rfl (fun h=>h)) ?_;refine q4m ?_;refine T.loop (ι:=Nat) (fun j=>[(0, .pointer (some ⟨sp,0,none⟩)),(1, .int .i64 (i:Int)),(23, .slice (some ⟨g,off,none⟩) (Y.out i).length cpO),(24, .int .i64 ((Y.out i).length:Int)),(25, .int .i64 (k:Int)),(7, .pointer (some ⟨g7,0,none⟩)),(8, .int .i64 (only L (cK (Y.out i) k).to.toNat:Int)),(9, .int .i64 (j6 L i (only L (cK (Y.out i) k).to.toNat) (Y.inn (cK (Y.out i) k).to.toNat))),(5,U (((Y.cs (cK (Y.out i) k).to.toNat).take j).foldl (zeu (j6 L i (only L (cK (Y.out i) k).to.toNat) (Y.inn (cK (Y.out i) k).to.toNat)) (only L (cK (Y.out i) k).to.toNat)) (((Y.out i).take k).foldl (lT Y L i) 0#64))),(105, .slice BC (Y.cs (cK (Y.out i) k).to.toNat).length cpC),(106, .int .i64 ((Y.cs (cK (Y.out i) k).to.toNat).length:Int)),(107, .int .i64 (j:Int))]) (fun j=>[.row g7 102 [.int .i64 (cK (Y.out i) k).to, .int .i64 (cK (Y.out i) k).fr, .int .i64 (cK (Y.out i) k).wt, .int .i64 (cK (Y.out i) k).lo, .int .i64 (cK (Y.out i) k).hi]]) (fun j=>j≤(Y.cs (cK (Y.out i) k).to.toNat).length) (fun j=>(Y.cs (cK (Y.out i) k).to.toNat).length - j) 0 ?_ ?_ ?_ ?_
        ·omega
        ·exact (by repeat (first|exact Sub.nil|refine Sub.cons rfl ?_))
        ·exact Sx
        ·intro j hphi;refine fh ?_;refine T.cond rfl (fun h10=>?_) (fun h10=>?_)
         ·have p10:=h10; (try simp only [cY] at p10);obtain ⟨gc,offc,rfl,hcc⟩:=hslC a5;have hj:=hcc j a5;simp only [Cp.cells] at hj;refine fS ?_;refine q0A ?_;refine cM (iH rfl rfl hj rfl (fun h=>h)) ?_; (refine cO (Wt.none) rfl rfl (Ew.alloc) ?_;rintro _ _ ⟨g13,rfl,rfl⟩); (refine dN (Wt.none) rfl (dx 0) ?_;rintro _ _ ⟨rfl,rfl⟩);refine d8 ?_;refine ei ?_;refine eR ?_;refine du rfl rfl rfl (fun h11=>?_) (fun h11=>?_)
          ·have p11:=h11; (try simp only [cY] at p11);refine c7 (Wt.some rfl rfl rfl h11) rfl rfl (d5) ?_;refine c7 (Wt.some rfl rfl rfl h11) rfl rfl (Yv.fieldAddr) ?_;refine c7 (Wt.some rfl rfl rfl h11) rfl rfl (c9 0) ?_;refine c7 (Wt.some rfl rfl rfl h11) rfl rfl (d5) ?_;refine cM (eT rfl rfl h11) ?_;refine df ?_;refine du rfl rfl rfl (fun h12=>?_) (fun h12=>?_)
           ·have p12:=h12; (try simp only [cY] at p12);refine c7 (Wt.some rfl rfl rfl h12) rfl rfl (d5) ?_;refine c7 (Wt.some rfl rfl rfl h12) rfl rfl (Yv.fieldAddr) ?_;refine c7 (Wt.some rfl rfl rfl h12) rfl rfl (c9 0) ?_;refine c7 (Wt.some rfl rfl rfl h12) rfl rfl (d5) ?_;refine cM (eT rfl rfl h12) ?_;refine db ?_;refine T.cond rfl (fun h13=>?_) (fun h13=>?_)
            ·have p13:=h13; (try simp only [cY] at p13);refine ji ?_;refine cM (im (a:=1#64) (only L (cK (Y.out i) k).to.toNat) rfl rfl rfl rfl a5) ?_;refine q3M ?_;exact K.next (j+1) a5 a5 (by rw [jy _ _ a5,zeu];split <;> first|(exfalso;omega)|exact (by repeat (first|exact Sub.nil|refine Sub.cons rfl ?_))) Sx
            ·have p13:=h13; (try simp only [cY] at p13);refine iE ?_;exact K.next (j+1) a5 a5 (by rw [jy _ _ a5,zeu];split <;> first|(exfalso;omega)|exact (by repeat (first|exact Sub.nil|refine Sub.cons rfl ?_))) Sx
           ·have p12:=h12; (try simp only [cY] at p12);refine q3r ?_;refine q3r ?_;refine cM (eu rfl rfl h12) ?_;refine nH ?_;refine iE ?_;exact K.next (j+1) a5 a5 (by rw [jy _ _ a5,zeu];split <;> first|(exfalso;omega)|exact (by repeat (first|exact Sub.nil|refine Sub.cons rfl ?_))) Sx
          ·have p11:=h11; (try simp only [cY] at p11);refine q3t ?_;refine q3t ?_;refine cM (eu rfl rfl h11) ?_;refine TL.run 6 rfl ?_;refine nH ?_;refine iE ?_;exact K.next (j+1) a5 a5 (by rw [jy _ _ a5,zeu];split <;> first|(exfalso;omega)|exact (by repeat (first|exact Sub.nil|refine Sub.cons rfl ?_))) Sx
         ·have p10:=h10; (try simp only [cY] at p10);refine T.exit (fP (fP (jd (gB ?_)))); (have hn:=hno;have e:(Y.cs (cK (Y.out i) k).to.toNat).take j=Y.cs (cK (Y.out i) k).to.toNat:=List.take_of_length_le a5;refine K.at ?_ Sx;rw [jy _ _ a5,lT,if_neg hn,e];exact (by repeat (first|exact Sub.nil|refine Sub.cons rfl ?_)))
   ·skip;refine fN ?_;refine kL ?_;exact K.next (k+1) a5 a5 (by repeat (first|exact Sub.nil|refine Sub.cons rfl ?_)) Sx
  ·have p1:=h1; (try simp only [cY] at p1);refine q04 ?_;refine kv ?_;exact cZ rfl rfl (fun w' hw=>⟨by rw [mD,List.take_of_length_le a5],hw.isBelow⟩)
structure GL where
 b:Nat
 c:Nat
structure StF (w0 w:World) (sp:Nat) (gl:GL) (tp:Nat) (Y:Tb) (L:Ws) (c:Bool):Prop where
 tb:TablesAt w0 tp Y
 fr:Fz w0 w
 c0:w.cell? ⟨sp,0,none⟩=some (.pointer (some ⟨tp,0,none⟩))
 c1:w.cell? ⟨sp,1,none⟩=some (.slice (some ⟨gl.b,0,none⟩) L.length gl.c)
 lf:SlOf w (.slice (some ⟨gl.b,0,none⟩) L.length gl.c) Le 1 L
 len:L.length=Y.n
 c2:w.cell? ⟨sp,2,none⟩=some (.bool c)
 tab:Tab w
theorem StF.st {w0 w:World}{sp:Nat}{gl:GL}{tp:Nat}{Y:Tb}{L:Ws}{c:Bool}(h:StF w0 w sp gl tp Y L c):StateAt w sp Y L c:=
 ⟨h.tab,⟨tp,h.c0,h.tb.later h.fr⟩,⟨_,h.c1,h.lf⟩,h.len,h.c2⟩
theorem StF.kept {w0 w w':World}{M:Nat→Prop}{hs:HS}{sp:Nat}{gl:GL}{tp:Nat}{Y:Tb}{L:Ws}{c:Bool}(h:StF w0 w sp gl tp Y L c)(hw:Hp w M hs w')(h0:∀g,M g→¬jK w0 g)(h1:¬M sp)(h2:¬M gl.b)(h3:¬M 0):StF w0 w' sp gl tp Y L c:=
 ⟨h.tb,Fz.hp h.fr hw h0,hw.cellB h.c0 h1,hw.cellB h.c1 h1,h.lf.keptM hw (fun g hg=>by simp [Value.ownBlock] at hg;subst hg;exact h2),h.len,hw.cellB h.c2 h1,h.tab.kept hw h3⟩
def kz (Y:Tb)(L:Ws)(i:Nat)(ws:Ws):Ws:=
 if (only L i:Int)=0 then ws else
  (Y.out i).foldl (fun s x=>if (only L x.to.toNat:Int)=0 then dX s x.to.toNat else (Y.inn x.to.toNat).foldl (fun s o=>dX s o.fr.toNat) (dX s x.to.toNat))
   ((Y.inn i).foldl (fun s x=>dX s x.fr.toNat) ((Y.ps i).foldl (fun s x=>dX s (x.a+x.b - (i:Int)).toNat) ws))
theorem zgz {α:Type}(f:Ws→α→Ws)(hf:∀s x,(f s x).length=s.length):∀(l:List α) (s:Ws),(l.foldl f s).length=s.length
 | [],_=>rfl
 |x :: r,s=>by rw [List.foldl_cons,zgz f hf r,hf]
theorem zdu (l:List Ld)(s:Ws):(l.foldl (fun s x=>dX s x.fr.toNat) s).length=s.length:=zgz _ (fun _ _=>lY) l s
theorem zdm (i:Int)(l:List Pr)(s:Ws):(l.foldl (fun s x=>dX s (x.a+x.b - (i:Int)).toNat) s).length=s.length:=zgz _ (fun _ _=>lY) l s
def mC (Y:Tb)(L:Ws)(s:Ws)(x:Ld):Ws:=if (only L x.to.toNat:Int)=0 then dX s x.to.toNat else (Y.inn x.to.toNat).foldl (fun s o=>dX s o.fr.toNat) (dX s x.to.toNat)
theorem zgU {Y:Tb}{L s:Ws}{x:Ld}:(mC Y L s x).length=s.length:=by
 unfold mC;split
 ·exact lY
 ·rw [zdu,lY]
theorem zf5 (Y:Tb)(L:Ws)(l:List Ld)(s:Ws):(l.foldl (mC Y L) s).length=s.length:=zgz _ (fun _ _=>zgU) l s
theorem zfW (Y:Tb)(L:Ws)(i:Nat)(ws:Ws):(kz Y L i ws).length=ws.length:=by
 unfold kz;split
 ·rfl
 ·exact (zf5 Y L _ _).trans ((zdu _ _).trans (zdm _ _ _))
theorem zfy (ws:Ws)(hws:ws.length=8)(j:Nat)(hj:j<512)(z:Int)(hz:z=(j:Int))(p q:Nat)(w:World)(hq:w.cell? ⟨q,0,none⟩=some (.pointer (some ⟨p,0,none⟩)))(hqp:q≠p)(hp:(Ent.row p 83 ws.cells).ok w):Calls Tryz.prog 167 #[.int .i64 z, .pointer (some ⟨q,0,none⟩)] w fun e w'=>∃y:Unit,True∧e= .returned (.tuple #[])∧Hp w (Ent.row p 83 ws.cells).fp [.row p 83 (Ws.cells (dX ws j))] w':=by
 subst hz;refine dv (M:=(Ent.row p 83 ws.cells).fp) (hs:=[Ent.row p 83 ws.cells]) Tryz.func167 rfl rfl rfl (Hp.start hp) ?_;refine dM (sN 0 3 (.still 4 (.eff 3 (.eff 5 (sN 6 4 (.eff 10 .done)))))) [] a7 Sx ?_;refine cT rfl (dV rfl rfl hq (fun hh=>hqp (cU.1 hh))) ?_;refine cT rfl (dV rfl rfl hq (fun hh=>hqp (cU.1 hh))) ?_;refine gQ ?_;refine dD ?_;refine eQ rfl (Wt.none) rfl rfl (d7 0 rfl rfl rfl (by rw [List.length_map,hws])) Sx ?_;refine dD ?_; (refine dd rfl (Wt.none) rfl rfl (cN rfl rfl rfl (fun w hw=>zou ws hws j hj w)) ?_;rintro _ _ ⟨rfl,rfl⟩;refine ⟨Sx,?_⟩);refine TS.run 4 rfl ?_;refine dD ?_; (refine dL rfl (Wt.none) rfl (dx 0 rfl rfl rfl rfl (by rw [List.length_map,lY,hws]) (by rw [List.length_map,List.length_map,lY])) ?_;rintro _ _ ⟨rfl,rfl⟩;refine ⟨Sx,?_⟩);refine fQ ?_;exact mB rfl (fun w' hw=>⟨(),trivial,rfl,hw⟩)
theorem ziB (w0:World)(sp:Nat)(gl:GL)(tp p:Nat)(Y:Tb)(L:Ws)(c:Bool)(ws:Ws)(hws:ws.length=8)(i:Nat)(z:Int)(hz:z=(i:Int))(hi:i<Y.n)(w:World)(h:StF w0 w sp gl tp Y L c)(hok:Y.Ok)(hpN:¬jK w0 p)(hp0:p≠0)(hsp:sp≠p)(hgl:gl.b≠p)(hp:(Ent.row p 83 ws.cells).ok w):Calls Tryz.prog 157 #[.pointer (some ⟨sp,0,none⟩), .int .i64 z, .pointer (some ⟨p,0,none⟩)] w fun e w'=>∃y:Unit,True∧e= .returned (.tuple #[])∧Hp w (Ent.row p 83 ws.cells).fp [.row p 83 (Ws.cells (kz Y L i ws))] w':=by
 subst hz;obtain ⟨hTb,hfr,hsp0,hsp1,hlf,hLn,hsp2,htab⟩:=id h;have hT:=hTb;have hn512:=hok.n;obtain ⟨hlenP,hrngP⟩:=hok.ps i hi;obtain ⟨hlenI,hrngI⟩:=hok.inn i hi;obtain ⟨hlenO,hrngO⟩:=hok.out i hi;obtain ⟨vP,hP0,hP⟩:=hT.ps.at';obtain ⟨AP,capP,rfl,hPs⟩:=hP.op;have hPn:=hT.ps.len;obtain ⟨gP,oP,rfl,hPc⟩:=hPs a5;rw [hPn] at hP0;have hPi:=hPc i (by rw [hPn];exact hi);obtain ⟨BP,cpP,hvP,hslP⟩:=(hT.ps.each i hi).op;simp only [hvP] at hPi;obtain ⟨vI,hI0,hI⟩:=hT.inn.at';obtain ⟨AI,capI,rfl,hIs⟩:=hI.op;have hIn:=hT.inn.len;obtain ⟨gI,oI,rfl,hIc⟩:=hIs a5;rw [hIn] at hI0;have hIi:=hIc i (by rw [hIn];exact hi);obtain ⟨BI,cpI,hvI,hslI⟩:=(hT.inn.each i hi).op;simp only [hvI] at hIi;obtain ⟨vO,hO0,hO⟩:=hT.out.at';obtain ⟨AO,capO,rfl,hOs⟩:=hO.op;have hOn:=hT.out.len;obtain ⟨gO,oO,rfl,hOc⟩:=hOs a5;rw [hOn] at hO0;have hOi:=hOc i (by rw [hOn];exact hi);obtain ⟨BO,cpO,hvO,hslO⟩:=(hT.out.each i hi).op;simp only [hvO] at hOi;have hkeep:∀hs w',Hp w (Ent.row p 83 ws.cells).fp hs w'→StateAt w' sp Y L c:=fun hs w' hw=>(h.kept hw (fun g hg=>by rw [cU.1 hg];exact hpN) (fun hg=>hsp (cU.1 hg)) (fun hg=>hgl (cU.1 hg)) (fun hg=>hp0 (cU.1 hg).symm)).st;refine dv (M:=(Ent.row p 83 ws.cells).fp) (hs:=[Ent.row p 83 ws.cells]) Tryz.func157 rfl rfl rfl (Hp.start hp) ?_;refine dq ?_; (refine cO (Wt.none) rfl rfl (Ew.box rfl rfl) ?_;rintro _ _ ⟨g5,rfl,rfl⟩);refine i5 ?_;refine eg ?_; (refine cO (Wt.none) rfl rfl (cN rfl rfl rfl (fun w hw=>zdE sp Y L c i _ rfl hi w (hkeep _ _ hw))) ?_;rintro _ _ ⟨rfl,rfl⟩);refine dB ?_;refine T.cond rfl (fun h1=>?_) (fun h1=>?_)
 ·have p1:=h1; (try simp only [cY] at p1);refine T.ret (d6 ?_);exact K.bS rfl (fun w' hw=>⟨(),trivial,rfl,by rw [kz,if_pos p1];exact hw.sub Sx⟩)
 ·have p1:=h1; (try simp only [cY] at p1);refine i7 ?_;refine jB ?_;refine T.cut (gs:=[(0, .pointer (some ⟨sp,0,none⟩)),(1, .int .i64 (i:Int)),(6, .func (.func 167) #[] #[.pointer (some ⟨g5,0,none⟩)])]) (hs':=[.row g5 220 [.pointer (some ⟨p,0,none⟩)], .row p 83 (Ws.cells ((Y.ps i).foldl (fun s x=>dX s (x.a+x.b - (i:Int)).toNat) ws))]) ?_ ?_
  ·skip;refine q2S ?_;refine cM (dV rfl rfl (hfr.cell hP0) (fun hh=>hpN (by have:=zeU hP0;rw [←cU.1 hh];exact this))) ?_;refine mf ?_;refine cM (ed (j:=0) rfl rfl (Fz.cs hfr hPi) rfl rfl (fun hh=>hpN (by have:=je hPi a8;rw [←cU.1 hh];exact this))) ?_;refine ki ?_;refine T.loop (ι:=Nat) (fun k=>[(0, .pointer (some ⟨sp,0,none⟩)),(1, .int .i64 (i:Int)),(6, .func (.func 167) #[] #[.pointer (some ⟨g5,0,none⟩)]),(29, .slice BP (Y.ps i).length cpP),(30, .int .i64 ((Y.ps i).length:Int)),(31, .int .i64 (k:Int))]) (fun k=>[.row g5 220 [.pointer (some ⟨p,0,none⟩)], .row p 83 (Ws.cells (((Y.ps i).take k).foldl (fun s x=>dX s (x.a+x.b - (i:Int)).toNat) ws))]) (fun k=>k≤(Y.ps i).length) (fun k=>(Y.ps i).length - k) 0 ?_ ?_ ?_ ?_
   ·omega
   ·exact (by repeat (first|exact Sub.nil|refine Sub.cons rfl ?_))
   ·exact Sx
   ·intro k hphi;refine fh ?_;refine T.cond rfl (fun h2=>?_) (fun h2=>?_)
    ·have p2:=h2; (try simp only [cY] at p2);obtain ⟨ghk,offhk,rfl,hc⟩:=hslP a5;have hk:=hc k a5;simp only [Pr.cells] at hk;have hrhk:=hrngP _ (i6 (xs:=Y.ps i) (k:=k) a5);refine fS ?_;refine q2v ?_; (refine cO (Wt.none) rfl rfl (Ew.alloc) ?_;rintro _ _ ⟨g8,rfl,rfl⟩); (refine dN (Wt.none) rfl (dx 0) ?_;rintro _ _ ⟨rfl,rfl⟩);refine db (T.region ?_);refine df ?_;refine ei ?_;refine ei ?_;refine q0d ?_;refine df ?_;refine q2x ?_; (refine cO (Wt.none) rfl rfl (mj 2 rfl rfl rfl rfl (fun w hw=>zfy (((Y.ps i).take k).foldl (fun s x=>dX s (x.a+x.b - (i:Int)).toNat) ws) (by rw [zdm,hws]) ((cK (Y.ps i) k).a+(cK (Y.ps i) k).b - (i:Int)).toNat a5 _ a5 p g5 w (jS (c4.1 (hw.get (i:=1) rfl)) 0) (fun hh=>hw.ne (i:=1) (j:=2) a5 rfl rfl (g:=g5) (cU.2 rfl) (cU.2 hh)) (hw.get (i:=2) rfl))) ?_;rintro _ _ ⟨-, -,rfl,rfl⟩);refine kA ?_;exact K.next (k+1) a5 a5 (by repeat (first|exact Sub.nil|refine Sub.cons rfl ?_)) (by rw [jy _ _ a5];exact Sx)
    ·have p2:=h2; (try simp only [cY] at p2);refine eE ?_;exact K.at (by repeat (first|exact Sub.nil|refine Sub.cons rfl ?_)) (by rw [show (Y.ps i).take k=Y.ps i from List.take_of_length_le a5];exact Sx)
  ·skip;refine T.cut (gs:=[(0, .pointer (some ⟨sp,0,none⟩)),(1, .int .i64 (i:Int)),(6, .func (.func 167) #[] #[.pointer (some ⟨g5,0,none⟩)])]) (hs':=[.row g5 220 [.pointer (some ⟨p,0,none⟩)], .row p 83 (Ws.cells ((Y.inn i).foldl (fun s x=>dX s x.fr.toNat) ((Y.ps i).foldl (fun s x=>dX s (x.a+x.b - (i:Int)).toNat) ws)))]) ?_ ?_
   ·skip;refine q2S ?_;refine cM (dV rfl rfl (hfr.cell hI0) (fun hh=>hpN (by have:=zeU hI0;rw [←cU.1 hh];exact this))) ?_;refine mf ?_;refine cM (ed (j:=0) rfl rfl (Fz.cs hfr hIi) rfl rfl (fun hh=>hpN (by have:=je hIi a8;rw [←cU.1 hh];exact this))) ?_;refine ki ?_;refine T.loop (ι:=Nat) (fun k=>[(0, .pointer (some ⟨sp,0,none⟩)),(1, .int .i64 (i:Int)),(6, .func (.func 167) #[] #[.pointer (some ⟨g5,0,none⟩)]),(54, .slice BI (Y.inn i).length cpI),(55, .int .i64 ((Y.inn i).length:Int)),(56, .int .i64 (k:Int))]) (fun k=>[.row g5 220 [.pointer (some ⟨p,0,none⟩)], .row p 83 (Ws.cells (((Y.inn i).take k).foldl (fun s x=>dX s x.fr.toNat) ((Y.ps i).foldl (fun s x=>dX s (x.a+x.b - (i:Int)).toNat) ws)))]) (fun k=>k≤(Y.inn i).length) (fun k=>(Y.inn i).length - k) 0 ?_ ?_ ?_ ?_
    ·omega
    ·exact (by repeat (first|exact Sub.nil|refine Sub.cons rfl ?_))
    ·exact Sx
    ·intro k hphi;refine fh ?_;refine T.cond rfl (fun h3=>?_) (fun h3=>?_)
     ·have p3:=h3; (try simp only [cY] at p3);obtain ⟨ghk,offhk,rfl,hc⟩:=hslI a5;have hk:=hc k a5;simp only [Ld.cells] at hk;have hrhk:=hrngI _ (i6 (xs:=Y.inn i) (k:=k) a5);refine fS ?_;refine q2v ?_; (refine cO (Wt.none) rfl rfl (Ew.alloc) ?_;rintro _ _ ⟨g10,rfl,rfl⟩); (refine dN (Wt.none) rfl (dx 0) ?_;rintro _ _ ⟨rfl,rfl⟩);refine db (T.region ?_);refine df ?_;refine ei ?_; (refine cO (Wt.none) rfl rfl (mj 2 rfl rfl rfl rfl (fun w hw=>zfy (((Y.inn i).take k).foldl (fun s x=>dX s x.fr.toNat) ((Y.ps i).foldl (fun s x=>dX s (x.a+x.b - (i:Int)).toNat) ws)) (by rw [zdu,zdm,hws]) (cK (Y.inn i) k).fr.toNat a5 _ a5 p g5 w (jS (c4.1 (hw.get (i:=1) rfl)) 0) (fun hh=>hw.ne (i:=1) (j:=2) a5 rfl rfl (g:=g5) (cU.2 rfl) (cU.2 hh)) (hw.get (i:=2) rfl))) ?_;rintro _ _ ⟨-, -,rfl,rfl⟩);refine kA ?_;exact K.next (k+1) a5 a5 (by repeat (first|exact Sub.nil|refine Sub.cons rfl ?_)) (by rw [jy _ _ a5];exact Sx)
     ·have p3:=h3; (try simp only [cY] at p3);refine eE ?_;exact K.at (by repeat (first|exact Sub.nil|refine Sub.cons rfl ?_)) (by rw [show (Y.inn i).take k=Y.inn i from List.take_of_length_le a5];exact Sx)
   ·skip;refine q2S ?_;refine cM (dV rfl rfl (hfr.cell hO0) (fun hh=>hpN (by have:=zeU hO0;rw [←cU.1 hh];exact this))) ?_;refine mf ?_;refine cM (ed (j:=0) rfl rfl (Fz.cs hfr hOi) rfl rfl (fun hh=>hpN (by have:=je hOi a8;rw [←cU.1 hh];exact this))) ?_;refine ki ?_;refine T.loop (ι:=Nat) (fun k=>[(0, .pointer (some ⟨sp,0,none⟩)),(1, .int .i64 (i:Int)),(6, .func (.func 167) #[] #[.pointer (some ⟨g5,0,none⟩)]),(74, .slice BO (Y.out i).length cpO),(75, .int .i64 ((Y.out i).length:Int)),(76, .int .i64 (k:Int))]) (fun k=>[.row g5 220 [.pointer (some ⟨p,0,none⟩)], .row p 83 (Ws.cells (((Y.out i).take k).foldl (mC Y L) ((Y.inn i).foldl (fun s x=>dX s x.fr.toNat) ((Y.ps i).foldl (fun s x=>dX s (x.a+x.b - (i:Int)).toNat) ws))))]) (fun k=>k≤(Y.out i).length) (fun k=>(Y.out i).length - k) 0 ?_ ?_ ?_ ?_
    ·omega
    ·exact (by repeat (first|exact Sub.nil|refine Sub.cons rfl ?_))
    ·exact Sx
    ·intro k hphi;refine fh ?_;refine T.cond rfl (fun h4=>?_) (fun h4=>?_)
     ·have p4:=h4; (try simp only [cY] at p4);obtain ⟨ghk,offhk,rfl,hc⟩:=hslO a5;have hk:=hc k a5;simp only [Ld.cells] at hk;have hrhk:=hrngO _ (i6 (xs:=Y.out i) (k:=k) a5); (have htn:(cK (Y.out i) k).to.toNat<Y.n:=by omega);obtain ⟨hlenI2,hrngI2⟩:=hok.inn _ htn;have hIi2:=hIc (cK (Y.out i) k).to.toNat (by rw [hIn];exact htn);obtain ⟨BI2,cpI2,hvI2,hslI2⟩:=(hT.inn.each (cK (Y.out i) k).to.toNat htn).op;simp only [hvI2] at hIi2;refine mP ?_;refine T.cut (gs:=[(0, .pointer (some ⟨sp,0,none⟩)),(1, .int .i64 (i:Int)),(6, .func (.func 167) #[] #[.pointer (some ⟨g5,0,none⟩)]),(74, .slice (some ⟨ghk,offhk,none⟩) (Y.out i).length cpO),(75, .int .i64 ((Y.out i).length:Int)),(76, .int .i64 (k:Int))]) (hs':=[.row g5 220 [.pointer (some ⟨p,0,none⟩)], .row p 83 (Ws.cells (((Y.out i).take (k+1)).foldl (mC Y L) ((Y.inn i).foldl (fun s x=>dX s x.fr.toNat) ((Y.ps i).foldl (fun s x=>dX s (x.a+x.b - (i:Int)).toNat) ws))))]) ?_ ?_
      ·skip;refine T.block (dq ?_);refine q2v ?_; (refine cO (Wt.none) rfl rfl (Ew.alloc) ?_;rintro _ _ ⟨g12,rfl,rfl⟩); (refine dN (Wt.none) rfl (dx 0) ?_;rintro _ _ ⟨rfl,rfl⟩);refine j9 ?_;refine ei ?_; (refine cO (Wt.none) rfl rfl (mj 2 rfl rfl rfl rfl (fun w hw=>zfy (((Y.out i).take k).foldl (mC Y L) ((Y.inn i).foldl (fun s x=>dX s x.fr.toNat) ((Y.ps i).foldl (fun s x=>dX s (x.a+x.b - (i:Int)).toNat) ws))) (by rw [zf5,zdu,zdm,hws]) (cK (Y.out i) k).to.toNat a5 _ a5 p g5 w (jS (c4.1 (hw.get (i:=1) rfl)) 0) (fun hh=>hw.ne (i:=1) (j:=2) a5 rfl rfl (g:=g5) (cU.2 rfl) (cU.2 hh)) (hw.get (i:=2) rfl))) ?_;rintro _ _ ⟨-, -,rfl,rfl⟩);refine j9 ?_;refine ei ?_; (refine cO (Wt.none) rfl rfl (cN rfl rfl rfl (fun w hw=>zdE sp Y L c ((cK (Y.out i) k).to.toNat) _ a5 a5 w (hkeep _ _ hw))) ?_;rintro _ _ ⟨rfl,rfl⟩);refine dB ?_;refine T.cond rfl (fun h5=>?_) (fun h5=>?_)
       ·have p5:=h5; (try simp only [cY] at p5); (have hno:¬(only L ((cK (Y.out i) k).to.toNat):Int)=0:=by assumption);refine T.seq ?_;refine q1f ?_;refine jT ?_;refine cT rfl (dV rfl rfl hsp0 (fun hh=>hsp (cU.1 hh))) ?_;refine fF ?_;refine gr ?_;refine cT rfl (dV rfl rfl (hfr.cell hI0) (fun hh=>hpN (by have:=zeU hI0;rw [←cU.1 hh];exact this))) ?_;refine q2u ?_;refine cT rfl (ed (j:=0) rfl rfl (Fz.cs hfr hIi2) rfl rfl (fun hh=>hpN (by have:=je hIi2 a8;rw [←cU.1 hh];exact this))) ?_;refine q4m ?_;refine T.loop (ι:=Nat) (fun j=>[(0, .pointer (some ⟨sp,0,none⟩)),(1, .int .i64 (i:Int)),(6, .func (.func 167) #[] #[.pointer (some ⟨g5,0,none⟩)]),(74, .slice (some ⟨ghk,offhk,none⟩) (Y.out i).length cpO),(75, .int .i64 ((Y.out i).length:Int)),(76, .int .i64 (k:Int)),(99, .slice BI2 (Y.inn (cK (Y.out i) k).to.toNat).length cpI2),(100, .int .i64 ((Y.inn (cK (Y.out i) k).to.toNat).length:Int)),(101, .int .i64 (j:Int))]) (fun j=>[.row g5 220 [.pointer (some ⟨p,0,none⟩)], .row p 83 (Ws.cells (((Y.inn (cK (Y.out i) k).to.toNat).take j).foldl (fun s o=>dX s o.fr.toNat) (dX (((Y.out i).take k).foldl (mC Y L) ((Y.inn i).foldl (fun s x=>dX s x.fr.toNat) ((Y.ps i).foldl (fun s x=>dX s (x.a+x.b - (i:Int)).toNat) ws))) (cK (Y.out i) k).to.toNat)))]) (fun j=>j≤(Y.inn (cK (Y.out i) k).to.toNat).length) (fun j=>(Y.inn (cK (Y.out i) k).to.toNat).length - j) 0 ?_ ?_ ?_ ?_
        ·omega
        ·exact (by repeat (first|exact Sub.nil|refine Sub.cons rfl ?_))
        ·exact Sx
        ·intro j hphi;refine fh ?_;refine T.cond rfl (fun h6=>?_) (fun h6=>?_)
         ·have p6:=h6; (try simp only [cY] at p6);obtain ⟨ghj,offhj,rfl,hcj⟩:=hslI2 a5;have hj:=hcj j a5;simp only [Ld.cells] at hj;have hrhj:=hrngI2 _ (i6 (xs:=Y.inn (cK (Y.out i) k).to.toNat) (k:=j) a5);refine fS ?_;refine q0A ?_;refine cM (iH rfl rfl (Fz.cs hfr hj) rfl (fun hh=>hpN (by have:=je hj a8;rw [←cU.1 hh];exact this))) ?_; (refine cO (Wt.none) rfl rfl (Ew.alloc) ?_;rintro _ _ ⟨g14,rfl,rfl⟩); (refine dN (Wt.none) rfl (dx 0) ?_;rintro _ _ ⟨rfl,rfl⟩);refine db (T.region ?_);refine df ?_;refine ei ?_; (refine cO (Wt.none) rfl rfl (mj 2 rfl rfl rfl rfl (fun w hw=>zfy (((Y.inn (cK (Y.out i) k).to.toNat).take j).foldl (fun s o=>dX s o.fr.toNat) (dX (((Y.out i).take k).foldl (mC Y L) ((Y.inn i).foldl (fun s x=>dX s x.fr.toNat) ((Y.ps i).foldl (fun s x=>dX s (x.a+x.b - (i:Int)).toNat) ws))) (cK (Y.out i) k).to.toNat)) (by rw [zdu,lY,zf5,zdu,zdm,hws]) (cK (Y.inn (cK (Y.out i) k).to.toNat) j).fr.toNat a5 _ a5 p g5 w (jS (c4.1 (hw.get (i:=1) rfl)) 0) (fun hh=>hw.ne (i:=1) (j:=2) a5 rfl rfl (g:=g5) (cU.2 rfl) (cU.2 hh)) (hw.get (i:=2) rfl))) ?_;rintro _ _ ⟨-, -,rfl,rfl⟩);refine kA ?_;exact K.next (j+1) a5 a5 (by repeat (first|exact Sub.nil|refine Sub.cons rfl ?_)) (by rw [jy _ _ a5];exact Sx)
         ·have p6:=h6; (try simp only [cY] at p6);refine T.exit (fP (fP (jd (gB ?_)))); (have hy:=hno;refine K.at (by repeat (first|exact Sub.nil|refine Sub.cons rfl ?_)) ?_;rw [jy _ _ a5,mC,if_neg hy,show (Y.inn (cK (Y.out i) k).to.toNat).take j=Y.inn (cK (Y.out i) k).to.toNat from List.take_of_length_le a5];exact Sx)
       ·have p5:=h5; (try simp only [cY] at p5); (have hyes:(only L ((cK (Y.out i) k).to.toNat):Int)=0:=by assumption);refine T.skip (gB ?_); (have hy:=hyes;refine K.at (by repeat (first|exact Sub.nil|refine Sub.cons rfl ?_)) ?_;rw [jy _ _ a5,mC,if_pos hy];exact Sx)
      ·skip;refine fN ?_;refine kL ?_;exact K.next (k+1) a5 a5 (by repeat (first|exact Sub.nil|refine Sub.cons rfl ?_)) Sx
     ·have p4:=h4; (try simp only [cY] at p4);refine eE ?_;exact mB rfl (fun w' hw=>⟨(),trivial,rfl,by rw [kz,if_neg p1];rw [show (Y.out i).take k=Y.out i from List.take_of_length_le a5] at hw;exact hw.sub Sx⟩)
def jA (Y:Tb)(L:Ws)(i:Nat):BitVec 64:=mI Y L i ||| lj Y L i ||| mD Y L i
theorem zbQ {α β:Type}{f g:β→α→β}:∀(l:List α) (z:β),(∀x∈l,∀s,f s x=g s x)→l.foldl f z=l.foldl g z
 | [],_,_=>rfl
 |x :: r,z,h=>by rw [List.foldl_cons,List.foldl_cons,h x a8 z];exact zbQ r _ (fun y hy=>h y (by simp [hy]))
structure Alike (Y:Tb) (L L':Ws) (k:Nat):Prop where
 ps:∀x∈Y.ps k,(x.a=(k:Int)→only L' x.b.toNat=only L x.b.toNat)∧(x.a≠(k:Int)→only L' x.a.toNat=only L x.a.toNat)
 inn:∀x∈Y.inn k,only L' x.fr.toNat=only L x.fr.toNat
 out:∀x∈Y.out k,only L' x.to.toNat=only L x.to.toNat∧(only L x.to.toNat≠0→∀o∈Y.inn x.to.toNat,o.fr≠(k:Int)→only L' o.fr.toNat=only L o.fr.toNat)
theorem zgO {Y:Tb}{L L':Ws}{k:Nat}(h:Alike Y L L' k)(hlo:∀x∈Y.out k,2≤x.lo):jA Y L' k=jA Y L k:=by
 have e1:mI Y L' k=mI Y L k:=zbQ _ _ fun x hx s=>by
  have:=h.ps x hx;unfold mT;by_cases ha:x.a=(k:Int)
  ·rw [if_pos ha,if_pos ha,this.1 ha]
  ·rw [if_neg ha,if_neg ha,this.2 ha]
 have e2:lj Y L' k=lj Y L k:=by
  have:iF L' (Y.inn k)=iF L (Y.inn k):=zbQ _ _ fun x hx s=>by
   funext d
   unfold kg;rw [h.inn x hx]
  unfold lj;rw [this]
 have e3:mD Y L' k=mD Y L k:=zbQ _ _ fun x hx s=>by
  have ho:=h.out x hx;unfold lT;rw [ho.1];by_cases hz:only L x.to.toNat=0
  ·have:=hlo x hx;rw [if_pos (.inl (.inl (by rw [hz];show (0:Int)<_;omega))),if_pos (.inl (.inl (by rw [hz];show (0:Int)<_;omega)))]
  ·have e:j6 L' k (only L x.to.toNat) (Y.inn x.to.toNat)=j6 L k (only L x.to.toNat) (Y.inn x.to.toNat):=zbQ _ _ fun o ho' s=>by
    unfold j4;by_cases hk:o.fr=(k:Int)
    ·simp [hk]
    ·rw [ho.2 hz o ho' hk]
   rw [e]
 unfold jA;rw [e1,e2,e3]
theorem lq {L:Ws}{i j:Nat}{b:BitVec 64}(hi:i<L.length):cK (L.set i b) j=if j=i then b else cK L j:=by
 unfold cK;rw [List.getD_eq_getElem?_getD,List.getD_eq_getElem?_getD];by_cases h:j=i
 ·subst h;rw [List.getElem?_set_self hi,if_pos rfl];rfl
 ·rw [List.getElem?_set_ne (fun e=>h e.symm),if_neg h]
theorem zeK {L:Ws}{i j:Nat}{b:BitVec 64}(hi:i<L.length)(h:j≠i):only (L.set i b) j=only L j:=by
 unfold only;rw [lq hi,if_neg h]
theorem zhn {Y:Tb}{L:Ws}{i:Nat}{b:BitVec 64}(hok:Y.Ok)(hi:i<Y.n)(hl:L.length=Y.n):mI Y (L.set i b) i=mI Y L i∧lj Y (L.set i b) i=lj Y L i∧mD Y (L.set i b) i=mD Y L i:=by
 (have hil:i<L.length:=by omega);refine ⟨zbQ _ _ fun x hx s=>?_,?_,zbQ _ _ fun x hx s=>?_⟩
 ·have h1:=(hok.psS i hi x hx).1;have h2:=(hok.ps i hi).2 x hx;unfold mT;by_cases ha:x.a=(i:Int)
  ·rw [if_pos ha,if_pos ha,zeK hil a5]
  ·rw [if_neg ha,if_neg ha,zeK hil a5]
 ·have:iF (L.set i b) (Y.inn i)=iF L (Y.inn i):=zbQ _ _ fun x hx s=>by
   have h1:=(hok.innS i hi x hx).1;have h2:=(hok.inn i hi).2 x hx
   funext d
   unfold kg;rw [zeK hil a5]
  unfold lj;rw [this]
 ·have h1:=(hok.outS i hi x hx).1;have h2:=(hok.out i hi).2 x hx;unfold lT;rw [zeK hil a5]
  have e:j6 (L.set i b) i (only L x.to.toNat) (Y.inn x.to.toNat)=j6 L i (only L x.to.toNat) (Y.inn x.to.toNat):=zbQ _ _ fun o ho s=>by
   have h3:=(hok.inn _ a5).2 o ho;unfold j4;by_cases hk:o.fr=(i:Int)
   ·simp [hk]
   ·rw [zeK hil a5]
  rw [e]
def ziD (Y:Tb)(L:Ws)(i:Nat):Prop:=cK L i≠0#64∧cK L i &&& jA Y L i=0#64
theorem zkM {α:Type}(f:α→Nat)(hf:∀_:α,True):∀(l:List α) (s:Ws),s.length=8→(∀x∈l,f x<512)→∀j,j<512→(eO (l.foldl (fun s x=>dX s (f x)) s) j=true↔eO s j=true∨∃x∈l,f x=j)
 | [],s,_,_,j,_=>by simp
 |x :: r,s,hs,hx,j,hj=>by
  rw [List.foldl_cons,zkM f hf r _ (by rw [lY,hs]) (fun y hy=>hx y (by simp [hy])) j hj,zgA hs (hx x a8) hj];simp only [Bool.or_eq_true,decide_eq_true_eq,List.mem_cons];constructor
  ·rintro ((h|h)|⟨y,hy,h⟩)
   ·exact .inl h
   ·exact .inr ⟨x, .inl rfl,h⟩
   ·exact .inr ⟨y, .inr hy,h⟩
  ·rintro (h|⟨y,rfl|hy,h⟩)
   ·exact .inl (.inl h)
   ·exact .inl (.inr h)
   ·exact .inr ⟨y,hy,h⟩
def nf (Y:Tb)(L:Ws)(i j:Nat):Prop:=
 (∃x∈Y.ps i,(x.a+x.b - (i:Int)).toNat=j)∨(∃x∈Y.inn i,x.fr.toNat=j)∨(∃x∈Y.out i,x.to.toNat=j∨(only L x.to.toNat≠0∧∃o∈Y.inn x.to.toNat,o.fr.toNat=j))
theorem znY {Y : Tb} {L : Ws} : ∀ (l : List Ld) (s : Ws), s.length = 8 → (∀ x ∈ l, x.to.toNat < 512 ∧ ∀ o ∈ Y.inn x.to.toNat, o.fr.toNat < 512) → ∀ j, j < 512 →
    (eO (l.foldl (mC Y L) s) j = true ↔ eO s j = true ∨ ∃ x ∈ l, x.to.toNat = j ∨ (only L x.to.toNat ≠ 0 ∧ ∃ o ∈ Y.inn x.to.toNat, o.fr.toNat = j))
  | [], s, _, _, j, _ => by simp
  | x :: r, s, hs, hx, j, hj => by
    have h1 := hx x a8; rw [List.foldl_cons, znY r _ (by rw [zgU, hs]) (fun y hy => hx y (by simp [hy])) j hj]
    have e : eO (mC Y L s x) j = true ↔ eO s j = true ∨ (x.to.toNat = j ∨ (only L x.to.toNat ≠ 0 ∧ ∃ o ∈ Y.inn x.to.toNat, o.fr.toNat = j)) := by
      unfold mC; by_cases hz : (only L x.to.toNat : Int) = 0
      · rw [if_pos hz, zgA hs h1.1 hj];simp only [Bool.or_eq_true, decide_eq_true_eq]; constructor
        · rintro (h | h)
          · exact .inl h
          · exact .inr (.inl h)
        · rintro (h | h | h)
          · exact .inl h
          · exact .inr h
          · exact absurd (show only L x.to.toNat = 0 by omega) h.1
      · rw [if_neg hz, zkM (fun o : Ld => o.fr.toNat) (fun _ => trivial) _ _ (by rw [lY, hs]) h1.2 j hj, zgA hs h1.1 hj];simp only [Bool.or_eq_true, decide_eq_true_eq]; constructor
        · rintro ((h | h) | h)
          · exact .inl h
          · exact .inr (.inl h)
          · exact .inr (.inr ⟨by omega, h⟩)
        · rintro (h | h | h)
          · exact .inl (.inl h)
          · exact .inl (.inr h)
          · exact .inr h.2
    rw [e];simp only [List.mem_cons]; constructor
    · rintro ((h | h) | ⟨y, hy, h⟩)
      · exact .inl h
      · exact .inr ⟨x, .inl rfl, h⟩
      · exact .inr ⟨y, .inr hy, h⟩
    · rintro (h | ⟨y, rfl | hy, h⟩)
      · exact .inl (.inl h)
      · exact .inl (.inr h)
      · exact .inr ⟨y, hy, h⟩
theorem zdP {Y:Tb}{L:Ws}{i:Nat}{ws:Ws}(hok:Y.Ok)(hi:i<Y.n)(hws:ws.length=8)(j:Nat)(hj:j<512):eO (kz Y L i ws) j=true↔eO ws j=true∨(only L i≠0∧nf Y L i j):=by
 have hn:=hok.n;unfold kz;by_cases hz:(only L i:Int)=0
 ·rw [if_pos hz];constructor
  ·exact .inl
  ·rintro (h|h)
   ·exact h
   ·exact absurd (show only L i=0 by omega) h.1
 ·rw [if_neg hz];have hp:=(hok.ps i hi).2;have hI:=(hok.inn i hi).2;have hO:=(hok.out i hi).2
  have:=znY (Y:=Y) (L:=L) (Y.out i) ((Y.inn i).foldl (fun s x=>dX s x.fr.toNat) ((Y.ps i).foldl (fun s x=>dX s (x.a+x.b - (i:Int)).toNat) ws)) (by rw [zdu,zdm,hws]) (fun x hx=>by
   have:=hO x hx
   exact ⟨by omega,fun o ho=>by have:=(hok.inn x.to.toNat a5).2 o ho;omega⟩) j hj
  refine Iff.trans this ?_;rw [zkM (fun x:Ld=>x.fr.toNat) (fun _=>trivial) _ _ (by rw [zdm,hws]) (fun x hx=>by have:=hI x hx;omega) j hj,zkM (fun x:Pr=>(x.a+x.b - (i:Int)).toNat) (fun _=>trivial) _ _ hws (fun x hx=>by have:=hp x hx;omega) j hj];unfold nf;constructor
  ·rintro (((h|h)|h)|h)
   ·exact .inl h
   ·exact .inr ⟨by omega, .inl h⟩
   ·exact .inr ⟨by omega, .inr (.inl h)⟩
   ·exact .inr ⟨by omega, .inr (.inr h)⟩
  ·rintro (h|⟨_,h|h|h⟩)
   ·exact .inl (.inl (.inl h))
   ·exact .inl (.inl (.inr h))
   ·exact .inl (.inr h)
   ·exact .inr h
theorem zjw {Y:Tb}{L L':Ws}{i k:Nat}(hok:Y.Ok)(hi:i<Y.n)(hk:k<Y.n)(hki:k≠i)(hsame:∀j,j≠i→only L' j=only L j)(h0:only L i=0)(hfar:¬nf Y L' i k):Alike Y L L' k where
 ps x hx:=by
  have h1:=(hok.ps k hk).2 x hx;have h2:=hok.psS k hk x hx;constructor
  ·intro ha;by_cases hb:x.b.toNat=i
   ·exact absurd (.inl ⟨x,by rw [←hb];exact h2.2.2,by omega⟩) hfar
   ·exact hsame _ hb
  ·intro ha;by_cases hb:x.a.toNat=i
   ·exact absurd (.inl ⟨x,by rw [←hb];exact h2.2.1,by omega⟩) hfar
   ·exact hsame _ hb
 inn x hx:=by
  have h1:=(hok.inn k hk).2 x hx;by_cases hb:x.fr.toNat=i
  ·exact absurd (.inr (.inr ⟨x,by rw [←hb];exact (hok.innS k hk x hx).2, .inl a5⟩)) hfar
  ·exact hsame _ hb
 out x hx:=by
  have h1:=(hok.out k hk).2 x hx;have h2:=hok.outS k hk x hx;have hto:x.to.toNat≠i:=fun hb=>hfar (.inr (.inl ⟨x,by rw [←hb];exact h2.2,by omega⟩));refine ⟨hsame _ hto,fun hz o ho hok'=>?_⟩;have h3:=(hok.inn x.to.toNat a5).2 o ho;by_cases hb:o.fr.toNat=i
  ·have h4:=(hok.innS x.to.toNat a5 o ho).2;rw [hb] at h4;refine absurd (.inr (.inr ⟨o,h4, .inr ⟨?_,x,?_,by omega⟩⟩)) hfar
   ·rw [show o.to.toNat=x.to.toNat by omega,hsame _ hto];exact hz
   ·rw [show o.to.toNat=x.to.toNat by omega];exact h2.2
  ·exact hsame _ hb
def zlE (L:Ws):Nat:=(L.map fun b=>(dC b).length).sum
theorem dO {b:BitVec 64}{j:Nat}:j∈dC b↔b.getLsbD j=true:=by
 unfold dC;rw [List.mem_filter,List.mem_range'_1];constructor
 ·exact fun h=>h.2
 ·intro h;refine ⟨⟨Nat.zero_le _,?_⟩,h⟩;have:=BitVec.lt_of_getLsbD h;omega
theorem ziA {p q:Nat→Bool}:∀(l:List Nat),(∀x∈l,q x=true→p x=true)→(∃x∈l,p x=true∧q x=false)→(l.filter q).length<(l.filter p).length
 | [],_,h=>by obtain ⟨x,hx,_⟩:=h;cases hx
 |y :: r,h,⟨x,hx,hp,hq⟩=>by
  have hle:∀(l:List Nat),(∀x∈l,q x=true→p x=true)→(l.filter q).length≤(l.filter p).length:=by
   intro l
   induction l with
   |nil=>intro _;simp
   |cons z s ih=>
    intro hz;have h1:=ih (fun x hx=>hz x (by simp [hx]));have h2:=hz z a8
    cases hqz:q z <;> cases hpz:p z <;> simp [hqz,hpz] at h2 ⊢ <;> omega
  have h2:=h y a8;rcases List.mem_cons.1 hx with rfl|hx
  ·rw [List.filter_cons_of_neg (by rw [hq];simp),List.filter_cons_of_pos hp];have:=hle r (fun x hx=>h x (by simp [hx]));simp;omega
  ·have:=ziA r (fun x hx=>h x (by simp [hx])) ⟨x,hx,hp,hq⟩
   cases hqz:q y <;> cases hpz:p y <;> simp [hqz,hpz] at h2 ⊢ <;> omega
theorem zpO {a b:BitVec 64}(h:∀j,a.getLsbD j=true→b.getLsbD j=true)(hne:a≠b):(dC a).length<(dC b).length:=by
 unfold dC;refine ziA _ (fun j _=>h j) ?_;apply Classical.byContradiction;intro hno;apply hne;apply BitVec.eq_of_getLsbD_eq;intro j hj
 cases ha:a.getLsbD j with
 |true=>rw [h j ha]
 |false=>
  cases hb:b.getLsbD j with
  |false=>rfl
  |true=>exact absurd ⟨j,List.mem_range'_1.2 ⟨Nat.zero_le _,by omega⟩,hb,ha⟩ hno
theorem zjg:∀(L:Ws) (i:Nat) (b:BitVec 64),i<L.length→zlE (L.set i b)+(dC (cK L i)).length=zlE L+(dC b).length
 | [],i,b,h=>by simp at h
 |x :: r,0,b,h=>by simp [zlE,cK];omega
 |x :: r,i+1,b,h=>by
  have:=zjg r i b (by simpa using h);simp only [zlE,cK,List.set_cons_succ,List.map_cons,List.sum_cons,List.getD_cons_succ] at this ⊢;omega
inductive Reach (Y:Tb) (L:Ws):Ws→Prop
 |refl:Reach Y L L
 |step {M:Ws} {i:Nat} {b:BitVec 64}:Reach Y L M→i<Y.n→(∀j,b.getLsbD j=true→(jA Y M i).getLsbD j=true)→Reach Y L (M.set i (cK M i &&& ~~~b))
theorem Reach.len {Y:Tb}{L M:Ws}(h:Reach Y L M):M.length=L.length:=by
 induction h with
 |refl=>rfl
 |step _ _ _ ih=>rw [List.length_set,ih]
theorem Reach.sub {Y:Tb}{L M:Ws}(h:Reach Y L M)(hl:L.length=Y.n):∀i j,(cK M i).getLsbD j=true→(cK L i).getLsbD j=true:=by
 induction h with
 |refl=>exact fun _ _ h=>h
 | @step M' k b hr hk _ ih=>
  intro i j hij;rw [lq (by rw [hr.len,hl];exact hk)] at hij
  split at hij
  ·rename_i e;subst e;rw [BitVec.getLsbD_and,Bool.and_eq_true] at hij;exact ih _ _ hij.1
  ·exact ih _ _ hij
structure SInv (Y:Tb) (L0 L:Ws) (q:List Nat) (ws:Ws) (c:Bool):Prop where
 reach:Reach Y L0 L
 len:L.length=Y.n
 ws8:ws.length=8
 wsn:∀j,j<512→eO ws j=true→j<Y.n
 qn:∀j∈q,j<Y.n
 q512:q.length≤512
 bad:c=true→∃i,i<Y.n∧cK L i=0#64
 good:c=false→∀i,i<Y.n→i∈q∨eO ws i=true∨ziD Y L i
def smu (L:Ws)(q:List Nat)(ws:Ws):Nat:=zlE L*2000+q.length+(if fu ws=[] then 0 else 600)
theorem znA:fu fL=[]:=zg6 fun j _ _=>zdY j
theorem SInv.refill {Y:Tb}{L0 L:Ws}{ws:Ws}{c:Bool}(h:SInv Y L0 L [] ws c):SInv Y L0 L (fu ws) fL c where
 reach:=h.reach
 len:=h.len
 ws8:=rfl
 wsn j _ hb:=by rw [zdY] at hb;cases hb
 qn j hj:=by obtain ⟨_,h1,h2⟩:=f9.1 hj;exact h.wsn j h1 h2
 q512:=zgC ws 0
 bad:=h.bad
 good hc i hi:=by
  rcases h.good hc i hi with h1|h1|h1
  ·cases h1
  ·have:=h.len;by_cases h512:i<512
   ·exact .inl (f9.2 ⟨Nat.zero_le _,h512,h1⟩)
   ·exfalso;unfold eO cK at h1;rw [List.getD_eq_getElem?_getD,List.getElem?_eq_none (by rw [h.ws8];omega)] at h1;exact absurd h1 (by show ¬(0#64).getLsbD _=true;rw [BitVec.getLsbD_zero];simp)
  ·exact .inr (.inr h1)
theorem zle {L:Ws}{ws:Ws}(h:fu ws≠[]):smu L (fu ws) fL<smu L [] ws:=by
 unfold smu;rw [if_pos znA,if_neg h];have:(fu ws).length≤512:=zgC ws 0;simp only [List.length_nil];omega
theorem SInv.calm {Y:Tb}{L0 L:Ws}{ws:Ws}(h:SInv Y L0 L [] ws false)(hm:fu ws=[]):∀i,i<Y.n→ziD Y L i:=fun i hi=>by
 rcases h.refill.good rfl i hi with h1|h1|h1
 ·rw [hm] at h1;cases h1
 ·rw [zdY] at h1;cases h1
 ·exact h1
theorem zli {Y:Tb}{L0 L:Ws}{i:Nat}{b:BitVec 64}(h:Reach Y L0 L)(hi:i<Y.n)(hb:∀j,b.getLsbD j=true→(jA Y L i).getLsbD j=true):Reach Y L0 (L.set i (cK L i &&& ~~~b)):= .step h hi hb
theorem zpt {Y:Tb}{L:Ws}{i j:Nat}(h:(mI Y L i).getLsbD j=true):(jA Y L i).getLsbD j=true:=by simp [jA,h]
theorem zp2 {Y:Tb}{L:Ws}{i j:Nat}(h:(lj Y L i).getLsbD j=true):(jA Y L i).getLsbD j=true:=by simp [jA,h]
theorem zpu {Y:Tb}{L:Ws}{i j:Nat}(h:(mD Y L i).getLsbD j=true):(jA Y L i).getLsbD j=true:=by simp [jA,h]
def zhw (Y:Tb)(L:Ws)(i k:Nat):BitVec 64:=if k=0 then mI Y L i else if k=1 then lj Y L i else mD Y L i
theorem zpn {Y:Tb}{L:Ws}{i j k:Nat}(h:(zhw Y L i k).getLsbD j=true):(jA Y L i).getLsbD j=true:=by
 unfold zhw at h
 split at h
 ·exact zpt h
 ·split at h
  ·exact zp2 h
  ·exact zpu h
def eC (Y:Tb)(L:Ws)(i:Nat):Nat→Ws
 |0=>L
 |k+1=>(eC Y L i k).set i (cK (eC Y L i k) i &&& ~~~(zhw Y (eC Y L i k) i k))
theorem zck {Y:Tb}{L:Ws}{i:Nat}:∀k,(eC Y L i k).length=L.length
 |0=>rfl
 |k+1=>by rw [eC,List.length_set,zck k]
theorem zez {Y:Tb}{L0 L:Ws}{i:Nat}(h:Reach Y L0 L)(hi:i<Y.n):∀k,Reach Y L0 (eC Y L i k)
 |0=>h
 |k+1=>zli (zez h hi k) hi (fun j hj=>zpn hj)
theorem zen {Y:Tb}{L:Ws}{i j:Nat}(hi:i<L.length)(hj:j≠i):∀k,cK (eC Y L i k) j=cK L j
 |0=>rfl
 |k+1=>by rw [eC,lq (by rw [zck];exact hi),if_neg hj,zen hi hj k]
theorem zfZ {Y:Tb}{L:Ws}{i:Nat}(hi:i<L.length):∀k j,(cK (eC Y L i k) i).getLsbD j=true→(cK L i).getLsbD j=true
 |0,_,h=>h
 |k+1,j,h=>by
  rw [eC,lq (by rw [zck];exact hi),if_pos rfl,BitVec.getLsbD_and,Bool.and_eq_true] at h;exact zfZ hi k j h.1
theorem zmx {Y:Tb}{L:Ws}{i:Nat}{b:BitVec 64}(hok:Y.Ok)(hi:i<Y.n)(hl:L.length=Y.n)(m:Nat):zhw Y (L.set i b) i m=zhw Y L i m:=by
 have h1:=zhn (b:=b) hok hi hl;unfold zhw;rw [h1.1,h1.2.1,h1.2.2]
theorem zho {Y:Tb}{L:Ws}{i:Nat}(hok:Y.Ok)(hi:i<Y.n)(hl:L.length=Y.n):∀k m,zhw Y (eC Y L i k) i m=zhw Y L i m
 |0,_=>rfl
 |k+1,m=>by rw [eC,zmx hok hi (by rw [zck,hl]),zho hok hi hl k m]
theorem zmR {Y:Tb}{L:Ws}{i:Nat}(hok:Y.Ok)(hi:i<Y.n)(hl:L.length=Y.n):cK (eC Y L i 3) i=cK L i &&& ~~~(mI Y L i) &&& ~~~(lj Y L i) &&& ~~~(mD Y L i):=by
 have h:∀k,cK (eC Y L i (k+1)) i=cK (eC Y L i k) i &&& ~~~(zhw Y L i k):=fun k=>by
  rw [eC,lq (by rw [zck,hl];exact hi),if_pos rfl,zho hok hi hl]
 rw [h 2,h 1,h 0]
 rfl
theorem zf0 {Y : Tb} {L : Ws} {i : Nat} (hi : i < L.length) : eC Y L i 3 = L.set i (cK (eC Y L i 3) i) := by
  have h : ∀ k, ∃ b, eC Y L i k = L.set i b := by
    intro k
    induction k with
    | zero => exact ⟨cK L i, by
        apply List.ext_getElem?; intro j; by_cases hj : j = i
        · subst hj; rw [List.getElem?_set_self hi, eC, List.getElem?_eq_getElem hi, dQ hi]
        · rw [List.getElem?_set_ne (fun e => hj e.symm)]; rfl⟩
    | succ k ih =>
      obtain ⟨b, hb⟩ := ih; exact ⟨_, by rw [eC, hb, List.set_set]⟩
  obtain ⟨b, hb⟩ := h 3; rw [hb, lq hi, if_pos rfl]
theorem zie {a b:BitVec 64}(hs:∀j,a.getLsbD j=true→b.getLsbD j=true)(hne:a≠b)(h0:a≠0#64):i8 b=0:=by
 unfold i8;rw [if_neg];rintro ⟨hb,hz⟩
 have h1:∀j,b.getLsbD j=true→j=ctz b:=fun j hj=>by
  have:=zkf hb j;rw [hz,hj,BitVec.getLsbD_zero,Bool.true_and] at this;simpa using this.symm
 apply hne;apply BitVec.eq_of_getLsbD_eq;intro j hj
 cases hbj:b.getLsbD j with
 |false=>
  cases haj:a.getLsbD j with
  |false=>rfl
  |true=>rw [hs j haj] at hbj;cases hbj
 |true=>
  have e:=h1 j hbj;obtain ⟨k,hk⟩:∃k,a.getLsbD k=true:=⟨ctz a,(zg2 h0 0).1⟩;rw [e,←h1 k (hs k hk)];exact hk
theorem SInv.step {Y : Tb} {L0 L : Ws} {i : Nat} {q : List Nat} {ws : Ws} (hok : Y.Ok) (h : SInv Y L0 L (i :: q) ws false) :
    SInv Y L0 (eC Y L i 3) q (if cK (eC Y L i 3) i = cK L i then ws else kz Y (eC Y L i 3) i ws) (decide (cK (eC Y L i 3) i = 0#64)) := by
  have hi : i < Y.n := h.qn i a8; (have hil : i < L.length := by rw [h.len]; exact hi); have hn := hok.n; have hsub := zfZ (Y := Y) hil 3; refine ⟨zez h.reach hi 3, by rw [zck, h.len], ?_, ?_, fun j hj => h.qn j (by simp [hj]), by have := h.q512; simp at this; omega, ?_, ?_⟩
  · split
    · exact h.ws8
    · rw [zfW, h.ws8]
  · intro j hj hb
    split at hb
    · exact h.wsn j hj hb
    · rcases (zdP hok hi h.ws8 j hj).1 hb with h1 | ⟨_, h1 | h1 | h1⟩
      · exact h.wsn j hj h1
      · obtain ⟨x, hx, he⟩ := h1; have := (hok.ps i hi).2 x hx; omega
      · obtain ⟨x, hx, he⟩ := h1; have := (hok.inn i hi).2 x hx; omega
      · obtain ⟨x, hx, he⟩ := h1; have h2 := (hok.out i hi).2 x hx; rcases he with he | ⟨_, o, ho, he⟩
        · omega
        · have := (hok.inn x.to.toNat a5).2 o ho; omega
  · intro hc; exact ⟨i, hi, of_decide_eq_true hc⟩
  · intro hc k hk; have h0 : cK (eC Y L i 3) i ≠ 0#64 := of_decide_eq_false hc; by_cases hki : k = i
    · subst hki;refine .inr (.inr ⟨h0, ?_⟩); have e := zhn (b := cK (eC Y L k 3) k) hok hi h.len; rw [← zf0 hil] at e; unfold jA; rw [e.1, e.2.1, e.2.2, zmR hok hi h.len]; apply BitVec.eq_of_getLsbD_eq; intro j hj;simp only [BitVec.getLsbD_and, BitVec.getLsbD_or, BitVec.getLsbD_not, BitVec.getLsbD_zero]
      cases (cK L k).getLsbD j <;> cases (mI Y L k).getLsbD j <;> cases (lj Y L k).getLsbD j <;> cases (mD Y L k).getLsbD j <;> simp
    · have hkeep := zen (Y := Y) hil hki 3; by_cases hsame : cK (eC Y L i 3) i = cK L i
      · rw [if_pos hsame]
        have e : eC Y L i 3 = L := by
          rw [zf0 hil, hsame]; apply List.ext_getElem?; intro j; by_cases hj : j = i
          · subst hj; rw [List.getElem?_set_self hil, List.getElem?_eq_getElem hil, dQ hil]
          · rw [List.getElem?_set_ne (fun e => hj e.symm)]
        rw [e]; rcases h.good rfl k hk with h1 | h1 | h1
        · rcases List.mem_cons.1 h1 with h1 | h1
          · exact absurd h1 hki
          · exact .inl h1
        · exact .inr (.inl h1)
        · exact .inr (.inr h1)
      · rw [if_neg hsame]; have h00 : only L i = 0 := zie hsub hsame h0; (have honly : ∀ j, j ≠ i → only (eC Y L i 3) j = only L j := fun j hj => by unfold only; rw [zen hil hj]); rcases h.good rfl k hk with h1 | h1 | h1
        · rcases List.mem_cons.1 h1 with h1 | h1
          · exact absurd h1 hki
          · exact .inl h1
        · exact .inr (.inl ((zdP hok hi h.ws8 k a5).2 (.inl h1)))
        · by_cases hnear : only (eC Y L i 3) i ≠ 0 ∧ nf Y (eC Y L i 3) i k
          · exact .inr (.inl ((zdP hok hi h.ws8 k a5).2 (.inr hnear)))
          · refine .inr (.inr ⟨by rw [hkeep]; exact h1.1, ?_⟩)
            have ha : Alike Y L (eC Y L i 3) k := by
              by_cases hz : only (eC Y L i 3) i = 0
              · have hall : ∀ j, only (eC Y L i 3) j = only L j := fun j => by
                  by_cases hj : j = i
                  · subst hj; rw [hz, h00]
                  · exact honly j hj
                exact q49
              · exact zjw hok hi hk hki honly h00 (fun hh => hnear ⟨hz, hh⟩)
            rw [zgO ha (fun x hx => by have := (hok.out k hk).2 x hx; omega), hkeep]; exact h1.2
theorem znp {Y:Tb}{L:Ws}{i:Nat}{q:List Nat}{ws:Ws}(hi:i<L.length)(hq:q.length≤511):smu (eC Y L i 3) q (if cK (eC Y L i 3) i=cK L i then ws else kz Y (eC Y L i 3) i ws)<smu L (i :: q) ws:=by
 have hb:=zjg L i (cK (eC Y L i 3) i) hi;rw [←zf0 hi] at hb;unfold smu;by_cases hs:cK (eC Y L i 3) i=cK L i
 ·rw [if_pos hs];rw [hs] at hb;simp only [List.length_cons];omega
 ·rw [if_neg hs];have hlt:=zpO (zfZ (Y:=Y) hi 3) hs; (have h6:(if fu (kz Y (eC Y L i 3) i ws)=[] then 0 else 600)≤600:=by split <;> omega);simp only [List.length_cons];omega
end Go.Proofs.YtogbggmckmnlfaaGreatDoor
