/- E F G G2 H1 Pn: shortened and put together by squeeze.py. -/
import Derived.Test.YtogbggmckmnlfaaGreatDoorQ04
set_option maxRecDepth 100000
set_option maxHeartbeats 4000000
set_option linter.unusedVariables false
set_option linter.unusedSectionVars false
set_option linter.unusedSimpArgs false
namespace Go.Proofs.YtogbggmckmnlfaaGreatDoor
open Go.RowKit
theorem cG {p:Prop}(h:p:=by rw [ze2 (by omega)];omega):p:=h
theorem b7 {p:Prop}(h:p:=by rw [List.length_map,kT]):p:=h
def ki (ws:Ws)(k:Nat):Nat:=((ws.take k).map zk1).sum
theorem zix {ws:Ws}{k:Nat}(h:k<ws.length):ki ws (k+1)=ki ws k+zk1 (cI ws k):=by
 unfold ki;rw [List.take_succ_eq_append_getElem h,dS h,List.map_append,List.sum_append];simp
theorem zjk (ws:Ws):∀k,ki ws k≤127*k
 |0=>by simp [ki]
 |k+1=>by
  have:=zjk ws k;rcases Nat.lt_or_ge k ws.length with h|h
  ·rw [zix h];have:=zjH (cI ws k);omega
  ·unfold ki at *;rw [List.take_of_length_le a5] at *;omega
@[irreducible] def eT (ws:Ws) (i:Nat):List Nat:=(List.range' i (512 - i)).filter (eB ws)
abbrev eR (ws:Ws):List Nat:=eT ws 0
def ziJ:List Nat→Int
 | []=> -1
 |x :: _=>(x:Int)
theorem zgl {ws:Ws}{i:Nat}(h:∀j,i≤j→j<512→eB ws j=false):eT ws i=[]:=by
 unfold eT;rw [List.filter_eq_nil_iff];intro j hj;obtain ⟨h1,h2⟩:=List.mem_range'_1.1 hj;rw [h j h1 a5];simp
theorem ziB {ws:Ws}{i r:Nat}(hi:i≤r)(hr:r<512)(hb:eB ws r=true)(h:∀j,i≤j→j<r→eB ws j=false):eT ws i=r :: eT ws (r+1):=by
 unfold eT
 have e:List.range' i (512 - i)=List.range' i (r - i)++(r :: List.range' (r+1) (512 - (r+1))):=by
  rw [show r :: List.range' (r+1) (512 - (r+1))=List.range' r (512 - r) from by rw [show 512 - r=(512 - (r+1))+1 by omega,List.range'_succ]];have:=List.range'_append (s:=i) (m:=r - i) (n:=512 - r) (step:=1);rw [Nat.one_mul,show i+(r - i)=r by omega,show r - i+(512 - r)=512 - i by omega] at this;exact this.symm
 rw [e,List.filter_append,List.filter_cons_of_pos (by simpa using hb)]
 have:(List.range' i (r - i)).filter (eB ws)=[]:=by
  rw [List.filter_eq_nil_iff];intro j hj;obtain ⟨h1,h2⟩:=List.mem_range'_1.1 hj;rw [h j h1 a5];simp
 rw [this];rfl
theorem fM {ws:Ws}{i j:Nat}:j∈eT ws i↔i≤j∧j<512∧eB ws j=true:=by
 unfold eT;rw [List.mem_filter,List.mem_range'_1];constructor
 ·rintro ⟨⟨h1,h2⟩,h3⟩;exact ⟨h1,by omega,h3⟩
 ·rintro ⟨h1,h2,h3⟩;exact ⟨⟨h1,by omega⟩,h3⟩
theorem zkS {ws:Ws}{i h:Nat}{t:List Nat}(e:eT ws i=h :: t):i≤h∧h<512∧t=eT ws (h+1):=by
 have hm:=fM.1 (show h∈eT ws i by rw [e];simp)
 have hs:eT ws i=h :: eT ws (h+1):=ziB hm.1 hm.2.1 hm.2.2 (fun j h1 h2=>by
  cases hb:eB ws j with
  |false=>rfl
  |true=>
   have hj:j∈eT ws i:=fM.2 ⟨h1,by omega,hb⟩; (have hsort:(eT ws i).Pairwise (· < ·):=by unfold eT;exact List.Pairwise.filter _ List.pairwise_lt_range');rw [e] at hj hsort;rcases List.mem_cons.1 hj with hj|hj
   ·omega
   ·have:=(List.pairwise_cons.1 hsort).1 j hj;omega)
 rw [e] at hs;exact ⟨hm.1,hm.2.1,(List.cons.inj hs).2⟩
theorem zf6 (ws:Ws)(i:Nat):(eT ws i).length≤512:=by
 unfold eT;have:=List.length_filter_le (eB ws) (List.range' i (512 - i));rw [List.length_range'] at this;omega
theorem zn0 (a:BitVec 64)(k j:Nat)(hj:j<64):((a >>> k) <<< k).getLsbD j=(a.getLsbD j&&decide (k≤j)):=by
 rw [BitVec.getLsbD_shiftLeft,BitVec.getLsbD_ushiftRight];by_cases h:j<k
 ·simp [h]
 ·rw [show k+(j - k)=j by omega];simp [hj,h];intro _;omega
structure NxInv (ws:Ws) (i at':Nat) (b:BitVec 64):Prop where
 lt:at'<8
 ge:i<64* (at'+1)
 bit:∀j,j<64→b.getLsbD j=(eB ws (64*at'+j)&&decide (i≤64*at'+j))
 none:∀j,i≤j→j<64*at'→eB ws j=false
theorem NxInv.start {ws:Ws}{i:Nat}(hi:i<512):NxInv ws i (i / 64) ((cI ws (i / 64) >>> (i % 64)) <<< (i % 64)) where
 lt:=by omega
 ge:=by omega
 bit j hj:=by
  rw [zn0 _ _ _ hj];unfold eB;rw [show (64* (i / 64)+j) / 64=i / 64 by omega,show (64* (i / 64)+j) % 64=j by omega]
  congr 1
  exact decide_eq_decide.2 a5
 none j h1 h2:=by omega
theorem NxInv.next {ws:Ws}{i a:Nat}(h:NxInv ws i a 0#64)(ha:a+1<8):NxInv ws i (a+1) (cI ws (a+1)) where
 lt:=ha
 ge:=by have:=h.ge;omega
 bit j hj:=by
  have:=h.ge;unfold eB;rw [show (64* (a+1)+j) / 64=a+1 by omega,show (64* (a+1)+j) % 64=j by omega,decide_eq_true a5,Bool.and_true]
 none j h1 h2:=by
  rcases Nat.lt_or_ge j (64*a) with hj|hj
  ·exact h.none j h1 hj
  ·have:=h.bit (j - 64*a) a5;rw [show 64*a+(j - 64*a)=j by omega,decide_eq_true h1,Bool.and_true,BitVec.getLsbD_zero] at this;exact this.symm
theorem NxInv.found {ws:Ws}{i a:Nat}{b:BitVec 64}(h:NxInv ws i a b)(hb:b≠0#64):eT ws i=(64*a+ctz b) :: eT ws (64*a+ctz b+1):=by
 have hc:=ziK hb;have h1:=(zgn hb 0).1;rw [h.bit _ hc] at h1;simp only [Bool.and_eq_true,decide_eq_true_eq] at h1;have:=h.lt;refine ziB h1.2 a5 h1.1 (fun j hi hj=>?_);rcases Nat.lt_or_ge j (64*a) with hj2|hj2
 ·exact h.none j hi hj2
 ·have h2:=(zgn hb (j - 64*a)).2 a5;rw [h.bit _ a5,show 64*a+(j - 64*a)=j by omega,decide_eq_true hi,Bool.and_true] at h2;exact h2
theorem NxInv.over {ws:Ws}{i a:Nat}(h:NxInv ws i a 0#64)(ha:a+1=8):eT ws i=[]:=zgl fun j h1 h2=>by
 rcases Nat.lt_or_ge j (64*a) with hj2|hj2
 ·exact h.none j h1 hj2
 ·have h3:=h.bit (j - 64*a) a5;rw [show 64*a+(j - 64*a)=j by omega,decide_eq_true h1,Bool.and_true,BitVec.getLsbD_zero] at h3;exact h3.symm
theorem ziu (ws:Ws):∀(k i:Nat),k<(eT ws i).length→eT ws (cI (eT ws i) k+1)=(eT ws i).drop (k+1)
 |k,i,hk=>by
  cases e:eT ws i with
  |nil=>rw [e] at hk;simp at hk
  |cons h t=>
   obtain ⟨h1,h2,h3⟩:=zkS e
   cases k with
   |zero=>simp [cI,h3]
   |succ k=>
    rw [e] at hk;subst h3;have:=ziu ws k (h+1) (by simpa using hk);simpa [cI] using this
theorem zg5 {xs:List Nat}{k:Nat}(h:k<xs.length):ziJ (xs.drop k)=((cI xs k:Nat):Int):=by
 rw [List.drop_eq_getElem_cons h,dS h];rfl
theorem zlF {xs:List Nat}{k:Nat}(h:ziJ (xs.drop k)<0):xs.length≤k:=by
 rcases Nat.lt_or_ge k xs.length with hk|hk
 ·rw [zg5 hk] at h;omega
 ·exact hk
theorem zl1 {xs:List Nat}{k:Nat}(h:0≤ziJ (xs.drop k)):k<xs.length:=by
 rcases Nat.lt_or_ge k xs.length with hk|hk
 ·exact hk
 ·rw [List.drop_eq_nil_of_le hk] at h;simp [ziJ] at h
theorem zni {α:Type}[Inhabited α]{xs:List α}{k:Nat}(h:k<xs.length):xs[k]?=some (cI xs k):=by rw [dS h];exact List.getElem?_eq_getElem h
theorem znq {α:Type}[Inhabited α]{xs:List α}{k:Nat}{x:α}(h:xs[k]?=some x):k<xs.length∧x=cI xs k:=by
 obtain ⟨h1,h2⟩:=List.getElem?_eq_some_iff.1 h;exact ⟨h1,by rw [dS h1,h2]⟩
def je (l:List Nat):List Value:=l.map fun j:Nat=> .int .i64 (j:Int)
theorem zlU {l:List Nat}{k:Nat}(h:k<l.length):je (l.take (k+1))=je (l.take k)++[.int .i64 ((cI l k:Nat):Int)]:=by
 unfold je;rw [List.take_succ_eq_append_getElem h,dS h,List.map_append];rfl
@[irreducible] def dx (m:BitVec 64):List Nat:=(List.range' 0 64).filter m.getLsbD
theorem zna (ws:Ws)(hws:ws.length=8)(w:World):Calls Tryz.prog 165 #[.agg ws.cells.toArray] w fun e w'=>e= .returned (.int .i64 (ki ws 8:Int))∧Below w.heap.size w w':=by
 refine dv (M:=fun _=>False) (hs:=[]) Tryz.func165 rfl rfl rfl (Hp.refl _ _) ?_;refine dk ?_; (refine cM (Wt.none) rfl rfl (dC) ?_;rintro _ _ ⟨g1,rfl,rfl⟩);refine gy ?_;refine jl ?_;refine fj ?_;refine q2K ?_;refine dd ?_;refine c4 (T.block ?_);refine T.loop (ι:=Nat) (fun k=>[(3, .int .i64 (ki ws k:Int)),(7, .agg ws.cells.toArray),(8, .int .i64 (k:Int))]) (fun k=>[]) (fun k=>k≤8) (fun k=>8 - k) 0 ?_ ?_ ?_ ?_
 ·omega
 ·exact (by repeat (first|exact Sub.nil|refine Sub.cons rfl ?_))
 ·exact Sx
 ·intro k hphi;have hle:=zjk ws k;refine eO ?_;refine T.cond rfl (fun h1=>?_) (fun h1=>?_)
  ·have p1:=h1; (try simp only [cW] at p1);have hld:=Ws.get (ws:=ws) (i:=k) (p:=k) a5 rfl;have hp8:=zjH (cI ws k);refine fv ?_;refine cK (mS rfl rfl rfl rfl a5 hld) ?_;refine dd ?_;refine c4 (T.region ?_);refine eh ?_; (refine cM (Wt.none) rfl rfl (cL rfl rfl rfl (fun w hw=>zmm _ w)) ?_;rintro _ _ ⟨rfl,rfl⟩);refine q0e ?_;refine dd ?_;refine ke ?_;exact K.next (k+1) a5 a5 (by repeat (first|exact Sub.nil|refine Sub.cons rfl ?_|(refine eH rfl (by rw [zix a5];omega) ?_))) Sx
  ·have p1:=h1; (try simp only [cW] at p1);refine q01 ?_;refine j3 ?_;exact cX rfl rfl (fun w' hw=>⟨zcY (by rw [show k=8 by omega]),hw.isBelow⟩)
theorem znA (ws:Ws)(hws:ws.length=8)(i:Nat)(hi:i<512)(w:World):Calls Tryz.prog 168 #[.agg ws.cells.toArray, .int .i64 (i:Int)] w fun e w'=>e= .returned (.tuple #[.agg (Ws.cells (dQ ws i)).toArray, .int .i64 0])∧Below w.heap.size w w':=by
 have hld:=Ws.get (ws:=ws) (i:=i / 64) (p:=0+0+i / 64*1) a5 a5;refine dv (M:=fun _=>False) (hs:=[]) Tryz.func168 rfl rfl rfl (Hp.refl _ _) ?_;refine dk ?_; (refine cM (Wt.none) rfl rfl (dC) ?_;rintro _ _ ⟨g2,rfl,rfl⟩); (refine cM (Wt.none) rfl rfl (Ew.alloc) ?_;rintro _ _ ⟨g4,rfl,rfl⟩);refine mX ?_; (refine cM (Wt.none) rfl rfl (cL rfl rfl rfl (fun w hw=>zeS _ _)) ?_;rintro _ _ ⟨rfl,rfl⟩);refine dD ?_;refine ii rfl (by rw [inB,decide_eq_true (show (0:Int)≤(i:Int) by omega),decide_eq_true (show (i:Int)≤511 by omega)];rfl) ?_;refine jf ?_;refine dI (sN 0 4 (sN 5 3 (.still 9 (.eff 4 (.still 8 (.still 10 (.eff 11 .done))))))) [.row g4 83 (Ws.cells ff)] a7 Sx ?_;refine fe ?_;refine cP rfl (jQ rfl rfl rfl a5) ?_;refine fT ?_;refine cP rfl (dW rfl rfl rfl (show (i:Int) / 64=((i / 64:Nat):Int) from by omega) a5) ?_;refine fe ?_;refine cP rfl (jc rfl rfl rfl a5) ?_;refine cP rfl (gu (a:=1#64) (i % 64) rfl rfl rfl a5 a5) ?_;refine lk ?_;refine eA rfl (Wt.none) rfl rfl (c7 1 rfl rfl rfl hld) Sx ?_;refine cP rfl (iF) ?_;refine cP rfl (dW rfl rfl rfl (show (i:Int) / 64=((i / 64:Nat):Int) from by omega) a5) ?_;refine dy ?_; (refine dF rfl (Wt.none) rfl (gV 1 (Ws.cells (dQ ws i)) rfl rfl rfl rfl (by rw [List.length_map,hws];omega) (Ws.put a5)) ?_;rintro _ _ ⟨rfl,rfl⟩;refine ⟨Sx,?_⟩);refine fc ?_;refine K.seq (dk ?_);refine cK (d5 1 rfl rfl rfl (by rw [List.length_map,lm,hws])) ?_; (refine dH (Wt.none) rfl (du 0 rfl rfl rfl rfl (by rw [List.length_map,lm,hws]) (by rw [List.length_map,lm,hws];rfl)) ?_;rintro _ _ ⟨rfl,rfl⟩);refine fo ?_;exact gX 0 rfl rfl rfl rfl (by rw [List.length_map,lm,hws]) (fun w' hw=>⟨rfl,hw.isBelow⟩)
theorem zjY (ws:Ws)(hws:ws.length=8)(i:Nat)(z:Int)(hz:z=(i:Int))(w:World)(ht:Tab w):Calls Tryz.prog 179 #[.agg ws.cells.toArray, .int .i64 z] w fun e w'=>e= .returned (.int .i64 (ziJ (eT ws i)))∧Below w.heap.size w w':=by
 subst hz;refine dv (M:=fun _=>False) (hs:=[]) Tryz.func179 rfl rfl rfl (Hp.refl _ _) ?_;refine dk ?_; (refine cM (Wt.none) rfl rfl (dC) ?_;rintro _ _ ⟨g2,rfl,rfl⟩);refine jl ?_;refine jo ?_;refine ii rfl (decide_eq_false a5) ?_;refine jx ?_;refine jo ?_;refine T.cond rfl (fun h1=>?_) (fun h1=>?_)
 ·have p1:=h1; (try simp only [cW] at p1);refine ik ?_;exact cX rfl rfl (fun w' hw=>⟨zcY (by rw [zgl (fun j h1 h2=>by omega)];rfl),hw.isBelow⟩)
 ·have p1:=h1; (try simp only [cW] at p1);have hld:=Ws.get (ws:=ws) (i:=i / 64) (p:=0+0+i / 64*1) a5 a5;refine iD ?_;refine dd ?_;refine cK (jQ rfl rfl rfl a5) ?_;refine ln ?_;refine fj ?_;refine cK (dW rfl rfl rfl (show (i:Int) / 64=((i / 64:Nat):Int) from by omega) a5) ?_;refine cK (c7 0 rfl rfl rfl hld) ?_;refine dd ?_;refine cK (jc rfl rfl rfl a5) ?_;refine cK (fR (i % 64) rfl rfl rfl a5 a5) ?_;refine dd ?_;refine cK (jc rfl rfl rfl a5) ?_;refine cK (gu (i % 64) rfl rfl rfl a5 a5) ?_;refine dd ?_;refine c4 (T.seq (T.block ?_));refine T.loop (ι:=Nat×BitVec 64) (fun x=>[(2, .pointer (some ⟨g2,0,none⟩)),(5, .int .i64 (x.1:Int)),(6,U x.2)]) (fun x=>[.row g2 83 ws.cells]) (fun x=>NxInv ws i x.1 x.2) (fun x=>8 - x.1) (i / 64,(cI ws (i / 64) >>> (i % 64)) <<< (i % 64)) ?_ ?_ ?_ ?_
  ·exact NxInv.start a5
  ·exact (by repeat (first|exact Sub.nil|refine Sub.cons rfl ?_|(refine eH rfl a5 ?_)))
  ·exact Sx
  ·intro x hphi;obtain ⟨a,b⟩:=x;dsimp only at hphi ⊢;have hlt0:=hphi.lt;refine jp ?_;refine jo ?_;refine T.cond rfl (fun h2=>?_) (fun h2=>?_)
   ·have p2:=h2; (try simp only [cW] at p2); (have hb0:b=0#64:=by rw [znJ] at h2;exact of_decide_eq_true h2);subst hb0;refine T.skip (K.seq (T.block (dk ?_)));refine dd ?_;refine q0e ?_;refine jl ?_;refine jo ?_;refine T.cond rfl (fun h3=>?_) (fun h3=>?_)
    ·have p3:=h3; (try simp only [cW] at p3);refine f7 ?_;refine c4 (T.ret (dX (fi (dX (fi (dX ?_))))));exact cX rfl rfl (fun w' hw=>⟨zcY (by rw [hphi.over a5];rfl),hw.isBelow⟩)
    ·have p3:=h3; (try simp only [cW] at p3);have hlt8:=hphi.lt;have hld:=Ws.get (ws:=ws) (i:=a+1) (p:=0+0+(a+1) *1) a5 a5;refine T.skip (K.seq (T.region ?_));refine dd ?_;refine fj ?_;refine cK (dW rfl rfl rfl (show (a:Int)+1=((a+1:Nat):Int) from by omega) a5) ?_;refine cK (c7 0 rfl rfl rfl hld) ?_;refine dd ?_;refine TL.nil (fS ?_);exact K.next (a+1,cI ws (a+1)) (hphi.next a5) (by show 8 - (a+1)<8 - a;omega) (by repeat (first|exact Sub.nil|refine Sub.cons rfl ?_|(refine eH rfl a5 ?_))) Sx
   ·have p2:=h2; (try simp only [cW] at p2); (have hb0:b≠0#64:=by rw [znJ] at h2;exact of_decide_eq_false h2);have hcz:=ziK hb0;have hlt8:=hphi.lt;refine q01 ?_;refine dd ?_;refine cK (Yv.cu rfl rfl rfl a5) ?_;refine dd ?_; (refine cM (Wt.none) rfl rfl (cL rfl rfl rfl (fun w hw=>zmX b hb0 w (ht.keptF hw))) ?_;rintro _ _ ⟨rfl,rfl⟩);refine q0e ?_;refine fo ?_;exact cX rfl rfl (fun w' hw=>⟨zcY (by rw [hphi.found hb0];simp only [ziJ];omega),hw.isBelow⟩)
theorem znW (ws:Ws)(hws:ws.length=8)(w:World)(ht:Tab w):Calls Tryz.prog 178 #[.agg ws.cells.toArray] w fun e w'=>e= .returned (.int .i64 (ziJ (eR ws)))∧Below w.heap.size w w':=by
 refine dv (M:=fun _=>False) (hs:=[]) Tryz.func178 rfl rfl rfl (Hp.refl _ _) ?_;refine dk ?_; (refine cM (Wt.none) rfl rfl (dC) ?_;rintro _ _ ⟨g1,rfl,rfl⟩);refine gy ?_;refine q2K ?_; (refine cM (Wt.none) rfl rfl (cL rfl rfl rfl (fun w hw=>zjY ws hws 0 0 rfl w (ht.keptF hw))) ?_;rintro _ _ ⟨rfl,rfl⟩);refine fo ?_;refine cX rfl rfl (fun w' hw=>⟨?_,hw.isBelow⟩)
 rfl
theorem znp (ws:Ws)(hws:ws.length=8)(w:World):Calls Tryz.prog 166 #[.agg ws.cells.toArray] w fun e w'=>∃x:Nat,True∧e= .returned (.func (.func 177) #[] #[.pointer (some ⟨x,0,none⟩)])∧Hp w (fun _=>False) [.row x 83 ws.cells] w':=by
 refine dv (M:=fun _=>False) (hs:=[]) Tryz.func166 rfl rfl rfl (Hp.refl _ _) ?_;refine dk ?_; (refine cM (Wt.none) rfl rfl (dC) ?_;rintro _ _ ⟨g1,rfl,rfl⟩);refine gy ?_;refine j3 ?_;exact cX rfl rfl (fun w' hw=>⟨g1,trivial,rfl,hw⟩)
theorem zme (ws:Ws)(hws:ws.length=8)(p:Nat)(B:World)(M:Nat→Prop)(ht:Tab B)(hM0:¬M 0):IterAt Tryz.prog 177 [.pointer (some ⟨p,0,none⟩)] (fun j:Nat=>[.int .i64 (j:Int)]) (eR ws) [.row p 83 ws.cells] B M:=by
 intro G Z l W g0 hy hG0 hW;refine zjE (B:=B) (M:=M) Tryz.func177 rfl rfl rfl hW ?_;refine dk ?_;refine q2K ?_; (refine cM (Wt.none) rfl rfl (cL rfl rfl rfl (fun w hw=>znW ws hws w (ht.kept hw hM0))) ?_;rintro _ _ ⟨rfl,rfl⟩);refine dd ?_;refine c4 (T.block ?_);refine T.loop (ι:=Nat×HS) (fun x=>[(0, .func (.yield l) #[] #[]),(1, .pointer (some ⟨p,0,none⟩)),(3, .int .i64 (ziJ ((eR ws).drop x.1)))]) (fun x=>[.row p 83 ws.cells]++x.2) (fun x=>x.1≤(eR ws).length∧G x.1 x.2) (fun x=>(eR ws).length - x.1) (0,g0) ?_ ?_ ?_ ?_
 ·exact ⟨by simp,hG0⟩
 ·exact (by repeat (first|exact Sub.nil|refine Sub.cons rfl ?_))
 ·exact eQ
 ·intro x hphi;obtain ⟨k,g⟩:=x;dsimp only at hphi ⊢;obtain ⟨hkn,hG⟩:=hphi;refine jp ?_;refine jo ?_;refine T.cond rfl (fun h1=>?_) (fun h1=>?_)
  ·have p1:=h1; (try simp only [cW] at p1);have hk:=zl1 p1;have h512:cI (eR ws) k<512:=(fM.1 (iE hk)).2.1;rw [zg5 hk];refine fv ?_;refine eh ?_;refine TL.bX (Wt.none) rfl rfl rfl rfl rfl hy (zni hk) hG (enc:=fun j:Nat=>[.int .i64 (j:Int)]) (x:=cI (eR ws) k) (i:=k) ?_ ?_
   ·intro g' hG';refine dD ?_;refine ii rfl rfl ?_;refine q0r ?_;refine q2K ?_;refine dd ?_;refine q0e ?_; (refine cM (Wt.none) rfl rfl (cL rfl rfl rfl (fun w hw=>zjY ws hws (cI (eR ws) k+1) _ a5 w (ht.kept hw hM0))) ?_;rintro _ _ ⟨rfl,rfl⟩);refine dd ?_;refine fG ?_;exact K.next (k+1,g') ⟨by dsimp only;omega,hG'⟩ (by dsimp only;omega) (by rw [←ziu ws k 0 hk];exact (by repeat (first|exact Sub.nil|refine Sub.cons rfl ?_))) (List.Sublist.refl _)
   ·intro z hZ;refine dD ?_;refine l7 rfl rfl ?_;refine T.ret (fi (dX (dX (fi ?_))));exact K.cj rfl (fun w' hw hkp=>⟨⟨_,rfl⟩,hkp, .inr ⟨z,hZ,hw⟩⟩)
  ·have p1:=h1; (try simp only [cW] at p1);have hk:=zlF p1;refine eF ?_;exact K.ck rfl (fun w' hw hkp=>⟨⟨_,rfl⟩,hkp, .inl ⟨g,by rw [show (eR ws).length=k from by omega];exact hG,hw⟩⟩)
theorem zjX (ws:Ws)(hws:ws.length=8)(w:World)(ht:Tab w):Calls Tryz.prog 156 #[.agg ws.cells.toArray] w fun e w'=>∃v:Value,True∧e= .returned v∧Hp w (fun _=>False) [.sl v 3 1 (eR ws).length (je (eR ws))] w':=by
 have hsl8:=zjk ws 8;have hml:=zf6 ws 0;refine dv (M:=fun _=>False) (hs:=[]) Tryz.func156 rfl rfl rfl (Hp.refl _ _) ?_;refine dk ?_; (refine cM (Wt.none) rfl rfl (dC) ?_;rintro _ _ ⟨g1,rfl,rfl⟩);refine gy ?_;refine q2K ?_; (refine cM (Wt.none) rfl rfl (cL rfl rfl rfl (fun w hw=>zna ws hws w)) ?_;rintro _ _ ⟨rfl,rfl⟩); (refine cM (Wt.none) rfl rfl (Ew.bH rfl rfl rfl rfl a5 a5) ?_;rintro _ _ ⟨g7,rfl,rfl⟩); (refine cM (Wt.none) rfl rfl (Ew.alloc) ?_;rintro _ _ ⟨g3,rfl,rfl⟩); (refine dH (Wt.none) rfl (ey 0 rfl rfl rfl rfl a6) ?_;rintro _ _ ⟨rfl,rfl⟩);refine iS ?_;refine cK (d5 2 rfl rfl rfl (by rw [List.length_map,hws])) ?_; (refine cM (Wt.none) rfl rfl (jg rfl rfl rfl (fun w hw=>znp ws hws _)) ?_;rintro _ _ ⟨b9, -,rfl,rfl⟩);refine fD ?_;refine c4 (T.block ?_);refine T.bG (α:=Nat) ((fun j:Nat=>[.int .i64 (j:Int)])) (eR ws) ([.row b9 83 ws.cells]) (fun i g=>∃v,g=[.row g3 30 [v], .sl v 3 1 i (je ((eR ws).take i))]) (fun _ _=>False) (fun x=>[(3, .pointer (some ⟨g3,0,none⟩)),(4, .int .i64 (x:Int))]) (_) (⟨_,rfl⟩) rfl (zme ws hws b9 _ _ ht (fun h=>h)) a6 (fun _=>rfl) (by exact Sx) ?_ ?_ ?_ ?_
 ·intro l i x X D g hx;refine it ?_;refine fG ?_;exact K.at (by repeat (first|exact Sub.nil|refine Sub.cons rfl ?_)) (List.Sublist.refl _)
 ·intro l i x X D g hx hG;obtain ⟨v,rfl⟩:=hG;obtain ⟨hi,rfl⟩:=znq hx;have hi2:i<(eT ws 0).length:=hi;refine fD ?_;refine T.block (T.region ?_);refine cK (c7 1) ?_;refine dd ?_; (refine cM (Wt.none) rfl rfl (Ew.buildSlice rfl rfl rfl a6) ?_;rintro _ _ ⟨g13,rfl,rfl⟩); (refine cM (Wt.none) rfl rfl (Ew.append 3 0 rfl rfl rfl rfl rfl rfl a5 a5) ?_;rintro v14 _ ⟨hv14,rfl⟩); (refine dH (Wt.none) rfl (ey 2 rfl rfl rfl rfl b5) ?_;rintro _ _ ⟨rfl,rfl⟩);refine TL.nil (fS ?_);exact K.round _ ⟨_,rfl,v14,rfl⟩ (by rw [zlU hi];exact Sx)
 ·intro g hG;obtain ⟨v,rfl⟩:=hG;refine fD ?_;rw [List.take_length];refine fS (K.seq (dk ?_));refine cK (c7 1) ?_;refine fo ?_;exact cX rfl rfl (fun w' hw=>⟨_,trivial,rfl,hw.sub Sx⟩)
 ·intro c y hz;exact hz.elim
theorem li {w:World}{v:Value}{e:TypeId}{size k:Nat}{l:List Value}(h:(Ent.sl v e size k l).ok w):OneC v:=by
 rcases (cV.1 h).2 with ⟨rfl,_⟩|⟨g,cap,cur,rfl,_⟩ <;> exact inferInstance
structure Tb where
 st:List Int
 ix:Nat→Int
 total:Int
 vps:List Value
 ps:Nat→List Pr
 vcs:List Value
 cs:Nat→List Cp
 vin:List Value
 inn:Nat→List Ld
 vout:List Value
 out:Nat→List Ld
abbrev Tb.n (T:Tb):Nat:=T.st.length
structure Lists {α:Type} (w:World) (p:Addr) (enc:α→List Value) (size:Nat) (vs:List Value) (n:Nat) (f:Nat→List α):Prop where
 at':∃v,w.cell? p=some v∧SlOf w v (fun u=>[u]) 1 vs
 len:vs.length=n
 each:∀i,i<n→SlOf w (cI vs i) enc size (f i)
structure TablesAt (w:World) (tp:Nat) (T:Tb):Prop where
 st:∃v,w.cell? ⟨tp,0,none⟩=some v∧zgE w v T.st
 ix:∀j,j<512→w.cell? ⟨tp,1+j,none⟩=some (.int .i64 (T.ix j))
 total:w.cell? ⟨tp,513,none⟩=some (.int .i64 T.total)
 ps:Lists w ⟨tp,514,none⟩ Pr.cells 5 T.vps T.n T.ps
 cs:Lists w ⟨tp,515,none⟩ Cp.cells 4 T.vcs T.n T.cs
 inn:Lists w ⟨tp,516,none⟩ Ld.cells 5 T.vin T.n T.inn
 out:Lists w ⟨tp,517,none⟩ Ld.cells 5 T.vout T.n T.out
structure Tb.Ok (T:Tb):Prop where
 n:T.n≤512
 ps:∀i,i<T.n→(T.ps i).length≤4096∧∀x∈T.ps i,0≤x.a∧x.a<T.n∧0≤x.b∧x.b<T.n∧ -1≤x.off∧x.off≤1∧2≤x.lo∧x.lo≤x.hi∧x.hi≤51∧(x.a=i∨x.b=i)
 cs:∀i,i<T.n→(T.cs i).length≤1024∧∀x∈T.cs i,0≤x.mx∧x.mx≤1099511627776∧2≤x.lo∧x.lo≤x.hi∧x.hi≤51
 inn:∀i,i<T.n→(T.inn i).length≤1024∧∀x∈T.inn i,x.to=i∧0≤x.fr∧x.fr<T.n∧1≤x.wt∧x.wt≤1073741824∧2≤x.lo∧x.lo≤x.hi∧x.hi≤51
 psS:∀i,i<T.n→∀x∈T.ps i,x.a≠x.b∧x∈T.ps x.a.toNat∧x∈T.ps x.b.toNat
 innS:∀i,i<T.n→∀x∈T.inn i,x.to≠x.fr∧x∈T.out x.fr.toNat
 outS:∀i,i<T.n→∀x∈T.out i,x.to≠x.fr∧x∈T.inn x.to.toNat
 out:∀i,i<T.n→(T.out i).length≤1024∧∀x∈T.out i,x.fr=i∧0≤x.to∧x.to<T.n∧1≤x.wt∧x.wt≤1073741824∧2≤x.lo∧x.lo≤x.hi∧x.hi≤51
def jj (w:World)(g:Nat):Prop:=∃cs t p,w.heap[g]?=some (.cells cs t p)
def Fz (w0 w:World):Prop:=∀g,jj w0 g→w.heap[g]?=w0.heap[g]?
theorem zeu {w:World}{p:Addr}{v:Value}(h:w.cell? p=some v):jj w p.block:=by
 unfold World.cell? at h
 split at h
 ·rename_i hh;exact ⟨_,_,_,hh⟩
 ·cases h
theorem Fz.cell {w w':World}(hb:Fz w w'){p:Addr}{v:Value}(h:w.cell? p=some v):w'.cell? p=some v:=(World.cell?_of_block (w:=w) (hb _ (zeu h))).trans h
theorem Fz.cs {w w':World}(hb:Fz w w'){g p:Nat}{l:List Value}(h:Cs w g p l):Cs w' g p l:=fun j hj=>by
 have:=h j hj;rw [List.getElem?_eq_getElem hj] at this ⊢;exact hb.cell this
theorem iN {w:World}{g p:Nat}{l:List Value}(h:Cs w g p l)(hl:0<l.length):jj w g:=by
 have:=h 0 hl;rw [List.getElem?_eq_getElem hl] at this;exact zeu this
theorem Fz.sl {α:Type}{w w':World}(hb:Fz w w'){v:Value}{enc:α→List Value}{size:Nat}{xs:List α}(h:SlOf w v enc size xs):SlOf w' v enc size xs:=by
 obtain ⟨A,cap,rfl,hc⟩:=h;refine ⟨A,cap,rfl,fun hp=>?_⟩;obtain ⟨g,off,rfl,hcs⟩:=hc hp;exact ⟨g,off,rfl,fun i hi=>hb.cs (hcs i hi)⟩
theorem gA {w w':World}(hb:Below w.heap.size w w'):Fz w w':=fun g ⟨cs,t,p,h⟩=>hb.block g (Array.getElem?_eq_some_iff.1 h).1
theorem Fz.hp {w0 w w':World}{M:Nat→Prop}{hs:HS}(h:Fz w0 w)(hw:Hp w M hs w')(h0:∀g,M g→¬jj w0 g):Fz w0 w':=fun g hg=>by
 have h1:=h g hg;obtain ⟨cs,t,p,e⟩:=hg;rw [←h1];refine hw.base g ?_ (fun hm=>h0 g hm ⟨cs,t,p,e⟩);rw [e] at h1;exact (Array.getElem?_eq_some_iff.1 h1).1
theorem Lists.later {α:Type}{w w':World}(hb:Fz w w'){p:Addr}{enc:α→List Value}{size:Nat}{vs:List Value}{n:Nat}{f:Nat→List α}(h:Lists w p enc size vs n f):Lists w' p enc size vs n f:=
 ⟨by obtain ⟨v,h1,h2⟩:=h.at';exact ⟨v,hb.cell h1,hb.sl h2⟩,h.len,fun i hi=>hb.sl (h.each i hi)⟩
theorem TablesAt.later {w w':World}(hb:Fz w w'){tp:Nat}{T:Tb}(h:TablesAt w tp T):TablesAt w' tp T:=
 ⟨by obtain ⟨v,h1,h2⟩:=h.st;exact ⟨v,hb.cell h1,hb.sl h2⟩,fun j hj=>hb.cell (h.ix j hj),hb.cell h.total,h.ps.later hb,h.cs.later hb,h.inn.later hb,h.out.later hb⟩
def Le (b:BitVec 64):List Value:=[U b]
structure StateAt (w:World) (sp:Nat) (T:Tb) (L:Ws) (c:Bool):Prop where
 tab:Tab w
 tb:∃tp,w.cell? ⟨sp,0,none⟩=some (.pointer (some ⟨tp,0,none⟩))∧TablesAt w tp T
 left:∃v,w.cell? ⟨sp,1,none⟩=some v∧SlOf w v Le 1 L
 len:L.length=T.n
 con:w.cell? ⟨sp,2,none⟩=some (.bool c)
theorem StateAt.later {w w':World}(hb:Below w.heap.size w w'){sp:Nat}{T:Tb}{L:Ws}{c:Bool}(h:StateAt w sp T L c):StateAt w' sp T L c:=
 have hf:=gA hb
 ⟨h.tab.keptF (gv hb),by obtain ⟨tp,h1,h2⟩:=h.tb;exact ⟨tp,hf.cell h1,h2.later hf⟩,by obtain ⟨v,h1,h2⟩:=h.left;exact ⟨v,hf.cell h1,hf.sl h2⟩,h.len,hf.cell h.con⟩
theorem StateAt.kept {B w:World}{hs:HS}{sp:Nat}{T:Tb}{L:Ws}{c:Bool}(hw:Hp B (fun _=>False) hs w)(h:StateAt B sp T L c):StateAt w sp T L c:=h.later ⟨hw.os,hw.tape,hw.output,hw.size,fun k hk=>hw.base k hk (fun h=>h)⟩
def iJ (b:BitVec 64):Nat:=if b≠0#64∧b &&& (b - 1#64)=0#64 then ctz b else 0
def only (L:Ws)(i:Nat):Nat:=iJ (cI L i)
theorem zmp (b:BitVec 64):iJ b<64:=by
 unfold iJ;split
 ·rename_i h;exact ziK h.1
 ·decide
theorem zhq (L:Ws)(i:Nat):only L i<64:=zmp _
def mq (L:Ws)(i:Nat)(g:BitVec 64)(x:Pr):BitVec 64:=
 if x.a=(i:Int) then
  if (only L x.b.toNat:Int)≠0∧x.lo≤(only L x.b.toNat:Int) - x.off∧(only L x.b.toNat:Int) - x.off≤x.hi then g ||| 1#64 <<< ((only L x.b.toNat:Int) - x.off).toNat else g
 else if x.lo≤(only L x.a.toNat:Int)∧(only L x.a.toNat:Int)≤x.hi then g ||| 1#64 <<< ((only L x.a.toNat:Int)+x.off).toNat else g
def lW (T:Tb)(L:Ws)(i:Nat):BitVec 64:=(T.ps i).foldl (mq L i) 0#64
theorem i7 {α β:Type}[Inhabited α](f:β→α→β)(z:β){l:List α}{k:Nat}(h:k<l.length):(l.take (k+1)).foldl f z=f ((l.take k).foldl f z) (cI l k):=by
 rw [List.take_succ_eq_append_getElem h,dS h,List.foldl_append];rfl
theorem zmo {b:BitVec 64}(h1:¬(b.toNat:Int)=0)(h2:((b &&& (b - 1#64)).toNat:Int)=0):iJ b=ctz b:=by
 unfold iJ;rw [if_pos ⟨by rintro rfl;exact h1 rfl,BitVec.eq_of_toNat_eq (by show _=0;omega)⟩]
theorem znY {b:BitVec 64}(h2:¬((b &&& (b - 1#64)).toNat:Int)=0):iJ b=0:=by
 unfold iJ;rw [if_neg (fun h=>h2 (by rw [h.2];rfl))]
theorem zmR {b:BitVec 64}(h1:(b.toNat:Int)=0):iJ b=0:=by
 unfold iJ;rw [if_neg (fun h=>h.1 (BitVec.eq_of_toNat_eq (by show _=0;omega)))]
theorem zdo (sp:Nat)(Y:Tb)(L:Ws)(c:Bool)(i:Nat)(z:Int)(hz:z=(i:Int))(hi:i<Y.n)(w:World)(h:StateAt w sp Y L c):Calls Tryz.prog 164 #[.pointer (some ⟨sp,0,none⟩), .int .i64 z] w fun e w'=>e= .returned (.int .i64 (only L i:Int))∧Below w.heap.size w w':=by
 subst hz;obtain ⟨tp,hsp0,hT⟩:=h.tb;obtain ⟨vL,hsp1,hL⟩:=h.left;obtain ⟨AL,fB,rfl,hLs⟩:=hL.op;have hLn:=h.len;obtain ⟨gL,oL,rfl,hc⟩:=hLs a5;have hk:=hc i a5;simp only [Le] at hk;refine dv (M:=fun _=>False) (hs:=[]) Tryz.func164 rfl rfl rfl (Hp.refl _ _) ?_;refine f7 ?_;refine iS ?_;refine eh ?_;refine fj ?_;refine cK (dO rfl rfl b8 (fun h=>h)) ?_;refine dd ?_;refine q18 ?_;refine gy ?_;refine eM ?_;refine dm rfl rfl rfl (fun h1=>?_) (fun h1=>?_)
 ·have p1:=h1; (try simp only [cW] at p1);refine jF ?_;refine jF ?_;refine cZ (Wt.some rfl rfl rfl h1) rfl rfl (Yv.cw (b:=1#64) rfl rfl rfl) ?_;refine cZ (Wt.some rfl rfl rfl h1) rfl rfl (fU) ?_;refine jF ?_;refine kI ?_;refine c4 ?_;refine T.cond rfl (fun h2=>?_) (fun h2=>?_)
  ·have p2:=h2; (try simp only [cW] at p2); (have hne:cI L i≠0#64:=by intro hh;rw [hh] at p1;exact p1 rfl);refine f7 ?_; (refine cM (Wt.none) rfl rfl (cL rfl rfl rfl (fun w hw=>zmX _ hne w (h.tab.keptF hw))) ?_;rintro _ _ ⟨rfl,rfl⟩);refine dd ?_;refine j8 ?_;exact cX rfl rfl (fun w' hw=>⟨zcY (by rw [only,zmo p1 p2]),hw.isBelow⟩)
  ·have p2:=h2; (try simp only [cW] at p2);refine iD ?_;refine fo ?_;exact cX rfl rfl (fun w' hw=>⟨zcY (by rw [only,znY p2];rfl),hw.isBelow⟩)
 ·have p1:=h1; (try simp only [cW] at p1);refine jR ?_;refine q1i ?_;refine mJ ?_;refine iD ?_;refine fo ?_;exact cX rfl rfl (fun w' hw=>⟨zcY (by rw [only,zmR p1];rfl),hw.isBelow⟩)
theorem zjf (sp:Nat)(Y:Tb)(L:Ws)(c:Bool)(i:Nat)(z:Int)(hz:z=(i:Int))(hi:i<Y.n)(w:World)(h:StateAt w sp Y L c)(hok:Y.Ok):Calls Tryz.prog 153 #[.pointer (some ⟨sp,0,none⟩), .int .i64 z] w fun e w'=>e= .returned (U (lW Y L i))∧Below w.heap.size w w':=by
 subst hz;obtain ⟨tp,hsp0,hT⟩:=h.tb;obtain ⟨vL,hsp1,hL⟩:=h.left;obtain ⟨AL,fB,rfl,hLs⟩:=hL.op;have hLn:=h.len;obtain ⟨vP,hP0,hP⟩:=hT.ps.at';obtain ⟨AP,capP,rfl,hPs⟩:=hP.op;have hPn:=hT.ps.len;obtain ⟨gP,oP,rfl,hPc⟩:=hPs a5;rw [hPn] at hP0;have hPi:=hPc i (by rw [hPn];exact hi);obtain ⟨BP,cpP,hvP,hslP⟩:=(hT.ps.each i hi).op;simp only [hvP] at hPi;obtain ⟨hlen,hrng⟩:=hok.ps i hi;have hn512:=hok.n;refine dv (M:=fun _=>False) (hs:=[]) Tryz.func153 rfl rfl rfl (Hp.refl _ _) ?_;refine q3K ?_;refine jl ?_;refine eh ?_;refine q1U ?_;refine cK (dO rfl rfl hP0 (fun h=>h)) ?_;refine lE ?_;refine cK (dY (j:=0) rfl rfl hPi rfl rfl (fun h=>h)) ?_;refine jE ?_;refine T.loop (ι:=Nat) (fun k=>[(0, .pointer (some ⟨sp,0,none⟩)),(1, .int .i64 (i:Int)),(5,U (((Y.ps i).take k).foldl (mq L i) 0#64)),(19, .slice BP (Y.ps i).length cpP),(20, .int .i64 ((Y.ps i).length:Int)),(21, .int .i64 (k:Int))]) (fun k=>[]) (fun k=>k≤(Y.ps i).length) (fun k=>(Y.ps i).length - k) 0 ?_ ?_ ?_ ?_
 ·omega
 ·exact (by repeat (first|exact Sub.nil|refine Sub.cons rfl ?_))
 ·exact Sx
 ·intro k hphi;refine eO ?_;refine T.cond rfl (fun h1=>?_) (fun h1=>?_)
  ·have p1:=h1; (try simp only [cW] at p1);obtain ⟨g,off,rfl,hc⟩:=hslP a5;have hk:=hc k a5;simp only [Pr.cells] at hk;have hr:=hrng _ (iE (xs:=Y.ps i) (k:=k) a5);have oa:=zhq L (cI (Y.ps i) k).a.toNat;have ob:=zhq L (cI (Y.ps i) k).b.toNat;refine fv ?_;refine lC ?_; (refine cM (Wt.none) rfl rfl (Ew.alloc) ?_;rintro _ _ ⟨g7,rfl,rfl⟩); (refine dH (Wt.none) rfl (du 0) ?_;rintro _ _ ⟨rfl,rfl⟩);refine dV ?_;refine ef ?_;refine jo ?_;refine T.cond rfl (fun h2=>?_) (fun h2=>?_)
   ·have p2:=h2; (try simp only [cW] at p2);refine f7 ?_;refine ef ?_; (refine cM (Wt.none) rfl rfl (cL rfl rfl rfl (fun w hw=>zdo sp Y L c (cI (Y.ps i) k).b.toNat _ a5 a5 w (h.kept hw))) ?_;rintro _ _ ⟨rfl,rfl⟩);refine gy ?_;refine eM ?_;refine dm rfl rfl rfl (fun h3=>?_) (fun h3=>?_)
    ·have p3:=h3; (try simp only [cW] at p3);refine q0U ?_;refine q1T ?_;refine q0U ?_;refine cZ (Wt.some rfl rfl rfl h3) rfl rfl (kl rfl rfl rfl a5) ?_;refine q1T ?_;refine q3L ?_;refine dd ?_;refine dm rfl rfl rfl (fun h4=>?_) (fun h4=>?_)
     ·have p4:=h4; (try simp only [cW] at p4);refine cZ (Wt.some rfl rfl rfl h4) rfl rfl (dU) ?_;refine q0V ?_;refine cZ (Wt.some rfl rfl rfl h4) rfl rfl (kl rfl rfl rfl a5) ?_;refine q0V ?_;refine cZ (Wt.some rfl rfl rfl h4) rfl rfl (dU) ?_;refine cK (eD rfl rfl h4) ?_;refine c4 ?_;refine T.cond rfl (fun h5=>?_) (fun h5=>?_)
      ·have p5:=h5; (try simp only [cW] at p5);refine i1 ?_;refine ef ?_;refine q2g ?_;refine cK (gu (a:=1#64) ((only L (cI (Y.ps i) k).b.toNat:Int) - (cI (Y.ps i) k).off).toNat rfl rfl rfl a5 a5) ?_;refine q3D ?_;exact K.next (k+1) a5 a5 (by rw [i7 _ _ a5,mq,if_pos p2,if_pos ⟨p3,p4,p5⟩];exact (by repeat (first|exact Sub.nil|refine Sub.cons rfl ?_))) Sx
      ·have p5:=h5; (try simp only [cW] at p5);refine gU ?_;exact K.next (k+1) a5 a5 (by rw [i7 _ _ a5,mq,if_pos p2,if_neg (fun hh=>absurd hh.2.2 a5)];exact (by repeat (first|exact Sub.nil|refine Sub.cons rfl ?_))) Sx
     ·have p4:=h4; (try simp only [cW] at p4);refine q0p ?_;refine q0p ?_;refine TL.off (Wt.not rfl rfl rfl h4) rfl rfl ?_;refine cK (ee rfl rfl h4) ?_;refine mJ ?_;refine gU ?_;exact K.next (k+1) a5 a5 (by rw [i7 _ _ a5,mq,if_pos p2,if_neg (fun hh=>absurd hh.2.1 a5)];exact (by repeat (first|exact Sub.nil|refine Sub.cons rfl ?_))) Sx
    ·have p3:=h3; (try simp only [cW] at p3);refine q0q ?_;refine q3i ?_;refine TL.run 9 rfl ?_;refine mJ ?_;refine gU ?_;exact K.next (k+1) a5 a5 (by rw [i7 _ _ a5,mq,if_pos p2,if_neg (fun hh=>hh.1 p3)];exact (by repeat (first|exact Sub.nil|refine Sub.cons rfl ?_))) Sx
   ·have p2:=h2; (try simp only [cW] at p2);refine f7 ?_;refine ef ?_; (refine cM (Wt.none) rfl rfl (cL rfl rfl rfl (fun w hw=>zdo sp Y L c (cI (Y.ps i) k).a.toNat _ a5 a5 w (h.kept hw))) ?_;rintro _ _ ⟨rfl,rfl⟩);refine gy ?_;refine ef ?_;refine eM ?_;refine dm rfl rfl rfl (fun h6=>?_) (fun h6=>?_)
    ·have p6:=h6; (try simp only [cW] at p6);refine q2e ?_;refine c4 ?_;refine T.cond rfl (fun h7=>?_) (fun h7=>?_)
     ·have p7:=h7; (try simp only [cW] at p7);refine i1 ?_;refine ef ?_;refine q0e ?_;refine cK (gu (a:=1#64) ((only L (cI (Y.ps i) k).a.toNat:Int)+(cI (Y.ps i) k).off).toNat rfl rfl rfl a5 a5) ?_;refine q3D ?_;exact K.next (k+1) a5 a5 (by rw [i7 _ _ a5,mq,if_neg p2,if_pos ⟨p6,p7⟩];exact (by repeat (first|exact Sub.nil|refine Sub.cons rfl ?_))) Sx
     ·have p7:=h7; (try simp only [cW] at p7);refine gU ?_;exact K.next (k+1) a5 a5 (by rw [i7 _ _ a5,mq,if_neg p2,if_neg (fun hh=>absurd hh.2 a5)];exact (by repeat (first|exact Sub.nil|refine Sub.cons rfl ?_))) Sx
    ·have p6:=h6; (try simp only [cW] at p6);refine q06 ?_;refine q06 ?_;refine cK (ee rfl rfl h6) ?_;refine mJ ?_;refine gU ?_;exact K.next (k+1) a5 a5 (by rw [i7 _ _ a5,mq,if_neg p2,if_neg (fun hh=>absurd hh.1 a5)];exact (by repeat (first|exact Sub.nil|refine Sub.cons rfl ?_))) Sx
  ·have p1:=h1; (try simp only [cW] at p1);refine q01 ?_;refine j3 ?_;exact cX rfl rfl (fun w' hw=>⟨by rw [lW,List.take_of_length_le a5],hw.isBelow⟩)
def lS (f:Nat→Int):List Value:=(List.range 52).map fun d=> .int .i64 (f d)
theorem ziW (f:Nat→Int):(lS f).length=52:=by simp [lS]
theorem zgJ {f:Nat→Int}{d p:Nat}(hp:p=d)(hd:d<52):(lS f)[p]?=some (.int .i64 (f d)):=by subst hp;simp [lS,hd]
theorem zjt {f f':Nat→Int}{d p:Nat}{v:Int}(hp:p=d)(hd:d<52)(h1:f' d=v)(h2:∀e,e≠d→f' e=f e):(lS f).set p (.int .i64 v)=lS f':=by
 subst hp h1;apply List.ext_getElem?;intro e;unfold lS;by_cases he:e=p
 ·subst he;rw [List.getElem?_set_self (by simpa using hd)];simp [hd]
 ·rw [List.getElem?_set_ne (fun h=>he h.symm)];simp only [List.getElem?_map,List.getElem?_range];by_cases h52:e<52
  ·simp [h52,h2 e he]
  ·simp [h52]
def jJ (L:Ws)(f:Nat→Int)(x:Ld):Nat→Int:=fun d=>if x.lo≤(only L x.fr.toNat:Int)∧(only L x.fr.toNat:Int)≤x.hi∧only L x.fr.toNat=d then f d+x.wt else f d
def gT (L:Ws)(l:List Ld):Nat→Int:=l.foldl (jJ L) (fun _=>0)
theorem zlP (L:Ws):∀(l:List Ld),(∀x∈l,1≤x.wt∧x.wt≤1073741824)→∀(f:Nat→Int) (b:Int),(∀d,0≤f d∧f d≤b)→∀d,0≤l.foldl (jJ L) f d∧l.foldl (jJ L) f d≤b+1073741824* (l.length:Int)
 | [],_,f,b,hf,d=>by simpa using hf d
 |x :: r,hx,f,b,hf,d=>by
  have h1:=hx x a8
  have:=zlP L r (fun y hy=>hx y (by simp [hy])) (jJ L f x) (b+1073741824) (fun e=>by
   have:=hf e
   unfold jJ;split <;> omega) d
  simp only [List.foldl_cons,List.length_cons];omega
def zh3 (f:Nat→Int)(mx:Int)(g:BitVec 64)(d:Nat):BitVec 64:=if mx<f d then g ||| 1#64 <<< d else g
def zeQ (f:Nat→Int)(g:BitVec 64)(x:Cp):BitVec 64:=(List.range' x.lo.toNat (x.hi.toNat+1 - x.lo.toNat)).foldl (zh3 f x.mx) g
def kD (Y:Tb)(L:Ws)(i:Nat):BitVec 64:=(Y.cs i).foldl (zeQ (gT L (Y.inn i))) 0#64
theorem ze9 {L:Ws}{l:List Ld}{k:Nat}(h:k<l.length):gT L (l.take (k+1))=jJ L (gT L (l.take k)) (cI l k):=i7 _ _ h
theorem znH {L:Ws}{l:List Ld}(hl:l.length≤1024)(hw:∀x∈l,1≤x.wt∧x.wt≤1073741824)(k d:Nat):0≤gT L (l.take k) d∧gT L (l.take k) d≤1099511627776:=by
 have:=zlP L (l.take k) (fun x hx=>hw x (List.mem_of_mem_take hx)) (fun _=>0) 0 (fun _=>⟨by simp,by simp⟩) d; (have hk:(l.take k).length≤1024:=by rw [List.length_take];omega);unfold gT;omega
def jK (L:Ws)(i d:Nat)(s:Int)(x:Ld):Int:=if (x.lo≤(d:Int)∧(d:Int)≤x.hi)∧(x.fr=(i:Int)∨only L x.fr.toNat=d) then s+x.wt else s
theorem zmT (L:Ws)(i d:Nat):∀(l:List Ld),(∀x∈l,1≤x.wt∧x.wt≤1073741824)→∀(s:Int),0≤s→0≤l.foldl (jK L i d) s∧l.foldl (jK L i d) s≤s+1073741824* (l.length:Int)
 | [],_,s,h=>by simp;exact h
 |x :: r,hx,s,h=>by
  have h1:=hx x a8; (have hs:0≤jK L i d s x∧jK L i d s x≤s+1073741824:=by unfold jK;split <;> omega);have:=zmT L i d r (fun y hy=>hx y (by simp [hy])) (jK L i d s x) hs.1;simp only [List.foldl_cons,List.length_cons];omega
def jB (L:Ws)(i d:Nat)(l:List Ld):Int:=l.foldl (jK L i d) 0
theorem zoj {L:Ws}{l:List Ld}{i d:Nat}(hl:l.length≤1024)(hw:∀x∈l,1≤x.wt∧x.wt≤1073741824)(k:Nat):0≤jB L i d (l.take k)∧jB L i d (l.take k)≤1099511627776:=by
 have:=zmT L i d (l.take k) (fun x hx=>hw x (List.mem_of_mem_take hx)) 0 (Int.le_refl _); (have hk:(l.take k).length≤1024:=by rw [List.length_take];omega);unfold jB;omega
def zd5 (lost:Int)(d:Nat)(g:BitVec 64)(x:Cp):BitVec 64:=if (x.lo≤(d:Int)∧(d:Int)≤x.hi)∧x.mx<lost then g ||| 1#64 <<< d else g
def kW (Y:Tb)(L:Ws)(i:Nat)(g:BitVec 64)(x:Ld):BitVec 64:=
 if ((only L x.to.toNat:Int)<x.lo∨x.hi<(only L x.to.toNat:Int))∨g.getLsbD (only L x.to.toNat)=true then g
 else (Y.cs x.to.toNat).foldl (zd5 (jB L i (only L x.to.toNat) (Y.inn x.to.toNat)) (only L x.to.toNat)) g
def lZ (Y:Tb)(L:Ws)(i:Nat):BitVec 64:=(Y.out i).foldl (kW Y L i) 0#64
theorem zj1 (sp:Nat)(Y:Tb)(L:Ws)(c:Bool)(i:Nat)(z:Int)(hz:z=(i:Int))(hi:i<Y.n)(w:World)(h:StateAt w sp Y L c)(hok:Y.Ok):Calls Tryz.prog 154 #[.pointer (some ⟨sp,0,none⟩), .int .i64 z] w fun e w'=>e= .returned (U (kD Y L i))∧Below w.heap.size w w':=by
 subst hz;obtain ⟨tp,hsp0,hT⟩:=h.tb;obtain ⟨vL,hsp1,hL⟩:=h.left;obtain ⟨AL,fB,rfl,hLs⟩:=hL.op;have hLn:=h.len;obtain ⟨vC,hC0,hC⟩:=hT.cs.at';obtain ⟨AC,capC,rfl,hCs⟩:=hC.op;have hCn:=hT.cs.len;obtain ⟨gC,oC,rfl,hCc⟩:=hCs a5;rw [hCn] at hC0;have hCi:=hCc i (by rw [hCn];exact hi);obtain ⟨BC,cpC,hvC,hslC⟩:=(hT.cs.each i hi).op;simp only [hvC] at hCi;obtain ⟨vI,hI0,hI⟩:=hT.inn.at';obtain ⟨AI,capI,rfl,hIs⟩:=hI.op;have hIn:=hT.inn.len;obtain ⟨gI,oI,rfl,hIc⟩:=hIs a5;rw [hIn] at hI0;have hIi:=hIc i (by rw [hIn];exact hi);obtain ⟨BI,cpI,hvI,hslI⟩:=(hT.inn.each i hi).op;simp only [hvI] at hIi;obtain ⟨hlenC,hrngC⟩:=hok.cs i hi;obtain ⟨hlen,hrng⟩:=hok.inn i hi;have hn512:=hok.n; (have hwt:∀x∈Y.inn i,1≤x.wt∧x.wt≤1073741824:=fun x hx=>by have:=hrng x hx;omega);refine dv (M:=fun _=>False) (hs:=[]) Tryz.func154 rfl rfl rfl (Hp.refl _ _) ?_;refine q3t ?_;refine q4g ?_;refine dD ?_;refine T.cond rfl (fun h1=>?_) (fun h1=>?_)
 ·have p1:=h1; (try simp only [cW] at p1);refine ik ?_;exact cX rfl rfl (fun w' hw=>⟨by rw [kD,List.eq_nil_of_length_eq_zero (show (Y.cs i).length=0 by omega)];rfl,hw.isBelow⟩)
 ·have p1:=h1; (try simp only [cW] at p1);refine iD ?_; (refine cM (Wt.none) rfl rfl (Ew.alloc) ?_;rintro _ _ ⟨g5,rfl,rfl⟩);refine c4 ?_;refine T.cut (gs:=[(0, .pointer (some ⟨sp,0,none⟩)),(1, .int .i64 (i:Int)),(5, .pointer (some ⟨g5,0,none⟩))]) (hs':=[.row g5 227 (lS (gT L (Y.inn i)))]) ?_ ?_
  ·skip;refine jX ?_;refine q1U ?_;refine cK (dO rfl rfl hI0 (fun h=>h)) ?_;refine lE ?_;refine cK (dY (j:=0) rfl rfl hIi rfl rfl (fun h=>h)) ?_;refine jE ?_;refine T.loop (ι:=Nat) (fun k=>[(0, .pointer (some ⟨sp,0,none⟩)),(1, .int .i64 (i:Int)),(5, .pointer (some ⟨g5,0,none⟩)),(34, .slice BI (Y.inn i).length cpI),(35, .int .i64 ((Y.inn i).length:Int)),(36, .int .i64 (k:Int))]) (fun k=>[.row g5 227 (lS (gT L ((Y.inn i).take k)))]) (fun k=>k≤(Y.inn i).length) (fun k=>(Y.inn i).length - k) 0 ?_ ?_ ?_ ?_
   ·omega
   ·exact (by repeat (first|exact Sub.nil|refine Sub.cons rfl ?_))
   ·exact Sx
   ·intro k hphi;refine eO ?_;refine T.cond rfl (fun h2=>?_) (fun h2=>?_)
    ·have p2:=h2; (try simp only [cW] at p2);obtain ⟨g,off,rfl,hc⟩:=hslI a5;have hk:=hc k a5;simp only [Ld.cells] at hk;have hr:=hrng _ (iE (xs:=Y.inn i) (k:=k) a5);have oa:=zhq L (cI (Y.inn i) k).fr.toNat;refine fv ?_;refine lC ?_; (refine cM (Wt.none) rfl rfl (Ew.alloc) ?_;rintro _ _ ⟨g7,rfl,rfl⟩); (refine dH (Wt.none) rfl (du 0) ?_;rintro _ _ ⟨rfl,rfl⟩);refine jW ?_;refine ef ?_; (refine cM (Wt.none) rfl rfl (cL rfl rfl rfl (fun w hw=>zdo sp Y L c (cI (Y.inn i) k).fr.toNat _ a5 a5 w (h.kept hw))) ?_;rintro _ _ ⟨rfl,rfl⟩);refine gy ?_;refine ef ?_;refine eM ?_;refine dm rfl rfl rfl (fun h3=>?_) (fun h3=>?_)
     ·have p3:=h3; (try simp only [cW] at p3);refine q1T ?_;refine q0U ?_;refine q1T ?_;refine q3L ?_;refine c4 ?_;refine T.cond rfl (fun h4=>?_) (fun h4=>?_)
      ·have p4:=h4; (try simp only [cW] at p4);have hld:=zgJ (f:=gT L ((Y.inn i).take k)) (d:=only L (cI (Y.inn i) k).fr.toNat) (p:=0+only L (cI (Y.inn i) k).fr.toNat*1) a5 a5;have hbd:=znH (L:=L) hlen hwt k (only L (cI (Y.inn i) k).fr.toNat);refine dI (sN 0 2 (sN 3 2 (.eff 2 (sN 5 2 (.eff 7 .done))))) (List.eraseIdx _ 1) a7 (List.eraseIdx_sublist _ _) ?_;refine fe ?_;refine cP rfl (dW rfl rfl rfl rfl a5) ?_;refine q39 ?_;refine eA rfl (Wt.none) rfl rfl (c7 1 rfl rfl rfl hld) Sx ?_;refine cP rfl (lv rfl rfl rfl a5) ?_;refine cP rfl (dW rfl rfl rfl rfl a5) ?_;refine dy ?_; (refine dF rfl (Wt.none) rfl (gV 1 (lS (gT L ((Y.inn i).take (k+1)))) rfl rfl rfl rfl (by rw [ziW];omega) (zjt (d:=only L (cI (Y.inn i) k).fr.toNat) a5 a5 (by rw [ze9 a5,jJ,if_pos ⟨by omega,by omega,rfl⟩]) (fun e he=>by rw [ze9 a5,jJ,if_neg (fun hh=>he hh.2.2.symm)]))) ?_;rintro _ _ ⟨rfl,rfl⟩;refine ⟨Sx,?_⟩);refine q1x ?_;exact K.next (k+1) a5 a5 (by repeat (first|exact Sub.nil|refine Sub.cons rfl ?_)) Sx
      ·have p4:=h4; (try simp only [cW] at p4);refine gU ?_;exact K.next (k+1) a5 a5 (by repeat (first|exact Sub.nil|refine Sub.cons rfl ?_)) (by rw [ze9 a5,show jJ L (gT L ((Y.inn i).take k)) (cI (Y.inn i) k)=gT L ((Y.inn i).take k) from funext fun d=>by unfold jJ;exact if_neg (fun hh=>absurd hh.2.1 a5)];exact Sx)
     ·have p3:=h3; (try simp only [cW] at p3);refine q3i ?_;refine mJ ?_;refine gU ?_;exact K.next (k+1) a5 a5 (by repeat (first|exact Sub.nil|refine Sub.cons rfl ?_)) (by rw [ze9 a5,show jJ L (gT L ((Y.inn i).take k)) (cI (Y.inn i) k)=gT L ((Y.inn i).take k) from funext fun d=>by unfold jJ;exact if_neg (fun hh=>absurd hh.1 a5)];exact Sx)
    ·have p2:=h2; (try simp only [cW] at p2);refine eF ?_;exact K.at (by repeat (first|exact Sub.nil|refine Sub.cons rfl ?_)) (by rw [show (Y.inn i).take k=Y.inn i from List.take_of_length_le a5];exact Sx)
  ·skip;refine q3t ?_;refine jE ?_;refine T.loop (ι:=Nat) (fun k=>[(0, .pointer (some ⟨sp,0,none⟩)),(1, .int .i64 (i:Int)),(5, .pointer (some ⟨g5,0,none⟩)),(9,U (((Y.cs i).take k).foldl (zeQ (gT L (Y.inn i))) 0#64)),(71, .slice BC (Y.cs i).length cpC),(72, .int .i64 ((Y.cs i).length:Int)),(73, .int .i64 (k:Int))]) (fun k=>[.row g5 227 (lS (gT L (Y.inn i)))]) (fun k=>k≤(Y.cs i).length) (fun k=>(Y.cs i).length - k) 0 ?_ ?_ ?_ ?_
   ·omega
   ·exact (by repeat (first|exact Sub.nil|refine Sub.cons rfl ?_))
   ·exact Sx
   ·intro k hphi;refine eO ?_;refine T.cond rfl (fun h5=>?_) (fun h5=>?_)
    ·have p5:=h5; (try simp only [cW] at p5);obtain ⟨g,off,rfl,hc⟩:=hslC a5;have hk:=hc k a5;simp only [Cp.cells] at hk;have hr:=hrngC _ (iE (xs:=Y.cs i) (k:=k) a5);refine mj ?_;refine T.cut (gs:=[(0, .pointer (some ⟨sp,0,none⟩)),(1, .int .i64 (i:Int)),(5, .pointer (some ⟨g5,0,none⟩)),(9,U (((Y.cs i).take (k+1)).foldl (zeQ (gT L (Y.inn i))) 0#64)),(71, .slice (some ⟨g,off,none⟩) (Y.cs i).length cpC),(72, .int .i64 ((Y.cs i).length:Int)),(73, .int .i64 (k:Int))]) (hs':=[.row g5 227 (lS (gT L (Y.inn i)))]) ?_ ?_
     ·skip;refine T.block (dk ?_);refine lC ?_; (refine cM (Wt.none) rfl rfl (Ew.alloc) ?_;rintro _ _ ⟨g11,rfl,rfl⟩); (refine dH (Wt.none) rfl (du 0) ?_;rintro _ _ ⟨rfl,rfl⟩);refine dV ?_;refine ef ?_;refine dd ?_;refine c4 (T.block ?_);refine T.loop (ι:=Nat) (fun j=>[(0, .pointer (some ⟨sp,0,none⟩)),(1, .int .i64 (i:Int)),(5, .pointer (some ⟨g5,0,none⟩)),(9,U ((List.range' (cI (Y.cs i) k).lo.toNat j).foldl (zh3 (gT L (Y.inn i)) (cI (Y.cs i) k).mx) (((Y.cs i).take k).foldl (zeQ (gT L (Y.inn i))) 0#64))),(11, .pointer (some ⟨g11,0,none⟩)),(12, .int .i64 ((cI (Y.cs i) k).lo+(j:Int))),(71, .slice (some ⟨g,off,none⟩) (Y.cs i).length cpC),(72, .int .i64 ((Y.cs i).length:Int)),(73, .int .i64 (k:Int))]) (fun j=>[.row g11 104 [.int .i64 (cI (Y.cs i) k).st, .int .i64 (cI (Y.cs i) k).mx, .int .i64 (cI (Y.cs i) k).lo, .int .i64 (cI (Y.cs i) k).hi], .row g5 227 (lS (gT L (Y.inn i)))]) (fun j=>(cI (Y.cs i) k).lo+(j:Int)≤(cI (Y.cs i) k).hi+1) (fun j=>((cI (Y.cs i) k).hi+1 - (cI (Y.cs i) k).lo).toNat - j) 0 ?_ ?_ ?_ ?_
      ·omega
      ·exact (by repeat (first|exact Sub.nil|refine Sub.cons rfl ?_|(refine eH rfl a5 ?_)))
      ·exact Sx
      ·intro j hphi;refine q2Y ?_;refine dD ?_;refine T.cond rfl (fun h6=>?_) (fun h6=>?_)
       ·have p6:=h6; (try simp only [cW] at p6);have hld:=zgJ (f:=gT L (Y.inn i)) (d:=(cI (Y.cs i) k).lo.toNat+j) (p:=0+((cI (Y.cs i) k).lo.toNat+j) *1) a5 a5;refine j1 ?_;refine dI (sN 0 5 (.still 5 .done)) _ a7 (List.Sublist.refl _) ?_;refine fe ?_;refine cP rfl (dW rfl rfl rfl (show (_:Int)=(((cI (Y.cs i) k).lo.toNat+j:Nat):Int) from by omega) a5) ?_;refine cP rfl (c7 1 rfl rfl rfl hld) ?_;refine fq ?_;refine j9 ?_;refine T.cond rfl (fun h7=>?_) (fun h7=>?_)
        ·have p7:=h7; (try simp only [cW] at p7);refine i1 ?_;refine cK (gu (a:=1#64) ((cI (Y.cs i) k).lo.toNat+j) rfl rfl rfl a5 a5) ?_;refine cK (iF) ?_;refine dd ?_;refine TL.nil (fS (K.seq (T.region ?_)));refine dd ?_;refine j0 ?_;exact K.next (j+1) a5 a5 (by rw [List.range'_1_concat,List.foldl_append];simp only [List.foldl_cons,List.foldl_nil];rw [zh3,if_pos a5];repeat (first|exact Sub.nil|refine Sub.cons rfl ?_|(refine eH rfl a5 ?_))) Sx
        ·have p7:=h7; (try simp only [cW] at p7);refine im ?_;exact K.next (j+1) a5 a5 (by rw [List.range'_1_concat,List.foldl_append];simp only [List.foldl_cons,List.foldl_nil];rw [zh3,if_neg a5];repeat (first|exact Sub.nil|refine Sub.cons rfl ?_|(refine eH rfl a5 ?_))) Sx
       ·have p6:=h6; (try simp only [cW] at p6);refine T.exit (fu (fu (iQ (fS ?_))));exact K.at (by rw [i7 _ _ a5,zeQ,show (cI (Y.cs i) k).hi.toNat+1 - (cI (Y.cs i) k).lo.toNat=j by omega];exact (by repeat (first|exact Sub.nil|refine Sub.cons rfl ?_))) Sx
     ·skip;refine eS ?_;refine j0 ?_;exact K.next (k+1) a5 a5 (by repeat (first|exact Sub.nil|refine Sub.cons rfl ?_)) Sx
    ·have p5:=h5; (try simp only [cW] at p5);refine q01 ?_;refine j3 ?_;exact cX rfl rfl (fun w' hw=>⟨by rw [kD,List.take_of_length_le a5],hw.isBelow⟩)
theorem ze4 {L:Ws}{i d:Nat}{l:List Ld}{k:Nat}(h:k<l.length):jB L i d (l.take (k+1))=jK L i d (jB L i d (l.take k)) (cI l k):=i7 _ _ h
theorem zi8 (sp:Nat)(Y:Tb)(L:Ws)(c:Bool)(i:Nat)(z:Int)(hz:z=(i:Int))(hi:i<Y.n)(w:World)(h:StateAt w sp Y L c)(hok:Y.Ok):Calls Tryz.prog 155 #[.pointer (some ⟨sp,0,none⟩), .int .i64 z] w fun e w'=>e= .returned (U (lZ Y L i))∧Below w.heap.size w w':=by
 subst hz;obtain ⟨tp,hsp0,hT⟩:=h.tb;obtain ⟨vL,hsp1,hL⟩:=h.left;obtain ⟨AL,fB,rfl,hLs⟩:=hL.op;have hLn:=h.len;obtain ⟨vO,hO0,hO⟩:=hT.out.at';obtain ⟨AO,capO,rfl,hOs⟩:=hO.op;have hOn:=hT.out.len;obtain ⟨gO,oO,rfl,hOc⟩:=hOs a5;rw [hOn] at hO0;have hOi:=hOc i (by rw [hOn];exact hi);obtain ⟨BO,cpO,hvO,hslO⟩:=(hT.out.each i hi).op;simp only [hvO] at hOi;obtain ⟨vI,hI0,hI⟩:=hT.inn.at';obtain ⟨AI,capI,rfl,hIs⟩:=hI.op;have hIn:=hT.inn.len;obtain ⟨gI,oI,rfl,hIc⟩:=hIs a5;rw [hIn] at hI0;obtain ⟨vC,hC0,hC⟩:=hT.cs.at';obtain ⟨AC,capC,rfl,hCs⟩:=hC.op;have hCn:=hT.cs.len;obtain ⟨gC,oC,rfl,hCc⟩:=hCs a5;rw [hCn] at hC0;obtain ⟨hlen,hrng⟩:=hok.out i hi;have hn512:=hok.n;refine dv (M:=fun _=>False) (hs:=[]) Tryz.func155 rfl rfl rfl (Hp.refl _ _) ?_;refine q3K ?_;refine jl ?_;refine eh ?_;refine q1U ?_;refine cK (dO rfl rfl hO0 (fun h=>h)) ?_;refine lE ?_;refine cK (dY (j:=0) rfl rfl hOi rfl rfl (fun h=>h)) ?_;refine jE ?_;refine T.loop (ι:=Nat) (fun k=>[(0, .pointer (some ⟨sp,0,none⟩)),(1, .int .i64 (i:Int)),(23, .slice BO (Y.out i).length cpO),(24, .int .i64 ((Y.out i).length:Int)),(25, .int .i64 (k:Int)),(5,U (((Y.out i).take k).foldl (kW Y L i) 0#64))]) (fun k=>[]) (fun k=>k≤(Y.out i).length) (fun k=>(Y.out i).length - k) 0 ?_ ?_ ?_ ?_
 ·omega
 ·exact (by repeat (first|exact Sub.nil|refine Sub.cons rfl ?_))
 ·exact Sx
 ·intro k hphi;refine eO ?_;refine T.cond rfl (fun h1=>?_) (fun h1=>?_)
  ·have p1:=h1; (try simp only [cW] at p1);obtain ⟨g,off,rfl,hc⟩:=hslO a5;have hk:=hc k a5;simp only [Ld.cells] at hk;have hr:=hrng _ (iE (xs:=Y.out i) (k:=k) a5);have oa:=zhq L (cI (Y.out i) k).to.toNat; (have htn:(cI (Y.out i) k).to.toNat<Y.n:=by omega);obtain ⟨hlenI,hrngI⟩:=hok.inn _ htn;obtain ⟨hlenC,hrngC⟩:=hok.cs _ htn; (have hwt:∀x∈Y.inn (cI (Y.out i) k).to.toNat,1≤x.wt∧x.wt≤1073741824:=fun x hx=>by have:=hrngI x hx;omega);have hIi:=hIc (cI (Y.out i) k).to.toNat (by rw [hIn];exact htn);obtain ⟨BI,cpI,hvI,hslI⟩:=(hT.inn.each (cI (Y.out i) k).to.toNat htn).op;simp only [hvI] at hIi;have hCi:=hCc (cI (Y.out i) k).to.toNat (by rw [hCn];exact htn);obtain ⟨BC,cpC,hvC,hslC⟩:=(hT.cs.each (cI (Y.out i) k).to.toNat htn).op;simp only [hvC] at hCi;refine mj ?_;refine T.cut (gs:=[(0, .pointer (some ⟨sp,0,none⟩)),(1, .int .i64 (i:Int)),(23, .slice (some ⟨g,off,none⟩) (Y.out i).length cpO),(24, .int .i64 ((Y.out i).length:Int)),(25, .int .i64 (k:Int)),(5,U (((Y.out i).take (k+1)).foldl (kW Y L i) 0#64))]) (hs':=[]) ?_ ?_
   ·skip;refine T.block (dk ?_);refine lC ?_; (refine cM (Wt.none) rfl rfl (Ew.alloc) ?_;rintro _ _ ⟨g7,rfl,rfl⟩); (refine dH (Wt.none) rfl (du 0) ?_;rintro _ _ ⟨rfl,rfl⟩);refine jW ?_;refine ef ?_; (refine cM (Wt.none) rfl rfl (cL rfl rfl rfl (fun w hw=>zdo sp Y L c ((cI (Y.out i) k).to.toNat) _ a5 a5 w (h.kept hw))) ?_;rintro _ _ ⟨rfl,rfl⟩);refine mX ?_;refine ef ?_;refine eh ?_;refine dm rfl rfl rfl (fun h2=>?_) (fun h2=>?_)
    ·have p2:=h2; (try simp only [cW] at p2);refine q0j ?_;refine TL.off (Wt.not rfl rfl rfl h2) rfl rfl ?_;refine q2H ?_;refine TL.run 7 rfl ?_;refine me ?_;refine T.exit (fu (iQ ?_)); (refine K.at ?_ Sx;rw [i7 _ _ a5,kW,if_pos (.inl a5)];exact (by repeat (first|exact Sub.nil|refine Sub.cons rfl ?_)))
    ·have p2:=h2; (try simp only [cW] at p2);refine mf ?_;refine mL ?_;refine mf ?_;refine q4f ?_;refine dd ?_;refine dm rfl rfl rfl (fun h3=>?_) (fun h3=>?_)
     ·have p3:=h3; (try simp only [cW] at p3);refine q0q ?_;refine TL.off (Wt.not rfl rfl rfl h3) rfl rfl ?_;refine TL.off (Wt.not rfl rfl rfl h3) rfl rfl ?_;refine q3L ?_;refine me ?_;refine T.exit (fu (iQ ?_)); (refine K.at ?_ Sx;rw [i7 _ _ a5,kW,if_pos (.inl a5)];exact (by repeat (first|exact Sub.nil|refine Sub.cons rfl ?_)))
     ·have p3:=h3; (try simp only [cW] at p3);refine q1T ?_;refine q1T ?_;refine cZ (Wt.some rfl rfl rfl h3) rfl rfl (fR (only L (cI (Y.out i) k).to.toNat) rfl rfl rfl rfl a5) ?_;refine cZ (Wt.some rfl rfl rfl h3) rfl rfl (fU (b:=1#64)) ?_;refine q1T ?_;refine cK (ee rfl rfl h3) ?_;refine c4 ?_;refine T.cond rfl (fun h4=>?_) (fun h4=>?_)
      ·have p4:=h4; (try simp only [cW] at p4); (have hbit:((((Y.out i).take k).foldl (kW Y L i) 0#64)).getLsbD (only L (cI (Y.out i) k).to.toNat)=true:=by rw [←zhP];exact decide_eq_true b8);refine T.exit (fu (iQ ?_)); (have hb:=hbit;refine K.at ?_ Sx;rw [i7 _ _ a5,kW,if_pos (.inr hb)];exact (by repeat (first|exact Sub.nil|refine Sub.cons rfl ?_)))
      ·have p4:=h4; (try simp only [cW] at p4); (have hno:¬(((only L (cI (Y.out i) k).to.toNat:Int)<(cI (Y.out i) k).lo∨(cI (Y.out i) k).hi<(only L (cI (Y.out i) k).to.toNat:Int))∨((((Y.out i).take k).foldl (kW Y L i) 0#64)).getLsbD (only L (cI (Y.out i) k).to.toNat)=true):=by rintro ((hh|hh)|hh);omega;omega;rw [←zhP] at hh;exact absurd (of_decide_eq_true hh) b8);refine iD ?_;refine dD ?_;refine T.cut (gs:=[(0, .pointer (some ⟨sp,0,none⟩)),(1, .int .i64 (i:Int)),(23, .slice (some ⟨g,off,none⟩) (Y.out i).length cpO),(24, .int .i64 ((Y.out i).length:Int)),(25, .int .i64 (k:Int)),(7, .pointer (some ⟨g7,0,none⟩)),(8, .int .i64 (only L (cI (Y.out i) k).to.toNat:Int)),(5,U (((Y.out i).take k).foldl (kW Y L i) 0#64)),(9, .int .i64 (jB L i (only L (cI (Y.out i) k).to.toNat) (Y.inn (cI (Y.out i) k).to.toNat)))]) (hs':=[.row g7 102 [.int .i64 (cI (Y.out i) k).to, .int .i64 (cI (Y.out i) k).fr, .int .i64 (cI (Y.out i) k).wt, .int .i64 (cI (Y.out i) k).lo, .int .i64 (cI (Y.out i) k).hi]]) ?_ ?_
       ·skip;refine T.seq ?_;refine q1a ?_;refine ji ?_;refine cP rfl (dO rfl rfl hsp0 (fun h=>h)) ?_;refine fe ?_;refine fT ?_;refine cP rfl (dO rfl rfl hI0 (fun h=>h)) ?_;refine q2p ?_;refine cP rfl (dY (j:=0) rfl rfl hIi rfl rfl (fun h=>h)) ?_;refine q3F ?_;refine T.loop (ι:=Nat) (fun j=>[(0, .pointer (some ⟨sp,0,none⟩)),(1, .int .i64 (i:Int)),(23, .slice (some ⟨g,off,none⟩) (Y.out i).length cpO),(24, .int .i64 ((Y.out i).length:Int)),(25, .int .i64 (k:Int)),(7, .pointer (some ⟨g7,0,none⟩)),(8, .int .i64 (only L (cI (Y.out i) k).to.toNat:Int)),(5,U (((Y.out i).take k).foldl (kW Y L i) 0#64)),(9, .int .i64 (jB L i (only L (cI (Y.out i) k).to.toNat) ((Y.inn (cI (Y.out i) k).to.toNat).take j))),(60, .slice BI (Y.inn (cI (Y.out i) k).to.toNat).length cpI),(61, .int .i64 ((Y.inn (cI (Y.out i) k).to.toNat).length:Int)),(62, .int .i64 (j:Int))]) (fun j=>[.row g7 102 [.int .i64 (cI (Y.out i) k).to, .int .i64 (cI (Y.out i) k).fr, .int .i64 (cI (Y.out i) k).wt, .int .i64 (cI (Y.out i) k).lo, .int .i64 (cI (Y.out i) k).hi]]) (fun j=>j≤(Y.inn (cI (Y.out i) k).to.toNat).length) (fun j=>(Y.inn (cI (Y.out i) k).to.toNat).length - j) 0 ?_ ?_ ?_ ?_
        ·omega
        ·exact (by repeat (first|exact Sub.nil|refine Sub.cons rfl ?_))
        ·exact Sx
        ·intro j hphi;refine eO ?_;refine T.cond rfl (fun h5=>?_) (fun h5=>?_)
         ·have p5:=h5; (try simp only [cW] at p5);obtain ⟨gi,offi,rfl,hci⟩:=hslI a5;have hj:=hci j a5;simp only [Ld.cells] at hj;have hri:=hrngI _ (iE (xs:=Y.inn (cI (Y.out i) k).to.toNat) (k:=j) a5);have hbd:=zoj (L:=L) (i:=i) (d:=only L (cI (Y.out i) k).to.toNat) hlenI hwt j;refine fv ?_;refine q0z ?_;refine cK (gR rfl rfl hj rfl (fun h=>h)) ?_; (refine cM (Wt.none) rfl rfl (Ew.alloc) ?_;rintro _ _ ⟨g11,rfl,rfl⟩); (refine dH (Wt.none) rfl (du 0) ?_;rintro _ _ ⟨rfl,rfl⟩);refine dV ?_;refine ef ?_;refine eM ?_;refine dm rfl rfl rfl (fun h6=>?_) (fun h6=>?_)
          ·have p6:=h6; (try simp only [cW] at p6);refine q2e ?_;refine dd ?_;refine dm rfl rfl rfl (fun h7=>?_) (fun h7=>?_)
           ·have p7:=h7; (try simp only [cW] at p7);refine q32 ?_;refine cZ (Wt.some rfl rfl rfl h7) rfl rfl (dU) ?_;refine cZ (Wt.some rfl rfl rfl h7) rfl rfl (dU) ?_;refine cZ (Wt.some rfl rfl rfl h7) rfl rfl (dU) ?_;refine dm rfl rfl rfl (fun h8=>?_) (fun h8=>?_)
            ·have p8:=h8; (try simp only [cW] at p8);refine q1g ?_;refine q1g ?_;refine cZ (Wt.some rfl rfl rfl h7) rfl rfl (eD rfl rfl h8) ?_;refine cK (eD rfl rfl h7) ?_;refine me ?_;refine it ?_;refine ef ?_;refine q0e ?_;refine dd ?_;refine ke ?_;exact K.next (j+1) a5 a5 (by rw [ze4 a5,jK];split <;> first|(exfalso;omega)|exact (by repeat (first|exact Sub.nil|refine Sub.cons rfl ?_))) Sx
            ·have p8:=h8; (try simp only [cW] at p8);refine cZ (Wt.some rfl rfl rfl h8) rfl rfl (dU) ?_;refine q33 ?_; (refine cM (Wt.some rfl rfl rfl h8) rfl rfl (cL rfl rfl rfl (fun w hw=>zdo sp Y L c (cI (Y.inn (cI (Y.out i) k).to.toNat) j).fr.toNat _ a5 a5 w (h.kept hw))) ?_;rintro _ _ ⟨rfl,rfl⟩);refine cZ (Wt.some rfl rfl rfl h8) rfl rfl (dU) ?_;refine cZ (Wt.some rfl rfl rfl h8) rfl rfl (dU) ?_;refine cZ (Wt.some rfl rfl rfl h7) rfl rfl (ee rfl rfl h8) ?_;refine cK (eD rfl rfl h7) ?_;refine c4 ?_;refine T.cond rfl (fun h9=>?_) (fun h9=>?_)
             ·have p9:=h9; (try simp only [cW] at p9);refine it ?_;refine ef ?_;refine q0e ?_;refine dd ?_;refine ke ?_;exact K.next (j+1) a5 a5 (by rw [ze4 a5,jK];split <;> first|(exfalso;omega)|exact (by repeat (first|exact Sub.nil|refine Sub.cons rfl ?_))) Sx
             ·have p9:=h9; (try simp only [cW] at p9);refine gU ?_;exact K.next (j+1) a5 a5 (by rw [ze4 a5,jK];split <;> first|(exfalso;omega)|exact (by repeat (first|exact Sub.nil|refine Sub.cons rfl ?_))) Sx
           ·have p7:=h7; (try simp only [cW] at p7);refine q1I ?_;refine q1I ?_;refine TL.off (Wt.not rfl rfl rfl h7) rfl rfl ?_;refine q0L ?_;refine q0L ?_;refine TL.off (Wt.not rfl rfl rfl h7) rfl rfl ?_;refine cK (ee rfl rfl h7) ?_;refine mJ ?_;refine gU ?_;exact K.next (j+1) a5 a5 (by rw [ze4 a5,jK];split <;> first|(exfalso;omega)|exact (by repeat (first|exact Sub.nil|refine Sub.cons rfl ?_))) Sx
          ·have p6:=h6; (try simp only [cW] at p6);refine q06 ?_;refine q06 ?_;refine cK (ee rfl rfl h6) ?_;refine TL.run 6 rfl ?_;refine q0L ?_;refine q0L ?_;refine jo ?_;refine ii rfl rfl ?_;refine gU ?_;exact K.next (j+1) a5 a5 (by rw [ze4 a5,jK];split <;> first|(exfalso;omega)|exact (by repeat (first|exact Sub.nil|refine Sub.cons rfl ?_))) Sx
         ·have p5:=h5; (try simp only [cW] at p5);refine eF ?_;exact K.at (by rw [show (Y.inn (cI (Y.out i) k).to.toNat).take j=Y.inn (cI (Y.out i) k).to.toNat from List.take_of_length_le a5] at *;exact (by repeat (first|exact Sub.nil|refine Sub.cons rfl ?_))) Sx
       ·skip;refine T.seq ?_;refine q1a ?_;refine ji ?_;refine cP rfl (dO rfl rfl hsp0 (fun h=>h)) ?_;refine fe ?_;refine fT ?_;refine cP rfl (dO rfl rfl hC0 (fun h=>h)) ?_;refine q2p ?_;refine cP rfl (dY (j:=0) rfl rfl hCi rfl rfl (fun h=>h)) ?_;refine q3F ?_;refine T.loop (ι:=Nat) (fun j=>[(0, .pointer (some ⟨sp,0,none⟩)),(1, .int .i64 (i:Int)),(23, .slice (some ⟨g,off,none⟩) (Y.out i).length cpO),(24, .int .i64 ((Y.out i).length:Int)),(25, .int .i64 (k:Int)),(7, .pointer (some ⟨g7,0,none⟩)),(8, .int .i64 (only L (cI (Y.out i) k).to.toNat:Int)),(9, .int .i64 (jB L i (only L (cI (Y.out i) k).to.toNat) (Y.inn (cI (Y.out i) k).to.toNat))),(5,U (((Y.cs (cI (Y.out i) k).to.toNat).take j).foldl (zd5 (jB L i (only L (cI (Y.out i) k).to.toNat) (Y.inn (cI (Y.out i) k).to.toNat)) (only L (cI (Y.out i) k).to.toNat)) (((Y.out i).take k).foldl (kW Y L i) 0#64))),(105, .slice BC (Y.cs (cI (Y.out i) k).to.toNat).length cpC),(106, .int .i64 ((Y.cs (cI (Y.out i) k).to.toNat).length:Int)),(107, .int .i64 (j:Int))]) (fun j=>[.row g7 102 [.int .i64 (cI (Y.out i) k).to, .int .i64 (cI (Y.out i) k).fr, .int .i64 (cI (Y.out i) k).wt, .int .i64 (cI (Y.out i) k).lo, .int .i64 (cI (Y.out i) k).hi]]) (fun j=>j≤(Y.cs (cI (Y.out i) k).to.toNat).length) (fun j=>(Y.cs (cI (Y.out i) k).to.toNat).length - j) 0 ?_ ?_ ?_ ?_
        ·omega
        ·exact (by repeat (first|exact Sub.nil|refine Sub.cons rfl ?_))
        ·exact Sx
        ·intro j hphi;refine eO ?_;refine T.cond rfl (fun h10=>?_) (fun h10=>?_)
         ·have p10:=h10; (try simp only [cW] at p10);obtain ⟨gc,offc,rfl,hcc⟩:=hslC a5;have hj:=hcc j a5;simp only [Cp.cells] at hj;refine fv ?_;refine q0z ?_;refine cK (gR rfl rfl hj rfl (fun h=>h)) ?_; (refine cM (Wt.none) rfl rfl (Ew.alloc) ?_;rintro _ _ ⟨g13,rfl,rfl⟩); (refine dH (Wt.none) rfl (du 0) ?_;rintro _ _ ⟨rfl,rfl⟩);refine dV ?_;refine ef ?_;refine eM ?_;refine dm rfl rfl rfl (fun h11=>?_) (fun h11=>?_)
          ·have p11:=h11; (try simp only [cW] at p11);refine cZ (Wt.some rfl rfl rfl h11) rfl rfl (dU) ?_;refine cZ (Wt.some rfl rfl rfl h11) rfl rfl (Yv.fieldAddr) ?_;refine cZ (Wt.some rfl rfl rfl h11) rfl rfl (c7 0) ?_;refine cZ (Wt.some rfl rfl rfl h11) rfl rfl (dU) ?_;refine cK (eD rfl rfl h11) ?_;refine dd ?_;refine dm rfl rfl rfl (fun h12=>?_) (fun h12=>?_)
           ·have p12:=h12; (try simp only [cW] at p12);refine cZ (Wt.some rfl rfl rfl h12) rfl rfl (dU) ?_;refine cZ (Wt.some rfl rfl rfl h12) rfl rfl (Yv.fieldAddr) ?_;refine cZ (Wt.some rfl rfl rfl h12) rfl rfl (c7 0) ?_;refine cZ (Wt.some rfl rfl rfl h12) rfl rfl (dU) ?_;refine cK (eD rfl rfl h12) ?_;refine c4 ?_;refine T.cond rfl (fun h13=>?_) (fun h13=>?_)
            ·have p13:=h13; (try simp only [cW] at p13);refine i1 ?_;refine cK (gu (a:=1#64) (only L (cI (Y.out i) k).to.toNat) rfl rfl rfl rfl a5) ?_;refine q3D ?_;exact K.next (j+1) a5 a5 (by rw [i7 _ _ a5,zd5];split <;> first|(exfalso;omega)|exact (by repeat (first|exact Sub.nil|refine Sub.cons rfl ?_))) Sx
            ·have p13:=h13; (try simp only [cW] at p13);refine gU ?_;exact K.next (j+1) a5 a5 (by rw [i7 _ _ a5,zd5];split <;> first|(exfalso;omega)|exact (by repeat (first|exact Sub.nil|refine Sub.cons rfl ?_))) Sx
           ·have p12:=h12; (try simp only [cW] at p12);refine q3l ?_;refine q3l ?_;refine cK (ee rfl rfl h12) ?_;refine mJ ?_;refine gU ?_;exact K.next (j+1) a5 a5 (by rw [i7 _ _ a5,zd5];split <;> first|(exfalso;omega)|exact (by repeat (first|exact Sub.nil|refine Sub.cons rfl ?_))) Sx
          ·have p11:=h11; (try simp only [cW] at p11);refine q3o ?_;refine q3o ?_;refine cK (ee rfl rfl h11) ?_;refine TL.run 6 rfl ?_;refine mJ ?_;refine gU ?_;exact K.next (j+1) a5 a5 (by rw [i7 _ _ a5,zd5];split <;> first|(exfalso;omega)|exact (by repeat (first|exact Sub.nil|refine Sub.cons rfl ?_))) Sx
         ·have p10:=h10; (try simp only [cW] at p10);refine T.exit (fu (fu (iQ (fS ?_)))); (have hn:=hno;have e:(Y.cs (cI (Y.out i) k).to.toNat).take j=Y.cs (cI (Y.out i) k).to.toNat:=List.take_of_length_le a5;refine K.at ?_ Sx;rw [i7 _ _ a5,kW,if_neg hn,e];exact (by repeat (first|exact Sub.nil|refine Sub.cons rfl ?_)))
   ·skip;refine eS ?_;refine j0 ?_;exact K.next (k+1) a5 a5 (by repeat (first|exact Sub.nil|refine Sub.cons rfl ?_)) Sx
  ·have p1:=h1; (try simp only [cW] at p1);refine q01 ?_;refine j3 ?_;exact cX rfl rfl (fun w' hw=>⟨by rw [lZ,List.take_of_length_le a5],hw.isBelow⟩)
structure GL where
 b:Nat
 c:Nat
structure StF (w0 w:World) (sp:Nat) (gl:GL) (tp:Nat) (Y:Tb) (L:Ws) (c:Bool):Prop where
 tb:TablesAt w0 tp Y
 fr:Fz w0 w
 c0:w.cell? ⟨sp,0,none⟩=some (.pointer (some ⟨tp,0,none⟩))
 c1:w.cell? ⟨sp,1,none⟩=some (.slice (some ⟨gl.b,0,none⟩) L.length gl.c)
 lf:SlOf w (.slice (some ⟨gl.b,0,none⟩) L.length gl.c) Le 1 L
 len:L.length=Y.n
 c2:w.cell? ⟨sp,2,none⟩=some (.bool c)
 tab:Tab w
theorem StF.st {w0 w:World}{sp:Nat}{gl:GL}{tp:Nat}{Y:Tb}{L:Ws}{c:Bool}(h:StF w0 w sp gl tp Y L c):StateAt w sp Y L c:=
 ⟨h.tab,⟨tp,h.c0,h.tb.later h.fr⟩,⟨_,h.c1,h.lf⟩,h.len,h.c2⟩
theorem StF.kept {w0 w w':World}{M:Nat→Prop}{hs:HS}{sp:Nat}{gl:GL}{tp:Nat}{Y:Tb}{L:Ws}{c:Bool}(h:StF w0 w sp gl tp Y L c)(hw:Hp w M hs w')(h0:∀g,M g→¬jj w0 g)(h1:¬M sp)(h2:¬M gl.b)(h3:¬M 0):StF w0 w' sp gl tp Y L c:=
 ⟨h.tb,Fz.hp h.fr hw h0,hw.cellB h.c0 h1,hw.cellB h.c1 h1,h.lf.keptM hw (fun g hg=>by simp [Value.ownBlock] at hg;subst hg;exact h2),h.len,hw.cellB h.c2 h1,h.tab.kept hw h3⟩
def jV (Y:Tb)(L:Ws)(i:Nat)(ws:Ws):Ws:=
 if (only L i:Int)=0 then ws else
  (Y.out i).foldl (fun s x=>if (only L x.to.toNat:Int)=0 then dQ s x.to.toNat else (Y.inn x.to.toNat).foldl (fun s o=>dQ s o.fr.toNat) (dQ s x.to.toNat))
   ((Y.inn i).foldl (fun s x=>dQ s x.fr.toNat) ((Y.ps i).foldl (fun s x=>dQ s (x.a+x.b - (i:Int)).toNat) ws))
theorem zf1 {α:Type}(f:Ws→α→Ws)(hf:∀s x,(f s x).length=s.length):∀(l:List α) (s:Ws),(l.foldl f s).length=s.length
 | [],_=>rfl
 |x :: r,s=>by rw [List.foldl_cons,zf1 f hf r,hf]
theorem zdj (l:List Ld)(s:Ws):(l.foldl (fun s x=>dQ s x.fr.toNat) s).length=s.length:=zf1 _ (fun _ _=>lm) l s
theorem zdi (i:Int)(l:List Pr)(s:Ws):(l.foldl (fun s x=>dQ s (x.a+x.b - (i:Int)).toNat) s).length=s.length:=zf1 _ (fun _ _=>lm) l s
def lK (Y:Tb)(L:Ws)(s:Ws)(x:Ld):Ws:=if (only L x.to.toNat:Int)=0 then dQ s x.to.toNat else (Y.inn x.to.toNat).foldl (fun s o=>dQ s o.fr.toNat) (dQ s x.to.toNat)
theorem zgA {Y:Tb}{L s:Ws}{x:Ld}:(lK Y L s x).length=s.length:=by
 unfold lK;split
 ·exact lm
 ·rw [zdj,lm]
theorem zfp (Y:Tb)(L:Ws)(l:List Ld)(s:Ws):(l.foldl (lK Y L) s).length=s.length:=zf1 _ (fun _ _=>zgA) l s
theorem zfA (Y:Tb)(L:Ws)(i:Nat)(ws:Ws):(jV Y L i ws).length=ws.length:=by
 unfold jV;split
 ·rfl
 ·exact (zfp Y L _ _).trans ((zdj _ _).trans (zdi _ _ _))
theorem zeX (ws:Ws)(hws:ws.length=8)(j:Nat)(hj:j<512)(z:Int)(hz:z=(j:Int))(p q:Nat)(w:World)(hq:w.cell? ⟨q,0,none⟩=some (.pointer (some ⟨p,0,none⟩)))(hqp:q≠p)(hp:(Ent.row p 83 ws.cells).ok w):Calls Tryz.prog 167 #[.int .i64 z, .pointer (some ⟨q,0,none⟩)] w fun e w'=>∃y:Unit,True∧e= .returned (.tuple #[])∧Hp w (Ent.row p 83 ws.cells).fp [.row p 83 (Ws.cells (dQ ws j))] w':=by
 subst hz;refine dv (M:=(Ent.row p 83 ws.cells).fp) (hs:=[Ent.row p 83 ws.cells]) Tryz.func167 rfl rfl rfl (Hp.start hp) ?_;refine dI (sN 0 3 (.still 4 (.eff 3 (.eff 5 (sN 6 4 (.eff 10 .done)))))) [] a7 Sx ?_;refine cP rfl (dO rfl rfl hq (fun hh=>hqp (cQ.1 hh))) ?_;refine cP rfl (dO rfl rfl hq (fun hh=>hqp (cQ.1 hh))) ?_;refine gM ?_;refine dy ?_;refine eA rfl (Wt.none) rfl rfl (d5 0 rfl rfl rfl (by rw [List.length_map,hws])) Sx ?_;refine dy ?_; (refine c9 rfl (Wt.none) rfl rfl (cL rfl rfl rfl (fun w hw=>znA ws hws j hj w)) ?_;rintro _ _ ⟨rfl,rfl⟩;refine ⟨Sx,?_⟩);refine TS.run 4 rfl ?_;refine dy ?_; (refine dF rfl (Wt.none) rfl (du 0 rfl rfl rfl rfl (by rw [List.length_map,lm,hws]) (by rw [List.length_map,List.length_map,lm])) ?_;rintro _ _ ⟨rfl,rfl⟩;refine ⟨Sx,?_⟩);refine fc ?_;exact lV rfl (fun w' hw=>⟨(),trivial,rfl,hw⟩)
theorem ziQ (w0:World)(sp:Nat)(gl:GL)(tp p:Nat)(Y:Tb)(L:Ws)(c:Bool)(ws:Ws)(hws:ws.length=8)(i:Nat)(z:Int)(hz:z=(i:Int))(hi:i<Y.n)(w:World)(h:StF w0 w sp gl tp Y L c)(hok:Y.Ok)(hpN:¬jj w0 p)(hp0:p≠0)(hsp:sp≠p)(hgl:gl.b≠p)(hp:(Ent.row p 83 ws.cells).ok w):Calls Tryz.prog 157 #[.pointer (some ⟨sp,0,none⟩), .int .i64 z, .pointer (some ⟨p,0,none⟩)] w fun e w'=>∃y:Unit,True∧e= .returned (.tuple #[])∧Hp w (Ent.row p 83 ws.cells).fp [.row p 83 (Ws.cells (jV Y L i ws))] w':=by
 subst hz;obtain ⟨hTb,hfr,hsp0,hsp1,hlf,hLn,hsp2,htab⟩:=id h;have hT:=hTb;have hn512:=hok.n;obtain ⟨hlenP,hrngP⟩:=hok.ps i hi;obtain ⟨hlenI,hrngI⟩:=hok.inn i hi;obtain ⟨hlenO,hrngO⟩:=hok.out i hi;obtain ⟨vP,hP0,hP⟩:=hT.ps.at';obtain ⟨AP,capP,rfl,hPs⟩:=hP.op;have hPn:=hT.ps.len;obtain ⟨gP,oP,rfl,hPc⟩:=hPs a5;rw [hPn] at hP0;have hPi:=hPc i (by rw [hPn];exact hi);obtain ⟨BP,cpP,hvP,hslP⟩:=(hT.ps.each i hi).op;simp only [hvP] at hPi;obtain ⟨vI,hI0,hI⟩:=hT.inn.at';obtain ⟨AI,capI,rfl,hIs⟩:=hI.op;have hIn:=hT.inn.len;obtain ⟨gI,oI,rfl,hIc⟩:=hIs a5;rw [hIn] at hI0;have hIi:=hIc i (by rw [hIn];exact hi);obtain ⟨BI,cpI,hvI,hslI⟩:=(hT.inn.each i hi).op;simp only [hvI] at hIi;obtain ⟨vO,hO0,hO⟩:=hT.out.at';obtain ⟨AO,capO,rfl,hOs⟩:=hO.op;have hOn:=hT.out.len;obtain ⟨gO,oO,rfl,hOc⟩:=hOs a5;rw [hOn] at hO0;have hOi:=hOc i (by rw [hOn];exact hi);obtain ⟨BO,cpO,hvO,hslO⟩:=(hT.out.each i hi).op;simp only [hvO] at hOi;have hkeep:∀hs w',Hp w (Ent.row p 83 ws.cells).fp hs w'→StateAt w' sp Y L c:=fun hs w' hw=>(h.kept hw (fun g hg=>by rw [cQ.1 hg];exact hpN) (fun hg=>hsp (cQ.1 hg)) (fun hg=>hgl (cQ.1 hg)) (fun hg=>hp0 (cQ.1 hg).symm)).st;refine dv (M:=(Ent.row p 83 ws.cells).fp) (hs:=[Ent.row p 83 ws.cells]) Tryz.func157 rfl rfl rfl (Hp.start hp) ?_;refine dk ?_; (refine cM (Wt.none) rfl rfl (Ew.box rfl rfl) ?_;rintro _ _ ⟨g5,rfl,rfl⟩);refine iS ?_;refine eh ?_; (refine cM (Wt.none) rfl rfl (cL rfl rfl rfl (fun w hw=>zdo sp Y L c i _ rfl hi w (hkeep _ _ hw))) ?_;rintro _ _ ⟨rfl,rfl⟩);refine dD ?_;refine T.cond rfl (fun h1=>?_) (fun h1=>?_)
 ·have p1:=h1; (try simp only [cW] at p1);refine T.ret (dX ?_);exact K.bS rfl (fun w' hw=>⟨(),trivial,rfl,by rw [jV,if_pos p1];exact hw.sub Sx⟩)
 ·have p1:=h1; (try simp only [cW] at p1);refine iD ?_;refine jo ?_;refine T.cut (gs:=[(0, .pointer (some ⟨sp,0,none⟩)),(1, .int .i64 (i:Int)),(6, .func (.func 167) #[] #[.pointer (some ⟨g5,0,none⟩)])]) (hs':=[.row g5 220 [.pointer (some ⟨p,0,none⟩)], .row p 83 (Ws.cells ((Y.ps i).foldl (fun s x=>dQ s (x.a+x.b - (i:Int)).toNat) ws))]) ?_ ?_
  ·skip;refine q2D ?_;refine cK (dO rfl rfl (hfr.cell hP0) (fun hh=>hpN (by have:=zeu hP0;rw [←cQ.1 hh];exact this))) ?_;refine lE ?_;refine cK (dY (j:=0) rfl rfl (Fz.cs hfr hPi) rfl rfl (fun hh=>hpN (by have:=iN hPi a8;rw [←cQ.1 hh];exact this))) ?_;refine jE ?_;refine T.loop (ι:=Nat) (fun k=>[(0, .pointer (some ⟨sp,0,none⟩)),(1, .int .i64 (i:Int)),(6, .func (.func 167) #[] #[.pointer (some ⟨g5,0,none⟩)]),(29, .slice BP (Y.ps i).length cpP),(30, .int .i64 ((Y.ps i).length:Int)),(31, .int .i64 (k:Int))]) (fun k=>[.row g5 220 [.pointer (some ⟨p,0,none⟩)], .row p 83 (Ws.cells (((Y.ps i).take k).foldl (fun s x=>dQ s (x.a+x.b - (i:Int)).toNat) ws))]) (fun k=>k≤(Y.ps i).length) (fun k=>(Y.ps i).length - k) 0 ?_ ?_ ?_ ?_
   ·omega
   ·exact (by repeat (first|exact Sub.nil|refine Sub.cons rfl ?_))
   ·exact Sx
   ·intro k hphi;refine eO ?_;refine T.cond rfl (fun h2=>?_) (fun h2=>?_)
    ·have p2:=h2; (try simp only [cW] at p2);obtain ⟨ghk,offhk,rfl,hc⟩:=hslP a5;have hk:=hc k a5;simp only [Pr.cells] at hk;have hrhk:=hrngP _ (iE (xs:=Y.ps i) (k:=k) a5);refine fv ?_;refine q2s ?_; (refine cM (Wt.none) rfl rfl (Ew.alloc) ?_;rintro _ _ ⟨g8,rfl,rfl⟩); (refine dH (Wt.none) rfl (du 0) ?_;rintro _ _ ⟨rfl,rfl⟩);refine c4 (T.region ?_);refine dd ?_;refine ef ?_;refine ef ?_;refine q0e ?_;refine dd ?_;refine q2g ?_; (refine cM (Wt.none) rfl rfl (lF 2 rfl rfl rfl rfl (fun w hw=>zeX (((Y.ps i).take k).foldl (fun s x=>dQ s (x.a+x.b - (i:Int)).toNat) ws) (by rw [zdi,hws]) ((cI (Y.ps i) k).a+(cI (Y.ps i) k).b - (i:Int)).toNat a5 _ a5 p g5 w (ju (cY.1 (hw.get (i:=1) rfl)) 0) (fun hh=>hw.ne (i:=1) (j:=2) a5 rfl rfl (g:=g5) (cQ.2 rfl) (cQ.2 hh)) (hw.get (i:=2) rfl))) ?_;rintro _ _ ⟨-, -,rfl,rfl⟩);refine ke ?_;exact K.next (k+1) a5 a5 (by repeat (first|exact Sub.nil|refine Sub.cons rfl ?_)) (by rw [i7 _ _ a5];exact Sx)
    ·have p2:=h2; (try simp only [cW] at p2);refine eF ?_;exact K.at (by repeat (first|exact Sub.nil|refine Sub.cons rfl ?_)) (by rw [show (Y.ps i).take k=Y.ps i from List.take_of_length_le a5];exact Sx)
  ·skip;refine T.cut (gs:=[(0, .pointer (some ⟨sp,0,none⟩)),(1, .int .i64 (i:Int)),(6, .func (.func 167) #[] #[.pointer (some ⟨g5,0,none⟩)])]) (hs':=[.row g5 220 [.pointer (some ⟨p,0,none⟩)], .row p 83 (Ws.cells ((Y.inn i).foldl (fun s x=>dQ s x.fr.toNat) ((Y.ps i).foldl (fun s x=>dQ s (x.a+x.b - (i:Int)).toNat) ws)))]) ?_ ?_
   ·skip;refine q2D ?_;refine cK (dO rfl rfl (hfr.cell hI0) (fun hh=>hpN (by have:=zeu hI0;rw [←cQ.1 hh];exact this))) ?_;refine lE ?_;refine cK (dY (j:=0) rfl rfl (Fz.cs hfr hIi) rfl rfl (fun hh=>hpN (by have:=iN hIi a8;rw [←cQ.1 hh];exact this))) ?_;refine jE ?_;refine T.loop (ι:=Nat) (fun k=>[(0, .pointer (some ⟨sp,0,none⟩)),(1, .int .i64 (i:Int)),(6, .func (.func 167) #[] #[.pointer (some ⟨g5,0,none⟩)]),(54, .slice BI (Y.inn i).length cpI),(55, .int .i64 ((Y.inn i).length:Int)),(56, .int .i64 (k:Int))]) (fun k=>[.row g5 220 [.pointer (some ⟨p,0,none⟩)], .row p 83 (Ws.cells (((Y.inn i).take k).foldl (fun s x=>dQ s x.fr.toNat) ((Y.ps i).foldl (fun s x=>dQ s (x.a+x.b - (i:Int)).toNat) ws)))]) (fun k=>k≤(Y.inn i).length) (fun k=>(Y.inn i).length - k) 0 ?_ ?_ ?_ ?_
    ·omega
    ·exact (by repeat (first|exact Sub.nil|refine Sub.cons rfl ?_))
    ·exact Sx
    ·intro k hphi;refine eO ?_;refine T.cond rfl (fun h3=>?_) (fun h3=>?_)
     ·have p3:=h3; (try simp only [cW] at p3);obtain ⟨ghk,offhk,rfl,hc⟩:=hslI a5;have hk:=hc k a5;simp only [Ld.cells] at hk;have hrhk:=hrngI _ (iE (xs:=Y.inn i) (k:=k) a5);refine fv ?_;refine q2s ?_; (refine cM (Wt.none) rfl rfl (Ew.alloc) ?_;rintro _ _ ⟨g10,rfl,rfl⟩); (refine dH (Wt.none) rfl (du 0) ?_;rintro _ _ ⟨rfl,rfl⟩);refine c4 (T.region ?_);refine dd ?_;refine ef ?_; (refine cM (Wt.none) rfl rfl (lF 2 rfl rfl rfl rfl (fun w hw=>zeX (((Y.inn i).take k).foldl (fun s x=>dQ s x.fr.toNat) ((Y.ps i).foldl (fun s x=>dQ s (x.a+x.b - (i:Int)).toNat) ws)) (by rw [zdj,zdi,hws]) (cI (Y.inn i) k).fr.toNat a5 _ a5 p g5 w (ju (cY.1 (hw.get (i:=1) rfl)) 0) (fun hh=>hw.ne (i:=1) (j:=2) a5 rfl rfl (g:=g5) (cQ.2 rfl) (cQ.2 hh)) (hw.get (i:=2) rfl))) ?_;rintro _ _ ⟨-, -,rfl,rfl⟩);refine ke ?_;exact K.next (k+1) a5 a5 (by repeat (first|exact Sub.nil|refine Sub.cons rfl ?_)) (by rw [i7 _ _ a5];exact Sx)
     ·have p3:=h3; (try simp only [cW] at p3);refine eF ?_;exact K.at (by repeat (first|exact Sub.nil|refine Sub.cons rfl ?_)) (by rw [show (Y.inn i).take k=Y.inn i from List.take_of_length_le a5];exact Sx)
   ·skip;refine q2D ?_;refine cK (dO rfl rfl (hfr.cell hO0) (fun hh=>hpN (by have:=zeu hO0;rw [←cQ.1 hh];exact this))) ?_;refine lE ?_;refine cK (dY (j:=0) rfl rfl (Fz.cs hfr hOi) rfl rfl (fun hh=>hpN (by have:=iN hOi a8;rw [←cQ.1 hh];exact this))) ?_;refine jE ?_;refine T.loop (ι:=Nat) (fun k=>[(0, .pointer (some ⟨sp,0,none⟩)),(1, .int .i64 (i:Int)),(6, .func (.func 167) #[] #[.pointer (some ⟨g5,0,none⟩)]),(74, .slice BO (Y.out i).length cpO),(75, .int .i64 ((Y.out i).length:Int)),(76, .int .i64 (k:Int))]) (fun k=>[.row g5 220 [.pointer (some ⟨p,0,none⟩)], .row p 83 (Ws.cells (((Y.out i).take k).foldl (lK Y L) ((Y.inn i).foldl (fun s x=>dQ s x.fr.toNat) ((Y.ps i).foldl (fun s x=>dQ s (x.a+x.b - (i:Int)).toNat) ws))))]) (fun k=>k≤(Y.out i).length) (fun k=>(Y.out i).length - k) 0 ?_ ?_ ?_ ?_
    ·omega
    ·exact (by repeat (first|exact Sub.nil|refine Sub.cons rfl ?_))
    ·exact Sx
    ·intro k hphi;refine eO ?_;refine T.cond rfl (fun h4=>?_) (fun h4=>?_)
     ·have p4:=h4; (try simp only [cW] at p4);obtain ⟨ghk,offhk,rfl,hc⟩:=hslO a5;have hk:=hc k a5;simp only [Ld.cells] at hk;have hrhk:=hrngO _ (iE (xs:=Y.out i) (k:=k) a5); (have htn:(cI (Y.out i) k).to.toNat<Y.n:=by omega);obtain ⟨hlenI2,hrngI2⟩:=hok.inn _ htn;have hIi2:=hIc (cI (Y.out i) k).to.toNat (by rw [hIn];exact htn);obtain ⟨BI2,cpI2,hvI2,hslI2⟩:=(hT.inn.each (cI (Y.out i) k).to.toNat htn).op;simp only [hvI2] at hIi2;refine mj ?_;refine T.cut (gs:=[(0, .pointer (some ⟨sp,0,none⟩)),(1, .int .i64 (i:Int)),(6, .func (.func 167) #[] #[.pointer (some ⟨g5,0,none⟩)]),(74, .slice (some ⟨ghk,offhk,none⟩) (Y.out i).length cpO),(75, .int .i64 ((Y.out i).length:Int)),(76, .int .i64 (k:Int))]) (hs':=[.row g5 220 [.pointer (some ⟨p,0,none⟩)], .row p 83 (Ws.cells (((Y.out i).take (k+1)).foldl (lK Y L) ((Y.inn i).foldl (fun s x=>dQ s x.fr.toNat) ((Y.ps i).foldl (fun s x=>dQ s (x.a+x.b - (i:Int)).toNat) ws))))]) ?_ ?_
      ·skip;refine T.block (dk ?_);refine q2s ?_; (refine cM (Wt.none) rfl rfl (Ew.alloc) ?_;rintro _ _ ⟨g12,rfl,rfl⟩); (refine dH (Wt.none) rfl (du 0) ?_;rintro _ _ ⟨rfl,rfl⟩);refine jW ?_;refine ef ?_; (refine cM (Wt.none) rfl rfl (lF 2 rfl rfl rfl rfl (fun w hw=>zeX (((Y.out i).take k).foldl (lK Y L) ((Y.inn i).foldl (fun s x=>dQ s x.fr.toNat) ((Y.ps i).foldl (fun s x=>dQ s (x.a+x.b - (i:Int)).toNat) ws))) (by rw [zfp,zdj,zdi,hws]) (cI (Y.out i) k).to.toNat a5 _ a5 p g5 w (ju (cY.1 (hw.get (i:=1) rfl)) 0) (fun hh=>hw.ne (i:=1) (j:=2) a5 rfl rfl (g:=g5) (cQ.2 rfl) (cQ.2 hh)) (hw.get (i:=2) rfl))) ?_;rintro _ _ ⟨-, -,rfl,rfl⟩);refine jW ?_;refine ef ?_; (refine cM (Wt.none) rfl rfl (cL rfl rfl rfl (fun w hw=>zdo sp Y L c ((cI (Y.out i) k).to.toNat) _ a5 a5 w (hkeep _ _ hw))) ?_;rintro _ _ ⟨rfl,rfl⟩);refine dD ?_;refine T.cond rfl (fun h5=>?_) (fun h5=>?_)
       ·have p5:=h5; (try simp only [cW] at p5); (have hno:¬(only L ((cI (Y.out i) k).to.toNat):Int)=0:=by assumption);refine T.seq ?_;refine q1a ?_;refine ji ?_;refine cP rfl (dO rfl rfl hsp0 (fun hh=>hsp (cQ.1 hh))) ?_;refine fe ?_;refine fT ?_;refine cP rfl (dO rfl rfl (hfr.cell hI0) (fun hh=>hpN (by have:=zeu hI0;rw [←cQ.1 hh];exact this))) ?_;refine q2p ?_;refine cP rfl (dY (j:=0) rfl rfl (Fz.cs hfr hIi2) rfl rfl (fun hh=>hpN (by have:=iN hIi2 a8;rw [←cQ.1 hh];exact this))) ?_;refine q3F ?_;refine T.loop (ι:=Nat) (fun j=>[(0, .pointer (some ⟨sp,0,none⟩)),(1, .int .i64 (i:Int)),(6, .func (.func 167) #[] #[.pointer (some ⟨g5,0,none⟩)]),(74, .slice (some ⟨ghk,offhk,none⟩) (Y.out i).length cpO),(75, .int .i64 ((Y.out i).length:Int)),(76, .int .i64 (k:Int)),(99, .slice BI2 (Y.inn (cI (Y.out i) k).to.toNat).length cpI2),(100, .int .i64 ((Y.inn (cI (Y.out i) k).to.toNat).length:Int)),(101, .int .i64 (j:Int))]) (fun j=>[.row g5 220 [.pointer (some ⟨p,0,none⟩)], .row p 83 (Ws.cells (((Y.inn (cI (Y.out i) k).to.toNat).take j).foldl (fun s o=>dQ s o.fr.toNat) (dQ (((Y.out i).take k).foldl (lK Y L) ((Y.inn i).foldl (fun s x=>dQ s x.fr.toNat) ((Y.ps i).foldl (fun s x=>dQ s (x.a+x.b - (i:Int)).toNat) ws))) (cI (Y.out i) k).to.toNat)))]) (fun j=>j≤(Y.inn (cI (Y.out i) k).to.toNat).length) (fun j=>(Y.inn (cI (Y.out i) k).to.toNat).length - j) 0 ?_ ?_ ?_ ?_
        ·omega
        ·exact (by repeat (first|exact Sub.nil|refine Sub.cons rfl ?_))
        ·exact Sx
        ·intro j hphi;refine eO ?_;refine T.cond rfl (fun h6=>?_) (fun h6=>?_)
         ·have p6:=h6; (try simp only [cW] at p6);obtain ⟨ghj,offhj,rfl,hcj⟩:=hslI2 a5;have hj:=hcj j a5;simp only [Ld.cells] at hj;have hrhj:=hrngI2 _ (iE (xs:=Y.inn (cI (Y.out i) k).to.toNat) (k:=j) a5);refine fv ?_;refine q0z ?_;refine cK (gR rfl rfl (Fz.cs hfr hj) rfl (fun hh=>hpN (by have:=iN hj a8;rw [←cQ.1 hh];exact this))) ?_; (refine cM (Wt.none) rfl rfl (Ew.alloc) ?_;rintro _ _ ⟨g14,rfl,rfl⟩); (refine dH (Wt.none) rfl (du 0) ?_;rintro _ _ ⟨rfl,rfl⟩);refine c4 (T.region ?_);refine dd ?_;refine ef ?_; (refine cM (Wt.none) rfl rfl (lF 2 rfl rfl rfl rfl (fun w hw=>zeX (((Y.inn (cI (Y.out i) k).to.toNat).take j).foldl (fun s o=>dQ s o.fr.toNat) (dQ (((Y.out i).take k).foldl (lK Y L) ((Y.inn i).foldl (fun s x=>dQ s x.fr.toNat) ((Y.ps i).foldl (fun s x=>dQ s (x.a+x.b - (i:Int)).toNat) ws))) (cI (Y.out i) k).to.toNat)) (by rw [zdj,lm,zfp,zdj,zdi,hws]) (cI (Y.inn (cI (Y.out i) k).to.toNat) j).fr.toNat a5 _ a5 p g5 w (ju (cY.1 (hw.get (i:=1) rfl)) 0) (fun hh=>hw.ne (i:=1) (j:=2) a5 rfl rfl (g:=g5) (cQ.2 rfl) (cQ.2 hh)) (hw.get (i:=2) rfl))) ?_;rintro _ _ ⟨-, -,rfl,rfl⟩);refine ke ?_;exact K.next (j+1) a5 a5 (by repeat (first|exact Sub.nil|refine Sub.cons rfl ?_)) (by rw [i7 _ _ a5];exact Sx)
         ·have p6:=h6; (try simp only [cW] at p6);refine T.exit (fu (fu (iQ (fS ?_)))); (have hy:=hno;refine K.at (by repeat (first|exact Sub.nil|refine Sub.cons rfl ?_)) ?_;rw [i7 _ _ a5,lK,if_neg hy,show (Y.inn (cI (Y.out i) k).to.toNat).take j=Y.inn (cI (Y.out i) k).to.toNat from List.take_of_length_le a5];exact Sx)
       ·have p5:=h5; (try simp only [cW] at p5); (have hyes:(only L ((cI (Y.out i) k).to.toNat):Int)=0:=by assumption);refine T.skip (fS ?_); (have hy:=hyes;refine K.at (by repeat (first|exact Sub.nil|refine Sub.cons rfl ?_)) ?_;rw [i7 _ _ a5,lK,if_pos hy];exact Sx)
      ·skip;refine eS ?_;refine j0 ?_;exact K.next (k+1) a5 a5 (by repeat (first|exact Sub.nil|refine Sub.cons rfl ?_)) Sx
     ·have p4:=h4; (try simp only [cW] at p4);refine eF ?_;exact lV rfl (fun w' hw=>⟨(),trivial,rfl,by rw [jV,if_neg p1];rw [show (Y.out i).take k=Y.out i from List.take_of_length_le a5] at hw;exact hw.sub Sx⟩)
def i9 (Y:Tb)(L:Ws)(i:Nat):BitVec 64:=lW Y L i ||| kD Y L i ||| lZ Y L i
theorem zbE {α β:Type}{f g:β→α→β}:∀(l:List α) (z:β),(∀x∈l,∀s,f s x=g s x)→l.foldl f z=l.foldl g z
 | [],_,_=>rfl
 |x :: r,z,h=>by rw [List.foldl_cons,List.foldl_cons,h x a8 z];exact zbE r _ (fun y hy=>h y (by simp [hy]))
structure Alike (Y:Tb) (L L':Ws) (k:Nat):Prop where
 ps:∀x∈Y.ps k,(x.a=(k:Int)→only L' x.b.toNat=only L x.b.toNat)∧(x.a≠(k:Int)→only L' x.a.toNat=only L x.a.toNat)
 inn:∀x∈Y.inn k,only L' x.fr.toNat=only L x.fr.toNat
 out:∀x∈Y.out k,only L' x.to.toNat=only L x.to.toNat∧(only L x.to.toNat≠0→∀o∈Y.inn x.to.toNat,o.fr≠(k:Int)→only L' o.fr.toNat=only L o.fr.toNat)
theorem zgr {Y:Tb}{L L':Ws}{k:Nat}(h:Alike Y L L' k)(hlo:∀x∈Y.out k,2≤x.lo):i9 Y L' k=i9 Y L k:=by
 have e1:lW Y L' k=lW Y L k:=zbE _ _ fun x hx s=>by
  have:=h.ps x hx;unfold mq;by_cases ha:x.a=(k:Int)
  ·rw [if_pos ha,if_pos ha,this.1 ha]
  ·rw [if_neg ha,if_neg ha,this.2 ha]
 have e2:kD Y L' k=kD Y L k:=by
  have:gT L' (Y.inn k)=gT L (Y.inn k):=zbE _ _ fun x hx s=>by
   funext d
   unfold jJ;rw [h.inn x hx]
  unfold kD;rw [this]
 have e3:lZ Y L' k=lZ Y L k:=zbE _ _ fun x hx s=>by
  have ho:=h.out x hx;unfold kW;rw [ho.1];by_cases hz:only L x.to.toNat=0
  ·have:=hlo x hx;rw [if_pos (.inl (.inl (by rw [hz];show (0:Int)<_;omega))),if_pos (.inl (.inl (by rw [hz];show (0:Int)<_;omega)))]
  ·have e:jB L' k (only L x.to.toNat) (Y.inn x.to.toNat)=jB L k (only L x.to.toNat) (Y.inn x.to.toNat):=zbE _ _ fun o ho' s=>by
    unfold jK;by_cases hk:o.fr=(k:Int)
    ·simp [hk]
    ·rw [ho.2 hz o ho' hk]
   rw [e]
 unfold i9;rw [e1,e2,e3]
theorem kL {L:Ws}{i j:Nat}{b:BitVec 64}(hi:i<L.length):cI (L.set i b) j=if j=i then b else cI L j:=by
 unfold cI;rw [List.getD_eq_getElem?_getD,List.getD_eq_getElem?_getD];by_cases h:j=i
 ·subst h;rw [List.getElem?_set_self hi,if_pos rfl];rfl
 ·rw [List.getElem?_set_ne (fun e=>h e.symm),if_neg h]
theorem zex {L:Ws}{i j:Nat}{b:BitVec 64}(hi:i<L.length)(h:j≠i):only (L.set i b) j=only L j:=by
 unfold only;rw [kL hi,if_neg h]
theorem zgD {Y:Tb}{L:Ws}{i:Nat}{b:BitVec 64}(hok:Y.Ok)(hi:i<Y.n)(hl:L.length=Y.n):lW Y (L.set i b) i=lW Y L i∧kD Y (L.set i b) i=kD Y L i∧lZ Y (L.set i b) i=lZ Y L i:=by
 (have hil:i<L.length:=by omega);refine ⟨zbE _ _ fun x hx s=>?_,?_,zbE _ _ fun x hx s=>?_⟩
 ·have h1:=(hok.psS i hi x hx).1;have h2:=(hok.ps i hi).2 x hx;unfold mq;by_cases ha:x.a=(i:Int)
  ·rw [if_pos ha,if_pos ha,zex hil a5]
  ·rw [if_neg ha,if_neg ha,zex hil a5]
 ·have:gT (L.set i b) (Y.inn i)=gT L (Y.inn i):=zbE _ _ fun x hx s=>by
   have h1:=(hok.innS i hi x hx).1;have h2:=(hok.inn i hi).2 x hx
   funext d
   unfold jJ;rw [zex hil a5]
  unfold kD;rw [this]
 ·have h1:=(hok.outS i hi x hx).1;have h2:=(hok.out i hi).2 x hx;unfold kW;rw [zex hil a5]
  have e:jB (L.set i b) i (only L x.to.toNat) (Y.inn x.to.toNat)=jB L i (only L x.to.toNat) (Y.inn x.to.toNat):=zbE _ _ fun o ho s=>by
   have h3:=(hok.inn _ a5).2 o ho;unfold jK;by_cases hk:o.fr=(i:Int)
   ·simp [hk]
   ·rw [zex hil a5]
  rw [e]
def zh6 (Y:Tb)(L:Ws)(i:Nat):Prop:=cI L i≠0#64∧cI L i &&& i9 Y L i=0#64
theorem zjW {α:Type}(f:α→Nat)(hf:∀_:α,True):∀(l:List α) (s:Ws),s.length=8→(∀x∈l,f x<512)→∀j,j<512→(eB (l.foldl (fun s x=>dQ s (f x)) s) j=true↔eB s j=true∨∃x∈l,f x=j)
 | [],s,_,_,j,_=>by simp
 |x :: r,s,hs,hx,j,hj=>by
  rw [List.foldl_cons,zjW f hf r _ (by rw [lm,hs]) (fun y hy=>hx y (by simp [hy])) j hj,zfZ hs (hx x a8) hj];simp only [Bool.or_eq_true,decide_eq_true_eq,List.mem_cons];constructor
  ·rintro ((h|h)|⟨y,hy,h⟩)
   ·exact .inl h
   ·exact .inr ⟨x, .inl rfl,h⟩
   ·exact .inr ⟨y, .inr hy,h⟩
  ·rintro (h|⟨y,rfl|hy,h⟩)
   ·exact .inl (.inl h)
   ·exact .inl (.inr h)
   ·exact .inr ⟨y,hy,h⟩
def mF (Y:Tb)(L:Ws)(i j:Nat):Prop:=
 (∃x∈Y.ps i,(x.a+x.b - (i:Int)).toNat=j)∨(∃x∈Y.inn i,x.fr.toNat=j)∨(∃x∈Y.out i,x.to.toNat=j∨(only L x.to.toNat≠0∧∃o∈Y.inn x.to.toNat,o.fr.toNat=j))
theorem zm7 {Y : Tb} {L : Ws} : ∀ (l : List Ld) (s : Ws), s.length = 8 → (∀ x ∈ l, x.to.toNat < 512 ∧ ∀ o ∈ Y.inn x.to.toNat, o.fr.toNat < 512) → ∀ j, j < 512 →
    (eB (l.foldl (lK Y L) s) j = true ↔ eB s j = true ∨ ∃ x ∈ l, x.to.toNat = j ∨ (only L x.to.toNat ≠ 0 ∧ ∃ o ∈ Y.inn x.to.toNat, o.fr.toNat = j))
  | [], s, _, _, j, _ => by simp
  | x :: r, s, hs, hx, j, hj => by
    have h1 := hx x a8; rw [List.foldl_cons, zm7 r _ (by rw [zgA, hs]) (fun y hy => hx y (by simp [hy])) j hj]
    have e : eB (lK Y L s x) j = true ↔ eB s j = true ∨ (x.to.toNat = j ∨ (only L x.to.toNat ≠ 0 ∧ ∃ o ∈ Y.inn x.to.toNat, o.fr.toNat = j)) := by
      unfold lK; by_cases hz : (only L x.to.toNat : Int) = 0
      · rw [if_pos hz, zfZ hs h1.1 hj];simp only [Bool.or_eq_true, decide_eq_true_eq]; constructor
        · rintro (h | h)
          · exact .inl h
          · exact .inr (.inl h)
        · rintro (h | h | h)
          · exact .inl h
          · exact .inr h
          · exact absurd (show only L x.to.toNat = 0 by omega) h.1
      · rw [if_neg hz, zjW (fun o : Ld => o.fr.toNat) (fun _ => trivial) _ _ (by rw [lm, hs]) h1.2 j hj, zfZ hs h1.1 hj];simp only [Bool.or_eq_true, decide_eq_true_eq]; constructor
        · rintro ((h | h) | h)
          · exact .inl h
          · exact .inr (.inl h)
          · exact .inr (.inr ⟨by omega, h⟩)
        · rintro (h | h | h)
          · exact .inl (.inl h)
          · exact .inl (.inr h)
          · exact .inr h.2
    rw [e];simp only [List.mem_cons]; constructor
    · rintro ((h | h) | ⟨y, hy, h⟩)
      · exact .inl h
      · exact .inr ⟨x, .inl rfl, h⟩
      · exact .inr ⟨y, .inr hy, h⟩
    · rintro (h | ⟨y, rfl | hy, h⟩)
      · exact .inl (.inl h)
      · exact .inl (.inr h)
      · exact .inr ⟨y, hy, h⟩
theorem zdA {Y:Tb}{L:Ws}{i:Nat}{ws:Ws}(hok:Y.Ok)(hi:i<Y.n)(hws:ws.length=8)(j:Nat)(hj:j<512):eB (jV Y L i ws) j=true↔eB ws j=true∨(only L i≠0∧mF Y L i j):=by
 have hn:=hok.n;unfold jV;by_cases hz:(only L i:Int)=0
 ·rw [if_pos hz];constructor
  ·exact .inl
  ·rintro (h|h)
   ·exact h
   ·exact absurd (show only L i=0 by omega) h.1
 ·rw [if_neg hz];have hp:=(hok.ps i hi).2;have hI:=(hok.inn i hi).2;have hO:=(hok.out i hi).2
  have:=zm7 (Y:=Y) (L:=L) (Y.out i) ((Y.inn i).foldl (fun s x=>dQ s x.fr.toNat) ((Y.ps i).foldl (fun s x=>dQ s (x.a+x.b - (i:Int)).toNat) ws)) (by rw [zdj,zdi,hws]) (fun x hx=>by
   have:=hO x hx
   exact ⟨by omega,fun o ho=>by have:=(hok.inn x.to.toNat a5).2 o ho;omega⟩) j hj
  refine Iff.trans this ?_;rw [zjW (fun x:Ld=>x.fr.toNat) (fun _=>trivial) _ _ (by rw [zdi,hws]) (fun x hx=>by have:=hI x hx;omega) j hj,zjW (fun x:Pr=>(x.a+x.b - (i:Int)).toNat) (fun _=>trivial) _ _ hws (fun x hx=>by have:=hp x hx;omega) j hj];unfold mF;constructor
  ·rintro (((h|h)|h)|h)
   ·exact .inl h
   ·exact .inr ⟨by omega, .inl h⟩
   ·exact .inr ⟨by omega, .inr (.inl h)⟩
   ·exact .inr ⟨by omega, .inr (.inr h)⟩
  ·rintro (h|⟨_,h|h|h⟩)
   ·exact .inl (.inl (.inl h))
   ·exact .inl (.inl (.inr h))
   ·exact .inl (.inr h)
   ·exact .inr h
theorem ziI {Y:Tb}{L L':Ws}{i k:Nat}(hok:Y.Ok)(hi:i<Y.n)(hk:k<Y.n)(hki:k≠i)(hsame:∀j,j≠i→only L' j=only L j)(h0:only L i=0)(hfar:¬mF Y L' i k):Alike Y L L' k where
 ps x hx:=by
  have h1:=(hok.ps k hk).2 x hx;have h2:=hok.psS k hk x hx;constructor
  ·intro ha;by_cases hb:x.b.toNat=i
   ·exact absurd (.inl ⟨x,by rw [←hb];exact h2.2.2,by omega⟩) hfar
   ·exact hsame _ hb
  ·intro ha;by_cases hb:x.a.toNat=i
   ·exact absurd (.inl ⟨x,by rw [←hb];exact h2.2.1,by omega⟩) hfar
   ·exact hsame _ hb
 inn x hx:=by
  have h1:=(hok.inn k hk).2 x hx;by_cases hb:x.fr.toNat=i
  ·exact absurd (.inr (.inr ⟨x,by rw [←hb];exact (hok.innS k hk x hx).2, .inl a5⟩)) hfar
  ·exact hsame _ hb
 out x hx:=by
  have h1:=(hok.out k hk).2 x hx;have h2:=hok.outS k hk x hx;have hto:x.to.toNat≠i:=fun hb=>hfar (.inr (.inl ⟨x,by rw [←hb];exact h2.2,by omega⟩));refine ⟨hsame _ hto,fun hz o ho hok'=>?_⟩;have h3:=(hok.inn x.to.toNat a5).2 o ho;by_cases hb:o.fr.toNat=i
  ·have h4:=(hok.innS x.to.toNat a5 o ho).2;rw [hb] at h4;refine absurd (.inr (.inr ⟨o,h4, .inr ⟨?_,x,?_,by omega⟩⟩)) hfar
   ·rw [show o.to.toNat=x.to.toNat by omega,hsame _ hto];exact hz
   ·rw [show o.to.toNat=x.to.toNat by omega];exact h2.2
  ·exact hsame _ hb
def zlQ (L:Ws):Nat:=(L.map fun b=>(dx b).length).sum
theorem dJ {b:BitVec 64}{j:Nat}:j∈dx b↔b.getLsbD j=true:=by
 unfold dx;rw [List.mem_filter,List.mem_range'_1];constructor
 ·exact fun h=>h.2
 ·intro h;refine ⟨⟨Nat.zero_le _,?_⟩,h⟩;have:=BitVec.lt_of_getLsbD h;omega
theorem ziD {p q:Nat→Bool}:∀(l:List Nat),(∀x∈l,q x=true→p x=true)→(∃x∈l,p x=true∧q x=false)→(l.filter q).length<(l.filter p).length
 | [],_,h=>by obtain ⟨x,hx,_⟩:=h;cases hx
 |y :: r,h,⟨x,hx,hp,hq⟩=>by
  have hle:∀(l:List Nat),(∀x∈l,q x=true→p x=true)→(l.filter q).length≤(l.filter p).length:=by
   intro l
   induction l with
   |nil=>intro _;simp
   |cons z s ih=>
    intro hz;have h1:=ih (fun x hx=>hz x (by simp [hx]));have h2:=hz z a8
    cases hqz:q z <;> cases hpz:p z <;> simp [hqz,hpz] at h2 ⊢ <;> omega
  have h2:=h y a8;rcases List.mem_cons.1 hx with rfl|hx
  ·rw [List.filter_cons_of_neg (by rw [hq];simp),List.filter_cons_of_pos hp];have:=hle r (fun x hx=>h x (by simp [hx]));simp;omega
  ·have:=ziD r (fun x hx=>h x (by simp [hx])) ⟨x,hx,hp,hq⟩
   cases hqz:q y <;> cases hpz:p y <;> simp [hqz,hpz] at h2 ⊢ <;> omega
theorem zoa {a b:BitVec 64}(h:∀j,a.getLsbD j=true→b.getLsbD j=true)(hne:a≠b):(dx a).length<(dx b).length:=by
 unfold dx;refine ziD _ (fun j _=>h j) ?_;apply Classical.byContradiction;intro hno;apply hne;apply BitVec.eq_of_getLsbD_eq;intro j hj
 cases ha:a.getLsbD j with
 |true=>rw [h j ha]
 |false=>
  cases hb:b.getLsbD j with
  |false=>rfl
  |true=>exact absurd ⟨j,List.mem_range'_1.2 ⟨Nat.zero_le _,by omega⟩,hb,ha⟩ hno
theorem ziO:∀(L:Ws) (i:Nat) (b:BitVec 64),i<L.length→zlQ (L.set i b)+(dx (cI L i)).length=zlQ L+(dx b).length
 | [],i,b,h=>by simp at h
 |x :: r,0,b,h=>by simp [zlQ,cI];omega
 |x :: r,i+1,b,h=>by
  have:=ziO r i b (by simpa using h);simp only [zlQ,cI,List.set_cons_succ,List.map_cons,List.sum_cons,List.getD_cons_succ] at this ⊢;omega
inductive Reach (Y:Tb) (L:Ws):Ws→Prop
 |refl:Reach Y L L
 |step {M:Ws} {i:Nat} {b:BitVec 64}:Reach Y L M→i<Y.n→(∀j,b.getLsbD j=true→(i9 Y M i).getLsbD j=true)→Reach Y L (M.set i (cI M i &&& ~~~b))
theorem Reach.len {Y:Tb}{L M:Ws}(h:Reach Y L M):M.length=L.length:=by
 induction h with
 |refl=>rfl
 |step _ _ _ ih=>rw [List.length_set,ih]
theorem Reach.sub {Y:Tb}{L M:Ws}(h:Reach Y L M)(hl:L.length=Y.n):∀i j,(cI M i).getLsbD j=true→(cI L i).getLsbD j=true:=by
 induction h with
 |refl=>exact fun _ _ h=>h
 | @step M' k b hr hk _ ih=>
  intro i j hij;rw [kL (by rw [hr.len,hl];exact hk)] at hij
  split at hij
  ·rename_i e;subst e;rw [BitVec.getLsbD_and,Bool.and_eq_true] at hij;exact ih _ _ hij.1
  ·exact ih _ _ hij
structure SInv (Y:Tb) (L0 L:Ws) (q:List Nat) (ws:Ws) (c:Bool):Prop where
 reach:Reach Y L0 L
 len:L.length=Y.n
 ws8:ws.length=8
 wsn:∀j,j<512→eB ws j=true→j<Y.n
 qn:∀j∈q,j<Y.n
 q512:q.length≤512
 bad:c=true→∃i,i<Y.n∧cI L i=0#64
 good:c=false→∀i,i<Y.n→i∈q∨eB ws i=true∨zh6 Y L i
def smu (L:Ws)(q:List Nat)(ws:Ws):Nat:=zlQ L*2000+q.length+(if eR ws=[] then 0 else 600)
theorem zmh:eR ff=[]:=zgl fun j _ _=>zdS j
theorem SInv.refill {Y:Tb}{L0 L:Ws}{ws:Ws}{c:Bool}(h:SInv Y L0 L [] ws c):SInv Y L0 L (eR ws) ff c where
 reach:=h.reach
 len:=h.len
 ws8:=rfl
 wsn j _ hb:=by rw [zdS] at hb;cases hb
 qn j hj:=by obtain ⟨_,h1,h2⟩:=fM.1 hj;exact h.wsn j h1 h2
 q512:=zf6 ws 0
 bad:=h.bad
 good hc i hi:=by
  rcases h.good hc i hi with h1|h1|h1
  ·cases h1
  ·have:=h.len;by_cases h512:i<512
   ·exact .inl (fM.2 ⟨Nat.zero_le _,h512,h1⟩)
   ·exfalso;unfold eB cI at h1;rw [List.getD_eq_getElem?_getD,List.getElem?_eq_none (by rw [h.ws8];omega)] at h1;exact absurd h1 (by show ¬(0#64).getLsbD _=true;rw [BitVec.getLsbD_zero];simp)
  ·exact .inr (.inr h1)
theorem zkn {L:Ws}{ws:Ws}(h:eR ws≠[]):smu L (eR ws) ff<smu L [] ws:=by
 unfold smu;rw [if_pos zmh,if_neg h];have:(eR ws).length≤512:=zf6 ws 0;simp only [List.length_nil];omega
theorem SInv.calm {Y:Tb}{L0 L:Ws}{ws:Ws}(h:SInv Y L0 L [] ws false)(hm:eR ws=[]):∀i,i<Y.n→zh6 Y L i:=fun i hi=>by
 rcases h.refill.good rfl i hi with h1|h1|h1
 ·rw [hm] at h1;cases h1
 ·rw [zdS] at h1;cases h1
 ·exact h1
theorem zkh {Y:Tb}{L0 L:Ws}{i:Nat}{b:BitVec 64}(h:Reach Y L0 L)(hi:i<Y.n)(hb:∀j,b.getLsbD j=true→(i9 Y L i).getLsbD j=true):Reach Y L0 (L.set i (cI L i &&& ~~~b)):= .step h hi hb
theorem zoJ {Y:Tb}{L:Ws}{i j:Nat}(h:(lW Y L i).getLsbD j=true):(i9 Y L i).getLsbD j=true:=by simp [i9,h]
theorem zn6 {Y:Tb}{L:Ws}{i j:Nat}(h:(kD Y L i).getLsbD j=true):(i9 Y L i).getLsbD j=true:=by simp [i9,h]
theorem zn9 {Y:Tb}{L:Ws}{i j:Nat}(h:(lZ Y L i).getLsbD j=true):(i9 Y L i).getLsbD j=true:=by simp [i9,h]
def zgP (Y:Tb)(L:Ws)(i k:Nat):BitVec 64:=if k=0 then lW Y L i else if k=1 then kD Y L i else lZ Y L i
theorem zoC {Y:Tb}{L:Ws}{i j k:Nat}(h:(zgP Y L i k).getLsbD j=true):(i9 Y L i).getLsbD j=true:=by
 unfold zgP at h
 split at h
 ·exact zoJ h
 ·split at h
  ·exact zn6 h
  ·exact zn9 h
def eo (Y:Tb)(L:Ws)(i:Nat):Nat→Ws
 |0=>L
 |k+1=>(eo Y L i k).set i (cI (eo Y L i k) i &&& ~~~(zgP Y (eo Y L i k) i k))
theorem zb6 {Y:Tb}{L:Ws}{i:Nat}:∀k,(eo Y L i k).length=L.length
 |0=>rfl
 |k+1=>by rw [eo,List.length_set,zb6 k]
theorem zei {Y:Tb}{L0 L:Ws}{i:Nat}(h:Reach Y L0 L)(hi:i<Y.n):∀k,Reach Y L0 (eo Y L i k)
 |0=>h
 |k+1=>zkh (zei h hi k) hi (fun j hj=>zoC hj)
theorem zeq {Y:Tb}{L:Ws}{i j:Nat}(hi:i<L.length)(hj:j≠i):∀k,cI (eo Y L i k) j=cI L j
 |0=>rfl
 |k+1=>by rw [eo,kL (by rw [zb6];exact hi),if_neg hj,zeq hi hj k]
theorem zfB {Y:Tb}{L:Ws}{i:Nat}(hi:i<L.length):∀k j,(cI (eo Y L i k) i).getLsbD j=true→(cI L i).getLsbD j=true
 |0,_,h=>h
 |k+1,j,h=>by
  rw [eo,kL (by rw [zb6];exact hi),if_pos rfl,BitVec.getLsbD_and,Bool.and_eq_true] at h;exact zfB hi k j h.1
theorem zkL {Y:Tb}{L:Ws}{i:Nat}{b:BitVec 64}(hok:Y.Ok)(hi:i<Y.n)(hl:L.length=Y.n)(m:Nat):zgP Y (L.set i b) i m=zgP Y L i m:=by
 have h1:=zgD (b:=b) hok hi hl;unfold zgP;rw [h1.1,h1.2.1,h1.2.2]
theorem zgq {Y:Tb}{L:Ws}{i:Nat}(hok:Y.Ok)(hi:i<Y.n)(hl:L.length=Y.n):∀k m,zgP Y (eo Y L i k) i m=zgP Y L i m
 |0,_=>rfl
 |k+1,m=>by rw [eo,zkL hok hi (by rw [zb6,hl]),zgq hok hi hl k m]
theorem zlM {Y:Tb}{L:Ws}{i:Nat}(hok:Y.Ok)(hi:i<Y.n)(hl:L.length=Y.n):cI (eo Y L i 3) i=cI L i &&& ~~~(lW Y L i) &&& ~~~(kD Y L i) &&& ~~~(lZ Y L i):=by
 have h:∀k,cI (eo Y L i (k+1)) i=cI (eo Y L i k) i &&& ~~~(zgP Y L i k):=fun k=>by
  rw [eo,kL (by rw [zb6,hl];exact hi),if_pos rfl,zgq hok hi hl]
 rw [h 2,h 1,h 0]
 rfl
theorem zfo {Y : Tb} {L : Ws} {i : Nat} (hi : i < L.length) : eo Y L i 3 = L.set i (cI (eo Y L i 3) i) := by
  have h : ∀ k, ∃ b, eo Y L i k = L.set i b := by
    intro k
    induction k with
    | zero => exact ⟨cI L i, by
        apply List.ext_getElem?; intro j; by_cases hj : j = i
        · subst hj; rw [List.getElem?_set_self hi, eo, List.getElem?_eq_getElem hi, dS hi]
        · rw [List.getElem?_set_ne (fun e => hj e.symm)]; rfl⟩
    | succ k ih =>
      obtain ⟨b, hb⟩ := ih; exact ⟨_, by rw [eo, hb, List.set_set]⟩
  obtain ⟨b, hb⟩ := h 3; rw [hb, kL hi, if_pos rfl]
theorem zhE {a b:BitVec 64}(hs:∀j,a.getLsbD j=true→b.getLsbD j=true)(hne:a≠b)(h0:a≠0#64):iJ b=0:=by
 unfold iJ;rw [if_neg];rintro ⟨hb,hz⟩
 have h1:∀j,b.getLsbD j=true→j=ctz b:=fun j hj=>by
  have:=zjl hb j;rw [hz,hj,BitVec.getLsbD_zero,Bool.true_and] at this;simpa using this.symm
 apply hne;apply BitVec.eq_of_getLsbD_eq;intro j hj
 cases hbj:b.getLsbD j with
 |false=>
  cases haj:a.getLsbD j with
  |false=>rfl
  |true=>rw [hs j haj] at hbj;cases hbj
 |true=>
  have e:=h1 j hbj;obtain ⟨k,hk⟩:∃k,a.getLsbD k=true:=⟨ctz a,(zgn h0 0).1⟩;rw [e,←h1 k (hs k hk)];exact hk
theorem SInv.step {Y : Tb} {L0 L : Ws} {i : Nat} {q : List Nat} {ws : Ws} (hok : Y.Ok) (h : SInv Y L0 L (i :: q) ws false) :
    SInv Y L0 (eo Y L i 3) q (if cI (eo Y L i 3) i = cI L i then ws else jV Y (eo Y L i 3) i ws) (decide (cI (eo Y L i 3) i = 0#64)) := by
  have hi : i < Y.n := h.qn i a8; (have hil : i < L.length := by rw [h.len]; exact hi); have hn := hok.n; have hsub := zfB (Y := Y) hil 3; refine ⟨zei h.reach hi 3, by rw [zb6, h.len], ?_, ?_, fun j hj => h.qn j (by simp [hj]), by have := h.q512; simp at this; omega, ?_, ?_⟩
  · split
    · exact h.ws8
    · rw [zfA, h.ws8]
  · intro j hj hb
    split at hb
    · exact h.wsn j hj hb
    · rcases (zdA hok hi h.ws8 j hj).1 hb with h1 | ⟨_, h1 | h1 | h1⟩
      · exact h.wsn j hj h1
      · obtain ⟨x, hx, he⟩ := h1; have := (hok.ps i hi).2 x hx; omega
      · obtain ⟨x, hx, he⟩ := h1; have := (hok.inn i hi).2 x hx; omega
      · obtain ⟨x, hx, he⟩ := h1; have h2 := (hok.out i hi).2 x hx; rcases he with he | ⟨_, o, ho, he⟩
        · omega
        · have := (hok.inn x.to.toNat a5).2 o ho; omega
  · intro hc; exact ⟨i, hi, of_decide_eq_true hc⟩
  · intro hc k hk; have h0 : cI (eo Y L i 3) i ≠ 0#64 := of_decide_eq_false hc; by_cases hki : k = i
    · subst hki;refine .inr (.inr ⟨h0, ?_⟩); have e := zgD (b := cI (eo Y L k 3) k) hok hi h.len; rw [← zfo hil] at e; unfold i9; rw [e.1, e.2.1, e.2.2, zlM hok hi h.len]; apply BitVec.eq_of_getLsbD_eq; intro j hj;simp only [BitVec.getLsbD_and, BitVec.getLsbD_or, BitVec.getLsbD_not, BitVec.getLsbD_zero]
      cases (cI L k).getLsbD j <;> cases (lW Y L k).getLsbD j <;> cases (kD Y L k).getLsbD j <;> cases (lZ Y L k).getLsbD j <;> simp
    · have hkeep := zeq (Y := Y) hil hki 3; by_cases hsame : cI (eo Y L i 3) i = cI L i
      · rw [if_pos hsame]
        have e : eo Y L i 3 = L := by
          rw [zfo hil, hsame]; apply List.ext_getElem?; intro j; by_cases hj : j = i
          · subst hj; rw [List.getElem?_set_self hil, List.getElem?_eq_getElem hil, dS hil]
          · rw [List.getElem?_set_ne (fun e => hj e.symm)]
        rw [e]; rcases h.good rfl k hk with h1 | h1 | h1
        · rcases List.mem_cons.1 h1 with h1 | h1
          · exact absurd h1 hki
          · exact .inl h1
        · exact .inr (.inl h1)
        · exact .inr (.inr h1)
      · rw [if_neg hsame]; have h00 : only L i = 0 := zhE hsub hsame h0; (have honly : ∀ j, j ≠ i → only (eo Y L i 3) j = only L j := fun j hj => by unfold only; rw [zeq hil hj]); rcases h.good rfl k hk with h1 | h1 | h1
        · rcases List.mem_cons.1 h1 with h1 | h1
          · exact absurd h1 hki
          · exact .inl h1
        · exact .inr (.inl ((zdA hok hi h.ws8 k a5).2 (.inl h1)))
        · by_cases hnear : only (eo Y L i 3) i ≠ 0 ∧ mF Y (eo Y L i 3) i k
          · exact .inr (.inl ((zdA hok hi h.ws8 k a5).2 (.inr hnear)))
          · refine .inr (.inr ⟨by rw [hkeep]; exact h1.1, ?_⟩)
            have ha : Alike Y L (eo Y L i 3) k := by
              by_cases hz : only (eo Y L i 3) i = 0
              · have hall : ∀ j, only (eo Y L i 3) j = only L j := fun j => by
                  by_cases hj : j = i
                  · subst hj; rw [hz, h00]
                  · exact honly j hj
                exact q4X
              · exact ziI hok hi hk hki honly h00 (fun hh => hnear ⟨hz, hh⟩)
            rw [zgr ha (fun x hx => by have := (hok.out k hk).2 x hx; omega), hkeep]; exact h1.2
theorem zmO {Y:Tb}{L:Ws}{i:Nat}{q:List Nat}{ws:Ws}(hi:i<L.length)(hq:q.length≤511):smu (eo Y L i 3) q (if cI (eo Y L i 3) i=cI L i then ws else jV Y (eo Y L i 3) i ws)<smu L (i :: q) ws:=by
 have hb:=ziO L i (cI (eo Y L i 3) i) hi;rw [←zfo hi] at hb;unfold smu;by_cases hs:cI (eo Y L i 3) i=cI L i
 ·rw [if_pos hs];rw [hs] at hb;simp only [List.length_cons];omega
 ·rw [if_neg hs];have hlt:=zoa (zfB (Y:=Y) hi 3) hs; (have h6:(if eR (jV Y (eo Y L i 3) i ws)=[] then 0 else 600)≤600:=by split <;> omega);simp only [List.length_cons];omega
end Go.Proofs.YtogbggmckmnlfaaGreatDoor
