/- E F G G2 H1 Pn: shortened and put together by squeeze.py. -/
import Derived.Test.YtgoeeefoinkepaaGreatDoorQ04
set_option maxRecDepth 100000
set_option maxHeartbeats 4000000
set_option linter.unusedVariables false
set_option linter.unusedSectionVars false
set_option linter.unusedSimpArgs false
namespace Go.Proofs.YtgoeeefoinkepaaGreatDoor
open Go.RowKit
theorem cA {p:Prop}(h:p:=by rw [zd5 (by omega)];omega):p:=h
theorem b7 {p:Prop}(h:p:=by rw [List.length_map,jY]):p:=h
def jB (ws:Ws)(k:Nat):Nat:=((ws.take k).map zjJ).sum
theorem zgF {ws:Ws}{k:Nat}(h:k<ws.length):jB ws (k+1)=jB ws k+zjJ (cD ws k):=by
 unfold jB;rw [List.take_succ_eq_append_getElem h,d9 h,List.map_append,List.sum_append];simp
theorem zhJ (ws:Ws):∀k,jB ws k≤127*k
 |0=>by simp [jB]
 |k+1=>by
  have:=zhJ ws k;rcases Nat.lt_or_ge k ws.length with h|h
  ·rw [zgF h];have:=zh3 (cD ws k);omega
  ·unfold jB at *;rw [List.take_of_length_le a6] at *;omega
@[irreducible] def eB (ws:Ws) (i:Nat):List Nat:=(List.range' i (512 - i)).filter (d7 ws)
abbrev eD (ws:Ws):List Nat:=eB ws 0
def zho:List Nat→Int
 | []=> -1
 |x :: _=>(x:Int)
theorem zfp {ws:Ws}{i:Nat}(h:∀j,i≤j→j<512→d7 ws j=false):eB ws i=[]:=by
 unfold eB;rw [List.filter_eq_nil_iff];intro j hj;obtain ⟨h1,h2⟩:=List.mem_range'_1.1 hj;rw [h j h1 a6];simp
theorem zgW {ws:Ws}{i r:Nat}(hi:i≤r)(hr:r<512)(hb:d7 ws r=true)(h:∀j,i≤j→j<r→d7 ws j=false):eB ws i=r :: eB ws (r+1):=by
 unfold eB
 have e:List.range' i (512 - i)=List.range' i (r - i)++(r :: List.range' (r+1) (512 - (r+1))):=by
  rw [show r :: List.range' (r+1) (512 - (r+1))=List.range' r (512 - r) from by rw [show 512 - r=(512 - (r+1))+1 by omega,List.range'_succ]];have:=List.range'_append (s:=i) (m:=r - i) (n:=512 - r) (step:=1);rw [Nat.one_mul,show i+(r - i)=r by omega,show r - i+(512 - r)=512 - i by omega] at this;exact this.symm
 rw [e,List.filter_append,List.filter_cons_of_pos (by simpa using hb)]
 have:(List.range' i (r - i)).filter (d7 ws)=[]:=by
  rw [List.filter_eq_nil_iff];intro j hj;obtain ⟨h1,h2⟩:=List.mem_range'_1.1 hj;rw [h j h1 a6];simp
 rw [this];rfl
theorem fc {ws:Ws}{i j:Nat}:j∈eB ws i↔i≤j∧j<512∧d7 ws j=true:=by
 unfold eB;rw [List.mem_filter,List.mem_range'_1];constructor
 ·rintro ⟨⟨h1,h2⟩,h3⟩;exact ⟨h1,by omega,h3⟩
 ·rintro ⟨h1,h2,h3⟩;exact ⟨⟨h1,by omega⟩,h3⟩
theorem zjT {ws:Ws}{i h:Nat}{t:List Nat}(e:eB ws i=h :: t):i≤h∧h<512∧t=eB ws (h+1):=by
 have hm:=fc.1 (show h∈eB ws i by rw [e];simp)
 have hs:eB ws i=h :: eB ws (h+1):=zgW hm.1 hm.2.1 hm.2.2 (fun j h1 h2=>by
  cases hb:d7 ws j with
  |false=>rfl
  |true=>
   have hj:j∈eB ws i:=fc.2 ⟨h1,by omega,hb⟩; (have hsort:(eB ws i).Pairwise (· < ·):=by unfold eB;exact List.Pairwise.filter _ List.pairwise_lt_range');rw [e] at hj hsort;rcases List.mem_cons.1 hj with hj|hj
   ·omega
   ·have:=(List.pairwise_cons.1 hsort).1 j hj;omega)
 rw [e] at hs;exact ⟨hm.1,hm.2.1,(List.cons.inj hs).2⟩
theorem ze5 (ws:Ws)(i:Nat):(eB ws i).length≤512:=by
 unfold eB;have:=List.length_filter_le (d7 ws) (List.range' i (512 - i));rw [List.length_range'] at this;omega
theorem zlC (a:BitVec 64)(k j:Nat)(hj:j<64):((a >>> k) <<< k).getLsbD j=(a.getLsbD j&&decide (k≤j)):=by
 rw [BitVec.getLsbD_shiftLeft,BitVec.getLsbD_ushiftRight];by_cases h:j<k
 ·simp [h]
 ·rw [show k+(j - k)=j by omega];simp [hj,h];intro _;omega
structure NxInv (ws:Ws) (i at':Nat) (b:BitVec 64):Prop where
 lt:at'<8
 ge:i<64* (at'+1)
 bit:∀j,j<64→b.getLsbD j=(d7 ws (64*at'+j)&&decide (i≤64*at'+j))
 none:∀j,i≤j→j<64*at'→d7 ws j=false
theorem NxInv.start {ws:Ws}{i:Nat}(hi:i<512):NxInv ws i (i / 64) ((cD ws (i / 64) >>> (i % 64)) <<< (i % 64)) where
 lt:=by omega
 ge:=by omega
 bit j hj:=by
  rw [zlC _ _ _ hj];unfold d7;rw [show (64* (i / 64)+j) / 64=i / 64 by omega,show (64* (i / 64)+j) % 64=j by omega]
  congr 1
  exact decide_eq_decide.2 a6
 none j h1 h2:=by omega
theorem NxInv.next {ws:Ws}{i a:Nat}(h:NxInv ws i a 0#64)(ha:a+1<8):NxInv ws i (a+1) (cD ws (a+1)) where
 lt:=ha
 ge:=by have:=h.ge;omega
 bit j hj:=by
  have:=h.ge;unfold d7;rw [show (64* (a+1)+j) / 64=a+1 by omega,show (64* (a+1)+j) % 64=j by omega,decide_eq_true a6,Bool.and_true]
 none j h1 h2:=by
  rcases Nat.lt_or_ge j (64*a) with hj|hj
  ·exact h.none j h1 hj
  ·have:=h.bit (j - 64*a) a6;rw [show 64*a+(j - 64*a)=j by omega,decide_eq_true h1,Bool.and_true,BitVec.getLsbD_zero] at this;exact this.symm
theorem NxInv.found {ws:Ws}{i a:Nat}{b:BitVec 64}(h:NxInv ws i a b)(hb:b≠0#64):eB ws i=(64*a+ctz b) :: eB ws (64*a+ctz b+1):=by
 have hc:=zfR hb;have h1:=(zdu hb 0).1;rw [h.bit _ hc] at h1;simp only [Bool.and_eq_true,decide_eq_true_eq] at h1;have:=h.lt;refine zgW h1.2 a6 h1.1 (fun j hi hj=>?_);rcases Nat.lt_or_ge j (64*a) with hj2|hj2
 ·exact h.none j hi hj2
 ·have h2:=(zdu hb (j - 64*a)).2 a6;rw [h.bit _ a6,show 64*a+(j - 64*a)=j by omega,decide_eq_true hi,Bool.and_true] at h2;exact h2
theorem NxInv.over {ws:Ws}{i a:Nat}(h:NxInv ws i a 0#64)(ha:a+1=8):eB ws i=[]:=zfp fun j h1 h2=>by
 rcases Nat.lt_or_ge j (64*a) with hj2|hj2
 ·exact h.none j h1 hj2
 ·have h3:=h.bit (j - 64*a) a6;rw [show 64*a+(j - 64*a)=j by omega,decide_eq_true h1,Bool.and_true,BitVec.getLsbD_zero] at h3;exact h3.symm
theorem zgJ (ws:Ws):∀(k i:Nat),k<(eB ws i).length→eB ws (cD (eB ws i) k+1)=(eB ws i).drop (k+1)
 |k,i,hk=>by
  cases e:eB ws i with
  |nil=>rw [e] at hk;simp at hk
  |cons h t=>
   obtain ⟨h1,h2,h3⟩:=zjT e
   cases k with
   |zero=>simp [cD,h3]
   |succ k=>
    rw [e] at hk;subst h3;have:=zgJ ws k (h+1) (by simpa using hk);simpa [cD] using this
theorem zf4 {xs:List Nat}{k:Nat}(h:k<xs.length):zho (xs.drop k)=((cD xs k:Nat):Int):=by
 rw [List.drop_eq_getElem_cons h,d9 h];rfl
theorem zj0 {xs:List Nat}{k:Nat}(h:zho (xs.drop k)<0):xs.length≤k:=by
 rcases Nat.lt_or_ge k xs.length with hk|hk
 ·rw [zf4 hk] at h;omega
 ·exact hk
theorem zkb {xs:List Nat}{k:Nat}(h:0≤zho (xs.drop k)):k<xs.length:=by
 rcases Nat.lt_or_ge k xs.length with hk|hk
 ·exact hk
 ·rw [List.drop_eq_nil_of_le hk] at h;simp [zho] at h
theorem zlf {α:Type}[Inhabited α]{xs:List α}{k:Nat}(h:k<xs.length):xs[k]?=some (cD xs k):=by rw [d9 h];exact List.getElem?_eq_getElem h
theorem zlj {α:Type}[Inhabited α]{xs:List α}{k:Nat}{x:α}(h:xs[k]?=some x):k<xs.length∧x=cD xs k:=by
 obtain ⟨h1,h2⟩:=List.getElem?_eq_some_iff.1 h;exact ⟨h1,by rw [d9 h1,h2]⟩
def gg (l:List Nat):List Value:=l.map fun j:Nat=> .int .i64 (j:Int)
theorem zjj {l:List Nat}{k:Nat}(h:k<l.length):gg (l.take (k+1))=gg (l.take k)++[.int .i64 ((cD l k:Nat):Int)]:=by
 unfold gg;rw [List.take_succ_eq_append_getElem h,d9 h,List.map_append];rfl
theorem zjR (l:List Nat):gg l=(l.map fun j:Nat=>(j:Int)).flatMap Ie:=by
 unfold gg
 induction l with
 |nil=>rfl
 |cons x r ih=>simp_all [Ie]
@[irreducible] def cY (m:BitVec 64):List Nat:=(List.range' 0 64).filter m.getLsbD
theorem zdW {m:BitVec 64}(h:m≠0#64):cY m=ctz m :: cY (m &&& (m - 1#64)):=by
 have hc:=zfR h
 have e:List.range' 0 64=List.range' 0 (ctz m)++(ctz m :: List.range' (ctz m+1) (64 - (ctz m+1))):=by
  rw [show ctz m :: List.range' (ctz m+1) (64 - (ctz m+1))=List.range' (ctz m) (64 - ctz m) from by rw [show 64 - ctz m=(64 - (ctz m+1))+1 by omega,List.range'_succ]];have:=List.range'_append (s:=0) (m:=ctz m) (n:=64 - ctz m) (step:=1);rw [Nat.one_mul,Nat.zero_add,show ctz m+(64 - ctz m)=64 by omega] at this;exact this.symm
 have z:∀f:Nat→Bool,(∀j,j<ctz m→f j=false)→(List.range' 0 (ctz m)).filter f=[]:=fun f hf=>by
  rw [List.filter_eq_nil_iff];intro j hj;obtain ⟨_,h2⟩:=List.mem_range'_1.1 hj;rw [hf j a6];simp
 unfold cY;rw [e,List.filter_append,List.filter_append,z _ (fun j hj=>(zdu h j).2 hj),z _ (fun j hj=>by rw [zeI h,(zdu h j).2 hj];rfl),List.filter_cons_of_pos (by simpa using (zdu h 0).1),List.filter_cons_of_neg (by rw [zeI h];simp)];simp only [List.nil_append]
 congr 1
 apply List.filter_congr;intro j hj;obtain ⟨h1,_⟩:=List.mem_range'_1.1 hj;rw [zeI h,decide_eq_false a6];simp
theorem ziw (m:BitVec 64):(cY m).length≤64:=by
 unfold cY;have:=List.length_filter_le m.getLsbD (List.range' 0 64);rw [List.length_range'] at this;exact this
theorem zhx:cY 0#64=[]:=by
 unfold cY;rw [List.filter_eq_nil_iff];intro j _;simp
theorem zlL (ws:Ws)(hws:ws.length=8)(w:World):Calls Tryz.prog 133 #[.agg ws.cells.toArray] w fun e w'=>e= .returned (.int .i64 (jB ws 8:Int))∧Below w.heap.size w w':=by
 refine dt (M:=fun _=>False) (hs:=[]) Tryz.func133 rfl rfl rfl (Hp.refl _ _) ?_;refine c7 ?_; (refine cH (Wt.none) rfl rfl (di) ?_;rintro _ _ ⟨g1,rfl,rfl⟩);refine gh ?_;refine jx ?_;refine eS ?_;refine q2C ?_;refine c6 ?_;refine cO (T.block ?_);refine T.loop (ι:=Nat) (fun k=>[(3, .int .i64 (jB ws k:Int)),(7, .agg ws.cells.toArray),(8, .int .i64 (k:Int))]) (fun k=>[]) (fun k=>k≤8) (fun k=>8 - k) 0 ?_ ?_ ?_ ?_
 ·omega
 ·exact (by repeat (first|exact Sub.nil|refine Sub.cons rfl ?_))
 ·exact Sx
 ·intro k hphi;have hle:=zhJ ws k;refine eN ?_;refine T.cond rfl (fun h1=>?_) (fun h1=>?_)
  ·have p1:=h1; (try simp only [cN] at p1);have hld:=Ws.get (ws:=ws) (i:=k) (p:=k) a6 rfl;have hp8:=zh3 (cD ws k);refine fq ?_;refine cF (Yv.bN rfl rfl rfl rfl a6 hld) ?_;refine c6 ?_;refine cO (T.region ?_);refine dS ?_; (refine cH (Wt.none) rfl rfl (cI rfl rfl rfl (fun w hw=>zkm _ w)) ?_;rintro _ _ ⟨rfl,rfl⟩);refine q0f ?_;refine c6 ?_;refine kR ?_;exact K.next (k+1) a6 a6 (by repeat (first|exact Sub.nil|refine Sub.cons rfl ?_|(refine dI rfl (by rw [zgF a6];omega) ?_))) Sx
  ·have p1:=h1; (try simp only [cN] at p1);refine ld ?_;refine iX ?_;exact cQ rfl rfl (fun w' hw=>⟨zcm (by rw [show k=8 by omega]),hw.isBelow⟩)
theorem zlh (ws:Ws)(hws:ws.length=8)(i:Nat)(hi:i<512)(w:World):Calls Tryz.prog 136 #[.agg ws.cells.toArray, .int .i64 (i:Int)] w fun e w'=>e= .returned (.tuple #[.agg (Ws.cells (dJ ws i)).toArray, .int .i64 0])∧Below w.heap.size w w':=by
 have hld:=Ws.get (ws:=ws) (i:=i / 64) (p:=0+0+i / 64*1) a6 a6;refine dt (M:=fun _=>False) (hs:=[]) Tryz.func136 rfl rfl rfl (Hp.refl _ _) ?_;refine c7 ?_; (refine cH (Wt.none) rfl rfl (di) ?_;rintro _ _ ⟨g2,rfl,rfl⟩); (refine cH (Wt.none) rfl rfl (Ew.alloc) ?_;rintro _ _ ⟨g4,rfl,rfl⟩);refine q3L ?_; (refine cH (Wt.none) rfl rfl (cI rfl rfl rfl (fun w hw=>zdX _ _)) ?_;rintro _ _ ⟨rfl,rfl⟩);refine dF ?_;refine gk rfl (by rw [inB,decide_eq_true (show (0:Int)≤(i:Int) by omega),decide_eq_true (show (i:Int)≤511 by omega)];rfl) ?_;refine jc ?_;refine dx (sN 0 4 (sN 5 3 (.still 9 (.eff 4 (.still 8 (.still 10 (.eff 11 .done))))))) [.row g4 101 (Ws.cells eJ)] a8 Sx ?_;refine eG ?_;refine cJ rfl (kh rfl rfl rfl a6) ?_;refine fF ?_;refine cJ rfl (dU rfl rfl rfl (show (i:Int) / 64=((i / 64:Nat):Int) from by omega) a6) ?_;refine eG ?_;refine cJ rfl (jM rfl rfl rfl a6) ?_;refine cJ rfl (gr (a:=1#64) (i % 64) rfl rfl rfl a6 a6) ?_;refine lU ?_;refine d8 rfl (Wt.none) rfl rfl (cT 1 rfl rfl rfl hld) Sx ?_;refine cJ rfl (iI) ?_;refine cJ rfl (dU rfl rfl rfl (show (i:Int) / 64=((i / 64:Nat):Int) from by omega) a6) ?_;refine dn ?_; (refine dr rfl (Wt.none) rfl (gH 1 (Ws.cells (dJ ws i)) rfl rfl rfl rfl (by rw [List.length_map,hws];omega) (Ws.put a6)) ?_;rintro _ _ ⟨rfl,rfl⟩;refine ⟨Sx,?_⟩);refine fk ?_;refine K.seq (c7 ?_);refine cF (fJ 1 rfl rfl rfl (by rw [List.length_map,kd,hws])) ?_; (refine dw (Wt.none) rfl (du 0 rfl rfl rfl rfl (by rw [List.length_map,kd,hws]) (by rw [List.length_map,kd,hws];rfl)) ?_;rintro _ _ ⟨rfl,rfl⟩);refine eT ?_;exact iU 0 rfl rfl rfl rfl (by rw [List.length_map,kd,hws]) (fun w' hw=>⟨rfl,hw.isBelow⟩)
theorem zik (ws:Ws)(hws:ws.length=8)(i:Nat)(z:Int)(hz:z=(i:Int))(w:World)(ht:Tab w):Calls Tryz.prog 160 #[.agg ws.cells.toArray, .int .i64 z] w fun e w'=>e= .returned (.int .i64 (zho (eB ws i)))∧Below w.heap.size w w':=by
 subst hz;refine dt (M:=fun _=>False) (hs:=[]) Tryz.func160 rfl rfl rfl (Hp.refl _ _) ?_;refine c7 ?_; (refine cH (Wt.none) rfl rfl (di) ?_;rintro _ _ ⟨g2,rfl,rfl⟩);refine jx ?_;refine ic ?_;refine gk rfl (decide_eq_false a6) ?_;refine jC ?_;refine ic ?_;refine T.cond rfl (fun h1=>?_) (fun h1=>?_)
 ·have p1:=h1; (try simp only [cN] at p1);refine il ?_;exact cQ rfl rfl (fun w' hw=>⟨zcm (by rw [zfp (fun j h1 h2=>by omega)];rfl),hw.isBelow⟩)
 ·have p1:=h1; (try simp only [cN] at p1);have hld:=Ws.get (ws:=ws) (i:=i / 64) (p:=0+0+i / 64*1) a6 a6;refine ig ?_;refine c6 ?_;refine cF (kh rfl rfl rfl a6) ?_;refine lB ?_;refine eS ?_;refine cF (dU rfl rfl rfl (show (i:Int) / 64=((i / 64:Nat):Int) from by omega) a6) ?_;refine cF (cT 0 rfl rfl rfl hld) ?_;refine c6 ?_;refine cF (jM rfl rfl rfl a6) ?_;refine cF (fH (i % 64) rfl rfl rfl a6 a6) ?_;refine c6 ?_;refine cF (jM rfl rfl rfl a6) ?_;refine cF (gr (i % 64) rfl rfl rfl a6 a6) ?_;refine c6 ?_;refine cO (T.seq (T.block ?_));refine T.loop (ι:=Nat×BitVec 64) (fun x=>[(2, .pointer (some ⟨g2,0,none⟩)),(5, .int .i64 (x.1:Int)),(6,U x.2)]) (fun x=>[.row g2 101 ws.cells]) (fun x=>NxInv ws i x.1 x.2) (fun x=>8 - x.1) (i / 64,(cD ws (i / 64) >>> (i % 64)) <<< (i % 64)) ?_ ?_ ?_ ?_
  ·exact NxInv.start a6
  ·exact (by repeat (first|exact Sub.nil|refine Sub.cons rfl ?_|(refine dI rfl a6 ?_)))
  ·exact Sx
  ·intro x hphi;obtain ⟨a,b⟩:=x;dsimp only at hphi ⊢;have hlt0:=hphi.lt;refine gj ?_;refine ic ?_;refine T.cond rfl (fun h2=>?_) (fun h2=>?_)
   ·have p2:=h2; (try simp only [cN] at p2); (have hb0:b=0#64:=by rw [zlR] at h2;exact of_decide_eq_true h2);subst hb0;refine T.skip (K.seq (T.block (c7 ?_)));refine c6 ?_;refine q0f ?_;refine jx ?_;refine ic ?_;refine T.cond rfl (fun h3=>?_) (fun h3=>?_)
    ·have p3:=h3; (try simp only [cN] at p3);refine gU ?_;refine cO (T.ret (dN (ey (dN (ey (dN ?_))))));exact cQ rfl rfl (fun w' hw=>⟨zcm (by rw [hphi.over a6];rfl),hw.isBelow⟩)
    ·have p3:=h3; (try simp only [cN] at p3);have hlt8:=hphi.lt;have hld:=Ws.get (ws:=ws) (i:=a+1) (p:=0+0+(a+1) *1) a6 a6;refine T.skip (K.seq (T.region ?_));refine c6 ?_;refine eS ?_;refine cF (dU rfl rfl rfl (show (a:Int)+1=((a+1:Nat):Int) from by omega) a6) ?_;refine cF (cT 0 rfl rfl rfl hld) ?_;refine c6 ?_;refine TL.nil (et ?_);exact K.next (a+1,cD ws (a+1)) (hphi.next a6) (by show 8 - (a+1)<8 - a;omega) (by repeat (first|exact Sub.nil|refine Sub.cons rfl ?_|(refine dI rfl a6 ?_))) Sx
   ·have p2:=h2; (try simp only [cN] at p2); (have hb0:b≠0#64:=by rw [zlR] at h2;exact of_decide_eq_false h2);have hcz:=zfR hb0;have hlt8:=hphi.lt;refine ld ?_;refine c6 ?_;refine cF (Yv.cq rfl rfl rfl a6) ?_;refine c6 ?_; (refine cH (Wt.none) rfl rfl (cI rfl rfl rfl (fun w hw=>zjQ b hb0 w (ht.keptF hw))) ?_;rintro _ _ ⟨rfl,rfl⟩);refine q0f ?_;refine eT ?_;exact cQ rfl rfl (fun w' hw=>⟨zcm (by rw [hphi.found hb0];simp only [zho];omega),hw.isBelow⟩)
theorem zlz (ws:Ws)(hws:ws.length=8)(w:World)(ht:Tab w):Calls Tryz.prog 159 #[.agg ws.cells.toArray] w fun e w'=>e= .returned (.int .i64 (zho (eD ws)))∧Below w.heap.size w w':=by
 refine dt (M:=fun _=>False) (hs:=[]) Tryz.func159 rfl rfl rfl (Hp.refl _ _) ?_;refine c7 ?_; (refine cH (Wt.none) rfl rfl (di) ?_;rintro _ _ ⟨g1,rfl,rfl⟩);refine gh ?_;refine q2C ?_; (refine cH (Wt.none) rfl rfl (cI rfl rfl rfl (fun w hw=>zik ws hws 0 0 rfl w (ht.keptF hw))) ?_;rintro _ _ ⟨rfl,rfl⟩);refine eT ?_;refine cQ rfl rfl (fun w' hw=>⟨?_,hw.isBelow⟩)
 rfl
theorem zlM (ws:Ws)(hws:ws.length=8)(w:World):Calls Tryz.prog 134 #[.agg ws.cells.toArray] w fun e w'=>∃x:Nat,True∧e= .returned (.func (.func 158) #[] #[.pointer (some ⟨x,0,none⟩)])∧Hp w (fun _=>False) [.row x 101 ws.cells] w':=by
 refine dt (M:=fun _=>False) (hs:=[]) Tryz.func134 rfl rfl rfl (Hp.refl _ _) ?_;refine c7 ?_; (refine cH (Wt.none) rfl rfl (di) ?_;rintro _ _ ⟨g1,rfl,rfl⟩);refine gh ?_;refine iX ?_;exact cQ rfl rfl (fun w' hw=>⟨g1,trivial,rfl,hw⟩)
theorem zkl (ws:Ws)(hws:ws.length=8)(p:Nat)(B:World)(M:Nat→Prop)(ht:Tab B)(hM0:¬M 0):IterAt Tryz.prog 158 [.pointer (some ⟨p,0,none⟩)] (fun j:Nat=>[.int .i64 (j:Int)]) (eD ws) [.row p 101 ws.cells] B M:=by
 intro G Z l W g0 hy hG0 hW;refine zgt (B:=B) (M:=M) Tryz.func158 rfl rfl rfl hW ?_;refine c7 ?_;refine q2C ?_; (refine cH (Wt.none) rfl rfl (cI rfl rfl rfl (fun w hw=>zlz ws hws w (ht.kept hw hM0))) ?_;rintro _ _ ⟨rfl,rfl⟩);refine c6 ?_;refine cO (T.block ?_);refine T.loop (ι:=Nat×HS) (fun x=>[(0, .func (.yield l) #[] #[]),(1, .pointer (some ⟨p,0,none⟩)),(3, .int .i64 (zho ((eD ws).drop x.1)))]) (fun x=>[.row p 101 ws.cells]++x.2) (fun x=>x.1≤(eD ws).length∧G x.1 x.2) (fun x=>(eD ws).length - x.1) (0,g0) ?_ ?_ ?_ ?_
 ·exact ⟨by simp,hG0⟩
 ·exact (by repeat (first|exact Sub.nil|refine Sub.cons rfl ?_))
 ·exact fK
 ·intro x hphi;obtain ⟨k,g⟩:=x;dsimp only at hphi ⊢;obtain ⟨hkn,hG⟩:=hphi;refine gj ?_;refine ic ?_;refine T.cond rfl (fun h1=>?_) (fun h1=>?_)
  ·have p1:=h1; (try simp only [cN] at p1);have hk:=zkb p1;have h512:cD (eD ws) k<512:=(fc.1 (gR hk)).2.1;rw [zf4 hk];refine fq ?_;refine dS ?_;refine TL.bX (Wt.none) rfl rfl rfl rfl rfl hy (zlf hk) hG (enc:=fun j:Nat=>[.int .i64 (j:Int)]) (x:=cD (eD ws) k) (i:=k) ?_ ?_
   ·intro g' hG';refine dF ?_;refine gk rfl rfl ?_;refine q0x ?_;refine q2C ?_;refine c6 ?_;refine q0f ?_; (refine cH (Wt.none) rfl rfl (cI rfl rfl rfl (fun w hw=>zik ws hws (cD (eD ws) k+1) _ a6 w (ht.kept hw hM0))) ?_;rintro _ _ ⟨rfl,rfl⟩);refine c6 ?_;refine fg ?_;exact K.next (k+1,g') ⟨by dsimp only;omega,hG'⟩ (by dsimp only;omega) (by rw [←zgJ ws k 0 hk];exact (by repeat (first|exact Sub.nil|refine Sub.cons rfl ?_))) (List.Sublist.refl _)
   ·intro z hZ;refine dF ?_;refine jl rfl rfl ?_;refine T.ret (ey (dN (dN (ey ?_))));exact K.bS rfl (fun w' hw hkp=>⟨⟨_,rfl⟩,hkp, .inr ⟨z,hZ,hw⟩⟩)
  ·have p1:=h1; (try simp only [cN] at p1);have hk:=zj0 p1;refine ft ?_;exact K.bT rfl (fun w' hw hkp=>⟨⟨_,rfl⟩,hkp, .inl ⟨g,by rw [show (eD ws).length=k from by omega];exact hG,hw⟩⟩)
theorem zig (ws:Ws)(hws:ws.length=8)(w:World)(ht:Tab w):Calls Tryz.prog 115 #[.agg ws.cells.toArray] w fun e w'=>∃v:Value,True∧e= .returned v∧Hp w (fun _=>False) [.sl v 3 1 (eD ws).length (gg (eD ws))] w':=by
 have hsl8:=zhJ ws 8;have hml:=ze5 ws 0;refine dt (M:=fun _=>False) (hs:=[]) Tryz.func115 rfl rfl rfl (Hp.refl _ _) ?_;refine c7 ?_; (refine cH (Wt.none) rfl rfl (di) ?_;rintro _ _ ⟨g1,rfl,rfl⟩);refine gh ?_;refine q2C ?_; (refine cH (Wt.none) rfl rfl (cI rfl rfl rfl (fun w hw=>zlL ws hws w)) ?_;rintro _ _ ⟨rfl,rfl⟩); (refine cH (Wt.none) rfl rfl (Ew.bE rfl rfl rfl rfl a6 a6) ?_;rintro _ _ ⟨g7,rfl,rfl⟩); (refine cH (Wt.none) rfl rfl (Ew.alloc) ?_;rintro _ _ ⟨g3,rfl,rfl⟩); (refine dw (Wt.none) rfl (dY 0 rfl rfl rfl rfl a7) ?_;rintro _ _ ⟨rfl,rfl⟩);refine gW ?_;refine cF (fJ 2 rfl rfl rfl (by rw [List.length_map,hws])) ?_; (refine cH (Wt.none) rfl rfl (gF rfl rfl rfl (fun w hw=>zlM ws hws _)) ?_;rintro _ _ ⟨b9, -,rfl,rfl⟩);refine e9 ?_;refine cO (T.block ?_);refine T.bD (α:=Nat) ((fun j:Nat=>[.int .i64 (j:Int)])) (eD ws) ([.row b9 101 ws.cells]) (fun i g=>∃v,g=[.row g3 57 [v], .sl v 3 1 i (gg ((eD ws).take i))]) (fun _ _=>False) (fun x=>[(3, .pointer (some ⟨g3,0,none⟩)),(4, .int .i64 (x:Int))]) (_) (⟨_,rfl⟩) rfl (zkl ws hws b9 _ _ ht (fun h=>h)) a7 (fun _=>rfl) (by exact Sx) ?_ ?_ ?_ ?_
 ·intro l i x X D g hx;refine iK ?_;refine fg ?_;exact K.at (by repeat (first|exact Sub.nil|refine Sub.cons rfl ?_)) (List.Sublist.refl _)
 ·intro l i x X D g hx hG;obtain ⟨v,rfl⟩:=hG;obtain ⟨hi,rfl⟩:=zlj hx;have hi2:i<(eB ws 0).length:=hi;refine e9 ?_;refine T.block (T.region ?_);refine cF (cT 1) ?_;refine c6 ?_; (refine cH (Wt.none) rfl rfl (Ew.buildSlice rfl rfl rfl a7) ?_;rintro _ _ ⟨g13,rfl,rfl⟩); (refine cH (Wt.none) rfl rfl (Ew.append 3 0 rfl rfl rfl rfl rfl rfl a6 a6) ?_;rintro v14 _ ⟨hv14,rfl⟩); (refine dw (Wt.none) rfl (dY 2 rfl rfl rfl rfl b5) ?_;rintro _ _ ⟨rfl,rfl⟩);refine TL.nil (et ?_);exact K.round _ ⟨_,rfl,v14,rfl⟩ (by rw [zjj hi];exact Sx)
 ·intro g hG;obtain ⟨v,rfl⟩:=hG;refine e9 ?_;rw [List.take_length];refine et (K.seq (c7 ?_));refine cF (cT 1) ?_;refine eT ?_;exact cQ rfl rfl (fun w' hw=>⟨_,trivial,rfl,hw.sub Sx⟩)
 ·intro c y hz;exact hz.elim
theorem iR {w:World}{v:Value}{e:TypeId}{size k:Nat}{l:List Value}(h:(Ent.sl v e size k l).ok w):OneC v:=by
 rcases (cM.1 h).2 with ⟨rfl,_⟩|⟨g,cap,cur,rfl,_⟩ <;> exact inferInstance
theorem zgL (m:BitVec 64)(w:World)(ht:Tab w):Calls Tryz.prog 124 #[U m] w fun e w'=>∃v:Value,OneC v∧e= .returned v∧Hp w (fun _=>False) [.sl v 3 1 (cY m).length (gg (cY m))] w':=by
 have hcl:=ziw m;refine dt (M:=fun _=>False) (hs:=[]) Tryz.func124 rfl rfl rfl (Hp.refl _ _) ?_;refine jo ?_;refine c6 ?_;refine cO (T.seq (T.block ?_));refine T.slNil 3 1 ?_;refine T.loop (ι:=BitVec 64×List Nat×Value) (fun x=>[(0,U x.1),(3,x.2.2)]) (fun x=>[.sl x.2.2 3 1 x.2.1.length (gg x.2.1)]) (fun x=>x.2.1++cY x.1=cY m) (fun x=>(cY x.1).length) (m,[], .slice none 0 0) ?_ ?_ ?_ ?_
 ·rfl
 ·exact (by repeat (first|exact Sub.nil|refine Sub.cons rfl ?_))
 ·exact Sx
 ·intro x hphi;obtain ⟨b,l,v⟩:=x;dsimp only at hphi ⊢; (have hll:l.length+(cY b).length=(cY m).length:=by rw [←hphi,List.length_append]);refine gj ?_;refine ic ?_;refine T.cond rfl (fun h1=>?_) (fun h1=>?_)
  ·have p1:=h1; (try simp only [cN] at p1); (have hb0:b≠0#64:=by rintro rfl;exact p1 rfl);have hst:=zdW hb0;refine T.skip (K.seq (T.seq (T.block (T.region ?_))));refine dS ?_; (refine cH (Wt.none) rfl rfl (cI rfl rfl rfl (fun w hw=>zjQ b hb0 w (ht.keptF hw))) ?_;rintro _ _ ⟨rfl,rfl⟩); (refine cH (Wt.none) rfl rfl (Ew.buildSlice rfl rfl rfl a7) ?_;rintro _ _ ⟨g13,rfl,rfl⟩); (refine cH (Wt.none) rfl rfl (Ew.append 1 0 rfl rfl rfl rfl rfl rfl a6 a6) ?_;rintro v14 _ ⟨hv14,rfl⟩);refine c6 ?_;refine TL.nil (et (K.seq (T.region ?_)));refine dS ?_;refine cF (Yv.cj (b:=1#64) rfl rfl rfl) ?_;refine cF (fx) ?_;refine c6 ?_;refine fg ?_;exact K.next (b &&& (b - 1#64),l++[ctz b],v14) (by dsimp only;rw [List.append_assoc,List.singleton_append,←zdW hb0];exact hphi) (by dsimp only;rw [zdW hb0];simp) (by repeat (first|exact Sub.nil|refine Sub.cons rfl ?_)) (by simp only [List.length_append,List.length_singleton,gg,List.map_append,List.map_cons,List.map_nil];exact Sx)
  ·have p1:=h1; (try simp only [cN] at p1); (have hb0:b=0#64:=by refine BitVec.eq_of_toNat_eq ?_;show b.toNat=0;omega);subst hb0;rw [zhx,List.append_nil] at hphi;subst hphi;refine ld ?_;refine iX ?_;exact cQ rfl rfl (fun w' hw=>⟨_,iR (hw.get (i:=0) rfl),rfl,hw.sub Sx⟩)
structure Tb where
 st:List Int
 ix:Nat→Int
 total:Int
 vps:List Value
 ps:Nat→List Pr
 vcs:List Value
 cs:Nat→List Cp
 vin:List Value
 inn:Nat→List Ld
 vout:List Value
 out:Nat→List Ld
abbrev Tb.n (T:Tb):Nat:=T.st.length
structure Lists {α:Type} (w:World) (p:Addr) (enc:α→List Value) (size:Nat) (vs:List Value) (n:Nat) (f:Nat→List α):Prop where
 at':∃v,w.cell? p=some v∧SlOf w v (fun u=>[u]) 1 vs
 len:vs.length=n
 each:∀i,i<n→SlOf w (cD vs i) enc size (f i)
structure TablesAt (w:World) (tp:Nat) (T:Tb):Prop where
 st:∃v,w.cell? ⟨tp,0,none⟩=some v∧zft w v T.st
 ix:∀j,j<512→w.cell? ⟨tp,1+j,none⟩=some (.int .i64 (T.ix j))
 total:w.cell? ⟨tp,513,none⟩=some (.int .i64 T.total)
 ps:Lists w ⟨tp,514,none⟩ Pr.cells 5 T.vps T.n T.ps
 cs:Lists w ⟨tp,515,none⟩ Cp.cells 4 T.vcs T.n T.cs
 inn:Lists w ⟨tp,516,none⟩ Ld.cells 5 T.vin T.n T.inn
 out:Lists w ⟨tp,517,none⟩ Ld.cells 5 T.vout T.n T.out
structure Tb.Ok (T:Tb):Prop where
 n:T.n≤512
 ps:∀i,i<T.n→(T.ps i).length≤4096∧∀x∈T.ps i,0≤x.a∧x.a<T.n∧0≤x.b∧x.b<T.n∧ -1≤x.off∧x.off≤1∧2≤x.lo∧x.lo≤x.hi∧x.hi≤51∧(x.a=i∨x.b=i)
 cs:∀i,i<T.n→(T.cs i).length≤1024∧∀x∈T.cs i,0≤x.mx∧x.mx≤1099511627776∧2≤x.lo∧x.lo≤x.hi∧x.hi≤51
 inn:∀i,i<T.n→(T.inn i).length≤1024∧∀x∈T.inn i,x.to=i∧0≤x.fr∧x.fr<T.n∧1≤x.wt∧x.wt≤1073741824∧2≤x.lo∧x.lo≤x.hi∧x.hi≤51
 psS:∀i,i<T.n→∀x∈T.ps i,x.a≠x.b∧x∈T.ps x.a.toNat∧x∈T.ps x.b.toNat
 innS:∀i,i<T.n→∀x∈T.inn i,x.to≠x.fr∧x∈T.out x.fr.toNat
 outS:∀i,i<T.n→∀x∈T.out i,x.to≠x.fr∧x∈T.inn x.to.toNat
 out:∀i,i<T.n→(T.out i).length≤1024∧∀x∈T.out i,x.fr=i∧0≤x.to∧x.to<T.n∧1≤x.wt∧x.wt≤1073741824∧2≤x.lo∧x.lo≤x.hi∧x.hi≤51
def iQ (w:World)(g:Nat):Prop:=∃cs t p,w.heap[g]?=some (.cells cs t p)
def Fz (w0 w:World):Prop:=∀g,iQ w0 g→w.heap[g]?=w0.heap[g]?
theorem zdD {w:World}{p:Addr}{v:Value}(h:w.cell? p=some v):iQ w p.block:=by
 unfold World.cell? at h
 split at h
 ·rename_i hh;exact ⟨_,_,_,hh⟩
 ·cases h
theorem Fz.cell {w w':World}(hb:Fz w w'){p:Addr}{v:Value}(h:w.cell? p=some v):w'.cell? p=some v:=(World.cell?_of_block (w:=w) (hb _ (zdD h))).trans h
theorem Fz.cs {w w':World}(hb:Fz w w'){g p:Nat}{l:List Value}(h:Cs w g p l):Cs w' g p l:=fun j hj=>by
 have:=h j hj;rw [List.getElem?_eq_getElem hj] at this ⊢;exact hb.cell this
theorem gV {w:World}{g p:Nat}{l:List Value}(h:Cs w g p l)(hl:0<l.length):iQ w g:=by
 have:=h 0 hl;rw [List.getElem?_eq_getElem hl] at this;exact zdD this
theorem Fz.sl {α:Type}{w w':World}(hb:Fz w w'){v:Value}{enc:α→List Value}{size:Nat}{xs:List α}(h:SlOf w v enc size xs):SlOf w' v enc size xs:=by
 obtain ⟨A,cap,rfl,hc⟩:=h;refine ⟨A,cap,rfl,fun hp=>?_⟩;obtain ⟨g,off,rfl,hcs⟩:=hc hp;exact ⟨g,off,rfl,fun i hi=>hb.cs (hcs i hi)⟩
theorem fQ {w w':World}(hb:Below w.heap.size w w'):Fz w w':=fun g ⟨cs,t,p,h⟩=>hb.block g (Array.getElem?_eq_some_iff.1 h).1
theorem Fz.hp {w0 w w':World}{M:Nat→Prop}{hs:HS}(h:Fz w0 w)(hw:Hp w M hs w')(h0:∀g,M g→¬iQ w0 g):Fz w0 w':=fun g hg=>by
 have h1:=h g hg;obtain ⟨cs,t,p,e⟩:=hg;rw [←h1];refine hw.base g ?_ (fun hm=>h0 g hm ⟨cs,t,p,e⟩);rw [e] at h1;exact (Array.getElem?_eq_some_iff.1 h1).1
theorem Lists.later {α:Type}{w w':World}(hb:Fz w w'){p:Addr}{enc:α→List Value}{size:Nat}{vs:List Value}{n:Nat}{f:Nat→List α}(h:Lists w p enc size vs n f):Lists w' p enc size vs n f:=
 ⟨by obtain ⟨v,h1,h2⟩:=h.at';exact ⟨v,hb.cell h1,hb.sl h2⟩,h.len,fun i hi=>hb.sl (h.each i hi)⟩
theorem TablesAt.later {w w':World}(hb:Fz w w'){tp:Nat}{T:Tb}(h:TablesAt w tp T):TablesAt w' tp T:=
 ⟨by obtain ⟨v,h1,h2⟩:=h.st;exact ⟨v,hb.cell h1,hb.sl h2⟩,fun j hj=>hb.cell (h.ix j hj),hb.cell h.total,h.ps.later hb,h.cs.later hb,h.inn.later hb,h.out.later hb⟩
def Le (b:BitVec 64):List Value:=[U b]
structure StateAt (w:World) (sp:Nat) (T:Tb) (L:Ws) (c:Bool):Prop where
 tab:Tab w
 tb:∃tp,w.cell? ⟨sp,0,none⟩=some (.pointer (some ⟨tp,0,none⟩))∧TablesAt w tp T
 left:∃v,w.cell? ⟨sp,1,none⟩=some v∧SlOf w v Le 1 L
 len:L.length=T.n
 con:w.cell? ⟨sp,2,none⟩=some (.bool c)
theorem StateAt.later {w w':World}(hb:Below w.heap.size w w'){sp:Nat}{T:Tb}{L:Ws}{c:Bool}(h:StateAt w sp T L c):StateAt w' sp T L c:=
 have hf:=fQ hb
 ⟨h.tab.keptF (fR hb),by obtain ⟨tp,h1,h2⟩:=h.tb;exact ⟨tp,hf.cell h1,h2.later hf⟩,by obtain ⟨v,h1,h2⟩:=h.left;exact ⟨v,hf.cell h1,hf.sl h2⟩,h.len,hf.cell h.con⟩
theorem StateAt.kept {B w:World}{hs:HS}{sp:Nat}{T:Tb}{L:Ws}{c:Bool}(hw:Hp B (fun _=>False) hs w)(h:StateAt B sp T L c):StateAt w sp T L c:=h.later ⟨hw.os,hw.tape,hw.output,hw.size,fun k hk=>hw.base k hk (fun h=>h)⟩
def gZ (b:BitVec 64):Nat:=if b≠0#64∧b &&& (b - 1#64)=0#64 then ctz b else 0
def only (L:Ws)(i:Nat):Nat:=gZ (cD L i)
theorem zkx (b:BitVec 64):gZ b<64:=by
 unfold gZ;split
 ·rename_i h;exact zfR h.1
 ·decide
theorem zgs (L:Ws)(i:Nat):only L i<64:=zkx _
def la (L:Ws)(i:Nat)(g:BitVec 64)(x:Pr):BitVec 64:=
 if x.a=(i:Int) then
  if (only L x.b.toNat:Int)≠0∧x.lo≤(only L x.b.toNat:Int) - x.off∧(only L x.b.toNat:Int) - x.off≤x.hi then g ||| 1#64 <<< ((only L x.b.toNat:Int) - x.off).toNat else g
 else if x.lo≤(only L x.a.toNat:Int)∧(only L x.a.toNat:Int)≤x.hi then g ||| 1#64 <<< ((only L x.a.toNat:Int)+x.off).toNat else g
def kL (T:Tb)(L:Ws)(i:Nat):BitVec 64:=(T.ps i).foldl (la L i) 0#64
theorem iE {α β:Type}[Inhabited α](f:β→α→β)(z:β){l:List α}{k:Nat}(h:k<l.length):(l.take (k+1)).foldl f z=f ((l.take k).foldl f z) (cD l k):=by
 rw [List.take_succ_eq_append_getElem h,d9 h,List.foldl_append];rfl
theorem zkX {b:BitVec 64}(h1:¬(b.toNat:Int)=0)(h2:((b &&& (b - 1#64)).toNat:Int)=0):gZ b=ctz b:=by
 unfold gZ;rw [if_pos ⟨by rintro rfl;exact h1 rfl,BitVec.eq_of_toNat_eq (by show _=0;omega)⟩]
theorem zlF {b:BitVec 64}(h2:¬((b &&& (b - 1#64)).toNat:Int)=0):gZ b=0:=by
 unfold gZ;rw [if_neg (fun h=>h2 (by rw [h.2];rfl))]
theorem zko {b:BitVec 64}(h1:(b.toNat:Int)=0):gZ b=0:=by
 unfold gZ;rw [if_neg (fun h=>h.1 (BitVec.eq_of_toNat_eq (by show _=0;omega)))]
theorem zcF (sp:Nat)(Y:Tb)(L:Ws)(c:Bool)(i:Nat)(z:Int)(hz:z=(i:Int))(hi:i<Y.n)(w:World)(h:StateAt w sp Y L c):Calls Tryz.prog 132 #[.pointer (some ⟨sp,0,none⟩), .int .i64 z] w fun e w'=>e= .returned (.int .i64 (only L i:Int))∧Below w.heap.size w w':=by
 subst hz;obtain ⟨tp,hsp0,hT⟩:=h.tb;obtain ⟨vL,hsp1,hL⟩:=h.left;obtain ⟨AL,capL,rfl,hLs⟩:=hL.op;have hLn:=h.len;obtain ⟨gL,oL,rfl,hc⟩:=hLs a6;have hk:=hc i a6;simp only [Le] at hk;refine dt (M:=fun _=>False) (hs:=[]) Tryz.func132 rfl rfl rfl (Hp.refl _ _) ?_;refine gU ?_;refine gW ?_;refine dS ?_;refine eS ?_;refine cF (dv rfl rfl b8 (fun h=>h)) ?_;refine c6 ?_;refine q1G ?_;refine gh ?_;refine eu ?_;refine dd rfl rfl rfl (fun h1=>?_) (fun h1=>?_)
 ·have p1:=h1; (try simp only [cN] at p1);refine jd ?_;refine jd ?_;refine cS (Wt.some rfl rfl rfl h1) rfl rfl (Yv.cj (b:=1#64) rfl rfl rfl) ?_;refine cS (Wt.some rfl rfl rfl h1) rfl rfl (fx) ?_;refine jd ?_;refine jU ?_;refine cO ?_;refine T.cond rfl (fun h2=>?_) (fun h2=>?_)
  ·have p2:=h2; (try simp only [cN] at p2); (have hne:cD L i≠0#64:=by intro hh;rw [hh] at p1;exact p1 rfl);refine gU ?_; (refine cH (Wt.none) rfl rfl (cI rfl rfl rfl (fun w hw=>zjQ _ hne w (h.tab.keptF hw))) ?_;rintro _ _ ⟨rfl,rfl⟩);refine c6 ?_;refine km ?_;exact cQ rfl rfl (fun w' hw=>⟨zcm (by rw [only,zkX p1 p2]),hw.isBelow⟩)
  ·have p2:=h2; (try simp only [cN] at p2);refine ig ?_;refine eT ?_;exact cQ rfl rfl (fun w' hw=>⟨zcm (by rw [only,zlF p2];rfl),hw.isBelow⟩)
 ·have p1:=h1; (try simp only [cN] at p1);refine jm ?_;refine q1g ?_;refine lM ?_;refine ig ?_;refine eT ?_;exact cQ rfl rfl (fun w' hw=>⟨zcm (by rw [only,zko p1];rfl),hw.isBelow⟩)
theorem zht (sp:Nat)(Y:Tb)(L:Ws)(c:Bool)(i:Nat)(z:Int)(hz:z=(i:Int))(hi:i<Y.n)(w:World)(h:StateAt w sp Y L c)(hok:Y.Ok):Calls Tryz.prog 112 #[.pointer (some ⟨sp,0,none⟩), .int .i64 z] w fun e w'=>e= .returned (U (kL Y L i))∧Below w.heap.size w w':=by
 subst hz;obtain ⟨tp,hsp0,hT⟩:=h.tb;obtain ⟨vL,hsp1,hL⟩:=h.left;obtain ⟨AL,capL,rfl,hLs⟩:=hL.op;have hLn:=h.len;obtain ⟨vP,hP0,hP⟩:=hT.ps.at';obtain ⟨AP,capP,rfl,hPs⟩:=hP.op;have hPn:=hT.ps.len;obtain ⟨gP,oP,rfl,hPc⟩:=hPs a6;rw [hPn] at hP0;have hPi:=hPc i (by rw [hPn];exact hi);obtain ⟨BP,cpP,hvP,hslP⟩:=(hT.ps.each i hi).op;simp only [hvP] at hPi;obtain ⟨hlen,hrng⟩:=hok.ps i hi;have hn512:=hok.n;refine dt (M:=fun _=>False) (hs:=[]) Tryz.func112 rfl rfl rfl (Hp.refl _ _) ?_;refine jo ?_;refine jx ?_;refine dS ?_;refine q1J ?_;refine cF (dv rfl rfl hP0 (fun h=>h)) ?_;refine kj ?_;refine cF (dL (j:=0) rfl rfl hPi rfl rfl (fun h=>h)) ?_;refine iM ?_;refine T.loop (ι:=Nat) (fun k=>[(0, .pointer (some ⟨sp,0,none⟩)),(1, .int .i64 (i:Int)),(5,U (((Y.ps i).take k).foldl (la L i) 0#64)),(19, .slice BP (Y.ps i).length cpP),(20, .int .i64 ((Y.ps i).length:Int)),(21, .int .i64 (k:Int))]) (fun k=>[]) (fun k=>k≤(Y.ps i).length) (fun k=>(Y.ps i).length - k) 0 ?_ ?_ ?_ ?_
 ·omega
 ·exact (by repeat (first|exact Sub.nil|refine Sub.cons rfl ?_))
 ·exact Sx
 ·intro k hphi;refine eN ?_;refine T.cond rfl (fun h1=>?_) (fun h1=>?_)
  ·have p1:=h1; (try simp only [cN] at p1);obtain ⟨g,off,rfl,hc⟩:=hslP a6;have hk:=hc k a6;simp only [Pr.cells] at hk;have hr:=hrng _ (gR (xs:=Y.ps i) (k:=k) a6);have oa:=zgs L (cD (Y.ps i) k).a.toNat;have ob:=zgs L (cD (Y.ps i) k).b.toNat;refine fq ?_;refine ku ?_; (refine cH (Wt.none) rfl rfl (Ew.alloc) ?_;rintro _ _ ⟨g7,rfl,rfl⟩); (refine dw (Wt.none) rfl (du 0) ?_;rintro _ _ ⟨rfl,rfl⟩);refine dp ?_;refine d5 ?_;refine ic ?_;refine T.cond rfl (fun h2=>?_) (fun h2=>?_)
   ·have p2:=h2; (try simp only [cN] at p2);refine gU ?_;refine d5 ?_; (refine cH (Wt.none) rfl rfl (cI rfl rfl rfl (fun w hw=>zcF sp Y L c (cD (Y.ps i) k).b.toNat _ a6 a6 w (h.kept hw))) ?_;rintro _ _ ⟨rfl,rfl⟩);refine gh ?_;refine eu ?_;refine dd rfl rfl rfl (fun h3=>?_) (fun h3=>?_)
    ·have p3:=h3; (try simp only [cN] at p3);refine q0O ?_;refine q1I ?_;refine q0O ?_;refine cS (Wt.some rfl rfl rfl h3) rfl rfl (jz rfl rfl rfl a6) ?_;refine q1I ?_;refine q3q ?_;refine c6 ?_;refine dd rfl rfl rfl (fun h4=>?_) (fun h4=>?_)
     ·have p4:=h4; (try simp only [cN] at p4);refine cS (Wt.some rfl rfl rfl h4) rfl rfl (dO) ?_;refine q0P ?_;refine cS (Wt.some rfl rfl rfl h4) rfl rfl (jz rfl rfl rfl a6) ?_;refine q0P ?_;refine cS (Wt.some rfl rfl rfl h4) rfl rfl (dO) ?_;refine cF (ec rfl rfl h4) ?_;refine cO ?_;refine T.cond rfl (fun h5=>?_) (fun h5=>?_)
      ·have p5:=h5; (try simp only [cN] at p5);refine im ?_;refine d5 ?_;refine q3g ?_;refine cF (gr (a:=1#64) ((only L (cD (Y.ps i) k).b.toNat:Int) - (cD (Y.ps i) k).off).toNat rfl rfl rfl a6 a6) ?_;refine q3l ?_;exact K.next (k+1) a6 a6 (by rw [iE _ _ a6,la,if_pos p2,if_pos ⟨p3,p4,p5⟩];exact (by repeat (first|exact Sub.nil|refine Sub.cons rfl ?_))) Sx
      ·have p5:=h5; (try simp only [cN] at p5);refine gG ?_;exact K.next (k+1) a6 a6 (by rw [iE _ _ a6,la,if_pos p2,if_neg (fun hh=>absurd hh.2.2 a6)];exact (by repeat (first|exact Sub.nil|refine Sub.cons rfl ?_))) Sx
     ·have p4:=h4; (try simp only [cN] at p4);refine q0n ?_;refine q0n ?_;refine TL.off (Wt.not rfl rfl rfl h4) rfl rfl ?_;refine cF (dW rfl rfl h4) ?_;refine lM ?_;refine gG ?_;exact K.next (k+1) a6 a6 (by rw [iE _ _ a6,la,if_pos p2,if_neg (fun hh=>absurd hh.2.1 a6)];exact (by repeat (first|exact Sub.nil|refine Sub.cons rfl ?_))) Sx
    ·have p3:=h3; (try simp only [cN] at p3);refine q0o ?_;refine q2W ?_;refine TL.run 9 rfl ?_;refine lM ?_;refine gG ?_;exact K.next (k+1) a6 a6 (by rw [iE _ _ a6,la,if_pos p2,if_neg (fun hh=>hh.1 p3)];exact (by repeat (first|exact Sub.nil|refine Sub.cons rfl ?_))) Sx
   ·have p2:=h2; (try simp only [cN] at p2);refine gU ?_;refine d5 ?_; (refine cH (Wt.none) rfl rfl (cI rfl rfl rfl (fun w hw=>zcF sp Y L c (cD (Y.ps i) k).a.toNat _ a6 a6 w (h.kept hw))) ?_;rintro _ _ ⟨rfl,rfl⟩);refine gh ?_;refine d5 ?_;refine eu ?_;refine dd rfl rfl rfl (fun h6=>?_) (fun h6=>?_)
    ·have p6:=h6; (try simp only [cN] at p6);refine q12 ?_;refine cO ?_;refine T.cond rfl (fun h7=>?_) (fun h7=>?_)
     ·have p7:=h7; (try simp only [cN] at p7);refine im ?_;refine d5 ?_;refine q0f ?_;refine cF (gr (a:=1#64) ((only L (cD (Y.ps i) k).a.toNat:Int)+(cD (Y.ps i) k).off).toNat rfl rfl rfl a6 a6) ?_;refine q3l ?_;exact K.next (k+1) a6 a6 (by rw [iE _ _ a6,la,if_neg p2,if_pos ⟨p6,p7⟩];exact (by repeat (first|exact Sub.nil|refine Sub.cons rfl ?_))) Sx
     ·have p7:=h7; (try simp only [cN] at p7);refine gG ?_;exact K.next (k+1) a6 a6 (by rw [iE _ _ a6,la,if_neg p2,if_neg (fun hh=>absurd hh.2 a6)];exact (by repeat (first|exact Sub.nil|refine Sub.cons rfl ?_))) Sx
    ·have p6:=h6; (try simp only [cN] at p6);refine q0X ?_;refine q0X ?_;refine cF (dW rfl rfl h6) ?_;refine lM ?_;refine gG ?_;exact K.next (k+1) a6 a6 (by rw [iE _ _ a6,la,if_neg p2,if_neg (fun hh=>absurd hh.1 a6)];exact (by repeat (first|exact Sub.nil|refine Sub.cons rfl ?_))) Sx
  ·have p1:=h1; (try simp only [cN] at p1);refine ld ?_;refine iX ?_;exact cQ rfl rfl (fun w' hw=>⟨by rw [kL,List.take_of_length_le a6],hw.isBelow⟩)
def kO (f:Nat→Int):List Value:=(List.range 52).map fun d=> .int .i64 (f d)
theorem zhS (f:Nat→Int):(kO f).length=52:=by simp [kO]
theorem ze6 {f:Nat→Int}{d p:Nat}(hp:p=d)(hd:d<52):(kO f)[p]?=some (.int .i64 (f d)):=by subst hp;simp [kO,hd]
theorem zhG {f f':Nat→Int}{d p:Nat}{v:Int}(hp:p=d)(hd:d<52)(h1:f' d=v)(h2:∀e,e≠d→f' e=f e):(kO f).set p (.int .i64 v)=kO f':=by
 subst hp h1;apply List.ext_getElem?;intro e;unfold kO;by_cases he:e=p
 ·subst he;rw [List.getElem?_set_self (by simpa using hd)];simp [hd]
 ·rw [List.getElem?_set_ne (fun h=>he h.symm)];simp only [List.getElem?_map,List.getElem?_range];by_cases h52:e<52
  ·simp [h52,h2 e he]
  ·simp [h52]
def i3 (L:Ws)(f:Nat→Int)(x:Ld):Nat→Int:=fun d=>if x.lo≤(only L x.fr.toNat:Int)∧(only L x.fr.toNat:Int)≤x.hi∧only L x.fr.toNat=d then f d+x.wt else f d
def gp (L:Ws)(l:List Ld):Nat→Int:=l.foldl (i3 L) (fun _=>0)
theorem zjV (L:Ws):∀(l:List Ld),(∀x∈l,1≤x.wt∧x.wt≤1073741824)→∀(f:Nat→Int) (b:Int),(∀d,0≤f d∧f d≤b)→∀d,0≤l.foldl (i3 L) f d∧l.foldl (i3 L) f d≤b+1073741824* (l.length:Int)
 | [],_,f,b,hf,d=>by simpa using hf d
 |x :: r,hx,f,b,hf,d=>by
  have h1:=hx x b2
  have:=zjV L r (fun y hy=>hx y (by simp [hy])) (i3 L f x) (b+1073741824) (fun e=>by
   have:=hf e
   unfold i3;split <;> omega) d
  simp only [List.foldl_cons,List.length_cons];omega
def zhb (f:Nat→Int)(mx:Int)(g:BitVec 64)(d:Nat):BitVec 64:=if mx<f d then g ||| 1#64 <<< d else g
def zdT (f:Nat→Int)(g:BitVec 64)(x:Cp):BitVec 64:=(List.range' x.lo.toNat (x.hi.toNat+1 - x.lo.toNat)).foldl (zhb f x.mx) g
def jP (Y:Tb)(L:Ws)(i:Nat):BitVec 64:=(Y.cs i).foldl (zdT (gp L (Y.inn i))) 0#64
theorem zea {L:Ws}{l:List Ld}{k:Nat}(h:k<l.length):gp L (l.take (k+1))=i3 L (gp L (l.take k)) (cD l k):=iE _ _ h
theorem zlP {L:Ws}{l:List Ld}(hl:l.length≤1024)(hw:∀x∈l,1≤x.wt∧x.wt≤1073741824)(k d:Nat):0≤gp L (l.take k) d∧gp L (l.take k) d≤1099511627776:=by
 have:=zjV L (l.take k) (fun x hx=>hw x (List.mem_of_mem_take hx)) (fun _=>0) 0 (fun _=>⟨by simp,by simp⟩) d; (have hk:(l.take k).length≤1024:=by rw [List.length_take];omega);unfold gp;omega
def je (L:Ws)(i d:Nat)(s:Int)(x:Ld):Int:=if (x.lo≤(d:Int)∧(d:Int)≤x.hi)∧(x.fr=(i:Int)∨only L x.fr.toNat=d) then s+x.wt else s
theorem zk9 (L:Ws)(i d:Nat):∀(l:List Ld),(∀x∈l,1≤x.wt∧x.wt≤1073741824)→∀(s:Int),0≤s→0≤l.foldl (je L i d) s∧l.foldl (je L i d) s≤s+1073741824* (l.length:Int)
 | [],_,s,h=>by simp;exact h
 |x :: r,hx,s,h=>by
  have h1:=hx x b2; (have hs:0≤je L i d s x∧je L i d s x≤s+1073741824:=by unfold je;split <;> omega);have:=zk9 L i d r (fun y hy=>hx y (by simp [hy])) (je L i d s x) hs.1;simp only [List.foldl_cons,List.length_cons];omega
def i5 (L:Ws)(i d:Nat)(l:List Ld):Int:=l.foldl (je L i d) 0
theorem zlX {L:Ws}{l:List Ld}{i d:Nat}(hl:l.length≤1024)(hw:∀x∈l,1≤x.wt∧x.wt≤1073741824)(k:Nat):0≤i5 L i d (l.take k)∧i5 L i d (l.take k)≤1099511627776:=by
 have:=zk9 L i d (l.take k) (fun x hx=>hw x (List.mem_of_mem_take hx)) 0 (Int.le_refl _); (have hk:(l.take k).length≤1024:=by rw [List.length_take];omega);unfold i5;omega
def zdo (lost:Int)(d:Nat)(g:BitVec 64)(x:Cp):BitVec 64:=if (x.lo≤(d:Int)∧(d:Int)≤x.hi)∧x.mx<lost then g ||| 1#64 <<< d else g
def j0 (Y:Tb)(L:Ws)(i:Nat)(g:BitVec 64)(x:Ld):BitVec 64:=
 if ((only L x.to.toNat:Int)<x.lo∨x.hi<(only L x.to.toNat:Int))∨g.getLsbD (only L x.to.toNat)=true then g
 else (Y.cs x.to.toNat).foldl (zdo (i5 L i (only L x.to.toNat) (Y.inn x.to.toNat)) (only L x.to.toNat)) g
def kG (Y:Tb)(L:Ws)(i:Nat):BitVec 64:=(Y.out i).foldl (j0 Y L i) 0#64
theorem ziM (sp:Nat)(Y:Tb)(L:Ws)(c:Bool)(i:Nat)(z:Int)(hz:z=(i:Int))(hi:i<Y.n)(w:World)(h:StateAt w sp Y L c)(hok:Y.Ok):Calls Tryz.prog 113 #[.pointer (some ⟨sp,0,none⟩), .int .i64 z] w fun e w'=>e= .returned (U (jP Y L i))∧Below w.heap.size w w':=by
 subst hz;obtain ⟨tp,hsp0,hT⟩:=h.tb;obtain ⟨vL,hsp1,hL⟩:=h.left;obtain ⟨AL,capL,rfl,hLs⟩:=hL.op;have hLn:=h.len;obtain ⟨vC,hC0,hC⟩:=hT.cs.at';obtain ⟨AC,capC,rfl,hCs⟩:=hC.op;have hCn:=hT.cs.len;obtain ⟨gC,oC,rfl,hCc⟩:=hCs a6;rw [hCn] at hC0;have hCi:=hCc i (by rw [hCn];exact hi);obtain ⟨BC,cpC,hvC,hslC⟩:=(hT.cs.each i hi).op;simp only [hvC] at hCi;obtain ⟨vI,hI0,hI⟩:=hT.inn.at';obtain ⟨AI,capI,rfl,hIs⟩:=hI.op;have hIn:=hT.inn.len;obtain ⟨gI,oI,rfl,hIc⟩:=hIs a6;rw [hIn] at hI0;have hIi:=hIc i (by rw [hIn];exact hi);obtain ⟨BI,cpI,hvI,hslI⟩:=(hT.inn.each i hi).op;simp only [hvI] at hIi;obtain ⟨hlenC,hrngC⟩:=hok.cs i hi;obtain ⟨hlen,hrng⟩:=hok.inn i hi;have hn512:=hok.n; (have hwt:∀x∈Y.inn i,1≤x.wt∧x.wt≤1073741824:=fun x hx=>by have:=hrng x hx;omega);refine dt (M:=fun _=>False) (hs:=[]) Tryz.func113 rfl rfl rfl (Hp.refl _ _) ?_;refine q26 ?_;refine q3x ?_;refine dF ?_;refine T.cond rfl (fun h1=>?_) (fun h1=>?_)
 ·have p1:=h1; (try simp only [cN] at p1);refine il ?_;exact cQ rfl rfl (fun w' hw=>⟨by rw [jP,List.eq_nil_of_length_eq_zero (show (Y.cs i).length=0 by omega)];rfl,hw.isBelow⟩)
 ·have p1:=h1; (try simp only [cN] at p1);refine ig ?_; (refine cH (Wt.none) rfl rfl (Ew.alloc) ?_;rintro _ _ ⟨g5,rfl,rfl⟩);refine cO ?_;refine T.cut (gs:=[(0, .pointer (some ⟨sp,0,none⟩)),(1, .int .i64 (i:Int)),(5, .pointer (some ⟨g5,0,none⟩))]) (hs':=[.row g5 190 (kO (gp L (Y.inn i)))]) ?_ ?_
  ·skip;refine hJ ?_;refine q1J ?_;refine cF (dv rfl rfl hI0 (fun h=>h)) ?_;refine kj ?_;refine cF (dL (j:=0) rfl rfl hIi rfl rfl (fun h=>h)) ?_;refine iM ?_;refine T.loop (ι:=Nat) (fun k=>[(0, .pointer (some ⟨sp,0,none⟩)),(1, .int .i64 (i:Int)),(5, .pointer (some ⟨g5,0,none⟩)),(34, .slice BI (Y.inn i).length cpI),(35, .int .i64 ((Y.inn i).length:Int)),(36, .int .i64 (k:Int))]) (fun k=>[.row g5 190 (kO (gp L ((Y.inn i).take k)))]) (fun k=>k≤(Y.inn i).length) (fun k=>(Y.inn i).length - k) 0 ?_ ?_ ?_ ?_
   ·omega
   ·exact (by repeat (first|exact Sub.nil|refine Sub.cons rfl ?_))
   ·exact Sx
   ·intro k hphi;refine eN ?_;refine T.cond rfl (fun h2=>?_) (fun h2=>?_)
    ·have p2:=h2; (try simp only [cN] at p2);obtain ⟨g,off,rfl,hc⟩:=hslI a6;have hk:=hc k a6;simp only [Ld.cells] at hk;have hr:=hrng _ (gR (xs:=Y.inn i) (k:=k) a6);have oa:=zgs L (cD (Y.inn i) k).fr.toNat;refine fq ?_;refine ku ?_; (refine cH (Wt.none) rfl rfl (Ew.alloc) ?_;rintro _ _ ⟨g7,rfl,rfl⟩); (refine dw (Wt.none) rfl (du 0) ?_;rintro _ _ ⟨rfl,rfl⟩);refine dp ?_;refine kb ?_; (refine cH (Wt.none) rfl rfl (cI rfl rfl rfl (fun w hw=>zcF sp Y L c (cD (Y.inn i) k).fr.toNat _ a6 a6 w (h.kept hw))) ?_;rintro _ _ ⟨rfl,rfl⟩);refine gh ?_;refine d5 ?_;refine eu ?_;refine dd rfl rfl rfl (fun h3=>?_) (fun h3=>?_)
     ·have p3:=h3; (try simp only [cN] at p3);refine q1I ?_;refine q0O ?_;refine q1I ?_;refine q3q ?_;refine cO ?_;refine T.cond rfl (fun h4=>?_) (fun h4=>?_)
      ·have p4:=h4; (try simp only [cN] at p4);have hld:=ze6 (f:=gp L ((Y.inn i).take k)) (d:=only L (cD (Y.inn i) k).fr.toNat) (p:=0+only L (cD (Y.inn i) k).fr.toNat*1) a6 a6;have hbd:=zlP (L:=L) hlen hwt k (only L (cD (Y.inn i) k).fr.toNat);refine dx (sN 0 2 (sN 3 2 (.eff 2 (sN 5 2 (.eff 7 .done))))) (List.eraseIdx _ 1) a8 (List.eraseIdx_sublist _ _) ?_;refine eG ?_;refine cJ rfl (dU rfl rfl rfl rfl a6) ?_;refine lO ?_;refine d8 rfl (Wt.none) rfl rfl (cT 1 rfl rfl rfl hld) Sx ?_;refine cJ rfl (kz rfl rfl rfl a6) ?_;refine cJ rfl (dU rfl rfl rfl rfl a6) ?_;refine dn ?_; (refine dr rfl (Wt.none) rfl (gH 1 (kO (gp L ((Y.inn i).take (k+1)))) rfl rfl rfl rfl (by rw [zhS];omega) (zhG (d:=only L (cD (Y.inn i) k).fr.toNat) a6 a6 (by rw [zea a6,i3,if_pos ⟨by omega,by omega,rfl⟩]) (fun e he=>by rw [zea a6,i3,if_neg (fun hh=>he hh.2.2.symm)]))) ?_;rintro _ _ ⟨rfl,rfl⟩;refine ⟨Sx,?_⟩);refine q1X ?_;exact K.next (k+1) a6 a6 (by repeat (first|exact Sub.nil|refine Sub.cons rfl ?_)) Sx
      ·have p4:=h4; (try simp only [cN] at p4);refine gG ?_;exact K.next (k+1) a6 a6 (by repeat (first|exact Sub.nil|refine Sub.cons rfl ?_)) (by rw [zea a6,show i3 L (gp L ((Y.inn i).take k)) (cD (Y.inn i) k)=gp L ((Y.inn i).take k) from funext fun d=>by unfold i3;exact if_neg (fun hh=>absurd hh.2.1 a6)];exact Sx)
     ·have p3:=h3; (try simp only [cN] at p3);refine q2W ?_;refine lM ?_;refine gG ?_;exact K.next (k+1) a6 a6 (by repeat (first|exact Sub.nil|refine Sub.cons rfl ?_)) (by rw [zea a6,show i3 L (gp L ((Y.inn i).take k)) (cD (Y.inn i) k)=gp L ((Y.inn i).take k) from funext fun d=>by unfold i3;exact if_neg (fun hh=>absurd hh.1 a6)];exact Sx)
    ·have p2:=h2; (try simp only [cN] at p2);refine ft ?_;exact K.at (by repeat (first|exact Sub.nil|refine Sub.cons rfl ?_)) (by rw [show (Y.inn i).take k=Y.inn i from List.take_of_length_le a6];exact Sx)
  ·skip;refine q26 ?_;refine iM ?_;refine T.loop (ι:=Nat) (fun k=>[(0, .pointer (some ⟨sp,0,none⟩)),(1, .int .i64 (i:Int)),(5, .pointer (some ⟨g5,0,none⟩)),(9,U (((Y.cs i).take k).foldl (zdT (gp L (Y.inn i))) 0#64)),(71, .slice BC (Y.cs i).length cpC),(72, .int .i64 ((Y.cs i).length:Int)),(73, .int .i64 (k:Int))]) (fun k=>[.row g5 190 (kO (gp L (Y.inn i)))]) (fun k=>k≤(Y.cs i).length) (fun k=>(Y.cs i).length - k) 0 ?_ ?_ ?_ ?_
   ·omega
   ·exact (by repeat (first|exact Sub.nil|refine Sub.cons rfl ?_))
   ·exact Sx
   ·intro k hphi;refine eN ?_;refine T.cond rfl (fun h5=>?_) (fun h5=>?_)
    ·have p5:=h5; (try simp only [cN] at p5);obtain ⟨g,off,rfl,hc⟩:=hslC a6;have hk:=hc k a6;simp only [Cp.cells] at hk;have hr:=hrngC _ (gR (xs:=Y.cs i) (k:=k) a6);refine T.skip (K.seq ?_);refine T.cut (gs:=[(0, .pointer (some ⟨sp,0,none⟩)),(1, .int .i64 (i:Int)),(5, .pointer (some ⟨g5,0,none⟩)),(9,U (((Y.cs i).take (k+1)).foldl (zdT (gp L (Y.inn i))) 0#64)),(71, .slice (some ⟨g,off,none⟩) (Y.cs i).length cpC),(72, .int .i64 ((Y.cs i).length:Int)),(73, .int .i64 (k:Int))]) (hs':=[.row g5 190 (kO (gp L (Y.inn i)))]) ?_ ?_
     ·skip;refine T.block (c7 ?_);refine ku ?_; (refine cH (Wt.none) rfl rfl (Ew.alloc) ?_;rintro _ _ ⟨g11,rfl,rfl⟩); (refine dw (Wt.none) rfl (du 0) ?_;rintro _ _ ⟨rfl,rfl⟩);refine dp ?_;refine d5 ?_;refine c6 ?_;refine cO (T.block ?_);refine T.loop (ι:=Nat) (fun j=>[(0, .pointer (some ⟨sp,0,none⟩)),(1, .int .i64 (i:Int)),(5, .pointer (some ⟨g5,0,none⟩)),(9,U ((List.range' (cD (Y.cs i) k).lo.toNat j).foldl (zhb (gp L (Y.inn i)) (cD (Y.cs i) k).mx) (((Y.cs i).take k).foldl (zdT (gp L (Y.inn i))) 0#64))),(11, .pointer (some ⟨g11,0,none⟩)),(12, .int .i64 ((cD (Y.cs i) k).lo+(j:Int))),(71, .slice (some ⟨g,off,none⟩) (Y.cs i).length cpC),(72, .int .i64 ((Y.cs i).length:Int)),(73, .int .i64 (k:Int))]) (fun j=>[.row g11 73 [.int .i64 (cD (Y.cs i) k).st, .int .i64 (cD (Y.cs i) k).mx, .int .i64 (cD (Y.cs i) k).lo, .int .i64 (cD (Y.cs i) k).hi], .row g5 190 (kO (gp L (Y.inn i)))]) (fun j=>(cD (Y.cs i) k).lo+(j:Int)≤(cD (Y.cs i) k).hi+1) (fun j=>((cD (Y.cs i) k).hi+1 - (cD (Y.cs i) k).lo).toNat - j) 0 ?_ ?_ ?_ ?_
      ·omega
      ·exact (by repeat (first|exact Sub.nil|refine Sub.cons rfl ?_|(refine dI rfl a6 ?_)))
      ·exact Sx
      ·intro j hphi;refine gj ?_;refine kb ?_;refine dF ?_;refine T.cond rfl (fun h6=>?_) (fun h6=>?_)
       ·have p6:=h6; (try simp only [cN] at p6);have hld:=ze6 (f:=gp L (Y.inn i)) (d:=(cD (Y.cs i) k).lo.toNat+j) (p:=0+((cD (Y.cs i) k).lo.toNat+j) *1) a6 a6;refine kZ ?_;refine dx (sN 0 5 (.still 5 .done)) _ a8 (List.Sublist.refl _) ?_;refine eG ?_;refine cJ rfl (dU rfl rfl rfl (show (_:Int)=(((cD (Y.cs i) k).lo.toNat+j:Nat):Int) from by omega) a6) ?_;refine cJ rfl (cT 1 rfl rfl rfl hld) ?_;refine eM ?_;refine j4 ?_;refine T.cond rfl (fun h7=>?_) (fun h7=>?_)
        ·have p7:=h7; (try simp only [cN] at p7);refine im ?_;refine cF (gr (a:=1#64) ((cD (Y.cs i) k).lo.toNat+j) rfl rfl rfl a6 a6) ?_;refine cF (iI) ?_;refine c6 ?_;refine TL.nil (et (K.seq (T.region ?_)));refine c6 ?_;refine jA ?_;exact K.next (j+1) a6 a6 (by rw [List.range'_1_concat,List.foldl_append];simp only [List.foldl_cons,List.foldl_nil];rw [zhb,if_pos a6];repeat (first|exact Sub.nil|refine Sub.cons rfl ?_|(refine dI rfl a6 ?_))) Sx
        ·have p7:=h7; (try simp only [cN] at p7);refine iJ ?_;exact K.next (j+1) a6 a6 (by rw [List.range'_1_concat,List.foldl_append];simp only [List.foldl_cons,List.foldl_nil];rw [zhb,if_neg a6];repeat (first|exact Sub.nil|refine Sub.cons rfl ?_|(refine dI rfl a6 ?_))) Sx
       ·have p6:=h6; (try simp only [cN] at p6);refine T.exit (dP (dP (eU (et ?_))));exact K.at (by rw [iE _ _ a6,zdT,show (cD (Y.cs i) k).hi.toNat+1 - (cD (Y.cs i) k).lo.toNat=j by omega];exact (by repeat (first|exact Sub.nil|refine Sub.cons rfl ?_))) Sx
     ·skip;refine fo ?_;refine jA ?_;exact K.next (k+1) a6 a6 (by repeat (first|exact Sub.nil|refine Sub.cons rfl ?_)) Sx
    ·have p5:=h5; (try simp only [cN] at p5);refine ld ?_;refine iX ?_;exact cQ rfl rfl (fun w' hw=>⟨by rw [jP,List.take_of_length_le a6],hw.isBelow⟩)
theorem zd6 {L:Ws}{i d:Nat}{l:List Ld}{k:Nat}(h:k<l.length):i5 L i d (l.take (k+1))=je L i d (i5 L i d (l.take k)) (cD l k):=iE _ _ h
theorem zhU (sp:Nat)(Y:Tb)(L:Ws)(c:Bool)(i:Nat)(z:Int)(hz:z=(i:Int))(hi:i<Y.n)(w:World)(h:StateAt w sp Y L c)(hok:Y.Ok):Calls Tryz.prog 114 #[.pointer (some ⟨sp,0,none⟩), .int .i64 z] w fun e w'=>e= .returned (U (kG Y L i))∧Below w.heap.size w w':=by
 subst hz;obtain ⟨tp,hsp0,hT⟩:=h.tb;obtain ⟨vL,hsp1,hL⟩:=h.left;obtain ⟨AL,capL,rfl,hLs⟩:=hL.op;have hLn:=h.len;obtain ⟨vO,hO0,hO⟩:=hT.out.at';obtain ⟨AO,capO,rfl,hOs⟩:=hO.op;have hOn:=hT.out.len;obtain ⟨gO,oO,rfl,hOc⟩:=hOs a6;rw [hOn] at hO0;have hOi:=hOc i (by rw [hOn];exact hi);obtain ⟨BO,cpO,hvO,hslO⟩:=(hT.out.each i hi).op;simp only [hvO] at hOi;obtain ⟨vI,hI0,hI⟩:=hT.inn.at';obtain ⟨AI,capI,rfl,hIs⟩:=hI.op;have hIn:=hT.inn.len;obtain ⟨gI,oI,rfl,hIc⟩:=hIs a6;rw [hIn] at hI0;obtain ⟨vC,hC0,hC⟩:=hT.cs.at';obtain ⟨AC,capC,rfl,hCs⟩:=hC.op;have hCn:=hT.cs.len;obtain ⟨gC,oC,rfl,hCc⟩:=hCs a6;rw [hCn] at hC0;obtain ⟨hlen,hrng⟩:=hok.out i hi;have hn512:=hok.n;refine dt (M:=fun _=>False) (hs:=[]) Tryz.func114 rfl rfl rfl (Hp.refl _ _) ?_;refine jo ?_;refine jx ?_;refine dS ?_;refine q1J ?_;refine cF (dv rfl rfl hO0 (fun h=>h)) ?_;refine kj ?_;refine cF (dL (j:=0) rfl rfl hOi rfl rfl (fun h=>h)) ?_;refine iM ?_;refine T.loop (ι:=Nat) (fun k=>[(0, .pointer (some ⟨sp,0,none⟩)),(1, .int .i64 (i:Int)),(23, .slice BO (Y.out i).length cpO),(24, .int .i64 ((Y.out i).length:Int)),(25, .int .i64 (k:Int)),(5,U (((Y.out i).take k).foldl (j0 Y L i) 0#64))]) (fun k=>[]) (fun k=>k≤(Y.out i).length) (fun k=>(Y.out i).length - k) 0 ?_ ?_ ?_ ?_
 ·omega
 ·exact (by repeat (first|exact Sub.nil|refine Sub.cons rfl ?_))
 ·exact Sx
 ·intro k hphi;refine eN ?_;refine T.cond rfl (fun h1=>?_) (fun h1=>?_)
  ·have p1:=h1; (try simp only [cN] at p1);obtain ⟨g,off,rfl,hc⟩:=hslO a6;have hk:=hc k a6;simp only [Ld.cells] at hk;have hr:=hrng _ (gR (xs:=Y.out i) (k:=k) a6);have oa:=zgs L (cD (Y.out i) k).to.toNat; (have htn:(cD (Y.out i) k).to.toNat<Y.n:=by omega);obtain ⟨hlenI,hrngI⟩:=hok.inn _ htn;obtain ⟨hlenC,hrngC⟩:=hok.cs _ htn; (have hwt:∀x∈Y.inn (cD (Y.out i) k).to.toNat,1≤x.wt∧x.wt≤1073741824:=fun x hx=>by have:=hrngI x hx;omega);have hIi:=hIc (cD (Y.out i) k).to.toNat (by rw [hIn];exact htn);obtain ⟨BI,cpI,hvI,hslI⟩:=(hT.inn.each (cD (Y.out i) k).to.toNat htn).op;simp only [hvI] at hIi;have hCi:=hCc (cD (Y.out i) k).to.toNat (by rw [hCn];exact htn);obtain ⟨BC,cpC,hvC,hslC⟩:=(hT.cs.each (cD (Y.out i) k).to.toNat htn).op;simp only [hvC] at hCi;refine T.skip (K.seq ?_);refine T.cut (gs:=[(0, .pointer (some ⟨sp,0,none⟩)),(1, .int .i64 (i:Int)),(23, .slice (some ⟨g,off,none⟩) (Y.out i).length cpO),(24, .int .i64 ((Y.out i).length:Int)),(25, .int .i64 (k:Int)),(5,U (((Y.out i).take (k+1)).foldl (j0 Y L i) 0#64))]) (hs':=[]) ?_ ?_
   ·skip;refine T.block (c7 ?_);refine ku ?_; (refine cH (Wt.none) rfl rfl (Ew.alloc) ?_;rintro _ _ ⟨g7,rfl,rfl⟩); (refine dw (Wt.none) rfl (du 0) ?_;rintro _ _ ⟨rfl,rfl⟩);refine dp ?_;refine kb ?_; (refine cH (Wt.none) rfl rfl (cI rfl rfl rfl (fun w hw=>zcF sp Y L c ((cD (Y.out i) k).to.toNat) _ a6 a6 w (h.kept hw))) ?_;rintro _ _ ⟨rfl,rfl⟩);refine jx ?_;refine kb ?_;refine dS ?_;refine dd rfl rfl rfl (fun h2=>?_) (fun h2=>?_)
    ·have p2:=h2; (try simp only [cN] at p2);refine q0i ?_;refine TL.off (Wt.not rfl rfl rfl h2) rfl rfl ?_;refine q2z ?_;refine TL.run 7 rfl ?_;refine li ?_;refine T.exit (dP (eU ?_)); (refine K.at ?_ Sx;rw [iE _ _ a6,j0,if_pos (.inl a6)];exact (by repeat (first|exact Sub.nil|refine Sub.cons rfl ?_)))
    ·have p2:=h2; (try simp only [cN] at p2);refine lh ?_;refine lQ ?_;refine lh ?_;refine q3R ?_;refine c6 ?_;refine dd rfl rfl rfl (fun h3=>?_) (fun h3=>?_)
     ·have p3:=h3; (try simp only [cN] at p3);refine q0o ?_;refine TL.off (Wt.not rfl rfl rfl h3) rfl rfl ?_;refine TL.off (Wt.not rfl rfl rfl h3) rfl rfl ?_;refine q3q ?_;refine li ?_;refine T.exit (dP (eU ?_)); (refine K.at ?_ Sx;rw [iE _ _ a6,j0,if_pos (.inl a6)];exact (by repeat (first|exact Sub.nil|refine Sub.cons rfl ?_)))
     ·have p3:=h3; (try simp only [cN] at p3);refine q1I ?_;refine q1I ?_;refine cS (Wt.some rfl rfl rfl h3) rfl rfl (fH (only L (cD (Y.out i) k).to.toNat) rfl rfl rfl rfl a6) ?_;refine cS (Wt.some rfl rfl rfl h3) rfl rfl (fx (b:=1#64)) ?_;refine q1I ?_;refine cF (dW rfl rfl h3) ?_;refine cO ?_;refine T.cond rfl (fun h4=>?_) (fun h4=>?_)
      ·have p4:=h4; (try simp only [cN] at p4); (have hbit:((((Y.out i).take k).foldl (j0 Y L i) 0#64)).getLsbD (only L (cD (Y.out i) k).to.toNat)=true:=by rw [←zg0];exact decide_eq_true b8);refine T.exit (dP (eU ?_)); (have hb:=hbit;refine K.at ?_ Sx;rw [iE _ _ a6,j0,if_pos (.inr hb)];exact (by repeat (first|exact Sub.nil|refine Sub.cons rfl ?_)))
      ·have p4:=h4; (try simp only [cN] at p4); (have hno:¬(((only L (cD (Y.out i) k).to.toNat:Int)<(cD (Y.out i) k).lo∨(cD (Y.out i) k).hi<(only L (cD (Y.out i) k).to.toNat:Int))∨((((Y.out i).take k).foldl (j0 Y L i) 0#64)).getLsbD (only L (cD (Y.out i) k).to.toNat)=true):=by rintro ((hh|hh)|hh);omega;omega;rw [←zg0] at hh;exact absurd (of_decide_eq_true hh) b8);refine ig ?_;refine dF ?_;refine T.cut (gs:=[(0, .pointer (some ⟨sp,0,none⟩)),(1, .int .i64 (i:Int)),(23, .slice (some ⟨g,off,none⟩) (Y.out i).length cpO),(24, .int .i64 ((Y.out i).length:Int)),(25, .int .i64 (k:Int)),(7, .pointer (some ⟨g7,0,none⟩)),(8, .int .i64 (only L (cD (Y.out i) k).to.toNat:Int)),(5,U (((Y.out i).take k).foldl (j0 Y L i) 0#64)),(9, .int .i64 (i5 L i (only L (cD (Y.out i) k).to.toNat) (Y.inn (cD (Y.out i) k).to.toNat)))]) (hs':=[.row g7 71 [.int .i64 (cD (Y.out i) k).to, .int .i64 (cD (Y.out i) k).fr, .int .i64 (cD (Y.out i) k).wt, .int .i64 (cD (Y.out i) k).lo, .int .i64 (cD (Y.out i) k).hi]]) ?_ ?_
       ·skip;refine T.seq ?_;refine q06 ?_;refine ip ?_;refine cJ rfl (dv rfl rfl hsp0 (fun h=>h)) ?_;refine j3 ?_;refine cJ rfl (dv rfl rfl hI0 (fun h=>h)) ?_;refine q2j ?_;refine cJ rfl (dL (j:=0) rfl rfl hIi rfl rfl (fun h=>h)) ?_;refine q3P ?_;refine T.loop (ι:=Nat) (fun j=>[(0, .pointer (some ⟨sp,0,none⟩)),(1, .int .i64 (i:Int)),(23, .slice (some ⟨g,off,none⟩) (Y.out i).length cpO),(24, .int .i64 ((Y.out i).length:Int)),(25, .int .i64 (k:Int)),(7, .pointer (some ⟨g7,0,none⟩)),(8, .int .i64 (only L (cD (Y.out i) k).to.toNat:Int)),(5,U (((Y.out i).take k).foldl (j0 Y L i) 0#64)),(9, .int .i64 (i5 L i (only L (cD (Y.out i) k).to.toNat) ((Y.inn (cD (Y.out i) k).to.toNat).take j))),(60, .slice BI (Y.inn (cD (Y.out i) k).to.toNat).length cpI),(61, .int .i64 ((Y.inn (cD (Y.out i) k).to.toNat).length:Int)),(62, .int .i64 (j:Int))]) (fun j=>[.row g7 71 [.int .i64 (cD (Y.out i) k).to, .int .i64 (cD (Y.out i) k).fr, .int .i64 (cD (Y.out i) k).wt, .int .i64 (cD (Y.out i) k).lo, .int .i64 (cD (Y.out i) k).hi]]) (fun j=>j≤(Y.inn (cD (Y.out i) k).to.toNat).length) (fun j=>(Y.inn (cD (Y.out i) k).to.toNat).length - j) 0 ?_ ?_ ?_ ?_
        ·omega
        ·exact (by repeat (first|exact Sub.nil|refine Sub.cons rfl ?_))
        ·exact Sx
        ·intro j hphi;refine eN ?_;refine T.cond rfl (fun h5=>?_) (fun h5=>?_)
         ·have p5:=h5; (try simp only [cN] at p5);obtain ⟨gi,offi,rfl,hci⟩:=hslI a6;have hj:=hci j a6;simp only [Ld.cells] at hj;have hri:=hrngI _ (gR (xs:=Y.inn (cD (Y.out i) k).to.toNat) (k:=j) a6);have hbd:=zlX (L:=L) (i:=i) (d:=only L (cD (Y.out i) k).to.toNat) hlenI hwt j;refine fq ?_;refine q0u ?_;refine cF (gm rfl rfl hj rfl (fun h=>h)) ?_; (refine cH (Wt.none) rfl rfl (Ew.alloc) ?_;rintro _ _ ⟨g11,rfl,rfl⟩); (refine dw (Wt.none) rfl (du 0) ?_;rintro _ _ ⟨rfl,rfl⟩);refine dp ?_;refine d5 ?_;refine eu ?_;refine dd rfl rfl rfl (fun h6=>?_) (fun h6=>?_)
          ·have p6:=h6; (try simp only [cN] at p6);refine q12 ?_;refine c6 ?_;refine dd rfl rfl rfl (fun h7=>?_) (fun h7=>?_)
           ·have p7:=h7; (try simp only [cN] at p7);refine q3F ?_;refine cS (Wt.some rfl rfl rfl h7) rfl rfl (dO) ?_;refine cS (Wt.some rfl rfl rfl h7) rfl rfl (dO) ?_;refine cS (Wt.some rfl rfl rfl h7) rfl rfl (dO) ?_;refine dd rfl rfl rfl (fun h8=>?_) (fun h8=>?_)
            ·have p8:=h8; (try simp only [cN] at p8);refine q1d ?_;refine q1d ?_;refine cS (Wt.some rfl rfl rfl h7) rfl rfl (ec rfl rfl h8) ?_;refine cF (ec rfl rfl h7) ?_;refine li ?_;refine iK ?_;refine d5 ?_;refine q0f ?_;refine c6 ?_;refine kR ?_;exact K.next (j+1) a6 a6 (by rw [zd6 a6,je];split <;> first|(exfalso;omega)|exact (by repeat (first|exact Sub.nil|refine Sub.cons rfl ?_))) Sx
            ·have p8:=h8; (try simp only [cN] at p8);refine cS (Wt.some rfl rfl rfl h8) rfl rfl (dO) ?_;refine q3G ?_; (refine cH (Wt.some rfl rfl rfl h8) rfl rfl (cI rfl rfl rfl (fun w hw=>zcF sp Y L c (cD (Y.inn (cD (Y.out i) k).to.toNat) j).fr.toNat _ a6 a6 w (h.kept hw))) ?_;rintro _ _ ⟨rfl,rfl⟩);refine cS (Wt.some rfl rfl rfl h8) rfl rfl (dO) ?_;refine cS (Wt.some rfl rfl rfl h8) rfl rfl (dO) ?_;refine cS (Wt.some rfl rfl rfl h7) rfl rfl (dW rfl rfl h8) ?_;refine cF (ec rfl rfl h7) ?_;refine cO ?_;refine T.cond rfl (fun h9=>?_) (fun h9=>?_)
             ·have p9:=h9; (try simp only [cN] at p9);refine iK ?_;refine d5 ?_;refine q0f ?_;refine c6 ?_;refine kR ?_;exact K.next (j+1) a6 a6 (by rw [zd6 a6,je];split <;> first|(exfalso;omega)|exact (by repeat (first|exact Sub.nil|refine Sub.cons rfl ?_))) Sx
             ·have p9:=h9; (try simp only [cN] at p9);refine gG ?_;exact K.next (j+1) a6 a6 (by rw [zd6 a6,je];split <;> first|(exfalso;omega)|exact (by repeat (first|exact Sub.nil|refine Sub.cons rfl ?_))) Sx
           ·have p7:=h7; (try simp only [cN] at p7);refine q1u ?_;refine q1u ?_;refine TL.off (Wt.not rfl rfl rfl h7) rfl rfl ?_;refine q0J ?_;refine q0J ?_;refine TL.off (Wt.not rfl rfl rfl h7) rfl rfl ?_;refine cF (dW rfl rfl h7) ?_;refine lM ?_;refine gG ?_;exact K.next (j+1) a6 a6 (by rw [zd6 a6,je];split <;> first|(exfalso;omega)|exact (by repeat (first|exact Sub.nil|refine Sub.cons rfl ?_))) Sx
          ·have p6:=h6; (try simp only [cN] at p6);refine q0X ?_;refine q0X ?_;refine cF (dW rfl rfl h6) ?_;refine TL.run 6 rfl ?_;refine q0J ?_;refine q0J ?_;refine ic ?_;refine gk rfl rfl ?_;refine gG ?_;exact K.next (j+1) a6 a6 (by rw [zd6 a6,je];split <;> first|(exfalso;omega)|exact (by repeat (first|exact Sub.nil|refine Sub.cons rfl ?_))) Sx
         ·have p5:=h5; (try simp only [cN] at p5);refine ft ?_;exact K.at (by rw [show (Y.inn (cD (Y.out i) k).to.toNat).take j=Y.inn (cD (Y.out i) k).to.toNat from List.take_of_length_le a6] at *;exact (by repeat (first|exact Sub.nil|refine Sub.cons rfl ?_))) Sx
       ·skip;refine T.seq ?_;refine q06 ?_;refine ip ?_;refine cJ rfl (dv rfl rfl hsp0 (fun h=>h)) ?_;refine j3 ?_;refine cJ rfl (dv rfl rfl hC0 (fun h=>h)) ?_;refine q2j ?_;refine cJ rfl (dL (j:=0) rfl rfl hCi rfl rfl (fun h=>h)) ?_;refine q3P ?_;refine T.loop (ι:=Nat) (fun j=>[(0, .pointer (some ⟨sp,0,none⟩)),(1, .int .i64 (i:Int)),(23, .slice (some ⟨g,off,none⟩) (Y.out i).length cpO),(24, .int .i64 ((Y.out i).length:Int)),(25, .int .i64 (k:Int)),(7, .pointer (some ⟨g7,0,none⟩)),(8, .int .i64 (only L (cD (Y.out i) k).to.toNat:Int)),(9, .int .i64 (i5 L i (only L (cD (Y.out i) k).to.toNat) (Y.inn (cD (Y.out i) k).to.toNat))),(5,U (((Y.cs (cD (Y.out i) k).to.toNat).take j).foldl (zdo (i5 L i (only L (cD (Y.out i) k).to.toNat) (Y.inn (cD (Y.out i) k).to.toNat)) (only L (cD (Y.out i) k).to.toNat)) (((Y.out i).take k).foldl (j0 Y L i) 0#64))),(105, .slice BC (Y.cs (cD (Y.out i) k).to.toNat).length cpC),(106, .int .i64 ((Y.cs (cD (Y.out i) k).to.toNat).length:Int)),(107, .int .i64 (j:Int))]) (fun j=>[.row g7 71 [.int .i64 (cD (Y.out i) k).to, .int .i64 (cD (Y.out i) k).fr, .int .i64 (cD (Y.out i) k).wt, .int .i64 (cD (Y.out i) k).lo, .int .i64 (cD (Y.out i) k).hi]]) (fun j=>j≤(Y.cs (cD (Y.out i) k).to.toNat).length) (fun j=>(Y.cs (cD (Y.out i) k).to.toNat).length - j) 0 ?_ ?_ ?_ ?_
        ·omega
        ·exact (by repeat (first|exact Sub.nil|refine Sub.cons rfl ?_))
        ·exact Sx
        ·intro j hphi;refine eN ?_;refine T.cond rfl (fun h10=>?_) (fun h10=>?_)
         ·have p10:=h10; (try simp only [cN] at p10);obtain ⟨gc,offc,rfl,hcc⟩:=hslC a6;have hj:=hcc j a6;simp only [Cp.cells] at hj;refine fq ?_;refine q0u ?_;refine cF (gm rfl rfl hj rfl (fun h=>h)) ?_; (refine cH (Wt.none) rfl rfl (Ew.alloc) ?_;rintro _ _ ⟨g13,rfl,rfl⟩); (refine dw (Wt.none) rfl (du 0) ?_;rintro _ _ ⟨rfl,rfl⟩);refine dp ?_;refine d5 ?_;refine eu ?_;refine dd rfl rfl rfl (fun h11=>?_) (fun h11=>?_)
          ·have p11:=h11; (try simp only [cN] at p11);refine cS (Wt.some rfl rfl rfl h11) rfl rfl (dO) ?_;refine cS (Wt.some rfl rfl rfl h11) rfl rfl (Yv.fieldAddr) ?_;refine cS (Wt.some rfl rfl rfl h11) rfl rfl (cT 0) ?_;refine cS (Wt.some rfl rfl rfl h11) rfl rfl (dO) ?_;refine cF (ec rfl rfl h11) ?_;refine c6 ?_;refine dd rfl rfl rfl (fun h12=>?_) (fun h12=>?_)
           ·have p12:=h12; (try simp only [cN] at p12);refine cS (Wt.some rfl rfl rfl h12) rfl rfl (dO) ?_;refine cS (Wt.some rfl rfl rfl h12) rfl rfl (Yv.fieldAddr) ?_;refine cS (Wt.some rfl rfl rfl h12) rfl rfl (cT 0) ?_;refine cS (Wt.some rfl rfl rfl h12) rfl rfl (dO) ?_;refine cF (ec rfl rfl h12) ?_;refine cO ?_;refine T.cond rfl (fun h13=>?_) (fun h13=>?_)
            ·have p13:=h13; (try simp only [cN] at p13);refine im ?_;refine cF (gr (a:=1#64) (only L (cD (Y.out i) k).to.toNat) rfl rfl rfl rfl a6) ?_;refine q3l ?_;exact K.next (j+1) a6 a6 (by rw [iE _ _ a6,zdo];split <;> first|(exfalso;omega)|exact (by repeat (first|exact Sub.nil|refine Sub.cons rfl ?_))) Sx
            ·have p13:=h13; (try simp only [cN] at p13);refine gG ?_;exact K.next (j+1) a6 a6 (by rw [iE _ _ a6,zdo];split <;> first|(exfalso;omega)|exact (by repeat (first|exact Sub.nil|refine Sub.cons rfl ?_))) Sx
           ·have p12:=h12; (try simp only [cN] at p12);refine q2Z ?_;refine q2Z ?_;refine cF (dW rfl rfl h12) ?_;refine lM ?_;refine gG ?_;exact K.next (j+1) a6 a6 (by rw [iE _ _ a6,zdo];split <;> first|(exfalso;omega)|exact (by repeat (first|exact Sub.nil|refine Sub.cons rfl ?_))) Sx
          ·have p11:=h11; (try simp only [cN] at p11);refine q20 ?_;refine q20 ?_;refine cF (dW rfl rfl h11) ?_;refine TL.run 6 rfl ?_;refine lM ?_;refine gG ?_;exact K.next (j+1) a6 a6 (by rw [iE _ _ a6,zdo];split <;> first|(exfalso;omega)|exact (by repeat (first|exact Sub.nil|refine Sub.cons rfl ?_))) Sx
         ·have p10:=h10; (try simp only [cN] at p10);refine T.exit (dP (dP (eU (et ?_)))); (have hn:=hno;have e:(Y.cs (cD (Y.out i) k).to.toNat).take j=Y.cs (cD (Y.out i) k).to.toNat:=List.take_of_length_le a6;refine K.at ?_ Sx;rw [iE _ _ a6,j0,if_neg hn,e];exact (by repeat (first|exact Sub.nil|refine Sub.cons rfl ?_)))
   ·skip;refine fo ?_;refine jA ?_;exact K.next (k+1) a6 a6 (by repeat (first|exact Sub.nil|refine Sub.cons rfl ?_)) Sx
  ·have p1:=h1; (try simp only [cN] at p1);refine ld ?_;refine iX ?_;exact cQ rfl rfl (fun w' hw=>⟨by rw [kG,List.take_of_length_le a6],hw.isBelow⟩)
structure GL where
 b:Nat
 c:Nat
structure StF (w0 w:World) (sp:Nat) (gl:GL) (tp:Nat) (Y:Tb) (L:Ws) (c:Bool):Prop where
 tb:TablesAt w0 tp Y
 fr:Fz w0 w
 c0:w.cell? ⟨sp,0,none⟩=some (.pointer (some ⟨tp,0,none⟩))
 c1:w.cell? ⟨sp,1,none⟩=some (.slice (some ⟨gl.b,0,none⟩) L.length gl.c)
 lf:SlOf w (.slice (some ⟨gl.b,0,none⟩) L.length gl.c) Le 1 L
 len:L.length=Y.n
 c2:w.cell? ⟨sp,2,none⟩=some (.bool c)
 tab:Tab w
theorem StF.st {w0 w:World}{sp:Nat}{gl:GL}{tp:Nat}{Y:Tb}{L:Ws}{c:Bool}(h:StF w0 w sp gl tp Y L c):StateAt w sp Y L c:=
 ⟨h.tab,⟨tp,h.c0,h.tb.later h.fr⟩,⟨_,h.c1,h.lf⟩,h.len,h.c2⟩
theorem StF.kept {w0 w w':World}{M:Nat→Prop}{hs:HS}{sp:Nat}{gl:GL}{tp:Nat}{Y:Tb}{L:Ws}{c:Bool}(h:StF w0 w sp gl tp Y L c)(hw:Hp w M hs w')(h0:∀g,M g→¬iQ w0 g)(h1:¬M sp)(h2:¬M gl.b)(h3:¬M 0):StF w0 w' sp gl tp Y L c:=
 ⟨h.tb,Fz.hp h.fr hw h0,hw.cellB h.c0 h1,hw.cellB h.c1 h1,h.lf.keptM hw (fun g hg=>by simp [Value.ownBlock] at hg;subst hg;exact h2),h.len,hw.cellB h.c2 h1,h.tab.kept hw h3⟩
def jn (Y:Tb)(L:Ws)(i:Nat)(ws:Ws):Ws:=
 if (only L i:Int)=0 then ws else
  (Y.out i).foldl (fun s x=>if (only L x.to.toNat:Int)=0 then dJ s x.to.toNat else (Y.inn x.to.toNat).foldl (fun s o=>dJ s o.fr.toNat) (dJ s x.to.toNat))
   ((Y.inn i).foldl (fun s x=>dJ s x.fr.toNat) ((Y.ps i).foldl (fun s x=>dJ s (x.a+x.b - (i:Int)).toNat) ws))
theorem ze2 {α:Type}(f:Ws→α→Ws)(hf:∀s x,(f s x).length=s.length):∀(l:List α) (s:Ws),(l.foldl f s).length=s.length
 | [],_=>rfl
 |x :: r,s=>by rw [List.foldl_cons,ze2 f hf r,hf]
theorem zcD (l:List Ld)(s:Ws):(l.foldl (fun s x=>dJ s x.fr.toNat) s).length=s.length:=ze2 _ (fun _ _=>kd) l s
theorem zcy (i:Int)(l:List Pr)(s:Ws):(l.foldl (fun s x=>dJ s (x.a+x.b - (i:Int)).toNat) s).length=s.length:=ze2 _ (fun _ _=>kd) l s
def kP (Y:Tb)(L:Ws)(s:Ws)(x:Ld):Ws:=if (only L x.to.toNat:Int)=0 then dJ s x.to.toNat else (Y.inn x.to.toNat).foldl (fun s o=>dJ s o.fr.toNat) (dJ s x.to.toNat)
theorem zfw {Y:Tb}{L s:Ws}{x:Ld}:(kP Y L s x).length=s.length:=by
 unfold kP;split
 ·exact kd
 ·rw [zcD,kd]
theorem zeo (Y:Tb)(L:Ws)(l:List Ld)(s:Ws):(l.foldl (kP Y L) s).length=s.length:=ze2 _ (fun _ _=>zfw) l s
theorem zeH (Y:Tb)(L:Ws)(i:Nat)(ws:Ws):(jn Y L i ws).length=ws.length:=by
 unfold jn;split
 ·rfl
 ·exact (zeo Y L _ _).trans ((zcD _ _).trans (zcy _ _ _))
theorem zd8 (ws:Ws)(hws:ws.length=8)(j:Nat)(hj:j<512)(z:Int)(hz:z=(j:Int))(p q:Nat)(w:World)(hq:w.cell? ⟨q,0,none⟩=some (.pointer (some ⟨p,0,none⟩)))(hqp:q≠p)(hp:(Ent.row p 101 ws.cells).ok w):Calls Tryz.prog 135 #[.int .i64 z, .pointer (some ⟨q,0,none⟩)] w fun e w'=>∃y:Unit,True∧e= .returned (.tuple #[])∧Hp w (Ent.row p 101 ws.cells).fp [.row p 101 (Ws.cells (dJ ws j))] w':=by
 subst hz;refine dt (M:=(Ent.row p 101 ws.cells).fp) (hs:=[Ent.row p 101 ws.cells]) Tryz.func135 rfl rfl rfl (Hp.start hp) ?_;refine dx (sN 0 3 (.still 4 (.eff 3 (.eff 5 (sN 6 4 (.eff 10 .done)))))) [] a8 Sx ?_;refine cJ rfl (dv rfl rfl hq (fun hh=>hqp (cK.1 hh))) ?_;refine cJ rfl (dv rfl rfl hq (fun hh=>hqp (cK.1 hh))) ?_;refine fj ?_;refine dn ?_;refine d8 rfl (Wt.none) rfl rfl (fJ 0 rfl rfl rfl (by rw [List.length_map,hws])) Sx ?_;refine dn ?_; (refine cV rfl (Wt.none) rfl rfl (cI rfl rfl rfl (fun w hw=>zlh ws hws j hj w)) ?_;rintro _ _ ⟨rfl,rfl⟩;refine ⟨Sx,?_⟩);refine TS.run 4 rfl ?_;refine dn ?_; (refine dr rfl (Wt.none) rfl (du 0 rfl rfl rfl rfl (by rw [List.length_map,kd,hws]) (by rw [List.length_map,List.length_map,kd])) ?_;rintro _ _ ⟨rfl,rfl⟩;refine ⟨Sx,?_⟩);refine fk ?_;exact kH rfl (fun w' hw=>⟨(),trivial,rfl,hw⟩)
theorem zgO (w0:World)(sp:Nat)(gl:GL)(tp p:Nat)(Y:Tb)(L:Ws)(c:Bool)(ws:Ws)(hws:ws.length=8)(i:Nat)(z:Int)(hz:z=(i:Int))(hi:i<Y.n)(w:World)(h:StF w0 w sp gl tp Y L c)(hok:Y.Ok)(hpN:¬iQ w0 p)(hp0:p≠0)(hsp:sp≠p)(hgl:gl.b≠p)(hp:(Ent.row p 101 ws.cells).ok w):Calls Tryz.prog 116 #[.pointer (some ⟨sp,0,none⟩), .int .i64 z, .pointer (some ⟨p,0,none⟩)] w fun e w'=>∃y:Unit,True∧e= .returned (.tuple #[])∧Hp w (Ent.row p 101 ws.cells).fp [.row p 101 (Ws.cells (jn Y L i ws))] w':=by
 subst hz;obtain ⟨hTb,hfr,hsp0,hsp1,hlf,hLn,hsp2,htab⟩:=id h;have hT:=hTb;have hn512:=hok.n;obtain ⟨hlenP,hrngP⟩:=hok.ps i hi;obtain ⟨hlenI,hrngI⟩:=hok.inn i hi;obtain ⟨hlenO,hrngO⟩:=hok.out i hi;obtain ⟨vP,hP0,hP⟩:=hT.ps.at';obtain ⟨AP,capP,rfl,hPs⟩:=hP.op;have hPn:=hT.ps.len;obtain ⟨gP,oP,rfl,hPc⟩:=hPs a6;rw [hPn] at hP0;have hPi:=hPc i (by rw [hPn];exact hi);obtain ⟨BP,cpP,hvP,hslP⟩:=(hT.ps.each i hi).op;simp only [hvP] at hPi;obtain ⟨vI,hI0,hI⟩:=hT.inn.at';obtain ⟨AI,capI,rfl,hIs⟩:=hI.op;have hIn:=hT.inn.len;obtain ⟨gI,oI,rfl,hIc⟩:=hIs a6;rw [hIn] at hI0;have hIi:=hIc i (by rw [hIn];exact hi);obtain ⟨BI,cpI,hvI,hslI⟩:=(hT.inn.each i hi).op;simp only [hvI] at hIi;obtain ⟨vO,hO0,hO⟩:=hT.out.at';obtain ⟨AO,capO,rfl,hOs⟩:=hO.op;have hOn:=hT.out.len;obtain ⟨gO,oO,rfl,hOc⟩:=hOs a6;rw [hOn] at hO0;have hOi:=hOc i (by rw [hOn];exact hi);obtain ⟨BO,cpO,hvO,hslO⟩:=(hT.out.each i hi).op;simp only [hvO] at hOi;have hkeep:∀hs w',Hp w (Ent.row p 101 ws.cells).fp hs w'→StateAt w' sp Y L c:=fun hs w' hw=>(h.kept hw (fun g hg=>by rw [cK.1 hg];exact hpN) (fun hg=>hsp (cK.1 hg)) (fun hg=>hgl (cK.1 hg)) (fun hg=>hp0 (cK.1 hg).symm)).st;refine dt (M:=(Ent.row p 101 ws.cells).fp) (hs:=[Ent.row p 101 ws.cells]) Tryz.func116 rfl rfl rfl (Hp.start hp) ?_;refine c7 ?_; (refine cH (Wt.none) rfl rfl (Ew.box rfl rfl) ?_;rintro _ _ ⟨g5,rfl,rfl⟩);refine gW ?_;refine dS ?_; (refine cH (Wt.none) rfl rfl (cI rfl rfl rfl (fun w hw=>zcF sp Y L c i _ rfl hi w (hkeep _ _ hw))) ?_;rintro _ _ ⟨rfl,rfl⟩);refine dF ?_;refine T.cond rfl (fun h1=>?_) (fun h1=>?_)
 ·have p1:=h1; (try simp only [cN] at p1);refine T.ret (dN ?_);exact K.ci rfl (fun w' hw=>⟨(),trivial,rfl,by rw [jn,if_pos p1];exact hw.sub Sx⟩)
 ·have p1:=h1; (try simp only [cN] at p1);refine ig ?_;refine ic ?_;refine T.cut (gs:=[(0, .pointer (some ⟨sp,0,none⟩)),(1, .int .i64 (i:Int)),(6, .func (.func 135) #[] #[.pointer (some ⟨g5,0,none⟩)])]) (hs':=[.row g5 174 [.pointer (some ⟨p,0,none⟩)], .row p 101 (Ws.cells ((Y.ps i).foldl (fun s x=>dJ s (x.a+x.b - (i:Int)).toNat) ws))]) ?_ ?_
  ·skip;refine q2A ?_;refine cF (dv rfl rfl (hfr.cell hP0) (fun hh=>hpN (by have:=zdD hP0;rw [←cK.1 hh];exact this))) ?_;refine kj ?_;refine cF (dL (j:=0) rfl rfl (Fz.cs hfr hPi) rfl rfl (fun hh=>hpN (by have:=gV hPi b2;rw [←cK.1 hh];exact this))) ?_;refine iM ?_;refine T.loop (ι:=Nat) (fun k=>[(0, .pointer (some ⟨sp,0,none⟩)),(1, .int .i64 (i:Int)),(6, .func (.func 135) #[] #[.pointer (some ⟨g5,0,none⟩)]),(29, .slice BP (Y.ps i).length cpP),(30, .int .i64 ((Y.ps i).length:Int)),(31, .int .i64 (k:Int))]) (fun k=>[.row g5 174 [.pointer (some ⟨p,0,none⟩)], .row p 101 (Ws.cells (((Y.ps i).take k).foldl (fun s x=>dJ s (x.a+x.b - (i:Int)).toNat) ws))]) (fun k=>k≤(Y.ps i).length) (fun k=>(Y.ps i).length - k) 0 ?_ ?_ ?_ ?_
   ·omega
   ·exact (by repeat (first|exact Sub.nil|refine Sub.cons rfl ?_))
   ·exact Sx
   ·intro k hphi;refine eN ?_;refine T.cond rfl (fun h2=>?_) (fun h2=>?_)
    ·have p2:=h2; (try simp only [cN] at p2);obtain ⟨ghk,offhk,rfl,hc⟩:=hslP a6;have hk:=hc k a6;simp only [Pr.cells] at hk;have hrhk:=hrngP _ (gR (xs:=Y.ps i) (k:=k) a6);refine fq ?_;refine q2h ?_; (refine cH (Wt.none) rfl rfl (Ew.alloc) ?_;rintro _ _ ⟨g8,rfl,rfl⟩); (refine dw (Wt.none) rfl (du 0) ?_;rintro _ _ ⟨rfl,rfl⟩);refine cO (T.region ?_);refine kb ?_;refine d5 ?_;refine q0f ?_;refine c6 ?_;refine q3g ?_; (refine cH (Wt.none) rfl rfl (kA 2 rfl rfl rfl rfl (fun w hw=>zd8 (((Y.ps i).take k).foldl (fun s x=>dJ s (x.a+x.b - (i:Int)).toNat) ws) (by rw [zcy,hws]) ((cD (Y.ps i) k).a+(cD (Y.ps i) k).b - (i:Int)).toNat a6 _ a6 p g5 w (iT (cR.1 (hw.get (i:=1) rfl)) 0) (fun hh=>hw.ne (i:=1) (j:=2) a6 rfl rfl (g:=g5) (cK.2 rfl) (cK.2 hh)) (hw.get (i:=2) rfl))) ?_;rintro _ _ ⟨-, -,rfl,rfl⟩);refine kR ?_;exact K.next (k+1) a6 a6 (by repeat (first|exact Sub.nil|refine Sub.cons rfl ?_)) (by rw [iE _ _ a6];exact Sx)
    ·have p2:=h2; (try simp only [cN] at p2);refine ft ?_;exact K.at (by repeat (first|exact Sub.nil|refine Sub.cons rfl ?_)) (by rw [show (Y.ps i).take k=Y.ps i from List.take_of_length_le a6];exact Sx)
  ·skip;refine T.cut (gs:=[(0, .pointer (some ⟨sp,0,none⟩)),(1, .int .i64 (i:Int)),(6, .func (.func 135) #[] #[.pointer (some ⟨g5,0,none⟩)])]) (hs':=[.row g5 174 [.pointer (some ⟨p,0,none⟩)], .row p 101 (Ws.cells ((Y.inn i).foldl (fun s x=>dJ s x.fr.toNat) ((Y.ps i).foldl (fun s x=>dJ s (x.a+x.b - (i:Int)).toNat) ws)))]) ?_ ?_
   ·skip;refine q2A ?_;refine cF (dv rfl rfl (hfr.cell hI0) (fun hh=>hpN (by have:=zdD hI0;rw [←cK.1 hh];exact this))) ?_;refine kj ?_;refine cF (dL (j:=0) rfl rfl (Fz.cs hfr hIi) rfl rfl (fun hh=>hpN (by have:=gV hIi b2;rw [←cK.1 hh];exact this))) ?_;refine iM ?_;refine T.loop (ι:=Nat) (fun k=>[(0, .pointer (some ⟨sp,0,none⟩)),(1, .int .i64 (i:Int)),(6, .func (.func 135) #[] #[.pointer (some ⟨g5,0,none⟩)]),(54, .slice BI (Y.inn i).length cpI),(55, .int .i64 ((Y.inn i).length:Int)),(56, .int .i64 (k:Int))]) (fun k=>[.row g5 174 [.pointer (some ⟨p,0,none⟩)], .row p 101 (Ws.cells (((Y.inn i).take k).foldl (fun s x=>dJ s x.fr.toNat) ((Y.ps i).foldl (fun s x=>dJ s (x.a+x.b - (i:Int)).toNat) ws)))]) (fun k=>k≤(Y.inn i).length) (fun k=>(Y.inn i).length - k) 0 ?_ ?_ ?_ ?_
    ·omega
    ·exact (by repeat (first|exact Sub.nil|refine Sub.cons rfl ?_))
    ·exact Sx
    ·intro k hphi;refine eN ?_;refine T.cond rfl (fun h3=>?_) (fun h3=>?_)
     ·have p3:=h3; (try simp only [cN] at p3);obtain ⟨ghk,offhk,rfl,hc⟩:=hslI a6;have hk:=hc k a6;simp only [Ld.cells] at hk;have hrhk:=hrngI _ (gR (xs:=Y.inn i) (k:=k) a6);refine fq ?_;refine q2h ?_; (refine cH (Wt.none) rfl rfl (Ew.alloc) ?_;rintro _ _ ⟨g10,rfl,rfl⟩); (refine dw (Wt.none) rfl (du 0) ?_;rintro _ _ ⟨rfl,rfl⟩);refine cO (T.region ?_);refine kb ?_; (refine cH (Wt.none) rfl rfl (kA 2 rfl rfl rfl rfl (fun w hw=>zd8 (((Y.inn i).take k).foldl (fun s x=>dJ s x.fr.toNat) ((Y.ps i).foldl (fun s x=>dJ s (x.a+x.b - (i:Int)).toNat) ws)) (by rw [zcD,zcy,hws]) (cD (Y.inn i) k).fr.toNat a6 _ a6 p g5 w (iT (cR.1 (hw.get (i:=1) rfl)) 0) (fun hh=>hw.ne (i:=1) (j:=2) a6 rfl rfl (g:=g5) (cK.2 rfl) (cK.2 hh)) (hw.get (i:=2) rfl))) ?_;rintro _ _ ⟨-, -,rfl,rfl⟩);refine kR ?_;exact K.next (k+1) a6 a6 (by repeat (first|exact Sub.nil|refine Sub.cons rfl ?_)) (by rw [iE _ _ a6];exact Sx)
     ·have p3:=h3; (try simp only [cN] at p3);refine ft ?_;exact K.at (by repeat (first|exact Sub.nil|refine Sub.cons rfl ?_)) (by rw [show (Y.inn i).take k=Y.inn i from List.take_of_length_le a6];exact Sx)
   ·skip;refine q2A ?_;refine cF (dv rfl rfl (hfr.cell hO0) (fun hh=>hpN (by have:=zdD hO0;rw [←cK.1 hh];exact this))) ?_;refine kj ?_;refine cF (dL (j:=0) rfl rfl (Fz.cs hfr hOi) rfl rfl (fun hh=>hpN (by have:=gV hOi b2;rw [←cK.1 hh];exact this))) ?_;refine iM ?_;refine T.loop (ι:=Nat) (fun k=>[(0, .pointer (some ⟨sp,0,none⟩)),(1, .int .i64 (i:Int)),(6, .func (.func 135) #[] #[.pointer (some ⟨g5,0,none⟩)]),(74, .slice BO (Y.out i).length cpO),(75, .int .i64 ((Y.out i).length:Int)),(76, .int .i64 (k:Int))]) (fun k=>[.row g5 174 [.pointer (some ⟨p,0,none⟩)], .row p 101 (Ws.cells (((Y.out i).take k).foldl (kP Y L) ((Y.inn i).foldl (fun s x=>dJ s x.fr.toNat) ((Y.ps i).foldl (fun s x=>dJ s (x.a+x.b - (i:Int)).toNat) ws))))]) (fun k=>k≤(Y.out i).length) (fun k=>(Y.out i).length - k) 0 ?_ ?_ ?_ ?_
    ·omega
    ·exact (by repeat (first|exact Sub.nil|refine Sub.cons rfl ?_))
    ·exact Sx
    ·intro k hphi;refine eN ?_;refine T.cond rfl (fun h4=>?_) (fun h4=>?_)
     ·have p4:=h4; (try simp only [cN] at p4);obtain ⟨ghk,offhk,rfl,hc⟩:=hslO a6;have hk:=hc k a6;simp only [Ld.cells] at hk;have hrhk:=hrngO _ (gR (xs:=Y.out i) (k:=k) a6); (have htn:(cD (Y.out i) k).to.toNat<Y.n:=by omega);obtain ⟨hlenI2,hrngI2⟩:=hok.inn _ htn;have hIi2:=hIc (cD (Y.out i) k).to.toNat (by rw [hIn];exact htn);obtain ⟨BI2,cpI2,hvI2,hslI2⟩:=(hT.inn.each (cD (Y.out i) k).to.toNat htn).op;simp only [hvI2] at hIi2;refine T.skip (K.seq ?_);refine T.cut (gs:=[(0, .pointer (some ⟨sp,0,none⟩)),(1, .int .i64 (i:Int)),(6, .func (.func 135) #[] #[.pointer (some ⟨g5,0,none⟩)]),(74, .slice (some ⟨ghk,offhk,none⟩) (Y.out i).length cpO),(75, .int .i64 ((Y.out i).length:Int)),(76, .int .i64 (k:Int))]) (hs':=[.row g5 174 [.pointer (some ⟨p,0,none⟩)], .row p 101 (Ws.cells (((Y.out i).take (k+1)).foldl (kP Y L) ((Y.inn i).foldl (fun s x=>dJ s x.fr.toNat) ((Y.ps i).foldl (fun s x=>dJ s (x.a+x.b - (i:Int)).toNat) ws))))]) ?_ ?_
      ·skip;refine T.block (c7 ?_);refine q2h ?_; (refine cH (Wt.none) rfl rfl (Ew.alloc) ?_;rintro _ _ ⟨g12,rfl,rfl⟩); (refine dw (Wt.none) rfl (du 0) ?_;rintro _ _ ⟨rfl,rfl⟩);refine dp ?_;refine kb ?_; (refine cH (Wt.none) rfl rfl (kA 2 rfl rfl rfl rfl (fun w hw=>zd8 (((Y.out i).take k).foldl (kP Y L) ((Y.inn i).foldl (fun s x=>dJ s x.fr.toNat) ((Y.ps i).foldl (fun s x=>dJ s (x.a+x.b - (i:Int)).toNat) ws))) (by rw [zeo,zcD,zcy,hws]) (cD (Y.out i) k).to.toNat a6 _ a6 p g5 w (iT (cR.1 (hw.get (i:=1) rfl)) 0) (fun hh=>hw.ne (i:=1) (j:=2) a6 rfl rfl (g:=g5) (cK.2 rfl) (cK.2 hh)) (hw.get (i:=2) rfl))) ?_;rintro _ _ ⟨-, -,rfl,rfl⟩);refine dp ?_;refine kb ?_; (refine cH (Wt.none) rfl rfl (cI rfl rfl rfl (fun w hw=>zcF sp Y L c ((cD (Y.out i) k).to.toNat) _ a6 a6 w (hkeep _ _ hw))) ?_;rintro _ _ ⟨rfl,rfl⟩);refine dF ?_;refine T.cond rfl (fun h5=>?_) (fun h5=>?_)
       ·have p5:=h5; (try simp only [cN] at p5); (have hno:¬(only L ((cD (Y.out i) k).to.toNat):Int)=0:=by assumption);refine T.seq ?_;refine q06 ?_;refine ip ?_;refine cJ rfl (dv rfl rfl hsp0 (fun hh=>hsp (cK.1 hh))) ?_;refine j3 ?_;refine cJ rfl (dv rfl rfl (hfr.cell hI0) (fun hh=>hpN (by have:=zdD hI0;rw [←cK.1 hh];exact this))) ?_;refine q2j ?_;refine cJ rfl (dL (j:=0) rfl rfl (Fz.cs hfr hIi2) rfl rfl (fun hh=>hpN (by have:=gV hIi2 b2;rw [←cK.1 hh];exact this))) ?_;refine q3P ?_;refine T.loop (ι:=Nat) (fun j=>[(0, .pointer (some ⟨sp,0,none⟩)),(1, .int .i64 (i:Int)),(6, .func (.func 135) #[] #[.pointer (some ⟨g5,0,none⟩)]),(74, .slice (some ⟨ghk,offhk,none⟩) (Y.out i).length cpO),(75, .int .i64 ((Y.out i).length:Int)),(76, .int .i64 (k:Int)),(99, .slice BI2 (Y.inn (cD (Y.out i) k).to.toNat).length cpI2),(100, .int .i64 ((Y.inn (cD (Y.out i) k).to.toNat).length:Int)),(101, .int .i64 (j:Int))]) (fun j=>[.row g5 174 [.pointer (some ⟨p,0,none⟩)], .row p 101 (Ws.cells (((Y.inn (cD (Y.out i) k).to.toNat).take j).foldl (fun s o=>dJ s o.fr.toNat) (dJ (((Y.out i).take k).foldl (kP Y L) ((Y.inn i).foldl (fun s x=>dJ s x.fr.toNat) ((Y.ps i).foldl (fun s x=>dJ s (x.a+x.b - (i:Int)).toNat) ws))) (cD (Y.out i) k).to.toNat)))]) (fun j=>j≤(Y.inn (cD (Y.out i) k).to.toNat).length) (fun j=>(Y.inn (cD (Y.out i) k).to.toNat).length - j) 0 ?_ ?_ ?_ ?_
        ·omega
        ·exact (by repeat (first|exact Sub.nil|refine Sub.cons rfl ?_))
        ·exact Sx
        ·intro j hphi;refine eN ?_;refine T.cond rfl (fun h6=>?_) (fun h6=>?_)
         ·have p6:=h6; (try simp only [cN] at p6);obtain ⟨ghj,offhj,rfl,hcj⟩:=hslI2 a6;have hj:=hcj j a6;simp only [Ld.cells] at hj;have hrhj:=hrngI2 _ (gR (xs:=Y.inn (cD (Y.out i) k).to.toNat) (k:=j) a6);refine fq ?_;refine q0u ?_;refine cF (gm rfl rfl (Fz.cs hfr hj) rfl (fun hh=>hpN (by have:=gV hj b2;rw [←cK.1 hh];exact this))) ?_; (refine cH (Wt.none) rfl rfl (Ew.alloc) ?_;rintro _ _ ⟨g14,rfl,rfl⟩); (refine dw (Wt.none) rfl (du 0) ?_;rintro _ _ ⟨rfl,rfl⟩);refine cO (T.region ?_);refine kb ?_; (refine cH (Wt.none) rfl rfl (kA 2 rfl rfl rfl rfl (fun w hw=>zd8 (((Y.inn (cD (Y.out i) k).to.toNat).take j).foldl (fun s o=>dJ s o.fr.toNat) (dJ (((Y.out i).take k).foldl (kP Y L) ((Y.inn i).foldl (fun s x=>dJ s x.fr.toNat) ((Y.ps i).foldl (fun s x=>dJ s (x.a+x.b - (i:Int)).toNat) ws))) (cD (Y.out i) k).to.toNat)) (by rw [zcD,kd,zeo,zcD,zcy,hws]) (cD (Y.inn (cD (Y.out i) k).to.toNat) j).fr.toNat a6 _ a6 p g5 w (iT (cR.1 (hw.get (i:=1) rfl)) 0) (fun hh=>hw.ne (i:=1) (j:=2) a6 rfl rfl (g:=g5) (cK.2 rfl) (cK.2 hh)) (hw.get (i:=2) rfl))) ?_;rintro _ _ ⟨-, -,rfl,rfl⟩);refine kR ?_;exact K.next (j+1) a6 a6 (by repeat (first|exact Sub.nil|refine Sub.cons rfl ?_)) (by rw [iE _ _ a6];exact Sx)
         ·have p6:=h6; (try simp only [cN] at p6);refine T.exit (dP (dP (eU (et ?_)))); (have hy:=hno;refine K.at (by repeat (first|exact Sub.nil|refine Sub.cons rfl ?_)) ?_;rw [iE _ _ a6,kP,if_neg hy,show (Y.inn (cD (Y.out i) k).to.toNat).take j=Y.inn (cD (Y.out i) k).to.toNat from List.take_of_length_le a6];exact Sx)
       ·have p5:=h5; (try simp only [cN] at p5); (have hyes:(only L ((cD (Y.out i) k).to.toNat):Int)=0:=by assumption);refine T.skip (et ?_); (have hy:=hyes;refine K.at (by repeat (first|exact Sub.nil|refine Sub.cons rfl ?_)) ?_;rw [iE _ _ a6,kP,if_pos hy];exact Sx)
      ·skip;refine fo ?_;refine jA ?_;exact K.next (k+1) a6 a6 (by repeat (first|exact Sub.nil|refine Sub.cons rfl ?_)) Sx
     ·have p4:=h4; (try simp only [cN] at p4);refine ft ?_;exact kH rfl (fun w' hw=>⟨(),trivial,rfl,by rw [jn,if_neg p1];rw [show (Y.out i).take k=Y.out i from List.take_of_length_le a6] at hw;exact hw.sub Sx⟩)
def iA (Y:Tb)(L:Ws)(i:Nat):BitVec 64:=kL Y L i ||| jP Y L i ||| kG Y L i
theorem zbk {α β:Type}{f g:β→α→β}:∀(l:List α) (z:β),(∀x∈l,∀s,f s x=g s x)→l.foldl f z=l.foldl g z
 | [],_,_=>rfl
 |x :: r,z,h=>by rw [List.foldl_cons,List.foldl_cons,h x b2 z];exact zbk r _ (fun y hy=>h y (by simp [hy]))
structure Alike (Y:Tb) (L L':Ws) (k:Nat):Prop where
 ps:∀x∈Y.ps k,(x.a=(k:Int)→only L' x.b.toNat=only L x.b.toNat)∧(x.a≠(k:Int)→only L' x.a.toNat=only L x.a.toNat)
 inn:∀x∈Y.inn k,only L' x.fr.toNat=only L x.fr.toNat
 out:∀x∈Y.out k,only L' x.to.toNat=only L x.to.toNat∧(only L x.to.toNat≠0→∀o∈Y.inn x.to.toNat,o.fr≠(k:Int)→only L' o.fr.toNat=only L o.fr.toNat)
theorem zfs {Y:Tb}{L L':Ws}{k:Nat}(h:Alike Y L L' k)(hlo:∀x∈Y.out k,2≤x.lo):iA Y L' k=iA Y L k:=by
 have e1:kL Y L' k=kL Y L k:=zbk _ _ fun x hx s=>by
  have:=h.ps x hx;unfold la;by_cases ha:x.a=(k:Int)
  ·rw [if_pos ha,if_pos ha,this.1 ha]
  ·rw [if_neg ha,if_neg ha,this.2 ha]
 have e2:jP Y L' k=jP Y L k:=by
  have:gp L' (Y.inn k)=gp L (Y.inn k):=zbk _ _ fun x hx s=>by
   funext d
   unfold i3;rw [h.inn x hx]
  unfold jP;rw [this]
 have e3:kG Y L' k=kG Y L k:=zbk _ _ fun x hx s=>by
  have ho:=h.out x hx;unfold j0;rw [ho.1];by_cases hz:only L x.to.toNat=0
  ·have:=hlo x hx;rw [if_pos (.inl (.inl (by rw [hz];show (0:Int)<_;omega))),if_pos (.inl (.inl (by rw [hz];show (0:Int)<_;omega)))]
  ·have e:i5 L' k (only L x.to.toNat) (Y.inn x.to.toNat)=i5 L k (only L x.to.toNat) (Y.inn x.to.toNat):=zbk _ _ fun o ho' s=>by
    unfold je;by_cases hk:o.fr=(k:Int)
    ·simp [hk]
    ·rw [ho.2 hz o ho' hk]
   rw [e]
 unfold iA;rw [e1,e2,e3]
theorem jX {L:Ws}{i j:Nat}{b:BitVec 64}(hi:i<L.length):cD (L.set i b) j=if j=i then b else cD L j:=by
 unfold cD;rw [List.getD_eq_getElem?_getD,List.getD_eq_getElem?_getD];by_cases h:j=i
 ·subst h;rw [List.getElem?_set_self hi,if_pos rfl];rfl
 ·rw [List.getElem?_set_ne (fun e=>h e.symm),if_neg h]
theorem zdF {L:Ws}{i j:Nat}{b:BitVec 64}(hi:i<L.length)(h:j≠i):only (L.set i b) j=only L j:=by
 unfold only;rw [jX hi,if_neg h]
theorem zfu {Y:Tb}{L:Ws}{i:Nat}{b:BitVec 64}(hok:Y.Ok)(hi:i<Y.n)(hl:L.length=Y.n):kL Y (L.set i b) i=kL Y L i∧jP Y (L.set i b) i=jP Y L i∧kG Y (L.set i b) i=kG Y L i:=by
 (have hil:i<L.length:=by omega);refine ⟨zbk _ _ fun x hx s=>?_,?_,zbk _ _ fun x hx s=>?_⟩
 ·have h1:=(hok.psS i hi x hx).1;have h2:=(hok.ps i hi).2 x hx;unfold la;by_cases ha:x.a=(i:Int)
  ·rw [if_pos ha,if_pos ha,zdF hil a6]
  ·rw [if_neg ha,if_neg ha,zdF hil a6]
 ·have:gp (L.set i b) (Y.inn i)=gp L (Y.inn i):=zbk _ _ fun x hx s=>by
   have h1:=(hok.innS i hi x hx).1;have h2:=(hok.inn i hi).2 x hx
   funext d
   unfold i3;rw [zdF hil a6]
  unfold jP;rw [this]
 ·have h1:=(hok.outS i hi x hx).1;have h2:=(hok.out i hi).2 x hx;unfold j0;rw [zdF hil a6]
  have e:i5 (L.set i b) i (only L x.to.toNat) (Y.inn x.to.toNat)=i5 L i (only L x.to.toNat) (Y.inn x.to.toNat):=zbk _ _ fun o ho s=>by
   have h3:=(hok.inn _ a6).2 o ho;unfold je;by_cases hk:o.fr=(i:Int)
   ·simp [hk]
   ·rw [zdF hil a6]
  rw [e]
def zgv (Y:Tb)(L:Ws)(i:Nat):Prop:=cD L i≠0#64∧cD L i &&& iA Y L i=0#64
theorem zih {α:Type}(f:α→Nat)(hf:∀_:α,True):∀(l:List α) (s:Ws),s.length=8→(∀x∈l,f x<512)→∀j,j<512→(d7 (l.foldl (fun s x=>dJ s (f x)) s) j=true↔d7 s j=true∨∃x∈l,f x=j)
 | [],s,_,_,j,_=>by simp
 |x :: r,s,hs,hx,j,hj=>by
  rw [List.foldl_cons,zih f hf r _ (by rw [kd,hs]) (fun y hy=>hx y (by simp [hy])) j hj,ze1 hs (hx x b2) hj];simp only [Bool.or_eq_true,decide_eq_true_eq,List.mem_cons];constructor
  ·rintro ((h|h)|⟨y,hy,h⟩)
   ·exact .inl h
   ·exact .inr ⟨x, .inl rfl,h⟩
   ·exact .inr ⟨y, .inr hy,h⟩
  ·rintro (h|⟨y,rfl|hy,h⟩)
   ·exact .inl (.inl h)
   ·exact .inl (.inr h)
   ·exact .inr ⟨y,hy,h⟩
def lA (Y:Tb)(L:Ws)(i j:Nat):Prop:=
 (∃x∈Y.ps i,(x.a+x.b - (i:Int)).toNat=j)∨(∃x∈Y.inn i,x.fr.toNat=j)∨(∃x∈Y.out i,x.to.toNat=j∨(only L x.to.toNat≠0∧∃o∈Y.inn x.to.toNat,o.fr.toNat=j))
theorem zk8 {Y : Tb} {L : Ws} : ∀ (l : List Ld) (s : Ws), s.length = 8 → (∀ x ∈ l, x.to.toNat < 512 ∧ ∀ o ∈ Y.inn x.to.toNat, o.fr.toNat < 512) → ∀ j, j < 512 →
    (d7 (l.foldl (kP Y L) s) j = true ↔ d7 s j = true ∨ ∃ x ∈ l, x.to.toNat = j ∨ (only L x.to.toNat ≠ 0 ∧ ∃ o ∈ Y.inn x.to.toNat, o.fr.toNat = j))
  | [], s, _, _, j, _ => by simp
  | x :: r, s, hs, hx, j, hj => by
    have h1 := hx x b2; rw [List.foldl_cons, zk8 r _ (by rw [zfw, hs]) (fun y hy => hx y (by simp [hy])) j hj]
    have e : d7 (kP Y L s x) j = true ↔ d7 s j = true ∨ (x.to.toNat = j ∨ (only L x.to.toNat ≠ 0 ∧ ∃ o ∈ Y.inn x.to.toNat, o.fr.toNat = j)) := by
      unfold kP; by_cases hz : (only L x.to.toNat : Int) = 0
      · rw [if_pos hz, ze1 hs h1.1 hj];simp only [Bool.or_eq_true, decide_eq_true_eq]; constructor
        · rintro (h | h)
          · exact .inl h
          · exact .inr (.inl h)
        · rintro (h | h | h)
          · exact .inl h
          · exact .inr h
          · exact absurd (show only L x.to.toNat = 0 by omega) h.1
      · rw [if_neg hz, zih (fun o : Ld => o.fr.toNat) (fun _ => trivial) _ _ (by rw [kd, hs]) h1.2 j hj, ze1 hs h1.1 hj];simp only [Bool.or_eq_true, decide_eq_true_eq]; constructor
        · rintro ((h | h) | h)
          · exact .inl h
          · exact .inr (.inl h)
          · exact .inr (.inr ⟨by omega, h⟩)
        · rintro (h | h | h)
          · exact .inl (.inl h)
          · exact .inl (.inr h)
          · exact .inr h.2
    rw [e];simp only [List.mem_cons]; constructor
    · rintro ((h | h) | ⟨y, hy, h⟩)
      · exact .inl h
      · exact .inr ⟨x, .inl rfl, h⟩
      · exact .inr ⟨y, .inr hy, h⟩
    · rintro (h | ⟨y, rfl | hy, h⟩)
      · exact .inl (.inl h)
      · exact .inl (.inr h)
      · exact .inr ⟨y, hy, h⟩
theorem zc0 {Y:Tb}{L:Ws}{i:Nat}{ws:Ws}(hok:Y.Ok)(hi:i<Y.n)(hws:ws.length=8)(j:Nat)(hj:j<512):d7 (jn Y L i ws) j=true↔d7 ws j=true∨(only L i≠0∧lA Y L i j):=by
 have hn:=hok.n;unfold jn;by_cases hz:(only L i:Int)=0
 ·rw [if_pos hz];constructor
  ·exact .inl
  ·rintro (h|h)
   ·exact h
   ·exact absurd (show only L i=0 by omega) h.1
 ·rw [if_neg hz];have hp:=(hok.ps i hi).2;have hI:=(hok.inn i hi).2;have hO:=(hok.out i hi).2
  have:=zk8 (Y:=Y) (L:=L) (Y.out i) ((Y.inn i).foldl (fun s x=>dJ s x.fr.toNat) ((Y.ps i).foldl (fun s x=>dJ s (x.a+x.b - (i:Int)).toNat) ws)) (by rw [zcD,zcy,hws]) (fun x hx=>by
   have:=hO x hx
   exact ⟨by omega,fun o ho=>by have:=(hok.inn x.to.toNat a6).2 o ho;omega⟩) j hj
  refine Iff.trans this ?_;rw [zih (fun x:Ld=>x.fr.toNat) (fun _=>trivial) _ _ (by rw [zcy,hws]) (fun x hx=>by have:=hI x hx;omega) j hj,zih (fun x:Pr=>(x.a+x.b - (i:Int)).toNat) (fun _=>trivial) _ _ hws (fun x hx=>by have:=hp x hx;omega) j hj];unfold lA;constructor
  ·rintro (((h|h)|h)|h)
   ·exact .inl h
   ·exact .inr ⟨by omega, .inl h⟩
   ·exact .inr ⟨by omega, .inr (.inl h)⟩
   ·exact .inr ⟨by omega, .inr (.inr h)⟩
  ·rintro (h|⟨_,h|h|h⟩)
   ·exact .inl (.inl (.inl h))
   ·exact .inl (.inl (.inr h))
   ·exact .inl (.inr h)
   ·exact .inr h
theorem zgN {Y:Tb}{L L':Ws}{i k:Nat}(hok:Y.Ok)(hi:i<Y.n)(hk:k<Y.n)(hki:k≠i)(hsame:∀j,j≠i→only L' j=only L j)(h0:only L i=0)(hfar:¬lA Y L' i k):Alike Y L L' k where
 ps x hx:=by
  have h1:=(hok.ps k hk).2 x hx;have h2:=hok.psS k hk x hx;constructor
  ·intro ha;by_cases hb:x.b.toNat=i
   ·exact absurd (.inl ⟨x,by rw [←hb];exact h2.2.2,by omega⟩) hfar
   ·exact hsame _ hb
  ·intro ha;by_cases hb:x.a.toNat=i
   ·exact absurd (.inl ⟨x,by rw [←hb];exact h2.2.1,by omega⟩) hfar
   ·exact hsame _ hb
 inn x hx:=by
  have h1:=(hok.inn k hk).2 x hx;by_cases hb:x.fr.toNat=i
  ·exact absurd (.inr (.inr ⟨x,by rw [←hb];exact (hok.innS k hk x hx).2, .inl a6⟩)) hfar
  ·exact hsame _ hb
 out x hx:=by
  have h1:=(hok.out k hk).2 x hx;have h2:=hok.outS k hk x hx;have hto:x.to.toNat≠i:=fun hb=>hfar (.inr (.inl ⟨x,by rw [←hb];exact h2.2,by omega⟩));refine ⟨hsame _ hto,fun hz o ho hok'=>?_⟩;have h3:=(hok.inn x.to.toNat a6).2 o ho;by_cases hb:o.fr.toNat=i
  ·have h4:=(hok.innS x.to.toNat a6 o ho).2;rw [hb] at h4;refine absurd (.inr (.inr ⟨o,h4, .inr ⟨?_,x,?_,by omega⟩⟩)) hfar
   ·rw [show o.to.toNat=x.to.toNat by omega,hsame _ hto];exact hz
   ·rw [show o.to.toNat=x.to.toNat by omega];exact h2.2
  ·exact hsame _ hb
def zjq (L:Ws):Nat:=(L.map fun b=>(cY b).length).sum
theorem dz {b:BitVec 64}{j:Nat}:j∈cY b↔b.getLsbD j=true:=by
 unfold cY;rw [List.mem_filter,List.mem_range'_1];constructor
 ·exact fun h=>h.2
 ·intro h;refine ⟨⟨Nat.zero_le _,?_⟩,h⟩;have:=BitVec.lt_of_getLsbD h;omega
theorem zg3 {p q:Nat→Bool}:∀(l:List Nat),(∀x∈l,q x=true→p x=true)→(∃x∈l,p x=true∧q x=false)→(l.filter q).length<(l.filter p).length
 | [],_,h=>by obtain ⟨x,hx,_⟩:=h;cases hx
 |y :: r,h,⟨x,hx,hp,hq⟩=>by
  have hle:∀(l:List Nat),(∀x∈l,q x=true→p x=true)→(l.filter q).length≤(l.filter p).length:=by
   intro l
   induction l with
   |nil=>intro _;simp
   |cons z s ih=>
    intro hz;have h1:=ih (fun x hx=>hz x (by simp [hx]));have h2:=hz z b2
    cases hqz:q z <;> cases hpz:p z <;> simp [hqz,hpz] at h2 ⊢ <;> omega
  have h2:=h y b2;rcases List.mem_cons.1 hx with rfl|hx
  ·rw [List.filter_cons_of_neg (by rw [hq];simp),List.filter_cons_of_pos hp];have:=hle r (fun x hx=>h x (by simp [hx]));simp;omega
  ·have:=zg3 r (fun x hx=>h x (by simp [hx])) ⟨x,hx,hp,hq⟩
   cases hqz:q y <;> cases hpz:p y <;> simp [hqz,hpz] at h2 ⊢ <;> omega
theorem zl5 {a b:BitVec 64}(h:∀j,a.getLsbD j=true→b.getLsbD j=true)(hne:a≠b):(cY a).length<(cY b).length:=by
 unfold cY;refine zg3 _ (fun j _=>h j) ?_;apply Classical.byContradiction;intro hno;apply hne;apply BitVec.eq_of_getLsbD_eq;intro j hj
 cases ha:a.getLsbD j with
 |true=>rw [h j ha]
 |false=>
  cases hb:b.getLsbD j with
  |false=>rfl
  |true=>exact absurd ⟨j,List.mem_range'_1.2 ⟨Nat.zero_le _,by omega⟩,hb,ha⟩ hno
theorem zgw:∀(L:Ws) (i:Nat) (b:BitVec 64),i<L.length→zjq (L.set i b)+(cY (cD L i)).length=zjq L+(cY b).length
 | [],i,b,h=>by simp at h
 |x :: r,0,b,h=>by simp [zjq,cD];omega
 |x :: r,i+1,b,h=>by
  have:=zgw r i b (by simpa using h);simp only [zjq,cD,List.set_cons_succ,List.map_cons,List.sum_cons,List.getD_cons_succ] at this ⊢;omega
inductive Reach (Y:Tb) (L:Ws):Ws→Prop
 |refl:Reach Y L L
 |step {M:Ws} {i:Nat} {b:BitVec 64}:Reach Y L M→i<Y.n→(∀j,b.getLsbD j=true→(iA Y M i).getLsbD j=true)→Reach Y L (M.set i (cD M i &&& ~~~b))
theorem Reach.len {Y:Tb}{L M:Ws}(h:Reach Y L M):M.length=L.length:=by
 induction h with
 |refl=>rfl
 |step _ _ _ ih=>rw [List.length_set,ih]
theorem Reach.sub {Y:Tb}{L M:Ws}(h:Reach Y L M)(hl:L.length=Y.n):∀i j,(cD M i).getLsbD j=true→(cD L i).getLsbD j=true:=by
 induction h with
 |refl=>exact fun _ _ h=>h
 | @step M' k b hr hk _ ih=>
  intro i j hij;rw [jX (by rw [hr.len,hl];exact hk)] at hij
  split at hij
  ·rename_i e;subst e;rw [BitVec.getLsbD_and,Bool.and_eq_true] at hij;exact ih _ _ hij.1
  ·exact ih _ _ hij
structure SInv (Y:Tb) (L0 L:Ws) (q:List Nat) (ws:Ws) (c:Bool):Prop where
 reach:Reach Y L0 L
 len:L.length=Y.n
 ws8:ws.length=8
 wsn:∀j,j<512→d7 ws j=true→j<Y.n
 qn:∀j∈q,j<Y.n
 q512:q.length≤512
 bad:c=true→∃i,i<Y.n∧cD L i=0#64
 good:c=false→∀i,i<Y.n→i∈q∨d7 ws i=true∨zgv Y L i
def smu (L:Ws)(q:List Nat)(ws:Ws):Nat:=zjq L*2000+q.length+(if eD ws=[] then 0 else 600)
theorem zkk:eD eJ=[]:=zfp fun j _ _=>zdb j
theorem SInv.refill {Y:Tb}{L0 L:Ws}{ws:Ws}{c:Bool}(h:SInv Y L0 L [] ws c):SInv Y L0 L (eD ws) eJ c where
 reach:=h.reach
 len:=h.len
 ws8:=rfl
 wsn j _ hb:=by rw [zdb] at hb;cases hb
 qn j hj:=by obtain ⟨_,h1,h2⟩:=fc.1 hj;exact h.wsn j h1 h2
 q512:=ze5 ws 0
 bad:=h.bad
 good hc i hi:=by
  rcases h.good hc i hi with h1|h1|h1
  ·cases h1
  ·have:=h.len;by_cases h512:i<512
   ·exact .inl (fc.2 ⟨Nat.zero_le _,h512,h1⟩)
   ·exfalso;unfold d7 cD at h1;rw [List.getD_eq_getElem?_getD,List.getElem?_eq_none (by rw [h.ws8];omega)] at h1;exact absurd h1 (by show ¬(0#64).getLsbD _=true;rw [BitVec.getLsbD_zero];simp)
  ·exact .inr (.inr h1)
theorem ziV {L:Ws}{ws:Ws}(h:eD ws≠[]):smu L (eD ws) eJ<smu L [] ws:=by
 unfold smu;rw [if_pos zkk,if_neg h];have:(eD ws).length≤512:=ze5 ws 0;simp only [List.length_nil];omega
theorem SInv.calm {Y:Tb}{L0 L:Ws}{ws:Ws}(h:SInv Y L0 L [] ws false)(hm:eD ws=[]):∀i,i<Y.n→zgv Y L i:=fun i hi=>by
 rcases h.refill.good rfl i hi with h1|h1|h1
 ·rw [hm] at h1;cases h1
 ·rw [zdb] at h1;cases h1
 ·exact h1
theorem ziK {Y:Tb}{L0 L:Ws}{i:Nat}{b:BitVec 64}(h:Reach Y L0 L)(hi:i<Y.n)(hb:∀j,b.getLsbD j=true→(iA Y L i).getLsbD j=true):Reach Y L0 (L.set i (cD L i &&& ~~~b)):= .step h hi hb
theorem zl9 {Y:Tb}{L:Ws}{i j:Nat}(h:(kL Y L i).getLsbD j=true):(iA Y L i).getLsbD j=true:=by simp [iA,h]
theorem zmk {Y:Tb}{L:Ws}{i j:Nat}(h:(jP Y L i).getLsbD j=true):(iA Y L i).getLsbD j=true:=by simp [iA,h]
theorem zl2 {Y:Tb}{L:Ws}{i j:Nat}(h:(kG Y L i).getLsbD j=true):(iA Y L i).getLsbD j=true:=by simp [iA,h]
def zfC (Y:Tb)(L:Ws)(i k:Nat):BitVec 64:=if k=0 then kL Y L i else if k=1 then jP Y L i else kG Y L i
theorem zmj {Y:Tb}{L:Ws}{i j k:Nat}(h:(zfC Y L i k).getLsbD j=true):(iA Y L i).getLsbD j=true:=by
 unfold zfC at h
 split at h
 ·exact zl9 h
 ·split at h
  ·exact zmk h
  ·exact zl2 h
def d3 (Y:Tb)(L:Ws)(i:Nat):Nat→Ws
 |0=>L
 |k+1=>(d3 Y L i k).set i (cD (d3 Y L i k) i &&& ~~~(zfC Y (d3 Y L i k) i k))
theorem zbH {Y:Tb}{L:Ws}{i:Nat}:∀k,(d3 Y L i k).length=L.length
 |0=>rfl
 |k+1=>by rw [d3,List.length_set,zbH k]
theorem zdy {Y:Tb}{L0 L:Ws}{i:Nat}(h:Reach Y L0 L)(hi:i<Y.n):∀k,Reach Y L0 (d3 Y L i k)
 |0=>h
 |k+1=>ziK (zdy h hi k) hi (fun j hj=>zmj hj)
theorem zdp {Y:Tb}{L:Ws}{i j:Nat}(hi:i<L.length)(hj:j≠i):∀k,cD (d3 Y L i k) j=cD L j
 |0=>rfl
 |k+1=>by rw [d3,jX (by rw [zbH];exact hi),if_neg hj,zdp hi hj k]
theorem zeC {Y:Tb}{L:Ws}{i:Nat}(hi:i<L.length):∀k j,(cD (d3 Y L i k) i).getLsbD j=true→(cD L i).getLsbD j=true
 |0,_,h=>h
 |k+1,j,h=>by
  rw [d3,jX (by rw [zbH];exact hi),if_pos rfl,BitVec.getLsbD_and,Bool.and_eq_true] at h;exact zeC hi k j h.1
theorem zje {Y:Tb}{L:Ws}{i:Nat}{b:BitVec 64}(hok:Y.Ok)(hi:i<Y.n)(hl:L.length=Y.n)(m:Nat):zfC Y (L.set i b) i m=zfC Y L i m:=by
 have h1:=zfu (b:=b) hok hi hl;unfold zfC;rw [h1.1,h1.2.1,h1.2.2]
theorem zff {Y:Tb}{L:Ws}{i:Nat}(hok:Y.Ok)(hi:i<Y.n)(hl:L.length=Y.n):∀k m,zfC Y (d3 Y L i k) i m=zfC Y L i m
 |0,_=>rfl
 |k+1,m=>by rw [d3,zje hok hi (by rw [zbH,hl]),zff hok hi hl k m]
theorem zj6 {Y:Tb}{L:Ws}{i:Nat}(hok:Y.Ok)(hi:i<Y.n)(hl:L.length=Y.n):cD (d3 Y L i 3) i=cD L i &&& ~~~(kL Y L i) &&& ~~~(jP Y L i) &&& ~~~(kG Y L i):=by
 have h:∀k,cD (d3 Y L i (k+1)) i=cD (d3 Y L i k) i &&& ~~~(zfC Y L i k):=fun k=>by
  rw [d3,jX (by rw [zbH,hl];exact hi),if_pos rfl,zff hok hi hl]
 rw [h 2,h 1,h 0]
 rfl
theorem zev {Y : Tb} {L : Ws} {i : Nat} (hi : i < L.length) : d3 Y L i 3 = L.set i (cD (d3 Y L i 3) i) := by
  have h : ∀ k, ∃ b, d3 Y L i k = L.set i b := by
    intro k
    induction k with
    | zero => exact ⟨cD L i, by
        apply List.ext_getElem?; intro j; by_cases hj : j = i
        · subst hj; rw [List.getElem?_set_self hi, d3, List.getElem?_eq_getElem hi, d9 hi]
        · rw [List.getElem?_set_ne (fun e => hj e.symm)]; rfl⟩
    | succ k ih =>
      obtain ⟨b, hb⟩ := ih; exact ⟨_, by rw [d3, hb, List.set_set]⟩
  obtain ⟨b, hb⟩ := h 3; rw [hb, jX hi, if_pos rfl]
theorem zf7 {a b:BitVec 64}(hs:∀j,a.getLsbD j=true→b.getLsbD j=true)(hne:a≠b)(h0:a≠0#64):gZ b=0:=by
 unfold gZ;rw [if_neg];rintro ⟨hb,hz⟩
 have h1:∀j,b.getLsbD j=true→j=ctz b:=fun j hj=>by
  have:=zeI hb j;rw [hz,hj,BitVec.getLsbD_zero,Bool.true_and] at this;simpa using this.symm
 apply hne;apply BitVec.eq_of_getLsbD_eq;intro j hj
 cases hbj:b.getLsbD j with
 |false=>
  cases haj:a.getLsbD j with
  |false=>rfl
  |true=>rw [hs j haj] at hbj;cases hbj
 |true=>
  have e:=h1 j hbj;obtain ⟨k,hk⟩:∃k,a.getLsbD k=true:=⟨ctz a,(zdu h0 0).1⟩;rw [e,←h1 k (hs k hk)];exact hk
theorem SInv.step {Y : Tb} {L0 L : Ws} {i : Nat} {q : List Nat} {ws : Ws} (hok : Y.Ok) (h : SInv Y L0 L (i :: q) ws false) :
    SInv Y L0 (d3 Y L i 3) q (if cD (d3 Y L i 3) i = cD L i then ws else jn Y (d3 Y L i 3) i ws) (decide (cD (d3 Y L i 3) i = 0#64)) := by
  have hi : i < Y.n := h.qn i b2; (have hil : i < L.length := by rw [h.len]; exact hi); have hn := hok.n; have hsub := zeC (Y := Y) hil 3; refine ⟨zdy h.reach hi 3, by rw [zbH, h.len], ?_, ?_, fun j hj => h.qn j (by simp [hj]), by have := h.q512; simp at this; omega, ?_, ?_⟩
  · split
    · exact h.ws8
    · rw [zeH, h.ws8]
  · intro j hj hb
    split at hb
    · exact h.wsn j hj hb
    · rcases (zc0 hok hi h.ws8 j hj).1 hb with h1 | ⟨_, h1 | h1 | h1⟩
      · exact h.wsn j hj h1
      · obtain ⟨x, hx, he⟩ := h1; have := (hok.ps i hi).2 x hx; omega
      · obtain ⟨x, hx, he⟩ := h1; have := (hok.inn i hi).2 x hx; omega
      · obtain ⟨x, hx, he⟩ := h1; have h2 := (hok.out i hi).2 x hx; rcases he with he | ⟨_, o, ho, he⟩
        · omega
        · have := (hok.inn x.to.toNat a6).2 o ho; omega
  · intro hc; exact ⟨i, hi, of_decide_eq_true hc⟩
  · intro hc k hk; have h0 : cD (d3 Y L i 3) i ≠ 0#64 := of_decide_eq_false hc; by_cases hki : k = i
    · subst hki;refine .inr (.inr ⟨h0, ?_⟩); have e := zfu (b := cD (d3 Y L k 3) k) hok hi h.len; rw [← zev hil] at e; unfold iA; rw [e.1, e.2.1, e.2.2, zj6 hok hi h.len]; apply BitVec.eq_of_getLsbD_eq; intro j hj;simp only [BitVec.getLsbD_and, BitVec.getLsbD_or, BitVec.getLsbD_not, BitVec.getLsbD_zero]
      cases (cD L k).getLsbD j <;> cases (kL Y L k).getLsbD j <;> cases (jP Y L k).getLsbD j <;> cases (kG Y L k).getLsbD j <;> simp
    · have hkeep := zdp (Y := Y) hil hki 3; by_cases hsame : cD (d3 Y L i 3) i = cD L i
      · rw [if_pos hsame]
        have e : d3 Y L i 3 = L := by
          rw [zev hil, hsame]; apply List.ext_getElem?; intro j; by_cases hj : j = i
          · subst hj; rw [List.getElem?_set_self hil, List.getElem?_eq_getElem hil, d9 hil]
          · rw [List.getElem?_set_ne (fun e => hj e.symm)]
        rw [e]; rcases h.good rfl k hk with h1 | h1 | h1
        · rcases List.mem_cons.1 h1 with h1 | h1
          · exact absurd h1 hki
          · exact .inl h1
        · exact .inr (.inl h1)
        · exact .inr (.inr h1)
      · rw [if_neg hsame]; have h00 : only L i = 0 := zf7 hsub hsame h0; (have honly : ∀ j, j ≠ i → only (d3 Y L i 3) j = only L j := fun j hj => by unfold only; rw [zdp hil hj]); rcases h.good rfl k hk with h1 | h1 | h1
        · rcases List.mem_cons.1 h1 with h1 | h1
          · exact absurd h1 hki
          · exact .inl h1
        · exact .inr (.inl ((zc0 hok hi h.ws8 k a6).2 (.inl h1)))
        · by_cases hnear : only (d3 Y L i 3) i ≠ 0 ∧ lA Y (d3 Y L i 3) i k
          · exact .inr (.inl ((zc0 hok hi h.ws8 k a6).2 (.inr hnear)))
          · refine .inr (.inr ⟨by rw [hkeep]; exact h1.1, ?_⟩)
            have ha : Alike Y L (d3 Y L i 3) k := by
              by_cases hz : only (d3 Y L i 3) i = 0
              · have hall : ∀ j, only (d3 Y L i 3) j = only L j := fun j => by
                  by_cases hj : j = i
                  · subst hj; rw [hz, h00]
                  · exact honly j hj
                exact q4w
              · exact zgN hok hi hk hki honly h00 (fun hh => hnear ⟨hz, hh⟩)
            rw [zfs ha (fun x hx => by have := (hok.out k hk).2 x hx; omega), hkeep]; exact h1.2
theorem zkt {Y:Tb}{L:Ws}{i:Nat}{q:List Nat}{ws:Ws}(hi:i<L.length)(hq:q.length≤511):smu (d3 Y L i 3) q (if cD (d3 Y L i 3) i=cD L i then ws else jn Y (d3 Y L i 3) i ws)<smu L (i :: q) ws:=by
 have hb:=zgw L i (cD (d3 Y L i 3) i) hi;rw [←zev hi] at hb;unfold smu;by_cases hs:cD (d3 Y L i 3) i=cD L i
 ·rw [if_pos hs];rw [hs] at hb;simp only [List.length_cons];omega
 ·rw [if_neg hs];have hlt:=zl5 (zeC (Y:=Y) hi 3) hs; (have h6:(if eD (jn Y (d3 Y L i 3) i ws)=[] then 0 else 600)≤600:=by split <;> omega);simp only [List.length_cons];omega
end Go.Proofs.YtgoeeefoinkepaaGreatDoor
