/- E F G G2 H1 Pn: shortened and put together by squeeze.py. -/
import Derived.Test.YtgoeeefoinkepaaGreatDoorQ04
set_option maxRecDepth 100000
set_option maxHeartbeats 4000000
set_option linter.unusedVariables false
set_option linter.unusedSectionVars false
set_option linter.unusedSimpArgs false
namespace Go.Proofs.YtgoeeefoinkepaaGreatDoor
open Go.RowKit
theorem cF {p:Prop}(h:p:=by rw [zeS (by omega)];omega):p:=h
theorem cA {p:Prop}(h:p:=by rw [List.length_map,kZ]):p:=h
def kl (ws:Ws)(k:Nat):Nat:=((ws.take k).map zkW).sum
theorem zh2 {ws:Ws}{k:Nat}(h:k<ws.length):kl ws (k+1)=kl ws k+zkW (cH ws k):=by
 unfold kl;rw [List.take_succ_eq_append_getElem h,d4 h,List.map_append,List.sum_append];simp
theorem ziT (ws:Ws):∀k,kl ws k≤127*k
 |0=>by simp [kl]
 |k+1=>by
  have:=ziT ws k;rcases Nat.lt_or_ge k ws.length with h|h
  ·rw [zh2 h];have:=zjU (cH ws k);omega
  ·unfold kl at *;rw [List.take_of_length_le a6] at *;omega
@[irreducible] def e9 (ws:Ws) (i:Nat):List Nat:=(List.range' i (512 - i)).filter (eA ws)
abbrev eZ (ws:Ws):List Nat:=e9 ws 0
def zh5:List Nat→Int
 | []=> -1
 |x :: _=>(x:Int)
theorem zgz {ws:Ws}{i:Nat}(h:∀j,i≤j→j<512→eA ws j=false):e9 ws i=[]:=by
 unfold e9;rw [List.filter_eq_nil_iff];intro j hj;obtain ⟨h1,h2⟩:=List.mem_range'_1.1 hj;rw [h j h1 a6];simp
theorem zhY {ws:Ws}{i r:Nat}(hi:i≤r)(hr:r<512)(hb:eA ws r=true)(h:∀j,i≤j→j<r→eA ws j=false):e9 ws i=r :: e9 ws (r+1):=by
 unfold e9
 have e:List.range' i (512 - i)=List.range' i (r - i)++(r :: List.range' (r+1) (512 - (r+1))):=by
  rw [show r :: List.range' (r+1) (512 - (r+1))=List.range' r (512 - r) from by rw [show 512 - r=(512 - (r+1))+1 by omega,List.range'_succ]];have:=List.range'_append (s:=i) (m:=r - i) (n:=512 - r) (step:=1);rw [Nat.one_mul,show i+(r - i)=r by omega,show r - i+(512 - r)=512 - i by omega] at this;exact this.symm
 rw [e,List.filter_append,List.filter_cons_of_pos (by simpa using hb)]
 have:(List.range' i (r - i)).filter (eA ws)=[]:=by
  rw [List.filter_eq_nil_iff];intro j hj;obtain ⟨h1,h2⟩:=List.mem_range'_1.1 hj;rw [h j h1 a6];simp
 rw [this];rfl
theorem fJ {ws:Ws}{i j:Nat}:j∈e9 ws i↔i≤j∧j<512∧eA ws j=true:=by
 unfold e9;rw [List.mem_filter,List.mem_range'_1];constructor
 ·rintro ⟨⟨h1,h2⟩,h3⟩;exact ⟨h1,by omega,h3⟩
 ·rintro ⟨h1,h2,h3⟩;exact ⟨⟨h1,by omega⟩,h3⟩
theorem zkM {ws:Ws}{i h:Nat}{t:List Nat}(e:e9 ws i=h :: t):i≤h∧h<512∧t=e9 ws (h+1):=by
 have hm:=fJ.1 (show h∈e9 ws i by rw [e];simp)
 have hs:e9 ws i=h :: e9 ws (h+1):=zhY hm.1 hm.2.1 hm.2.2 (fun j h1 h2=>by
  cases hb:eA ws j with
  |false=>rfl
  |true=>
   have hj:j∈e9 ws i:=fJ.2 ⟨h1,by omega,hb⟩; (have hsort:(e9 ws i).Pairwise (· < ·):=by unfold e9;exact List.Pairwise.filter _ List.pairwise_lt_range');rw [e] at hj hsort;rcases List.mem_cons.1 hj with hj|hj
   ·omega
   ·have:=(List.pairwise_cons.1 hsort).1 j hj;omega)
 rw [e] at hs;exact ⟨hm.1,hm.2.1,(List.cons.inj hs).2⟩
theorem zfV (ws:Ws)(i:Nat):(e9 ws i).length≤512:=by
 unfold e9;have:=List.length_filter_le (eA ws) (List.range' i (512 - i));rw [List.length_range'] at this;omega
theorem znt (a:BitVec 64)(k j:Nat)(hj:j<64):((a >>> k) <<< k).getLsbD j=(a.getLsbD j&&decide (k≤j)):=by
 rw [BitVec.getLsbD_shiftLeft,BitVec.getLsbD_ushiftRight];by_cases h:j<k
 ·simp [h]
 ·rw [show k+(j - k)=j by omega];simp [hj,h];intro _;omega
structure NxInv (ws:Ws) (i at':Nat) (b:BitVec 64):Prop where
 lt:at'<8
 ge:i<64* (at'+1)
 bit:∀j,j<64→b.getLsbD j=(eA ws (64*at'+j)&&decide (i≤64*at'+j))
 none:∀j,i≤j→j<64*at'→eA ws j=false
theorem NxInv.start {ws:Ws}{i:Nat}(hi:i<512):NxInv ws i (i / 64) ((cH ws (i / 64) >>> (i % 64)) <<< (i % 64)) where
 lt:=by omega
 ge:=by omega
 bit j hj:=by
  rw [znt _ _ _ hj];unfold eA;rw [show (64* (i / 64)+j) / 64=i / 64 by omega,show (64* (i / 64)+j) % 64=j by omega]
  congr 1
  exact decide_eq_decide.2 a6
 none j h1 h2:=by omega
theorem NxInv.next {ws:Ws}{i a:Nat}(h:NxInv ws i a 0#64)(ha:a+1<8):NxInv ws i (a+1) (cH ws (a+1)) where
 lt:=ha
 ge:=by have:=h.ge;omega
 bit j hj:=by
  have:=h.ge;unfold eA;rw [show (64* (a+1)+j) / 64=a+1 by omega,show (64* (a+1)+j) % 64=j by omega,decide_eq_true a6,Bool.and_true]
 none j h1 h2:=by
  rcases Nat.lt_or_ge j (64*a) with hj|hj
  ·exact h.none j h1 hj
  ·have:=h.bit (j - 64*a) a6;rw [show 64*a+(j - 64*a)=j by omega,decide_eq_true h1,Bool.and_true,BitVec.getLsbD_zero] at this;exact this.symm
theorem NxInv.found {ws:Ws}{i a:Nat}{b:BitVec 64}(h:NxInv ws i a b)(hb:b≠0#64):e9 ws i=(64*a+ctz b) :: e9 ws (64*a+ctz b+1):=by
 have hc:=zgJ hb;have h1:=(zeb hb 0).1;rw [h.bit _ hc] at h1;simp only [Bool.and_eq_true,decide_eq_true_eq] at h1;have:=h.lt;refine zhY h1.2 a6 h1.1 (fun j hi hj=>?_);rcases Nat.lt_or_ge j (64*a) with hj2|hj2
 ·exact h.none j hi hj2
 ·have h2:=(zeb hb (j - 64*a)).2 a6;rw [h.bit _ a6,show 64*a+(j - 64*a)=j by omega,decide_eq_true hi,Bool.and_true] at h2;exact h2
theorem NxInv.over {ws:Ws}{i a:Nat}(h:NxInv ws i a 0#64)(ha:a+1=8):e9 ws i=[]:=zgz fun j h1 h2=>by
 rcases Nat.lt_or_ge j (64*a) with hj2|hj2
 ·exact h.none j h1 hj2
 ·have h3:=h.bit (j - 64*a) a6;rw [show 64*a+(j - 64*a)=j by omega,decide_eq_true h1,Bool.and_true,BitVec.getLsbD_zero] at h3;exact h3.symm
theorem ziw (ws:Ws):∀(k i:Nat),k<(e9 ws i).length→e9 ws (cH (e9 ws i) k+1)=(e9 ws i).drop (k+1)
 |k,i,hk=>by
  cases e:e9 ws i with
  |nil=>rw [e] at hk;simp at hk
  |cons h t=>
   obtain ⟨h1,h2,h3⟩:=zkM e
   cases k with
   |zero=>simp [cH,h3]
   |succ k=>
    rw [e] at hk;subst h3;have:=ziw ws k (h+1) (by simpa using hk);simpa [cH] using this
theorem zgY {xs:List Nat}{k:Nat}(h:k<xs.length):zh5 (xs.drop k)=((cH xs k:Nat):Int):=by
 rw [List.drop_eq_getElem_cons h,d4 h];rfl
theorem zkH {xs:List Nat}{k:Nat}(h:zh5 (xs.drop k)<0):xs.length≤k:=by
 rcases Nat.lt_or_ge k xs.length with hk|hk
 ·rw [zgY hk] at h;omega
 ·exact hk
theorem zmg {xs:List Nat}{k:Nat}(h:0≤zh5 (xs.drop k)):k<xs.length:=by
 rcases Nat.lt_or_ge k xs.length with hk|hk
 ·exact hk
 ·rw [List.drop_eq_nil_of_le hk] at h;simp [zh5] at h
theorem znR {α:Type}[Inhabited α]{xs:List α}{k:Nat}(h:k<xs.length):xs[k]?=some (cH xs k):=by rw [d4 h];exact List.getElem?_eq_getElem h
theorem znC {α:Type}[Inhabited α]{xs:List α}{k:Nat}{x:α}(h:xs[k]?=some x):k<xs.length∧x=cH xs k:=by
 obtain ⟨h1,h2⟩:=List.getElem?_eq_some_iff.1 h;exact ⟨h1,by rw [d4 h1,h2]⟩
def io (l:List Nat):List Value:=l.map fun j:Nat=> .int .i64 (j:Int)
theorem zmi {l:List Nat}{k:Nat}(h:k<l.length):io (l.take (k+1))=io (l.take k)++[.int .i64 ((cH l k:Nat):Int)]:=by
 unfold io;rw [List.take_succ_eq_append_getElem h,d4 h,List.map_append];rfl
theorem zll (l:List Nat):io l=(l.map fun j:Nat=>(j:Int)).flatMap Ie:=by
 unfold io
 induction l with
 |nil=>rfl
 |cons x r ih=>simp_all [Ie]
@[irreducible] def c7 (m:BitVec 64):List Nat:=(List.range' 0 64).filter m.getLsbD
theorem zeE {m:BitVec 64}(h:m≠0#64):c7 m=ctz m :: c7 (m &&& (m - 1#64)):=by
 have hc:=zgJ h
 have e:List.range' 0 64=List.range' 0 (ctz m)++(ctz m :: List.range' (ctz m+1) (64 - (ctz m+1))):=by
  rw [show ctz m :: List.range' (ctz m+1) (64 - (ctz m+1))=List.range' (ctz m) (64 - ctz m) from by rw [show 64 - ctz m=(64 - (ctz m+1))+1 by omega,List.range'_succ]];have:=List.range'_append (s:=0) (m:=ctz m) (n:=64 - ctz m) (step:=1);rw [Nat.one_mul,Nat.zero_add,show ctz m+(64 - ctz m)=64 by omega] at this;exact this.symm
 have z:∀f:Nat→Bool,(∀j,j<ctz m→f j=false)→(List.range' 0 (ctz m)).filter f=[]:=fun f hf=>by
  rw [List.filter_eq_nil_iff];intro j hj;obtain ⟨_,h2⟩:=List.mem_range'_1.1 hj;rw [hf j a6];simp
 unfold c7;rw [e,List.filter_append,List.filter_append,z _ (fun j hj=>(zeb h j).2 hj),z _ (fun j hj=>by rw [zfh h,(zeb h j).2 hj];rfl),List.filter_cons_of_pos (by simpa using (zeb h 0).1),List.filter_cons_of_neg (by rw [zfh h];simp)];simp only [List.nil_append]
 congr 1
 apply List.filter_congr;intro j hj;obtain ⟨h1,_⟩:=List.mem_range'_1.1 hj;rw [zfh h,decide_eq_false a6];simp
theorem zkb (m:BitVec 64):(c7 m).length≤64:=by
 unfold c7;have:=List.length_filter_le m.getLsbD (List.range' 0 64);rw [List.length_range'] at this;exact this
theorem ziS:c7 0#64=[]:=by
 unfold c7;rw [List.filter_eq_nil_iff];intro j _;simp
theorem znM (ws:Ws)(hws:ws.length=8)(w:World):Calls Tryz.prog 133 #[.agg ws.cells.toArray] w fun e w'=>e= .returned (.int .i64 (kl ws 8:Int))∧Below w.heap.size w w':=by
 refine dB (M:=fun _=>False) (hs:=[]) Tryz.func133 rfl rfl rfl (Hp.refl _ _) ?_;refine dd ?_; (refine cM (Wt.none) rfl rfl (dv) ?_;rintro _ _ ⟨g1,rfl,rfl⟩);refine gN ?_;refine jD ?_;refine ft ?_;refine q2I ?_;refine dc ?_;refine cR (T.block ?_);refine T.loop (ι:=Nat) (fun k=>[(3, .int .i64 (kl ws k:Int)),(7, .agg ws.cells.toArray),(8, .int .i64 (k:Int))]) (fun k=>[]) (fun k=>k≤8) (fun k=>8 - k) 0 ?_ ?_ ?_ ?_
 ·omega
 ·exact (by repeat (first|exact Sub.nil|refine Sub.cons rfl ?_))
 ·exact Sx
 ·intro k hphi;have hle:=ziT ws k;refine fk ?_;refine T.cond rfl (fun h1=>?_) (fun h1=>?_)
  ·have p1:=h1; (try simp only [cT] at p1);have hld:=Ws.get (ws:=ws) (i:=k) (p:=k) a6 rfl;have hp8:=zjU (cH ws k);refine fT ?_;refine cK (Yv.bN rfl rfl rfl rfl a6 hld) ?_;refine dc ?_;refine cR (T.region ?_);refine ec ?_; (refine cM (Wt.none) rfl rfl (cL rfl rfl rfl (fun w hw=>zmT _ w)) ?_;rintro _ _ ⟨rfl,rfl⟩);refine q0f ?_;refine dc ?_;refine lN ?_;exact K.next (k+1) a6 a6 (by repeat (first|exact Sub.nil|refine Sub.cons rfl ?_|(refine dU rfl (by rw [zh2 a6];omega) ?_))) Sx
  ·have p1:=h1; (try simp only [cT] at p1);refine mh ?_;refine jE ?_;exact cU rfl rfl (fun w' hw=>⟨zcP (by rw [show k=8 by omega]),hw.isBelow⟩)
theorem zn4 (ws:Ws)(hws:ws.length=8)(i:Nat)(hi:i<512)(w:World):Calls Tryz.prog 136 #[.agg ws.cells.toArray, .int .i64 (i:Int)] w fun e w'=>e= .returned (.tuple #[.agg (Ws.cells (dT ws i)).toArray, .int .i64 0])∧Below w.heap.size w w':=by
 have hld:=Ws.get (ws:=ws) (i:=i / 64) (p:=0+0+i / 64*1) a6 a6;refine dB (M:=fun _=>False) (hs:=[]) Tryz.func136 rfl rfl rfl (Hp.refl _ _) ?_;refine dd ?_; (refine cM (Wt.none) rfl rfl (dv) ?_;rintro _ _ ⟨g2,rfl,rfl⟩); (refine cM (Wt.none) rfl rfl (Ew.alloc) ?_;rintro _ _ ⟨g4,rfl,rfl⟩);refine jD ?_;refine dc ?_; (refine cM (Wt.none) rfl rfl (cL rfl rfl rfl (fun w hw=>zeF _ _)) ?_;rintro _ _ ⟨rfl,rfl⟩);refine dR ?_;refine iq rfl (by rw [inB,decide_eq_true (show (0:Int)≤(i:Int) by omega),decide_eq_true (show (i:Int)≤511 by omega)];rfl) ?_;refine ks ?_;refine dF (sN 0 4 (sN 5 3 (.still 9 (.eff 4 (.still 8 (.still 10 (.eff 11 .done))))))) [.row g4 101 (Ws.cells fj)] a8 Sx ?_;refine eR ?_;refine cN rfl (ly rfl rfl rfl a6) ?_;refine gu ?_;refine cN rfl (ed rfl rfl rfl (show (i:Int) / 64=((i / 64:Nat):Int) from by omega) a6) ?_;refine eR ?_;refine cN rfl (kq rfl rfl rfl a6) ?_;refine cN rfl (it (a:=1#64) (i % 64) rfl rfl rfl a6 a6) ?_;refine mI ?_;refine ez rfl (Wt.none) rfl rfl (cX 1 rfl rfl rfl hld) Sx ?_;refine cN rfl (jl) ?_;refine cN rfl (ed rfl rfl rfl (show (i:Int) / 64=((i / 64:Nat):Int) from by omega) a6) ?_;refine dx ?_; (refine dD rfl (Wt.none) rfl (iL 1 (Ws.cells (dT ws i)) rfl rfl rfl rfl (by rw [List.length_map,hws];omega) (Ws.put a6)) ?_;rintro _ _ ⟨rfl,rfl⟩;refine ⟨Sx,?_⟩);refine fv ?_;refine K.seq (dd ?_);refine cK (fx 1 rfl rfl rfl (by rw [List.length_map,lc,hws])) ?_; (refine dJ (Wt.none) rfl (dG 0 rfl rfl rfl rfl (by rw [List.length_map,lc,hws]) (by rw [List.length_map,lc,hws];rfl)) ?_;rintro _ _ ⟨rfl,rfl⟩);refine fB ?_;exact jH 0 rfl rfl rfl rfl (by rw [List.length_map,lc,hws]) (fun w' hw=>⟨rfl,hw.isBelow⟩)
theorem zjO (ws:Ws)(hws:ws.length=8)(i:Nat)(z:Int)(hz:z=(i:Int))(w:World)(ht:Tab w):Calls Tryz.prog 160 #[.agg ws.cells.toArray, .int .i64 z] w fun e w'=>e= .returned (.int .i64 (zh5 (e9 ws i)))∧Below w.heap.size w w':=by
 subst hz;refine dB (M:=fun _=>False) (hs:=[]) Tryz.func160 rfl rfl rfl (Hp.refl _ _) ?_;refine dd ?_; (refine cM (Wt.none) rfl rfl (dv) ?_;rintro _ _ ⟨g2,rfl,rfl⟩);refine jD ?_;refine ji ?_;refine iq rfl (decide_eq_false a6) ?_;refine kh ?_;refine ji ?_;refine T.cond rfl (fun h1=>?_) (fun h1=>?_)
 ·have p1:=h1; (try simp only [cT] at p1);refine ja ?_;exact cU rfl rfl (fun w' hw=>⟨zcP (by rw [zgz (fun j h1 h2=>by omega)];rfl),hw.isBelow⟩)
 ·have p1:=h1; (try simp only [cT] at p1);have hld:=Ws.get (ws:=ws) (i:=i / 64) (p:=0+0+i / 64*1) a6 a6;refine i1 ?_;refine dc ?_;refine cK (ly rfl rfl rfl a6) ?_;refine mZ ?_;refine ft ?_;refine cK (ed rfl rfl rfl (show (i:Int) / 64=((i / 64:Nat):Int) from by omega) a6) ?_;refine cK (cX 0 rfl rfl rfl hld) ?_;refine dc ?_;refine cK (kq rfl rfl rfl a6) ?_;refine cK (gz (i % 64) rfl rfl rfl a6 a6) ?_;refine dc ?_;refine cK (kq rfl rfl rfl a6) ?_;refine cK (it (i % 64) rfl rfl rfl a6 a6) ?_;refine dc ?_;refine cR (T.seq (T.block ?_));refine T.loop (ι:=Nat×BitVec 64) (fun x=>[(2, .pointer (some ⟨g2,0,none⟩)),(5, .int .i64 (x.1:Int)),(6,U x.2)]) (fun x=>[.row g2 101 ws.cells]) (fun x=>NxInv ws i x.1 x.2) (fun x=>8 - x.1) (i / 64,(cH ws (i / 64) >>> (i % 64)) <<< (i % 64)) ?_ ?_ ?_ ?_
  ·exact NxInv.start a6
  ·exact (by repeat (first|exact Sub.nil|refine Sub.cons rfl ?_|(refine dU rfl a6 ?_)))
  ·exact Sx
  ·intro x hphi;obtain ⟨a,b⟩:=x;dsimp only at hphi ⊢;have hlt0:=hphi.lt;refine iX ?_;refine ji ?_;refine T.cond rfl (fun h2=>?_) (fun h2=>?_)
   ·have p2:=h2; (try simp only [cT] at p2); (have hb0:b=0#64:=by rw [znO] at h2;exact of_decide_eq_true h2);subst hb0;refine T.skip (K.seq (T.block (dd ?_)));refine dc ?_;refine q0f ?_;refine jD ?_;refine ji ?_;refine T.cond rfl (fun h3=>?_) (fun h3=>?_)
    ·have p3:=h3; (try simp only [cT] at p3);refine ic ?_;refine cR (T.ret (dZ (eV (dZ (eV (dZ ?_))))));exact cU rfl rfl (fun w' hw=>⟨zcP (by rw [hphi.over a6];rfl),hw.isBelow⟩)
    ·have p3:=h3; (try simp only [cT] at p3);have hlt8:=hphi.lt;have hld:=Ws.get (ws:=ws) (i:=a+1) (p:=0+0+(a+1) *1) a6 a6;refine T.skip (K.seq (T.region ?_));refine dc ?_;refine ft ?_;refine cK (ed rfl rfl rfl (show (a:Int)+1=((a+1:Nat):Int) from by omega) a6) ?_;refine cK (cX 0 rfl rfl rfl hld) ?_;refine dc ?_;refine TL.nil (eQ ?_);exact K.next (a+1,cH ws (a+1)) (hphi.next a6) (by show 8 - (a+1)<8 - a;omega) (by repeat (first|exact Sub.nil|refine Sub.cons rfl ?_|(refine dU rfl a6 ?_))) Sx
   ·have p2:=h2; (try simp only [cT] at p2); (have hb0:b≠0#64:=by rw [znO] at h2;exact of_decide_eq_false h2);have hcz:=zgJ hb0;have hlt8:=hphi.lt;refine mh ?_;refine dc ?_;refine cK (Yv.ct rfl rfl rfl a6) ?_;refine dc ?_; (refine cM (Wt.none) rfl rfl (cL rfl rfl rfl (fun w hw=>zlD b hb0 w (ht.keptF hw))) ?_;rintro _ _ ⟨rfl,rfl⟩);refine q0f ?_;refine fB ?_;exact cU rfl rfl (fun w' hw=>⟨zcP (by rw [hphi.found hb0];simp only [zh5];omega),hw.isBelow⟩)
theorem znG (ws:Ws)(hws:ws.length=8)(w:World)(ht:Tab w):Calls Tryz.prog 159 #[.agg ws.cells.toArray] w fun e w'=>e= .returned (.int .i64 (zh5 (eZ ws)))∧Below w.heap.size w w':=by
 refine dB (M:=fun _=>False) (hs:=[]) Tryz.func159 rfl rfl rfl (Hp.refl _ _) ?_;refine dd ?_; (refine cM (Wt.none) rfl rfl (dv) ?_;rintro _ _ ⟨g1,rfl,rfl⟩);refine gN ?_;refine q2I ?_; (refine cM (Wt.none) rfl rfl (cL rfl rfl rfl (fun w hw=>zjO ws hws 0 0 rfl w (ht.keptF hw))) ?_;rintro _ _ ⟨rfl,rfl⟩);refine fB ?_;refine cU rfl rfl (fun w' hw=>⟨?_,hw.isBelow⟩)
 rfl
theorem zn7 (ws:Ws)(hws:ws.length=8)(w:World):Calls Tryz.prog 134 #[.agg ws.cells.toArray] w fun e w'=>∃x:Nat,True∧e= .returned (.func (.func 158) #[] #[.pointer (some ⟨x,0,none⟩)])∧Hp w (fun _=>False) [.row x 101 ws.cells] w':=by
 refine dB (M:=fun _=>False) (hs:=[]) Tryz.func134 rfl rfl rfl (Hp.refl _ _) ?_;refine dd ?_; (refine cM (Wt.none) rfl rfl (dv) ?_;rintro _ _ ⟨g1,rfl,rfl⟩);refine gN ?_;refine jE ?_;exact cU rfl rfl (fun w' hw=>⟨g1,trivial,rfl,hw⟩)
theorem zm7 (ws:Ws)(hws:ws.length=8)(p:Nat)(B:World)(M:Nat→Prop)(ht:Tab B)(hM0:¬M 0):IterAt Tryz.prog 158 [.pointer (some ⟨p,0,none⟩)] (fun j:Nat=>[.int .i64 (j:Int)]) (eZ ws) [.row p 101 ws.cells] B M:=by
 intro G Z l W g0 hy hG0 hW;refine zho (B:=B) (M:=M) Tryz.func158 rfl rfl rfl hW ?_;refine dd ?_;refine q2I ?_; (refine cM (Wt.none) rfl rfl (cL rfl rfl rfl (fun w hw=>znG ws hws w (ht.kept hw hM0))) ?_;rintro _ _ ⟨rfl,rfl⟩);refine dc ?_;refine cR (T.block ?_);refine T.loop (ι:=Nat×HS) (fun x=>[(0, .func (.yield l) #[] #[]),(1, .pointer (some ⟨p,0,none⟩)),(3, .int .i64 (zh5 ((eZ ws).drop x.1)))]) (fun x=>[.row p 101 ws.cells]++x.2) (fun x=>x.1≤(eZ ws).length∧G x.1 x.2) (fun x=>(eZ ws).length - x.1) (0,g0) ?_ ?_ ?_ ?_
 ·exact ⟨by simp,hG0⟩
 ·exact (by repeat (first|exact Sub.nil|refine Sub.cons rfl ?_))
 ·exact fQ
 ·intro x hphi;obtain ⟨k,g⟩:=x;dsimp only at hphi ⊢;obtain ⟨hkn,hG⟩:=hphi;refine iX ?_;refine ji ?_;refine T.cond rfl (fun h1=>?_) (fun h1=>?_)
  ·have p1:=h1; (try simp only [cT] at p1);have hk:=zmg p1;have h512:cH (eZ ws) k<512:=(fJ.1 (iR hk)).2.1;rw [zgY hk];refine fT ?_;refine ec ?_;refine TL.bW (Wt.none) rfl rfl rfl rfl rfl hy (znR hk) hG (enc:=fun j:Nat=>[.int .i64 (j:Int)]) (x:=cH (eZ ws) k) (i:=k) ?_ ?_
   ·intro g' hG';refine dR ?_;refine iq rfl rfl ?_;refine q0v ?_;refine q2I ?_;refine dc ?_;refine q0f ?_; (refine cM (Wt.none) rfl rfl (cL rfl rfl rfl (fun w hw=>zjO ws hws (cH (eZ ws) k+1) _ a6 w (ht.kept hw hM0))) ?_;rintro _ _ ⟨rfl,rfl⟩);refine dc ?_;refine fO ?_;exact K.next (k+1,g') ⟨by dsimp only;omega,hG'⟩ (by dsimp only;omega) (by rw [←ziw ws k 0 hk];exact (by repeat (first|exact Sub.nil|refine Sub.cons rfl ?_))) (List.Sublist.refl _)
   ·intro z hZ;refine dR ?_;refine j7 rfl rfl ?_;refine T.ret (eV (dZ (dZ (eV ?_))));exact K.bR rfl (fun w' hw hkp=>⟨⟨_,rfl⟩,hkp, .inr ⟨z,hZ,hw⟩⟩)
  ·have p1:=h1; (try simp only [cT] at p1);have hk:=zkH p1;refine fu ?_;exact K.bS rfl (fun w' hw hkp=>⟨⟨_,rfl⟩,hkp, .inl ⟨g,by rw [show (eZ ws).length=k from by omega];exact hG,hw⟩⟩)
theorem zj0 (ws:Ws)(hws:ws.length=8)(w:World)(ht:Tab w):Calls Tryz.prog 115 #[.agg ws.cells.toArray] w fun e w'=>∃v:Value,True∧e= .returned v∧Hp w (fun _=>False) [.sl v 3 1 (eZ ws).length (io (eZ ws))] w':=by
 have hsl8:=ziT ws 8;have hml:=zfV ws 0;refine dB (M:=fun _=>False) (hs:=[]) Tryz.func115 rfl rfl rfl (Hp.refl _ _) ?_;refine dd ?_; (refine cM (Wt.none) rfl rfl (dv) ?_;rintro _ _ ⟨g1,rfl,rfl⟩);refine gN ?_;refine q2I ?_; (refine cM (Wt.none) rfl rfl (cL rfl rfl rfl (fun w hw=>znM ws hws w)) ?_;rintro _ _ ⟨rfl,rfl⟩); (refine cM (Wt.none) rfl rfl (Ew.bF rfl rfl rfl rfl a6 a6) ?_;rintro _ _ ⟨g7,rfl,rfl⟩); (refine cM (Wt.none) rfl rfl (Ew.alloc) ?_;rintro _ _ ⟨g3,rfl,rfl⟩); (refine dJ (Wt.none) rfl (ei 0 rfl rfl rfl rfl a7) ?_;rintro _ _ ⟨rfl,rfl⟩);refine ij ?_;refine cK (fx 2 rfl rfl rfl (by rw [List.length_map,hws])) ?_; (refine cM (Wt.none) rfl rfl (iG rfl rfl rfl (fun w hw=>zn7 ws hws _)) ?_;rintro _ _ ⟨b9, -,rfl,rfl⟩);refine fH ?_;refine cR (T.block ?_);refine T.bE (α:=Nat) ((fun j:Nat=>[.int .i64 (j:Int)])) (eZ ws) ([.row b9 101 ws.cells]) (fun i g=>∃v,g=[.row g3 57 [v], .sl v 3 1 i (io ((eZ ws).take i))]) (fun _ _=>False) (fun x=>[(3, .pointer (some ⟨g3,0,none⟩)),(4, .int .i64 (x:Int))]) (_) (⟨_,rfl⟩) rfl (zm7 ws hws b9 _ _ ht (fun h=>h)) a7 (fun _=>rfl) (by exact Sx) ?_ ?_ ?_ ?_
 ·intro l i x X D g hx;refine kd ?_;refine fO ?_;exact K.at (by repeat (first|exact Sub.nil|refine Sub.cons rfl ?_)) (List.Sublist.refl _)
 ·intro l i x X D g hx hG;obtain ⟨v,rfl⟩:=hG;obtain ⟨hi,rfl⟩:=znC hx;have hi2:i<(e9 ws 0).length:=hi;refine fH ?_;refine T.block (T.region ?_);refine cK (cX 1) ?_;refine dc ?_; (refine cM (Wt.none) rfl rfl (Ew.buildSlice rfl rfl rfl a7) ?_;rintro _ _ ⟨g13,rfl,rfl⟩); (refine cM (Wt.none) rfl rfl (Ew.append 3 0 rfl rfl rfl rfl rfl rfl a6 a6) ?_;rintro v14 _ ⟨hv14,rfl⟩); (refine dJ (Wt.none) rfl (ei 2 rfl rfl rfl rfl b5) ?_;rintro _ _ ⟨rfl,rfl⟩);refine TL.nil (eQ ?_);exact K.round _ ⟨_,rfl,v14,rfl⟩ (by rw [zmi hi];exact Sx)
 ·intro g hG;obtain ⟨v,rfl⟩:=hG;refine fH ?_;rw [List.take_length];refine eQ (K.seq (dd ?_));refine cK (cX 1) ?_;refine fB ?_;exact cU rfl rfl (fun w' hw=>⟨_,trivial,rfl,hw.sub Sx⟩)
 ·intro c y hz;exact hz.elim
theorem jG {w:World}{v:Value}{e:TypeId}{size k:Nat}{l:List Value}(h:(Ent.sl v e size k l).ok w):OneC v:=by
 rcases (cS.1 h).2 with ⟨rfl,_⟩|⟨g,cap,cur,rfl,_⟩ <;> exact inferInstance
theorem zic (m:BitVec 64)(w:World)(ht:Tab w):Calls Tryz.prog 124 #[U m] w fun e w'=>∃v:Value,OneC v∧e= .returned v∧Hp w (fun _=>False) [.sl v 3 1 (c7 m).length (io (c7 m))] w':=by
 have hcl:=zkb m;refine dB (M:=fun _=>False) (hs:=[]) Tryz.func124 rfl rfl rfl (Hp.refl _ _) ?_;refine l5 ?_;refine cR (T.seq (T.block ?_));refine T.slNil 3 1 ?_;refine T.loop (ι:=BitVec 64×List Nat×Value) (fun x=>[(0,U x.1),(3,x.2.2)]) (fun x=>[.sl x.2.2 3 1 x.2.1.length (io x.2.1)]) (fun x=>x.2.1++c7 x.1=c7 m) (fun x=>(c7 x.1).length) (m,[], .slice none 0 0) ?_ ?_ ?_ ?_
 ·rfl
 ·exact (by repeat (first|exact Sub.nil|refine Sub.cons rfl ?_))
 ·exact Sx
 ·intro x hphi;obtain ⟨b,l,v⟩:=x;dsimp only at hphi ⊢; (have hll:l.length+(c7 b).length=(c7 m).length:=by rw [←hphi,List.length_append]);refine iX ?_;refine ji ?_;refine T.cond rfl (fun h1=>?_) (fun h1=>?_)
  ·have p1:=h1; (try simp only [cT] at p1); (have hb0:b≠0#64:=by rintro rfl;exact p1 rfl);have hst:=zeE hb0;refine T.skip (K.seq (T.seq (T.block (T.region ?_))));refine ec ?_; (refine cM (Wt.none) rfl rfl (cL rfl rfl rfl (fun w hw=>zlD b hb0 w (ht.keptF hw))) ?_;rintro _ _ ⟨rfl,rfl⟩); (refine cM (Wt.none) rfl rfl (Ew.buildSlice rfl rfl rfl a7) ?_;rintro _ _ ⟨g13,rfl,rfl⟩); (refine cM (Wt.none) rfl rfl (Ew.append 1 0 rfl rfl rfl rfl rfl rfl a6 a6) ?_;rintro v14 _ ⟨hv14,rfl⟩);refine dc ?_;refine TL.nil (eQ (K.seq (T.region ?_)));refine ec ?_;refine cK (Yv.ci (b:=1#64) rfl rfl rfl) ?_;refine cK (f9) ?_;refine dc ?_;refine fO ?_;exact K.next (b &&& (b - 1#64),l++[ctz b],v14) (by dsimp only;rw [List.append_assoc,List.singleton_append,←zeE hb0];exact hphi) (by dsimp only;rw [zeE hb0];simp) (by repeat (first|exact Sub.nil|refine Sub.cons rfl ?_)) (by simp only [List.length_append,List.length_singleton,io,List.map_append,List.map_cons,List.map_nil];exact Sx)
  ·have p1:=h1; (try simp only [cT] at p1); (have hb0:b=0#64:=by refine BitVec.eq_of_toNat_eq ?_;show b.toNat=0;omega);subst hb0;rw [ziS,List.append_nil] at hphi;subst hphi;refine mh ?_;refine jE ?_;exact cU rfl rfl (fun w' hw=>⟨_,jG (hw.get (i:=0) rfl),rfl,hw.sub Sx⟩)
structure Tb where
 st:List Int
 ix:Nat→Int
 total:Int
 vps:List Value
 ps:Nat→List Pr
 vcs:List Value
 cs:Nat→List Cp
 vin:List Value
 inn:Nat→List Ld
 vout:List Value
 out:Nat→List Ld
abbrev Tb.n (T:Tb):Nat:=T.st.length
structure Lists {α:Type} (w:World) (p:Addr) (enc:α→List Value) (size:Nat) (vs:List Value) (n:Nat) (f:Nat→List α):Prop where
 at':∃v,w.cell? p=some v∧SlOf w v (fun u=>[u]) 1 vs
 len:vs.length=n
 each:∀i,i<n→SlOf w (cH vs i) enc size (f i)
structure TablesAt (w:World) (tp:Nat) (T:Tb):Prop where
 st:∃v,w.cell? ⟨tp,0,none⟩=some v∧zgn w v T.st
 ix:∀j,j<512→w.cell? ⟨tp,1+j,none⟩=some (.int .i64 (T.ix j))
 total:w.cell? ⟨tp,513,none⟩=some (.int .i64 T.total)
 ps:Lists w ⟨tp,514,none⟩ Pr.cells 5 T.vps T.n T.ps
 cs:Lists w ⟨tp,515,none⟩ Cp.cells 4 T.vcs T.n T.cs
 inn:Lists w ⟨tp,516,none⟩ Ld.cells 5 T.vin T.n T.inn
 out:Lists w ⟨tp,517,none⟩ Ld.cells 5 T.vout T.n T.out
structure Tb.Ok (T:Tb):Prop where
 n:T.n≤512
 ps:∀i,i<T.n→(T.ps i).length≤4096∧∀x∈T.ps i,0≤x.a∧x.a<T.n∧0≤x.b∧x.b<T.n∧ -1≤x.off∧x.off≤1∧2≤x.lo∧x.lo≤x.hi∧x.hi≤51∧(x.a=i∨x.b=i)
 cs:∀i,i<T.n→(T.cs i).length≤1024∧∀x∈T.cs i,0≤x.mx∧x.mx≤1099511627776∧2≤x.lo∧x.lo≤x.hi∧x.hi≤51
 inn:∀i,i<T.n→(T.inn i).length≤1024∧∀x∈T.inn i,x.to=i∧0≤x.fr∧x.fr<T.n∧1≤x.wt∧x.wt≤1073741824∧2≤x.lo∧x.lo≤x.hi∧x.hi≤51
 psS:∀i,i<T.n→∀x∈T.ps i,x.a≠x.b∧x∈T.ps x.a.toNat∧x∈T.ps x.b.toNat
 innS:∀i,i<T.n→∀x∈T.inn i,x.to≠x.fr∧x∈T.out x.fr.toNat
 outS:∀i,i<T.n→∀x∈T.out i,x.to≠x.fr∧x∈T.inn x.to.toNat
 out:∀i,i<T.n→(T.out i).length≤1024∧∀x∈T.out i,x.fr=i∧0≤x.to∧x.to<T.n∧1≤x.wt∧x.wt≤1073741824∧2≤x.lo∧x.lo≤x.hi∧x.hi≤51
def jx (w:World)(g:Nat):Prop:=∃cs t p,w.heap[g]?=some (.cells cs t p)
def Fz (w0 w:World):Prop:=∀g,jx w0 g→w.heap[g]?=w0.heap[g]?
theorem zej {w:World}{p:Addr}{v:Value}(h:w.cell? p=some v):jx w p.block:=by
 unfold World.cell? at h
 split at h
 ·rename_i hh;exact ⟨_,_,_,hh⟩
 ·cases h
theorem Fz.cell {w w':World}(hb:Fz w w'){p:Addr}{v:Value}(h:w.cell? p=some v):w'.cell? p=some v:=(World.cell?_of_block (w:=w) (hb _ (zej h))).trans h
theorem Fz.cs {w w':World}(hb:Fz w w'){g p:Nat}{l:List Value}(h:Cs w g p l):Cs w' g p l:=fun j hj=>by
 have:=h j hj;rw [List.getElem?_eq_getElem hj] at this ⊢;exact hb.cell this
theorem iY {w:World}{g p:Nat}{l:List Value}(h:Cs w g p l)(hl:0<l.length):jx w g:=by
 have:=h 0 hl;rw [List.getElem?_eq_getElem hl] at this;exact zej this
theorem Fz.sl {α:Type}{w w':World}(hb:Fz w w'){v:Value}{enc:α→List Value}{size:Nat}{xs:List α}(h:SlOf w v enc size xs):SlOf w' v enc size xs:=by
 obtain ⟨A,cap,rfl,hc⟩:=h;refine ⟨A,cap,rfl,fun hp=>?_⟩;obtain ⟨g,off,rfl,hcs⟩:=hc hp;exact ⟨g,off,rfl,fun i hi=>hb.cs (hcs i hi)⟩
theorem gR {w w':World}(hb:Below w.heap.size w w'):Fz w w':=fun g ⟨cs,t,p,h⟩=>hb.block g (Array.getElem?_eq_some_iff.1 h).1
theorem Fz.hp {w0 w w':World}{M:Nat→Prop}{hs:HS}(h:Fz w0 w)(hw:Hp w M hs w')(h0:∀g,M g→¬jx w0 g):Fz w0 w':=fun g hg=>by
 have h1:=h g hg;obtain ⟨cs,t,p,e⟩:=hg;rw [←h1];refine hw.base g ?_ (fun hm=>h0 g hm ⟨cs,t,p,e⟩);rw [e] at h1;exact (Array.getElem?_eq_some_iff.1 h1).1
theorem Lists.later {α:Type}{w w':World}(hb:Fz w w'){p:Addr}{enc:α→List Value}{size:Nat}{vs:List Value}{n:Nat}{f:Nat→List α}(h:Lists w p enc size vs n f):Lists w' p enc size vs n f:=
 ⟨by obtain ⟨v,h1,h2⟩:=h.at';exact ⟨v,hb.cell h1,hb.sl h2⟩,h.len,fun i hi=>hb.sl (h.each i hi)⟩
theorem TablesAt.later {w w':World}(hb:Fz w w'){tp:Nat}{T:Tb}(h:TablesAt w tp T):TablesAt w' tp T:=
 ⟨by obtain ⟨v,h1,h2⟩:=h.st;exact ⟨v,hb.cell h1,hb.sl h2⟩,fun j hj=>hb.cell (h.ix j hj),hb.cell h.total,h.ps.later hb,h.cs.later hb,h.inn.later hb,h.out.later hb⟩
def Le (b:BitVec 64):List Value:=[U b]
structure StateAt (w:World) (sp:Nat) (T:Tb) (L:Ws) (c:Bool):Prop where
 tab:Tab w
 tb:∃tp,w.cell? ⟨sp,0,none⟩=some (.pointer (some ⟨tp,0,none⟩))∧TablesAt w tp T
 left:∃v,w.cell? ⟨sp,1,none⟩=some v∧SlOf w v Le 1 L
 len:L.length=T.n
 con:w.cell? ⟨sp,2,none⟩=some (.bool c)
theorem StateAt.later {w w':World}(hb:Below w.heap.size w w'){sp:Nat}{T:Tb}{L:Ws}{c:Bool}(h:StateAt w sp T L c):StateAt w' sp T L c:=
 have hf:=gR hb
 ⟨h.tab.keptF (gW hb),by obtain ⟨tp,h1,h2⟩:=h.tb;exact ⟨tp,hf.cell h1,h2.later hf⟩,by obtain ⟨v,h1,h2⟩:=h.left;exact ⟨v,hf.cell h1,hf.sl h2⟩,h.len,hf.cell h.con⟩
theorem StateAt.kept {B w:World}{hs:HS}{sp:Nat}{T:Tb}{L:Ws}{c:Bool}(hw:Hp B (fun _=>False) hs w)(h:StateAt B sp T L c):StateAt w sp T L c:=h.later ⟨hw.os,hw.tape,hw.output,hw.size,fun k hk=>hw.base k hk (fun h=>h)⟩
def iV (b:BitVec 64):Nat:=if b≠0#64∧b &&& (b - 1#64)=0#64 then ctz b else 0
def only (L:Ws)(i:Nat):Nat:=iV (cH L i)
theorem zm5 (b:BitVec 64):iV b<64:=by
 unfold iV;split
 ·rename_i h;exact zgJ h.1
 ·decide
theorem zhA (L:Ws)(i:Nat):only L i<64:=zm5 _
def mj (L:Ws)(i:Nat)(g:BitVec 64)(x:Pr):BitVec 64:=
 if x.a=(i:Int) then
  if (only L x.b.toNat:Int)≠0∧x.lo≤(only L x.b.toNat:Int) - x.off∧(only L x.b.toNat:Int) - x.off≤x.hi then g ||| 1#64 <<< ((only L x.b.toNat:Int) - x.off).toNat else g
 else if x.lo≤(only L x.a.toNat:Int)∧(only L x.a.toNat:Int)≤x.hi then g ||| 1#64 <<< ((only L x.a.toNat:Int)+x.off).toNat else g
def lX (T:Tb)(L:Ws)(i:Nat):BitVec 64:=(T.ps i).foldl (mj L i) 0#64
theorem jn {α β:Type}[Inhabited α](f:β→α→β)(z:β){l:List α}{k:Nat}(h:k<l.length):(l.take (k+1)).foldl f z=f ((l.take k).foldl f z) (cH l k):=by
 rw [List.take_succ_eq_append_getElem h,d4 h,List.foldl_append];rfl
theorem zmt {b:BitVec 64}(h1:¬(b.toNat:Int)=0)(h2:((b &&& (b - 1#64)).toNat:Int)=0):iV b=ctz b:=by
 unfold iV;rw [if_pos ⟨by rintro rfl;exact h1 rfl,BitVec.eq_of_toNat_eq (by show _=0;omega)⟩]
theorem zny {b:BitVec 64}(h2:¬((b &&& (b - 1#64)).toNat:Int)=0):iV b=0:=by
 unfold iV;rw [if_neg (fun h=>h2 (by rw [h.2];rfl))]
theorem zml {b:BitVec 64}(h1:(b.toNat:Int)=0):iV b=0:=by
 unfold iV;rw [if_neg (fun h=>h.1 (BitVec.eq_of_toNat_eq (by show _=0;omega)))]
theorem zc9 (sp:Nat)(Y:Tb)(L:Ws)(c:Bool)(i:Nat)(z:Int)(hz:z=(i:Int))(hi:i<Y.n)(w:World)(h:StateAt w sp Y L c):Calls Tryz.prog 132 #[.pointer (some ⟨sp,0,none⟩), .int .i64 z] w fun e w'=>e= .returned (.int .i64 (only L i:Int))∧Below w.heap.size w w':=by
 subst hz;obtain ⟨tp,hsp0,hT⟩:=h.tb;obtain ⟨vL,hsp1,hL⟩:=h.left;obtain ⟨AL,capL,rfl,hLs⟩:=hL.op;have hLn:=h.len;obtain ⟨gL,oL,rfl,hc⟩:=hLs a6;have hk:=hc i a6;simp only [Le] at hk;refine dB (M:=fun _=>False) (hs:=[]) Tryz.func132 rfl rfl rfl (Hp.refl _ _) ?_;refine ic ?_;refine ij ?_;refine ec ?_;refine ft ?_;refine cK (dM rfl rfl cB (fun h=>h)) ?_;refine dc ?_;refine q1H ?_;refine gN ?_;refine fb ?_;refine dp rfl rfl rfl (fun h1=>?_) (fun h1=>?_)
 ·have p1:=h1; (try simp only [cT] at p1);refine jT ?_;refine jT ?_;refine cW (Wt.some rfl rfl rfl h1) rfl rfl (Yv.ci (b:=1#64) rfl rfl rfl) ?_;refine cW (Wt.some rfl rfl rfl h1) rfl rfl (f9) ?_;refine jT ?_;refine kH ?_;refine cR ?_;refine T.cond rfl (fun h2=>?_) (fun h2=>?_)
  ·have p2:=h2; (try simp only [cT] at p2); (have hne:cH L i≠0#64:=by intro hh;rw [hh] at p1;exact p1 rfl);refine ic ?_; (refine cM (Wt.none) rfl rfl (cL rfl rfl rfl (fun w hw=>zlD _ hne w (h.tab.keptF hw))) ?_;rintro _ _ ⟨rfl,rfl⟩);refine dc ?_;refine ky ?_;exact cU rfl rfl (fun w' hw=>⟨zcP (by rw [only,zmt p1 p2]),hw.isBelow⟩)
  ·have p2:=h2; (try simp only [cT] at p2);refine i1 ?_;refine fB ?_;exact cU rfl rfl (fun w' hw=>⟨zcP (by rw [only,zny p2];rfl),hw.isBelow⟩)
 ·have p1:=h1; (try simp only [cT] at p1);refine kb ?_;refine q1i ?_;refine mJ ?_;refine i1 ?_;refine fB ?_;exact cU rfl rfl (fun w' hw=>⟨zcP (by rw [only,zml p1];rfl),hw.isBelow⟩)
theorem zjr (sp:Nat)(Y:Tb)(L:Ws)(c:Bool)(i:Nat)(z:Int)(hz:z=(i:Int))(hi:i<Y.n)(w:World)(h:StateAt w sp Y L c)(hok:Y.Ok):Calls Tryz.prog 112 #[.pointer (some ⟨sp,0,none⟩), .int .i64 z] w fun e w'=>e= .returned (U (lX Y L i))∧Below w.heap.size w w':=by
 subst hz;obtain ⟨tp,hsp0,hT⟩:=h.tb;obtain ⟨vL,hsp1,hL⟩:=h.left;obtain ⟨AL,capL,rfl,hLs⟩:=hL.op;have hLn:=h.len;obtain ⟨vP,hP0,hP⟩:=hT.ps.at';obtain ⟨AP,capP,rfl,hPs⟩:=hP.op;have hPn:=hT.ps.len;obtain ⟨gP,oP,rfl,hPc⟩:=hPs a6;rw [hPn] at hP0;have hPi:=hPc i (by rw [hPn];exact hi);obtain ⟨BP,cpP,hvP,hslP⟩:=(hT.ps.each i hi).op;simp only [hvP] at hPi;obtain ⟨hlen,hrng⟩:=hok.ps i hi;have hn512:=hok.n;refine dB (M:=fun _=>False) (hs:=[]) Tryz.func112 rfl rfl rfl (Hp.refl _ _) ?_;refine l5 ?_;refine ij ?_;refine ec ?_;refine q1L ?_;refine cK (dM rfl rfl hP0 (fun h=>h)) ?_;refine lu ?_;refine cK (dW (j:=0) rfl rfl hPi rfl rfl (fun h=>h)) ?_;refine jz ?_;refine T.loop (ι:=Nat) (fun k=>[(0, .pointer (some ⟨sp,0,none⟩)),(1, .int .i64 (i:Int)),(5,U (((Y.ps i).take k).foldl (mj L i) 0#64)),(19, .slice BP (Y.ps i).length cpP),(20, .int .i64 ((Y.ps i).length:Int)),(21, .int .i64 (k:Int))]) (fun k=>[]) (fun k=>k≤(Y.ps i).length) (fun k=>(Y.ps i).length - k) 0 ?_ ?_ ?_ ?_
 ·omega
 ·exact (by repeat (first|exact Sub.nil|refine Sub.cons rfl ?_))
 ·exact Sx
 ·intro k hphi;refine fk ?_;refine T.cond rfl (fun h1=>?_) (fun h1=>?_)
  ·have p1:=h1; (try simp only [cT] at p1);obtain ⟨g,off,rfl,hc⟩:=hslP a6;have hk:=hc k a6;simp only [Pr.cells] at hk;have hr:=hrng _ (iR (xs:=Y.ps i) (k:=k) a6);have oa:=zhA L (cH (Y.ps i) k).a.toNat;have ob:=zhA L (cH (Y.ps i) k).b.toNat;refine fT ?_;refine lK ?_; (refine cM (Wt.none) rfl rfl (Ew.alloc) ?_;rintro _ _ ⟨g7,rfl,rfl⟩); (refine dJ (Wt.none) rfl (dG 0) ?_;rintro _ _ ⟨rfl,rfl⟩);refine dq ?_;refine em ?_;refine ji ?_;refine T.cond rfl (fun h2=>?_) (fun h2=>?_)
   ·have p2:=h2; (try simp only [cT] at p2);refine ic ?_;refine em ?_; (refine cM (Wt.none) rfl rfl (cL rfl rfl rfl (fun w hw=>zc9 sp Y L c (cH (Y.ps i) k).b.toNat _ a6 a6 w (h.kept hw))) ?_;rintro _ _ ⟨rfl,rfl⟩);refine gN ?_;refine fb ?_;refine dp rfl rfl rfl (fun h3=>?_) (fun h3=>?_)
    ·have p3:=h3; (try simp only [cT] at p3);refine q0O ?_;refine q1K ?_;refine q0O ?_;refine cW (Wt.some rfl rfl rfl h3) rfl rfl (ko rfl rfl rfl a6) ?_;refine q1K ?_;refine q3u ?_;refine dc ?_;refine dp rfl rfl rfl (fun h4=>?_) (fun h4=>?_)
     ·have p4:=h4; (try simp only [cT] at p4);refine cW (Wt.some rfl rfl rfl h4) rfl rfl (dY) ?_;refine q0P ?_;refine cW (Wt.some rfl rfl rfl h4) rfl rfl (ko rfl rfl rfl a6) ?_;refine q0P ?_;refine cW (Wt.some rfl rfl rfl h4) rfl rfl (dY) ?_;refine cK (eC rfl rfl h4) ?_;refine cR ?_;refine T.cond rfl (fun h5=>?_) (fun h5=>?_)
      ·have p5:=h5; (try simp only [cT] at p5);refine jO ?_;refine em ?_;refine q3i ?_;refine cK (it (a:=1#64) ((only L (cH (Y.ps i) k).b.toNat:Int) - (cH (Y.ps i) k).off).toNat rfl rfl rfl a6 a6) ?_;refine q3o ?_;exact K.next (k+1) a6 a6 (by rw [jn _ _ a6,mj,if_pos p2,if_pos ⟨p3,p4,p5⟩];exact (by repeat (first|exact Sub.nil|refine Sub.cons rfl ?_))) Sx
      ·have p5:=h5; (try simp only [cT] at p5);refine iK ?_;exact K.next (k+1) a6 a6 (by rw [jn _ _ a6,mj,if_pos p2,if_neg (fun hh=>absurd hh.2.2 a6)];exact (by repeat (first|exact Sub.nil|refine Sub.cons rfl ?_))) Sx
     ·have p4:=h4; (try simp only [cT] at p4);refine q0p ?_;refine q0p ?_;refine TL.off (Wt.not rfl rfl rfl h4) rfl rfl ?_;refine cK (ef rfl rfl h4) ?_;refine mJ ?_;refine iK ?_;exact K.next (k+1) a6 a6 (by rw [jn _ _ a6,mj,if_pos p2,if_neg (fun hh=>absurd hh.2.1 a6)];exact (by repeat (first|exact Sub.nil|refine Sub.cons rfl ?_))) Sx
    ·have p3:=h3; (try simp only [cT] at p3);refine q0q ?_;refine q21 ?_;refine TL.run 9 rfl ?_;refine mJ ?_;refine iK ?_;exact K.next (k+1) a6 a6 (by rw [jn _ _ a6,mj,if_pos p2,if_neg (fun hh=>hh.1 p3)];exact (by repeat (first|exact Sub.nil|refine Sub.cons rfl ?_))) Sx
   ·have p2:=h2; (try simp only [cT] at p2);refine ic ?_;refine em ?_; (refine cM (Wt.none) rfl rfl (cL rfl rfl rfl (fun w hw=>zc9 sp Y L c (cH (Y.ps i) k).a.toNat _ a6 a6 w (h.kept hw))) ?_;rintro _ _ ⟨rfl,rfl⟩);refine gN ?_;refine em ?_;refine fb ?_;refine dp rfl rfl rfl (fun h6=>?_) (fun h6=>?_)
    ·have p6:=h6; (try simp only [cT] at p6);refine q15 ?_;refine cR ?_;refine T.cond rfl (fun h7=>?_) (fun h7=>?_)
     ·have p7:=h7; (try simp only [cT] at p7);refine jO ?_;refine em ?_;refine q0f ?_;refine cK (it (a:=1#64) ((only L (cH (Y.ps i) k).a.toNat:Int)+(cH (Y.ps i) k).off).toNat rfl rfl rfl a6 a6) ?_;refine q3o ?_;exact K.next (k+1) a6 a6 (by rw [jn _ _ a6,mj,if_neg p2,if_pos ⟨p6,p7⟩];exact (by repeat (first|exact Sub.nil|refine Sub.cons rfl ?_))) Sx
     ·have p7:=h7; (try simp only [cT] at p7);refine iK ?_;exact K.next (k+1) a6 a6 (by rw [jn _ _ a6,mj,if_neg p2,if_neg (fun hh=>absurd hh.2 a6)];exact (by repeat (first|exact Sub.nil|refine Sub.cons rfl ?_))) Sx
    ·have p6:=h6; (try simp only [cT] at p6);refine q0Z ?_;refine q0Z ?_;refine cK (ef rfl rfl h6) ?_;refine mJ ?_;refine iK ?_;exact K.next (k+1) a6 a6 (by rw [jn _ _ a6,mj,if_neg p2,if_neg (fun hh=>absurd hh.1 a6)];exact (by repeat (first|exact Sub.nil|refine Sub.cons rfl ?_))) Sx
  ·have p1:=h1; (try simp only [cT] at p1);refine mh ?_;refine jE ?_;exact cU rfl rfl (fun w' hw=>⟨by rw [lX,List.take_of_length_le a6],hw.isBelow⟩)
def lM (f:Nat→Int):List Value:=(List.range 52).map fun d=> .int .i64 (f d)
theorem zi1 (f:Nat→Int):(lM f).length=52:=by simp [lM]
theorem zf2 {f:Nat→Int}{d p:Nat}(hp:p=d)(hd:d<52):(lM f)[p]?=some (.int .i64 (f d)):=by subst hp;simp [lM,hd]
theorem zje {f f':Nat→Int}{d p:Nat}{v:Int}(hp:p=d)(hd:d<52)(h1:f' d=v)(h2:∀e,e≠d→f' e=f e):(lM f).set p (.int .i64 v)=lM f':=by
 subst hp h1;apply List.ext_getElem?;intro e;unfold lM;by_cases he:e=p
 ·subst he;rw [List.getElem?_set_self (by simpa using hd)];simp [hd]
 ·rw [List.getElem?_set_ne (fun h=>he h.symm)];simp only [List.getElem?_map,List.getElem?_range];by_cases h52:e<52
  ·simp [h52,h2 e he]
  ·simp [h52]
def jS (L:Ws)(f:Nat→Int)(x:Ld):Nat→Int:=fun d=>if x.lo≤(only L x.fr.toNat:Int)∧(only L x.fr.toNat:Int)≤x.hi∧only L x.fr.toNat=d then f d+x.wt else f d
def iu (L:Ws)(l:List Ld):Nat→Int:=l.foldl (jS L) (fun _=>0)
theorem zlz (L:Ws):∀(l:List Ld),(∀x∈l,1≤x.wt∧x.wt≤1073741824)→∀(f:Nat→Int) (b:Int),(∀d,0≤f d∧f d≤b)→∀d,0≤l.foldl (jS L) f d∧l.foldl (jS L) f d≤b+1073741824* (l.length:Int)
 | [],_,f,b,hf,d=>by simpa using hf d
 |x :: r,hx,f,b,hf,d=>by
  have h1:=hx x b2
  have:=zlz L r (fun y hy=>hx y (by simp [hy])) (jS L f x) (b+1073741824) (fun e=>by
   have:=hf e
   unfold jS;split <;> omega) d
  simp only [List.foldl_cons,List.length_cons];omega
def ziG (f:Nat→Int)(mx:Int)(g:BitVec 64)(d:Nat):BitVec 64:=if mx<f d then g ||| 1#64 <<< d else g
def zeJ (f:Nat→Int)(g:BitVec 64)(x:Cp):BitVec 64:=(List.range' x.lo.toNat (x.hi.toNat+1 - x.lo.toNat)).foldl (ziG f x.mx) g
def kN (Y:Tb)(L:Ws)(i:Nat):BitVec 64:=(Y.cs i).foldl (zeJ (iu L (Y.inn i))) 0#64
theorem zeX {L:Ws}{l:List Ld}{k:Nat}(h:k<l.length):iu L (l.take (k+1))=jS L (iu L (l.take k)) (cH l k):=jn _ _ h
theorem znD {L:Ws}{l:List Ld}(hl:l.length≤1024)(hw:∀x∈l,1≤x.wt∧x.wt≤1073741824)(k d:Nat):0≤iu L (l.take k) d∧iu L (l.take k) d≤1099511627776:=by
 have:=zlz L (l.take k) (fun x hx=>hw x (List.mem_of_mem_take hx)) (fun _=>0) 0 (fun _=>⟨by simp,by simp⟩) d; (have hk:(l.take k).length≤1024:=by rw [List.length_take];omega);unfold iu;omega
def jR (L:Ws)(i d:Nat)(s:Int)(x:Ld):Int:=if (x.lo≤(d:Int)∧(d:Int)≤x.hi)∧(x.fr=(i:Int)∨only L x.fr.toNat=d) then s+x.wt else s
theorem znk (L:Ws)(i d:Nat):∀(l:List Ld),(∀x∈l,1≤x.wt∧x.wt≤1073741824)→∀(s:Int),0≤s→0≤l.foldl (jR L i d) s∧l.foldl (jR L i d) s≤s+1073741824* (l.length:Int)
 | [],_,s,h=>by simp;exact h
 |x :: r,hx,s,h=>by
  have h1:=hx x b2; (have hs:0≤jR L i d s x∧jR L i d s x≤s+1073741824:=by unfold jR;split <;> omega);have:=znk L i d r (fun y hy=>hx y (by simp [hy])) (jR L i d s x) hs.1;simp only [List.foldl_cons,List.length_cons];omega
def jU (L:Ws)(i d:Nat)(l:List Ld):Int:=l.foldl (jR L i d) 0
theorem zoC {L:Ws}{l:List Ld}{i d:Nat}(hl:l.length≤1024)(hw:∀x∈l,1≤x.wt∧x.wt≤1073741824)(k:Nat):0≤jU L i d (l.take k)∧jU L i d (l.take k)≤1099511627776:=by
 have:=znk L i d (l.take k) (fun x hx=>hw x (List.mem_of_mem_take hx)) 0 (Int.le_refl _); (have hk:(l.take k).length≤1024:=by rw [List.length_take];omega);unfold jU;omega
def zdU (lost:Int)(d:Nat)(g:BitVec 64)(x:Cp):BitVec 64:=if (x.lo≤(d:Int)∧(d:Int)≤x.hi)∧x.mx<lost then g ||| 1#64 <<< d else g
def kV (Y:Tb)(L:Ws)(i:Nat)(g:BitVec 64)(x:Ld):BitVec 64:=
 if ((only L x.to.toNat:Int)<x.lo∨x.hi<(only L x.to.toNat:Int))∨g.getLsbD (only L x.to.toNat)=true then g
 else (Y.cs x.to.toNat).foldl (zdU (jU L i (only L x.to.toNat) (Y.inn x.to.toNat)) (only L x.to.toNat)) g
def mb (Y:Tb)(L:Ws)(i:Nat):BitVec 64:=(Y.out i).foldl (kV Y L i) 0#64
theorem zj6 (sp:Nat)(Y:Tb)(L:Ws)(c:Bool)(i:Nat)(z:Int)(hz:z=(i:Int))(hi:i<Y.n)(w:World)(h:StateAt w sp Y L c)(hok:Y.Ok):Calls Tryz.prog 113 #[.pointer (some ⟨sp,0,none⟩), .int .i64 z] w fun e w'=>e= .returned (U (kN Y L i))∧Below w.heap.size w w':=by
 subst hz;obtain ⟨tp,hsp0,hT⟩:=h.tb;obtain ⟨vL,hsp1,hL⟩:=h.left;obtain ⟨AL,capL,rfl,hLs⟩:=hL.op;have hLn:=h.len;obtain ⟨vC,hC0,hC⟩:=hT.cs.at';obtain ⟨AC,capC,rfl,hCs⟩:=hC.op;have hCn:=hT.cs.len;obtain ⟨gC,oC,rfl,hCc⟩:=hCs a6;rw [hCn] at hC0;have hCi:=hCc i (by rw [hCn];exact hi);obtain ⟨BC,cpC,hvC,hslC⟩:=(hT.cs.each i hi).op;simp only [hvC] at hCi;obtain ⟨vI,hI0,hI⟩:=hT.inn.at';obtain ⟨AI,capI,rfl,hIs⟩:=hI.op;have hIn:=hT.inn.len;obtain ⟨gI,oI,rfl,hIc⟩:=hIs a6;rw [hIn] at hI0;have hIi:=hIc i (by rw [hIn];exact hi);obtain ⟨BI,cpI,hvI,hslI⟩:=(hT.inn.each i hi).op;simp only [hvI] at hIi;obtain ⟨hlenC,hrngC⟩:=hok.cs i hi;obtain ⟨hlen,hrng⟩:=hok.inn i hi;have hn512:=hok.n; (have hwt:∀x∈Y.inn i,1≤x.wt∧x.wt≤1073741824:=fun x hx=>by have:=hrng x hx;omega);refine dB (M:=fun _=>False) (hs:=[]) Tryz.func113 rfl rfl rfl (Hp.refl _ _) ?_;refine q3b ?_;refine q3B ?_;refine dR ?_;refine T.cond rfl (fun h1=>?_) (fun h1=>?_)
 ·have p1:=h1; (try simp only [cT] at p1);refine ja ?_;exact cU rfl rfl (fun w' hw=>⟨by rw [kN,List.eq_nil_of_length_eq_zero (show (Y.cs i).length=0 by omega)];rfl,hw.isBelow⟩)
 ·have p1:=h1; (try simp only [cT] at p1);refine i1 ?_; (refine cM (Wt.none) rfl rfl (Ew.alloc) ?_;rintro _ _ ⟨g5,rfl,rfl⟩);refine cR ?_;refine T.cut (gs:=[(0, .pointer (some ⟨sp,0,none⟩)),(1, .int .i64 (i:Int)),(5, .pointer (some ⟨g5,0,none⟩))]) (hs':=[.row g5 190 (lM (iu L (Y.inn i)))]) ?_ ?_
  ·skip;refine i4 ?_;refine q1L ?_;refine cK (dM rfl rfl hI0 (fun h=>h)) ?_;refine lu ?_;refine cK (dW (j:=0) rfl rfl hIi rfl rfl (fun h=>h)) ?_;refine jz ?_;refine T.loop (ι:=Nat) (fun k=>[(0, .pointer (some ⟨sp,0,none⟩)),(1, .int .i64 (i:Int)),(5, .pointer (some ⟨g5,0,none⟩)),(34, .slice BI (Y.inn i).length cpI),(35, .int .i64 ((Y.inn i).length:Int)),(36, .int .i64 (k:Int))]) (fun k=>[.row g5 190 (lM (iu L ((Y.inn i).take k)))]) (fun k=>k≤(Y.inn i).length) (fun k=>(Y.inn i).length - k) 0 ?_ ?_ ?_ ?_
   ·omega
   ·exact (by repeat (first|exact Sub.nil|refine Sub.cons rfl ?_))
   ·exact Sx
   ·intro k hphi;refine fk ?_;refine T.cond rfl (fun h2=>?_) (fun h2=>?_)
    ·have p2:=h2; (try simp only [cT] at p2);obtain ⟨g,off,rfl,hc⟩:=hslI a6;have hk:=hc k a6;simp only [Ld.cells] at hk;have hr:=hrng _ (iR (xs:=Y.inn i) (k:=k) a6);have oa:=zhA L (cH (Y.inn i) k).fr.toNat;refine fT ?_;refine lK ?_; (refine cM (Wt.none) rfl rfl (Ew.alloc) ?_;rintro _ _ ⟨g7,rfl,rfl⟩); (refine dJ (Wt.none) rfl (dG 0) ?_;rintro _ _ ⟨rfl,rfl⟩);refine dq ?_;refine i7 ?_; (refine cM (Wt.none) rfl rfl (cL rfl rfl rfl (fun w hw=>zc9 sp Y L c (cH (Y.inn i) k).fr.toNat _ a6 a6 w (h.kept hw))) ?_;rintro _ _ ⟨rfl,rfl⟩);refine gN ?_;refine em ?_;refine fb ?_;refine dp rfl rfl rfl (fun h3=>?_) (fun h3=>?_)
     ·have p3:=h3; (try simp only [cT] at p3);refine q1K ?_;refine q0O ?_;refine q1K ?_;refine q3u ?_;refine cR ?_;refine T.cond rfl (fun h4=>?_) (fun h4=>?_)
      ·have p4:=h4; (try simp only [cT] at p4);have hld:=zf2 (f:=iu L ((Y.inn i).take k)) (d:=only L (cH (Y.inn i) k).fr.toNat) (p:=0+only L (cH (Y.inn i) k).fr.toNat*1) a6 a6;have hbd:=znD (L:=L) hlen hwt k (only L (cH (Y.inn i) k).fr.toNat);refine dF (sN 0 2 (sN 3 2 (.eff 2 (sN 5 2 (.eff 7 .done))))) (List.eraseIdx _ 1) a8 (List.eraseIdx_sublist _ _) ?_;refine eR ?_;refine cN rfl (ed rfl rfl rfl rfl a6) ?_;refine lR ?_;refine ez rfl (Wt.none) rfl rfl (cX 1 rfl rfl rfl hld) Sx ?_;refine cN rfl (lB rfl rfl rfl a6) ?_;refine cN rfl (ed rfl rfl rfl rfl a6) ?_;refine dx ?_; (refine dD rfl (Wt.none) rfl (iL 1 (lM (iu L ((Y.inn i).take (k+1)))) rfl rfl rfl rfl (by rw [zi1];omega) (zje (d:=only L (cH (Y.inn i) k).fr.toNat) a6 a6 (by rw [zeX a6,jS,if_pos ⟨by omega,by omega,rfl⟩]) (fun e he=>by rw [zeX a6,jS,if_neg (fun hh=>he hh.2.2.symm)]))) ?_;rintro _ _ ⟨rfl,rfl⟩;refine ⟨Sx,?_⟩);refine q1W ?_;exact K.next (k+1) a6 a6 (by repeat (first|exact Sub.nil|refine Sub.cons rfl ?_)) Sx
      ·have p4:=h4; (try simp only [cT] at p4);refine iK ?_;exact K.next (k+1) a6 a6 (by repeat (first|exact Sub.nil|refine Sub.cons rfl ?_)) (by rw [zeX a6,show jS L (iu L ((Y.inn i).take k)) (cH (Y.inn i) k)=iu L ((Y.inn i).take k) from funext fun d=>by unfold jS;exact if_neg (fun hh=>absurd hh.2.1 a6)];exact Sx)
     ·have p3:=h3; (try simp only [cT] at p3);refine q21 ?_;refine mJ ?_;refine iK ?_;exact K.next (k+1) a6 a6 (by repeat (first|exact Sub.nil|refine Sub.cons rfl ?_)) (by rw [zeX a6,show jS L (iu L ((Y.inn i).take k)) (cH (Y.inn i) k)=iu L ((Y.inn i).take k) from funext fun d=>by unfold jS;exact if_neg (fun hh=>absurd hh.1 a6)];exact Sx)
    ·have p2:=h2; (try simp only [cT] at p2);refine fu ?_;exact K.at (by repeat (first|exact Sub.nil|refine Sub.cons rfl ?_)) (by rw [show (Y.inn i).take k=Y.inn i from List.take_of_length_le a6];exact Sx)
  ·skip;refine q3b ?_;refine jz ?_;refine T.loop (ι:=Nat) (fun k=>[(0, .pointer (some ⟨sp,0,none⟩)),(1, .int .i64 (i:Int)),(5, .pointer (some ⟨g5,0,none⟩)),(9,U (((Y.cs i).take k).foldl (zeJ (iu L (Y.inn i))) 0#64)),(71, .slice BC (Y.cs i).length cpC),(72, .int .i64 ((Y.cs i).length:Int)),(73, .int .i64 (k:Int))]) (fun k=>[.row g5 190 (lM (iu L (Y.inn i)))]) (fun k=>k≤(Y.cs i).length) (fun k=>(Y.cs i).length - k) 0 ?_ ?_ ?_ ?_
   ·omega
   ·exact (by repeat (first|exact Sub.nil|refine Sub.cons rfl ?_))
   ·exact Sx
   ·intro k hphi;refine fk ?_;refine T.cond rfl (fun h5=>?_) (fun h5=>?_)
    ·have p5:=h5; (try simp only [cT] at p5);obtain ⟨g,off,rfl,hc⟩:=hslC a6;have hk:=hc k a6;simp only [Cp.cells] at hk;have hr:=hrngC _ (iR (xs:=Y.cs i) (k:=k) a6);refine T.skip (K.seq ?_);refine T.cut (gs:=[(0, .pointer (some ⟨sp,0,none⟩)),(1, .int .i64 (i:Int)),(5, .pointer (some ⟨g5,0,none⟩)),(9,U (((Y.cs i).take (k+1)).foldl (zeJ (iu L (Y.inn i))) 0#64)),(71, .slice (some ⟨g,off,none⟩) (Y.cs i).length cpC),(72, .int .i64 ((Y.cs i).length:Int)),(73, .int .i64 (k:Int))]) (hs':=[.row g5 190 (lM (iu L (Y.inn i)))]) ?_ ?_
     ·skip;refine T.block (dd ?_);refine lK ?_; (refine cM (Wt.none) rfl rfl (Ew.alloc) ?_;rintro _ _ ⟨g11,rfl,rfl⟩); (refine dJ (Wt.none) rfl (dG 0) ?_;rintro _ _ ⟨rfl,rfl⟩);refine dq ?_;refine em ?_;refine dc ?_;refine cR (T.block ?_);refine T.loop (ι:=Nat) (fun j=>[(0, .pointer (some ⟨sp,0,none⟩)),(1, .int .i64 (i:Int)),(5, .pointer (some ⟨g5,0,none⟩)),(9,U ((List.range' (cH (Y.cs i) k).lo.toNat j).foldl (ziG (iu L (Y.inn i)) (cH (Y.cs i) k).mx) (((Y.cs i).take k).foldl (zeJ (iu L (Y.inn i))) 0#64))),(11, .pointer (some ⟨g11,0,none⟩)),(12, .int .i64 ((cH (Y.cs i) k).lo+(j:Int))),(71, .slice (some ⟨g,off,none⟩) (Y.cs i).length cpC),(72, .int .i64 ((Y.cs i).length:Int)),(73, .int .i64 (k:Int))]) (fun j=>[.row g11 73 [.int .i64 (cH (Y.cs i) k).st, .int .i64 (cH (Y.cs i) k).mx, .int .i64 (cH (Y.cs i) k).lo, .int .i64 (cH (Y.cs i) k).hi], .row g5 190 (lM (iu L (Y.inn i)))]) (fun j=>(cH (Y.cs i) k).lo+(j:Int)≤(cH (Y.cs i) k).hi+1) (fun j=>((cH (Y.cs i) k).hi+1 - (cH (Y.cs i) k).lo).toNat - j) 0 ?_ ?_ ?_ ?_
      ·omega
      ·exact (by repeat (first|exact Sub.nil|refine Sub.cons rfl ?_|(refine dU rfl a6 ?_)))
      ·exact Sx
      ·intro j hphi;refine iX ?_;refine i7 ?_;refine dR ?_;refine T.cond rfl (fun h6=>?_) (fun h6=>?_)
       ·have p6:=h6; (try simp only [cT] at p6);have hld:=zf2 (f:=iu L (Y.inn i)) (d:=(cH (Y.cs i) k).lo.toNat+j) (p:=0+((cH (Y.cs i) k).lo.toNat+j) *1) a6 a6;refine lA ?_;refine dF (sN 0 5 (.still 5 .done)) _ a8 (List.Sublist.refl _) ?_;refine eR ?_;refine cN rfl (ed rfl rfl rfl (show (_:Int)=(((cH (Y.cs i) k).lo.toNat+j:Nat):Int) from by omega) a6) ?_;refine cN rfl (cX 1 rfl rfl rfl hld) ?_;refine eW ?_;refine kM ?_;refine T.cond rfl (fun h7=>?_) (fun h7=>?_)
        ·have p7:=h7; (try simp only [cT] at p7);refine jO ?_;refine cK (it (a:=1#64) ((cH (Y.cs i) k).lo.toNat+j) rfl rfl rfl a6 a6) ?_;refine cK (jl) ?_;refine dc ?_;refine TL.nil (eQ (K.seq (T.region ?_)));refine dc ?_;refine ku ?_;exact K.next (j+1) a6 a6 (by rw [List.range'_1_concat,List.foldl_append];simp only [List.foldl_cons,List.foldl_nil];rw [ziG,if_pos a6];repeat (first|exact Sub.nil|refine Sub.cons rfl ?_|(refine dU rfl a6 ?_))) Sx
        ·have p7:=h7; (try simp only [cT] at p7);refine iS ?_;exact K.next (j+1) a6 a6 (by rw [List.range'_1_concat,List.foldl_append];simp only [List.foldl_cons,List.foldl_nil];rw [ziG,if_neg a6];repeat (first|exact Sub.nil|refine Sub.cons rfl ?_|(refine dU rfl a6 ?_))) Sx
       ·have p6:=h6; (try simp only [cT] at p6);refine T.exit (d3 (d3 (fy (eQ ?_))));exact K.at (by rw [jn _ _ a6,zeJ,show (cH (Y.cs i) k).hi.toNat+1 - (cH (Y.cs i) k).lo.toNat=j by omega];exact (by repeat (first|exact Sub.nil|refine Sub.cons rfl ?_))) Sx
     ·skip;refine fN ?_;refine ku ?_;exact K.next (k+1) a6 a6 (by repeat (first|exact Sub.nil|refine Sub.cons rfl ?_)) Sx
    ·have p5:=h5; (try simp only [cT] at p5);refine mh ?_;refine jE ?_;exact cU rfl rfl (fun w' hw=>⟨by rw [kN,List.take_of_length_le a6],hw.isBelow⟩)
theorem ze8 {L:Ws}{i d:Nat}{l:List Ld}{k:Nat}(h:k<l.length):jU L i d (l.take (k+1))=jR L i d (jU L i d (l.take k)) (cH l k):=jn _ _ h
theorem ziU (sp:Nat)(Y:Tb)(L:Ws)(c:Bool)(i:Nat)(z:Int)(hz:z=(i:Int))(hi:i<Y.n)(w:World)(h:StateAt w sp Y L c)(hok:Y.Ok):Calls Tryz.prog 114 #[.pointer (some ⟨sp,0,none⟩), .int .i64 z] w fun e w'=>e= .returned (U (mb Y L i))∧Below w.heap.size w w':=by
 subst hz;obtain ⟨tp,hsp0,hT⟩:=h.tb;obtain ⟨vL,hsp1,hL⟩:=h.left;obtain ⟨AL,capL,rfl,hLs⟩:=hL.op;have hLn:=h.len;obtain ⟨vO,hO0,hO⟩:=hT.out.at';obtain ⟨AO,capO,rfl,hOs⟩:=hO.op;have hOn:=hT.out.len;obtain ⟨gO,oO,rfl,hOc⟩:=hOs a6;rw [hOn] at hO0;have hOi:=hOc i (by rw [hOn];exact hi);obtain ⟨BO,cpO,hvO,hslO⟩:=(hT.out.each i hi).op;simp only [hvO] at hOi;obtain ⟨vI,hI0,hI⟩:=hT.inn.at';obtain ⟨AI,capI,rfl,hIs⟩:=hI.op;have hIn:=hT.inn.len;obtain ⟨gI,oI,rfl,hIc⟩:=hIs a6;rw [hIn] at hI0;obtain ⟨vC,hC0,hC⟩:=hT.cs.at';obtain ⟨AC,capC,rfl,hCs⟩:=hC.op;have hCn:=hT.cs.len;obtain ⟨gC,oC,rfl,hCc⟩:=hCs a6;rw [hCn] at hC0;obtain ⟨hlen,hrng⟩:=hok.out i hi;have hn512:=hok.n;refine dB (M:=fun _=>False) (hs:=[]) Tryz.func114 rfl rfl rfl (Hp.refl _ _) ?_;refine l5 ?_;refine ij ?_;refine ec ?_;refine q1L ?_;refine cK (dM rfl rfl hO0 (fun h=>h)) ?_;refine lu ?_;refine cK (dW (j:=0) rfl rfl hOi rfl rfl (fun h=>h)) ?_;refine jz ?_;refine T.loop (ι:=Nat) (fun k=>[(0, .pointer (some ⟨sp,0,none⟩)),(1, .int .i64 (i:Int)),(23, .slice BO (Y.out i).length cpO),(24, .int .i64 ((Y.out i).length:Int)),(25, .int .i64 (k:Int)),(5,U (((Y.out i).take k).foldl (kV Y L i) 0#64))]) (fun k=>[]) (fun k=>k≤(Y.out i).length) (fun k=>(Y.out i).length - k) 0 ?_ ?_ ?_ ?_
 ·omega
 ·exact (by repeat (first|exact Sub.nil|refine Sub.cons rfl ?_))
 ·exact Sx
 ·intro k hphi;refine fk ?_;refine T.cond rfl (fun h1=>?_) (fun h1=>?_)
  ·have p1:=h1; (try simp only [cT] at p1);obtain ⟨g,off,rfl,hc⟩:=hslO a6;have hk:=hc k a6;simp only [Ld.cells] at hk;have hr:=hrng _ (iR (xs:=Y.out i) (k:=k) a6);have oa:=zhA L (cH (Y.out i) k).to.toNat; (have htn:(cH (Y.out i) k).to.toNat<Y.n:=by omega);obtain ⟨hlenI,hrngI⟩:=hok.inn _ htn;obtain ⟨hlenC,hrngC⟩:=hok.cs _ htn; (have hwt:∀x∈Y.inn (cH (Y.out i) k).to.toNat,1≤x.wt∧x.wt≤1073741824:=fun x hx=>by have:=hrngI x hx;omega);have hIi:=hIc (cH (Y.out i) k).to.toNat (by rw [hIn];exact htn);obtain ⟨BI,cpI,hvI,hslI⟩:=(hT.inn.each (cH (Y.out i) k).to.toNat htn).op;simp only [hvI] at hIi;have hCi:=hCc (cH (Y.out i) k).to.toNat (by rw [hCn];exact htn);obtain ⟨BC,cpC,hvC,hslC⟩:=(hT.cs.each (cH (Y.out i) k).to.toNat htn).op;simp only [hvC] at hCi;refine T.skip (K.seq ?_);refine T.cut (gs:=[(0, .pointer (some ⟨sp,0,none⟩)),(1, .int .i64 (i:Int)),(23, .slice (some ⟨g,off,none⟩) (Y.out i).length cpO),(24, .int .i64 ((Y.out i).length:Int)),(25, .int .i64 (k:Int)),(5,U (((Y.out i).take (k+1)).foldl (kV Y L i) 0#64))]) (hs':=[]) ?_ ?_
   ·skip;refine T.block (dd ?_);refine lK ?_; (refine cM (Wt.none) rfl rfl (Ew.alloc) ?_;rintro _ _ ⟨g7,rfl,rfl⟩); (refine dJ (Wt.none) rfl (dG 0) ?_;rintro _ _ ⟨rfl,rfl⟩);refine dq ?_;refine i7 ?_; (refine cM (Wt.none) rfl rfl (cL rfl rfl rfl (fun w hw=>zc9 sp Y L c ((cH (Y.out i) k).to.toNat) _ a6 a6 w (h.kept hw))) ?_;rintro _ _ ⟨rfl,rfl⟩);refine jD ?_;refine i7 ?_;refine ec ?_;refine dp rfl rfl rfl (fun h2=>?_) (fun h2=>?_)
    ·have p2:=h2; (try simp only [cT] at p2);refine q0j ?_;refine TL.off (Wt.not rfl rfl rfl h2) rfl rfl ?_;refine q2E ?_;refine TL.run 7 rfl ?_;refine mi ?_;refine T.exit (d3 (fy ?_)); (refine K.at ?_ Sx;rw [jn _ _ a6,kV,if_pos (.inl a6)];exact (by repeat (first|exact Sub.nil|refine Sub.cons rfl ?_)))
    ·have p2:=h2; (try simp only [cT] at p2);refine mp ?_;refine mw ?_;refine mp ?_;refine q3T ?_;refine dc ?_;refine dp rfl rfl rfl (fun h3=>?_) (fun h3=>?_)
     ·have p3:=h3; (try simp only [cT] at p3);refine q0q ?_;refine TL.off (Wt.not rfl rfl rfl h3) rfl rfl ?_;refine TL.off (Wt.not rfl rfl rfl h3) rfl rfl ?_;refine q3u ?_;refine mi ?_;refine T.exit (d3 (fy ?_)); (refine K.at ?_ Sx;rw [jn _ _ a6,kV,if_pos (.inl a6)];exact (by repeat (first|exact Sub.nil|refine Sub.cons rfl ?_)))
     ·have p3:=h3; (try simp only [cT] at p3);refine q1K ?_;refine q1K ?_;refine cW (Wt.some rfl rfl rfl h3) rfl rfl (gz (only L (cH (Y.out i) k).to.toNat) rfl rfl rfl rfl a6) ?_;refine cW (Wt.some rfl rfl rfl h3) rfl rfl (f9 (b:=1#64)) ?_;refine q1K ?_;refine cK (ef rfl rfl h3) ?_;refine cR ?_;refine T.cond rfl (fun h4=>?_) (fun h4=>?_)
      ·have p4:=h4; (try simp only [cT] at p4); (have hbit:((((Y.out i).take k).foldl (kV Y L i) 0#64)).getLsbD (only L (cH (Y.out i) k).to.toNat)=true:=by rw [←ziI];exact decide_eq_true cB);refine T.exit (d3 (fy ?_)); (have hb:=hbit;refine K.at ?_ Sx;rw [jn _ _ a6,kV,if_pos (.inr hb)];exact (by repeat (first|exact Sub.nil|refine Sub.cons rfl ?_)))
      ·have p4:=h4; (try simp only [cT] at p4); (have hno:¬(((only L (cH (Y.out i) k).to.toNat:Int)<(cH (Y.out i) k).lo∨(cH (Y.out i) k).hi<(only L (cH (Y.out i) k).to.toNat:Int))∨((((Y.out i).take k).foldl (kV Y L i) 0#64)).getLsbD (only L (cH (Y.out i) k).to.toNat)=true):=by rintro ((hh|hh)|hh);omega;omega;rw [←ziI] at hh;exact absurd (of_decide_eq_true hh) cB);refine i1 ?_;refine dR ?_;refine T.cut (gs:=[(0, .pointer (some ⟨sp,0,none⟩)),(1, .int .i64 (i:Int)),(23, .slice (some ⟨g,off,none⟩) (Y.out i).length cpO),(24, .int .i64 ((Y.out i).length:Int)),(25, .int .i64 (k:Int)),(7, .pointer (some ⟨g7,0,none⟩)),(8, .int .i64 (only L (cH (Y.out i) k).to.toNat:Int)),(5,U (((Y.out i).take k).foldl (kV Y L i) 0#64)),(9, .int .i64 (jU L i (only L (cH (Y.out i) k).to.toNat) (Y.inn (cH (Y.out i) k).to.toNat)))]) (hs':=[.row g7 71 [.int .i64 (cH (Y.out i) k).to, .int .i64 (cH (Y.out i) k).fr, .int .i64 (cH (Y.out i) k).wt, .int .i64 (cH (Y.out i) k).lo, .int .i64 (cH (Y.out i) k).hi]]) ?_ ?_
       ·skip;refine T.seq ?_;refine q1e ?_;refine jg ?_;refine cN rfl (dM rfl rfl hsp0 (fun h=>h)) ?_;refine lg ?_;refine cN rfl (dM rfl rfl hI0 (fun h=>h)) ?_;refine q2m ?_;refine cN rfl (dW (j:=0) rfl rfl hIi rfl rfl (fun h=>h)) ?_;refine q3S ?_;refine T.loop (ι:=Nat) (fun j=>[(0, .pointer (some ⟨sp,0,none⟩)),(1, .int .i64 (i:Int)),(23, .slice (some ⟨g,off,none⟩) (Y.out i).length cpO),(24, .int .i64 ((Y.out i).length:Int)),(25, .int .i64 (k:Int)),(7, .pointer (some ⟨g7,0,none⟩)),(8, .int .i64 (only L (cH (Y.out i) k).to.toNat:Int)),(5,U (((Y.out i).take k).foldl (kV Y L i) 0#64)),(9, .int .i64 (jU L i (only L (cH (Y.out i) k).to.toNat) ((Y.inn (cH (Y.out i) k).to.toNat).take j))),(60, .slice BI (Y.inn (cH (Y.out i) k).to.toNat).length cpI),(61, .int .i64 ((Y.inn (cH (Y.out i) k).to.toNat).length:Int)),(62, .int .i64 (j:Int))]) (fun j=>[.row g7 71 [.int .i64 (cH (Y.out i) k).to, .int .i64 (cH (Y.out i) k).fr, .int .i64 (cH (Y.out i) k).wt, .int .i64 (cH (Y.out i) k).lo, .int .i64 (cH (Y.out i) k).hi]]) (fun j=>j≤(Y.inn (cH (Y.out i) k).to.toNat).length) (fun j=>(Y.inn (cH (Y.out i) k).to.toNat).length - j) 0 ?_ ?_ ?_ ?_
        ·omega
        ·exact (by repeat (first|exact Sub.nil|refine Sub.cons rfl ?_))
        ·exact Sx
        ·intro j hphi;refine fk ?_;refine T.cond rfl (fun h5=>?_) (fun h5=>?_)
         ·have p5:=h5; (try simp only [cT] at p5);obtain ⟨gi,offi,rfl,hci⟩:=hslI a6;have hj:=hci j a6;simp only [Ld.cells] at hj;have hri:=hrngI _ (iR (xs:=Y.inn (cH (Y.out i) k).to.toNat) (k:=j) a6);have hbd:=zoC (L:=L) (i:=i) (d:=only L (cH (Y.out i) k).to.toNat) hlenI hwt j;refine fT ?_;refine q0x ?_;refine cK (iv rfl rfl hj rfl (fun h=>h)) ?_; (refine cM (Wt.none) rfl rfl (Ew.alloc) ?_;rintro _ _ ⟨g11,rfl,rfl⟩); (refine dJ (Wt.none) rfl (dG 0) ?_;rintro _ _ ⟨rfl,rfl⟩);refine dq ?_;refine em ?_;refine fb ?_;refine dp rfl rfl rfl (fun h6=>?_) (fun h6=>?_)
          ·have p6:=h6; (try simp only [cT] at p6);refine q15 ?_;refine dc ?_;refine dp rfl rfl rfl (fun h7=>?_) (fun h7=>?_)
           ·have p7:=h7; (try simp only [cT] at p7);refine q3D ?_;refine cW (Wt.some rfl rfl rfl h7) rfl rfl (dY) ?_;refine cW (Wt.some rfl rfl rfl h7) rfl rfl (dY) ?_;refine cW (Wt.some rfl rfl rfl h7) rfl rfl (dY) ?_;refine dp rfl rfl rfl (fun h8=>?_) (fun h8=>?_)
            ·have p8:=h8; (try simp only [cT] at p8);refine q1h ?_;refine q1h ?_;refine cW (Wt.some rfl rfl rfl h7) rfl rfl (eC rfl rfl h8) ?_;refine cK (eC rfl rfl h7) ?_;refine mi ?_;refine fN ?_;refine i7 ?_;refine q0f ?_;refine dc ?_;refine lN ?_;exact K.next (j+1) a6 a6 (by rw [ze8 a6,jR];split <;> first|(exfalso;omega)|exact (by repeat (first|exact Sub.nil|refine Sub.cons rfl ?_))) Sx
            ·have p8:=h8; (try simp only [cT] at p8);refine cW (Wt.some rfl rfl rfl h8) rfl rfl (dY) ?_;refine q3F ?_; (refine cM (Wt.some rfl rfl rfl h8) rfl rfl (cL rfl rfl rfl (fun w hw=>zc9 sp Y L c (cH (Y.inn (cH (Y.out i) k).to.toNat) j).fr.toNat _ a6 a6 w (h.kept hw))) ?_;rintro _ _ ⟨rfl,rfl⟩);refine cW (Wt.some rfl rfl rfl h8) rfl rfl (dY) ?_;refine cW (Wt.some rfl rfl rfl h8) rfl rfl (dY) ?_;refine cW (Wt.some rfl rfl rfl h7) rfl rfl (ef rfl rfl h8) ?_;refine cK (eC rfl rfl h7) ?_;refine cR ?_;refine T.cond rfl (fun h9=>?_) (fun h9=>?_)
             ·have p9:=h9; (try simp only [cT] at p9);refine fN ?_;refine i7 ?_;refine q0f ?_;refine dc ?_;refine lN ?_;exact K.next (j+1) a6 a6 (by rw [ze8 a6,jR];split <;> first|(exfalso;omega)|exact (by repeat (first|exact Sub.nil|refine Sub.cons rfl ?_))) Sx
             ·have p9:=h9; (try simp only [cT] at p9);refine iK ?_;exact K.next (j+1) a6 a6 (by rw [ze8 a6,jR];split <;> first|(exfalso;omega)|exact (by repeat (first|exact Sub.nil|refine Sub.cons rfl ?_))) Sx
           ·have p7:=h7; (try simp only [cT] at p7);refine q1A ?_;refine q1A ?_;refine TL.off (Wt.not rfl rfl rfl h7) rfl rfl ?_;refine q0J ?_;refine q0J ?_;refine TL.off (Wt.not rfl rfl rfl h7) rfl rfl ?_;refine cK (ef rfl rfl h7) ?_;refine mJ ?_;refine iK ?_;exact K.next (j+1) a6 a6 (by rw [ze8 a6,jR];split <;> first|(exfalso;omega)|exact (by repeat (first|exact Sub.nil|refine Sub.cons rfl ?_))) Sx
          ·have p6:=h6; (try simp only [cT] at p6);refine q0Z ?_;refine q0Z ?_;refine cK (ef rfl rfl h6) ?_;refine TL.run 6 rfl ?_;refine q0J ?_;refine q0J ?_;refine ji ?_;refine iq rfl rfl ?_;refine iK ?_;exact K.next (j+1) a6 a6 (by rw [ze8 a6,jR];split <;> first|(exfalso;omega)|exact (by repeat (first|exact Sub.nil|refine Sub.cons rfl ?_))) Sx
         ·have p5:=h5; (try simp only [cT] at p5);refine fu ?_;exact K.at (by rw [show (Y.inn (cH (Y.out i) k).to.toNat).take j=Y.inn (cH (Y.out i) k).to.toNat from List.take_of_length_le a6] at *;exact (by repeat (first|exact Sub.nil|refine Sub.cons rfl ?_))) Sx
       ·skip;refine T.seq ?_;refine q1e ?_;refine jg ?_;refine cN rfl (dM rfl rfl hsp0 (fun h=>h)) ?_;refine lg ?_;refine cN rfl (dM rfl rfl hC0 (fun h=>h)) ?_;refine q2m ?_;refine cN rfl (dW (j:=0) rfl rfl hCi rfl rfl (fun h=>h)) ?_;refine q3S ?_;refine T.loop (ι:=Nat) (fun j=>[(0, .pointer (some ⟨sp,0,none⟩)),(1, .int .i64 (i:Int)),(23, .slice (some ⟨g,off,none⟩) (Y.out i).length cpO),(24, .int .i64 ((Y.out i).length:Int)),(25, .int .i64 (k:Int)),(7, .pointer (some ⟨g7,0,none⟩)),(8, .int .i64 (only L (cH (Y.out i) k).to.toNat:Int)),(9, .int .i64 (jU L i (only L (cH (Y.out i) k).to.toNat) (Y.inn (cH (Y.out i) k).to.toNat))),(5,U (((Y.cs (cH (Y.out i) k).to.toNat).take j).foldl (zdU (jU L i (only L (cH (Y.out i) k).to.toNat) (Y.inn (cH (Y.out i) k).to.toNat)) (only L (cH (Y.out i) k).to.toNat)) (((Y.out i).take k).foldl (kV Y L i) 0#64))),(105, .slice BC (Y.cs (cH (Y.out i) k).to.toNat).length cpC),(106, .int .i64 ((Y.cs (cH (Y.out i) k).to.toNat).length:Int)),(107, .int .i64 (j:Int))]) (fun j=>[.row g7 71 [.int .i64 (cH (Y.out i) k).to, .int .i64 (cH (Y.out i) k).fr, .int .i64 (cH (Y.out i) k).wt, .int .i64 (cH (Y.out i) k).lo, .int .i64 (cH (Y.out i) k).hi]]) (fun j=>j≤(Y.cs (cH (Y.out i) k).to.toNat).length) (fun j=>(Y.cs (cH (Y.out i) k).to.toNat).length - j) 0 ?_ ?_ ?_ ?_
        ·omega
        ·exact (by repeat (first|exact Sub.nil|refine Sub.cons rfl ?_))
        ·exact Sx
        ·intro j hphi;refine fk ?_;refine T.cond rfl (fun h10=>?_) (fun h10=>?_)
         ·have p10:=h10; (try simp only [cT] at p10);obtain ⟨gc,offc,rfl,hcc⟩:=hslC a6;have hj:=hcc j a6;simp only [Cp.cells] at hj;refine fT ?_;refine q0x ?_;refine cK (iv rfl rfl hj rfl (fun h=>h)) ?_; (refine cM (Wt.none) rfl rfl (Ew.alloc) ?_;rintro _ _ ⟨g13,rfl,rfl⟩); (refine dJ (Wt.none) rfl (dG 0) ?_;rintro _ _ ⟨rfl,rfl⟩);refine dq ?_;refine em ?_;refine fb ?_;refine dp rfl rfl rfl (fun h11=>?_) (fun h11=>?_)
          ·have p11:=h11; (try simp only [cT] at p11);refine cW (Wt.some rfl rfl rfl h11) rfl rfl (dY) ?_;refine cW (Wt.some rfl rfl rfl h11) rfl rfl (Yv.fieldAddr) ?_;refine cW (Wt.some rfl rfl rfl h11) rfl rfl (cX 0) ?_;refine cW (Wt.some rfl rfl rfl h11) rfl rfl (dY) ?_;refine cK (eC rfl rfl h11) ?_;refine dc ?_;refine dp rfl rfl rfl (fun h12=>?_) (fun h12=>?_)
           ·have p12:=h12; (try simp only [cT] at p12);refine cW (Wt.some rfl rfl rfl h12) rfl rfl (dY) ?_;refine cW (Wt.some rfl rfl rfl h12) rfl rfl (Yv.fieldAddr) ?_;refine cW (Wt.some rfl rfl rfl h12) rfl rfl (cX 0) ?_;refine cW (Wt.some rfl rfl rfl h12) rfl rfl (dY) ?_;refine cK (eC rfl rfl h12) ?_;refine cR ?_;refine T.cond rfl (fun h13=>?_) (fun h13=>?_)
            ·have p13:=h13; (try simp only [cT] at p13);refine jO ?_;refine cK (it (a:=1#64) (only L (cH (Y.out i) k).to.toNat) rfl rfl rfl rfl a6) ?_;refine q3o ?_;exact K.next (j+1) a6 a6 (by rw [jn _ _ a6,zdU];split <;> first|(exfalso;omega)|exact (by repeat (first|exact Sub.nil|refine Sub.cons rfl ?_))) Sx
            ·have p13:=h13; (try simp only [cT] at p13);refine iK ?_;exact K.next (j+1) a6 a6 (by rw [jn _ _ a6,zdU];split <;> first|(exfalso;omega)|exact (by repeat (first|exact Sub.nil|refine Sub.cons rfl ?_))) Sx
           ·have p12:=h12; (try simp only [cT] at p12);refine q23 ?_;refine q23 ?_;refine cK (ef rfl rfl h12) ?_;refine mJ ?_;refine iK ?_;exact K.next (j+1) a6 a6 (by rw [jn _ _ a6,zdU];split <;> first|(exfalso;omega)|exact (by repeat (first|exact Sub.nil|refine Sub.cons rfl ?_))) Sx
          ·have p11:=h11; (try simp only [cT] at p11);refine q25 ?_;refine q25 ?_;refine cK (ef rfl rfl h11) ?_;refine TL.run 6 rfl ?_;refine mJ ?_;refine iK ?_;exact K.next (j+1) a6 a6 (by rw [jn _ _ a6,zdU];split <;> first|(exfalso;omega)|exact (by repeat (first|exact Sub.nil|refine Sub.cons rfl ?_))) Sx
         ·have p10:=h10; (try simp only [cT] at p10);refine T.exit (d3 (d3 (fy (eQ ?_)))); (have hn:=hno;have e:(Y.cs (cH (Y.out i) k).to.toNat).take j=Y.cs (cH (Y.out i) k).to.toNat:=List.take_of_length_le a6;refine K.at ?_ Sx;rw [jn _ _ a6,kV,if_neg hn,e];exact (by repeat (first|exact Sub.nil|refine Sub.cons rfl ?_)))
   ·skip;refine fN ?_;refine ku ?_;exact K.next (k+1) a6 a6 (by repeat (first|exact Sub.nil|refine Sub.cons rfl ?_)) Sx
  ·have p1:=h1; (try simp only [cT] at p1);refine mh ?_;refine jE ?_;exact cU rfl rfl (fun w' hw=>⟨by rw [mb,List.take_of_length_le a6],hw.isBelow⟩)
structure GL where
 b:Nat
 c:Nat
structure StF (w0 w:World) (sp:Nat) (gl:GL) (tp:Nat) (Y:Tb) (L:Ws) (c:Bool):Prop where
 tb:TablesAt w0 tp Y
 fr:Fz w0 w
 c0:w.cell? ⟨sp,0,none⟩=some (.pointer (some ⟨tp,0,none⟩))
 c1:w.cell? ⟨sp,1,none⟩=some (.slice (some ⟨gl.b,0,none⟩) L.length gl.c)
 lf:SlOf w (.slice (some ⟨gl.b,0,none⟩) L.length gl.c) Le 1 L
 len:L.length=Y.n
 c2:w.cell? ⟨sp,2,none⟩=some (.bool c)
 tab:Tab w
theorem StF.st {w0 w:World}{sp:Nat}{gl:GL}{tp:Nat}{Y:Tb}{L:Ws}{c:Bool}(h:StF w0 w sp gl tp Y L c):StateAt w sp Y L c:=
 ⟨h.tab,⟨tp,h.c0,h.tb.later h.fr⟩,⟨_,h.c1,h.lf⟩,h.len,h.c2⟩
theorem StF.kept {w0 w w':World}{M:Nat→Prop}{hs:HS}{sp:Nat}{gl:GL}{tp:Nat}{Y:Tb}{L:Ws}{c:Bool}(h:StF w0 w sp gl tp Y L c)(hw:Hp w M hs w')(h0:∀g,M g→¬jx w0 g)(h1:¬M sp)(h2:¬M gl.b)(h3:¬M 0):StF w0 w' sp gl tp Y L c:=
 ⟨h.tb,Fz.hp h.fr hw h0,hw.cellB h.c0 h1,hw.cellB h.c1 h1,h.lf.keptM hw (fun g hg=>by simp [Value.ownBlock] at hg;subst hg;exact h2),h.len,hw.cellB h.c2 h1,h.tab.kept hw h3⟩
def j8 (Y:Tb)(L:Ws)(i:Nat)(ws:Ws):Ws:=
 if (only L i:Int)=0 then ws else
  (Y.out i).foldl (fun s x=>if (only L x.to.toNat:Int)=0 then dT s x.to.toNat else (Y.inn x.to.toNat).foldl (fun s o=>dT s o.fr.toNat) (dT s x.to.toNat))
   ((Y.inn i).foldl (fun s x=>dT s x.fr.toNat) ((Y.ps i).foldl (fun s x=>dT s (x.a+x.b - (i:Int)).toNat) ws))
theorem zfZ {α:Type}(f:Ws→α→Ws)(hf:∀s x,(f s x).length=s.length):∀(l:List α) (s:Ws),(l.foldl f s).length=s.length
 | [],_=>rfl
 |x :: r,s=>by rw [List.foldl_cons,zfZ f hf r,hf]
theorem zc1 (l:List Ld)(s:Ws):(l.foldl (fun s x=>dT s x.fr.toNat) s).length=s.length:=zfZ _ (fun _ _=>lc) l s
theorem zcY (i:Int)(l:List Pr)(s:Ws):(l.foldl (fun s x=>dT s (x.a+x.b - (i:Int)).toNat) s).length=s.length:=zfZ _ (fun _ _=>lc) l s
def lY (Y:Tb)(L:Ws)(s:Ws)(x:Ld):Ws:=if (only L x.to.toNat:Int)=0 then dT s x.to.toNat else (Y.inn x.to.toNat).foldl (fun s o=>dT s o.fr.toNat) (dT s x.to.toNat)
theorem zgp {Y:Tb}{L s:Ws}{x:Ld}:(lY Y L s x).length=s.length:=by
 unfold lY;split
 ·exact lc
 ·rw [zc1,lc]
theorem zfj (Y:Tb)(L:Ws)(l:List Ld)(s:Ws):(l.foldl (lY Y L) s).length=s.length:=zfZ _ (fun _ _=>zgp) l s
theorem zfs (Y:Tb)(L:Ws)(i:Nat)(ws:Ws):(j8 Y L i ws).length=ws.length:=by
 unfold j8;split
 ·rfl
 ·exact (zfj Y L _ _).trans ((zc1 _ _).trans (zcY _ _ _))
theorem zeP (ws:Ws)(hws:ws.length=8)(j:Nat)(hj:j<512)(z:Int)(hz:z=(j:Int))(p q:Nat)(w:World)(hq:w.cell? ⟨q,0,none⟩=some (.pointer (some ⟨p,0,none⟩)))(hqp:q≠p)(hp:(Ent.row p 101 ws.cells).ok w):Calls Tryz.prog 135 #[.int .i64 z, .pointer (some ⟨q,0,none⟩)] w fun e w'=>∃y:Unit,True∧e= .returned (.tuple #[])∧Hp w (Ent.row p 101 ws.cells).fp [.row p 101 (Ws.cells (dT ws j))] w':=by
 subst hz;refine dB (M:=(Ent.row p 101 ws.cells).fp) (hs:=[Ent.row p 101 ws.cells]) Tryz.func135 rfl rfl rfl (Hp.start hp) ?_;refine dF (sN 0 3 (.still 4 (.eff 3 (.eff 5 (sN 6 4 (.eff 10 .done)))))) [] a8 Sx ?_;refine cN rfl (dM rfl rfl hq (fun hh=>hqp (cO.1 hh))) ?_;refine cN rfl (dM rfl rfl hq (fun hh=>hqp (cO.1 hh))) ?_;refine gE ?_;refine dx ?_;refine ez rfl (Wt.none) rfl rfl (fx 0 rfl rfl rfl (by rw [List.length_map,hws])) Sx ?_;refine dx ?_; (refine cZ rfl (Wt.none) rfl rfl (cL rfl rfl rfl (fun w hw=>zn4 ws hws j hj w)) ?_;rintro _ _ ⟨rfl,rfl⟩;refine ⟨Sx,?_⟩);refine TS.run 4 rfl ?_;refine dx ?_; (refine dD rfl (Wt.none) rfl (dG 0 rfl rfl rfl rfl (by rw [List.length_map,lc,hws]) (by rw [List.length_map,List.length_map,lc])) ?_;rintro _ _ ⟨rfl,rfl⟩;refine ⟨Sx,?_⟩);refine fv ?_;exact lW rfl (fun w' hw=>⟨(),trivial,rfl,hw⟩)
theorem zir (w0:World)(sp:Nat)(gl:GL)(tp p:Nat)(Y:Tb)(L:Ws)(c:Bool)(ws:Ws)(hws:ws.length=8)(i:Nat)(z:Int)(hz:z=(i:Int))(hi:i<Y.n)(w:World)(h:StF w0 w sp gl tp Y L c)(hok:Y.Ok)(hpN:¬jx w0 p)(hp0:p≠0)(hsp:sp≠p)(hgl:gl.b≠p)(hp:(Ent.row p 101 ws.cells).ok w):Calls Tryz.prog 116 #[.pointer (some ⟨sp,0,none⟩), .int .i64 z, .pointer (some ⟨p,0,none⟩)] w fun e w'=>∃y:Unit,True∧e= .returned (.tuple #[])∧Hp w (Ent.row p 101 ws.cells).fp [.row p 101 (Ws.cells (j8 Y L i ws))] w':=by
 subst hz;obtain ⟨hTb,hfr,hsp0,hsp1,hlf,hLn,hsp2,htab⟩:=id h;have hT:=hTb;have hn512:=hok.n;obtain ⟨hlenP,hrngP⟩:=hok.ps i hi;obtain ⟨hlenI,hrngI⟩:=hok.inn i hi;obtain ⟨hlenO,hrngO⟩:=hok.out i hi;obtain ⟨vP,hP0,hP⟩:=hT.ps.at';obtain ⟨AP,capP,rfl,hPs⟩:=hP.op;have hPn:=hT.ps.len;obtain ⟨gP,oP,rfl,hPc⟩:=hPs a6;rw [hPn] at hP0;have hPi:=hPc i (by rw [hPn];exact hi);obtain ⟨BP,cpP,hvP,hslP⟩:=(hT.ps.each i hi).op;simp only [hvP] at hPi;obtain ⟨vI,hI0,hI⟩:=hT.inn.at';obtain ⟨AI,capI,rfl,hIs⟩:=hI.op;have hIn:=hT.inn.len;obtain ⟨gI,oI,rfl,hIc⟩:=hIs a6;rw [hIn] at hI0;have hIi:=hIc i (by rw [hIn];exact hi);obtain ⟨BI,cpI,hvI,hslI⟩:=(hT.inn.each i hi).op;simp only [hvI] at hIi;obtain ⟨vO,hO0,hO⟩:=hT.out.at';obtain ⟨AO,capO,rfl,hOs⟩:=hO.op;have hOn:=hT.out.len;obtain ⟨gO,oO,rfl,hOc⟩:=hOs a6;rw [hOn] at hO0;have hOi:=hOc i (by rw [hOn];exact hi);obtain ⟨BO,cpO,hvO,hslO⟩:=(hT.out.each i hi).op;simp only [hvO] at hOi;have hkeep:∀hs w',Hp w (Ent.row p 101 ws.cells).fp hs w'→StateAt w' sp Y L c:=fun hs w' hw=>(h.kept hw (fun g hg=>by rw [cO.1 hg];exact hpN) (fun hg=>hsp (cO.1 hg)) (fun hg=>hgl (cO.1 hg)) (fun hg=>hp0 (cO.1 hg).symm)).st;refine dB (M:=(Ent.row p 101 ws.cells).fp) (hs:=[Ent.row p 101 ws.cells]) Tryz.func116 rfl rfl rfl (Hp.start hp) ?_;refine dd ?_; (refine cM (Wt.none) rfl rfl (Ew.box rfl rfl) ?_;rintro _ _ ⟨g5,rfl,rfl⟩);refine ij ?_;refine ec ?_; (refine cM (Wt.none) rfl rfl (cL rfl rfl rfl (fun w hw=>zc9 sp Y L c i _ rfl hi w (hkeep _ _ hw))) ?_;rintro _ _ ⟨rfl,rfl⟩);refine dR ?_;refine T.cond rfl (fun h1=>?_) (fun h1=>?_)
 ·have p1:=h1; (try simp only [cT] at p1);refine T.ret (dZ ?_);exact K.cg rfl (fun w' hw=>⟨(),trivial,rfl,by rw [j8,if_pos p1];exact hw.sub Sx⟩)
 ·have p1:=h1; (try simp only [cT] at p1);refine i1 ?_;refine ji ?_;refine T.cut (gs:=[(0, .pointer (some ⟨sp,0,none⟩)),(1, .int .i64 (i:Int)),(6, .func (.func 135) #[] #[.pointer (some ⟨g5,0,none⟩)])]) (hs':=[.row g5 174 [.pointer (some ⟨p,0,none⟩)], .row p 101 (Ws.cells ((Y.ps i).foldl (fun s x=>dT s (x.a+x.b - (i:Int)).toNat) ws))]) ?_ ?_
  ·skip;refine q2D ?_;refine cK (dM rfl rfl (hfr.cell hP0) (fun hh=>hpN (by have:=zej hP0;rw [←cO.1 hh];exact this))) ?_;refine lu ?_;refine cK (dW (j:=0) rfl rfl (Fz.cs hfr hPi) rfl rfl (fun hh=>hpN (by have:=iY hPi b2;rw [←cO.1 hh];exact this))) ?_;refine jz ?_;refine T.loop (ι:=Nat) (fun k=>[(0, .pointer (some ⟨sp,0,none⟩)),(1, .int .i64 (i:Int)),(6, .func (.func 135) #[] #[.pointer (some ⟨g5,0,none⟩)]),(29, .slice BP (Y.ps i).length cpP),(30, .int .i64 ((Y.ps i).length:Int)),(31, .int .i64 (k:Int))]) (fun k=>[.row g5 174 [.pointer (some ⟨p,0,none⟩)], .row p 101 (Ws.cells (((Y.ps i).take k).foldl (fun s x=>dT s (x.a+x.b - (i:Int)).toNat) ws))]) (fun k=>k≤(Y.ps i).length) (fun k=>(Y.ps i).length - k) 0 ?_ ?_ ?_ ?_
   ·omega
   ·exact (by repeat (first|exact Sub.nil|refine Sub.cons rfl ?_))
   ·exact Sx
   ·intro k hphi;refine fk ?_;refine T.cond rfl (fun h2=>?_) (fun h2=>?_)
    ·have p2:=h2; (try simp only [cT] at p2);obtain ⟨ghk,offhk,rfl,hc⟩:=hslP a6;have hk:=hc k a6;simp only [Pr.cells] at hk;have hrhk:=hrngP _ (iR (xs:=Y.ps i) (k:=k) a6);refine fT ?_;refine q2o ?_; (refine cM (Wt.none) rfl rfl (Ew.alloc) ?_;rintro _ _ ⟨g8,rfl,rfl⟩); (refine dJ (Wt.none) rfl (dG 0) ?_;rintro _ _ ⟨rfl,rfl⟩);refine cR (T.region ?_);refine i7 ?_;refine em ?_;refine q0f ?_;refine dc ?_;refine q3i ?_; (refine cM (Wt.none) rfl rfl (lz 2 rfl rfl rfl rfl (fun w hw=>zeP (((Y.ps i).take k).foldl (fun s x=>dT s (x.a+x.b - (i:Int)).toNat) ws) (by rw [zcY,hws]) ((cH (Y.ps i) k).a+(cH (Y.ps i) k).b - (i:Int)).toNat a6 _ a6 p g5 w (jK (cV.1 (hw.get (i:=1) rfl)) 0) (fun hh=>hw.ne (i:=1) (j:=2) a6 rfl rfl (g:=g5) (cO.2 rfl) (cO.2 hh)) (hw.get (i:=2) rfl))) ?_;rintro _ _ ⟨-, -,rfl,rfl⟩);refine lN ?_;exact K.next (k+1) a6 a6 (by repeat (first|exact Sub.nil|refine Sub.cons rfl ?_)) (by rw [jn _ _ a6];exact Sx)
    ·have p2:=h2; (try simp only [cT] at p2);refine fu ?_;exact K.at (by repeat (first|exact Sub.nil|refine Sub.cons rfl ?_)) (by rw [show (Y.ps i).take k=Y.ps i from List.take_of_length_le a6];exact Sx)
  ·skip;refine T.cut (gs:=[(0, .pointer (some ⟨sp,0,none⟩)),(1, .int .i64 (i:Int)),(6, .func (.func 135) #[] #[.pointer (some ⟨g5,0,none⟩)])]) (hs':=[.row g5 174 [.pointer (some ⟨p,0,none⟩)], .row p 101 (Ws.cells ((Y.inn i).foldl (fun s x=>dT s x.fr.toNat) ((Y.ps i).foldl (fun s x=>dT s (x.a+x.b - (i:Int)).toNat) ws)))]) ?_ ?_
   ·skip;refine q2D ?_;refine cK (dM rfl rfl (hfr.cell hI0) (fun hh=>hpN (by have:=zej hI0;rw [←cO.1 hh];exact this))) ?_;refine lu ?_;refine cK (dW (j:=0) rfl rfl (Fz.cs hfr hIi) rfl rfl (fun hh=>hpN (by have:=iY hIi b2;rw [←cO.1 hh];exact this))) ?_;refine jz ?_;refine T.loop (ι:=Nat) (fun k=>[(0, .pointer (some ⟨sp,0,none⟩)),(1, .int .i64 (i:Int)),(6, .func (.func 135) #[] #[.pointer (some ⟨g5,0,none⟩)]),(54, .slice BI (Y.inn i).length cpI),(55, .int .i64 ((Y.inn i).length:Int)),(56, .int .i64 (k:Int))]) (fun k=>[.row g5 174 [.pointer (some ⟨p,0,none⟩)], .row p 101 (Ws.cells (((Y.inn i).take k).foldl (fun s x=>dT s x.fr.toNat) ((Y.ps i).foldl (fun s x=>dT s (x.a+x.b - (i:Int)).toNat) ws)))]) (fun k=>k≤(Y.inn i).length) (fun k=>(Y.inn i).length - k) 0 ?_ ?_ ?_ ?_
    ·omega
    ·exact (by repeat (first|exact Sub.nil|refine Sub.cons rfl ?_))
    ·exact Sx
    ·intro k hphi;refine fk ?_;refine T.cond rfl (fun h3=>?_) (fun h3=>?_)
     ·have p3:=h3; (try simp only [cT] at p3);obtain ⟨ghk,offhk,rfl,hc⟩:=hslI a6;have hk:=hc k a6;simp only [Ld.cells] at hk;have hrhk:=hrngI _ (iR (xs:=Y.inn i) (k:=k) a6);refine fT ?_;refine q2o ?_; (refine cM (Wt.none) rfl rfl (Ew.alloc) ?_;rintro _ _ ⟨g10,rfl,rfl⟩); (refine dJ (Wt.none) rfl (dG 0) ?_;rintro _ _ ⟨rfl,rfl⟩);refine cR (T.region ?_);refine i7 ?_; (refine cM (Wt.none) rfl rfl (lz 2 rfl rfl rfl rfl (fun w hw=>zeP (((Y.inn i).take k).foldl (fun s x=>dT s x.fr.toNat) ((Y.ps i).foldl (fun s x=>dT s (x.a+x.b - (i:Int)).toNat) ws)) (by rw [zc1,zcY,hws]) (cH (Y.inn i) k).fr.toNat a6 _ a6 p g5 w (jK (cV.1 (hw.get (i:=1) rfl)) 0) (fun hh=>hw.ne (i:=1) (j:=2) a6 rfl rfl (g:=g5) (cO.2 rfl) (cO.2 hh)) (hw.get (i:=2) rfl))) ?_;rintro _ _ ⟨-, -,rfl,rfl⟩);refine lN ?_;exact K.next (k+1) a6 a6 (by repeat (first|exact Sub.nil|refine Sub.cons rfl ?_)) (by rw [jn _ _ a6];exact Sx)
     ·have p3:=h3; (try simp only [cT] at p3);refine fu ?_;exact K.at (by repeat (first|exact Sub.nil|refine Sub.cons rfl ?_)) (by rw [show (Y.inn i).take k=Y.inn i from List.take_of_length_le a6];exact Sx)
   ·skip;refine q2D ?_;refine cK (dM rfl rfl (hfr.cell hO0) (fun hh=>hpN (by have:=zej hO0;rw [←cO.1 hh];exact this))) ?_;refine lu ?_;refine cK (dW (j:=0) rfl rfl (Fz.cs hfr hOi) rfl rfl (fun hh=>hpN (by have:=iY hOi b2;rw [←cO.1 hh];exact this))) ?_;refine jz ?_;refine T.loop (ι:=Nat) (fun k=>[(0, .pointer (some ⟨sp,0,none⟩)),(1, .int .i64 (i:Int)),(6, .func (.func 135) #[] #[.pointer (some ⟨g5,0,none⟩)]),(74, .slice BO (Y.out i).length cpO),(75, .int .i64 ((Y.out i).length:Int)),(76, .int .i64 (k:Int))]) (fun k=>[.row g5 174 [.pointer (some ⟨p,0,none⟩)], .row p 101 (Ws.cells (((Y.out i).take k).foldl (lY Y L) ((Y.inn i).foldl (fun s x=>dT s x.fr.toNat) ((Y.ps i).foldl (fun s x=>dT s (x.a+x.b - (i:Int)).toNat) ws))))]) (fun k=>k≤(Y.out i).length) (fun k=>(Y.out i).length - k) 0 ?_ ?_ ?_ ?_
    ·omega
    ·exact (by repeat (first|exact Sub.nil|refine Sub.cons rfl ?_))
    ·exact Sx
    ·intro k hphi;refine fk ?_;refine T.cond rfl (fun h4=>?_) (fun h4=>?_)
     ·have p4:=h4; (try simp only [cT] at p4);obtain ⟨ghk,offhk,rfl,hc⟩:=hslO a6;have hk:=hc k a6;simp only [Ld.cells] at hk;have hrhk:=hrngO _ (iR (xs:=Y.out i) (k:=k) a6); (have htn:(cH (Y.out i) k).to.toNat<Y.n:=by omega);obtain ⟨hlenI2,hrngI2⟩:=hok.inn _ htn;have hIi2:=hIc (cH (Y.out i) k).to.toNat (by rw [hIn];exact htn);obtain ⟨BI2,cpI2,hvI2,hslI2⟩:=(hT.inn.each (cH (Y.out i) k).to.toNat htn).op;simp only [hvI2] at hIi2;refine T.skip (K.seq ?_);refine T.cut (gs:=[(0, .pointer (some ⟨sp,0,none⟩)),(1, .int .i64 (i:Int)),(6, .func (.func 135) #[] #[.pointer (some ⟨g5,0,none⟩)]),(74, .slice (some ⟨ghk,offhk,none⟩) (Y.out i).length cpO),(75, .int .i64 ((Y.out i).length:Int)),(76, .int .i64 (k:Int))]) (hs':=[.row g5 174 [.pointer (some ⟨p,0,none⟩)], .row p 101 (Ws.cells (((Y.out i).take (k+1)).foldl (lY Y L) ((Y.inn i).foldl (fun s x=>dT s x.fr.toNat) ((Y.ps i).foldl (fun s x=>dT s (x.a+x.b - (i:Int)).toNat) ws))))]) ?_ ?_
      ·skip;refine T.block (dd ?_);refine q2o ?_; (refine cM (Wt.none) rfl rfl (Ew.alloc) ?_;rintro _ _ ⟨g12,rfl,rfl⟩); (refine dJ (Wt.none) rfl (dG 0) ?_;rintro _ _ ⟨rfl,rfl⟩);refine dq ?_;refine i7 ?_; (refine cM (Wt.none) rfl rfl (lz 2 rfl rfl rfl rfl (fun w hw=>zeP (((Y.out i).take k).foldl (lY Y L) ((Y.inn i).foldl (fun s x=>dT s x.fr.toNat) ((Y.ps i).foldl (fun s x=>dT s (x.a+x.b - (i:Int)).toNat) ws))) (by rw [zfj,zc1,zcY,hws]) (cH (Y.out i) k).to.toNat a6 _ a6 p g5 w (jK (cV.1 (hw.get (i:=1) rfl)) 0) (fun hh=>hw.ne (i:=1) (j:=2) a6 rfl rfl (g:=g5) (cO.2 rfl) (cO.2 hh)) (hw.get (i:=2) rfl))) ?_;rintro _ _ ⟨-, -,rfl,rfl⟩);refine dq ?_;refine i7 ?_; (refine cM (Wt.none) rfl rfl (cL rfl rfl rfl (fun w hw=>zc9 sp Y L c ((cH (Y.out i) k).to.toNat) _ a6 a6 w (hkeep _ _ hw))) ?_;rintro _ _ ⟨rfl,rfl⟩);refine dR ?_;refine T.cond rfl (fun h5=>?_) (fun h5=>?_)
       ·have p5:=h5; (try simp only [cT] at p5); (have hno:¬(only L ((cH (Y.out i) k).to.toNat):Int)=0:=by assumption);refine T.seq ?_;refine q1e ?_;refine jg ?_;refine cN rfl (dM rfl rfl hsp0 (fun hh=>hsp (cO.1 hh))) ?_;refine lg ?_;refine cN rfl (dM rfl rfl (hfr.cell hI0) (fun hh=>hpN (by have:=zej hI0;rw [←cO.1 hh];exact this))) ?_;refine q2m ?_;refine cN rfl (dW (j:=0) rfl rfl (Fz.cs hfr hIi2) rfl rfl (fun hh=>hpN (by have:=iY hIi2 b2;rw [←cO.1 hh];exact this))) ?_;refine q3S ?_;refine T.loop (ι:=Nat) (fun j=>[(0, .pointer (some ⟨sp,0,none⟩)),(1, .int .i64 (i:Int)),(6, .func (.func 135) #[] #[.pointer (some ⟨g5,0,none⟩)]),(74, .slice (some ⟨ghk,offhk,none⟩) (Y.out i).length cpO),(75, .int .i64 ((Y.out i).length:Int)),(76, .int .i64 (k:Int)),(99, .slice BI2 (Y.inn (cH (Y.out i) k).to.toNat).length cpI2),(100, .int .i64 ((Y.inn (cH (Y.out i) k).to.toNat).length:Int)),(101, .int .i64 (j:Int))]) (fun j=>[.row g5 174 [.pointer (some ⟨p,0,none⟩)], .row p 101 (Ws.cells (((Y.inn (cH (Y.out i) k).to.toNat).take j).foldl (fun s o=>dT s o.fr.toNat) (dT (((Y.out i).take k).foldl (lY Y L) ((Y.inn i).foldl (fun s x=>dT s x.fr.toNat) ((Y.ps i).foldl (fun s x=>dT s (x.a+x.b - (i:Int)).toNat) ws))) (cH (Y.out i) k).to.toNat)))]) (fun j=>j≤(Y.inn (cH (Y.out i) k).to.toNat).length) (fun j=>(Y.inn (cH (Y.out i) k).to.toNat).length - j) 0 ?_ ?_ ?_ ?_
        ·omega
        ·exact (by repeat (first|exact Sub.nil|refine Sub.cons rfl ?_))
        ·exact Sx
        ·intro j hphi;refine fk ?_;refine T.cond rfl (fun h6=>?_) (fun h6=>?_)
         ·have p6:=h6; (try simp only [cT] at p6);obtain ⟨ghj,offhj,rfl,hcj⟩:=hslI2 a6;have hj:=hcj j a6;simp only [Ld.cells] at hj;have hrhj:=hrngI2 _ (iR (xs:=Y.inn (cH (Y.out i) k).to.toNat) (k:=j) a6);refine fT ?_;refine q0x ?_;refine cK (iv rfl rfl (Fz.cs hfr hj) rfl (fun hh=>hpN (by have:=iY hj b2;rw [←cO.1 hh];exact this))) ?_; (refine cM (Wt.none) rfl rfl (Ew.alloc) ?_;rintro _ _ ⟨g14,rfl,rfl⟩); (refine dJ (Wt.none) rfl (dG 0) ?_;rintro _ _ ⟨rfl,rfl⟩);refine cR (T.region ?_);refine i7 ?_; (refine cM (Wt.none) rfl rfl (lz 2 rfl rfl rfl rfl (fun w hw=>zeP (((Y.inn (cH (Y.out i) k).to.toNat).take j).foldl (fun s o=>dT s o.fr.toNat) (dT (((Y.out i).take k).foldl (lY Y L) ((Y.inn i).foldl (fun s x=>dT s x.fr.toNat) ((Y.ps i).foldl (fun s x=>dT s (x.a+x.b - (i:Int)).toNat) ws))) (cH (Y.out i) k).to.toNat)) (by rw [zc1,lc,zfj,zc1,zcY,hws]) (cH (Y.inn (cH (Y.out i) k).to.toNat) j).fr.toNat a6 _ a6 p g5 w (jK (cV.1 (hw.get (i:=1) rfl)) 0) (fun hh=>hw.ne (i:=1) (j:=2) a6 rfl rfl (g:=g5) (cO.2 rfl) (cO.2 hh)) (hw.get (i:=2) rfl))) ?_;rintro _ _ ⟨-, -,rfl,rfl⟩);refine lN ?_;exact K.next (j+1) a6 a6 (by repeat (first|exact Sub.nil|refine Sub.cons rfl ?_)) (by rw [jn _ _ a6];exact Sx)
         ·have p6:=h6; (try simp only [cT] at p6);refine T.exit (d3 (d3 (fy (eQ ?_)))); (have hy:=hno;refine K.at (by repeat (first|exact Sub.nil|refine Sub.cons rfl ?_)) ?_;rw [jn _ _ a6,lY,if_neg hy,show (Y.inn (cH (Y.out i) k).to.toNat).take j=Y.inn (cH (Y.out i) k).to.toNat from List.take_of_length_le a6];exact Sx)
       ·have p5:=h5; (try simp only [cT] at p5); (have hyes:(only L ((cH (Y.out i) k).to.toNat):Int)=0:=by assumption);refine T.skip (eQ ?_); (have hy:=hyes;refine K.at (by repeat (first|exact Sub.nil|refine Sub.cons rfl ?_)) ?_;rw [jn _ _ a6,lY,if_pos hy];exact Sx)
      ·skip;refine fN ?_;refine ku ?_;exact K.next (k+1) a6 a6 (by repeat (first|exact Sub.nil|refine Sub.cons rfl ?_)) Sx
     ·have p4:=h4; (try simp only [cT] at p4);refine fu ?_;exact lW rfl (fun w' hw=>⟨(),trivial,rfl,by rw [j8,if_neg p1];rw [show (Y.out i).take k=Y.out i from List.take_of_length_le a6] at hw;exact hw.sub Sx⟩)
def jo (Y:Tb)(L:Ws)(i:Nat):BitVec 64:=lX Y L i ||| kN Y L i ||| mb Y L i
theorem zbx {α β:Type}{f g:β→α→β}:∀(l:List α) (z:β),(∀x∈l,∀s,f s x=g s x)→l.foldl f z=l.foldl g z
 | [],_,_=>rfl
 |x :: r,z,h=>by rw [List.foldl_cons,List.foldl_cons,h x b2 z];exact zbx r _ (fun y hy=>h y (by simp [hy]))
structure Alike (Y:Tb) (L L':Ws) (k:Nat):Prop where
 ps:∀x∈Y.ps k,(x.a=(k:Int)→only L' x.b.toNat=only L x.b.toNat)∧(x.a≠(k:Int)→only L' x.a.toNat=only L x.a.toNat)
 inn:∀x∈Y.inn k,only L' x.fr.toNat=only L x.fr.toNat
 out:∀x∈Y.out k,only L' x.to.toNat=only L x.to.toNat∧(only L x.to.toNat≠0→∀o∈Y.inn x.to.toNat,o.fr≠(k:Int)→only L' o.fr.toNat=only L o.fr.toNat)
theorem zgu {Y:Tb}{L L':Ws}{k:Nat}(h:Alike Y L L' k)(hlo:∀x∈Y.out k,2≤x.lo):jo Y L' k=jo Y L k:=by
 have e1:lX Y L' k=lX Y L k:=zbx _ _ fun x hx s=>by
  have:=h.ps x hx;unfold mj;by_cases ha:x.a=(k:Int)
  ·rw [if_pos ha,if_pos ha,this.1 ha]
  ·rw [if_neg ha,if_neg ha,this.2 ha]
 have e2:kN Y L' k=kN Y L k:=by
  have:iu L' (Y.inn k)=iu L (Y.inn k):=zbx _ _ fun x hx s=>by
   funext d
   unfold jS;rw [h.inn x hx]
  unfold kN;rw [this]
 have e3:mb Y L' k=mb Y L k:=zbx _ _ fun x hx s=>by
  have ho:=h.out x hx;unfold kV;rw [ho.1];by_cases hz:only L x.to.toNat=0
  ·have:=hlo x hx;rw [if_pos (.inl (.inl (by rw [hz];show (0:Int)<_;omega))),if_pos (.inl (.inl (by rw [hz];show (0:Int)<_;omega)))]
  ·have e:jU L' k (only L x.to.toNat) (Y.inn x.to.toNat)=jU L k (only L x.to.toNat) (Y.inn x.to.toNat):=zbx _ _ fun o ho' s=>by
    unfold jR;by_cases hk:o.fr=(k:Int)
    ·simp [hk]
    ·rw [ho.2 hz o ho' hk]
   rw [e]
 unfold jo;rw [e1,e2,e3]
theorem kG {L:Ws}{i j:Nat}{b:BitVec 64}(hi:i<L.length):cH (L.set i b) j=if j=i then b else cH L j:=by
 unfold cH;rw [List.getD_eq_getElem?_getD,List.getD_eq_getElem?_getD];by_cases h:j=i
 ·subst h;rw [List.getElem?_set_self hi,if_pos rfl];rfl
 ·rw [List.getElem?_set_ne (fun e=>h e.symm),if_neg h]
theorem zel {L:Ws}{i j:Nat}{b:BitVec 64}(hi:i<L.length)(h:j≠i):only (L.set i b) j=only L j:=by
 unfold only;rw [kG hi,if_neg h]
theorem zgi {Y:Tb}{L:Ws}{i:Nat}{b:BitVec 64}(hok:Y.Ok)(hi:i<Y.n)(hl:L.length=Y.n):lX Y (L.set i b) i=lX Y L i∧kN Y (L.set i b) i=kN Y L i∧mb Y (L.set i b) i=mb Y L i:=by
 (have hil:i<L.length:=by omega);refine ⟨zbx _ _ fun x hx s=>?_,?_,zbx _ _ fun x hx s=>?_⟩
 ·have h1:=(hok.psS i hi x hx).1;have h2:=(hok.ps i hi).2 x hx;unfold mj;by_cases ha:x.a=(i:Int)
  ·rw [if_pos ha,if_pos ha,zel hil a6]
  ·rw [if_neg ha,if_neg ha,zel hil a6]
 ·have:iu (L.set i b) (Y.inn i)=iu L (Y.inn i):=zbx _ _ fun x hx s=>by
   have h1:=(hok.innS i hi x hx).1;have h2:=(hok.inn i hi).2 x hx
   funext d
   unfold jS;rw [zel hil a6]
  unfold kN;rw [this]
 ·have h1:=(hok.outS i hi x hx).1;have h2:=(hok.out i hi).2 x hx;unfold kV;rw [zel hil a6]
  have e:jU (L.set i b) i (only L x.to.toNat) (Y.inn x.to.toNat)=jU L i (only L x.to.toNat) (Y.inn x.to.toNat):=zbx _ _ fun o ho s=>by
   have h3:=(hok.inn _ a6).2 o ho;unfold jR;by_cases hk:o.fr=(i:Int)
   ·simp [hk]
   ·rw [zel hil a6]
  rw [e]
def zhP (Y:Tb)(L:Ws)(i:Nat):Prop:=cH L i≠0#64∧cH L i &&& jo Y L i=0#64
theorem zj2 {α:Type}(f:α→Nat)(hf:∀_:α,True):∀(l:List α) (s:Ws),s.length=8→(∀x∈l,f x<512)→∀j,j<512→(eA (l.foldl (fun s x=>dT s (f x)) s) j=true↔eA s j=true∨∃x∈l,f x=j)
 | [],s,_,_,j,_=>by simp
 |x :: r,s,hs,hx,j,hj=>by
  rw [List.foldl_cons,zj2 f hf r _ (by rw [lc,hs]) (fun y hy=>hx y (by simp [hy])) j hj,zfY hs (hx x b2) hj];simp only [Bool.or_eq_true,decide_eq_true_eq,List.mem_cons];constructor
  ·rintro ((h|h)|⟨y,hy,h⟩)
   ·exact .inl h
   ·exact .inr ⟨x, .inl rfl,h⟩
   ·exact .inr ⟨y, .inr hy,h⟩
  ·rintro (h|⟨y,rfl|hy,h⟩)
   ·exact .inl (.inl h)
   ·exact .inl (.inr h)
   ·exact .inr ⟨y,hy,h⟩
def mT (Y:Tb)(L:Ws)(i j:Nat):Prop:=
 (∃x∈Y.ps i,(x.a+x.b - (i:Int)).toNat=j)∨(∃x∈Y.inn i,x.fr.toNat=j)∨(∃x∈Y.out i,x.to.toNat=j∨(only L x.to.toNat≠0∧∃o∈Y.inn x.to.toNat,o.fr.toNat=j))
theorem zm9 {Y : Tb} {L : Ws} : ∀ (l : List Ld) (s : Ws), s.length = 8 → (∀ x ∈ l, x.to.toNat < 512 ∧ ∀ o ∈ Y.inn x.to.toNat, o.fr.toNat < 512) → ∀ j, j < 512 →
    (eA (l.foldl (lY Y L) s) j = true ↔ eA s j = true ∨ ∃ x ∈ l, x.to.toNat = j ∨ (only L x.to.toNat ≠ 0 ∧ ∃ o ∈ Y.inn x.to.toNat, o.fr.toNat = j))
  | [], s, _, _, j, _ => by simp
  | x :: r, s, hs, hx, j, hj => by
    have h1 := hx x b2; rw [List.foldl_cons, zm9 r _ (by rw [zgp, hs]) (fun y hy => hx y (by simp [hy])) j hj]
    have e : eA (lY Y L s x) j = true ↔ eA s j = true ∨ (x.to.toNat = j ∨ (only L x.to.toNat ≠ 0 ∧ ∃ o ∈ Y.inn x.to.toNat, o.fr.toNat = j)) := by
      unfold lY; by_cases hz : (only L x.to.toNat : Int) = 0
      · rw [if_pos hz, zfY hs h1.1 hj];simp only [Bool.or_eq_true, decide_eq_true_eq]; constructor
        · rintro (h | h)
          · exact .inl h
          · exact .inr (.inl h)
        · rintro (h | h | h)
          · exact .inl h
          · exact .inr h
          · exact absurd (show only L x.to.toNat = 0 by omega) h.1
      · rw [if_neg hz, zj2 (fun o : Ld => o.fr.toNat) (fun _ => trivial) _ _ (by rw [lc, hs]) h1.2 j hj, zfY hs h1.1 hj];simp only [Bool.or_eq_true, decide_eq_true_eq]; constructor
        · rintro ((h | h) | h)
          · exact .inl h
          · exact .inr (.inl h)
          · exact .inr (.inr ⟨by omega, h⟩)
        · rintro (h | h | h)
          · exact .inl (.inl h)
          · exact .inl (.inr h)
          · exact .inr h.2
    rw [e];simp only [List.mem_cons]; constructor
    · rintro ((h | h) | ⟨y, hy, h⟩)
      · exact .inl h
      · exact .inr ⟨x, .inl rfl, h⟩
      · exact .inr ⟨y, .inr hy, h⟩
    · rintro (h | ⟨y, rfl | hy, h⟩)
      · exact .inl (.inl h)
      · exact .inl (.inr h)
      · exact .inr ⟨y, hy, h⟩
theorem zds {Y:Tb}{L:Ws}{i:Nat}{ws:Ws}(hok:Y.Ok)(hi:i<Y.n)(hws:ws.length=8)(j:Nat)(hj:j<512):eA (j8 Y L i ws) j=true↔eA ws j=true∨(only L i≠0∧mT Y L i j):=by
 have hn:=hok.n;unfold j8;by_cases hz:(only L i:Int)=0
 ·rw [if_pos hz];constructor
  ·exact .inl
  ·rintro (h|h)
   ·exact h
   ·exact absurd (show only L i=0 by omega) h.1
 ·rw [if_neg hz];have hp:=(hok.ps i hi).2;have hI:=(hok.inn i hi).2;have hO:=(hok.out i hi).2
  have:=zm9 (Y:=Y) (L:=L) (Y.out i) ((Y.inn i).foldl (fun s x=>dT s x.fr.toNat) ((Y.ps i).foldl (fun s x=>dT s (x.a+x.b - (i:Int)).toNat) ws)) (by rw [zc1,zcY,hws]) (fun x hx=>by
   have:=hO x hx
   exact ⟨by omega,fun o ho=>by have:=(hok.inn x.to.toNat a6).2 o ho;omega⟩) j hj
  refine Iff.trans this ?_;rw [zj2 (fun x:Ld=>x.fr.toNat) (fun _=>trivial) _ _ (by rw [zcY,hws]) (fun x hx=>by have:=hI x hx;omega) j hj,zj2 (fun x:Pr=>(x.a+x.b - (i:Int)).toNat) (fun _=>trivial) _ _ hws (fun x hx=>by have:=hp x hx;omega) j hj];unfold mT;constructor
  ·rintro (((h|h)|h)|h)
   ·exact .inl h
   ·exact .inr ⟨by omega, .inl h⟩
   ·exact .inr ⟨by omega, .inr (.inl h)⟩
   ·exact .inr ⟨by omega, .inr (.inr h)⟩
  ·rintro (h|⟨_,h|h|h⟩)
   ·exact .inl (.inl (.inl h))
   ·exact .inl (.inl (.inr h))
   ·exact .inl (.inr h)
   ·exact .inr h
theorem ziu {Y:Tb}{L L':Ws}{i k:Nat}(hok:Y.Ok)(hi:i<Y.n)(hk:k<Y.n)(hki:k≠i)(hsame:∀j,j≠i→only L' j=only L j)(h0:only L i=0)(hfar:¬mT Y L' i k):Alike Y L L' k where
 ps x hx:=by
  have h1:=(hok.ps k hk).2 x hx;have h2:=hok.psS k hk x hx;constructor
  ·intro ha;by_cases hb:x.b.toNat=i
   ·exact absurd (.inl ⟨x,by rw [←hb];exact h2.2.2,by omega⟩) hfar
   ·exact hsame _ hb
  ·intro ha;by_cases hb:x.a.toNat=i
   ·exact absurd (.inl ⟨x,by rw [←hb];exact h2.2.1,by omega⟩) hfar
   ·exact hsame _ hb
 inn x hx:=by
  have h1:=(hok.inn k hk).2 x hx;by_cases hb:x.fr.toNat=i
  ·exact absurd (.inr (.inr ⟨x,by rw [←hb];exact (hok.innS k hk x hx).2, .inl a6⟩)) hfar
  ·exact hsame _ hb
 out x hx:=by
  have h1:=(hok.out k hk).2 x hx;have h2:=hok.outS k hk x hx;have hto:x.to.toNat≠i:=fun hb=>hfar (.inr (.inl ⟨x,by rw [←hb];exact h2.2,by omega⟩));refine ⟨hsame _ hto,fun hz o ho hok'=>?_⟩;have h3:=(hok.inn x.to.toNat a6).2 o ho;by_cases hb:o.fr.toNat=i
  ·have h4:=(hok.innS x.to.toNat a6 o ho).2;rw [hb] at h4;refine absurd (.inr (.inr ⟨o,h4, .inr ⟨?_,x,?_,by omega⟩⟩)) hfar
   ·rw [show o.to.toNat=x.to.toNat by omega,hsame _ hto];exact hz
   ·rw [show o.to.toNat=x.to.toNat by omega];exact h2.2
  ·exact hsame _ hb
def zl7 (L:Ws):Nat:=(L.map fun b=>(c7 b).length).sum
theorem dN {b:BitVec 64}{j:Nat}:j∈c7 b↔b.getLsbD j=true:=by
 unfold c7;rw [List.mem_filter,List.mem_range'_1];constructor
 ·exact fun h=>h.2
 ·intro h;refine ⟨⟨Nat.zero_le _,?_⟩,h⟩;have:=BitVec.lt_of_getLsbD h;omega
theorem ziv {p q:Nat→Bool}:∀(l:List Nat),(∀x∈l,q x=true→p x=true)→(∃x∈l,p x=true∧q x=false)→(l.filter q).length<(l.filter p).length
 | [],_,h=>by obtain ⟨x,hx,_⟩:=h;cases hx
 |y :: r,h,⟨x,hx,hp,hq⟩=>by
  have hle:∀(l:List Nat),(∀x∈l,q x=true→p x=true)→(l.filter q).length≤(l.filter p).length:=by
   intro l
   induction l with
   |nil=>intro _;simp
   |cons z s ih=>
    intro hz;have h1:=ih (fun x hx=>hz x (by simp [hx]));have h2:=hz z b2
    cases hqz:q z <;> cases hpz:p z <;> simp [hqz,hpz] at h2 ⊢ <;> omega
  have h2:=h y b2;rcases List.mem_cons.1 hx with rfl|hx
  ·rw [List.filter_cons_of_neg (by rw [hq];simp),List.filter_cons_of_pos hp];have:=hle r (fun x hx=>h x (by simp [hx]));simp;omega
  ·have:=ziv r (fun x hx=>h x (by simp [hx])) ⟨x,hx,hp,hq⟩
   cases hqz:q y <;> cases hpz:p y <;> simp [hqz,hpz] at h2 ⊢ <;> omega
theorem zoL {a b:BitVec 64}(h:∀j,a.getLsbD j=true→b.getLsbD j=true)(hne:a≠b):(c7 a).length<(c7 b).length:=by
 unfold c7;refine ziv _ (fun j _=>h j) ?_;apply Classical.byContradiction;intro hno;apply hne;apply BitVec.eq_of_getLsbD_eq;intro j hj
 cases ha:a.getLsbD j with
 |true=>rw [h j ha]
 |false=>
  cases hb:b.getLsbD j with
  |false=>rfl
  |true=>exact absurd ⟨j,List.mem_range'_1.2 ⟨Nat.zero_le _,by omega⟩,hb,ha⟩ hno
theorem zis:∀(L:Ws) (i:Nat) (b:BitVec 64),i<L.length→zl7 (L.set i b)+(c7 (cH L i)).length=zl7 L+(c7 b).length
 | [],i,b,h=>by simp at h
 |x :: r,0,b,h=>by simp [zl7,cH];omega
 |x :: r,i+1,b,h=>by
  have:=zis r i b (by simpa using h);simp only [zl7,cH,List.set_cons_succ,List.map_cons,List.sum_cons,List.getD_cons_succ] at this ⊢;omega
inductive Reach (Y:Tb) (L:Ws):Ws→Prop
 |refl:Reach Y L L
 |step {M:Ws} {i:Nat} {b:BitVec 64}:Reach Y L M→i<Y.n→(∀j,b.getLsbD j=true→(jo Y M i).getLsbD j=true)→Reach Y L (M.set i (cH M i &&& ~~~b))
theorem Reach.len {Y:Tb}{L M:Ws}(h:Reach Y L M):M.length=L.length:=by
 induction h with
 |refl=>rfl
 |step _ _ _ ih=>rw [List.length_set,ih]
theorem Reach.sub {Y:Tb}{L M:Ws}(h:Reach Y L M)(hl:L.length=Y.n):∀i j,(cH M i).getLsbD j=true→(cH L i).getLsbD j=true:=by
 induction h with
 |refl=>exact fun _ _ h=>h
 | @step M' k b hr hk _ ih=>
  intro i j hij;rw [kG (by rw [hr.len,hl];exact hk)] at hij
  split at hij
  ·rename_i e;subst e;rw [BitVec.getLsbD_and,Bool.and_eq_true] at hij;exact ih _ _ hij.1
  ·exact ih _ _ hij
structure SInv (Y:Tb) (L0 L:Ws) (q:List Nat) (ws:Ws) (c:Bool):Prop where
 reach:Reach Y L0 L
 len:L.length=Y.n
 ws8:ws.length=8
 wsn:∀j,j<512→eA ws j=true→j<Y.n
 qn:∀j∈q,j<Y.n
 q512:q.length≤512
 bad:c=true→∃i,i<Y.n∧cH L i=0#64
 good:c=false→∀i,i<Y.n→i∈q∨eA ws i=true∨zhP Y L i
def smu (L:Ws)(q:List Nat)(ws:Ws):Nat:=zl7 L*2000+q.length+(if eZ ws=[] then 0 else 600)
theorem zms:eZ fj=[]:=zgz fun j _ _=>zdL j
theorem SInv.refill {Y:Tb}{L0 L:Ws}{ws:Ws}{c:Bool}(h:SInv Y L0 L [] ws c):SInv Y L0 L (eZ ws) fj c where
 reach:=h.reach
 len:=h.len
 ws8:=rfl
 wsn j _ hb:=by rw [zdL] at hb;cases hb
 qn j hj:=by obtain ⟨_,h1,h2⟩:=fJ.1 hj;exact h.wsn j h1 h2
 q512:=zfV ws 0
 bad:=h.bad
 good hc i hi:=by
  rcases h.good hc i hi with h1|h1|h1
  ·cases h1
  ·have:=h.len;by_cases h512:i<512
   ·exact .inl (fJ.2 ⟨Nat.zero_le _,h512,h1⟩)
   ·exfalso;unfold eA cH at h1;rw [List.getD_eq_getElem?_getD,List.getElem?_eq_none (by rw [h.ws8];omega)] at h1;exact absurd h1 (by show ¬(0#64).getLsbD _=true;rw [BitVec.getLsbD_zero];simp)
  ·exact .inr (.inr h1)
theorem zj5 {L:Ws}{ws:Ws}(h:eZ ws≠[]):smu L (eZ ws) fj<smu L [] ws:=by
 unfold smu;rw [if_pos zms,if_neg h];have:(eZ ws).length≤512:=zfV ws 0;simp only [List.length_nil];omega
theorem SInv.calm {Y:Tb}{L0 L:Ws}{ws:Ws}(h:SInv Y L0 L [] ws false)(hm:eZ ws=[]):∀i,i<Y.n→zhP Y L i:=fun i hi=>by
 rcases h.refill.good rfl i hi with h1|h1|h1
 ·rw [hm] at h1;cases h1
 ·rw [zdL] at h1;cases h1
 ·exact h1
theorem zkr {Y:Tb}{L0 L:Ws}{i:Nat}{b:BitVec 64}(h:Reach Y L0 L)(hi:i<Y.n)(hb:∀j,b.getLsbD j=true→(jo Y L i).getLsbD j=true):Reach Y L0 (L.set i (cH L i &&& ~~~b)):= .step h hi hb
theorem zoJ {Y:Tb}{L:Ws}{i j:Nat}(h:(lX Y L i).getLsbD j=true):(jo Y L i).getLsbD j=true:=by simp [jo,h]
theorem zoz {Y:Tb}{L:Ws}{i j:Nat}(h:(kN Y L i).getLsbD j=true):(jo Y L i).getLsbD j=true:=by simp [jo,h]
theorem zoK {Y:Tb}{L:Ws}{i j:Nat}(h:(mb Y L i).getLsbD j=true):(jo Y L i).getLsbD j=true:=by simp [jo,h]
def zgB (Y:Tb)(L:Ws)(i k:Nat):BitVec 64:=if k=0 then lX Y L i else if k=1 then kN Y L i else mb Y L i
theorem zon {Y:Tb}{L:Ws}{i j k:Nat}(h:(zgB Y L i k).getLsbD j=true):(jo Y L i).getLsbD j=true:=by
 unfold zgB at h
 split at h
 ·exact zoJ h
 ·split at h
  ·exact zoz h
  ·exact zoK h
def et (Y:Tb)(L:Ws)(i:Nat):Nat→Ws
 |0=>L
 |k+1=>(et Y L i k).set i (cH (et Y L i k) i &&& ~~~(zgB Y (et Y L i k) i k))
theorem zb5 {Y:Tb}{L:Ws}{i:Nat}:∀k,(et Y L i k).length=L.length
 |0=>rfl
 |k+1=>by rw [et,List.length_set,zb5 k]
theorem zd6 {Y:Tb}{L0 L:Ws}{i:Nat}(h:Reach Y L0 L)(hi:i<Y.n):∀k,Reach Y L0 (et Y L i k)
 |0=>h
 |k+1=>zkr (zd6 h hi k) hi (fun j hj=>zon hj)
theorem zee {Y:Tb}{L:Ws}{i j:Nat}(hi:i<L.length)(hj:j≠i):∀k,cH (et Y L i k) j=cH L j
 |0=>rfl
 |k+1=>by rw [et,kG (by rw [zb5];exact hi),if_neg hj,zee hi hj k]
theorem zft {Y:Tb}{L:Ws}{i:Nat}(hi:i<L.length):∀k j,(cH (et Y L i k) i).getLsbD j=true→(cH L i).getLsbD j=true
 |0,_,h=>h
 |k+1,j,h=>by
  rw [et,kG (by rw [zb5];exact hi),if_pos rfl,BitVec.getLsbD_and,Bool.and_eq_true] at h;exact zft hi k j h.1
theorem zlF {Y:Tb}{L:Ws}{i:Nat}{b:BitVec 64}(hok:Y.Ok)(hi:i<Y.n)(hl:L.length=Y.n)(m:Nat):zgB Y (L.set i b) i m=zgB Y L i m:=by
 have h1:=zgi (b:=b) hok hi hl;unfold zgB;rw [h1.1,h1.2.1,h1.2.2]
theorem zgm {Y:Tb}{L:Ws}{i:Nat}(hok:Y.Ok)(hi:i<Y.n)(hl:L.length=Y.n):∀k m,zgB Y (et Y L i k) i m=zgB Y L i m
 |0,_=>rfl
 |k+1,m=>by rw [et,zlF hok hi (by rw [zb5,hl]),zgm hok hi hl k m]
theorem zkI {Y:Tb}{L:Ws}{i:Nat}(hok:Y.Ok)(hi:i<Y.n)(hl:L.length=Y.n):cH (et Y L i 3) i=cH L i &&& ~~~(lX Y L i) &&& ~~~(kN Y L i) &&& ~~~(mb Y L i):=by
 have h:∀k,cH (et Y L i (k+1)) i=cH (et Y L i k) i &&& ~~~(zgB Y L i k):=fun k=>by
  rw [et,kG (by rw [zb5,hl];exact hi),if_pos rfl,zgm hok hi hl]
 rw [h 2,h 1,h 0]
 rfl
theorem zfm {Y : Tb} {L : Ws} {i : Nat} (hi : i < L.length) : et Y L i 3 = L.set i (cH (et Y L i 3) i) := by
  have h : ∀ k, ∃ b, et Y L i k = L.set i b := by
    intro k
    induction k with
    | zero => exact ⟨cH L i, by
        apply List.ext_getElem?; intro j; by_cases hj : j = i
        · subst hj; rw [List.getElem?_set_self hi, et, List.getElem?_eq_getElem hi, d4 hi]
        · rw [List.getElem?_set_ne (fun e => hj e.symm)]; rfl⟩
    | succ k ih =>
      obtain ⟨b, hb⟩ := ih; exact ⟨_, by rw [et, hb, List.set_set]⟩
  obtain ⟨b, hb⟩ := h 3; rw [hb, kG hi, if_pos rfl]
theorem zhs {a b:BitVec 64}(hs:∀j,a.getLsbD j=true→b.getLsbD j=true)(hne:a≠b)(h0:a≠0#64):iV b=0:=by
 unfold iV;rw [if_neg];rintro ⟨hb,hz⟩
 have h1:∀j,b.getLsbD j=true→j=ctz b:=fun j hj=>by
  have:=zfh hb j;rw [hz,hj,BitVec.getLsbD_zero,Bool.true_and] at this;simpa using this.symm
 apply hne;apply BitVec.eq_of_getLsbD_eq;intro j hj
 cases hbj:b.getLsbD j with
 |false=>
  cases haj:a.getLsbD j with
  |false=>rfl
  |true=>rw [hs j haj] at hbj;cases hbj
 |true=>
  have e:=h1 j hbj;obtain ⟨k,hk⟩:∃k,a.getLsbD k=true:=⟨ctz a,(zeb h0 0).1⟩;rw [e,←h1 k (hs k hk)];exact hk
theorem SInv.step {Y : Tb} {L0 L : Ws} {i : Nat} {q : List Nat} {ws : Ws} (hok : Y.Ok) (h : SInv Y L0 L (i :: q) ws false) :
    SInv Y L0 (et Y L i 3) q (if cH (et Y L i 3) i = cH L i then ws else j8 Y (et Y L i 3) i ws) (decide (cH (et Y L i 3) i = 0#64)) := by
  have hi : i < Y.n := h.qn i b2; (have hil : i < L.length := by rw [h.len]; exact hi); have hn := hok.n; have hsub := zft (Y := Y) hil 3; refine ⟨zd6 h.reach hi 3, by rw [zb5, h.len], ?_, ?_, fun j hj => h.qn j (by simp [hj]), by have := h.q512; simp at this; omega, ?_, ?_⟩
  · split
    · exact h.ws8
    · rw [zfs, h.ws8]
  · intro j hj hb
    split at hb
    · exact h.wsn j hj hb
    · rcases (zds hok hi h.ws8 j hj).1 hb with h1 | ⟨_, h1 | h1 | h1⟩
      · exact h.wsn j hj h1
      · obtain ⟨x, hx, he⟩ := h1; have := (hok.ps i hi).2 x hx; omega
      · obtain ⟨x, hx, he⟩ := h1; have := (hok.inn i hi).2 x hx; omega
      · obtain ⟨x, hx, he⟩ := h1; have h2 := (hok.out i hi).2 x hx; rcases he with he | ⟨_, o, ho, he⟩
        · omega
        · have := (hok.inn x.to.toNat a6).2 o ho; omega
  · intro hc; exact ⟨i, hi, of_decide_eq_true hc⟩
  · intro hc k hk; have h0 : cH (et Y L i 3) i ≠ 0#64 := of_decide_eq_false hc; by_cases hki : k = i
    · subst hki;refine .inr (.inr ⟨h0, ?_⟩); have e := zgi (b := cH (et Y L k 3) k) hok hi h.len; rw [← zfm hil] at e; unfold jo; rw [e.1, e.2.1, e.2.2, zkI hok hi h.len]; apply BitVec.eq_of_getLsbD_eq; intro j hj;simp only [BitVec.getLsbD_and, BitVec.getLsbD_or, BitVec.getLsbD_not, BitVec.getLsbD_zero]
      cases (cH L k).getLsbD j <;> cases (lX Y L k).getLsbD j <;> cases (kN Y L k).getLsbD j <;> cases (mb Y L k).getLsbD j <;> simp
    · have hkeep := zee (Y := Y) hil hki 3; by_cases hsame : cH (et Y L i 3) i = cH L i
      · rw [if_pos hsame]
        have e : et Y L i 3 = L := by
          rw [zfm hil, hsame]; apply List.ext_getElem?; intro j; by_cases hj : j = i
          · subst hj; rw [List.getElem?_set_self hil, List.getElem?_eq_getElem hil, d4 hil]
          · rw [List.getElem?_set_ne (fun e => hj e.symm)]
        rw [e]; rcases h.good rfl k hk with h1 | h1 | h1
        · rcases List.mem_cons.1 h1 with h1 | h1
          · exact absurd h1 hki
          · exact .inl h1
        · exact .inr (.inl h1)
        · exact .inr (.inr h1)
      · rw [if_neg hsame]; have h00 : only L i = 0 := zhs hsub hsame h0; (have honly : ∀ j, j ≠ i → only (et Y L i 3) j = only L j := fun j hj => by unfold only; rw [zee hil hj]); rcases h.good rfl k hk with h1 | h1 | h1
        · rcases List.mem_cons.1 h1 with h1 | h1
          · exact absurd h1 hki
          · exact .inl h1
        · exact .inr (.inl ((zds hok hi h.ws8 k a6).2 (.inl h1)))
        · by_cases hnear : only (et Y L i 3) i ≠ 0 ∧ mT Y (et Y L i 3) i k
          · exact .inr (.inl ((zds hok hi h.ws8 k a6).2 (.inr hnear)))
          · refine .inr (.inr ⟨by rw [hkeep]; exact h1.1, ?_⟩)
            have ha : Alike Y L (et Y L i 3) k := by
              by_cases hz : only (et Y L i 3) i = 0
              · have hall : ∀ j, only (et Y L i 3) j = only L j := fun j => by
                  by_cases hj : j = i
                  · subst hj; rw [hz, h00]
                  · exact honly j hj
                exact q4A
              · exact ziu hok hi hk hki honly h00 (fun hh => hnear ⟨hz, hh⟩)
            rw [zgu ha (fun x hx => by have := (hok.out k hk).2 x hx; omega), hkeep]; exact h1.2
theorem zmj {Y:Tb}{L:Ws}{i:Nat}{q:List Nat}{ws:Ws}(hi:i<L.length)(hq:q.length≤511):smu (et Y L i 3) q (if cH (et Y L i 3) i=cH L i then ws else j8 Y (et Y L i 3) i ws)<smu L (i :: q) ws:=by
 have hb:=zis L i (cH (et Y L i 3) i) hi;rw [←zfm hi] at hb;unfold smu;by_cases hs:cH (et Y L i 3) i=cH L i
 ·rw [if_pos hs];rw [hs] at hb;simp only [List.length_cons];omega
 ·rw [if_neg hs];have hlt:=zoL (zft (Y:=Y) hi 3) hs; (have h6:(if eZ (j8 Y (et Y L i 3) i ws)=[] then 0 else 600)≤600:=by split <;> omega);simp only [List.length_cons];omega
end Go.Proofs.YtgoeeefoinkepaaGreatDoor
