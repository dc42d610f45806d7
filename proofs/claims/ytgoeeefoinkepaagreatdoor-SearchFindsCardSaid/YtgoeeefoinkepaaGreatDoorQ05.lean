/- E F G G2 H1 Pn: shortened and put together by squeeze.py. -/
import Derived.Test.YtgoeeefoinkepaaGreatDoorQ04
set_option maxRecDepth 100000
set_option maxHeartbeats 4000000
set_option linter.unusedVariables false
set_option linter.unusedSectionVars false
set_option linter.unusedSimpArgs false
namespace Go.Proofs.YtgoeeefoinkepaaGreatDoor
open Go.RowKit
theorem cF {p:Prop}(h:p:=by rw [zeN (by omega)];omega):p:=h
theorem cA {p:Prop}(h:p:=by rw [List.length_map,kX]):p:=h
def kw (ws:Ws)(k:Nat):Nat:=((ws.take k).map zlD).sum
theorem zhD {ws:Ws}{k:Nat}(h:k<ws.length):kw ws (k+1)=kw ws k+zlD (cH ws k):=by
 unfold kw;rw [List.take_succ_eq_append_getElem h,d5 h,List.map_append,List.sum_append];simp
theorem ziV (ws:Ws):∀k,kw ws k≤127*k
 |0=>by simp [kw]
 |k+1=>by
  have:=ziV ws k;rcases Nat.lt_or_ge k ws.length with h|h
  ·rw [zhD h];have:=zjX (cH ws k);omega
  ·unfold kw at *;rw [List.take_of_length_le a6] at *;omega
@[irreducible] def e9 (ws:Ws) (i:Nat):List Nat:=(List.range' i (512 - i)).filter (ey ws)
abbrev fe (ws:Ws):List Nat:=e9 ws 0
def zh9:List Nat→Int
 | []=> -1
 |x :: _=>(x:Int)
theorem zgf {ws:Ws}{i:Nat}(h:∀j,i≤j→j<512→ey ws j=false):e9 ws i=[]:=by
 unfold e9;rw [List.filter_eq_nil_iff];intro j hj;obtain ⟨h1,h2⟩:=List.mem_range'_1.1 hj;rw [h j h1 a6];simp
theorem zhX {ws:Ws}{i r:Nat}(hi:i≤r)(hr:r<512)(hb:ey ws r=true)(h:∀j,i≤j→j<r→ey ws j=false):e9 ws i=r :: e9 ws (r+1):=by
 unfold e9
 have e:List.range' i (512 - i)=List.range' i (r - i)++(r :: List.range' (r+1) (512 - (r+1))):=by
  rw [show r :: List.range' (r+1) (512 - (r+1))=List.range' r (512 - r) from by rw [show 512 - r=(512 - (r+1))+1 by omega,List.range'_succ]];have:=List.range'_append (s:=i) (m:=r - i) (n:=512 - r) (step:=1);rw [Nat.one_mul,show i+(r - i)=r by omega,show r - i+(512 - r)=512 - i by omega] at this;exact this.symm
 rw [e,List.filter_append,List.filter_cons_of_pos (by simpa using hb)]
 have:(List.range' i (r - i)).filter (ey ws)=[]:=by
  rw [List.filter_eq_nil_iff];intro j hj;obtain ⟨h1,h2⟩:=List.mem_range'_1.1 hj;rw [h j h1 a6];simp
 rw [this];rfl
theorem fG {ws:Ws}{i j:Nat}:j∈e9 ws i↔i≤j∧j<512∧ey ws j=true:=by
 unfold e9;rw [List.mem_filter,List.mem_range'_1];constructor
 ·rintro ⟨⟨h1,h2⟩,h3⟩;exact ⟨h1,by omega,h3⟩
 ·rintro ⟨h1,h2,h3⟩;exact ⟨⟨h1,by omega⟩,h3⟩
theorem zkS {ws:Ws}{i h:Nat}{t:List Nat}(e:e9 ws i=h :: t):i≤h∧h<512∧t=e9 ws (h+1):=by
 have hm:=fG.1 (show h∈e9 ws i by rw [e];simp)
 have hs:e9 ws i=h :: e9 ws (h+1):=zhX hm.1 hm.2.1 hm.2.2 (fun j h1 h2=>by
  cases hb:ey ws j with
  |false=>rfl
  |true=>
   have hj:j∈e9 ws i:=fG.2 ⟨h1,by omega,hb⟩; (have hsort:(e9 ws i).Pairwise (· < ·):=by unfold e9;exact List.Pairwise.filter _ List.pairwise_lt_range');rw [e] at hj hsort;rcases List.mem_cons.1 hj with hj|hj
   ·omega
   ·have:=(List.pairwise_cons.1 hsort).1 j hj;omega)
 rw [e] at hs;exact ⟨hm.1,hm.2.1,(List.cons.inj hs).2⟩
theorem zfW (ws:Ws)(i:Nat):(e9 ws i).length≤512:=by
 unfold e9;have:=List.length_filter_le (ey ws) (List.range' i (512 - i));rw [List.length_range'] at this;omega
theorem zn3 (a:BitVec 64)(k j:Nat)(hj:j<64):((a >>> k) <<< k).getLsbD j=(a.getLsbD j&&decide (k≤j)):=by
 rw [BitVec.getLsbD_shiftLeft,BitVec.getLsbD_ushiftRight];by_cases h:j<k
 ·simp [h]
 ·rw [show k+(j - k)=j by omega];simp [hj,h];intro _;omega
structure NxInv (ws:Ws) (i at':Nat) (b:BitVec 64):Prop where
 lt:at'<8
 ge:i<64* (at'+1)
 bit:∀j,j<64→b.getLsbD j=(ey ws (64*at'+j)&&decide (i≤64*at'+j))
 none:∀j,i≤j→j<64*at'→ey ws j=false
theorem NxInv.start {ws:Ws}{i:Nat}(hi:i<512):NxInv ws i (i / 64) ((cH ws (i / 64) >>> (i % 64)) <<< (i % 64)) where
 lt:=by omega
 ge:=by omega
 bit j hj:=by
  rw [zn3 _ _ _ hj];unfold ey;rw [show (64* (i / 64)+j) / 64=i / 64 by omega,show (64* (i / 64)+j) % 64=j by omega]
  congr 1
  exact decide_eq_decide.2 a6
 none j h1 h2:=by omega
theorem NxInv.next {ws:Ws}{i a:Nat}(h:NxInv ws i a 0#64)(ha:a+1<8):NxInv ws i (a+1) (cH ws (a+1)) where
 lt:=ha
 ge:=by have:=h.ge;omega
 bit j hj:=by
  have:=h.ge;unfold ey;rw [show (64* (a+1)+j) / 64=a+1 by omega,show (64* (a+1)+j) % 64=j by omega,decide_eq_true a6,Bool.and_true]
 none j h1 h2:=by
  rcases Nat.lt_or_ge j (64*a) with hj|hj
  ·exact h.none j h1 hj
  ·have:=h.bit (j - 64*a) a6;rw [show 64*a+(j - 64*a)=j by omega,decide_eq_true h1,Bool.and_true,BitVec.getLsbD_zero] at this;exact this.symm
theorem NxInv.found {ws:Ws}{i a:Nat}{b:BitVec 64}(h:NxInv ws i a b)(hb:b≠0#64):e9 ws i=(64*a+ctz b) :: e9 ws (64*a+ctz b+1):=by
 have hc:=zgU hb;have h1:=(zdS hb 0).1;rw [h.bit _ hc] at h1;simp only [Bool.and_eq_true,decide_eq_true_eq] at h1;have:=h.lt;refine zhX h1.2 a6 h1.1 (fun j hi hj=>?_);rcases Nat.lt_or_ge j (64*a) with hj2|hj2
 ·exact h.none j hi hj2
 ·have h2:=(zdS hb (j - 64*a)).2 a6;rw [h.bit _ a6,show 64*a+(j - 64*a)=j by omega,decide_eq_true hi,Bool.and_true] at h2;exact h2
theorem NxInv.over {ws:Ws}{i a:Nat}(h:NxInv ws i a 0#64)(ha:a+1=8):e9 ws i=[]:=zgf fun j h1 h2=>by
 rcases Nat.lt_or_ge j (64*a) with hj2|hj2
 ·exact h.none j h1 hj2
 ·have h3:=h.bit (j - 64*a) a6;rw [show 64*a+(j - 64*a)=j by omega,decide_eq_true h1,Bool.and_true,BitVec.getLsbD_zero] at h3;exact h3.symm
theorem zhI (ws:Ws):∀(k i:Nat),k<(e9 ws i).length→e9 ws (cH (e9 ws i) k+1)=(e9 ws i).drop (k+1)
 |k,i,hk=>by
  cases e:e9 ws i with
  |nil=>rw [e] at hk;simp at hk
  |cons h t=>
   obtain ⟨h1,h2,h3⟩:=zkS e
   cases k with
   |zero=>simp [cH,h3]
   |succ k=>
    rw [e] at hk;subst h3;have:=zhI ws k (h+1) (by simpa using hk);simpa [cH] using this
theorem zgL {xs:List Nat}{k:Nat}(h:k<xs.length):zh9 (xs.drop k)=((cH xs k:Nat):Int):=by
 rw [List.drop_eq_getElem_cons h,d5 h];rfl
theorem zlv {xs:List Nat}{k:Nat}(h:zh9 (xs.drop k)<0):xs.length≤k:=by
 rcases Nat.lt_or_ge k xs.length with hk|hk
 ·rw [zgL hk] at h;omega
 ·exact hk
theorem zme {xs:List Nat}{k:Nat}(h:0≤zh9 (xs.drop k)):k<xs.length:=by
 rcases Nat.lt_or_ge k xs.length with hk|hk
 ·exact hk
 ·rw [List.drop_eq_nil_of_le hk] at h;simp [zh9] at h
theorem zn0 {α:Type}[Inhabited α]{xs:List α}{k:Nat}(h:k<xs.length):xs[k]?=some (cH xs k):=by rw [d5 h];exact List.getElem?_eq_getElem h
theorem znF {α:Type}[Inhabited α]{xs:List α}{k:Nat}{x:α}(h:xs[k]?=some x):k<xs.length∧x=cH xs k:=by
 obtain ⟨h1,h2⟩:=List.getElem?_eq_some_iff.1 h;exact ⟨h1,by rw [d5 h1,h2]⟩
def ir (l:List Nat):List Value:=l.map fun j:Nat=> .int .i64 (j:Int)
theorem zlF {l:List Nat}{k:Nat}(h:k<l.length):ir (l.take (k+1))=ir (l.take k)++[.int .i64 ((cH l k:Nat):Int)]:=by
 unfold ir;rw [List.take_succ_eq_append_getElem h,d5 h,List.map_append];rfl
theorem zlE (l:List Nat):ir l=(l.map fun j:Nat=>(j:Int)).flatMap Ie:=by
 unfold ir
 induction l with
 |nil=>rfl
 |cons x r ih=>simp_all [Ie]
@[irreducible] def c7 (m:BitVec 64):List Nat:=(List.range' 0 64).filter m.getLsbD
theorem zeJ {m:BitVec 64}(h:m≠0#64):c7 m=ctz m :: c7 (m &&& (m - 1#64)):=by
 have hc:=zgU h
 have e:List.range' 0 64=List.range' 0 (ctz m)++(ctz m :: List.range' (ctz m+1) (64 - (ctz m+1))):=by
  rw [show ctz m :: List.range' (ctz m+1) (64 - (ctz m+1))=List.range' (ctz m) (64 - ctz m) from by rw [show 64 - ctz m=(64 - (ctz m+1))+1 by omega,List.range'_succ]];have:=List.range'_append (s:=0) (m:=ctz m) (n:=64 - ctz m) (step:=1);rw [Nat.one_mul,Nat.zero_add,show ctz m+(64 - ctz m)=64 by omega] at this;exact this.symm
 have z:∀f:Nat→Bool,(∀j,j<ctz m→f j=false)→(List.range' 0 (ctz m)).filter f=[]:=fun f hf=>by
  rw [List.filter_eq_nil_iff];intro j hj;obtain ⟨_,h2⟩:=List.mem_range'_1.1 hj;rw [hf j a6];simp
 unfold c7;rw [e,List.filter_append,List.filter_append,z _ (fun j hj=>(zdS h j).2 hj),z _ (fun j hj=>by rw [zfd h,(zdS h j).2 hj];rfl),List.filter_cons_of_pos (by simpa using (zdS h 0).1),List.filter_cons_of_neg (by rw [zfd h];simp)];simp only [List.nil_append]
 congr 1
 apply List.filter_congr;intro j hj;obtain ⟨h1,_⟩:=List.mem_range'_1.1 hj;rw [zfd h,decide_eq_false a6];simp
theorem zj3 (m:BitVec 64):(c7 m).length≤64:=by
 unfold c7;have:=List.length_filter_le m.getLsbD (List.range' 0 64);rw [List.length_range'] at this;exact this
theorem zja:c7 0#64=[]:=by
 unfold c7;rw [List.filter_eq_nil_iff];intro j _;simp
theorem znQ (ws:Ws)(hws:ws.length=8)(w:World):Calls Tryz.prog 133 #[.agg ws.cells.toArray] w fun e w'=>e= .returned (.int .i64 (kw ws 8:Int))∧Below w.heap.size w w':=by
 refine dC (M:=fun _=>False) (hs:=[]) Tryz.func133 rfl rfl rfl (Hp.refl _ _) ?_;refine dc ?_; (refine cM (Wt.none) rfl rfl (dv) ?_;rintro _ _ ⟨g1,rfl,rfl⟩);refine ii ?_;refine j1 ?_;refine fw ?_;refine q2E ?_;refine da ?_;refine cS (T.block ?_);refine T.loop (ι:=Nat) (fun k=>[(3, .int .i64 (kw ws k:Int)),(7, .agg ws.cells.toArray),(8, .int .i64 (k:Int))]) (fun k=>[]) (fun k=>k≤8) (fun k=>8 - k) 0 ?_ ?_ ?_ ?_
 ·omega
 ·exact (by repeat (first|exact Sub.nil|refine Sub.cons rfl ?_))
 ·exact Sx
 ·intro k hphi;have hle:=ziV ws k;refine fq ?_;refine T.cond rfl (fun h1=>?_) (fun h1=>?_)
  ·have p1:=h1; (try simp only [cT] at p1);have hld:=Ws.get (ws:=ws) (i:=k) (p:=k) a6 rfl;have hp8:=zjX (cH ws k);refine fM ?_;refine cK (Yv.bN rfl rfl rfl rfl a6 hld) ?_;refine da ?_;refine cS (T.region ?_);refine d8 ?_; (refine cM (Wt.none) rfl rfl (cL rfl rfl rfl (fun w hw=>zmw _ w)) ?_;rintro _ _ ⟨rfl,rfl⟩);refine q0f ?_;refine da ?_;refine l7 ?_;exact K.next (k+1) a6 a6 (by repeat (first|exact Sub.nil|refine Sub.cons rfl ?_|(refine dT rfl (by rw [zhD a6];omega) ?_))) Sx
  ·have p1:=h1; (try simp only [cT] at p1);refine mi ?_;refine jL ?_;exact cU rfl rfl (fun w' hw=>⟨zcP (by rw [show k=8 by omega]),hw.isBelow⟩)
theorem zno (ws:Ws)(hws:ws.length=8)(i:Nat)(hi:i<512)(w:World):Calls Tryz.prog 136 #[.agg ws.cells.toArray, .int .i64 (i:Int)] w fun e w'=>e= .returned (.tuple #[.agg (Ws.cells (dS ws i)).toArray, .int .i64 0])∧Below w.heap.size w w':=by
 have hld:=Ws.get (ws:=ws) (i:=i / 64) (p:=0+0+i / 64*1) a6 a6;refine dC (M:=fun _=>False) (hs:=[]) Tryz.func136 rfl rfl rfl (Hp.refl _ _) ?_;refine dc ?_; (refine cM (Wt.none) rfl rfl (dv) ?_;rintro _ _ ⟨g2,rfl,rfl⟩); (refine cM (Wt.none) rfl rfl (Ew.alloc) ?_;rintro _ _ ⟨g4,rfl,rfl⟩);refine j1 ?_;refine da ?_; (refine cM (Wt.none) rfl rfl (cL rfl rfl rfl (fun w hw=>zeG _ _)) ?_;rintro _ _ ⟨rfl,rfl⟩);refine dQ ?_;refine it rfl (by rw [inB,decide_eq_true (show (0:Int)≤(i:Int) by omega),decide_eq_true (show (i:Int)≤511 by omega)];rfl) ?_;refine ki ?_;refine dG (sN 0 4 (sN 5 3 (.still 9 (.eff 4 (.still 8 (.still 10 (.eff 11 .done))))))) [.row g4 101 (Ws.cells fi)] a8 Sx ?_;refine eZ ?_;refine cN rfl (lm rfl rfl rfl a6) ?_;refine gz ?_;refine cN rfl (ed rfl rfl rfl (show (i:Int) / 64=((i / 64:Nat):Int) from by omega) a6) ?_;refine eZ ?_;refine cN rfl (kn rfl rfl rfl a6) ?_;refine cN rfl (iv (a:=1#64) (i % 64) rfl rfl rfl a6 a6) ?_;refine mN ?_;refine ex rfl (Wt.none) rfl rfl (cX 1 rfl rfl rfl hld) Sx ?_;refine cN rfl (jq) ?_;refine cN rfl (ed rfl rfl rfl (show (i:Int) / 64=((i / 64:Nat):Int) from by omega) a6) ?_;refine dz ?_; (refine dD rfl (Wt.none) rfl (iE 1 (Ws.cells (dS ws i)) rfl rfl rfl rfl (by rw [List.length_map,hws];omega) (Ws.put a6)) ?_;rintro _ _ ⟨rfl,rfl⟩;refine ⟨Sx,?_⟩);refine fC ?_;refine K.seq (dc ?_);refine cK (fv 1 rfl rfl rfl (by rw [List.length_map,kZ,hws])) ?_; (refine dJ (Wt.none) rfl (dH 0 rfl rfl rfl rfl (by rw [List.length_map,kZ,hws]) (by rw [List.length_map,kZ,hws];rfl)) ?_;rintro _ _ ⟨rfl,rfl⟩);refine fu ?_;exact jI 0 rfl rfl rfl rfl (by rw [List.length_map,kZ,hws]) (fun w' hw=>⟨rfl,hw.isBelow⟩)
theorem zjy (ws:Ws)(hws:ws.length=8)(i:Nat)(z:Int)(hz:z=(i:Int))(w:World)(ht:Tab w):Calls Tryz.prog 160 #[.agg ws.cells.toArray, .int .i64 z] w fun e w'=>e= .returned (.int .i64 (zh9 (e9 ws i)))∧Below w.heap.size w w':=by
 subst hz;refine dC (M:=fun _=>False) (hs:=[]) Tryz.func160 rfl rfl rfl (Hp.refl _ _) ?_;refine dc ?_; (refine cM (Wt.none) rfl rfl (dv) ?_;rintro _ _ ⟨g2,rfl,rfl⟩);refine j1 ?_;refine jb ?_;refine it rfl (decide_eq_false a6) ?_;refine kz ?_;refine jb ?_;refine T.cond rfl (fun h1=>?_) (fun h1=>?_)
 ·have p1:=h1; (try simp only [cT] at p1);refine iW ?_;exact cU rfl rfl (fun w' hw=>⟨zcP (by rw [zgf (fun j h1 h2=>by omega)];rfl),hw.isBelow⟩)
 ·have p1:=h1; (try simp only [cT] at p1);have hld:=Ws.get (ws:=ws) (i:=i / 64) (p:=0+0+i / 64*1) a6 a6;refine i1 ?_;refine da ?_;refine cK (lm rfl rfl rfl a6) ?_;refine mI ?_;refine fw ?_;refine cK (ed rfl rfl rfl (show (i:Int) / 64=((i / 64:Nat):Int) from by omega) a6) ?_;refine cK (cX 0 rfl rfl rfl hld) ?_;refine da ?_;refine cK (kn rfl rfl rfl a6) ?_;refine cK (gJ (i % 64) rfl rfl rfl a6 a6) ?_;refine da ?_;refine cK (kn rfl rfl rfl a6) ?_;refine cK (iv (i % 64) rfl rfl rfl a6 a6) ?_;refine da ?_;refine cS (T.seq (T.block ?_));refine T.loop (ι:=Nat×BitVec 64) (fun x=>[(2, .pointer (some ⟨g2,0,none⟩)),(5, .int .i64 (x.1:Int)),(6,U x.2)]) (fun x=>[.row g2 101 ws.cells]) (fun x=>NxInv ws i x.1 x.2) (fun x=>8 - x.1) (i / 64,(cH ws (i / 64) >>> (i % 64)) <<< (i % 64)) ?_ ?_ ?_ ?_
  ·exact NxInv.start a6
  ·exact (by repeat (first|exact Sub.nil|refine Sub.cons rfl ?_|(refine dT rfl a6 ?_)))
  ·exact Sx
  ·intro x hphi;obtain ⟨a,b⟩:=x;dsimp only at hphi ⊢;have hlt0:=hphi.lt;refine jz ?_;refine jb ?_;refine T.cond rfl (fun h2=>?_) (fun h2=>?_)
   ·have p2:=h2; (try simp only [cT] at p2); (have hb0:b=0#64:=by rw [znM] at h2;exact of_decide_eq_true h2);subst hb0;refine T.skip (K.seq (T.block (dc ?_)));refine da ?_;refine q0f ?_;refine j1 ?_;refine jb ?_;refine T.cond rfl (fun h3=>?_) (fun h3=>?_)
    ·have p3:=h3; (try simp only [cT] at p3);refine ic ?_;refine cS (T.ret (d4 (eR (d4 (eR (d4 ?_))))));exact cU rfl rfl (fun w' hw=>⟨zcP (by rw [hphi.over a6];rfl),hw.isBelow⟩)
    ·have p3:=h3; (try simp only [cT] at p3);have hlt8:=hphi.lt;have hld:=Ws.get (ws:=ws) (i:=a+1) (p:=0+0+(a+1) *1) a6 a6;refine T.skip (K.seq (T.region ?_));refine da ?_;refine fw ?_;refine cK (ed rfl rfl rfl (show (a:Int)+1=((a+1:Nat):Int) from by omega) a6) ?_;refine cK (cX 0 rfl rfl rfl hld) ?_;refine da ?_;refine TL.nil (eQ ?_);exact K.next (a+1,cH ws (a+1)) (hphi.next a6) (by show 8 - (a+1)<8 - a;omega) (by repeat (first|exact Sub.nil|refine Sub.cons rfl ?_|(refine dT rfl a6 ?_))) Sx
   ·have p2:=h2; (try simp only [cT] at p2); (have hb0:b≠0#64:=by rw [znM] at h2;exact of_decide_eq_false h2);have hcz:=zgU hb0;have hlt8:=hphi.lt;refine mi ?_;refine da ?_;refine cK (Yv.ct rfl rfl rfl a6) ?_;refine da ?_; (refine cM (Wt.none) rfl rfl (cL rfl rfl rfl (fun w hw=>zkK b hb0 w (ht.keptF hw))) ?_;rintro _ _ ⟨rfl,rfl⟩);refine q0f ?_;refine fu ?_;exact cU rfl rfl (fun w' hw=>⟨zcP (by rw [hphi.found hb0];simp only [zh9];omega),hw.isBelow⟩)
theorem zn4 (ws:Ws)(hws:ws.length=8)(w:World)(ht:Tab w):Calls Tryz.prog 159 #[.agg ws.cells.toArray] w fun e w'=>e= .returned (.int .i64 (zh9 (fe ws)))∧Below w.heap.size w w':=by
 refine dC (M:=fun _=>False) (hs:=[]) Tryz.func159 rfl rfl rfl (Hp.refl _ _) ?_;refine dc ?_; (refine cM (Wt.none) rfl rfl (dv) ?_;rintro _ _ ⟨g1,rfl,rfl⟩);refine ii ?_;refine q2E ?_; (refine cM (Wt.none) rfl rfl (cL rfl rfl rfl (fun w hw=>zjy ws hws 0 0 rfl w (ht.keptF hw))) ?_;rintro _ _ ⟨rfl,rfl⟩);refine fu ?_;refine cU rfl rfl (fun w' hw=>⟨?_,hw.isBelow⟩)
 rfl
theorem znZ (ws:Ws)(hws:ws.length=8)(w:World):Calls Tryz.prog 134 #[.agg ws.cells.toArray] w fun e w'=>∃x:Nat,True∧e= .returned (.func (.func 158) #[] #[.pointer (some ⟨x,0,none⟩)])∧Hp w (fun _=>False) [.row x 101 ws.cells] w':=by
 refine dC (M:=fun _=>False) (hs:=[]) Tryz.func134 rfl rfl rfl (Hp.refl _ _) ?_;refine dc ?_; (refine cM (Wt.none) rfl rfl (dv) ?_;rintro _ _ ⟨g1,rfl,rfl⟩);refine ii ?_;refine jL ?_;exact cU rfl rfl (fun w' hw=>⟨g1,trivial,rfl,hw⟩)
theorem zm1 (ws:Ws)(hws:ws.length=8)(p:Nat)(B:World)(M:Nat→Prop)(ht:Tab B)(hM0:¬M 0):IterAt Tryz.prog 158 [.pointer (some ⟨p,0,none⟩)] (fun j:Nat=>[.int .i64 (j:Int)]) (fe ws) [.row p 101 ws.cells] B M:=by
 intro G Z l W g0 hy hG0 hW;refine zhj (B:=B) (M:=M) Tryz.func158 rfl rfl rfl hW ?_;refine dc ?_;refine q2E ?_; (refine cM (Wt.none) rfl rfl (cL rfl rfl rfl (fun w hw=>zn4 ws hws w (ht.kept hw hM0))) ?_;rintro _ _ ⟨rfl,rfl⟩);refine da ?_;refine cS (T.block ?_);refine T.loop (ι:=Nat×HS) (fun x=>[(0, .func (.yield l) #[] #[]),(1, .pointer (some ⟨p,0,none⟩)),(3, .int .i64 (zh9 ((fe ws).drop x.1)))]) (fun x=>[.row p 101 ws.cells]++x.2) (fun x=>x.1≤(fe ws).length∧G x.1 x.2) (fun x=>(fe ws).length - x.1) (0,g0) ?_ ?_ ?_ ?_
 ·exact ⟨by simp,hG0⟩
 ·exact (by repeat (first|exact Sub.nil|refine Sub.cons rfl ?_))
 ·exact fX
 ·intro x hphi;obtain ⟨k,g⟩:=x;dsimp only at hphi ⊢;obtain ⟨hkn,hG⟩:=hphi;refine jz ?_;refine jb ?_;refine T.cond rfl (fun h1=>?_) (fun h1=>?_)
  ·have p1:=h1; (try simp only [cT] at p1);have hk:=zme p1;have h512:cH (fe ws) k<512:=(fG.1 (iP hk)).2.1;rw [zgL hk];refine fM ?_;refine d8 ?_;refine TL.bW (Wt.none) rfl rfl rfl rfl rfl hy (zn0 hk) hG (enc:=fun j:Nat=>[.int .i64 (j:Int)]) (x:=cH (fe ws) k) (i:=k) ?_ ?_
   ·intro g' hG';refine dQ ?_;refine it rfl rfl ?_;refine q0v ?_;refine q2E ?_;refine da ?_;refine q0f ?_; (refine cM (Wt.none) rfl rfl (cL rfl rfl rfl (fun w hw=>zjy ws hws (cH (fe ws) k+1) _ a6 w (ht.kept hw hM0))) ?_;rintro _ _ ⟨rfl,rfl⟩);refine da ?_;refine eV ?_;exact K.next (k+1,g') ⟨by dsimp only;omega,hG'⟩ (by dsimp only;omega) (by rw [←zhI ws k 0 hk];exact (by repeat (first|exact Sub.nil|refine Sub.cons rfl ?_))) (List.Sublist.refl _)
   ·intro z hZ;refine dQ ?_;refine j5 rfl rfl ?_;refine T.ret (eR (d4 (d4 (eR ?_))));exact K.bR rfl (fun w' hw hkp=>⟨⟨_,rfl⟩,hkp, .inr ⟨z,hZ,hw⟩⟩)
  ·have p1:=h1; (try simp only [cT] at p1);have hk:=zlv p1;refine fE ?_;exact K.bS rfl (fun w' hw hkp=>⟨⟨_,rfl⟩,hkp, .inl ⟨g,by rw [show (fe ws).length=k from by omega];exact hG,hw⟩⟩)
theorem zjK (ws:Ws)(hws:ws.length=8)(w:World)(ht:Tab w):Calls Tryz.prog 115 #[.agg ws.cells.toArray] w fun e w'=>∃v:Value,True∧e= .returned v∧Hp w (fun _=>False) [.sl v 3 1 (fe ws).length (ir (fe ws))] w':=by
 have hsl8:=ziV ws 8;have hml:=zfW ws 0;refine dC (M:=fun _=>False) (hs:=[]) Tryz.func115 rfl rfl rfl (Hp.refl _ _) ?_;refine dc ?_; (refine cM (Wt.none) rfl rfl (dv) ?_;rintro _ _ ⟨g1,rfl,rfl⟩);refine ii ?_;refine q2E ?_; (refine cM (Wt.none) rfl rfl (cL rfl rfl rfl (fun w hw=>znQ ws hws w)) ?_;rintro _ _ ⟨rfl,rfl⟩); (refine cM (Wt.none) rfl rfl (Ew.bE rfl rfl rfl rfl a6 a6) ?_;rintro _ _ ⟨g7,rfl,rfl⟩); (refine cM (Wt.none) rfl rfl (Ew.alloc) ?_;rintro _ _ ⟨g3,rfl,rfl⟩); (refine dJ (Wt.none) rfl (ek 0 rfl rfl rfl rfl a7) ?_;rintro _ _ ⟨rfl,rfl⟩);refine io ?_;refine cK (fv 2 rfl rfl rfl (by rw [List.length_map,hws])) ?_; (refine cM (Wt.none) rfl rfl (iH rfl rfl rfl (fun w hw=>znZ ws hws _)) ?_;rintro _ _ ⟨b9, -,rfl,rfl⟩);refine fF ?_;refine cS (T.block ?_);refine T.bD (α:=Nat) ((fun j:Nat=>[.int .i64 (j:Int)])) (fe ws) ([.row b9 101 ws.cells]) (fun i g=>∃v,g=[.row g3 57 [v], .sl v 3 1 i (ir ((fe ws).take i))]) (fun _ _=>False) (fun x=>[(3, .pointer (some ⟨g3,0,none⟩)),(4, .int .i64 (x:Int))]) (_) (⟨_,rfl⟩) rfl (zm1 ws hws b9 _ _ ht (fun h=>h)) a7 (fun _=>rfl) (by exact Sx) ?_ ?_ ?_ ?_
 ·intro l i x X D g hx;refine km ?_;refine eV ?_;exact K.at (by repeat (first|exact Sub.nil|refine Sub.cons rfl ?_)) (List.Sublist.refl _)
 ·intro l i x X D g hx hG;obtain ⟨v,rfl⟩:=hG;obtain ⟨hi,rfl⟩:=znF hx;have hi2:i<(e9 ws 0).length:=hi;refine fF ?_;refine T.block (T.region ?_);refine cK (cX 1) ?_;refine da ?_; (refine cM (Wt.none) rfl rfl (Ew.buildSlice rfl rfl rfl a7) ?_;rintro _ _ ⟨g13,rfl,rfl⟩); (refine cM (Wt.none) rfl rfl (Ew.append 3 0 rfl rfl rfl rfl rfl rfl a6 a6) ?_;rintro v14 _ ⟨hv14,rfl⟩); (refine dJ (Wt.none) rfl (ek 2 rfl rfl rfl rfl b5) ?_;rintro _ _ ⟨rfl,rfl⟩);refine TL.nil (eQ ?_);exact K.round _ ⟨_,rfl,v14,rfl⟩ (by rw [zlF hi];exact Sx)
 ·intro g hG;obtain ⟨v,rfl⟩:=hG;refine fF ?_;rw [List.take_length];refine eQ (K.seq (dc ?_));refine cK (cX 1) ?_;refine fu ?_;exact cU rfl rfl (fun w' hw=>⟨_,trivial,rfl,hw.sub Sx⟩)
 ·intro c y hz;exact hz.elim
theorem jD {w:World}{v:Value}{e:TypeId}{size k:Nat}{l:List Value}(h:(Ent.sl v e size k l).ok w):OneC v:=by
 rcases (cR.1 h).2 with ⟨rfl,_⟩|⟨g,cap,cur,rfl,_⟩ <;> exact inferInstance
theorem zij (m:BitVec 64)(w:World)(ht:Tab w):Calls Tryz.prog 124 #[U m] w fun e w'=>∃v:Value,OneC v∧e= .returned v∧Hp w (fun _=>False) [.sl v 3 1 (c7 m).length (ir (c7 m))] w':=by
 have hcl:=zj3 m;refine dC (M:=fun _=>False) (hs:=[]) Tryz.func124 rfl rfl rfl (Hp.refl _ _) ?_;refine lP ?_;refine cS (T.seq (T.block ?_));refine T.slNil 3 1 ?_;refine T.loop (ι:=BitVec 64×List Nat×Value) (fun x=>[(0,U x.1),(3,x.2.2)]) (fun x=>[.sl x.2.2 3 1 x.2.1.length (ir x.2.1)]) (fun x=>x.2.1++c7 x.1=c7 m) (fun x=>(c7 x.1).length) (m,[], .slice none 0 0) ?_ ?_ ?_ ?_
 ·rfl
 ·exact (by repeat (first|exact Sub.nil|refine Sub.cons rfl ?_))
 ·exact Sx
 ·intro x hphi;obtain ⟨b,l,v⟩:=x;dsimp only at hphi ⊢; (have hll:l.length+(c7 b).length=(c7 m).length:=by rw [←hphi,List.length_append]);refine jz ?_;refine jb ?_;refine T.cond rfl (fun h1=>?_) (fun h1=>?_)
  ·have p1:=h1; (try simp only [cT] at p1); (have hb0:b≠0#64:=by rintro rfl;exact p1 rfl);have hst:=zeJ hb0;refine T.skip (K.seq (T.seq (T.block (T.region ?_))));refine d8 ?_; (refine cM (Wt.none) rfl rfl (cL rfl rfl rfl (fun w hw=>zkK b hb0 w (ht.keptF hw))) ?_;rintro _ _ ⟨rfl,rfl⟩); (refine cM (Wt.none) rfl rfl (Ew.buildSlice rfl rfl rfl a7) ?_;rintro _ _ ⟨g13,rfl,rfl⟩); (refine cM (Wt.none) rfl rfl (Ew.append 1 0 rfl rfl rfl rfl rfl rfl a6 a6) ?_;rintro v14 _ ⟨hv14,rfl⟩);refine da ?_;refine TL.nil (eQ (K.seq (T.region ?_)));refine d8 ?_;refine cK (Yv.ci (b:=1#64) rfl rfl rfl) ?_;refine cK (gj) ?_;refine da ?_;refine eV ?_;exact K.next (b &&& (b - 1#64),l++[ctz b],v14) (by dsimp only;rw [List.append_assoc,List.singleton_append,←zeJ hb0];exact hphi) (by dsimp only;rw [zeJ hb0];simp) (by repeat (first|exact Sub.nil|refine Sub.cons rfl ?_)) (by simp only [List.length_append,List.length_singleton,ir,List.map_append,List.map_cons,List.map_nil];exact Sx)
  ·have p1:=h1; (try simp only [cT] at p1); (have hb0:b=0#64:=by refine BitVec.eq_of_toNat_eq ?_;show b.toNat=0;omega);subst hb0;rw [zja,List.append_nil] at hphi;subst hphi;refine mi ?_;refine jL ?_;exact cU rfl rfl (fun w' hw=>⟨_,jD (hw.get (i:=0) rfl),rfl,hw.sub Sx⟩)
structure Tb where
 st:List Int
 ix:Nat→Int
 total:Int
 vps:List Value
 ps:Nat→List Pr
 vcs:List Value
 cs:Nat→List Cp
 vin:List Value
 inn:Nat→List Ld
 vout:List Value
 out:Nat→List Ld
abbrev Tb.n (T:Tb):Nat:=T.st.length
structure Lists {α:Type} (w:World) (p:Addr) (enc:α→List Value) (size:Nat) (vs:List Value) (n:Nat) (f:Nat→List α):Prop where
 at':∃v,w.cell? p=some v∧SlOf w v (fun u=>[u]) 1 vs
 len:vs.length=n
 each:∀i,i<n→SlOf w (cH vs i) enc size (f i)
structure TablesAt (w:World) (tp:Nat) (T:Tb):Prop where
 st:∃v,w.cell? ⟨tp,0,none⟩=some v∧zgt w v T.st
 ix:∀j,j<512→w.cell? ⟨tp,1+j,none⟩=some (.int .i64 (T.ix j))
 total:w.cell? ⟨tp,513,none⟩=some (.int .i64 T.total)
 ps:Lists w ⟨tp,514,none⟩ Pr.cells 5 T.vps T.n T.ps
 cs:Lists w ⟨tp,515,none⟩ Cp.cells 4 T.vcs T.n T.cs
 inn:Lists w ⟨tp,516,none⟩ Ld.cells 5 T.vin T.n T.inn
 out:Lists w ⟨tp,517,none⟩ Ld.cells 5 T.vout T.n T.out
structure Tb.Ok (T:Tb):Prop where
 n:T.n≤512
 ps:∀i,i<T.n→(T.ps i).length≤4096∧∀x∈T.ps i,0≤x.a∧x.a<T.n∧0≤x.b∧x.b<T.n∧ -1≤x.off∧x.off≤1∧2≤x.lo∧x.lo≤x.hi∧x.hi≤51∧(x.a=i∨x.b=i)
 cs:∀i,i<T.n→(T.cs i).length≤1024∧∀x∈T.cs i,0≤x.mx∧x.mx≤1099511627776∧2≤x.lo∧x.lo≤x.hi∧x.hi≤51
 inn:∀i,i<T.n→(T.inn i).length≤1024∧∀x∈T.inn i,x.to=i∧0≤x.fr∧x.fr<T.n∧1≤x.wt∧x.wt≤1073741824∧2≤x.lo∧x.lo≤x.hi∧x.hi≤51
 psS:∀i,i<T.n→∀x∈T.ps i,x.a≠x.b∧x∈T.ps x.a.toNat∧x∈T.ps x.b.toNat
 innS:∀i,i<T.n→∀x∈T.inn i,x.to≠x.fr∧x∈T.out x.fr.toNat
 outS:∀i,i<T.n→∀x∈T.out i,x.to≠x.fr∧x∈T.inn x.to.toNat
 out:∀i,i<T.n→(T.out i).length≤1024∧∀x∈T.out i,x.fr=i∧0≤x.to∧x.to<T.n∧1≤x.wt∧x.wt≤1073741824∧2≤x.lo∧x.lo≤x.hi∧x.hi≤51
def jv (w:World)(g:Nat):Prop:=∃cs t p,w.heap[g]?=some (.cells cs t p)
def Fz (w0 w:World):Prop:=∀g,jv w0 g→w.heap[g]?=w0.heap[g]?
theorem zee {w:World}{p:Addr}{v:Value}(h:w.cell? p=some v):jv w p.block:=by
 unfold World.cell? at h
 split at h
 ·rename_i hh;exact ⟨_,_,_,hh⟩
 ·cases h
theorem Fz.cell {w w':World}(hb:Fz w w'){p:Addr}{v:Value}(h:w.cell? p=some v):w'.cell? p=some v:=(World.cell?_of_block (w:=w) (hb _ (zee h))).trans h
theorem Fz.cs {w w':World}(hb:Fz w w'){g p:Nat}{l:List Value}(h:Cs w g p l):Cs w' g p l:=fun j hj=>by
 have:=h j hj;rw [List.getElem?_eq_getElem hj] at this ⊢;exact hb.cell this
theorem iR {w:World}{g p:Nat}{l:List Value}(h:Cs w g p l)(hl:0<l.length):jv w g:=by
 have:=h 0 hl;rw [List.getElem?_eq_getElem hl] at this;exact zee this
theorem Fz.sl {α:Type}{w w':World}(hb:Fz w w'){v:Value}{enc:α→List Value}{size:Nat}{xs:List α}(h:SlOf w v enc size xs):SlOf w' v enc size xs:=by
 obtain ⟨A,cap,rfl,hc⟩:=h;refine ⟨A,cap,rfl,fun hp=>?_⟩;obtain ⟨g,off,rfl,hcs⟩:=hc hp;exact ⟨g,off,rfl,fun i hi=>hb.cs (hcs i hi)⟩
theorem gW {w w':World}(hb:Below w.heap.size w w'):Fz w w':=fun g ⟨cs,t,p,h⟩=>hb.block g (Array.getElem?_eq_some_iff.1 h).1
theorem Fz.hp {w0 w w':World}{M:Nat→Prop}{hs:HS}(h:Fz w0 w)(hw:Hp w M hs w')(h0:∀g,M g→¬jv w0 g):Fz w0 w':=fun g hg=>by
 have h1:=h g hg;obtain ⟨cs,t,p,e⟩:=hg;rw [←h1];refine hw.base g ?_ (fun hm=>h0 g hm ⟨cs,t,p,e⟩);rw [e] at h1;exact (Array.getElem?_eq_some_iff.1 h1).1
theorem Lists.later {α:Type}{w w':World}(hb:Fz w w'){p:Addr}{enc:α→List Value}{size:Nat}{vs:List Value}{n:Nat}{f:Nat→List α}(h:Lists w p enc size vs n f):Lists w' p enc size vs n f:=
 ⟨by obtain ⟨v,h1,h2⟩:=h.at';exact ⟨v,hb.cell h1,hb.sl h2⟩,h.len,fun i hi=>hb.sl (h.each i hi)⟩
theorem TablesAt.later {w w':World}(hb:Fz w w'){tp:Nat}{T:Tb}(h:TablesAt w tp T):TablesAt w' tp T:=
 ⟨by obtain ⟨v,h1,h2⟩:=h.st;exact ⟨v,hb.cell h1,hb.sl h2⟩,fun j hj=>hb.cell (h.ix j hj),hb.cell h.total,h.ps.later hb,h.cs.later hb,h.inn.later hb,h.out.later hb⟩
def Le (b:BitVec 64):List Value:=[U b]
structure StateAt (w:World) (sp:Nat) (T:Tb) (L:Ws) (c:Bool):Prop where
 tab:Tab w
 tb:∃tp,w.cell? ⟨sp,0,none⟩=some (.pointer (some ⟨tp,0,none⟩))∧TablesAt w tp T
 left:∃v,w.cell? ⟨sp,1,none⟩=some v∧SlOf w v Le 1 L
 len:L.length=T.n
 con:w.cell? ⟨sp,2,none⟩=some (.bool c)
theorem StateAt.later {w w':World}(hb:Below w.heap.size w w'){sp:Nat}{T:Tb}{L:Ws}{c:Bool}(h:StateAt w sp T L c):StateAt w' sp T L c:=
 have hf:=gW hb
 ⟨h.tab.keptF (gY hb),by obtain ⟨tp,h1,h2⟩:=h.tb;exact ⟨tp,hf.cell h1,h2.later hf⟩,by obtain ⟨v,h1,h2⟩:=h.left;exact ⟨v,hf.cell h1,hf.sl h2⟩,h.len,hf.cell h.con⟩
theorem StateAt.kept {B w:World}{hs:HS}{sp:Nat}{T:Tb}{L:Ws}{c:Bool}(hw:Hp B (fun _=>False) hs w)(h:StateAt B sp T L c):StateAt w sp T L c:=h.later ⟨hw.os,hw.tape,hw.output,hw.size,fun k hk=>hw.base k hk (fun h=>h)⟩
def iT (b:BitVec 64):Nat:=if b≠0#64∧b &&& (b - 1#64)=0#64 then ctz b else 0
def only (L:Ws)(i:Nat):Nat:=iT (cH L i)
theorem zmF (b:BitVec 64):iT b<64:=by
 unfold iT;split
 ·rename_i h;exact zgU h.1
 ·decide
theorem zhq (L:Ws)(i:Nat):only L i<64:=zmF _
def mj (L:Ws)(i:Nat)(g:BitVec 64)(x:Pr):BitVec 64:=
 if x.a=(i:Int) then
  if (only L x.b.toNat:Int)≠0∧x.lo≤(only L x.b.toNat:Int) - x.off∧(only L x.b.toNat:Int) - x.off≤x.hi then g ||| 1#64 <<< ((only L x.b.toNat:Int) - x.off).toNat else g
 else if x.lo≤(only L x.a.toNat:Int)∧(only L x.a.toNat:Int)≤x.hi then g ||| 1#64 <<< ((only L x.a.toNat:Int)+x.off).toNat else g
def lS (T:Tb)(L:Ws)(i:Nat):BitVec 64:=(T.ps i).foldl (mj L i) 0#64
theorem jj {α β:Type}[Inhabited α](f:β→α→β)(z:β){l:List α}{k:Nat}(h:k<l.length):(l.take (k+1)).foldl f z=f ((l.take k).foldl f z) (cH l k):=by
 rw [List.take_succ_eq_append_getElem h,d5 h,List.foldl_append];rfl
theorem zmL {b:BitVec 64}(h1:¬(b.toNat:Int)=0)(h2:((b &&& (b - 1#64)).toNat:Int)=0):iT b=ctz b:=by
 unfold iT;rw [if_pos ⟨by rintro rfl;exact h1 rfl,BitVec.eq_of_toNat_eq (by show _=0;omega)⟩]
theorem znr {b:BitVec 64}(h2:¬((b &&& (b - 1#64)).toNat:Int)=0):iT b=0:=by
 unfold iT;rw [if_neg (fun h=>h2 (by rw [h.2];rfl))]
theorem zmz {b:BitVec 64}(h1:(b.toNat:Int)=0):iT b=0:=by
 unfold iT;rw [if_neg (fun h=>h.1 (BitVec.eq_of_toNat_eq (by show _=0;omega)))]
theorem zdd (sp:Nat)(Y:Tb)(L:Ws)(c:Bool)(i:Nat)(z:Int)(hz:z=(i:Int))(hi:i<Y.n)(w:World)(h:StateAt w sp Y L c):Calls Tryz.prog 132 #[.pointer (some ⟨sp,0,none⟩), .int .i64 z] w fun e w'=>e= .returned (.int .i64 (only L i:Int))∧Below w.heap.size w w':=by
 subst hz;obtain ⟨tp,hsp0,hT⟩:=h.tb;obtain ⟨vL,hsp1,hL⟩:=h.left;obtain ⟨AL,capL,rfl,hLs⟩:=hL.op;have hLn:=h.len;obtain ⟨gL,oL,rfl,hc⟩:=hLs a6;have hk:=hc i a6;simp only [Le] at hk;refine dC (M:=fun _=>False) (hs:=[]) Tryz.func132 rfl rfl rfl (Hp.refl _ _) ?_;refine ic ?_;refine io ?_;refine d8 ?_;refine fw ?_;refine cK (dI rfl rfl cB (fun h=>h)) ?_;refine da ?_;refine q1H ?_;refine ii ?_;refine eX ?_;refine dn rfl rfl rfl (fun h1=>?_) (fun h1=>?_)
 ·have p1:=h1; (try simp only [cT] at p1);refine jU ?_;refine jU ?_;refine cW (Wt.some rfl rfl rfl h1) rfl rfl (Yv.ci (b:=1#64) rfl rfl rfl) ?_;refine cW (Wt.some rfl rfl rfl h1) rfl rfl (gj) ?_;refine jU ?_;refine kJ ?_;refine cS ?_;refine T.cond rfl (fun h2=>?_) (fun h2=>?_)
  ·have p2:=h2; (try simp only [cT] at p2); (have hne:cH L i≠0#64:=by intro hh;rw [hh] at p1;exact p1 rfl);refine ic ?_; (refine cM (Wt.none) rfl rfl (cL rfl rfl rfl (fun w hw=>zkK _ hne w (h.tab.keptF hw))) ?_;rintro _ _ ⟨rfl,rfl⟩);refine da ?_;refine kM ?_;exact cU rfl rfl (fun w' hw=>⟨zcP (by rw [only,zmL p1 p2]),hw.isBelow⟩)
  ·have p2:=h2; (try simp only [cT] at p2);refine i1 ?_;refine fu ?_;exact cU rfl rfl (fun w' hw=>⟨zcP (by rw [only,znr p2];rfl),hw.isBelow⟩)
 ·have p1:=h1; (try simp only [cT] at p1);refine j6 ?_;refine q1i ?_;refine ms ?_;refine i1 ?_;refine fu ?_;exact cU rfl rfl (fun w' hw=>⟨zcP (by rw [only,zmz p1];rfl),hw.isBelow⟩)
theorem zi1 (sp:Nat)(Y:Tb)(L:Ws)(c:Bool)(i:Nat)(z:Int)(hz:z=(i:Int))(hi:i<Y.n)(w:World)(h:StateAt w sp Y L c)(hok:Y.Ok):Calls Tryz.prog 112 #[.pointer (some ⟨sp,0,none⟩), .int .i64 z] w fun e w'=>e= .returned (U (lS Y L i))∧Below w.heap.size w w':=by
 subst hz;obtain ⟨tp,hsp0,hT⟩:=h.tb;obtain ⟨vL,hsp1,hL⟩:=h.left;obtain ⟨AL,capL,rfl,hLs⟩:=hL.op;have hLn:=h.len;obtain ⟨vP,hP0,hP⟩:=hT.ps.at';obtain ⟨AP,capP,rfl,hPs⟩:=hP.op;have hPn:=hT.ps.len;obtain ⟨gP,oP,rfl,hPc⟩:=hPs a6;rw [hPn] at hP0;have hPi:=hPc i (by rw [hPn];exact hi);obtain ⟨BP,cpP,hvP,hslP⟩:=(hT.ps.each i hi).op;simp only [hvP] at hPi;obtain ⟨hlen,hrng⟩:=hok.ps i hi;have hn512:=hok.n;refine dC (M:=fun _=>False) (hs:=[]) Tryz.func112 rfl rfl rfl (Hp.refl _ _) ?_;refine lP ?_;refine io ?_;refine d8 ?_;refine q1K ?_;refine cK (dI rfl rfl hP0 (fun h=>h)) ?_;refine lw ?_;refine cK (dV (j:=0) rfl rfl hPi rfl rfl (fun h=>h)) ?_;refine jA ?_;refine T.loop (ι:=Nat) (fun k=>[(0, .pointer (some ⟨sp,0,none⟩)),(1, .int .i64 (i:Int)),(5,U (((Y.ps i).take k).foldl (mj L i) 0#64)),(19, .slice BP (Y.ps i).length cpP),(20, .int .i64 ((Y.ps i).length:Int)),(21, .int .i64 (k:Int))]) (fun k=>[]) (fun k=>k≤(Y.ps i).length) (fun k=>(Y.ps i).length - k) 0 ?_ ?_ ?_ ?_
 ·omega
 ·exact (by repeat (first|exact Sub.nil|refine Sub.cons rfl ?_))
 ·exact Sx
 ·intro k hphi;refine fq ?_;refine T.cond rfl (fun h1=>?_) (fun h1=>?_)
  ·have p1:=h1; (try simp only [cT] at p1);obtain ⟨g,off,rfl,hc⟩:=hslP a6;have hk:=hc k a6;simp only [Pr.cells] at hk;have hr:=hrng _ (iP (xs:=Y.ps i) (k:=k) a6);have oa:=zhq L (cH (Y.ps i) k).a.toNat;have ob:=zhq L (cH (Y.ps i) k).b.toNat;refine fM ?_;refine lx ?_; (refine cM (Wt.none) rfl rfl (Ew.alloc) ?_;rintro _ _ ⟨g7,rfl,rfl⟩); (refine dJ (Wt.none) rfl (dH 0) ?_;rintro _ _ ⟨rfl,rfl⟩);refine dr ?_;refine ej ?_;refine jb ?_;refine T.cond rfl (fun h2=>?_) (fun h2=>?_)
   ·have p2:=h2; (try simp only [cT] at p2);refine ic ?_;refine ej ?_; (refine cM (Wt.none) rfl rfl (cL rfl rfl rfl (fun w hw=>zdd sp Y L c (cH (Y.ps i) k).b.toNat _ a6 a6 w (h.kept hw))) ?_;rintro _ _ ⟨rfl,rfl⟩);refine ii ?_;refine eX ?_;refine dn rfl rfl rfl (fun h3=>?_) (fun h3=>?_)
    ·have p3:=h3; (try simp only [cT] at p3);refine q0P ?_;refine q1J ?_;refine q0P ?_;refine cW (Wt.some rfl rfl rfl h3) rfl rfl (kv rfl rfl rfl a6) ?_;refine q1J ?_;refine q3v ?_;refine da ?_;refine dn rfl rfl rfl (fun h4=>?_) (fun h4=>?_)
     ·have p4:=h4; (try simp only [cT] at p4);refine cW (Wt.some rfl rfl rfl h4) rfl rfl (dY) ?_;refine q0Q ?_;refine cW (Wt.some rfl rfl rfl h4) rfl rfl (kv rfl rfl rfl a6) ?_;refine q0Q ?_;refine cW (Wt.some rfl rfl rfl h4) rfl rfl (dY) ?_;refine cK (eA rfl rfl h4) ?_;refine cS ?_;refine T.cond rfl (fun h5=>?_) (fun h5=>?_)
      ·have p5:=h5; (try simp only [cT] at p5);refine jG ?_;refine ej ?_;refine q3j ?_;refine cK (iv (a:=1#64) ((only L (cH (Y.ps i) k).b.toNat:Int) - (cH (Y.ps i) k).off).toNat rfl rfl rfl a6 a6) ?_;refine q3q ?_;exact K.next (k+1) a6 a6 (by rw [jj _ _ a6,mj,if_pos p2,if_pos ⟨p3,p4,p5⟩];exact (by repeat (first|exact Sub.nil|refine Sub.cons rfl ?_))) Sx
      ·have p5:=h5; (try simp only [cT] at p5);refine iG ?_;exact K.next (k+1) a6 a6 (by rw [jj _ _ a6,mj,if_pos p2,if_neg (fun hh=>absurd hh.2.2 a6)];exact (by repeat (first|exact Sub.nil|refine Sub.cons rfl ?_))) Sx
     ·have p4:=h4; (try simp only [cT] at p4);refine q0p ?_;refine q0p ?_;refine TL.off (Wt.not rfl rfl rfl h4) rfl rfl ?_;refine cK (eh rfl rfl h4) ?_;refine ms ?_;refine iG ?_;exact K.next (k+1) a6 a6 (by rw [jj _ _ a6,mj,if_pos p2,if_neg (fun hh=>absurd hh.2.1 a6)];exact (by repeat (first|exact Sub.nil|refine Sub.cons rfl ?_))) Sx
    ·have p3:=h3; (try simp only [cT] at p3);refine q0q ?_;refine q20 ?_;refine TL.run 9 rfl ?_;refine ms ?_;refine iG ?_;exact K.next (k+1) a6 a6 (by rw [jj _ _ a6,mj,if_pos p2,if_neg (fun hh=>hh.1 p3)];exact (by repeat (first|exact Sub.nil|refine Sub.cons rfl ?_))) Sx
   ·have p2:=h2; (try simp only [cT] at p2);refine ic ?_;refine ej ?_; (refine cM (Wt.none) rfl rfl (cL rfl rfl rfl (fun w hw=>zdd sp Y L c (cH (Y.ps i) k).a.toNat _ a6 a6 w (h.kept hw))) ?_;rintro _ _ ⟨rfl,rfl⟩);refine ii ?_;refine ej ?_;refine eX ?_;refine dn rfl rfl rfl (fun h6=>?_) (fun h6=>?_)
    ·have p6:=h6; (try simp only [cT] at p6);refine q15 ?_;refine cS ?_;refine T.cond rfl (fun h7=>?_) (fun h7=>?_)
     ·have p7:=h7; (try simp only [cT] at p7);refine jG ?_;refine ej ?_;refine q0f ?_;refine cK (iv (a:=1#64) ((only L (cH (Y.ps i) k).a.toNat:Int)+(cH (Y.ps i) k).off).toNat rfl rfl rfl a6 a6) ?_;refine q3q ?_;exact K.next (k+1) a6 a6 (by rw [jj _ _ a6,mj,if_neg p2,if_pos ⟨p6,p7⟩];exact (by repeat (first|exact Sub.nil|refine Sub.cons rfl ?_))) Sx
     ·have p7:=h7; (try simp only [cT] at p7);refine iG ?_;exact K.next (k+1) a6 a6 (by rw [jj _ _ a6,mj,if_neg p2,if_neg (fun hh=>absurd hh.2 a6)];exact (by repeat (first|exact Sub.nil|refine Sub.cons rfl ?_))) Sx
    ·have p6:=h6; (try simp only [cT] at p6);refine q0Z ?_;refine q0Z ?_;refine cK (eh rfl rfl h6) ?_;refine ms ?_;refine iG ?_;exact K.next (k+1) a6 a6 (by rw [jj _ _ a6,mj,if_neg p2,if_neg (fun hh=>absurd hh.1 a6)];exact (by repeat (first|exact Sub.nil|refine Sub.cons rfl ?_))) Sx
  ·have p1:=h1; (try simp only [cT] at p1);refine mi ?_;refine jL ?_;exact cU rfl rfl (fun w' hw=>⟨by rw [lS,List.take_of_length_le a6],hw.isBelow⟩)
def lI (f:Nat→Int):List Value:=(List.range 52).map fun d=> .int .i64 (f d)
theorem ziZ (f:Nat→Int):(lI f).length=52:=by simp [lI]
theorem zf6 {f:Nat→Int}{d p:Nat}(hp:p=d)(hd:d<52):(lI f)[p]?=some (.int .i64 (f d)):=by subst hp;simp [lI,hd]
theorem ziR {f f':Nat→Int}{d p:Nat}{v:Int}(hp:p=d)(hd:d<52)(h1:f' d=v)(h2:∀e,e≠d→f' e=f e):(lI f).set p (.int .i64 v)=lI f':=by
 subst hp h1;apply List.ext_getElem?;intro e;unfold lI;by_cases he:e=p
 ·subst he;rw [List.getElem?_set_self (by simpa using hd)];simp [hd]
 ·rw [List.getElem?_set_ne (fun h=>he h.symm)];simp only [List.getElem?_map,List.getElem?_range];by_cases h52:e<52
  ·simp [h52,h2 e he]
  ·simp [h52]
def jW (L:Ws)(f:Nat→Int)(x:Ld):Nat→Int:=fun d=>if x.lo≤(only L x.fr.toNat:Int)∧(only L x.fr.toNat:Int)≤x.hi∧only L x.fr.toNat=d then f d+x.wt else f d
def iw (L:Ws)(l:List Ld):Nat→Int:=l.foldl (jW L) (fun _=>0)
theorem zlV (L:Ws):∀(l:List Ld),(∀x∈l,1≤x.wt∧x.wt≤1073741824)→∀(f:Nat→Int) (b:Int),(∀d,0≤f d∧f d≤b)→∀d,0≤l.foldl (jW L) f d∧l.foldl (jW L) f d≤b+1073741824* (l.length:Int)
 | [],_,f,b,hf,d=>by simpa using hf d
 |x :: r,hx,f,b,hf,d=>by
  have h1:=hx x b2
  have:=zlV L r (fun y hy=>hx y (by simp [hy])) (jW L f x) (b+1073741824) (fun e=>by
   have:=hf e
   unfold jW;split <;> omega) d
  simp only [List.foldl_cons,List.length_cons];omega
def zhO (f:Nat→Int)(mx:Int)(g:BitVec 64)(d:Nat):BitVec 64:=if mx<f d then g ||| 1#64 <<< d else g
def zey (f:Nat→Int)(g:BitVec 64)(x:Cp):BitVec 64:=(List.range' x.lo.toNat (x.hi.toNat+1 - x.lo.toNat)).foldl (zhO f x.mx) g
def kO (Y:Tb)(L:Ws)(i:Nat):BitVec 64:=(Y.cs i).foldl (zey (iw L (Y.inn i))) 0#64
theorem zeV {L:Ws}{l:List Ld}{k:Nat}(h:k<l.length):iw L (l.take (k+1))=jW L (iw L (l.take k)) (cH l k):=jj _ _ h
theorem znP {L:Ws}{l:List Ld}(hl:l.length≤1024)(hw:∀x∈l,1≤x.wt∧x.wt≤1073741824)(k d:Nat):0≤iw L (l.take k) d∧iw L (l.take k) d≤1099511627776:=by
 have:=zlV L (l.take k) (fun x hx=>hw x (List.mem_of_mem_take hx)) (fun _=>0) 0 (fun _=>⟨by simp,by simp⟩) d; (have hk:(l.take k).length≤1024:=by rw [List.length_take];omega);unfold iw;omega
def jY (L:Ws)(i d:Nat)(s:Int)(x:Ld):Int:=if (x.lo≤(d:Int)∧(d:Int)≤x.hi)∧(x.fr=(i:Int)∨only L x.fr.toNat=d) then s+x.wt else s
theorem znh (L:Ws)(i d:Nat):∀(l:List Ld),(∀x∈l,1≤x.wt∧x.wt≤1073741824)→∀(s:Int),0≤s→0≤l.foldl (jY L i d) s∧l.foldl (jY L i d) s≤s+1073741824* (l.length:Int)
 | [],_,s,h=>by simp;exact h
 |x :: r,hx,s,h=>by
  have h1:=hx x b2; (have hs:0≤jY L i d s x∧jY L i d s x≤s+1073741824:=by unfold jY;split <;> omega);have:=znh L i d r (fun y hy=>hx y (by simp [hy])) (jY L i d s x) hs.1;simp only [List.foldl_cons,List.length_cons];omega
def jR (L:Ws)(i d:Nat)(l:List Ld):Int:=l.foldl (jY L i d) 0
theorem zot {L:Ws}{l:List Ld}{i d:Nat}(hl:l.length≤1024)(hw:∀x∈l,1≤x.wt∧x.wt≤1073741824)(k:Nat):0≤jR L i d (l.take k)∧jR L i d (l.take k)≤1099511627776:=by
 have:=znh L i d (l.take k) (fun x hx=>hw x (List.mem_of_mem_take hx)) 0 (Int.le_refl _); (have hk:(l.take k).length≤1024:=by rw [List.length_take];omega);unfold jR;omega
def zd7 (lost:Int)(d:Nat)(g:BitVec 64)(x:Cp):BitVec 64:=if (x.lo≤(d:Int)∧(d:Int)≤x.hi)∧x.mx<lost then g ||| 1#64 <<< d else g
def kS (Y:Tb)(L:Ws)(i:Nat)(g:BitVec 64)(x:Ld):BitVec 64:=
 if ((only L x.to.toNat:Int)<x.lo∨x.hi<(only L x.to.toNat:Int))∨g.getLsbD (only L x.to.toNat)=true then g
 else (Y.cs x.to.toNat).foldl (zd7 (jR L i (only L x.to.toNat) (Y.inn x.to.toNat)) (only L x.to.toNat)) g
def lR (Y:Tb)(L:Ws)(i:Nat):BitVec 64:=(Y.out i).foldl (kS Y L i) 0#64
theorem zkz (sp:Nat)(Y:Tb)(L:Ws)(c:Bool)(i:Nat)(z:Int)(hz:z=(i:Int))(hi:i<Y.n)(w:World)(h:StateAt w sp Y L c)(hok:Y.Ok):Calls Tryz.prog 113 #[.pointer (some ⟨sp,0,none⟩), .int .i64 z] w fun e w'=>e= .returned (U (kO Y L i))∧Below w.heap.size w w':=by
 subst hz;obtain ⟨tp,hsp0,hT⟩:=h.tb;obtain ⟨vL,hsp1,hL⟩:=h.left;obtain ⟨AL,capL,rfl,hLs⟩:=hL.op;have hLn:=h.len;obtain ⟨vC,hC0,hC⟩:=hT.cs.at';obtain ⟨AC,capC,rfl,hCs⟩:=hC.op;have hCn:=hT.cs.len;obtain ⟨gC,oC,rfl,hCc⟩:=hCs a6;rw [hCn] at hC0;have hCi:=hCc i (by rw [hCn];exact hi);obtain ⟨BC,cpC,hvC,hslC⟩:=(hT.cs.each i hi).op;simp only [hvC] at hCi;obtain ⟨vI,hI0,hI⟩:=hT.inn.at';obtain ⟨AI,capI,rfl,hIs⟩:=hI.op;have hIn:=hT.inn.len;obtain ⟨gI,oI,rfl,hIc⟩:=hIs a6;rw [hIn] at hI0;have hIi:=hIc i (by rw [hIn];exact hi);obtain ⟨BI,cpI,hvI,hslI⟩:=(hT.inn.each i hi).op;simp only [hvI] at hIi;obtain ⟨hlenC,hrngC⟩:=hok.cs i hi;obtain ⟨hlen,hrng⟩:=hok.inn i hi;have hn512:=hok.n; (have hwt:∀x∈Y.inn i,1≤x.wt∧x.wt≤1073741824:=fun x hx=>by have:=hrng x hx;omega);refine dC (M:=fun _=>False) (hs:=[]) Tryz.func113 rfl rfl rfl (Hp.refl _ _) ?_;refine q3b ?_;refine q3C ?_;refine dQ ?_;refine T.cond rfl (fun h1=>?_) (fun h1=>?_)
 ·have p1:=h1; (try simp only [cT] at p1);refine iW ?_;exact cU rfl rfl (fun w' hw=>⟨by rw [kO,List.eq_nil_of_length_eq_zero (show (Y.cs i).length=0 by omega)];rfl,hw.isBelow⟩)
 ·have p1:=h1; (try simp only [cT] at p1);refine i1 ?_; (refine cM (Wt.none) rfl rfl (Ew.alloc) ?_;rintro _ _ ⟨g5,rfl,rfl⟩);refine cS ?_;refine T.cut (gs:=[(0, .pointer (some ⟨sp,0,none⟩)),(1, .int .i64 (i:Int)),(5, .pointer (some ⟨g5,0,none⟩))]) (hs':=[.row g5 190 (lI (iw L (Y.inn i)))]) ?_ ?_
  ·skip;refine i4 ?_;refine q1K ?_;refine cK (dI rfl rfl hI0 (fun h=>h)) ?_;refine lw ?_;refine cK (dV (j:=0) rfl rfl hIi rfl rfl (fun h=>h)) ?_;refine jA ?_;refine T.loop (ι:=Nat) (fun k=>[(0, .pointer (some ⟨sp,0,none⟩)),(1, .int .i64 (i:Int)),(5, .pointer (some ⟨g5,0,none⟩)),(34, .slice BI (Y.inn i).length cpI),(35, .int .i64 ((Y.inn i).length:Int)),(36, .int .i64 (k:Int))]) (fun k=>[.row g5 190 (lI (iw L ((Y.inn i).take k)))]) (fun k=>k≤(Y.inn i).length) (fun k=>(Y.inn i).length - k) 0 ?_ ?_ ?_ ?_
   ·omega
   ·exact (by repeat (first|exact Sub.nil|refine Sub.cons rfl ?_))
   ·exact Sx
   ·intro k hphi;refine fq ?_;refine T.cond rfl (fun h2=>?_) (fun h2=>?_)
    ·have p2:=h2; (try simp only [cT] at p2);obtain ⟨g,off,rfl,hc⟩:=hslI a6;have hk:=hc k a6;simp only [Ld.cells] at hk;have hr:=hrng _ (iP (xs:=Y.inn i) (k:=k) a6);have oa:=zhq L (cH (Y.inn i) k).fr.toNat;refine fM ?_;refine lx ?_; (refine cM (Wt.none) rfl rfl (Ew.alloc) ?_;rintro _ _ ⟨g7,rfl,rfl⟩); (refine dJ (Wt.none) rfl (dH 0) ?_;rintro _ _ ⟨rfl,rfl⟩);refine dr ?_;refine jn ?_; (refine cM (Wt.none) rfl rfl (cL rfl rfl rfl (fun w hw=>zdd sp Y L c (cH (Y.inn i) k).fr.toNat _ a6 a6 w (h.kept hw))) ?_;rintro _ _ ⟨rfl,rfl⟩);refine ii ?_;refine ej ?_;refine eX ?_;refine dn rfl rfl rfl (fun h3=>?_) (fun h3=>?_)
     ·have p3:=h3; (try simp only [cT] at p3);refine q1J ?_;refine q0P ?_;refine q1J ?_;refine q3v ?_;refine cS ?_;refine T.cond rfl (fun h4=>?_) (fun h4=>?_)
      ·have p4:=h4; (try simp only [cT] at p4);have hld:=zf6 (f:=iw L ((Y.inn i).take k)) (d:=only L (cH (Y.inn i) k).fr.toNat) (p:=0+only L (cH (Y.inn i) k).fr.toNat*1) a6 a6;have hbd:=znP (L:=L) hlen hwt k (only L (cH (Y.inn i) k).fr.toNat);refine dG (sN 0 2 (sN 3 2 (.eff 2 (sN 5 2 (.eff 7 .done))))) (List.eraseIdx _ 1) a8 (List.eraseIdx_sublist _ _) ?_;refine eZ ?_;refine cN rfl (ed rfl rfl rfl rfl a6) ?_;refine lJ ?_;refine ex rfl (Wt.none) rfl rfl (cX 1 rfl rfl rfl hld) Sx ?_;refine cN rfl (lA rfl rfl rfl a6) ?_;refine cN rfl (ed rfl rfl rfl rfl a6) ?_;refine dz ?_; (refine dD rfl (Wt.none) rfl (iE 1 (lI (iw L ((Y.inn i).take (k+1)))) rfl rfl rfl rfl (by rw [ziZ];omega) (ziR (d:=only L (cH (Y.inn i) k).fr.toNat) a6 a6 (by rw [zeV a6,jW,if_pos ⟨by omega,by omega,rfl⟩]) (fun e he=>by rw [zeV a6,jW,if_neg (fun hh=>he hh.2.2.symm)]))) ?_;rintro _ _ ⟨rfl,rfl⟩;refine ⟨Sx,?_⟩);refine q1X ?_;exact K.next (k+1) a6 a6 (by repeat (first|exact Sub.nil|refine Sub.cons rfl ?_)) Sx
      ·have p4:=h4; (try simp only [cT] at p4);refine iG ?_;exact K.next (k+1) a6 a6 (by repeat (first|exact Sub.nil|refine Sub.cons rfl ?_)) (by rw [zeV a6,show jW L (iw L ((Y.inn i).take k)) (cH (Y.inn i) k)=iw L ((Y.inn i).take k) from funext fun d=>by unfold jW;exact if_neg (fun hh=>absurd hh.2.1 a6)];exact Sx)
     ·have p3:=h3; (try simp only [cT] at p3);refine q20 ?_;refine ms ?_;refine iG ?_;exact K.next (k+1) a6 a6 (by repeat (first|exact Sub.nil|refine Sub.cons rfl ?_)) (by rw [zeV a6,show jW L (iw L ((Y.inn i).take k)) (cH (Y.inn i) k)=iw L ((Y.inn i).take k) from funext fun d=>by unfold jW;exact if_neg (fun hh=>absurd hh.1 a6)];exact Sx)
    ·have p2:=h2; (try simp only [cT] at p2);refine fE ?_;exact K.at (by repeat (first|exact Sub.nil|refine Sub.cons rfl ?_)) (by rw [show (Y.inn i).take k=Y.inn i from List.take_of_length_le a6];exact Sx)
  ·skip;refine q3b ?_;refine jA ?_;refine T.loop (ι:=Nat) (fun k=>[(0, .pointer (some ⟨sp,0,none⟩)),(1, .int .i64 (i:Int)),(5, .pointer (some ⟨g5,0,none⟩)),(9,U (((Y.cs i).take k).foldl (zey (iw L (Y.inn i))) 0#64)),(71, .slice BC (Y.cs i).length cpC),(72, .int .i64 ((Y.cs i).length:Int)),(73, .int .i64 (k:Int))]) (fun k=>[.row g5 190 (lI (iw L (Y.inn i)))]) (fun k=>k≤(Y.cs i).length) (fun k=>(Y.cs i).length - k) 0 ?_ ?_ ?_ ?_
   ·omega
   ·exact (by repeat (first|exact Sub.nil|refine Sub.cons rfl ?_))
   ·exact Sx
   ·intro k hphi;refine fq ?_;refine T.cond rfl (fun h5=>?_) (fun h5=>?_)
    ·have p5:=h5; (try simp only [cT] at p5);obtain ⟨g,off,rfl,hc⟩:=hslC a6;have hk:=hc k a6;simp only [Cp.cells] at hk;have hr:=hrngC _ (iP (xs:=Y.cs i) (k:=k) a6);refine T.skip (K.seq ?_);refine T.cut (gs:=[(0, .pointer (some ⟨sp,0,none⟩)),(1, .int .i64 (i:Int)),(5, .pointer (some ⟨g5,0,none⟩)),(9,U (((Y.cs i).take (k+1)).foldl (zey (iw L (Y.inn i))) 0#64)),(71, .slice (some ⟨g,off,none⟩) (Y.cs i).length cpC),(72, .int .i64 ((Y.cs i).length:Int)),(73, .int .i64 (k:Int))]) (hs':=[.row g5 190 (lI (iw L (Y.inn i)))]) ?_ ?_
     ·skip;refine T.block (dc ?_);refine lx ?_; (refine cM (Wt.none) rfl rfl (Ew.alloc) ?_;rintro _ _ ⟨g11,rfl,rfl⟩); (refine dJ (Wt.none) rfl (dH 0) ?_;rintro _ _ ⟨rfl,rfl⟩);refine dr ?_;refine ej ?_;refine da ?_;refine cS (T.block ?_);refine T.loop (ι:=Nat) (fun j=>[(0, .pointer (some ⟨sp,0,none⟩)),(1, .int .i64 (i:Int)),(5, .pointer (some ⟨g5,0,none⟩)),(9,U ((List.range' (cH (Y.cs i) k).lo.toNat j).foldl (zhO (iw L (Y.inn i)) (cH (Y.cs i) k).mx) (((Y.cs i).take k).foldl (zey (iw L (Y.inn i))) 0#64))),(11, .pointer (some ⟨g11,0,none⟩)),(12, .int .i64 ((cH (Y.cs i) k).lo+(j:Int))),(71, .slice (some ⟨g,off,none⟩) (Y.cs i).length cpC),(72, .int .i64 ((Y.cs i).length:Int)),(73, .int .i64 (k:Int))]) (fun j=>[.row g11 73 [.int .i64 (cH (Y.cs i) k).st, .int .i64 (cH (Y.cs i) k).mx, .int .i64 (cH (Y.cs i) k).lo, .int .i64 (cH (Y.cs i) k).hi], .row g5 190 (lI (iw L (Y.inn i)))]) (fun j=>(cH (Y.cs i) k).lo+(j:Int)≤(cH (Y.cs i) k).hi+1) (fun j=>((cH (Y.cs i) k).hi+1 - (cH (Y.cs i) k).lo).toNat - j) 0 ?_ ?_ ?_ ?_
      ·omega
      ·exact (by repeat (first|exact Sub.nil|refine Sub.cons rfl ?_|(refine dT rfl a6 ?_)))
      ·exact Sx
      ·intro j hphi;refine jz ?_;refine jn ?_;refine dQ ?_;refine T.cond rfl (fun h6=>?_) (fun h6=>?_)
       ·have p6:=h6; (try simp only [cT] at p6);have hld:=zf6 (f:=iw L (Y.inn i)) (d:=(cH (Y.cs i) k).lo.toNat+j) (p:=0+((cH (Y.cs i) k).lo.toNat+j) *1) a6 a6;refine l6 ?_;refine dG (sN 0 5 (.still 5 .done)) _ a8 (List.Sublist.refl _) ?_;refine eZ ?_;refine cN rfl (ed rfl rfl rfl (show (_:Int)=(((cH (Y.cs i) k).lo.toNat+j:Nat):Int) from by omega) a6) ?_;refine cN rfl (cX 1 rfl rfl rfl hld) ?_;refine ff ?_;refine kE ?_;refine T.cond rfl (fun h7=>?_) (fun h7=>?_)
        ·have p7:=h7; (try simp only [cT] at p7);refine jG ?_;refine cK (iv (a:=1#64) ((cH (Y.cs i) k).lo.toNat+j) rfl rfl rfl a6 a6) ?_;refine cK (jq) ?_;refine da ?_;refine TL.nil (eQ (K.seq (T.region ?_)));refine da ?_;refine ko ?_;exact K.next (j+1) a6 a6 (by rw [List.range'_1_concat,List.foldl_append];simp only [List.foldl_cons,List.foldl_nil];rw [zhO,if_pos a6];repeat (first|exact Sub.nil|refine Sub.cons rfl ?_|(refine dT rfl a6 ?_))) Sx
        ·have p7:=h7; (try simp only [cT] at p7);refine i2 ?_;exact K.next (j+1) a6 a6 (by rw [List.range'_1_concat,List.foldl_append];simp only [List.foldl_cons,List.foldl_nil];rw [zhO,if_neg a6];repeat (first|exact Sub.nil|refine Sub.cons rfl ?_|(refine dT rfl a6 ?_))) Sx
       ·have p6:=h6; (try simp only [cT] at p6);refine T.exit (dZ (dZ (fx (eQ ?_))));exact K.at (by rw [jj _ _ a6,zey,show (cH (Y.cs i) k).hi.toNat+1 - (cH (Y.cs i) k).lo.toNat=j by omega];exact (by repeat (first|exact Sub.nil|refine Sub.cons rfl ?_))) Sx
     ·skip;refine fI ?_;refine ko ?_;exact K.next (k+1) a6 a6 (by repeat (first|exact Sub.nil|refine Sub.cons rfl ?_)) Sx
    ·have p5:=h5; (try simp only [cT] at p5);refine mi ?_;refine jL ?_;exact cU rfl rfl (fun w' hw=>⟨by rw [kO,List.take_of_length_le a6],hw.isBelow⟩)
theorem ze0 {L:Ws}{i d:Nat}{l:List Ld}{k:Nat}(h:k<l.length):jR L i d (l.take (k+1))=jY L i d (jR L i d (l.take k)) (cH l k):=jj _ _ h
theorem ziP (sp:Nat)(Y:Tb)(L:Ws)(c:Bool)(i:Nat)(z:Int)(hz:z=(i:Int))(hi:i<Y.n)(w:World)(h:StateAt w sp Y L c)(hok:Y.Ok):Calls Tryz.prog 114 #[.pointer (some ⟨sp,0,none⟩), .int .i64 z] w fun e w'=>e= .returned (U (lR Y L i))∧Below w.heap.size w w':=by
 subst hz;obtain ⟨tp,hsp0,hT⟩:=h.tb;obtain ⟨vL,hsp1,hL⟩:=h.left;obtain ⟨AL,capL,rfl,hLs⟩:=hL.op;have hLn:=h.len;obtain ⟨vO,hO0,hO⟩:=hT.out.at';obtain ⟨AO,capO,rfl,hOs⟩:=hO.op;have hOn:=hT.out.len;obtain ⟨gO,oO,rfl,hOc⟩:=hOs a6;rw [hOn] at hO0;have hOi:=hOc i (by rw [hOn];exact hi);obtain ⟨BO,cpO,hvO,hslO⟩:=(hT.out.each i hi).op;simp only [hvO] at hOi;obtain ⟨vI,hI0,hI⟩:=hT.inn.at';obtain ⟨AI,capI,rfl,hIs⟩:=hI.op;have hIn:=hT.inn.len;obtain ⟨gI,oI,rfl,hIc⟩:=hIs a6;rw [hIn] at hI0;obtain ⟨vC,hC0,hC⟩:=hT.cs.at';obtain ⟨AC,capC,rfl,hCs⟩:=hC.op;have hCn:=hT.cs.len;obtain ⟨gC,oC,rfl,hCc⟩:=hCs a6;rw [hCn] at hC0;obtain ⟨hlen,hrng⟩:=hok.out i hi;have hn512:=hok.n;refine dC (M:=fun _=>False) (hs:=[]) Tryz.func114 rfl rfl rfl (Hp.refl _ _) ?_;refine lP ?_;refine io ?_;refine d8 ?_;refine q1K ?_;refine cK (dI rfl rfl hO0 (fun h=>h)) ?_;refine lw ?_;refine cK (dV (j:=0) rfl rfl hOi rfl rfl (fun h=>h)) ?_;refine jA ?_;refine T.loop (ι:=Nat) (fun k=>[(0, .pointer (some ⟨sp,0,none⟩)),(1, .int .i64 (i:Int)),(23, .slice BO (Y.out i).length cpO),(24, .int .i64 ((Y.out i).length:Int)),(25, .int .i64 (k:Int)),(5,U (((Y.out i).take k).foldl (kS Y L i) 0#64))]) (fun k=>[]) (fun k=>k≤(Y.out i).length) (fun k=>(Y.out i).length - k) 0 ?_ ?_ ?_ ?_
 ·omega
 ·exact (by repeat (first|exact Sub.nil|refine Sub.cons rfl ?_))
 ·exact Sx
 ·intro k hphi;refine fq ?_;refine T.cond rfl (fun h1=>?_) (fun h1=>?_)
  ·have p1:=h1; (try simp only [cT] at p1);obtain ⟨g,off,rfl,hc⟩:=hslO a6;have hk:=hc k a6;simp only [Ld.cells] at hk;have hr:=hrng _ (iP (xs:=Y.out i) (k:=k) a6);have oa:=zhq L (cH (Y.out i) k).to.toNat; (have htn:(cH (Y.out i) k).to.toNat<Y.n:=by omega);obtain ⟨hlenI,hrngI⟩:=hok.inn _ htn;obtain ⟨hlenC,hrngC⟩:=hok.cs _ htn; (have hwt:∀x∈Y.inn (cH (Y.out i) k).to.toNat,1≤x.wt∧x.wt≤1073741824:=fun x hx=>by have:=hrngI x hx;omega);have hIi:=hIc (cH (Y.out i) k).to.toNat (by rw [hIn];exact htn);obtain ⟨BI,cpI,hvI,hslI⟩:=(hT.inn.each (cH (Y.out i) k).to.toNat htn).op;simp only [hvI] at hIi;have hCi:=hCc (cH (Y.out i) k).to.toNat (by rw [hCn];exact htn);obtain ⟨BC,cpC,hvC,hslC⟩:=(hT.cs.each (cH (Y.out i) k).to.toNat htn).op;simp only [hvC] at hCi;refine T.skip (K.seq ?_);refine T.cut (gs:=[(0, .pointer (some ⟨sp,0,none⟩)),(1, .int .i64 (i:Int)),(23, .slice (some ⟨g,off,none⟩) (Y.out i).length cpO),(24, .int .i64 ((Y.out i).length:Int)),(25, .int .i64 (k:Int)),(5,U (((Y.out i).take (k+1)).foldl (kS Y L i) 0#64))]) (hs':=[]) ?_ ?_
   ·skip;refine T.block (dc ?_);refine lx ?_; (refine cM (Wt.none) rfl rfl (Ew.alloc) ?_;rintro _ _ ⟨g7,rfl,rfl⟩); (refine dJ (Wt.none) rfl (dH 0) ?_;rintro _ _ ⟨rfl,rfl⟩);refine dr ?_;refine jn ?_; (refine cM (Wt.none) rfl rfl (cL rfl rfl rfl (fun w hw=>zdd sp Y L c ((cH (Y.out i) k).to.toNat) _ a6 a6 w (h.kept hw))) ?_;rintro _ _ ⟨rfl,rfl⟩);refine j1 ?_;refine jn ?_;refine d8 ?_;refine dn rfl rfl rfl (fun h2=>?_) (fun h2=>?_)
    ·have p2:=h2; (try simp only [cT] at p2);refine q0k ?_;refine TL.off (Wt.not rfl rfl rfl h2) rfl rfl ?_;refine q2C ?_;refine TL.run 7 rfl ?_;refine ma ?_;refine T.exit (dZ (fx ?_)); (refine K.at ?_ Sx;rw [jj _ _ a6,kS,if_pos (.inl a6)];exact (by repeat (first|exact Sub.nil|refine Sub.cons rfl ?_)))
    ·have p2:=h2; (try simp only [cT] at p2);refine ml ?_;refine mw ?_;refine ml ?_;refine q3U ?_;refine da ?_;refine dn rfl rfl rfl (fun h3=>?_) (fun h3=>?_)
     ·have p3:=h3; (try simp only [cT] at p3);refine q0q ?_;refine TL.off (Wt.not rfl rfl rfl h3) rfl rfl ?_;refine TL.off (Wt.not rfl rfl rfl h3) rfl rfl ?_;refine q3v ?_;refine ma ?_;refine T.exit (dZ (fx ?_)); (refine K.at ?_ Sx;rw [jj _ _ a6,kS,if_pos (.inl a6)];exact (by repeat (first|exact Sub.nil|refine Sub.cons rfl ?_)))
     ·have p3:=h3; (try simp only [cT] at p3);refine q1J ?_;refine q1J ?_;refine cW (Wt.some rfl rfl rfl h3) rfl rfl (gJ (only L (cH (Y.out i) k).to.toNat) rfl rfl rfl rfl a6) ?_;refine cW (Wt.some rfl rfl rfl h3) rfl rfl (gj (b:=1#64)) ?_;refine q1J ?_;refine cK (eh rfl rfl h3) ?_;refine cS ?_;refine T.cond rfl (fun h4=>?_) (fun h4=>?_)
      ·have p4:=h4; (try simp only [cT] at p4); (have hbit:((((Y.out i).take k).foldl (kS Y L i) 0#64)).getLsbD (only L (cH (Y.out i) k).to.toNat)=true:=by rw [←zhR];exact decide_eq_true cB);refine T.exit (dZ (fx ?_)); (have hb:=hbit;refine K.at ?_ Sx;rw [jj _ _ a6,kS,if_pos (.inr hb)];exact (by repeat (first|exact Sub.nil|refine Sub.cons rfl ?_)))
      ·have p4:=h4; (try simp only [cT] at p4); (have hno:¬(((only L (cH (Y.out i) k).to.toNat:Int)<(cH (Y.out i) k).lo∨(cH (Y.out i) k).hi<(only L (cH (Y.out i) k).to.toNat:Int))∨((((Y.out i).take k).foldl (kS Y L i) 0#64)).getLsbD (only L (cH (Y.out i) k).to.toNat)=true):=by rintro ((hh|hh)|hh);omega;omega;rw [←zhR] at hh;exact absurd (of_decide_eq_true hh) cB);refine i1 ?_;refine dQ ?_;refine T.cut (gs:=[(0, .pointer (some ⟨sp,0,none⟩)),(1, .int .i64 (i:Int)),(23, .slice (some ⟨g,off,none⟩) (Y.out i).length cpO),(24, .int .i64 ((Y.out i).length:Int)),(25, .int .i64 (k:Int)),(7, .pointer (some ⟨g7,0,none⟩)),(8, .int .i64 (only L (cH (Y.out i) k).to.toNat:Int)),(5,U (((Y.out i).take k).foldl (kS Y L i) 0#64)),(9, .int .i64 (jR L i (only L (cH (Y.out i) k).to.toNat) (Y.inn (cH (Y.out i) k).to.toNat)))]) (hs':=[.row g7 71 [.int .i64 (cH (Y.out i) k).to, .int .i64 (cH (Y.out i) k).fr, .int .i64 (cH (Y.out i) k).wt, .int .i64 (cH (Y.out i) k).lo, .int .i64 (cH (Y.out i) k).hi]]) ?_ ?_
       ·skip;refine T.seq ?_;refine q1b ?_;refine jc ?_;refine cN rfl (dI rfl rfl hsp0 (fun h=>h)) ?_;refine kP ?_;refine cN rfl (dI rfl rfl hI0 (fun h=>h)) ?_;refine q2k ?_;refine cN rfl (dV (j:=0) rfl rfl hIi rfl rfl (fun h=>h)) ?_;refine q3T ?_;refine T.loop (ι:=Nat) (fun j=>[(0, .pointer (some ⟨sp,0,none⟩)),(1, .int .i64 (i:Int)),(23, .slice (some ⟨g,off,none⟩) (Y.out i).length cpO),(24, .int .i64 ((Y.out i).length:Int)),(25, .int .i64 (k:Int)),(7, .pointer (some ⟨g7,0,none⟩)),(8, .int .i64 (only L (cH (Y.out i) k).to.toNat:Int)),(5,U (((Y.out i).take k).foldl (kS Y L i) 0#64)),(9, .int .i64 (jR L i (only L (cH (Y.out i) k).to.toNat) ((Y.inn (cH (Y.out i) k).to.toNat).take j))),(60, .slice BI (Y.inn (cH (Y.out i) k).to.toNat).length cpI),(61, .int .i64 ((Y.inn (cH (Y.out i) k).to.toNat).length:Int)),(62, .int .i64 (j:Int))]) (fun j=>[.row g7 71 [.int .i64 (cH (Y.out i) k).to, .int .i64 (cH (Y.out i) k).fr, .int .i64 (cH (Y.out i) k).wt, .int .i64 (cH (Y.out i) k).lo, .int .i64 (cH (Y.out i) k).hi]]) (fun j=>j≤(Y.inn (cH (Y.out i) k).to.toNat).length) (fun j=>(Y.inn (cH (Y.out i) k).to.toNat).length - j) 0 ?_ ?_ ?_ ?_
        ·omega
        ·exact (by repeat (first|exact Sub.nil|refine Sub.cons rfl ?_))
        ·exact Sx
        ·intro j hphi;refine fq ?_;refine T.cond rfl (fun h5=>?_) (fun h5=>?_)
         ·have p5:=h5; (try simp only [cT] at p5);obtain ⟨gi,offi,rfl,hci⟩:=hslI a6;have hj:=hci j a6;simp only [Ld.cells] at hj;have hri:=hrngI _ (iP (xs:=Y.inn (cH (Y.out i) k).to.toNat) (k:=j) a6);have hbd:=zot (L:=L) (i:=i) (d:=only L (cH (Y.out i) k).to.toNat) hlenI hwt j;refine fM ?_;refine q0w ?_;refine cK (iu rfl rfl hj rfl (fun h=>h)) ?_; (refine cM (Wt.none) rfl rfl (Ew.alloc) ?_;rintro _ _ ⟨g11,rfl,rfl⟩); (refine dJ (Wt.none) rfl (dH 0) ?_;rintro _ _ ⟨rfl,rfl⟩);refine dr ?_;refine ej ?_;refine eX ?_;refine dn rfl rfl rfl (fun h6=>?_) (fun h6=>?_)
          ·have p6:=h6; (try simp only [cT] at p6);refine q15 ?_;refine da ?_;refine dn rfl rfl rfl (fun h7=>?_) (fun h7=>?_)
           ·have p7:=h7; (try simp only [cT] at p7);refine q3G ?_;refine cW (Wt.some rfl rfl rfl h7) rfl rfl (dY) ?_;refine cW (Wt.some rfl rfl rfl h7) rfl rfl (dY) ?_;refine cW (Wt.some rfl rfl rfl h7) rfl rfl (dY) ?_;refine dn rfl rfl rfl (fun h8=>?_) (fun h8=>?_)
            ·have p8:=h8; (try simp only [cT] at p8);refine q1h ?_;refine q1h ?_;refine cW (Wt.some rfl rfl rfl h7) rfl rfl (eA rfl rfl h8) ?_;refine cK (eA rfl rfl h7) ?_;refine ma ?_;refine fI ?_;refine jn ?_;refine q0f ?_;refine da ?_;refine l7 ?_;exact K.next (j+1) a6 a6 (by rw [ze0 a6,jY];split <;> first|(exfalso;omega)|exact (by repeat (first|exact Sub.nil|refine Sub.cons rfl ?_))) Sx
            ·have p8:=h8; (try simp only [cT] at p8);refine cW (Wt.some rfl rfl rfl h8) rfl rfl (dY) ?_;refine q3H ?_; (refine cM (Wt.some rfl rfl rfl h8) rfl rfl (cL rfl rfl rfl (fun w hw=>zdd sp Y L c (cH (Y.inn (cH (Y.out i) k).to.toNat) j).fr.toNat _ a6 a6 w (h.kept hw))) ?_;rintro _ _ ⟨rfl,rfl⟩);refine cW (Wt.some rfl rfl rfl h8) rfl rfl (dY) ?_;refine cW (Wt.some rfl rfl rfl h8) rfl rfl (dY) ?_;refine cW (Wt.some rfl rfl rfl h7) rfl rfl (eh rfl rfl h8) ?_;refine cK (eA rfl rfl h7) ?_;refine cS ?_;refine T.cond rfl (fun h9=>?_) (fun h9=>?_)
             ·have p9:=h9; (try simp only [cT] at p9);refine fI ?_;refine jn ?_;refine q0f ?_;refine da ?_;refine l7 ?_;exact K.next (j+1) a6 a6 (by rw [ze0 a6,jY];split <;> first|(exfalso;omega)|exact (by repeat (first|exact Sub.nil|refine Sub.cons rfl ?_))) Sx
             ·have p9:=h9; (try simp only [cT] at p9);refine iG ?_;exact K.next (j+1) a6 a6 (by rw [ze0 a6,jY];split <;> first|(exfalso;omega)|exact (by repeat (first|exact Sub.nil|refine Sub.cons rfl ?_))) Sx
           ·have p7:=h7; (try simp only [cT] at p7);refine q1y ?_;refine q1y ?_;refine TL.off (Wt.not rfl rfl rfl h7) rfl rfl ?_;refine q0K ?_;refine q0K ?_;refine TL.off (Wt.not rfl rfl rfl h7) rfl rfl ?_;refine cK (eh rfl rfl h7) ?_;refine ms ?_;refine iG ?_;exact K.next (j+1) a6 a6 (by rw [ze0 a6,jY];split <;> first|(exfalso;omega)|exact (by repeat (first|exact Sub.nil|refine Sub.cons rfl ?_))) Sx
          ·have p6:=h6; (try simp only [cT] at p6);refine q0Z ?_;refine q0Z ?_;refine cK (eh rfl rfl h6) ?_;refine TL.run 6 rfl ?_;refine q0K ?_;refine q0K ?_;refine jb ?_;refine it rfl rfl ?_;refine iG ?_;exact K.next (j+1) a6 a6 (by rw [ze0 a6,jY];split <;> first|(exfalso;omega)|exact (by repeat (first|exact Sub.nil|refine Sub.cons rfl ?_))) Sx
         ·have p5:=h5; (try simp only [cT] at p5);refine fE ?_;exact K.at (by rw [show (Y.inn (cH (Y.out i) k).to.toNat).take j=Y.inn (cH (Y.out i) k).to.toNat from List.take_of_length_le a6] at *;exact (by repeat (first|exact Sub.nil|refine Sub.cons rfl ?_))) Sx
       ·skip;refine T.seq ?_;refine q1b ?_;refine jc ?_;refine cN rfl (dI rfl rfl hsp0 (fun h=>h)) ?_;refine kP ?_;refine cN rfl (dI rfl rfl hC0 (fun h=>h)) ?_;refine q2k ?_;refine cN rfl (dV (j:=0) rfl rfl hCi rfl rfl (fun h=>h)) ?_;refine q3T ?_;refine T.loop (ι:=Nat) (fun j=>[(0, .pointer (some ⟨sp,0,none⟩)),(1, .int .i64 (i:Int)),(23, .slice (some ⟨g,off,none⟩) (Y.out i).length cpO),(24, .int .i64 ((Y.out i).length:Int)),(25, .int .i64 (k:Int)),(7, .pointer (some ⟨g7,0,none⟩)),(8, .int .i64 (only L (cH (Y.out i) k).to.toNat:Int)),(9, .int .i64 (jR L i (only L (cH (Y.out i) k).to.toNat) (Y.inn (cH (Y.out i) k).to.toNat))),(5,U (((Y.cs (cH (Y.out i) k).to.toNat).take j).foldl (zd7 (jR L i (only L (cH (Y.out i) k).to.toNat) (Y.inn (cH (Y.out i) k).to.toNat)) (only L (cH (Y.out i) k).to.toNat)) (((Y.out i).take k).foldl (kS Y L i) 0#64))),(105, .slice BC (Y.cs (cH (Y.out i) k).to.toNat).length cpC),(106, .int .i64 ((Y.cs (cH (Y.out i) k).to.toNat).length:Int)),(107, .int .i64 (j:Int))]) (fun j=>[.row g7 71 [.int .i64 (cH (Y.out i) k).to, .int .i64 (cH (Y.out i) k).fr, .int .i64 (cH (Y.out i) k).wt, .int .i64 (cH (Y.out i) k).lo, .int .i64 (cH (Y.out i) k).hi]]) (fun j=>j≤(Y.cs (cH (Y.out i) k).to.toNat).length) (fun j=>(Y.cs (cH (Y.out i) k).to.toNat).length - j) 0 ?_ ?_ ?_ ?_
        ·omega
        ·exact (by repeat (first|exact Sub.nil|refine Sub.cons rfl ?_))
        ·exact Sx
        ·intro j hphi;refine fq ?_;refine T.cond rfl (fun h10=>?_) (fun h10=>?_)
         ·have p10:=h10; (try simp only [cT] at p10);obtain ⟨gc,offc,rfl,hcc⟩:=hslC a6;have hj:=hcc j a6;simp only [Cp.cells] at hj;refine fM ?_;refine q0w ?_;refine cK (iu rfl rfl hj rfl (fun h=>h)) ?_; (refine cM (Wt.none) rfl rfl (Ew.alloc) ?_;rintro _ _ ⟨g13,rfl,rfl⟩); (refine dJ (Wt.none) rfl (dH 0) ?_;rintro _ _ ⟨rfl,rfl⟩);refine dr ?_;refine ej ?_;refine eX ?_;refine dn rfl rfl rfl (fun h11=>?_) (fun h11=>?_)
          ·have p11:=h11; (try simp only [cT] at p11);refine cW (Wt.some rfl rfl rfl h11) rfl rfl (dY) ?_;refine cW (Wt.some rfl rfl rfl h11) rfl rfl (Yv.fieldAddr) ?_;refine cW (Wt.some rfl rfl rfl h11) rfl rfl (cX 0) ?_;refine cW (Wt.some rfl rfl rfl h11) rfl rfl (dY) ?_;refine cK (eA rfl rfl h11) ?_;refine da ?_;refine dn rfl rfl rfl (fun h12=>?_) (fun h12=>?_)
           ·have p12:=h12; (try simp only [cT] at p12);refine cW (Wt.some rfl rfl rfl h12) rfl rfl (dY) ?_;refine cW (Wt.some rfl rfl rfl h12) rfl rfl (Yv.fieldAddr) ?_;refine cW (Wt.some rfl rfl rfl h12) rfl rfl (cX 0) ?_;refine cW (Wt.some rfl rfl rfl h12) rfl rfl (dY) ?_;refine cK (eA rfl rfl h12) ?_;refine cS ?_;refine T.cond rfl (fun h13=>?_) (fun h13=>?_)
            ·have p13:=h13; (try simp only [cT] at p13);refine jG ?_;refine cK (iv (a:=1#64) (only L (cH (Y.out i) k).to.toNat) rfl rfl rfl rfl a6) ?_;refine q3q ?_;exact K.next (j+1) a6 a6 (by rw [jj _ _ a6,zd7];split <;> first|(exfalso;omega)|exact (by repeat (first|exact Sub.nil|refine Sub.cons rfl ?_))) Sx
            ·have p13:=h13; (try simp only [cT] at p13);refine iG ?_;exact K.next (j+1) a6 a6 (by rw [jj _ _ a6,zd7];split <;> first|(exfalso;omega)|exact (by repeat (first|exact Sub.nil|refine Sub.cons rfl ?_))) Sx
           ·have p12:=h12; (try simp only [cT] at p12);refine q22 ?_;refine q22 ?_;refine cK (eh rfl rfl h12) ?_;refine ms ?_;refine iG ?_;exact K.next (j+1) a6 a6 (by rw [jj _ _ a6,zd7];split <;> first|(exfalso;omega)|exact (by repeat (first|exact Sub.nil|refine Sub.cons rfl ?_))) Sx
          ·have p11:=h11; (try simp only [cT] at p11);refine q23 ?_;refine q23 ?_;refine cK (eh rfl rfl h11) ?_;refine TL.run 6 rfl ?_;refine ms ?_;refine iG ?_;exact K.next (j+1) a6 a6 (by rw [jj _ _ a6,zd7];split <;> first|(exfalso;omega)|exact (by repeat (first|exact Sub.nil|refine Sub.cons rfl ?_))) Sx
         ·have p10:=h10; (try simp only [cT] at p10);refine T.exit (dZ (dZ (fx (eQ ?_)))); (have hn:=hno;have e:(Y.cs (cH (Y.out i) k).to.toNat).take j=Y.cs (cH (Y.out i) k).to.toNat:=List.take_of_length_le a6;refine K.at ?_ Sx;rw [jj _ _ a6,kS,if_neg hn,e];exact (by repeat (first|exact Sub.nil|refine Sub.cons rfl ?_)))
   ·skip;refine fI ?_;refine ko ?_;exact K.next (k+1) a6 a6 (by repeat (first|exact Sub.nil|refine Sub.cons rfl ?_)) Sx
  ·have p1:=h1; (try simp only [cT] at p1);refine mi ?_;refine jL ?_;exact cU rfl rfl (fun w' hw=>⟨by rw [lR,List.take_of_length_le a6],hw.isBelow⟩)
structure GL where
 b:Nat
 c:Nat
structure StF (w0 w:World) (sp:Nat) (gl:GL) (tp:Nat) (Y:Tb) (L:Ws) (c:Bool):Prop where
 tb:TablesAt w0 tp Y
 fr:Fz w0 w
 c0:w.cell? ⟨sp,0,none⟩=some (.pointer (some ⟨tp,0,none⟩))
 c1:w.cell? ⟨sp,1,none⟩=some (.slice (some ⟨gl.b,0,none⟩) L.length gl.c)
 lf:SlOf w (.slice (some ⟨gl.b,0,none⟩) L.length gl.c) Le 1 L
 len:L.length=Y.n
 c2:w.cell? ⟨sp,2,none⟩=some (.bool c)
 tab:Tab w
theorem StF.st {w0 w:World}{sp:Nat}{gl:GL}{tp:Nat}{Y:Tb}{L:Ws}{c:Bool}(h:StF w0 w sp gl tp Y L c):StateAt w sp Y L c:=
 ⟨h.tab,⟨tp,h.c0,h.tb.later h.fr⟩,⟨_,h.c1,h.lf⟩,h.len,h.c2⟩
theorem StF.kept {w0 w w':World}{M:Nat→Prop}{hs:HS}{sp:Nat}{gl:GL}{tp:Nat}{Y:Tb}{L:Ws}{c:Bool}(h:StF w0 w sp gl tp Y L c)(hw:Hp w M hs w')(h0:∀g,M g→¬jv w0 g)(h1:¬M sp)(h2:¬M gl.b)(h3:¬M 0):StF w0 w' sp gl tp Y L c:=
 ⟨h.tb,Fz.hp h.fr hw h0,hw.cellB h.c0 h1,hw.cellB h.c1 h1,h.lf.keptM hw (fun g hg=>by simp [Value.ownBlock] at hg;subst hg;exact h2),h.len,hw.cellB h.c2 h1,h.tab.kept hw h3⟩
def j2 (Y:Tb)(L:Ws)(i:Nat)(ws:Ws):Ws:=
 if (only L i:Int)=0 then ws else
  (Y.out i).foldl (fun s x=>if (only L x.to.toNat:Int)=0 then dS s x.to.toNat else (Y.inn x.to.toNat).foldl (fun s o=>dS s o.fr.toNat) (dS s x.to.toNat))
   ((Y.inn i).foldl (fun s x=>dS s x.fr.toNat) ((Y.ps i).foldl (fun s x=>dS s (x.a+x.b - (i:Int)).toNat) ws))
theorem zfL {α:Type}(f:Ws→α→Ws)(hf:∀s x,(f s x).length=s.length):∀(l:List α) (s:Ws),(l.foldl f s).length=s.length
 | [],_=>rfl
 |x :: r,s=>by rw [List.foldl_cons,zfL f hf r,hf]
theorem zc4 (l:List Ld)(s:Ws):(l.foldl (fun s x=>dS s x.fr.toNat) s).length=s.length:=zfL _ (fun _ _=>kZ) l s
theorem zda (i:Int)(l:List Pr)(s:Ws):(l.foldl (fun s x=>dS s (x.a+x.b - (i:Int)).toNat) s).length=s.length:=zfL _ (fun _ _=>kZ) l s
def lX (Y:Tb)(L:Ws)(s:Ws)(x:Ld):Ws:=if (only L x.to.toNat:Int)=0 then dS s x.to.toNat else (Y.inn x.to.toNat).foldl (fun s o=>dS s o.fr.toNat) (dS s x.to.toNat)
theorem zf0 {Y:Tb}{L s:Ws}{x:Ld}:(lX Y L s x).length=s.length:=by
 unfold lX;split
 ·exact kZ
 ·rw [zc4,kZ]
theorem zfm (Y:Tb)(L:Ws)(l:List Ld)(s:Ws):(l.foldl (lX Y L) s).length=s.length:=zfL _ (fun _ _=>zf0) l s
theorem zfg (Y:Tb)(L:Ws)(i:Nat)(ws:Ws):(j2 Y L i ws).length=ws.length:=by
 unfold j2;split
 ·rfl
 ·exact (zfm Y L _ _).trans ((zc4 _ _).trans (zda _ _ _))
theorem zeP (ws:Ws)(hws:ws.length=8)(j:Nat)(hj:j<512)(z:Int)(hz:z=(j:Int))(p q:Nat)(w:World)(hq:w.cell? ⟨q,0,none⟩=some (.pointer (some ⟨p,0,none⟩)))(hqp:q≠p)(hp:(Ent.row p 101 ws.cells).ok w):Calls Tryz.prog 135 #[.int .i64 z, .pointer (some ⟨q,0,none⟩)] w fun e w'=>∃y:Unit,True∧e= .returned (.tuple #[])∧Hp w (Ent.row p 101 ws.cells).fp [.row p 101 (Ws.cells (dS ws j))] w':=by
 subst hz;refine dC (M:=(Ent.row p 101 ws.cells).fp) (hs:=[Ent.row p 101 ws.cells]) Tryz.func135 rfl rfl rfl (Hp.start hp) ?_;refine dG (sN 0 3 (.still 4 (.eff 3 (.eff 5 (sN 6 4 (.eff 10 .done)))))) [] a8 Sx ?_;refine cN rfl (dI rfl rfl hq (fun hh=>hqp (cO.1 hh))) ?_;refine cN rfl (dI rfl rfl hq (fun hh=>hqp (cO.1 hh))) ?_;refine gK ?_;refine dz ?_;refine ex rfl (Wt.none) rfl rfl (fv 0 rfl rfl rfl (by rw [List.length_map,hws])) Sx ?_;refine dz ?_; (refine cZ rfl (Wt.none) rfl rfl (cL rfl rfl rfl (fun w hw=>zno ws hws j hj w)) ?_;rintro _ _ ⟨rfl,rfl⟩;refine ⟨Sx,?_⟩);refine TS.run 4 rfl ?_;refine dz ?_; (refine dD rfl (Wt.none) rfl (dH 0 rfl rfl rfl rfl (by rw [List.length_map,kZ,hws]) (by rw [List.length_map,List.length_map,kZ])) ?_;rintro _ _ ⟨rfl,rfl⟩;refine ⟨Sx,?_⟩);refine fC ?_;exact lU rfl (fun w' hw=>⟨(),trivial,rfl,hw⟩)
theorem ziB (w0:World)(sp:Nat)(gl:GL)(tp p:Nat)(Y:Tb)(L:Ws)(c:Bool)(ws:Ws)(hws:ws.length=8)(i:Nat)(z:Int)(hz:z=(i:Int))(hi:i<Y.n)(w:World)(h:StF w0 w sp gl tp Y L c)(hok:Y.Ok)(hpN:¬jv w0 p)(hp0:p≠0)(hsp:sp≠p)(hgl:gl.b≠p)(hp:(Ent.row p 101 ws.cells).ok w):Calls Tryz.prog 116 #[.pointer (some ⟨sp,0,none⟩), .int .i64 z, .pointer (some ⟨p,0,none⟩)] w fun e w'=>∃y:Unit,True∧e= .returned (.tuple #[])∧Hp w (Ent.row p 101 ws.cells).fp [.row p 101 (Ws.cells (j2 Y L i ws))] w':=by
 subst hz;obtain ⟨hTb,hfr,hsp0,hsp1,hlf,hLn,hsp2,htab⟩:=id h;have hT:=hTb;have hn512:=hok.n;obtain ⟨hlenP,hrngP⟩:=hok.ps i hi;obtain ⟨hlenI,hrngI⟩:=hok.inn i hi;obtain ⟨hlenO,hrngO⟩:=hok.out i hi;obtain ⟨vP,hP0,hP⟩:=hT.ps.at';obtain ⟨AP,capP,rfl,hPs⟩:=hP.op;have hPn:=hT.ps.len;obtain ⟨gP,oP,rfl,hPc⟩:=hPs a6;rw [hPn] at hP0;have hPi:=hPc i (by rw [hPn];exact hi);obtain ⟨BP,cpP,hvP,hslP⟩:=(hT.ps.each i hi).op;simp only [hvP] at hPi;obtain ⟨vI,hI0,hI⟩:=hT.inn.at';obtain ⟨AI,capI,rfl,hIs⟩:=hI.op;have hIn:=hT.inn.len;obtain ⟨gI,oI,rfl,hIc⟩:=hIs a6;rw [hIn] at hI0;have hIi:=hIc i (by rw [hIn];exact hi);obtain ⟨BI,cpI,hvI,hslI⟩:=(hT.inn.each i hi).op;simp only [hvI] at hIi;obtain ⟨vO,hO0,hO⟩:=hT.out.at';obtain ⟨AO,capO,rfl,hOs⟩:=hO.op;have hOn:=hT.out.len;obtain ⟨gO,oO,rfl,hOc⟩:=hOs a6;rw [hOn] at hO0;have hOi:=hOc i (by rw [hOn];exact hi);obtain ⟨BO,cpO,hvO,hslO⟩:=(hT.out.each i hi).op;simp only [hvO] at hOi;have hkeep:∀hs w',Hp w (Ent.row p 101 ws.cells).fp hs w'→StateAt w' sp Y L c:=fun hs w' hw=>(h.kept hw (fun g hg=>by rw [cO.1 hg];exact hpN) (fun hg=>hsp (cO.1 hg)) (fun hg=>hgl (cO.1 hg)) (fun hg=>hp0 (cO.1 hg).symm)).st;refine dC (M:=(Ent.row p 101 ws.cells).fp) (hs:=[Ent.row p 101 ws.cells]) Tryz.func116 rfl rfl rfl (Hp.start hp) ?_;refine dc ?_; (refine cM (Wt.none) rfl rfl (Ew.box rfl rfl) ?_;rintro _ _ ⟨g5,rfl,rfl⟩);refine io ?_;refine d8 ?_; (refine cM (Wt.none) rfl rfl (cL rfl rfl rfl (fun w hw=>zdd sp Y L c i _ rfl hi w (hkeep _ _ hw))) ?_;rintro _ _ ⟨rfl,rfl⟩);refine dQ ?_;refine T.cond rfl (fun h1=>?_) (fun h1=>?_)
 ·have p1:=h1; (try simp only [cT] at p1);refine T.ret (d4 ?_);exact K.cg rfl (fun w' hw=>⟨(),trivial,rfl,by rw [j2,if_pos p1];exact hw.sub Sx⟩)
 ·have p1:=h1; (try simp only [cT] at p1);refine i1 ?_;refine jb ?_;refine T.cut (gs:=[(0, .pointer (some ⟨sp,0,none⟩)),(1, .int .i64 (i:Int)),(6, .func (.func 135) #[] #[.pointer (some ⟨g5,0,none⟩)])]) (hs':=[.row g5 174 [.pointer (some ⟨p,0,none⟩)], .row p 101 (Ws.cells ((Y.ps i).foldl (fun s x=>dS s (x.a+x.b - (i:Int)).toNat) ws))]) ?_ ?_
  ·skip;refine q2B ?_;refine cK (dI rfl rfl (hfr.cell hP0) (fun hh=>hpN (by have:=zee hP0;rw [←cO.1 hh];exact this))) ?_;refine lw ?_;refine cK (dV (j:=0) rfl rfl (Fz.cs hfr hPi) rfl rfl (fun hh=>hpN (by have:=iR hPi b2;rw [←cO.1 hh];exact this))) ?_;refine jA ?_;refine T.loop (ι:=Nat) (fun k=>[(0, .pointer (some ⟨sp,0,none⟩)),(1, .int .i64 (i:Int)),(6, .func (.func 135) #[] #[.pointer (some ⟨g5,0,none⟩)]),(29, .slice BP (Y.ps i).length cpP),(30, .int .i64 ((Y.ps i).length:Int)),(31, .int .i64 (k:Int))]) (fun k=>[.row g5 174 [.pointer (some ⟨p,0,none⟩)], .row p 101 (Ws.cells (((Y.ps i).take k).foldl (fun s x=>dS s (x.a+x.b - (i:Int)).toNat) ws))]) (fun k=>k≤(Y.ps i).length) (fun k=>(Y.ps i).length - k) 0 ?_ ?_ ?_ ?_
   ·omega
   ·exact (by repeat (first|exact Sub.nil|refine Sub.cons rfl ?_))
   ·exact Sx
   ·intro k hphi;refine fq ?_;refine T.cond rfl (fun h2=>?_) (fun h2=>?_)
    ·have p2:=h2; (try simp only [cT] at p2);obtain ⟨ghk,offhk,rfl,hc⟩:=hslP a6;have hk:=hc k a6;simp only [Pr.cells] at hk;have hrhk:=hrngP _ (iP (xs:=Y.ps i) (k:=k) a6);refine fM ?_;refine q2l ?_; (refine cM (Wt.none) rfl rfl (Ew.alloc) ?_;rintro _ _ ⟨g8,rfl,rfl⟩); (refine dJ (Wt.none) rfl (dH 0) ?_;rintro _ _ ⟨rfl,rfl⟩);refine cS (T.region ?_);refine jn ?_;refine ej ?_;refine q0f ?_;refine da ?_;refine q3j ?_; (refine cM (Wt.none) rfl rfl (lv 2 rfl rfl rfl rfl (fun w hw=>zeP (((Y.ps i).take k).foldl (fun s x=>dS s (x.a+x.b - (i:Int)).toNat) ws) (by rw [zda,hws]) ((cH (Y.ps i) k).a+(cH (Y.ps i) k).b - (i:Int)).toNat a6 _ a6 p g5 w (jC (cV.1 (hw.get (i:=1) rfl)) 0) (fun hh=>hw.ne (i:=1) (j:=2) a6 rfl rfl (g:=g5) (cO.2 rfl) (cO.2 hh)) (hw.get (i:=2) rfl))) ?_;rintro _ _ ⟨-, -,rfl,rfl⟩);refine l7 ?_;exact K.next (k+1) a6 a6 (by repeat (first|exact Sub.nil|refine Sub.cons rfl ?_)) (by rw [jj _ _ a6];exact Sx)
    ·have p2:=h2; (try simp only [cT] at p2);refine fE ?_;exact K.at (by repeat (first|exact Sub.nil|refine Sub.cons rfl ?_)) (by rw [show (Y.ps i).take k=Y.ps i from List.take_of_length_le a6];exact Sx)
  ·skip;refine T.cut (gs:=[(0, .pointer (some ⟨sp,0,none⟩)),(1, .int .i64 (i:Int)),(6, .func (.func 135) #[] #[.pointer (some ⟨g5,0,none⟩)])]) (hs':=[.row g5 174 [.pointer (some ⟨p,0,none⟩)], .row p 101 (Ws.cells ((Y.inn i).foldl (fun s x=>dS s x.fr.toNat) ((Y.ps i).foldl (fun s x=>dS s (x.a+x.b - (i:Int)).toNat) ws)))]) ?_ ?_
   ·skip;refine q2B ?_;refine cK (dI rfl rfl (hfr.cell hI0) (fun hh=>hpN (by have:=zee hI0;rw [←cO.1 hh];exact this))) ?_;refine lw ?_;refine cK (dV (j:=0) rfl rfl (Fz.cs hfr hIi) rfl rfl (fun hh=>hpN (by have:=iR hIi b2;rw [←cO.1 hh];exact this))) ?_;refine jA ?_;refine T.loop (ι:=Nat) (fun k=>[(0, .pointer (some ⟨sp,0,none⟩)),(1, .int .i64 (i:Int)),(6, .func (.func 135) #[] #[.pointer (some ⟨g5,0,none⟩)]),(54, .slice BI (Y.inn i).length cpI),(55, .int .i64 ((Y.inn i).length:Int)),(56, .int .i64 (k:Int))]) (fun k=>[.row g5 174 [.pointer (some ⟨p,0,none⟩)], .row p 101 (Ws.cells (((Y.inn i).take k).foldl (fun s x=>dS s x.fr.toNat) ((Y.ps i).foldl (fun s x=>dS s (x.a+x.b - (i:Int)).toNat) ws)))]) (fun k=>k≤(Y.inn i).length) (fun k=>(Y.inn i).length - k) 0 ?_ ?_ ?_ ?_
    ·omega
    ·exact (by repeat (first|exact Sub.nil|refine Sub.cons rfl ?_))
    ·exact Sx
    ·intro k hphi;refine fq ?_;refine T.cond rfl (fun h3=>?_) (fun h3=>?_)
     ·have p3:=h3; (try simp only [cT] at p3);obtain ⟨ghk,offhk,rfl,hc⟩:=hslI a6;have hk:=hc k a6;simp only [Ld.cells] at hk;have hrhk:=hrngI _ (iP (xs:=Y.inn i) (k:=k) a6);refine fM ?_;refine q2l ?_; (refine cM (Wt.none) rfl rfl (Ew.alloc) ?_;rintro _ _ ⟨g10,rfl,rfl⟩); (refine dJ (Wt.none) rfl (dH 0) ?_;rintro _ _ ⟨rfl,rfl⟩);refine cS (T.region ?_);refine jn ?_; (refine cM (Wt.none) rfl rfl (lv 2 rfl rfl rfl rfl (fun w hw=>zeP (((Y.inn i).take k).foldl (fun s x=>dS s x.fr.toNat) ((Y.ps i).foldl (fun s x=>dS s (x.a+x.b - (i:Int)).toNat) ws)) (by rw [zc4,zda,hws]) (cH (Y.inn i) k).fr.toNat a6 _ a6 p g5 w (jC (cV.1 (hw.get (i:=1) rfl)) 0) (fun hh=>hw.ne (i:=1) (j:=2) a6 rfl rfl (g:=g5) (cO.2 rfl) (cO.2 hh)) (hw.get (i:=2) rfl))) ?_;rintro _ _ ⟨-, -,rfl,rfl⟩);refine l7 ?_;exact K.next (k+1) a6 a6 (by repeat (first|exact Sub.nil|refine Sub.cons rfl ?_)) (by rw [jj _ _ a6];exact Sx)
     ·have p3:=h3; (try simp only [cT] at p3);refine fE ?_;exact K.at (by repeat (first|exact Sub.nil|refine Sub.cons rfl ?_)) (by rw [show (Y.inn i).take k=Y.inn i from List.take_of_length_le a6];exact Sx)
   ·skip;refine q2B ?_;refine cK (dI rfl rfl (hfr.cell hO0) (fun hh=>hpN (by have:=zee hO0;rw [←cO.1 hh];exact this))) ?_;refine lw ?_;refine cK (dV (j:=0) rfl rfl (Fz.cs hfr hOi) rfl rfl (fun hh=>hpN (by have:=iR hOi b2;rw [←cO.1 hh];exact this))) ?_;refine jA ?_;refine T.loop (ι:=Nat) (fun k=>[(0, .pointer (some ⟨sp,0,none⟩)),(1, .int .i64 (i:Int)),(6, .func (.func 135) #[] #[.pointer (some ⟨g5,0,none⟩)]),(74, .slice BO (Y.out i).length cpO),(75, .int .i64 ((Y.out i).length:Int)),(76, .int .i64 (k:Int))]) (fun k=>[.row g5 174 [.pointer (some ⟨p,0,none⟩)], .row p 101 (Ws.cells (((Y.out i).take k).foldl (lX Y L) ((Y.inn i).foldl (fun s x=>dS s x.fr.toNat) ((Y.ps i).foldl (fun s x=>dS s (x.a+x.b - (i:Int)).toNat) ws))))]) (fun k=>k≤(Y.out i).length) (fun k=>(Y.out i).length - k) 0 ?_ ?_ ?_ ?_
    ·omega
    ·exact (by repeat (first|exact Sub.nil|refine Sub.cons rfl ?_))
    ·exact Sx
    ·intro k hphi;refine fq ?_;refine T.cond rfl (fun h4=>?_) (fun h4=>?_)
     ·have p4:=h4; (try simp only [cT] at p4);obtain ⟨ghk,offhk,rfl,hc⟩:=hslO a6;have hk:=hc k a6;simp only [Ld.cells] at hk;have hrhk:=hrngO _ (iP (xs:=Y.out i) (k:=k) a6); (have htn:(cH (Y.out i) k).to.toNat<Y.n:=by omega);obtain ⟨hlenI2,hrngI2⟩:=hok.inn _ htn;have hIi2:=hIc (cH (Y.out i) k).to.toNat (by rw [hIn];exact htn);obtain ⟨BI2,cpI2,hvI2,hslI2⟩:=(hT.inn.each (cH (Y.out i) k).to.toNat htn).op;simp only [hvI2] at hIi2;refine T.skip (K.seq ?_);refine T.cut (gs:=[(0, .pointer (some ⟨sp,0,none⟩)),(1, .int .i64 (i:Int)),(6, .func (.func 135) #[] #[.pointer (some ⟨g5,0,none⟩)]),(74, .slice (some ⟨ghk,offhk,none⟩) (Y.out i).length cpO),(75, .int .i64 ((Y.out i).length:Int)),(76, .int .i64 (k:Int))]) (hs':=[.row g5 174 [.pointer (some ⟨p,0,none⟩)], .row p 101 (Ws.cells (((Y.out i).take (k+1)).foldl (lX Y L) ((Y.inn i).foldl (fun s x=>dS s x.fr.toNat) ((Y.ps i).foldl (fun s x=>dS s (x.a+x.b - (i:Int)).toNat) ws))))]) ?_ ?_
      ·skip;refine T.block (dc ?_);refine q2l ?_; (refine cM (Wt.none) rfl rfl (Ew.alloc) ?_;rintro _ _ ⟨g12,rfl,rfl⟩); (refine dJ (Wt.none) rfl (dH 0) ?_;rintro _ _ ⟨rfl,rfl⟩);refine dr ?_;refine jn ?_; (refine cM (Wt.none) rfl rfl (lv 2 rfl rfl rfl rfl (fun w hw=>zeP (((Y.out i).take k).foldl (lX Y L) ((Y.inn i).foldl (fun s x=>dS s x.fr.toNat) ((Y.ps i).foldl (fun s x=>dS s (x.a+x.b - (i:Int)).toNat) ws))) (by rw [zfm,zc4,zda,hws]) (cH (Y.out i) k).to.toNat a6 _ a6 p g5 w (jC (cV.1 (hw.get (i:=1) rfl)) 0) (fun hh=>hw.ne (i:=1) (j:=2) a6 rfl rfl (g:=g5) (cO.2 rfl) (cO.2 hh)) (hw.get (i:=2) rfl))) ?_;rintro _ _ ⟨-, -,rfl,rfl⟩);refine dr ?_;refine jn ?_; (refine cM (Wt.none) rfl rfl (cL rfl rfl rfl (fun w hw=>zdd sp Y L c ((cH (Y.out i) k).to.toNat) _ a6 a6 w (hkeep _ _ hw))) ?_;rintro _ _ ⟨rfl,rfl⟩);refine dQ ?_;refine T.cond rfl (fun h5=>?_) (fun h5=>?_)
       ·have p5:=h5; (try simp only [cT] at p5); (have hno:¬(only L ((cH (Y.out i) k).to.toNat):Int)=0:=by assumption);refine T.seq ?_;refine q1b ?_;refine jc ?_;refine cN rfl (dI rfl rfl hsp0 (fun hh=>hsp (cO.1 hh))) ?_;refine kP ?_;refine cN rfl (dI rfl rfl (hfr.cell hI0) (fun hh=>hpN (by have:=zee hI0;rw [←cO.1 hh];exact this))) ?_;refine q2k ?_;refine cN rfl (dV (j:=0) rfl rfl (Fz.cs hfr hIi2) rfl rfl (fun hh=>hpN (by have:=iR hIi2 b2;rw [←cO.1 hh];exact this))) ?_;refine q3T ?_;refine T.loop (ι:=Nat) (fun j=>[(0, .pointer (some ⟨sp,0,none⟩)),(1, .int .i64 (i:Int)),(6, .func (.func 135) #[] #[.pointer (some ⟨g5,0,none⟩)]),(74, .slice (some ⟨ghk,offhk,none⟩) (Y.out i).length cpO),(75, .int .i64 ((Y.out i).length:Int)),(76, .int .i64 (k:Int)),(99, .slice BI2 (Y.inn (cH (Y.out i) k).to.toNat).length cpI2),(100, .int .i64 ((Y.inn (cH (Y.out i) k).to.toNat).length:Int)),(101, .int .i64 (j:Int))]) (fun j=>[.row g5 174 [.pointer (some ⟨p,0,none⟩)], .row p 101 (Ws.cells (((Y.inn (cH (Y.out i) k).to.toNat).take j).foldl (fun s o=>dS s o.fr.toNat) (dS (((Y.out i).take k).foldl (lX Y L) ((Y.inn i).foldl (fun s x=>dS s x.fr.toNat) ((Y.ps i).foldl (fun s x=>dS s (x.a+x.b - (i:Int)).toNat) ws))) (cH (Y.out i) k).to.toNat)))]) (fun j=>j≤(Y.inn (cH (Y.out i) k).to.toNat).length) (fun j=>(Y.inn (cH (Y.out i) k).to.toNat).length - j) 0 ?_ ?_ ?_ ?_
        ·omega
        ·exact (by repeat (first|exact Sub.nil|refine Sub.cons rfl ?_))
        ·exact Sx
        ·intro j hphi;refine fq ?_;refine T.cond rfl (fun h6=>?_) (fun h6=>?_)
         ·have p6:=h6; (try simp only [cT] at p6);obtain ⟨ghj,offhj,rfl,hcj⟩:=hslI2 a6;have hj:=hcj j a6;simp only [Ld.cells] at hj;have hrhj:=hrngI2 _ (iP (xs:=Y.inn (cH (Y.out i) k).to.toNat) (k:=j) a6);refine fM ?_;refine q0w ?_;refine cK (iu rfl rfl (Fz.cs hfr hj) rfl (fun hh=>hpN (by have:=iR hj b2;rw [←cO.1 hh];exact this))) ?_; (refine cM (Wt.none) rfl rfl (Ew.alloc) ?_;rintro _ _ ⟨g14,rfl,rfl⟩); (refine dJ (Wt.none) rfl (dH 0) ?_;rintro _ _ ⟨rfl,rfl⟩);refine cS (T.region ?_);refine jn ?_; (refine cM (Wt.none) rfl rfl (lv 2 rfl rfl rfl rfl (fun w hw=>zeP (((Y.inn (cH (Y.out i) k).to.toNat).take j).foldl (fun s o=>dS s o.fr.toNat) (dS (((Y.out i).take k).foldl (lX Y L) ((Y.inn i).foldl (fun s x=>dS s x.fr.toNat) ((Y.ps i).foldl (fun s x=>dS s (x.a+x.b - (i:Int)).toNat) ws))) (cH (Y.out i) k).to.toNat)) (by rw [zc4,kZ,zfm,zc4,zda,hws]) (cH (Y.inn (cH (Y.out i) k).to.toNat) j).fr.toNat a6 _ a6 p g5 w (jC (cV.1 (hw.get (i:=1) rfl)) 0) (fun hh=>hw.ne (i:=1) (j:=2) a6 rfl rfl (g:=g5) (cO.2 rfl) (cO.2 hh)) (hw.get (i:=2) rfl))) ?_;rintro _ _ ⟨-, -,rfl,rfl⟩);refine l7 ?_;exact K.next (j+1) a6 a6 (by repeat (first|exact Sub.nil|refine Sub.cons rfl ?_)) (by rw [jj _ _ a6];exact Sx)
         ·have p6:=h6; (try simp only [cT] at p6);refine T.exit (dZ (dZ (fx (eQ ?_)))); (have hy:=hno;refine K.at (by repeat (first|exact Sub.nil|refine Sub.cons rfl ?_)) ?_;rw [jj _ _ a6,lX,if_neg hy,show (Y.inn (cH (Y.out i) k).to.toNat).take j=Y.inn (cH (Y.out i) k).to.toNat from List.take_of_length_le a6];exact Sx)
       ·have p5:=h5; (try simp only [cT] at p5); (have hyes:(only L ((cH (Y.out i) k).to.toNat):Int)=0:=by assumption);refine T.skip (eQ ?_); (have hy:=hyes;refine K.at (by repeat (first|exact Sub.nil|refine Sub.cons rfl ?_)) ?_;rw [jj _ _ a6,lX,if_pos hy];exact Sx)
      ·skip;refine fI ?_;refine ko ?_;exact K.next (k+1) a6 a6 (by repeat (first|exact Sub.nil|refine Sub.cons rfl ?_)) Sx
     ·have p4:=h4; (try simp only [cT] at p4);refine fE ?_;exact lU rfl (fun w' hw=>⟨(),trivial,rfl,by rw [j2,if_neg p1];rw [show (Y.out i).take k=Y.out i from List.take_of_length_le a6] at hw;exact hw.sub Sx⟩)
def jl (Y:Tb)(L:Ws)(i:Nat):BitVec 64:=lS Y L i ||| kO Y L i ||| lR Y L i
theorem zby {α β:Type}{f g:β→α→β}:∀(l:List α) (z:β),(∀x∈l,∀s,f s x=g s x)→l.foldl f z=l.foldl g z
 | [],_,_=>rfl
 |x :: r,z,h=>by rw [List.foldl_cons,List.foldl_cons,h x b2 z];exact zby r _ (fun y hy=>h y (by simp [hy]))
structure Alike (Y:Tb) (L L':Ws) (k:Nat):Prop where
 ps:∀x∈Y.ps k,(x.a=(k:Int)→only L' x.b.toNat=only L x.b.toNat)∧(x.a≠(k:Int)→only L' x.a.toNat=only L x.a.toNat)
 inn:∀x∈Y.inn k,only L' x.fr.toNat=only L x.fr.toNat
 out:∀x∈Y.out k,only L' x.to.toNat=only L x.to.toNat∧(only L x.to.toNat≠0→∀o∈Y.inn x.to.toNat,o.fr≠(k:Int)→only L' o.fr.toNat=only L o.fr.toNat)
theorem zgh {Y:Tb}{L L':Ws}{k:Nat}(h:Alike Y L L' k)(hlo:∀x∈Y.out k,2≤x.lo):jl Y L' k=jl Y L k:=by
 have e1:lS Y L' k=lS Y L k:=zby _ _ fun x hx s=>by
  have:=h.ps x hx;unfold mj;by_cases ha:x.a=(k:Int)
  ·rw [if_pos ha,if_pos ha,this.1 ha]
  ·rw [if_neg ha,if_neg ha,this.2 ha]
 have e2:kO Y L' k=kO Y L k:=by
  have:iw L' (Y.inn k)=iw L (Y.inn k):=zby _ _ fun x hx s=>by
   funext d
   unfold jW;rw [h.inn x hx]
  unfold kO;rw [this]
 have e3:lR Y L' k=lR Y L k:=zby _ _ fun x hx s=>by
  have ho:=h.out x hx;unfold kS;rw [ho.1];by_cases hz:only L x.to.toNat=0
  ·have:=hlo x hx;rw [if_pos (.inl (.inl (by rw [hz];show (0:Int)<_;omega))),if_pos (.inl (.inl (by rw [hz];show (0:Int)<_;omega)))]
  ·have e:jR L' k (only L x.to.toNat) (Y.inn x.to.toNat)=jR L k (only L x.to.toNat) (Y.inn x.to.toNat):=zby _ _ fun o ho' s=>by
    unfold jY;by_cases hk:o.fr=(k:Int)
    ·simp [hk]
    ·rw [ho.2 hz o ho' hk]
   rw [e]
 unfold jl;rw [e1,e2,e3]
theorem kG {L:Ws}{i j:Nat}{b:BitVec 64}(hi:i<L.length):cH (L.set i b) j=if j=i then b else cH L j:=by
 unfold cH;rw [List.getD_eq_getElem?_getD,List.getD_eq_getElem?_getD];by_cases h:j=i
 ·subst h;rw [List.getElem?_set_self hi,if_pos rfl];rfl
 ·rw [List.getElem?_set_ne (fun e=>h e.symm),if_neg h]
theorem zec {L:Ws}{i j:Nat}{b:BitVec 64}(hi:i<L.length)(h:j≠i):only (L.set i b) j=only L j:=by
 unfold only;rw [kG hi,if_neg h]
theorem zgi {Y:Tb}{L:Ws}{i:Nat}{b:BitVec 64}(hok:Y.Ok)(hi:i<Y.n)(hl:L.length=Y.n):lS Y (L.set i b) i=lS Y L i∧kO Y (L.set i b) i=kO Y L i∧lR Y (L.set i b) i=lR Y L i:=by
 (have hil:i<L.length:=by omega);refine ⟨zby _ _ fun x hx s=>?_,?_,zby _ _ fun x hx s=>?_⟩
 ·have h1:=(hok.psS i hi x hx).1;have h2:=(hok.ps i hi).2 x hx;unfold mj;by_cases ha:x.a=(i:Int)
  ·rw [if_pos ha,if_pos ha,zec hil a6]
  ·rw [if_neg ha,if_neg ha,zec hil a6]
 ·have:iw (L.set i b) (Y.inn i)=iw L (Y.inn i):=zby _ _ fun x hx s=>by
   have h1:=(hok.innS i hi x hx).1;have h2:=(hok.inn i hi).2 x hx
   funext d
   unfold jW;rw [zec hil a6]
  unfold kO;rw [this]
 ·have h1:=(hok.outS i hi x hx).1;have h2:=(hok.out i hi).2 x hx;unfold kS;rw [zec hil a6]
  have e:jR (L.set i b) i (only L x.to.toNat) (Y.inn x.to.toNat)=jR L i (only L x.to.toNat) (Y.inn x.to.toNat):=zby _ _ fun o ho s=>by
   have h3:=(hok.inn _ a6).2 o ho;unfold jY;by_cases hk:o.fr=(i:Int)
   ·simp [hk]
   ·rw [zec hil a6]
  rw [e]
def zh3 (Y:Tb)(L:Ws)(i:Nat):Prop:=cH L i≠0#64∧cH L i &&& jl Y L i=0#64
theorem zjM {α:Type}(f:α→Nat)(hf:∀_:α,True):∀(l:List α) (s:Ws),s.length=8→(∀x∈l,f x<512)→∀j,j<512→(ey (l.foldl (fun s x=>dS s (f x)) s) j=true↔ey s j=true∨∃x∈l,f x=j)
 | [],s,_,_,j,_=>by simp
 |x :: r,s,hs,hx,j,hj=>by
  rw [List.foldl_cons,zjM f hf r _ (by rw [kZ,hs]) (fun y hy=>hx y (by simp [hy])) j hj,zfO hs (hx x b2) hj];simp only [Bool.or_eq_true,decide_eq_true_eq,List.mem_cons];constructor
  ·rintro ((h|h)|⟨y,hy,h⟩)
   ·exact .inl h
   ·exact .inr ⟨x, .inl rfl,h⟩
   ·exact .inr ⟨y, .inr hy,h⟩
  ·rintro (h|⟨y,rfl|hy,h⟩)
   ·exact .inl (.inl h)
   ·exact .inl (.inr h)
   ·exact .inr ⟨y,hy,h⟩
def mq (Y:Tb)(L:Ws)(i j:Nat):Prop:=
 (∃x∈Y.ps i,(x.a+x.b - (i:Int)).toNat=j)∨(∃x∈Y.inn i,x.fr.toNat=j)∨(∃x∈Y.out i,x.to.toNat=j∨(only L x.to.toNat≠0∧∃o∈Y.inn x.to.toNat,o.fr.toNat=j))
theorem znj {Y : Tb} {L : Ws} : ∀ (l : List Ld) (s : Ws), s.length = 8 → (∀ x ∈ l, x.to.toNat < 512 ∧ ∀ o ∈ Y.inn x.to.toNat, o.fr.toNat < 512) → ∀ j, j < 512 →
    (ey (l.foldl (lX Y L) s) j = true ↔ ey s j = true ∨ ∃ x ∈ l, x.to.toNat = j ∨ (only L x.to.toNat ≠ 0 ∧ ∃ o ∈ Y.inn x.to.toNat, o.fr.toNat = j))
  | [], s, _, _, j, _ => by simp
  | x :: r, s, hs, hx, j, hj => by
    have h1 := hx x b2; rw [List.foldl_cons, znj r _ (by rw [zf0, hs]) (fun y hy => hx y (by simp [hy])) j hj]
    have e : ey (lX Y L s x) j = true ↔ ey s j = true ∨ (x.to.toNat = j ∨ (only L x.to.toNat ≠ 0 ∧ ∃ o ∈ Y.inn x.to.toNat, o.fr.toNat = j)) := by
      unfold lX; by_cases hz : (only L x.to.toNat : Int) = 0
      · rw [if_pos hz, zfO hs h1.1 hj];simp only [Bool.or_eq_true, decide_eq_true_eq]; constructor
        · rintro (h | h)
          · exact .inl h
          · exact .inr (.inl h)
        · rintro (h | h | h)
          · exact .inl h
          · exact .inr h
          · exact absurd (show only L x.to.toNat = 0 by omega) h.1
      · rw [if_neg hz, zjM (fun o : Ld => o.fr.toNat) (fun _ => trivial) _ _ (by rw [kZ, hs]) h1.2 j hj, zfO hs h1.1 hj];simp only [Bool.or_eq_true, decide_eq_true_eq]; constructor
        · rintro ((h | h) | h)
          · exact .inl h
          · exact .inr (.inl h)
          · exact .inr (.inr ⟨by omega, h⟩)
        · rintro (h | h | h)
          · exact .inl (.inl h)
          · exact .inl (.inr h)
          · exact .inr h.2
    rw [e];simp only [List.mem_cons]; constructor
    · rintro ((h | h) | ⟨y, hy, h⟩)
      · exact .inl h
      · exact .inr ⟨x, .inl rfl, h⟩
      · exact .inr ⟨y, .inr hy, h⟩
    · rintro (h | ⟨y, rfl | hy, h⟩)
      · exact .inl (.inl h)
      · exact .inl (.inr h)
      · exact .inr ⟨y, hy, h⟩
theorem zdA {Y:Tb}{L:Ws}{i:Nat}{ws:Ws}(hok:Y.Ok)(hi:i<Y.n)(hws:ws.length=8)(j:Nat)(hj:j<512):ey (j2 Y L i ws) j=true↔ey ws j=true∨(only L i≠0∧mq Y L i j):=by
 have hn:=hok.n;unfold j2;by_cases hz:(only L i:Int)=0
 ·rw [if_pos hz];constructor
  ·exact .inl
  ·rintro (h|h)
   ·exact h
   ·exact absurd (show only L i=0 by omega) h.1
 ·rw [if_neg hz];have hp:=(hok.ps i hi).2;have hI:=(hok.inn i hi).2;have hO:=(hok.out i hi).2
  have:=znj (Y:=Y) (L:=L) (Y.out i) ((Y.inn i).foldl (fun s x=>dS s x.fr.toNat) ((Y.ps i).foldl (fun s x=>dS s (x.a+x.b - (i:Int)).toNat) ws)) (by rw [zc4,zda,hws]) (fun x hx=>by
   have:=hO x hx
   exact ⟨by omega,fun o ho=>by have:=(hok.inn x.to.toNat a6).2 o ho;omega⟩) j hj
  refine Iff.trans this ?_;rw [zjM (fun x:Ld=>x.fr.toNat) (fun _=>trivial) _ _ (by rw [zda,hws]) (fun x hx=>by have:=hI x hx;omega) j hj,zjM (fun x:Pr=>(x.a+x.b - (i:Int)).toNat) (fun _=>trivial) _ _ hws (fun x hx=>by have:=hp x hx;omega) j hj];unfold mq;constructor
  ·rintro (((h|h)|h)|h)
   ·exact .inl h
   ·exact .inr ⟨by omega, .inl h⟩
   ·exact .inr ⟨by omega, .inr (.inl h)⟩
   ·exact .inr ⟨by omega, .inr (.inr h)⟩
  ·rintro (h|⟨_,h|h|h⟩)
   ·exact .inl (.inl (.inl h))
   ·exact .inl (.inl (.inr h))
   ·exact .inl (.inr h)
   ·exact .inr h
theorem zia {Y:Tb}{L L':Ws}{i k:Nat}(hok:Y.Ok)(hi:i<Y.n)(hk:k<Y.n)(hki:k≠i)(hsame:∀j,j≠i→only L' j=only L j)(h0:only L i=0)(hfar:¬mq Y L' i k):Alike Y L L' k where
 ps x hx:=by
  have h1:=(hok.ps k hk).2 x hx;have h2:=hok.psS k hk x hx;constructor
  ·intro ha;by_cases hb:x.b.toNat=i
   ·exact absurd (.inl ⟨x,by rw [←hb];exact h2.2.2,by omega⟩) hfar
   ·exact hsame _ hb
  ·intro ha;by_cases hb:x.a.toNat=i
   ·exact absurd (.inl ⟨x,by rw [←hb];exact h2.2.1,by omega⟩) hfar
   ·exact hsame _ hb
 inn x hx:=by
  have h1:=(hok.inn k hk).2 x hx;by_cases hb:x.fr.toNat=i
  ·exact absurd (.inr (.inr ⟨x,by rw [←hb];exact (hok.innS k hk x hx).2, .inl a6⟩)) hfar
  ·exact hsame _ hb
 out x hx:=by
  have h1:=(hok.out k hk).2 x hx;have h2:=hok.outS k hk x hx;have hto:x.to.toNat≠i:=fun hb=>hfar (.inr (.inl ⟨x,by rw [←hb];exact h2.2,by omega⟩));refine ⟨hsame _ hto,fun hz o ho hok'=>?_⟩;have h3:=(hok.inn x.to.toNat a6).2 o ho;by_cases hb:o.fr.toNat=i
  ·have h4:=(hok.innS x.to.toNat a6 o ho).2;rw [hb] at h4;refine absurd (.inr (.inr ⟨o,h4, .inr ⟨?_,x,?_,by omega⟩⟩)) hfar
   ·rw [show o.to.toNat=x.to.toNat by omega,hsame _ hto];exact hz
   ·rw [show o.to.toNat=x.to.toNat by omega];exact h2.2
  ·exact hsame _ hb
def zk7 (L:Ws):Nat:=(L.map fun b=>(c7 b).length).sum
theorem dM {b:BitVec 64}{j:Nat}:j∈c7 b↔b.getLsbD j=true:=by
 unfold c7;rw [List.mem_filter,List.mem_range'_1];constructor
 ·exact fun h=>h.2
 ·intro h;refine ⟨⟨Nat.zero_le _,?_⟩,h⟩;have:=BitVec.lt_of_getLsbD h;omega
theorem zin {p q:Nat→Bool}:∀(l:List Nat),(∀x∈l,q x=true→p x=true)→(∃x∈l,p x=true∧q x=false)→(l.filter q).length<(l.filter p).length
 | [],_,h=>by obtain ⟨x,hx,_⟩:=h;cases hx
 |y :: r,h,⟨x,hx,hp,hq⟩=>by
  have hle:∀(l:List Nat),(∀x∈l,q x=true→p x=true)→(l.filter q).length≤(l.filter p).length:=by
   intro l
   induction l with
   |nil=>intro _;simp
   |cons z s ih=>
    intro hz;have h1:=ih (fun x hx=>hz x (by simp [hx]));have h2:=hz z b2
    cases hqz:q z <;> cases hpz:p z <;> simp [hqz,hpz] at h2 ⊢ <;> omega
  have h2:=h y b2;rcases List.mem_cons.1 hx with rfl|hx
  ·rw [List.filter_cons_of_neg (by rw [hq];simp),List.filter_cons_of_pos hp];have:=hle r (fun x hx=>h x (by simp [hx]));simp;omega
  ·have:=zin r (fun x hx=>h x (by simp [hx])) ⟨x,hx,hp,hq⟩
   cases hqz:q y <;> cases hpz:p y <;> simp [hqz,hpz] at h2 ⊢ <;> omega
theorem zom {a b:BitVec 64}(h:∀j,a.getLsbD j=true→b.getLsbD j=true)(hne:a≠b):(c7 a).length<(c7 b).length:=by
 unfold c7;refine zin _ (fun j _=>h j) ?_;apply Classical.byContradiction;intro hno;apply hne;apply BitVec.eq_of_getLsbD_eq;intro j hj
 cases ha:a.getLsbD j with
 |true=>rw [h j ha]
 |false=>
  cases hb:b.getLsbD j with
  |false=>rfl
  |true=>exact absurd ⟨j,List.mem_range'_1.2 ⟨Nat.zero_le _,by omega⟩,hb,ha⟩ hno
theorem zhP:∀(L:Ws) (i:Nat) (b:BitVec 64),i<L.length→zk7 (L.set i b)+(c7 (cH L i)).length=zk7 L+(c7 b).length
 | [],i,b,h=>by simp at h
 |x :: r,0,b,h=>by simp [zk7,cH];omega
 |x :: r,i+1,b,h=>by
  have:=zhP r i b (by simpa using h);simp only [zk7,cH,List.set_cons_succ,List.map_cons,List.sum_cons,List.getD_cons_succ] at this ⊢;omega
inductive Reach (Y:Tb) (L:Ws):Ws→Prop
 |refl:Reach Y L L
 |step {M:Ws} {i:Nat} {b:BitVec 64}:Reach Y L M→i<Y.n→(∀j,b.getLsbD j=true→(jl Y M i).getLsbD j=true)→Reach Y L (M.set i (cH M i &&& ~~~b))
theorem Reach.len {Y:Tb}{L M:Ws}(h:Reach Y L M):M.length=L.length:=by
 induction h with
 |refl=>rfl
 |step _ _ _ ih=>rw [List.length_set,ih]
theorem Reach.sub {Y:Tb}{L M:Ws}(h:Reach Y L M)(hl:L.length=Y.n):∀i j,(cH M i).getLsbD j=true→(cH L i).getLsbD j=true:=by
 induction h with
 |refl=>exact fun _ _ h=>h
 | @step M' k b hr hk _ ih=>
  intro i j hij;rw [kG (by rw [hr.len,hl];exact hk)] at hij
  split at hij
  ·rename_i e;subst e;rw [BitVec.getLsbD_and,Bool.and_eq_true] at hij;exact ih _ _ hij.1
  ·exact ih _ _ hij
structure SInv (Y:Tb) (L0 L:Ws) (q:List Nat) (ws:Ws) (c:Bool):Prop where
 reach:Reach Y L0 L
 len:L.length=Y.n
 ws8:ws.length=8
 wsn:∀j,j<512→ey ws j=true→j<Y.n
 qn:∀j∈q,j<Y.n
 q512:q.length≤512
 bad:c=true→∃i,i<Y.n∧cH L i=0#64
 good:c=false→∀i,i<Y.n→i∈q∨ey ws i=true∨zh3 Y L i
def smu (L:Ws)(q:List Nat)(ws:Ws):Nat:=zk7 L*2000+q.length+(if fe ws=[] then 0 else 600)
theorem zmy:fe fi=[]:=zgf fun j _ _=>zdL j
theorem SInv.refill {Y:Tb}{L0 L:Ws}{ws:Ws}{c:Bool}(h:SInv Y L0 L [] ws c):SInv Y L0 L (fe ws) fi c where
 reach:=h.reach
 len:=h.len
 ws8:=rfl
 wsn j _ hb:=by rw [zdL] at hb;cases hb
 qn j hj:=by obtain ⟨_,h1,h2⟩:=fG.1 hj;exact h.wsn j h1 h2
 q512:=zfW ws 0
 bad:=h.bad
 good hc i hi:=by
  rcases h.good hc i hi with h1|h1|h1
  ·cases h1
  ·have:=h.len;by_cases h512:i<512
   ·exact .inl (fG.2 ⟨Nat.zero_le _,h512,h1⟩)
   ·exfalso;unfold ey cH at h1;rw [List.getD_eq_getElem?_getD,List.getElem?_eq_none (by rw [h.ws8];omega)] at h1;exact absurd h1 (by show ¬(0#64).getLsbD _=true;rw [BitVec.getLsbD_zero];simp)
  ·exact .inr (.inr h1)
theorem zj5 {L:Ws}{ws:Ws}(h:fe ws≠[]):smu L (fe ws) fi<smu L [] ws:=by
 unfold smu;rw [if_pos zmy,if_neg h];have:(fe ws).length≤512:=zfW ws 0;simp only [List.length_nil];omega
theorem SInv.calm {Y:Tb}{L0 L:Ws}{ws:Ws}(h:SInv Y L0 L [] ws false)(hm:fe ws=[]):∀i,i<Y.n→zh3 Y L i:=fun i hi=>by
 rcases h.refill.good rfl i hi with h1|h1|h1
 ·rw [hm] at h1;cases h1
 ·rw [zdL] at h1;cases h1
 ·exact h1
theorem zkk {Y:Tb}{L0 L:Ws}{i:Nat}{b:BitVec 64}(h:Reach Y L0 L)(hi:i<Y.n)(hb:∀j,b.getLsbD j=true→(jl Y L i).getLsbD j=true):Reach Y L0 (L.set i (cH L i &&& ~~~b)):= .step h hi hb
theorem zoL {Y:Tb}{L:Ws}{i j:Nat}(h:(lS Y L i).getLsbD j=true):(jl Y L i).getLsbD j=true:=by simp [jl,h]
theorem zoo {Y:Tb}{L:Ws}{i j:Nat}(h:(kO Y L i).getLsbD j=true):(jl Y L i).getLsbD j=true:=by simp [jl,h]
theorem zod {Y:Tb}{L:Ws}{i j:Nat}(h:(lR Y L i).getLsbD j=true):(jl Y L i).getLsbD j=true:=by simp [jl,h]
def zgC (Y:Tb)(L:Ws)(i k:Nat):BitVec 64:=if k=0 then lS Y L i else if k=1 then kO Y L i else lR Y L i
theorem zoh {Y:Tb}{L:Ws}{i j k:Nat}(h:(zgC Y L i k).getLsbD j=true):(jl Y L i).getLsbD j=true:=by
 unfold zgC at h
 split at h
 ·exact zoL h
 ·split at h
  ·exact zoo h
  ·exact zod h
def ep (Y:Tb)(L:Ws)(i:Nat):Nat→Ws
 |0=>L
 |k+1=>(ep Y L i k).set i (cH (ep Y L i k) i &&& ~~~(zgC Y (ep Y L i k) i k))
theorem zb7 {Y:Tb}{L:Ws}{i:Nat}:∀k,(ep Y L i k).length=L.length
 |0=>rfl
 |k+1=>by rw [ep,List.length_set,zb7 k]
theorem zeb {Y:Tb}{L0 L:Ws}{i:Nat}(h:Reach Y L0 L)(hi:i<Y.n):∀k,Reach Y L0 (ep Y L i k)
 |0=>h
 |k+1=>zkk (zeb h hi k) hi (fun j hj=>zoh hj)
theorem zdU {Y:Tb}{L:Ws}{i j:Nat}(hi:i<L.length)(hj:j≠i):∀k,cH (ep Y L i k) j=cH L j
 |0=>rfl
 |k+1=>by rw [ep,kG (by rw [zb7];exact hi),if_neg hj,zdU hi hj k]
theorem zfb {Y:Tb}{L:Ws}{i:Nat}(hi:i<L.length):∀k j,(cH (ep Y L i k) i).getLsbD j=true→(cH L i).getLsbD j=true
 |0,_,h=>h
 |k+1,j,h=>by
  rw [ep,kG (by rw [zb7];exact hi),if_pos rfl,BitVec.getLsbD_and,Bool.and_eq_true] at h;exact zfb hi k j h.1
theorem zlz {Y:Tb}{L:Ws}{i:Nat}{b:BitVec 64}(hok:Y.Ok)(hi:i<Y.n)(hl:L.length=Y.n)(m:Nat):zgC Y (L.set i b) i m=zgC Y L i m:=by
 have h1:=zgi (b:=b) hok hi hl;unfold zgC;rw [h1.1,h1.2.1,h1.2.2]
theorem zgd {Y:Tb}{L:Ws}{i:Nat}(hok:Y.Ok)(hi:i<Y.n)(hl:L.length=Y.n):∀k m,zgC Y (ep Y L i k) i m=zgC Y L i m
 |0,_=>rfl
 |k+1,m=>by rw [ep,zlz hok hi (by rw [zb7,hl]),zgd hok hi hl k m]
theorem zkC {Y:Tb}{L:Ws}{i:Nat}(hok:Y.Ok)(hi:i<Y.n)(hl:L.length=Y.n):cH (ep Y L i 3) i=cH L i &&& ~~~(lS Y L i) &&& ~~~(kO Y L i) &&& ~~~(lR Y L i):=by
 have h:∀k,cH (ep Y L i (k+1)) i=cH (ep Y L i k) i &&& ~~~(zgC Y L i k):=fun k=>by
  rw [ep,kG (by rw [zb7,hl];exact hi),if_pos rfl,zgd hok hi hl]
 rw [h 2,h 1,h 0]
 rfl
theorem zfh {Y : Tb} {L : Ws} {i : Nat} (hi : i < L.length) : ep Y L i 3 = L.set i (cH (ep Y L i 3) i) := by
  have h : ∀ k, ∃ b, ep Y L i k = L.set i b := by
    intro k
    induction k with
    | zero => exact ⟨cH L i, by
        apply List.ext_getElem?; intro j; by_cases hj : j = i
        · subst hj; rw [List.getElem?_set_self hi, ep, List.getElem?_eq_getElem hi, d5 hi]
        · rw [List.getElem?_set_ne (fun e => hj e.symm)]; rfl⟩
    | succ k ih =>
      obtain ⟨b, hb⟩ := ih; exact ⟨_, by rw [ep, hb, List.set_set]⟩
  obtain ⟨b, hb⟩ := h 3; rw [hb, kG hi, if_pos rfl]
theorem zhv {a b:BitVec 64}(hs:∀j,a.getLsbD j=true→b.getLsbD j=true)(hne:a≠b)(h0:a≠0#64):iT b=0:=by
 unfold iT;rw [if_neg];rintro ⟨hb,hz⟩
 have h1:∀j,b.getLsbD j=true→j=ctz b:=fun j hj=>by
  have:=zfd hb j;rw [hz,hj,BitVec.getLsbD_zero,Bool.true_and] at this;simpa using this.symm
 apply hne;apply BitVec.eq_of_getLsbD_eq;intro j hj
 cases hbj:b.getLsbD j with
 |false=>
  cases haj:a.getLsbD j with
  |false=>rfl
  |true=>rw [hs j haj] at hbj;cases hbj
 |true=>
  have e:=h1 j hbj;obtain ⟨k,hk⟩:∃k,a.getLsbD k=true:=⟨ctz a,(zdS h0 0).1⟩;rw [e,←h1 k (hs k hk)];exact hk
theorem SInv.step {Y : Tb} {L0 L : Ws} {i : Nat} {q : List Nat} {ws : Ws} (hok : Y.Ok) (h : SInv Y L0 L (i :: q) ws false) :
    SInv Y L0 (ep Y L i 3) q (if cH (ep Y L i 3) i = cH L i then ws else j2 Y (ep Y L i 3) i ws) (decide (cH (ep Y L i 3) i = 0#64)) := by
  have hi : i < Y.n := h.qn i b2; (have hil : i < L.length := by rw [h.len]; exact hi); have hn := hok.n; have hsub := zfb (Y := Y) hil 3; refine ⟨zeb h.reach hi 3, by rw [zb7, h.len], ?_, ?_, fun j hj => h.qn j (by simp [hj]), by have := h.q512; simp at this; omega, ?_, ?_⟩
  · split
    · exact h.ws8
    · rw [zfg, h.ws8]
  · intro j hj hb
    split at hb
    · exact h.wsn j hj hb
    · rcases (zdA hok hi h.ws8 j hj).1 hb with h1 | ⟨_, h1 | h1 | h1⟩
      · exact h.wsn j hj h1
      · obtain ⟨x, hx, he⟩ := h1; have := (hok.ps i hi).2 x hx; omega
      · obtain ⟨x, hx, he⟩ := h1; have := (hok.inn i hi).2 x hx; omega
      · obtain ⟨x, hx, he⟩ := h1; have h2 := (hok.out i hi).2 x hx; rcases he with he | ⟨_, o, ho, he⟩
        · omega
        · have := (hok.inn x.to.toNat a6).2 o ho; omega
  · intro hc; exact ⟨i, hi, of_decide_eq_true hc⟩
  · intro hc k hk; have h0 : cH (ep Y L i 3) i ≠ 0#64 := of_decide_eq_false hc; by_cases hki : k = i
    · subst hki;refine .inr (.inr ⟨h0, ?_⟩); have e := zgi (b := cH (ep Y L k 3) k) hok hi h.len; rw [← zfh hil] at e; unfold jl; rw [e.1, e.2.1, e.2.2, zkC hok hi h.len]; apply BitVec.eq_of_getLsbD_eq; intro j hj;simp only [BitVec.getLsbD_and, BitVec.getLsbD_or, BitVec.getLsbD_not, BitVec.getLsbD_zero]
      cases (cH L k).getLsbD j <;> cases (lS Y L k).getLsbD j <;> cases (kO Y L k).getLsbD j <;> cases (lR Y L k).getLsbD j <;> simp
    · have hkeep := zdU (Y := Y) hil hki 3; by_cases hsame : cH (ep Y L i 3) i = cH L i
      · rw [if_pos hsame]
        have e : ep Y L i 3 = L := by
          rw [zfh hil, hsame]; apply List.ext_getElem?; intro j; by_cases hj : j = i
          · subst hj; rw [List.getElem?_set_self hil, List.getElem?_eq_getElem hil, d5 hil]
          · rw [List.getElem?_set_ne (fun e => hj e.symm)]
        rw [e]; rcases h.good rfl k hk with h1 | h1 | h1
        · rcases List.mem_cons.1 h1 with h1 | h1
          · exact absurd h1 hki
          · exact .inl h1
        · exact .inr (.inl h1)
        · exact .inr (.inr h1)
      · rw [if_neg hsame]; have h00 : only L i = 0 := zhv hsub hsame h0; (have honly : ∀ j, j ≠ i → only (ep Y L i 3) j = only L j := fun j hj => by unfold only; rw [zdU hil hj]); rcases h.good rfl k hk with h1 | h1 | h1
        · rcases List.mem_cons.1 h1 with h1 | h1
          · exact absurd h1 hki
          · exact .inl h1
        · exact .inr (.inl ((zdA hok hi h.ws8 k a6).2 (.inl h1)))
        · by_cases hnear : only (ep Y L i 3) i ≠ 0 ∧ mq Y (ep Y L i 3) i k
          · exact .inr (.inl ((zdA hok hi h.ws8 k a6).2 (.inr hnear)))
          · refine .inr (.inr ⟨by rw [hkeep]; exact h1.1, ?_⟩)
            have ha : Alike Y L (ep Y L i 3) k := by
              by_cases hz : only (ep Y L i 3) i = 0
              · have hall : ∀ j, only (ep Y L i 3) j = only L j := fun j => by
                  by_cases hj : j = i
                  · subst hj; rw [hz, h00]
                  · exact honly j hj
                exact q4B
              · exact zia hok hi hk hki honly h00 (fun hh => hnear ⟨hz, hh⟩)
            rw [zgh ha (fun x hx => by have := (hok.out k hk).2 x hx; omega), hkeep]; exact h1.2
theorem zms {Y:Tb}{L:Ws}{i:Nat}{q:List Nat}{ws:Ws}(hi:i<L.length)(hq:q.length≤511):smu (ep Y L i 3) q (if cH (ep Y L i 3) i=cH L i then ws else j2 Y (ep Y L i 3) i ws)<smu L (i :: q) ws:=by
 have hb:=zhP L i (cH (ep Y L i 3) i) hi;rw [←zfh hi] at hb;unfold smu;by_cases hs:cH (ep Y L i 3) i=cH L i
 ·rw [if_pos hs];rw [hs] at hb;simp only [List.length_cons];omega
 ·rw [if_neg hs];have hlt:=zom (zfb (Y:=Y) hi 3) hs; (have h6:(if fe (j2 Y (ep Y L i 3) i ws)=[] then 0 else 600)≤600:=by split <;> omega);simp only [List.length_cons];omega
end Go.Proofs.YtgoeeefoinkepaaGreatDoor
