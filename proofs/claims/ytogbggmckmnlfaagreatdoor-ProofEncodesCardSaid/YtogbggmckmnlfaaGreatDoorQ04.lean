/- B C D E F G: shortened and put together by squeeze.py. -/
import Derived.Test.YtogbggmckmnlfaaGreatDoorQ03
set_option maxRecDepth 100000
set_option maxHeartbeats 4000000
set_option linter.unusedVariables false
set_option linter.unusedSectionVars false
set_option linter.unusedSimpArgs false
namespace Go.Proofs.YtogbggmckmnlfaaGreatDoor
open Go.RowKit
theorem Cs.later {w w':World}(hb:Below w.heap.size w w'){g p:Nat}{l:List Value}(h:Cs w g p l):Cs w' g p l:=h.kept (gM hb) (fun h=>h)
def Dx.ok (d:Dx):Bool:=inB d.st 0 511&&(fZ (fun c=>inB c 2 51) d.chs&&f9 ej d.chs)
def Pb.rulesOk (P:Pb):Bool:=decide ((P.ps.length:Int)≤4096)&&(fZ Pr.ok P.ps&&(f9 Pr.cmp P.ps&&(decide ((P.ls.length:Int)≤1024)&&(fZ Ld.ok P.ls&&(f9 Ld.cmp P.ls&&(decide ((P.cs.length:Int)≤1024)&&(fZ Cp.ok P.cs&&f9 Cp.cmp P.cs)))))))
abbrev Ws:=List (BitVec 64)
abbrev Ws.cells (ws:Ws):List Value:=ws.map fun b=>U b
def fB:Ws:=List.replicate 8 0#64
def ef (ws:Ws)(i:Nat):Ws:=ws.set (i / 64) (cQ ws (i / 64) ||| 1#64 <<< (i % 64))
def eO (ws:Ws)(i:Nat):Bool:=(cQ ws (i / 64)).getLsbD (i % 64)
def jD (ws:Ws)(i:Int):Bool:=inB i 0 511&&eO ws i.toNat
def lX (l:List Int):Ws:=l.foldl (fun s i=>ef s i.toNat) fB
theorem kZ {ws:Ws}{i:Nat}:(ef ws i).length=ws.length:=by simp [ef]
theorem la (l:List Int):(lX l).length=8:=by
 have:∀(l:List Int) (s:Ws),(l.foldl (fun s i=>ef s i.toNat) s).length=s.length:=by
  intro l
  induction l with
  |nil=>intro s;rfl
  |cons x r ih=>intro s;simp only [List.foldl_cons,ih,kZ]
 exact this l fB
theorem zj7 {l:List Int}{k:Nat}(h:k<l.length):lX (l.take (k+1))=ef (lX (l.take k)) (cQ l k).toNat:=by
 unfold lX;rw [List.take_succ_eq_append_getElem h,eh h,List.foldl_append];rfl
theorem Ws.get {ws:Ws}{i p:Nat}(h:i<ws.length)(hp:p=i):ws.cells[p]?=some (U (cQ ws i)):=by
 subst hp;simp [cQ,h]
theorem Ws.put {ws:Ws}{i p:Nat}{b:BitVec 64}(hp:p=i):ws.cells.set p (U b)=Ws.cells (ws.set i b):=by
 subst hp;simp [List.map_set]
theorem zh2 (a:BitVec 64)(j:Nat):decide (((((a >>> j) &&& 1#64).toNat:Nat):Int)=1)=a.getLsbD j:=by
 rw [BitVec.toNat_and,BitVec.toNat_ushiftRight]
 show decide ((((a.toNat >>> j &&& 1):Nat):Int)=1)=a.toNat.testBit j
 rw [Nat.and_one_is_mod,Nat.testBit,Nat.and_comm,Nat.and_one_is_mod];rcases Nat.mod_two_eq_zero_or_one (a.toNat >>> j) with h|h <;> rw [h] <;> rfl
theorem zgb {ws:Ws}{i j:Nat}(hl:ws.length=8)(hi:i<512)(hj:j<512):eO (ef ws i) j=(eO ws j||decide (i=j)):=by
 unfold eO ef cQ;simp only [List.getD_eq_getElem?_getD];by_cases h:i / 64=j / 64
 ·rw [h,List.getElem?_set_self a5];simp only [Option.getD_some,BitVec.getLsbD_or,BitVec.getLsbD_shiftLeft];by_cases h2:i=j
  ·subst h2;have hm:i % 64<64:=Nat.mod_lt _ a6;simp [hm]
  ·(have hm:¬i % 64=j % 64:=by omega);rw [decide_eq_false h2,Bool.or_false]
   have:(decide (j % 64<64)&& !decide (j % 64<i % 64)&&(1#64).getLsbD (j % 64 - i % 64))=false:=by
    by_cases h3:j % 64<i % 64
    ·simp [h3]
    ·rw [show (1#64).getLsbD (j % 64 - i % 64)=false from by rw [BitVec.getLsbD_one];simp;omega];simp
   rw [this,Bool.or_false]
 ·rw [List.getElem?_set_ne h,decide_eq_false (by intro hh;subst hh;exact h rfl),Bool.or_false]
theorem zd1 (j:Nat):eO fB j=false:=by
 unfold eO fB cQ;rw [List.getD_eq_getElem?_getD,List.getElem?_replicate]
 split
 ·simp
 ·exact BitVec.getLsbD_zero
theorem zlc (l:List Int)(hl:∀x∈l,0≤x∧x≤511)(j:Int):jD (lX l) j=true↔j∈l:=by
 have key:∀(l:List Int) (s:Ws),s.length=8→(∀x∈l,0≤x∧x≤511)→∀j:Nat,j<512→(eO (l.foldl (fun s i=>ef s i.toNat) s) j=true↔eO s j=true∨(j:Int)∈l):=by
  intro l
  induction l with
  |nil=>intro s _ _ j _;simp
  |cons x r ih=>
   intro s hs hx j hj;have h1:=hx x a8;rw [List.foldl_cons,ih _ (by rw [kZ,hs]) (fun y hy=>hx y (by simp [hy])) j hj,zgb hs a5 hj];simp only [Bool.or_eq_true,decide_eq_true_eq,List.mem_cons];constructor
   ·rintro ((h|h)|h)
    ·exact .inl h
    ·exact .inr (.inl a5)
    ·exact .inr (.inr h)
   ·rintro (h|h|h)
    ·exact .inl (.inl h)
    ·exact .inl (.inr a5)
    ·exact .inr h
 unfold jD inB;by_cases h:0≤j∧j≤511
 ·rw [decide_eq_true h.1,decide_eq_true h.2,Bool.and_true,Bool.true_and,show eO (lX l) j.toNat=true↔_ from key l fB (by rfl) hl j.toNat a5,zd1,Int.toNat_of_nonneg h.1];simp
 ·constructor
  ·intro hh;simp only [Bool.and_eq_true,decide_eq_true_eq] at hh;exact absurd hh.1 h
  ·intro hm;exact absurd (hl j hm) h
def Pb.has (P:Pb)(i:Int):Bool:=jD (lX (P.ds.map (·.st))) i
def Pb.ok (P:Pb):Bool:=fZ Dx.ok P.ds&&(P.rulesOk&&(f9 (fun a b=>ej a.st b.st) P.ds&&(fZ (fun x:Pr=>P.has x.a&&P.has x.b) P.ps&&(fZ (fun x:Ld=>P.has x.to&&P.has x.fr) P.ls&&fZ (fun x:Cp=>P.has x.st) P.cs))))
theorem zl4 {α:Type}[Inhabited α]{q:α→Bool}{xs:List α}:fZ q xs=true↔∀k,k<xs.length→q (cQ xs k)=true:=by
 unfold fZ;rw [List.all_eq_true];simp only [List.mem_range]
theorem eA {α:Type}[Inhabited α]{q:α→Bool}{xs:List α}:fZ q xs=true↔∀x∈xs,q x=true:=by
 rw [zl4];constructor
 ·intro h x hx;obtain ⟨k,hk,rfl⟩:=List.mem_iff_getElem.1 hx;rw [←eh hk];exact h k hk
 ·intro h k hk;exact h _ (i0 hk)
theorem kE {α:Type}[Inhabited α]{c:α→α→Int}{xs:List α}:f9 c xs=true↔∀k,k+1<xs.length→c (cQ xs k) (cQ xs (k+1))<0:=by
 unfold f9;rw [List.all_eq_true];simp only [List.mem_range];constructor
 ·intro h k hk;have:=h (k+1) hk;simp at this;omega
 ·intro h k hk
  cases k with
  |zero=>rfl
  |succ k=>have:=h k hk;simp;omega
theorem kn {a b:Int}:ej a b<0↔a<b:=by unfold ej;split <;> (try split) <;> omega
theorem zkZ {α:Type}[Inhabited α]{f:α→Int}{xs:List α}(hi:f9 (fun a b=>ej (f a) (f b)) xs=true)(h0:∀x∈xs,0≤f x):∀k,k<xs.length→(k:Int)≤f (cQ xs k)
 |0,h=>h0 _ (i0 h)
 |k+1,h=>by
  have h1:=zkZ hi h0 k a5;have h2:=kn.1 (kE.1 hi k h);omega
theorem zkl {xs:List Dx}(hi:f9 (fun a b:Dx=>ej a.st b.st) xs=true)(hr:fZ Dx.ok xs=true):xs.length≤512:=by
 have hst:∀x∈xs,0≤x.st∧x.st≤511:=fun x hx=>by
  have:=eA.1 hr x hx;simp only [Dx.ok,inB,Bool.and_eq_true,decide_eq_true_eq] at this;exact this.1
 rcases Nat.lt_or_ge 512 xs.length with h|h
 ·have h1:=zkZ (f:=Dx.st) hi (fun x hx=>(hst x hx).1) 512 h;have h2:=hst _ (i0 h);omega
 ·exact h
theorem zjV (c:Int)(w:World):Calls Tryz.prog 130 #[.int .i64 c] w fun e w'=>e= .returned (.bool (inB c 2 51))∧Below w.heap.size w w':=by
 refine dy (M:=fun _=>False) (hs:=[]) Tryz.func130 rfl rfl rfl (Hp.refl _ _) ?_;refine mD ?_; (refine cU (Wt.none) rfl rfl (cS rfl rfl rfl (fun w hw=>zde _ _ _ _)) ?_;rintro _ _ ⟨rfl,rfl⟩);refine fm ?_;refine c8 rfl rfl (fun w' hw=>⟨?_,hw.isBelow⟩)
 rfl
theorem zgU (d:Dx)(w:World)(h:zgv w d.v d.chs)(hl:d.chs.length≤9223372036854775807):Calls Tryz.prog 104 #[.agg (Dx.cells d).toArray] w fun e w'=>e= .returned (.bool d.ok)∧Below w.heap.size w w':=by
 haveI:=h.one;refine dy (M:=fun _=>False) (hs:=[]) Tryz.func104 rfl rfl rfl (Hp.refl _ _) ?_;simp only [Dx.cells];refine dm ?_; (refine cU (Wt.none) rfl rfl (dM) ?_;rintro _ _ ⟨g1,rfl,rfl⟩);refine gz ?_;refine gz ?_;refine eX ?_; (refine cU (Wt.none) rfl rfl (cS rfl rfl rfl (fun w hw=>zcc _ _)) ?_;rintro _ _ ⟨rfl,rfl⟩);refine dp ?_;refine dw rfl rfl rfl (fun h1=>?_) (fun h1=>?_)
 ·have p1:=h1; (try simp only [c7] at p1);refine q0H ?_;refine jM ?_; (refine cU (Wt.some rfl rfl rfl h1) rfl rfl (cS rfl rfl rfl (fun w hw=>zmb (q:=fun c=>inB c 2 51) d.chs _ _ #[] w (h.kept hw) (fun k hk w1 hb=>zjV _ w1) hl)) ?_;rintro _ _ ⟨rfl,rfl⟩);refine kF ?_;refine dp ?_;refine dw rfl rfl rfl (fun h2=>?_) (fun h2=>?_)
  ·have p2:=h2; (try simp only [c7] at p2);refine mw ?_; (refine cU (Wt.some rfl rfl rfl h2) rfl rfl (cS rfl rfl rfl (fun w hw=>zhF (c:=ej) d.chs _ _ w (h.kept hw) (fun x y w1=>kN x y w1) hl)) ?_;rintro _ _ ⟨rfl,rfl⟩);refine q2w ?_;refine fm ?_;refine c8 rfl rfl (fun w' hw=>⟨?_,hw.isBelow⟩);exact q4z
  ·have p2:=h2; (try simp only [c7] at p2);refine q0i ?_;refine q30 ?_;refine fm ?_;refine c8 rfl rfl (fun w' hw=>⟨?_,hw.isBelow⟩);exact q4z
 ·have p1:=h1; (try simp only [c7] at p1);refine j6 ?_;refine j6 ?_;refine q2T ?_;refine TL.run 6 rfl ?_;refine fN ?_;refine c8 rfl rfl (fun w' hw=>⟨?_,hw.isBelow⟩);exact q4z
theorem zhv (x y:Dx)(hx:OneC x.v)(hy:OneC y.v)(w:World):Calls Tryz.prog 106 #[.agg (Dx.cells x).toArray, .agg (Dx.cells y).toArray] w fun e w'=>e= .returned (.int .i64 (ej x.st y.st))∧Below w.heap.size w w':=by
 refine dy (M:=fun _=>False) (hs:=[]) Tryz.func106 rfl rfl rfl (Hp.refl _ _) ?_;simp only [Dx.cells];refine dm ?_; (refine cU (Wt.none) rfl rfl (dM) ?_;rintro _ _ ⟨g2,rfl,rfl⟩); (refine cU (Wt.none) rfl rfl (dM) ?_;rintro _ _ ⟨g3,rfl,rfl⟩);refine gz ?_;refine j5 ?_;refine eX ?_; (refine cU (Wt.none) rfl rfl (cS rfl rfl rfl (fun w hw=>kN _ _ _)) ?_;rintro _ _ ⟨rfl,rfl⟩);refine fm ?_;refine c8 rfl rfl (fun w' hw=>⟨?_,hw.isBelow⟩)
 rfl
theorem zgV (P:Pb)(vp vl vc:Value)(w:World)(h:RulesAt w vp vl vc P):Calls Tryz.prog 105 #[.agg [vp,vl,vc].toArray] w fun e w'=>e= .returned (.bool P.rulesOk)∧Below w.heap.size w w':=by
 obtain ⟨A1,cap1,rfl, -⟩:=h.ps.op;obtain ⟨A2,cap2,rfl, -⟩:=h.ls.op;obtain ⟨A3,cap3,rfl, -⟩:=h.cs.op;refine dy (M:=fun _=>False) (hs:=[]) Tryz.func105 rfl rfl rfl (Hp.refl _ _) ?_;refine dm ?_; (refine cU (Wt.none) rfl rfl (dM) ?_;rintro _ _ ⟨g1,rfl,rfl⟩);refine gz ?_;refine eX ?_;refine l8 ?_;refine ez ?_;refine dw rfl rfl rfl (fun h1=>?_) (fun h1=>?_)
 ·have p1:=h1; (try simp only [c7] at p1);refine q0H ?_; (refine cU (Wt.some rfl rfl rfl h1) rfl rfl (cS rfl rfl rfl (fun w hw=>zk5 (q:=Pr.ok) P.ps _ 131 #[] w (h.ps.kept hw) (fun k hk w1 hb=>zhZ _ w1) h.hps)) ?_;rintro _ _ ⟨rfl,rfl⟩);refine kF ?_;refine dp ?_;refine dw rfl rfl rfl (fun h2=>?_) (fun h2=>?_)
  ·have p2:=h2; (try simp only [c7] at p2);refine mw ?_; (refine cU (Wt.some rfl rfl rfl h2) rfl rfl (cS rfl rfl rfl (fun w hw=>zis (c:=Pr.cmp) P.ps _ 133 w (h.ps.kept hw) (fun x y w1=>zfX x y w1) h.hps)) ?_;rintro _ _ ⟨rfl,rfl⟩);refine q2w ?_;refine dp ?_;refine dw rfl rfl rfl (fun h3=>?_) (fun h3=>?_)
   ·have p3:=h3; (try simp only [c7] at p3);refine q0S ?_;refine db (Wt.some rfl rfl rfl h3) rfl rfl (io rfl rfl) ?_;refine q1L ?_;refine q3x ?_;refine dp ?_;refine dw rfl rfl rfl (fun h4=>?_) (fun h4=>?_)
    ·have p4:=h4; (try simp only [c7] at p4);refine q0T ?_; (refine cU (Wt.some rfl rfl rfl h4) rfl rfl (cS rfl rfl rfl (fun w hw=>zli (q:=Ld.ok) P.ls _ 134 #[] w (h.ls.kept hw) (fun k hk w1 hb=>ziq _ w1) h.hls)) ?_;rintro _ _ ⟨rfl,rfl⟩);refine cR (eT rfl rfl h4) ?_;refine dp ?_;refine dw rfl rfl rfl (fun h5=>?_) (fun h5=>?_)
     ·have p5:=h5; (try simp only [c7] at p5);refine db (Wt.some rfl rfl rfl h5) rfl rfl (Yv.fieldAddr) ?_;refine db (Wt.some rfl rfl rfl h5) rfl rfl (da 0) ?_; (refine cU (Wt.some rfl rfl rfl h5) rfl rfl (cS rfl rfl rfl (fun w hw=>zii (c:=Ld.cmp) P.ls _ 136 w (h.ls.kept hw) (fun x y w1=>zf0 x y w1) h.hls)) ?_;rintro _ _ ⟨rfl,rfl⟩);refine cR (eT rfl rfl h5) ?_;refine dp ?_;refine dw rfl rfl rfl (fun h6=>?_) (fun h6=>?_)
      ·have p6:=h6; (try simp only [c7] at p6);refine db (Wt.some rfl rfl rfl h6) rfl rfl (Yv.fieldAddr) ?_;refine db (Wt.some rfl rfl rfl h6) rfl rfl (da 0) ?_;refine db (Wt.some rfl rfl rfl h6) rfl rfl (io rfl rfl) ?_;refine db (Wt.some rfl rfl rfl h6) rfl rfl (ei) ?_;refine cR (eT rfl rfl h6) ?_;refine dp ?_;refine dw rfl rfl rfl (fun h7=>?_) (fun h7=>?_)
       ·have p7:=h7; (try simp only [c7] at p7);refine q3M ?_; (refine cU (Wt.some rfl rfl rfl h7) rfl rfl (cS rfl rfl rfl (fun w hw=>zkQ (q:=Cp.ok) P.cs _ 137 #[] w (h.cs.kept hw) (fun k hk w1 hb=>ziX _ w1) h.hcs)) ?_;rintro _ _ ⟨rfl,rfl⟩);refine cR (eT rfl rfl h7) ?_;refine dp ?_;refine dw rfl rfl rfl (fun h8=>?_) (fun h8=>?_)
        ·have p8:=h8; (try simp only [c7] at p8);refine q3N ?_; (refine cU (Wt.some rfl rfl rfl h8) rfl rfl (cS rfl rfl rfl (fun w hw=>zin (c:=Cp.cmp) P.cs _ 139 w (h.cs.kept hw) (fun x y w1=>zgB x y w1) h.hcs)) ?_;rintro _ _ ⟨rfl,rfl⟩);refine cR (eT rfl rfl h8) ?_;refine fm ?_;refine c8 rfl rfl (fun w' hw=>⟨?_,hw.isBelow⟩);exact q39
        ·have p8:=h8; (try simp only [c7] at p8);refine q1h ?_;refine cR (eB rfl rfl h8) ?_;refine fm ?_;refine c8 rfl rfl (fun w' hw=>⟨?_,hw.isBelow⟩);exact q39
       ·have p7:=h7; (try simp only [c7] at p7);refine q1D ?_;refine TL.off (Wt.not rfl rfl rfl h7) rfl rfl ?_;refine cR (eB rfl rfl h7) ?_;refine TL.run 6 rfl ?_;refine fN ?_;refine c8 rfl rfl (fun w' hw=>⟨?_,hw.isBelow⟩);exact q39
      ·have p6:=h6; (try simp only [c7] at p6);refine q05 ?_;refine q05 ?_;refine cR (eB rfl rfl h6) ?_;refine TL.run 11 rfl ?_;refine fN ?_;refine c8 rfl rfl (fun w' hw=>⟨?_,hw.isBelow⟩);exact q39
     ·have p5:=h5; (try simp only [c7] at p5);refine q1E ?_;refine TL.off (Wt.not rfl rfl rfl h5) rfl rfl ?_;refine cR (eB rfl rfl h5) ?_;refine TL.run 17 rfl ?_;refine fN ?_;refine c8 rfl rfl (fun w' hw=>⟨?_,hw.isBelow⟩);exact q39
    ·have p4:=h4; (try simp only [c7] at p4);refine q0o ?_;refine cR (eB rfl rfl h4) ?_;refine TL.run 22 rfl ?_;refine fN ?_;refine c8 rfl rfl (fun w' hw=>⟨?_,hw.isBelow⟩);exact q39
   ·have p3:=h3; (try simp only [c7] at p3);refine q27 ?_;refine TL.run 27 rfl ?_;refine fN ?_;refine c8 rfl rfl (fun w' hw=>⟨?_,hw.isBelow⟩);exact q39
  ·have p2:=h2; (try simp only [c7] at p2);refine q0i ?_;refine q30 ?_;refine TL.run 33 rfl ?_;refine fN ?_;refine c8 rfl rfl (fun w' hw=>⟨?_,hw.isBelow⟩);exact q39
 ·have p1:=h1; (try simp only [c7] at p1);refine q1m ?_;refine TL.run 38 rfl ?_;refine fN ?_;refine c8 rfl rfl (fun w' hw=>⟨?_,hw.isBelow⟩);exact q39
theorem zeY (i:Int)(w:World):Calls Tryz.prog 78 #[.int .i64 i] w fun e w'=>e= .returned (.bool (inB i 0 511))∧Below w.heap.size w w':=by
 refine dy (M:=fun _=>False) (hs:=[]) Tryz.func78 rfl rfl rfl (Hp.refl _ _) ?_;refine dm ?_;refine TL.run 1 rfl ?_;refine dR ?_;refine TL.run 3 rfl ?_;refine dw rfl rfl rfl (fun h1=>?_) (fun h1=>?_)
 ·have p1:=h1; (try simp only [c7] at p1);refine db (Wt.some rfl rfl rfl h1) rfl rfl (ei rfl) ?_;refine db (Wt.some rfl rfl rfl h1) rfl rfl (ei rfl) ?_;refine cR (eT rfl rfl h1 rfl) ?_;refine TL.run 1 rfl ?_;refine TL.ns (T.ret ?_);refine c8 rfl rfl (fun w' hw=>⟨?_,hw.isBelow⟩);refine j1 ?_;simp only [inB, *,Bool.not_true,Bool.not_false,Bool.or_false,Bool.false_or,Bool.or_true,Bool.true_or,Bool.and_false,Bool.false_and,Bool.true_and,Bool.and_true,Bool.or_self,Bool.and_self,Bool.not_not,decide_true,decide_false,not_true_eq_false,not_false_eq_true,cond_true,cond_false]; (try exact decide_eq_decide.2 (by omega))
 ·have p1:=h1; (try simp only [c7] at p1);refine TL.off (Wt.not rfl rfl rfl h1) rfl rfl ?_;refine TL.off (Wt.not rfl rfl rfl h1) rfl rfl ?_;refine cR (eB rfl rfl h1 rfl) ?_;refine TL.run 1 rfl ?_;refine TL.ns (T.ret ?_);refine c8 rfl rfl (fun w' hw=>⟨?_,hw.isBelow⟩);refine j1 ?_;simp only [inB, *,Bool.not_true,Bool.not_false,Bool.or_false,Bool.false_or,Bool.or_true,Bool.true_or,Bool.and_false,Bool.false_and,Bool.true_and,Bool.and_true,Bool.or_self,Bool.and_self,Bool.not_not,decide_true,decide_false,not_true_eq_false,not_false_eq_true,cond_true,cond_false]; (try exact decide_eq_decide.2 (by omega))
theorem zgr (ws:Ws)(hws:ws.length=8)(i:Int)(w:World):Calls Tryz.prog 43 #[.agg ws.cells.toArray, .int .i64 i] w fun e w'=>e= .returned (.bool (jD ws i))∧Below w.heap.size w w':=by
 refine dy (M:=fun _=>False) (hs:=[]) Tryz.func43 rfl rfl rfl (Hp.refl _ _) ?_;refine dm ?_; (refine cU (Wt.none) rfl rfl (dM) ?_;rintro _ _ ⟨g2,rfl,rfl⟩);refine kH ?_; (refine cU (Wt.none) rfl rfl (cS rfl rfl rfl (fun w hw=>zeY _ _)) ?_;rintro _ _ ⟨rfl,rfl⟩);refine dp ?_;refine dw rfl rfl rfl (fun h1=>?_) (fun h1=>?_)
 ·have p1:=h1; (try simp only [c7] at p1); (try simp only [inB,Bool.and_eq_true,decide_eq_true_eq] at p1); (try have hld:=Ws.get (ws:=ws) (i:=i.toNat / 64) (p:=0+0+i.toNat / 64*1) a5 a5);refine jM ?_;refine db (Wt.some rfl rfl rfl h1) rfl rfl (jf rfl rfl rfl a5) ?_;refine db (Wt.some rfl rfl rfl h1) rfl rfl (Yv.fieldAddr) ?_;refine db (Wt.some rfl rfl rfl h1) rfl rfl (ep rfl rfl rfl (show i / 64=((i.toNat / 64:Nat):Int) from by omega) a5) ?_;refine db (Wt.some rfl rfl rfl h1) rfl rfl (da 0 rfl rfl rfl hld) ?_;refine jM ?_;refine db (Wt.some rfl rfl rfl h1) rfl rfl (iX rfl rfl rfl a5) ?_;refine db (Wt.some rfl rfl rfl h1) rfl rfl (fW (i.toNat % 64) rfl rfl rfl a5 a5) ?_;refine db (Wt.some rfl rfl rfl h1) rfl rfl (gm (b:=1#64)) ?_;refine jM ?_;refine kF ?_;refine fm ?_;refine c8 rfl rfl (fun w' hw=>⟨?_,hw.isBelow⟩);exact q4I
 ·have p1:=h1; (try simp only [c7] at p1); (try simp only [inB,Bool.and_eq_true,decide_eq_true_eq] at p1); (try have hld:=Ws.get (ws:=ws) (i:=i.toNat / 64) (p:=0+0+i.toNat / 64*1) a5 a5);refine j6 ?_;refine j6 ?_;refine j6 ?_;refine j6 ?_;refine j6 ?_;refine q2T ?_;refine fm ?_;refine c8 rfl rfl (fun w' hw=>⟨?_,hw.isBelow⟩);exact q4I
theorem znS (l:List Int)(v:Value)(w:World)(h:zgv w v l)(hl:l.length≤9223372036854775807)(hr:∀x∈l,0≤x∧x≤511):Calls Tryz.prog 41 #[v] w fun e w'=>e= .returned (.tuple #[.agg (Ws.cells (lX l)).toArray, .int .i64 0])∧Below w.heap.size w w':=by
 obtain ⟨A,cap,rfl,hsl⟩:=h.op;refine dy (M:=fun _=>False) (hs:=[]) Tryz.func41 rfl rfl rfl (Hp.refl _ _) ?_;refine dm ?_; (refine cU (Wt.none) rfl rfl (Ew.alloc) ?_;rintro _ _ ⟨g2,rfl,rfl⟩);refine gz ?_; (refine cU (Wt.none) rfl rfl (Ew.alloc) ?_;rintro _ _ ⟨g4,rfl,rfl⟩);refine mP ?_;refine jH ?_;refine T.loop (ι:=Nat) (fun k=>[(2, .pointer (some ⟨g2,0,none⟩)),(4, .pointer (some ⟨g4,0,none⟩)),(7, .slice A l.length cap),(8, .int .i64 (l.length:Int)),(9, .int .i64 (k:Int))]) (fun k=>[.row g4 83 (Ws.cells (lX (l.take k))), .row g2 83 (Ws.cells fB)]) (fun k=>k≤l.length) (fun k=>l.length - k) 0 ?_ ?_ ?_ ?_
 ·omega
 ·exact (by repeat (first|exact Sub.nil|refine Sub.cons rfl ?_))
 ·exact Sx
 ·intro k hphi;have hlen:=la (l.take k); (have hsl8:(Ws.cells (lX (l.take k))).length=8:=by rw [List.length_map,hlen]);refine eR ?_;refine T.cond rfl (fun h1=>?_) (fun h1=>?_)
  ·have p1:=h1; (try simp only [c7] at p1);obtain ⟨g,off,rfl,hc⟩:=hsl a5;have hk:=hc k a5;simp only [Ie] at hk;have hr1:=hr _ (i0 (xs:=l) (k:=k) a5);have hld:=Ws.get (ws:=lX (l.take k)) (i:=(cQ l k).toNat / 64) (p:=0+0+(cQ l k).toNat / 64*1) a5 a5;refine fH ?_;refine q1Z ?_;refine l5 ?_; (refine cU (Wt.none) rfl rfl (cS rfl rfl rfl (fun w hw=>zeY _ _)) ?_;rintro _ _ ⟨rfl,rfl⟩);refine dL ?_;refine iU rfl (by rw [inB,decide_eq_true hr1.1,decide_eq_true hr1.2];rfl) ?_;refine kP ?_;refine d8 (sN 0 4 (sN 5 3 (.still 9 (.eff 4 (.still 8 (.still 10 (.eff 11 .done))))))) [.row g2 83 (Ws.cells fB)] a7 Sx ?_;refine gj ?_;refine cZ rfl (jf rfl rfl rfl a5) ?_;refine iN ?_;refine cZ rfl (ep rfl rfl rfl (show (cQ l k) / 64=(((cQ l k).toNat / 64:Nat):Int) from by omega) a5) ?_;refine gj ?_;refine cZ rfl (iX rfl rfl rfl a5) ?_;refine cZ rfl (gG (a:=1#64) ((cQ l k).toNat % 64) rfl rfl rfl a5 a5) ?_;refine lk ?_;refine eP rfl (Wt.none) rfl rfl (da 0 rfl rfl rfl hld) Sx ?_;refine cZ rfl (gg) ?_;refine cZ rfl (ep rfl rfl rfl (show (cQ l k) / 64=(((cQ l k).toNat / 64:Nat):Int) from by omega) a5) ?_;refine dQ ?_; (refine dP rfl (Wt.none) rfl (hJ 0 (Ws.cells (ef (lX (l.take k)) (cQ l k).toNat)) rfl rfl rfl rfl (by rw [List.length_map,hlen];omega) (Ws.put a5)) ?_;rintro _ _ ⟨rfl,rfl⟩;refine ⟨Sx,?_⟩);refine q1t ?_;exact K.next (k+1) a5 a5 (by repeat (first|exact Sub.nil|refine Sub.cons rfl ?_)) (by rw [zj7 a5];exact Sx)
  ·have p1:=h1; (try simp only [c7] at p1);refine q01 ?_;refine cR (dY 0 rfl rfl rfl hsl8) ?_; (refine dS (Wt.none) rfl (dF 1 rfl rfl rfl rfl (by rw [List.length_map,la]) (by rw [List.length_map,la];rfl)) ?_;rintro _ _ ⟨rfl,rfl⟩);refine fm ?_;exact fO 1 rfl rfl rfl rfl (by rw [List.length_map,la]) (fun w' hw=>⟨by rw [List.take_of_length_le a5],hw.isBelow⟩)
def fM (f:Nat→Value)(z:Value)(n k:Nat):List Value:=(List.range k).map f++List.replicate (n - k) z
theorem zfc {f:Nat→Value}{z:Value}{n k:Nat}(h:k≤n):(fM f z n k).length=n:=by simp [fM];omega
theorem zfp {f:Nat→Value}{z:Value}{n k p:Nat}(h:k<n)(hp:p=k):(fM f z n k).set p (f k)=fM f z n (k+1):=by
 subst hp;unfold fM;rw [List.set_append_right _ _ a8,show n - p=(n - (p+1))+1 by omega,List.replicate_succ,List.range_succ,List.map_append];simp
theorem zfo (z:Value)(n:Nat):(madeCells [z].toArray (n*1)).toList=fM (fun _=>z) z n 0:=by
 apply List.ext_getElem?;intro i;by_cases h:i<n
 ·simp [fM,madeCells,List.getElem?_replicate,Nat.mod_one,h]
 ·simp [fM,madeCells,List.getElem?_replicate,h]
theorem ziK {α:Type}[Inhabited α]{xs:List α}{f:Nat→Value}{z:Value}(g:α→Int)(hf:∀j,f j= .int .i64 (g (cQ xs j))){k:Nat}(hk:k=xs.length):fM f z xs.length k=(xs.map g).flatMap Ie:=by
 subst hk;unfold fM;apply List.ext_getElem?;intro i
 have e:(xs.map g).flatMap Ie=(xs.map g).map (fun z=>Value.int .i64 z):=by
  have:∀l:List Int,l.flatMap Ie=l.map (fun z=>Value.int .i64 z):=by
   intro l
   induction l with
   |nil=>rfl
   |cons x r ih=>simp [List.flatMap_cons,Ie,ih]
  exact this _
 rw [e];simp only [Nat.sub_self,List.replicate_zero,List.append_nil,List.getElem?_map,List.getElem?_range];by_cases h:i<xs.length
 ·simp [h,hf,cQ]
 ·simp [h]
theorem zji (P:Pb)(vd vp vl vc:Value)(w:World)(h:ProbAt w vd vp vl vc P)(hn:P.ds.length≤512)(hr:∀d∈P.ds,0≤d.st∧d.st≤511):Calls Tryz.prog 109 #[.agg [vd,vp,vl,vc].toArray] w fun e w'=>e= .returned (.agg (Ws.cells (lX (P.ds.map (·.st)))).toArray)∧Below w.heap.size w w':=by
 obtain ⟨A,cap,rfl,hsl⟩:=h.ds.sl.op;obtain ⟨A1,cap1,rfl, -⟩:=h.ru.ps.op;obtain ⟨A2,cap2,rfl, -⟩:=h.ru.ls.op;obtain ⟨A3,cap3,rfl, -⟩:=h.ru.cs.op;refine dy (M:=fun _=>False) (hs:=[]) Tryz.func109 rfl rfl rfl (Hp.refl _ _) ?_;refine dm ?_; (refine cU (Wt.none) rfl rfl (dM) ?_;rintro _ _ ⟨g1,rfl,rfl⟩); (refine cU (Wt.none) rfl rfl (Ew.alloc) ?_;rintro _ _ ⟨g2,rfl,rfl⟩);refine dR ?_;refine j5 ?_;refine l8 ?_; (refine cU (Wt.none) rfl rfl (Ew.makeSlice rfl rfl rfl rfl rfl a5 a5) ?_;rintro _ _ ⟨g11,rfl,rfl⟩);refine dL ?_;refine T.cut (gs:=[(2, .pointer (some ⟨g2,0,none⟩)),(3,(.slice (some ⟨g11,0,none⟩) P.ds.length P.ds.length))]) (hs':=[.sl (.slice (some ⟨g11,0,none⟩) P.ds.length P.ds.length) 3 1 P.ds.length ((P.ds.map (·.st)).flatMap Ie), .row g2 83 (Ws.cells fB)]) ?_ ?_
 ·skip;refine T.seq ?_;rw [zfo];refine fg ?_;refine mg ?_;refine jH ?_;refine T.loop (ι:=Nat) (fun k=>[(2, .pointer (some ⟨g2,0,none⟩)),(3,(.slice (some ⟨g11,0,none⟩) P.ds.length P.ds.length)),(13, .slice A P.ds.length cap),(14, .int .i64 (P.ds.length:Int)),(15, .int .i64 (k:Int))]) (fun k=>[.sl (.slice (some ⟨g11,0,none⟩) P.ds.length P.ds.length) 3 1 P.ds.length (fM (fun j=> .int .i64 (cQ P.ds j).st) (.int .i64 0) P.ds.length k), .row g2 83 (Ws.cells fB)]) (fun k=>k≤P.ds.length) (fun k=>P.ds.length - k) 0 ?_ ?_ ?_ ?_
  ·omega
  ·exact (by repeat (first|exact Sub.nil|refine Sub.cons rfl ?_))
  ·exact Sx
  ·intro k hphi;refine eR ?_;refine T.cond rfl (fun h1=>?_) (fun h1=>?_)
   ·have p1:=h1; (try simp only [c7] at p1);obtain ⟨g,off,rfl,hc⟩:=hsl a5;have hk:=hc k a5;haveI:=(h.ds.at (k:=k) a5).one;simp only [Dx.cells] at hk;refine fH ?_;refine dp ?_;refine lG ?_; (refine cU (Wt.none) rfl rfl (Ew.alloc) ?_;rintro _ _ ⟨g5,rfl,rfl⟩);refine dp ?_; (refine dS (Wt.none) rfl (dF 0) ?_;rintro _ _ ⟨rfl,rfl⟩);refine TL.ns (T.region ?_);refine ez ?_;refine eX ?_;refine q0w ?_; (refine dS (Wt.none) rfl (fA 1 (fM (fun j=> .int .i64 (cQ P.ds j).st) (.int .i64 0) P.ds.length (k+1)) rfl rfl rfl rfl (by rw [zfc a5];omega) (zfp a5 a5)) ?_;rintro _ _ ⟨rfl,rfl⟩);refine l6 ?_;exact K.next (k+1) a5 a5 (by repeat (first|exact Sub.nil|refine Sub.cons rfl ?_)) Sx
   ·have p1:=h1; (try simp only [c7] at p1);refine fi ?_;exact K.at (by repeat (first|exact Sub.nil|refine Sub.cons rfl ?_)) (by rw [ziK (fun d:Dx=>d.st) (fun _=>rfl) (show k=P.ds.length by omega)];exact Sx)
 ·skip;refine gh ?_; (refine cU (Wt.none) rfl rfl (cS rfl rfl rfl (fun w hw=>znS (P.ds.map (·.st)) _ w (lm (enc:=Ie) (fun _=>rfl) hw 0 rfl a8) cN (by intro x hx;obtain ⟨d,hd,rfl⟩:=List.mem_map.1 hx;exact hr d hd))) ?_;rintro _ _ ⟨rfl,rfl⟩);refine fF ?_; (refine cU (Wt.none) rfl rfl (Ew.alloc) ?_;rintro _ _ ⟨g6,rfl,rfl⟩); (refine dS (Wt.none) rfl (dF 0 rfl rfl rfl rfl (by rw [List.length_map,la]) (by rw [List.length_map,la];rfl)) ?_;rintro _ _ ⟨rfl,rfl⟩);refine gz ?_;refine cR (dY 0 rfl rfl rfl (by rw [List.length_map,la])) ?_; (refine dS (Wt.none) rfl (dF 2 rfl rfl rfl rfl (by rw [List.length_map,la]) (by rw [List.length_map,List.length_map,la];rfl)) ?_;rintro _ _ ⟨rfl,rfl⟩);refine fN ?_;exact kB 2 rfl rfl rfl (by rw [List.length_map,la]) (fun w' hw=>⟨rfl,hw.isBelow⟩)
theorem ziS (x:Pr)(ws:Ws)(hws:ws.length=8)(p:Nat)(w:World)(hp:Cs w p 0 ws.cells):Calls Tryz.prog 111 #[.agg (Pr.cells x).toArray, .pointer (some ⟨p,0,none⟩)] w fun e w'=>e= .returned (.bool (jD ws x.a&&jD ws x.b))∧Below w.heap.size w w':=by
 refine dy (M:=fun _=>False) (hs:=[]) Tryz.func111 rfl rfl rfl (Hp.refl _ _) ?_;simp only [Pr.cells];refine dm ?_; (refine cU (Wt.none) rfl rfl (dM) ?_;rintro _ _ ⟨g2,rfl,rfl⟩);refine q22 ?_; (refine cU (Wt.none) rfl rfl (cS rfl rfl rfl (fun w hw=>zgr ws hws _ w)) ?_;rintro _ _ ⟨rfl,rfl⟩);refine dp ?_;refine dw rfl rfl rfl (fun h1=>?_) (fun h1=>?_)
 ·have p1:=h1; (try simp only [c7] at p1);refine db (Wt.some rfl rfl rfl h1) rfl rfl (ie rfl rfl hp (by rw [List.length_map,hws]) (fun h=>h)) ?_;refine q0H ?_; (refine cU (Wt.some rfl rfl rfl h1) rfl rfl (cS rfl rfl rfl (fun w hw=>zgr ws hws _ w)) ?_;rintro _ _ ⟨rfl,rfl⟩);refine kF ?_;refine fm ?_;refine c8 rfl rfl (fun w' hw=>⟨?_,hw.isBelow⟩);exact q4p
 ·have p1:=h1; (try simp only [c7] at p1);refine j6 ?_;refine j6 ?_;refine q2T ?_;refine fm ?_;refine c8 rfl rfl (fun w' hw=>⟨?_,hw.isBelow⟩);exact q4p
theorem zi6 (x:Ld)(ws:Ws)(hws:ws.length=8)(p:Nat)(w:World)(hp:Cs w p 0 ws.cells):Calls Tryz.prog 113 #[.agg (Ld.cells x).toArray, .pointer (some ⟨p,0,none⟩)] w fun e w'=>e= .returned (.bool (jD ws x.to&&jD ws x.fr))∧Below w.heap.size w w':=by
 refine dy (M:=fun _=>False) (hs:=[]) Tryz.func113 rfl rfl rfl (Hp.refl _ _) ?_;simp only [Ld.cells];refine dm ?_; (refine cU (Wt.none) rfl rfl (dM) ?_;rintro _ _ ⟨g2,rfl,rfl⟩);refine q22 ?_; (refine cU (Wt.none) rfl rfl (cS rfl rfl rfl (fun w hw=>zgr ws hws _ w)) ?_;rintro _ _ ⟨rfl,rfl⟩);refine dp ?_;refine dw rfl rfl rfl (fun h1=>?_) (fun h1=>?_)
 ·have p1:=h1; (try simp only [c7] at p1);refine db (Wt.some rfl rfl rfl h1) rfl rfl (ie rfl rfl hp (by rw [List.length_map,hws]) (fun h=>h)) ?_;refine q0H ?_; (refine cU (Wt.some rfl rfl rfl h1) rfl rfl (cS rfl rfl rfl (fun w hw=>zgr ws hws _ w)) ?_;rintro _ _ ⟨rfl,rfl⟩);refine kF ?_;refine fm ?_;refine c8 rfl rfl (fun w' hw=>⟨?_,hw.isBelow⟩);exact q4p
 ·have p1:=h1; (try simp only [c7] at p1);refine j6 ?_;refine j6 ?_;refine q2T ?_;refine fm ?_;refine c8 rfl rfl (fun w' hw=>⟨?_,hw.isBelow⟩);exact q4p
theorem zi8 (x:Cp)(ws:Ws)(hws:ws.length=8)(p:Nat)(w:World)(hp:Cs w p 0 ws.cells):Calls Tryz.prog 115 #[.agg (Cp.cells x).toArray, .pointer (some ⟨p,0,none⟩)] w fun e w'=>e= .returned (.bool (jD ws x.st))∧Below w.heap.size w w':=by
 refine dy (M:=fun _=>False) (hs:=[]) Tryz.func115 rfl rfl rfl (Hp.refl _ _) ?_;simp only [Cp.cells];refine dm ?_; (refine cU (Wt.none) rfl rfl (dM) ?_;rintro _ _ ⟨g2,rfl,rfl⟩);refine q22 ?_; (refine cU (Wt.none) rfl rfl (cS rfl rfl rfl (fun w hw=>zgr ws hws _ w)) ?_;rintro _ _ ⟨rfl,rfl⟩);refine fm ?_;refine c8 rfl rfl (fun w' hw=>⟨?_,hw.isBelow⟩);exact q4p
theorem zgd (P:Pb)(vd vp vl vc:Value)(w:World)(h:ProbAt w vd vp vl vc P):Calls Tryz.prog 72 #[.agg [vd,vp,vl,vc].toArray] w fun e w'=>e= .returned (.bool P.ok)∧Below w.heap.size w w':=by
 obtain ⟨A,cap,rfl,hsl⟩:=h.ds.sl.op;obtain ⟨A1,cap1,rfl, -⟩:=h.ru.ps.op;obtain ⟨A2,cap2,rfl, -⟩:=h.ru.ls.op;obtain ⟨A3,cap3,rfl, -⟩:=h.ru.cs.op;refine dy (M:=fun _=>False) (hs:=[]) Tryz.func72 rfl rfl rfl (Hp.refl _ _) ?_;refine dm ?_; (refine cU (Wt.none) rfl rfl (dM) ?_;rintro _ _ ⟨g1,rfl,rfl⟩);refine i2 ?_;refine eX ?_; (refine cU (Wt.none) rfl rfl (cS rfl rfl rfl (fun w hw=>zlX (q:=Dx.ok) P.ds _ 104 #[] w (h.ds.sl.kept hw) (fun k hk=>(h.ds.at hk).one) (fun k hk w1 hb=>zgU _ w1 (((h.ds.at hk).kept hw).kept (gM hb)) (h.hch _ (i0 hk))) h.hds)) ?_;rintro _ _ ⟨rfl,rfl⟩);refine ez ?_;refine dw rfl rfl rfl (fun h1=>?_) (fun h1=>?_)
 ·have p1:=h1; (try simp only [c7] at p1);refine j6 ?_;refine j6 ?_;refine kF ?_;refine lO ?_;refine hD ?_;refine c8 rfl rfl (fun w' hw=>⟨?_,hw.isBelow⟩);exact q4e
 ·have p1:=h1; (try simp only [c7] at p1);refine db (Wt.some rfl rfl rfl h1) rfl rfl (Yv.fieldAddr) ?_;refine db (Wt.some rfl rfl rfl h1) rfl rfl (Yv.bR 0 (m:=[.slice A1 P.ps.length cap1, .slice A2 P.ls.length cap2, .slice A3 P.cs.length cap3]) rfl rfl rfl rfl rfl) ?_; (refine cU (Wt.some rfl rfl rfl h1) rfl rfl (cS rfl rfl rfl (fun w hw=>zgV P _ _ _ w (h.ru.kept hw))) ?_;rintro _ _ ⟨rfl,rfl⟩);refine jM ?_;refine q2T ?_;refine TL.ns ?_;refine T.cond rfl (fun h2=>?_) (fun h2=>?_)
  ·have p2:=h2; (try simp only [c7] at p2);refine hD ?_;refine c8 rfl rfl (fun w' hw=>⟨?_,hw.isBelow⟩);exact q4e
  ·have p2:=h2; (try simp only [c7] at p2);refine gW ?_;refine i2 ?_;refine eX ?_;refine dp ?_; (refine cU (Wt.none) rfl rfl (cS rfl rfl rfl (fun w hw=>zhA (c:=fun a b=>ej a.st b.st) P.ds _ 106 w (h.ds.sl.kept hw) (fun k hk=>(h.ds.at hk).one) (fun x y hx hy w1=>zhv x y hx hy w1) h.hds)) ?_;rintro _ _ ⟨rfl,rfl⟩);refine dL ?_;refine T.cond rfl (fun h3=>?_) (fun h3=>?_)
   ·have p3:=h3; (try simp only [c7] at p3);refine hD ?_;refine c8 rfl rfl (fun w' hw=>⟨?_,hw.isBelow⟩);exact q4e
   ·have p3:=h3; (try simp only [c7] at p3);refine gW ?_;refine iu ?_; (have hall:fZ Dx.ok P.ds=true:=by assumption); (have hinc:f9 (fun a b:Dx=>ej a.st b.st) P.ds=true:=by assumption); (have hst:∀d∈P.ds,0≤d.st∧d.st≤511:=fun d hd=>by have:=eA.1 hall d hd;simp only [Dx.ok,inB,Bool.and_eq_true,decide_eq_true_eq] at this;exact this.1); (refine cU (Wt.none) rfl rfl (cS rfl rfl rfl (fun w hw=>zji P _ _ _ _ w (h.kept hw) (zkl hinc hall) hst)) ?_;rintro _ _ ⟨rfl,rfl⟩); (refine cU (Wt.none) rfl rfl (Ew.alloc) ?_;rintro _ _ ⟨g4,rfl,rfl⟩); (refine dS (Wt.none) rfl (dF 0 rfl rfl rfl rfl (by rw [List.length_map,la]) (by rw [List.length_map,la];rfl)) ?_;rintro _ _ ⟨rfl,rfl⟩);refine dR ?_;refine fy ?_;refine j5 ?_;refine dp ?_; (refine cU (Wt.none) rfl rfl (cS rfl rfl rfl (fun w hw=>zk5 (q:=fun x:Pr=>P.has x.a&&P.has x.b) P.ps _ 111 #[.pointer (some ⟨g4,0,none⟩)] w (h.ru.ps.kept hw) (fun k hk w1 hb=>ziS _ _ (la _) _ w1 (Cs.later hb (fv (c9.1 (hw.get (i:=0) rfl)) cM))) h.ru.hps)) ?_;rintro _ _ ⟨rfl,rfl⟩);refine dp ?_;refine dw rfl rfl rfl (fun h4=>?_) (fun h4=>?_)
    ·have p4:=h4; (try simp only [c7] at p4);refine db (Wt.some rfl rfl rfl h4) rfl rfl (Yv.fieldAddr) ?_;refine db (Wt.some rfl rfl rfl h4) rfl rfl (Yv.fieldAddr) ?_;refine db (Wt.some rfl rfl rfl h4) rfl rfl (da 1) ?_;refine db (Wt.some rfl rfl rfl h4) rfl rfl (ei) ?_; (refine cU (Wt.some rfl rfl rfl h4) rfl rfl (cS rfl rfl rfl (fun w hw=>zli (q:=fun x:Ld=>P.has x.to&&P.has x.fr) P.ls _ 113 #[.pointer (some ⟨g4,0,none⟩)] w (h.ru.ls.kept hw) (fun k hk w1 hb=>zi6 _ _ (la _) _ w1 (Cs.later hb (fv (c9.1 (hw.get (i:=0) rfl)) cM))) h.ru.hls)) ?_;rintro _ _ ⟨rfl,rfl⟩);refine cR (eT rfl rfl h4) ?_;refine dp ?_;refine dw rfl rfl rfl (fun h5=>?_) (fun h5=>?_)
     ·have p5:=h5; (try simp only [c7] at p5);refine db (Wt.some rfl rfl rfl h5) rfl rfl (Yv.fieldAddr) ?_;refine db (Wt.some rfl rfl rfl h5) rfl rfl (Yv.fieldAddr) ?_;refine db (Wt.some rfl rfl rfl h5) rfl rfl (da 1) ?_;refine db (Wt.some rfl rfl rfl h5) rfl rfl (ei) ?_; (refine cU (Wt.some rfl rfl rfl h5) rfl rfl (cS rfl rfl rfl (fun w hw=>zkQ (q:=fun x:Cp=>P.has x.st) P.cs _ 115 #[.pointer (some ⟨g4,0,none⟩)] w (h.ru.cs.kept hw) (fun k hk w1 hb=>zi8 _ _ (la _) _ w1 (Cs.later hb (fv (c9.1 (hw.get (i:=0) rfl)) cM))) h.ru.hcs)) ?_;rintro _ _ ⟨rfl,rfl⟩);refine cR (eT rfl rfl h5) ?_;refine fm ?_;refine c8 rfl rfl (fun w' hw=>⟨?_,hw.isBelow⟩);exact q4e
     ·have p5:=h5; (try simp only [c7] at p5);refine q1E ?_;refine q1E ?_;refine TL.off (Wt.not rfl rfl rfl h5) rfl rfl ?_;refine cR (eB rfl rfl h5) ?_;refine fm ?_;refine c8 rfl rfl (fun w' hw=>⟨?_,hw.isBelow⟩);exact q4e
    ·have p4:=h4; (try simp only [c7] at p4);refine q2e ?_;refine TL.run 8 rfl ?_;refine fN ?_;refine c8 rfl rfl (fun w' hw=>⟨?_,hw.isBelow⟩);exact q4e
def jJ (l:List Int):BitVec 64:=l.foldl (fun m c=>m ||| 1#64 <<< c.toNat) 0#64
theorem ziL {l:List Int}{k:Nat}(h:k<l.length):jJ (l.take (k+1))=(jJ (l.take k) ||| 1#64 <<< (cQ l k).toNat):=by
 unfold jJ;rw [List.take_succ_eq_append_getElem h,eh h,List.foldl_append];rfl
def pop1 (a:BitVec 64):BitVec 64:=((a >>> 1) &&& 6148914691236517205#64)+(a &&& 6148914691236517205#64)
def pop2 (a:BitVec 64):BitVec 64:=((a >>> 2) &&& 3689348814741910323#64)+(a &&& 3689348814741910323#64)
def pop3 (a:BitVec 64):BitVec 64:=((a >>> 4)+a) &&& 1085102592571150095#64
def pop4 (k:Nat)(a:BitVec 64):BitVec 64:=a+(a >>> k)
def zk9 (a:BitVec 64):Nat:=(pop4 32 (pop4 16 (pop4 8 (pop3 (pop2 (pop1 a))))) &&& 127#64).toNat
theorem zjw (a:BitVec 64):zk9 a≤127:=by
 unfold zk9;rw [BitVec.toNat_and];exact Nat.and_le_right
theorem zjS (b:BitVec 64):BitVec.ofInt 64 (IntKind.i64.wrap (b.toNat:Int))=b:=by
 apply BitVec.eq_of_toNat_eq;rw [BitVec.toNat_ofInt,IntKind.wrap_i64];have:=b.isLt;omega
section
variable {P:Program}{n:Nat}{B D:World}{M:Nat→Prop}{fs:dW}{hs:HS}{o:Oper}{v:Value}
theorem Yv.cw {x:Operand}{a:BitVec 64}(ho:o.op= .convert 80 3 x)(hx:ev fs x=some (U a)):Yv Tryz.prog n B M fs hs o (.int .i64 (IntKind.i64.wrap (a.toNat:Int))):=fun f w ha _=>by
 (have hr:(convert 80 3 (U a)).run Tryz.prog w= .ok (.int .i64 (IntKind.i64.wrap (a.toNat:Int))) w:=by kernel_rfl);unfold execOp;simp only [ho,ha.ev hx];rw [Sem.run_bind,hr]
 rfl
theorem mc {x:Operand}{t u:TypeId}{a:BitVec 64}(ho:o.op= .binOp .and t x (.const (.int .i64 127)) u)(hx:ev fs x=some (.int .i64 (IntKind.i64.wrap (a.toNat:Int)))):Yv P n B M fs hs o (.int .i64 ((a &&& 127#64).toNat:Int)):=fun f w ha _=>by
 have hr:(binOp .and t (.int .i64 (IntKind.i64.wrap (a.toNat:Int))) (.int .i64 127)).run P w= .ok (.int .i64 ((a &&& 127#64).toNat:Int)) w:=by
  have e:(binOp .and t (.int .i64 (IntKind.i64.wrap (a.toNat:Int))) (.int .i64 127)).run P w= .ok (.int .i64 (IntKind.i64.wrap ((BitVec.ofInt 64 (IntKind.i64.wrap (a.toNat:Int)) &&& BitVec.ofInt 64 127).toNat:Int))) w:=rfl; (have hle:(a &&& 127#64).toNat≤127:=by rw [BitVec.toNat_and];exact Nat.and_le_right);rw [e,zjS,show BitVec.ofInt 64 127=127#64 from rfl,IntWalk.i64_in _ ⟨by omega,by omega⟩]
 unfold execOp;simp only [ho,ha.ev hx,ha.ev (x:= .const (.int .i64 127)) rfl];rw [Sem.run_bind,Sem.run_bind,show (eqGuard .and t x (.const (.int .i64 127)) (.int .i64 (IntKind.i64.wrap (a.toNat:Int))) (.int .i64 127)).run P w= .ok () w from rfl];simp only [Result.andThen,hr]
 rfl
end
theorem zlz (a:BitVec 64)(w:World):Calls Tryz.prog 176 #[U a] w fun e w'=>e= .returned (.int .i64 (zk9 a:Int))∧Below w.heap.size w w':=by
 refine dy (M:=fun _=>False) (hs:=[]) Tryz.func176 rfl rfl rfl (Hp.refl _ _) ?_;refine mD ?_;refine cR (fW 1 rfl rfl rfl rfl a6) ?_;refine cR (gm (b:=6148914691236517205#64)) ?_;refine dp ?_;refine cR (gm (b:=6148914691236517205#64)) ?_;refine cR (jT) ?_;refine kH ?_;refine cR (fW 2 rfl rfl rfl rfl a6) ?_;refine cR (gm (b:=3689348814741910323#64)) ?_;refine dp ?_;refine cR (gm (b:=3689348814741910323#64)) ?_;refine cR (jT) ?_;refine kH ?_;refine cR (fW 4 rfl rfl rfl rfl a6) ?_;refine dp ?_;refine cR (jT) ?_;refine cR (gm (b:=1085102592571150095#64)) ?_;refine gz ?_;refine ez ?_;refine cR (fW 8 rfl rfl rfl rfl a6) ?_;refine cR (jT) ?_;refine gz ?_;refine ez ?_;refine cR (fW 16 rfl rfl rfl rfl a6) ?_;refine cR (jT) ?_;refine gz ?_;refine ez ?_;refine cR (fW 32 rfl rfl rfl rfl a6) ?_;refine cR (jT) ?_;refine kH ?_;refine cR (Yv.cw rfl rfl) ?_;refine cR (mc rfl rfl) ?_;refine fm ?_;refine c8 rfl rfl (fun w' hw=>⟨?_,hw.isBelow⟩)
 rfl
theorem zmv (a:BitVec 64)(ha:a≠0#64)(w:World)(ht:Tab w):Calls Tryz.prog 175 #[U a] w fun e w'=>e= .returned (.int .i64 (ctz a:Int))∧Below w.heap.size w w':=by
 obtain ⟨hi,htab⟩:=znY ha;have hcell:=ht _ hi;rw [htab] at hcell;have hlt:=ziw ha;refine dy (M:=fun _=>False) (hs:=[]) Tryz.func175 rfl rfl rfl (Hp.refl _ _) ?_;refine gh ?_;refine iM ?_;refine kz ?_;refine iU rfl (by rw [znj];exact decide_eq_false ha) ?_;refine gW ?_;refine ez ?_;refine cR (Yv.cD rfl rfl) ?_;refine cR (gm) ?_;refine cR (Yv.cC (b:=285870213051353865#64) rfl rfl rfl) ?_;refine cR (fW 58 rfl rfl rfl rfl a6) ?_;refine cR (ep rfl rfl rfl rfl a5) ?_;refine cR (dX rfl rfl (by rw [show ∀x:Nat,0+x*1=x from fun x=>by omega];exact hcell) (fun h=>h)) ?_;refine cR (Yv.cu rfl rfl (by first|exact IntWalk.i64_in _ a5|exact IntWalk.u64_in _ a5|exact IntWalk.u8_in _ a5)) ?_;refine fm ?_;refine c8 rfl rfl (fun w' hw=>⟨?_,hw.isBelow⟩)
 rfl
theorem zmm (l:List Int)(v:Value)(w:World)(h:zgv w v l)(hl:l.length≤9223372036854775807)(hr:∀x∈l,2≤x∧x≤51):Calls Tryz.prog 142 #[v] w fun e w'=>e= .returned (U (jJ l))∧Below w.heap.size w w':=by
 obtain ⟨A,cap,rfl,hsl⟩:=h.op;refine dy (M:=fun _=>False) (hs:=[]) Tryz.func142 rfl rfl rfl (Hp.refl _ _) ?_;refine mM ?_;refine l5 ?_;refine jH ?_;refine T.loop (ι:=Nat) (fun k=>[(3,U (jJ (l.take k))),(6, .slice A l.length cap),(7, .int .i64 (l.length:Int)),(8, .int .i64 (k:Int))]) (fun k=>[]) (fun k=>k≤l.length) (fun k=>l.length - k) 0 ?_ ?_ ?_ ?_
 ·omega
 ·exact (by repeat (first|exact Sub.nil|refine Sub.cons rfl ?_))
 ·exact Sx
 ·intro k hphi;refine eR ?_;refine T.cond rfl (fun h1=>?_) (fun h1=>?_)
  ·have p1:=h1; (try simp only [c7] at p1);obtain ⟨g,off,rfl,hc⟩:=hsl a5;have hk:=hc k a5;simp only [Ie] at hk;have hr1:=hr _ (i0 (xs:=l) (k:=k) a5);refine fH ?_;refine q1Z ?_;refine dp ?_;refine TL.ns (T.region ?_);refine ez ?_;refine cR (gG (a:=1#64) (cQ l k).toNat rfl rfl rfl a5 a5) ?_;refine cR (gg) ?_;refine mm ?_;exact K.next (k+1) a5 a5 (by rw [ziL a5];exact (by repeat (first|exact Sub.nil|refine Sub.cons rfl ?_))) Sx
  ·have p1:=h1; (try simp only [c7] at p1);refine q01 ?_;refine jP ?_;exact c8 rfl rfl (fun w' hw=>⟨by rw [List.take_of_length_le a5],hw.isBelow⟩)
def ks (ws:Ws)(k:Nat):Nat:=((ws.take k).map zk9).sum
theorem zix {ws:Ws}{k:Nat}(h:k<ws.length):ks ws (k+1)=ks ws k+zk9 (cQ ws k):=by
 unfold ks;rw [List.take_succ_eq_append_getElem h,eh h,List.map_append,List.sum_append];simp
theorem zi5 (ws:Ws):∀k,ks ws k≤127*k
 |0=>by simp [ks]
 |k+1=>by
  have:=zi5 ws k;rcases Nat.lt_or_ge k ws.length with h|h
  ·rw [zix h];have:=zjw (cQ ws k);omega
  ·unfold ks at *;rw [List.take_of_length_le a5] at *;omega
@[irreducible] def fo (ws:Ws) (i:Nat):List Nat:=(List.range' i (512 - i)).filter (eO ws)
abbrev fq (ws:Ws):List Nat:=fo ws 0
def zih:List Nat→Int
 | []=> -1
 |x :: _=>(x:Int)
theorem zgg {ws:Ws}{i:Nat}(h:∀j,i≤j→j<512→eO ws j=false):fo ws i=[]:=by
 unfold fo;rw [List.filter_eq_nil_iff];intro j hj;obtain ⟨h1,h2⟩:=List.mem_range'_1.1 hj;rw [h j h1 a5];simp
theorem zim {ws:Ws}{i r:Nat}(hi:i≤r)(hr:r<512)(hb:eO ws r=true)(h:∀j,i≤j→j<r→eO ws j=false):fo ws i=r :: fo ws (r+1):=by
 unfold fo
 have e:List.range' i (512 - i)=List.range' i (r - i)++(r :: List.range' (r+1) (512 - (r+1))):=by
  rw [show r :: List.range' (r+1) (512 - (r+1))=List.range' r (512 - r) from by rw [show 512 - r=(512 - (r+1))+1 by omega,List.range'_succ]];have:=List.range'_append (s:=i) (m:=r - i) (n:=512 - r) (step:=1);rw [Nat.one_mul,show i+(r - i)=r by omega,show r - i+(512 - r)=512 - i by omega] at this;exact this.symm
 rw [e,List.filter_append,List.filter_cons_of_pos (by simpa using hb)]
 have:(List.range' i (r - i)).filter (eO ws)=[]:=by
  rw [List.filter_eq_nil_iff];intro j hj;obtain ⟨h1,h2⟩:=List.mem_range'_1.1 hj;rw [h j h1 a5];simp
 rw [this];rfl
theorem fQ {ws:Ws}{i j:Nat}:j∈fo ws i↔i≤j∧j<512∧eO ws j=true:=by
 unfold fo;rw [List.mem_filter,List.mem_range'_1];constructor
 ·rintro ⟨⟨h1,h2⟩,h3⟩;exact ⟨h1,by omega,h3⟩
 ·rintro ⟨h1,h2,h3⟩;exact ⟨⟨h1,by omega⟩,h3⟩
theorem zkD {ws:Ws}{i h:Nat}{t:List Nat}(e:fo ws i=h :: t):i≤h∧h<512∧t=fo ws (h+1):=by
 have hm:=fQ.1 (show h∈fo ws i by rw [e];simp)
 have hs:fo ws i=h :: fo ws (h+1):=zim hm.1 hm.2.1 hm.2.2 (fun j h1 h2=>by
  cases hb:eO ws j with
  |false=>rfl
  |true=>
   have hj:j∈fo ws i:=fQ.2 ⟨h1,by omega,hb⟩; (have hsort:(fo ws i).Pairwise (· < ·):=by unfold fo;exact List.Pairwise.filter _ List.pairwise_lt_range');rw [e] at hj hsort;rcases List.mem_cons.1 hj with hj|hj
   ·omega
   ·have:=(List.pairwise_cons.1 hsort).1 j hj;omega)
 rw [e] at hs;exact ⟨hm.1,hm.2.1,(List.cons.inj hs).2⟩
theorem zf6 (ws:Ws)(i:Nat):(fo ws i).length≤512:=by
 unfold fo;have:=List.length_filter_le (eO ws) (List.range' i (512 - i));rw [List.length_range'] at this;omega
theorem zns (a:BitVec 64)(k j:Nat)(hj:j<64):((a >>> k) <<< k).getLsbD j=(a.getLsbD j&&decide (k≤j)):=by
 rw [BitVec.getLsbD_shiftLeft,BitVec.getLsbD_ushiftRight];by_cases h:j<k
 ·simp [h]
 ·rw [show k+(j - k)=j by omega];simp [hj,h];intro _;omega
structure NxInv (ws:Ws) (i at':Nat) (b:BitVec 64):Prop where
 lt:at'<8
 ge:i<64* (at'+1)
 bit:∀j,j<64→b.getLsbD j=(eO ws (64*at'+j)&&decide (i≤64*at'+j))
 none:∀j,i≤j→j<64*at'→eO ws j=false
theorem NxInv.start {ws:Ws}{i:Nat}(hi:i<512):NxInv ws i (i / 64) ((cQ ws (i / 64) >>> (i % 64)) <<< (i % 64)) where
 lt:=by omega
 ge:=by omega
 bit j hj:=by
  rw [zns _ _ _ hj];unfold eO;rw [show (64* (i / 64)+j) / 64=i / 64 by omega,show (64* (i / 64)+j) % 64=j by omega]
  congr 1
  exact decide_eq_decide.2 a5
 none j h1 h2:=by omega
theorem NxInv.next {ws:Ws}{i a:Nat}(h:NxInv ws i a 0#64)(ha:a+1<8):NxInv ws i (a+1) (cQ ws (a+1)) where
 lt:=ha
 ge:=by have:=h.ge;omega
 bit j hj:=by
  have:=h.ge;unfold eO;rw [show (64* (a+1)+j) / 64=a+1 by omega,show (64* (a+1)+j) % 64=j by omega,decide_eq_true a5,Bool.and_true]
 none j h1 h2:=by
  rcases Nat.lt_or_ge j (64*a) with hj|hj
  ·exact h.none j h1 hj
  ·have:=h.bit (j - 64*a) a5;rw [show 64*a+(j - 64*a)=j by omega,decide_eq_true h1,Bool.and_true,BitVec.getLsbD_zero] at this;exact this.symm
theorem NxInv.found {ws:Ws}{i a:Nat}{b:BitVec 64}(h:NxInv ws i a b)(hb:b≠0#64):fo ws i=(64*a+ctz b) :: fo ws (64*a+ctz b+1):=by
 have hc:=ziw hb;have h1:=(zgz hb 0).1;rw [h.bit _ hc] at h1;simp only [Bool.and_eq_true,decide_eq_true_eq] at h1;have:=h.lt;refine zim h1.2 a5 h1.1 (fun j hi hj=>?_);rcases Nat.lt_or_ge j (64*a) with hj2|hj2
 ·exact h.none j hi hj2
 ·have h2:=(zgz hb (j - 64*a)).2 a5;rw [h.bit _ a5,show 64*a+(j - 64*a)=j by omega,decide_eq_true hi,Bool.and_true] at h2;exact h2
theorem NxInv.over {ws:Ws}{i a:Nat}(h:NxInv ws i a 0#64)(ha:a+1=8):fo ws i=[]:=zgg fun j h1 h2=>by
 rcases Nat.lt_or_ge j (64*a) with hj2|hj2
 ·exact h.none j h1 hj2
 ·have h3:=h.bit (j - 64*a) a5;rw [show 64*a+(j - 64*a)=j by omega,decide_eq_true h1,Bool.and_true,BitVec.getLsbD_zero] at h3;exact h3.symm
theorem zik (ws:Ws):∀(k i:Nat),k<(fo ws i).length→fo ws (cQ (fo ws i) k+1)=(fo ws i).drop (k+1)
 |k,i,hk=>by
  cases e:fo ws i with
  |nil=>rw [e] at hk;simp at hk
  |cons h t=>
   obtain ⟨h1,h2,h3⟩:=zkD e
   cases k with
   |zero=>simp [cQ,h3]
   |succ k=>
    rw [e] at hk;subst h3;have:=zik ws k (h+1) (by simpa using hk);simpa [cQ] using this
theorem zha {xs:List Nat}{k:Nat}(h:k<xs.length):zih (xs.drop k)=((cQ xs k:Nat):Int):=by
 rw [List.drop_eq_getElem_cons h,eh h];rfl
theorem zkT {xs:List Nat}{k:Nat}(h:zih (xs.drop k)<0):xs.length≤k:=by
 rcases Nat.lt_or_ge k xs.length with hk|hk
 ·rw [zha hk] at h;omega
 ·exact hk
theorem zlm {xs:List Nat}{k:Nat}(h:0≤zih (xs.drop k)):k<xs.length:=by
 rcases Nat.lt_or_ge k xs.length with hk|hk
 ·exact hk
 ·rw [List.drop_eq_nil_of_le hk] at h;simp [zih] at h
theorem zmI {α:Type}[Inhabited α]{xs:List α}{k:Nat}(h:k<xs.length):xs[k]?=some (cQ xs k):=by rw [eh h];exact List.getElem?_eq_getElem h
theorem znr {α:Type}[Inhabited α]{xs:List α}{k:Nat}{x:α}(h:xs[k]?=some x):k<xs.length∧x=cQ xs k:=by
 obtain ⟨h1,h2⟩:=List.getElem?_eq_some_iff.1 h;exact ⟨h1,by rw [eh h1,h2]⟩
def jp (l:List Nat):List Value:=l.map fun j:Nat=> .int .i64 (j:Int)
theorem zkL {l:List Nat}{k:Nat}(h:k<l.length):jp (l.take (k+1))=jp (l.take k)++[.int .i64 ((cQ l k:Nat):Int)]:=by
 unfold jp;rw [List.take_succ_eq_append_getElem h,eh h,List.map_append];rfl
@[irreducible] def dG (m:BitVec 64):List Nat:=(List.range' 0 64).filter m.getLsbD
theorem zng (ws:Ws)(hws:ws.length=8)(w:World):Calls Tryz.prog 165 #[.agg ws.cells.toArray] w fun e w'=>e= .returned (.int .i64 (ks ws 8:Int))∧Below w.heap.size w w':=by
 refine dy (M:=fun _=>False) (hs:=[]) Tryz.func165 rfl rfl rfl (Hp.refl _ _) ?_;refine dm ?_; (refine cU (Wt.none) rfl rfl (dM) ?_;rintro _ _ ⟨g1,rfl,rfl⟩);refine gz ?_;refine i2 ?_;refine fy ?_;refine q2y ?_;refine dp ?_;refine TL.ns (T.block ?_);refine T.loop (ι:=Nat) (fun k=>[(3, .int .i64 (ks ws k:Int)),(7, .agg ws.cells.toArray),(8, .int .i64 (k:Int))]) (fun k=>[]) (fun k=>k≤8) (fun k=>8 - k) 0 ?_ ?_ ?_ ?_
 ·omega
 ·exact (by repeat (first|exact Sub.nil|refine Sub.cons rfl ?_))
 ·exact Sx
 ·intro k hphi;have hle:=zi5 ws k;refine eR ?_;refine T.cond rfl (fun h1=>?_) (fun h1=>?_)
  ·have p1:=h1; (try simp only [c7] at p1);have hld:=Ws.get (ws:=ws) (i:=k) (p:=k) a5 rfl;have hp8:=zjw (cQ ws k);refine fH ?_;refine cR (mQ rfl rfl rfl rfl a5 hld) ?_;refine dp ?_;refine TL.ns (T.region ?_);refine ez ?_; (refine cU (Wt.none) rfl rfl (cS rfl rfl rfl (fun w hw=>zlz _ w)) ?_;rintro _ _ ⟨rfl,rfl⟩);refine mv ?_;refine mm ?_;exact K.next (k+1) a5 a5 (by repeat (first|exact Sub.nil|refine Sub.cons rfl ?_|(refine fc rfl (by rw [zix a5];omega) ?_))) Sx
  ·have p1:=h1; (try simp only [c7] at p1);refine q01 ?_;refine jP ?_;exact c8 rfl rfl (fun w' hw=>⟨zcV (by rw [show k=8 by omega]),hw.isBelow⟩)
theorem znv (ws:Ws)(hws:ws.length=8)(i:Nat)(hi:i<512)(w:World):Calls Tryz.prog 168 #[.agg ws.cells.toArray, .int .i64 (i:Int)] w fun e w'=>e= .returned (.tuple #[.agg (Ws.cells (ef ws i)).toArray, .int .i64 0])∧Below w.heap.size w w':=by
 have hld:=Ws.get (ws:=ws) (i:=i / 64) (p:=0+0+i / 64*1) a5 a5;refine dy (M:=fun _=>False) (hs:=[]) Tryz.func168 rfl rfl rfl (Hp.refl _ _) ?_;refine dm ?_; (refine cU (Wt.none) rfl rfl (dM) ?_;rintro _ _ ⟨g2,rfl,rfl⟩); (refine cU (Wt.none) rfl rfl (Ew.alloc) ?_;rintro _ _ ⟨g4,rfl,rfl⟩);refine l5 ?_; (refine cU (Wt.none) rfl rfl (cS rfl rfl rfl (fun w hw=>zeY _ _)) ?_;rintro _ _ ⟨rfl,rfl⟩);refine dL ?_;refine iU rfl (by rw [inB,decide_eq_true (show (0:Int)≤(i:Int) by omega),decide_eq_true (show (i:Int)≤511 by omega)];rfl) ?_;refine iK ?_;refine d8 (sN 0 4 (sN 5 3 (.still 9 (.eff 4 (.still 8 (.still 10 (.eff 11 .done))))))) [.row g4 83 (Ws.cells fB)] a7 Sx ?_;refine gj ?_;refine cZ rfl (jf rfl rfl rfl a5) ?_;refine iN ?_;refine cZ rfl (ep rfl rfl rfl (show (i:Int) / 64=((i / 64:Nat):Int) from by omega) a5) ?_;refine gj ?_;refine cZ rfl (iX rfl rfl rfl a5) ?_;refine cZ rfl (gG (a:=1#64) (i % 64) rfl rfl rfl a5 a5) ?_;refine lk ?_;refine eP rfl (Wt.none) rfl rfl (da 1 rfl rfl rfl hld) Sx ?_;refine cZ rfl (gg) ?_;refine cZ rfl (ep rfl rfl rfl (show (i:Int) / 64=((i / 64:Nat):Int) from by omega) a5) ?_;refine dQ ?_; (refine dP rfl (Wt.none) rfl (hJ 1 (Ws.cells (ef ws i)) rfl rfl rfl rfl (by rw [List.length_map,hws];omega) (Ws.put a5)) ?_;rintro _ _ ⟨rfl,rfl⟩;refine ⟨Sx,?_⟩);refine ir ?_;refine K.seq (dm ?_);refine cR (dY 1 rfl rfl rfl (by rw [List.length_map,kZ,hws])) ?_; (refine dS (Wt.none) rfl (dF 0 rfl rfl rfl rfl (by rw [List.length_map,kZ,hws]) (by rw [List.length_map,kZ,hws];rfl)) ?_;rintro _ _ ⟨rfl,rfl⟩);refine fm ?_;exact fO 0 rfl rfl rfl rfl (by rw [List.length_map,kZ,hws]) (fun w' hw=>⟨rfl,hw.isBelow⟩)
theorem zju (ws:Ws)(hws:ws.length=8)(i:Nat)(z:Int)(hz:z=(i:Int))(w:World)(ht:Tab w):Calls Tryz.prog 179 #[.agg ws.cells.toArray, .int .i64 z] w fun e w'=>e= .returned (.int .i64 (zih (fo ws i)))∧Below w.heap.size w w':=by
 subst hz;refine dy (M:=fun _=>False) (hs:=[]) Tryz.func179 rfl rfl rfl (Hp.refl _ _) ?_;refine dm ?_; (refine cU (Wt.none) rfl rfl (dM) ?_;rintro _ _ ⟨g2,rfl,rfl⟩);refine i2 ?_;refine kz ?_;refine iU rfl (decide_eq_false a5) ?_;refine ke ?_;refine kz ?_;refine T.cond rfl (fun h1=>?_) (fun h1=>?_)
 ·have p1:=h1; (try simp only [c7] at p1);refine hD ?_;exact c8 rfl rfl (fun w' hw=>⟨zcV (by rw [zgg (fun j h1 h2=>by omega)];rfl),hw.isBelow⟩)
 ·have p1:=h1; (try simp only [c7] at p1);have hld:=Ws.get (ws:=ws) (i:=i / 64) (p:=0+0+i / 64*1) a5 a5;refine gW ?_;refine dp ?_;refine cR (jf rfl rfl rfl a5) ?_;refine kH ?_;refine fy ?_;refine cR (ep rfl rfl rfl (show (i:Int) / 64=((i / 64:Nat):Int) from by omega) a5) ?_;refine cR (da 0 rfl rfl rfl hld) ?_;refine dp ?_;refine cR (iX rfl rfl rfl a5) ?_;refine cR (fW (i % 64) rfl rfl rfl a5 a5) ?_;refine dp ?_;refine cR (iX rfl rfl rfl a5) ?_;refine cR (gG (i % 64) rfl rfl rfl a5 a5) ?_;refine dp ?_;refine TL.ns (T.seq (T.block ?_));refine T.loop (ι:=Nat×BitVec 64) (fun x=>[(2, .pointer (some ⟨g2,0,none⟩)),(5, .int .i64 (x.1:Int)),(6,U x.2)]) (fun x=>[.row g2 83 ws.cells]) (fun x=>NxInv ws i x.1 x.2) (fun x=>8 - x.1) (i / 64,(cQ ws (i / 64) >>> (i % 64)) <<< (i % 64)) ?_ ?_ ?_ ?_
  ·exact NxInv.start a5
  ·exact (by repeat (first|exact Sub.nil|refine Sub.cons rfl ?_|(refine fc rfl a5 ?_)))
  ·exact Sx
  ·intro x hphi;obtain ⟨a,b⟩:=x;dsimp only at hphi ⊢;have hlt0:=hphi.lt;refine jS ?_;refine TL.ns ?_;refine T.cond rfl (fun h2=>?_) (fun h2=>?_)
   ·have p2:=h2; (try simp only [c7] at p2); (have hb0:b=0#64:=by rw [znj] at h2;exact of_decide_eq_true h2);subst hb0;refine T.skip (K.seq (T.block (dm ?_)));refine dp ?_;refine mv ?_;refine i2 ?_;refine kz ?_;refine T.cond rfl (fun h3=>?_) (fun h3=>?_)
    ·have p3:=h3; (try simp only [c7] at p3);refine gh ?_;refine TL.ns (T.ret (cV (ff (cV (ff (cV ?_))))));exact c8 rfl rfl (fun w' hw=>⟨zcV (by rw [hphi.over a5];rfl),hw.isBelow⟩)
    ·have p3:=h3; (try simp only [c7] at p3);have hlt8:=hphi.lt;have hld:=Ws.get (ws:=ws) (i:=a+1) (p:=0+0+(a+1) *1) a5 a5;refine T.skip (K.seq (T.region ?_));refine dp ?_;refine fy ?_;refine cR (ep rfl rfl rfl (show (a:Int)+1=((a+1:Nat):Int) from by omega) a5) ?_;refine cR (da 0 rfl rfl rfl hld) ?_;refine dp ?_;refine TL.nil (fI ?_);exact K.next (a+1,cQ ws (a+1)) (hphi.next a5) (by show 8 - (a+1)<8 - a;omega) (by repeat (first|exact Sub.nil|refine Sub.cons rfl ?_|(refine fc rfl a5 ?_))) Sx
   ·have p2:=h2; (try simp only [c7] at p2); (have hb0:b≠0#64:=by rw [znj] at h2;exact of_decide_eq_false h2);have hcz:=ziw hb0;have hlt8:=hphi.lt;refine q01 ?_;refine dp ?_;refine cR (jX rfl rfl rfl a5) ?_;refine dp ?_; (refine cU (Wt.none) rfl rfl (cS rfl rfl rfl (fun w hw=>zmv b hb0 w (ht.keptF hw))) ?_;rintro _ _ ⟨rfl,rfl⟩);refine mv ?_;refine fm ?_;exact c8 rfl rfl (fun w' hw=>⟨zcV (by rw [hphi.found hb0];simp only [zih];omega),hw.isBelow⟩)
theorem znt (ws:Ws)(hws:ws.length=8)(w:World)(ht:Tab w):Calls Tryz.prog 178 #[.agg ws.cells.toArray] w fun e w'=>e= .returned (.int .i64 (zih (fq ws)))∧Below w.heap.size w w':=by
 refine dy (M:=fun _=>False) (hs:=[]) Tryz.func178 rfl rfl rfl (Hp.refl _ _) ?_;refine dm ?_; (refine cU (Wt.none) rfl rfl (dM) ?_;rintro _ _ ⟨g1,rfl,rfl⟩);refine gz ?_;refine q2y ?_; (refine cU (Wt.none) rfl rfl (cS rfl rfl rfl (fun w hw=>zju ws hws 0 0 rfl w (ht.keptF hw))) ?_;rintro _ _ ⟨rfl,rfl⟩);refine fm ?_;refine c8 rfl rfl (fun w' hw=>⟨?_,hw.isBelow⟩)
 rfl
theorem zm5 (ws:Ws)(hws:ws.length=8)(w:World):Calls Tryz.prog 166 #[.agg ws.cells.toArray] w fun e w'=>∃x:Nat,True∧e= .returned (.func (.func 177) #[] #[.pointer (some ⟨x,0,none⟩)])∧Hp w (fun _=>False) [.row x 83 ws.cells] w':=by
 refine dy (M:=fun _=>False) (hs:=[]) Tryz.func166 rfl rfl rfl (Hp.refl _ _) ?_;refine dm ?_; (refine cU (Wt.none) rfl rfl (dM) ?_;rintro _ _ ⟨g1,rfl,rfl⟩);refine gz ?_;refine jP ?_;exact c8 rfl rfl (fun w' hw=>⟨g1,trivial,rfl,hw⟩)
theorem zl1 (ws:Ws)(hws:ws.length=8)(p:Nat)(B:World)(M:Nat→Prop)(ht:Tab B)(hM0:¬M 0):IterAt Tryz.prog 177 [.pointer (some ⟨p,0,none⟩)] (fun j:Nat=>[.int .i64 (j:Int)]) (fq ws) [.row p 83 ws.cells] B M:=by
 intro G Z l W g0 hy hG0 hW;refine zjl (B:=B) (M:=M) Tryz.func177 rfl rfl rfl hW ?_;refine dm ?_;refine q2y ?_; (refine cU (Wt.none) rfl rfl (cS rfl rfl rfl (fun w hw=>znt ws hws w (ht.kept hw hM0))) ?_;rintro _ _ ⟨rfl,rfl⟩);refine dp ?_;refine TL.ns (T.block ?_);refine T.loop (ι:=Nat×HS) (fun x=>[(0, .func (.yield l) #[] #[]),(1, .pointer (some ⟨p,0,none⟩)),(3, .int .i64 (zih ((fq ws).drop x.1)))]) (fun x=>[.row p 83 ws.cells]++x.2) (fun x=>x.1≤(fq ws).length∧G x.1 x.2) (fun x=>(fq ws).length - x.1) (0,g0) ?_ ?_ ?_ ?_
 ·exact ⟨by simp,hG0⟩
 ·exact (by repeat (first|exact Sub.nil|refine Sub.cons rfl ?_))
 ·exact fx
 ·intro x hphi;obtain ⟨k,g⟩:=x;dsimp only at hphi ⊢;obtain ⟨hkn,hG⟩:=hphi;refine jS ?_;refine TL.ns ?_;refine T.cond rfl (fun h1=>?_) (fun h1=>?_)
  ·have p1:=h1; (try simp only [c7] at p1);have hk:=zlm p1;have h512:cQ (fq ws) k<512:=(fQ.1 (i0 hk)).2.1;rw [zha hk];refine fH ?_;refine ez ?_;refine TL.ci (Wt.none) rfl rfl rfl rfl rfl hy (zmI hk) hG (enc:=fun j:Nat=>[.int .i64 (j:Int)]) (x:=cQ (fq ws) k) (i:=k) ?_ ?_
   ·intro g' hG';refine dL ?_;refine iU rfl rfl ?_;refine q0A ?_;refine q2y ?_;refine dp ?_;refine mv ?_; (refine cU (Wt.none) rfl rfl (cS rfl rfl rfl (fun w hw=>zju ws hws (cQ (fq ws) k+1) _ a5 w (ht.kept hw hM0))) ?_;rintro _ _ ⟨rfl,rfl⟩);refine dp ?_;refine TL.nil ?_;exact K.next (k+1,g') ⟨by dsimp only;omega,hG'⟩ (by dsimp only;omega) (by rw [←zik ws k 0 hk];exact (by repeat (first|exact Sub.nil|refine Sub.cons rfl ?_))) (List.Sublist.refl _)
   ·intro z hZ;refine dL ?_;refine lq rfl rfl ?_;refine T.ret (ff (cV (cV (ff ?_))));exact K.cr rfl (fun w' hw hkp=>⟨⟨_,rfl⟩,hkp, .inr ⟨z,hZ,hw⟩⟩)
  ·have p1:=h1; (try simp only [c7] at p1);have hk:=zkT p1;refine fi ?_;exact K.ct rfl (fun w' hw hkp=>⟨⟨_,rfl⟩,hkp, .inl ⟨g,by rw [show (fq ws).length=k from by omega];exact hG,hw⟩⟩)
theorem zjM (ws:Ws)(hws:ws.length=8)(w:World)(ht:Tab w):Calls Tryz.prog 156 #[.agg ws.cells.toArray] w fun e w'=>∃v:Value,True∧e= .returned v∧Hp w (fun _=>False) [.sl v 3 1 (fq ws).length (jp (fq ws))] w':=by
 have hsl8:=zi5 ws 8;have hml:=zf6 ws 0;refine dy (M:=fun _=>False) (hs:=[]) Tryz.func156 rfl rfl rfl (Hp.refl _ _) ?_;refine dm ?_; (refine cU (Wt.none) rfl rfl (dM) ?_;rintro _ _ ⟨g1,rfl,rfl⟩);refine gz ?_;refine q2y ?_; (refine cU (Wt.none) rfl rfl (cS rfl rfl rfl (fun w hw=>zng ws hws w)) ?_;rintro _ _ ⟨rfl,rfl⟩); (refine cU (Wt.none) rfl rfl (Ew.bJ rfl rfl rfl rfl a5 a5) ?_;rintro _ _ ⟨g7,rfl,rfl⟩); (refine cU (Wt.none) rfl rfl (Ew.alloc) ?_;rintro _ _ ⟨g3,rfl,rfl⟩); (refine dS (Wt.none) rfl (ey 0 rfl rfl rfl rfl a6) ?_;rintro _ _ ⟨rfl,rfl⟩);refine iM ?_;refine cR (dY 2 rfl rfl rfl (by rw [List.length_map,hws])) ?_; (refine cU (Wt.none) rfl rfl (jr rfl rfl rfl (fun w hw=>zm5 ws hws _)) ?_;rintro _ _ ⟨b9, -,rfl,rfl⟩);refine eS ?_;refine TL.ns (T.block ?_);refine T.bI (α:=Nat) ((fun j:Nat=>[.int .i64 (j:Int)])) (fq ws) ([.row b9 83 ws.cells]) (fun i g=>∃v,g=[.row g3 30 [v], .sl v 3 1 i (jp ((fq ws).take i))]) (fun _ _=>False) (fun x=>[(3, .pointer (some ⟨g3,0,none⟩)),(4, .int .i64 (x:Int))]) (_) (⟨_,rfl⟩) rfl (zl1 ws hws b9 _ _ ht (fun h=>h)) a6 (fun _=>rfl) (by exact Sx) ?_ ?_ ?_ ?_
 ·intro l i x X D g hx;refine fk ?_;refine TL.nil ?_;exact K.at (by repeat (first|exact Sub.nil|refine Sub.cons rfl ?_)) (List.Sublist.refl _)
 ·intro l i x X D g hx hG;obtain ⟨v,rfl⟩:=hG;obtain ⟨hi,rfl⟩:=znr hx;have hi2:i<(fo ws 0).length:=hi;refine eS ?_;refine T.block (T.region ?_);refine cR (da 1) ?_;refine dp ?_; (refine cU (Wt.none) rfl rfl (Ew.buildSlice rfl rfl rfl a6) ?_;rintro _ _ ⟨g13,rfl,rfl⟩); (refine cU (Wt.none) rfl rfl (Ew.append 3 0 rfl rfl rfl rfl rfl rfl a5 a5) ?_;rintro v14 _ ⟨hv14,rfl⟩); (refine dS (Wt.none) rfl (ey 2 rfl rfl rfl rfl b8) ?_;rintro _ _ ⟨rfl,rfl⟩);refine TL.nil (fI ?_);exact K.round _ ⟨_,rfl,v14,rfl⟩ (by rw [zkL hi];exact Sx)
 ·intro g hG;obtain ⟨v,rfl⟩:=hG;refine eS ?_;rw [List.take_length];refine fI (K.seq (dm ?_));refine cR (da 1) ?_;refine fm ?_;exact c8 rfl rfl (fun w' hw=>⟨_,trivial,rfl,hw.sub Sx⟩)
 ·intro c y hz;exact hz.elim
theorem iJ {w:World}{v:Value}{e:TypeId}{size k:Nat}{l:List Value}(h:(Ent.sl v e size k l).ok w):OneC v:=by
 rcases (c6.1 h).2 with ⟨rfl,_⟩|⟨g,cap,cur,rfl,_⟩ <;> exact inferInstance
structure Tb where
 st:List Int
 ix:Nat→Int
 total:Int
 vps:List Value
 ps:Nat→List Pr
 vcs:List Value
 cs:Nat→List Cp
 vin:List Value
 inn:Nat→List Ld
 vout:List Value
 out:Nat→List Ld
abbrev Tb.n (T:Tb):Nat:=T.st.length
structure Lists {α:Type} (w:World) (p:Addr) (enc:α→List Value) (size:Nat) (vs:List Value) (n:Nat) (f:Nat→List α):Prop where
 at':∃v,w.cell? p=some v∧SlOf w v (fun u=>[u]) 1 vs
 len:vs.length=n
 each:∀i,i<n→SlOf w (cQ vs i) enc size (f i)
structure TablesAt (w:World) (tp:Nat) (T:Tb):Prop where
 st:∃v,w.cell? ⟨tp,0,none⟩=some v∧zgv w v T.st
 ix:∀j,j<512→w.cell? ⟨tp,1+j,none⟩=some (.int .i64 (T.ix j))
 total:w.cell? ⟨tp,513,none⟩=some (.int .i64 T.total)
 ps:Lists w ⟨tp,514,none⟩ Pr.cells 5 T.vps T.n T.ps
 cs:Lists w ⟨tp,515,none⟩ Cp.cells 4 T.vcs T.n T.cs
 inn:Lists w ⟨tp,516,none⟩ Ld.cells 5 T.vin T.n T.inn
 out:Lists w ⟨tp,517,none⟩ Ld.cells 5 T.vout T.n T.out
structure Tb.Ok (T:Tb):Prop where
 n:T.n≤512
 ps:∀i,i<T.n→(T.ps i).length≤4096∧∀x∈T.ps i,0≤x.a∧x.a<T.n∧0≤x.b∧x.b<T.n∧ -1≤x.off∧x.off≤1∧2≤x.lo∧x.lo≤x.hi∧x.hi≤51∧(x.a=i∨x.b=i)
 cs:∀i,i<T.n→(T.cs i).length≤1024∧∀x∈T.cs i,0≤x.mx∧x.mx≤1099511627776∧2≤x.lo∧x.lo≤x.hi∧x.hi≤51
 inn:∀i,i<T.n→(T.inn i).length≤1024∧∀x∈T.inn i,x.to=i∧0≤x.fr∧x.fr<T.n∧1≤x.wt∧x.wt≤1073741824∧2≤x.lo∧x.lo≤x.hi∧x.hi≤51
 psS:∀i,i<T.n→∀x∈T.ps i,x.a≠x.b∧x∈T.ps x.a.toNat∧x∈T.ps x.b.toNat
 innS:∀i,i<T.n→∀x∈T.inn i,x.to≠x.fr∧x∈T.out x.fr.toNat
 outS:∀i,i<T.n→∀x∈T.out i,x.to≠x.fr∧x∈T.inn x.to.toNat
 out:∀i,i<T.n→(T.out i).length≤1024∧∀x∈T.out i,x.fr=i∧0≤x.to∧x.to<T.n∧1≤x.wt∧x.wt≤1073741824∧2≤x.lo∧x.lo≤x.hi∧x.hi≤51
def jw (w:World)(g:Nat):Prop:=∃cs t p,w.heap[g]?=some (.cells cs t p)
def Fz (w0 w:World):Prop:=∀g,jw w0 g→w.heap[g]?=w0.heap[g]?
theorem zeB {w:World}{p:Addr}{v:Value}(h:w.cell? p=some v):jw w p.block:=by
 unfold World.cell? at h
 split at h
 ·rename_i hh;exact ⟨_,_,_,hh⟩
 ·cases h
theorem Fz.cell {w w':World}(hb:Fz w w'){p:Addr}{v:Value}(h:w.cell? p=some v):w'.cell? p=some v:=(World.cell?_of_block (w:=w) (hb _ (zeB h))).trans h
theorem Fz.cs {w w':World}(hb:Fz w w'){g p:Nat}{l:List Value}(h:Cs w g p l):Cs w' g p l:=fun j hj=>by
 have:=h j hj;rw [List.getElem?_eq_getElem hj] at this ⊢;exact hb.cell this
theorem iR {w:World}{g p:Nat}{l:List Value}(h:Cs w g p l)(hl:0<l.length):jw w g:=by
 have:=h 0 hl;rw [List.getElem?_eq_getElem hl] at this;exact zeB this
theorem Fz.sl {α:Type}{w w':World}(hb:Fz w w'){v:Value}{enc:α→List Value}{size:Nat}{xs:List α}(h:SlOf w v enc size xs):SlOf w' v enc size xs:=by
 obtain ⟨A,cap,rfl,hc⟩:=h;refine ⟨A,cap,rfl,fun hp=>?_⟩;obtain ⟨g,off,rfl,hcs⟩:=hc hp;exact ⟨g,off,rfl,fun i hi=>hb.cs (hcs i hi)⟩
theorem gK {w w':World}(hb:Below w.heap.size w w'):Fz w w':=fun g ⟨cs,t,p,h⟩=>hb.block g (Array.getElem?_eq_some_iff.1 h).1
theorem Fz.hp {w0 w w':World}{M:Nat→Prop}{hs:HS}(h:Fz w0 w)(hw:Hp w M hs w')(h0:∀g,M g→¬jw w0 g):Fz w0 w':=fun g hg=>by
 have h1:=h g hg;obtain ⟨cs,t,p,e⟩:=hg;rw [←h1];refine hw.base g ?_ (fun hm=>h0 g hm ⟨cs,t,p,e⟩);rw [e] at h1;exact (Array.getElem?_eq_some_iff.1 h1).1
theorem Lists.later {α:Type}{w w':World}(hb:Fz w w'){p:Addr}{enc:α→List Value}{size:Nat}{vs:List Value}{n:Nat}{f:Nat→List α}(h:Lists w p enc size vs n f):Lists w' p enc size vs n f:=
 ⟨by obtain ⟨v,h1,h2⟩:=h.at';exact ⟨v,hb.cell h1,hb.sl h2⟩,h.len,fun i hi=>hb.sl (h.each i hi)⟩
theorem TablesAt.later {w w':World}(hb:Fz w w'){tp:Nat}{T:Tb}(h:TablesAt w tp T):TablesAt w' tp T:=
 ⟨by obtain ⟨v,h1,h2⟩:=h.st;exact ⟨v,hb.cell h1,hb.sl h2⟩,fun j hj=>hb.cell (h.ix j hj),hb.cell h.total,h.ps.later hb,h.cs.later hb,h.inn.later hb,h.out.later hb⟩
def Le (b:BitVec 64):List Value:=[U b]
structure StateAt (w:World) (sp:Nat) (T:Tb) (L:Ws) (c:Bool):Prop where
 tab:Tab w
 tb:∃tp,w.cell? ⟨sp,0,none⟩=some (.pointer (some ⟨tp,0,none⟩))∧TablesAt w tp T
 left:∃v,w.cell? ⟨sp,1,none⟩=some v∧SlOf w v Le 1 L
 len:L.length=T.n
 con:w.cell? ⟨sp,2,none⟩=some (.bool c)
theorem StateAt.later {w w':World}(hb:Below w.heap.size w w'){sp:Nat}{T:Tb}{L:Ws}{c:Bool}(h:StateAt w sp T L c):StateAt w' sp T L c:=
 have hf:=gK hb
 ⟨h.tab.keptF (gM hb),by obtain ⟨tp,h1,h2⟩:=h.tb;exact ⟨tp,hf.cell h1,h2.later hf⟩,by obtain ⟨v,h1,h2⟩:=h.left;exact ⟨v,hf.cell h1,hf.sl h2⟩,h.len,hf.cell h.con⟩
theorem StateAt.kept {B w:World}{hs:HS}{sp:Nat}{T:Tb}{L:Ws}{c:Bool}(hw:Hp B (fun _=>False) hs w)(h:StateAt B sp T L c):StateAt w sp T L c:=h.later ⟨hw.os,hw.tape,hw.output,hw.size,fun k hk=>hw.base k hk (fun h=>h)⟩
def iO (b:BitVec 64):Nat:=if b≠0#64∧b &&& (b - 1#64)=0#64 then ctz b else 0
def only (L:Ws)(i:Nat):Nat:=iO (cQ L i)
theorem zmg (b:BitVec 64):iO b<64:=by
 unfold iO;split
 ·rename_i h;exact ziw h.1
 ·decide
theorem zhD (L:Ws)(i:Nat):only L i<64:=zmg _
def mo (L:Ws)(i:Nat)(g:BitVec 64)(x:Pr):BitVec 64:=
 if x.a=(i:Int) then
  if (only L x.b.toNat:Int)≠0∧x.lo≤(only L x.b.toNat:Int) - x.off∧(only L x.b.toNat:Int) - x.off≤x.hi then g ||| 1#64 <<< ((only L x.b.toNat:Int) - x.off).toNat else g
 else if x.lo≤(only L x.a.toNat:Int)∧(only L x.a.toNat:Int)≤x.hi then g ||| 1#64 <<< ((only L x.a.toNat:Int)+x.off).toNat else g
def lR (T:Tb)(L:Ws)(i:Nat):BitVec 64:=(T.ps i).foldl (mo L i) 0#64
theorem jm {α β:Type}[Inhabited α](f:β→α→β)(z:β){l:List α}{k:Nat}(h:k<l.length):(l.take (k+1)).foldl f z=f ((l.take k).foldl f z) (cQ l k):=by
 rw [List.take_succ_eq_append_getElem h,eh h,List.foldl_append];rfl
theorem zl5 {b:BitVec 64}(h1:¬(b.toNat:Int)=0)(h2:((b &&& (b - 1#64)).toNat:Int)=0):iO b=ctz b:=by
 unfold iO;rw [if_pos ⟨by rintro rfl;exact h1 rfl,BitVec.eq_of_toNat_eq (by show _=0;omega)⟩]
theorem zm7 {b:BitVec 64}(h2:¬((b &&& (b - 1#64)).toNat:Int)=0):iO b=0:=by
 unfold iO;rw [if_neg (fun h=>h2 (by rw [h.2];rfl))]
theorem zlF {b:BitVec 64}(h1:(b.toNat:Int)=0):iO b=0:=by
 unfold iO;rw [if_neg (fun h=>h.1 (BitVec.eq_of_toNat_eq (by show _=0;omega)))]
theorem zdr (sp:Nat)(Y:Tb)(L:Ws)(c:Bool)(i:Nat)(z:Int)(hz:z=(i:Int))(hi:i<Y.n)(w:World)(h:StateAt w sp Y L c):Calls Tryz.prog 164 #[.pointer (some ⟨sp,0,none⟩), .int .i64 z] w fun e w'=>e= .returned (.int .i64 (only L i:Int))∧Below w.heap.size w w':=by
 subst hz;obtain ⟨tp,hsp0,hT⟩:=h.tb;obtain ⟨vL,hsp1,hL⟩:=h.left;obtain ⟨AL,gV,rfl,hLs⟩:=hL.op;have hLn:=h.len;obtain ⟨gL,oL,rfl,hc⟩:=hLs a5;have hk:=hc i a5;simp only [Le] at hk;refine dy (M:=fun _=>False) (hs:=[]) Tryz.func164 rfl rfl rfl (Hp.refl _ _) ?_;refine gh ?_;refine iM ?_;refine ez ?_;refine fy ?_;refine cR (dX rfl rfl cK (fun h=>h)) ?_;refine dp ?_;refine q1Z ?_;refine gz ?_;refine fF ?_;refine dw rfl rfl rfl (fun h1=>?_) (fun h1=>?_)
 ·have p1:=h1; (try simp only [c7] at p1);refine jM ?_;refine jM ?_;refine db (Wt.some rfl rfl rfl h1) rfl rfl (Yv.cB (b:=1#64) rfl rfl rfl) ?_;refine db (Wt.some rfl rfl rfl h1) rfl rfl (gm) ?_;refine jM ?_;refine kF ?_;refine TL.ns ?_;refine T.cond rfl (fun h2=>?_) (fun h2=>?_)
  ·have p2:=h2; (try simp only [c7] at p2); (have hne:cQ L i≠0#64:=by intro hh;rw [hh] at p1;exact p1 rfl);refine gh ?_; (refine cU (Wt.none) rfl rfl (cS rfl rfl rfl (fun w hw=>zmv _ hne w (h.tab.keptF hw))) ?_;rintro _ _ ⟨rfl,rfl⟩);refine dp ?_;refine kh ?_;exact c8 rfl rfl (fun w' hw=>⟨zcV (by rw [only,zl5 p1 p2]),hw.isBelow⟩)
  ·have p2:=h2; (try simp only [c7] at p2);refine gW ?_;refine fm ?_;exact c8 rfl rfl (fun w' hw=>⟨zcV (by rw [only,zm7 p2];rfl),hw.isBelow⟩)
 ·have p1:=h1; (try simp only [c7] at p1);refine j6 ?_;refine q1m ?_;refine ly ?_;refine gW ?_;refine fm ?_;exact c8 rfl rfl (fun w' hw=>⟨zcV (by rw [only,zlF p1];rfl),hw.isBelow⟩)
theorem ziN (sp:Nat)(Y:Tb)(L:Ws)(c:Bool)(i:Nat)(z:Int)(hz:z=(i:Int))(hi:i<Y.n)(w:World)(h:StateAt w sp Y L c)(hok:Y.Ok):Calls Tryz.prog 153 #[.pointer (some ⟨sp,0,none⟩), .int .i64 z] w fun e w'=>e= .returned (U (lR Y L i))∧Below w.heap.size w w':=by
 subst hz;obtain ⟨tp,hsp0,hT⟩:=h.tb;obtain ⟨vL,hsp1,hL⟩:=h.left;obtain ⟨AL,gV,rfl,hLs⟩:=hL.op;have hLn:=h.len;obtain ⟨vP,hP0,hP⟩:=hT.ps.at';obtain ⟨AP,capP,rfl,hPs⟩:=hP.op;have hPn:=hT.ps.len;obtain ⟨gP,oP,rfl,hPc⟩:=hPs a5;rw [hPn] at hP0;have hPi:=hPc i (by rw [hPn];exact hi);obtain ⟨BP,cpP,hvP,hslP⟩:=(hT.ps.each i hi).op;simp only [hvP] at hPi;obtain ⟨hlen,hrng⟩:=hok.ps i hi;have hn512:=hok.n;refine dy (M:=fun _=>False) (hs:=[]) Tryz.func153 rfl rfl rfl (Hp.refl _ _) ?_;refine mM ?_;refine i2 ?_;refine ez ?_;refine q1N ?_;refine cR (dX rfl rfl hP0 (fun h=>h)) ?_;refine lx ?_;refine cR (ek (j:=0) rfl rfl hPi rfl rfl (fun h=>h)) ?_;refine jH ?_;refine T.loop (ι:=Nat) (fun k=>[(0, .pointer (some ⟨sp,0,none⟩)),(1, .int .i64 (i:Int)),(5,U (((Y.ps i).take k).foldl (mo L i) 0#64)),(19, .slice BP (Y.ps i).length cpP),(20, .int .i64 ((Y.ps i).length:Int)),(21, .int .i64 (k:Int))]) (fun k=>[]) (fun k=>k≤(Y.ps i).length) (fun k=>(Y.ps i).length - k) 0 ?_ ?_ ?_ ?_
 ·omega
 ·exact (by repeat (first|exact Sub.nil|refine Sub.cons rfl ?_))
 ·exact Sx
 ·intro k hphi;refine eR ?_;refine T.cond rfl (fun h1=>?_) (fun h1=>?_)
  ·have p1:=h1; (try simp only [c7] at p1);obtain ⟨g,off,rfl,hc⟩:=hslP a5;have hk:=hc k a5;simp only [Pr.cells] at hk;have hr:=hrng _ (i0 (xs:=Y.ps i) (k:=k) a5);have oa:=zhD L (cQ (Y.ps i) k).a.toNat;have ob:=zhD L (cQ (Y.ps i) k).b.toNat;refine fH ?_;refine lG ?_; (refine cU (Wt.none) rfl rfl (Ew.alloc) ?_;rintro _ _ ⟨g7,rfl,rfl⟩); (refine dS (Wt.none) rfl (dF 0) ?_;rintro _ _ ⟨rfl,rfl⟩);refine dR ?_;refine eX ?_;refine kz ?_;refine T.cond rfl (fun h2=>?_) (fun h2=>?_)
   ·have p2:=h2; (try simp only [c7] at p2);refine gh ?_;refine eX ?_; (refine cU (Wt.none) rfl rfl (cS rfl rfl rfl (fun w hw=>zdr sp Y L c (cQ (Y.ps i) k).b.toNat _ a5 a5 w (h.kept hw))) ?_;rintro _ _ ⟨rfl,rfl⟩);refine gz ?_;refine fF ?_;refine dw rfl rfl rfl (fun h3=>?_) (fun h3=>?_)
    ·have p3:=h3; (try simp only [c7] at p3);refine q0S ?_;refine q1L ?_;refine q0S ?_;refine db (Wt.some rfl rfl rfl h3) rfl rfl (ky rfl rfl rfl a5) ?_;refine q1L ?_;refine q3x ?_;refine dp ?_;refine dw rfl rfl rfl (fun h4=>?_) (fun h4=>?_)
     ·have p4:=h4; (try simp only [c7] at p4);refine db (Wt.some rfl rfl rfl h4) rfl rfl (ei) ?_;refine q0T ?_;refine db (Wt.some rfl rfl rfl h4) rfl rfl (ky rfl rfl rfl a5) ?_;refine q0T ?_;refine db (Wt.some rfl rfl rfl h4) rfl rfl (ei) ?_;refine cR (eT rfl rfl h4) ?_;refine TL.ns ?_;refine T.cond rfl (fun h5=>?_) (fun h5=>?_)
      ·have p5:=h5; (try simp only [c7] at p5);refine gp ?_;refine eX ?_;refine q15 ?_;refine cR (gG (a:=1#64) ((only L (cQ (Y.ps i) k).b.toNat:Int) - (cQ (Y.ps i) k).off).toNat rfl rfl rfl a5 a5) ?_;refine cR (gg) ?_;refine mm ?_;exact K.next (k+1) a5 a5 (by rw [jm _ _ a5,mo,if_pos p2,if_pos ⟨p3,p4,p5⟩];exact (by repeat (first|exact Sub.nil|refine Sub.cons rfl ?_))) Sx
      ·have p5:=h5; (try simp only [c7] at p5);refine gZ ?_;exact K.next (k+1) a5 a5 (by rw [jm _ _ a5,mo,if_pos p2,if_neg (fun hh=>absurd hh.2.2 a5)];exact (by repeat (first|exact Sub.nil|refine Sub.cons rfl ?_))) Sx
     ·have p4:=h4; (try simp only [c7] at p4);refine q0o ?_;refine q0o ?_;refine TL.off (Wt.not rfl rfl rfl h4) rfl rfl ?_;refine cR (eB rfl rfl h4) ?_;refine ly ?_;refine gZ ?_;exact K.next (k+1) a5 a5 (by rw [jm _ _ a5,mo,if_pos p2,if_neg (fun hh=>absurd hh.2.1 a5)];exact (by repeat (first|exact Sub.nil|refine Sub.cons rfl ?_))) Sx
    ·have p3:=h3; (try simp only [c7] at p3);refine q0p ?_;refine q27 ?_;refine TL.run 9 rfl ?_;refine ly ?_;refine gZ ?_;exact K.next (k+1) a5 a5 (by rw [jm _ _ a5,mo,if_pos p2,if_neg (fun hh=>hh.1 p3)];exact (by repeat (first|exact Sub.nil|refine Sub.cons rfl ?_))) Sx
   ·have p2:=h2; (try simp only [c7] at p2);refine gh ?_;refine eX ?_; (refine cU (Wt.none) rfl rfl (cS rfl rfl rfl (fun w hw=>zdr sp Y L c (cQ (Y.ps i) k).a.toNat _ a5 a5 w (h.kept hw))) ?_;rintro _ _ ⟨rfl,rfl⟩);refine gz ?_;refine eX ?_;refine fF ?_;refine dw rfl rfl rfl (fun h6=>?_) (fun h6=>?_)
    ·have p6:=h6; (try simp only [c7] at p6);refine q13 ?_;refine TL.ns ?_;refine T.cond rfl (fun h7=>?_) (fun h7=>?_)
     ·have p7:=h7; (try simp only [c7] at p7);refine gp ?_;refine eX ?_;refine mv ?_;refine cR (gG (a:=1#64) ((only L (cQ (Y.ps i) k).a.toNat:Int)+(cQ (Y.ps i) k).off).toNat rfl rfl rfl a5 a5) ?_;refine cR (gg) ?_;refine mm ?_;exact K.next (k+1) a5 a5 (by rw [jm _ _ a5,mo,if_neg p2,if_pos ⟨p6,p7⟩];exact (by repeat (first|exact Sub.nil|refine Sub.cons rfl ?_))) Sx
     ·have p7:=h7; (try simp only [c7] at p7);refine gZ ?_;exact K.next (k+1) a5 a5 (by rw [jm _ _ a5,mo,if_neg p2,if_neg (fun hh=>absurd hh.2 a5)];exact (by repeat (first|exact Sub.nil|refine Sub.cons rfl ?_))) Sx
    ·have p6:=h6; (try simp only [c7] at p6);refine q05 ?_;refine q05 ?_;refine cR (eB rfl rfl h6) ?_;refine ly ?_;refine gZ ?_;exact K.next (k+1) a5 a5 (by rw [jm _ _ a5,mo,if_neg p2,if_neg (fun hh=>absurd hh.1 a5)];exact (by repeat (first|exact Sub.nil|refine Sub.cons rfl ?_))) Sx
  ·have p1:=h1; (try simp only [c7] at p1);refine q01 ?_;refine jP ?_;exact c8 rfl rfl (fun w' hw=>⟨by rw [lR,List.take_of_length_le a5],hw.isBelow⟩)
def l4 (f:Nat→Int):List Value:=(List.range 52).map fun d=> .int .i64 (f d)
theorem ziV (f:Nat→Int):(l4 f).length=52:=by simp [l4]
theorem zgx {f:Nat→Int}{d p:Nat}(hp:p=d)(hd:d<52):(l4 f)[p]?=some (.int .i64 (f d)):=by subst hp;simp [l4,hd]
theorem zi4 {f f':Nat→Int}{d p:Nat}{v:Int}(hp:p=d)(hd:d<52)(h1:f' d=v)(h2:∀e,e≠d→f' e=f e):(l4 f).set p (.int .i64 v)=l4 f':=by
 subst hp h1;apply List.ext_getElem?;intro e;unfold l4;by_cases he:e=p
 ·subst he;rw [List.getElem?_set_self (by simpa using hd)];simp [hd]
 ·rw [List.getElem?_set_ne (fun h=>he h.symm)];simp only [List.getElem?_map,List.getElem?_range];by_cases h52:e<52
  ·simp [h52,h2 e he]
  ·simp [h52]
def jG (L:Ws)(f:Nat→Int)(x:Ld):Nat→Int:=fun d=>if x.lo≤(only L x.fr.toNat:Int)∧(only L x.fr.toNat:Int)≤x.hi∧only L x.fr.toNat=d then f d+x.wt else f d
def ig (L:Ws)(l:List Ld):Nat→Int:=l.foldl (jG L) (fun _=>0)
theorem zlq (L:Ws):∀(l:List Ld),(∀x∈l,1≤x.wt∧x.wt≤1073741824)→∀(f:Nat→Int) (b:Int),(∀d,0≤f d∧f d≤b)→∀d,0≤l.foldl (jG L) f d∧l.foldl (jG L) f d≤b+1073741824* (l.length:Int)
 | [],_,f,b,hf,d=>by simpa using hf d
 |x :: r,hx,f,b,hf,d=>by
  have h1:=hx x a8
  have:=zlq L r (fun y hy=>hx y (by simp [hy])) (jG L f x) (b+1073741824) (fun e=>by
   have:=hf e
   unfold jG;split <;> omega) d
  simp only [List.foldl_cons,List.length_cons];omega
def ziA (f:Nat→Int)(mx:Int)(g:BitVec 64)(d:Nat):BitVec 64:=if mx<f d then g ||| 1#64 <<< d else g
def zeU (f:Nat→Int)(g:BitVec 64)(x:Cp):BitVec 64:=(List.range' x.lo.toNat (x.hi.toNat+1 - x.lo.toNat)).foldl (ziA f x.mx) g
def kK (Y:Tb)(L:Ws)(i:Nat):BitVec 64:=(Y.cs i).foldl (zeU (ig L (Y.inn i))) 0#64
theorem zfg {L:Ws}{l:List Ld}{k:Nat}(h:k<l.length):ig L (l.take (k+1))=jG L (ig L (l.take k)) (cQ l k):=jm _ _ h
theorem zmU {L:Ws}{l:List Ld}(hl:l.length≤1024)(hw:∀x∈l,1≤x.wt∧x.wt≤1073741824)(k d:Nat):0≤ig L (l.take k) d∧ig L (l.take k) d≤1099511627776:=by
 have:=zlq L (l.take k) (fun x hx=>hw x (List.mem_of_mem_take hx)) (fun _=>0) 0 (fun _=>⟨by simp,by simp⟩) d; (have hk:(l.take k).length≤1024:=by rw [List.length_take];omega);unfold ig;omega
def jV (L:Ws)(i d:Nat)(s:Int)(x:Ld):Int:=if (x.lo≤(d:Int)∧(d:Int)≤x.hi)∧(x.fr=(i:Int)∨only L x.fr.toNat=d) then s+x.wt else s
theorem zmw (L:Ws)(i d:Nat):∀(l:List Ld),(∀x∈l,1≤x.wt∧x.wt≤1073741824)→∀(s:Int),0≤s→0≤l.foldl (jV L i d) s∧l.foldl (jV L i d) s≤s+1073741824* (l.length:Int)
 | [],_,s,h=>by simp;exact h
 |x :: r,hx,s,h=>by
  have h1:=hx x a8; (have hs:0≤jV L i d s x∧jV L i d s x≤s+1073741824:=by unfold jV;split <;> omega);have:=zmw L i d r (fun y hy=>hx y (by simp [hy])) (jV L i d s x) hs.1;simp only [List.foldl_cons,List.length_cons];omega
def jU (L:Ws)(i d:Nat)(l:List Ld):Int:=l.foldl (jV L i d) 0
theorem zob {L:Ws}{l:List Ld}{i d:Nat}(hl:l.length≤1024)(hw:∀x∈l,1≤x.wt∧x.wt≤1073741824)(k:Nat):0≤jU L i d (l.take k)∧jU L i d (l.take k)≤1099511627776:=by
 have:=zmw L i d (l.take k) (fun x hx=>hw x (List.mem_of_mem_take hx)) 0 (Int.le_refl _); (have hk:(l.take k).length≤1024:=by rw [List.length_take];omega);unfold jU;omega
def zec (lost:Int)(d:Nat)(g:BitVec 64)(x:Cp):BitVec 64:=if (x.lo≤(d:Int)∧(d:Int)≤x.hi)∧x.mx<lost then g ||| 1#64 <<< d else g
def lh (Y:Tb)(L:Ws)(i:Nat)(g:BitVec 64)(x:Ld):BitVec 64:=
 if ((only L x.to.toNat:Int)<x.lo∨x.hi<(only L x.to.toNat:Int))∨g.getLsbD (only L x.to.toNat)=true then g
 else (Y.cs x.to.toNat).foldl (zec (jU L i (only L x.to.toNat) (Y.inn x.to.toNat)) (only L x.to.toNat)) g
def lQ (Y:Tb)(L:Ws)(i:Nat):BitVec 64:=(Y.out i).foldl (lh Y L i) 0#64
theorem zkb (sp:Nat)(Y:Tb)(L:Ws)(c:Bool)(i:Nat)(z:Int)(hz:z=(i:Int))(hi:i<Y.n)(w:World)(h:StateAt w sp Y L c)(hok:Y.Ok):Calls Tryz.prog 154 #[.pointer (some ⟨sp,0,none⟩), .int .i64 z] w fun e w'=>e= .returned (U (kK Y L i))∧Below w.heap.size w w':=by
 subst hz;obtain ⟨tp,hsp0,hT⟩:=h.tb;obtain ⟨vL,hsp1,hL⟩:=h.left;obtain ⟨AL,gV,rfl,hLs⟩:=hL.op;have hLn:=h.len;obtain ⟨vC,hC0,hC⟩:=hT.cs.at';obtain ⟨AC,capC,rfl,hCs⟩:=hC.op;have hCn:=hT.cs.len;obtain ⟨gC,oC,rfl,hCc⟩:=hCs a5;rw [hCn] at hC0;have hCi:=hCc i (by rw [hCn];exact hi);obtain ⟨BC,cpC,hvC,hslC⟩:=(hT.cs.each i hi).op;simp only [hvC] at hCi;obtain ⟨vI,hI0,hI⟩:=hT.inn.at';obtain ⟨AI,capI,rfl,hIs⟩:=hI.op;have hIn:=hT.inn.len;obtain ⟨gI,oI,rfl,hIc⟩:=hIs a5;rw [hIn] at hI0;have hIi:=hIc i (by rw [hIn];exact hi);obtain ⟨BI,cpI,hvI,hslI⟩:=(hT.inn.each i hi).op;simp only [hvI] at hIi;obtain ⟨hlenC,hrngC⟩:=hok.cs i hi;obtain ⟨hlen,hrng⟩:=hok.inn i hi;have hn512:=hok.n; (have hwt:∀x∈Y.inn i,1≤x.wt∧x.wt≤1073741824:=fun x hx=>by have:=hrng x hx;omega);refine dy (M:=fun _=>False) (hs:=[]) Tryz.func154 rfl rfl rfl (Hp.refl _ _) ?_;refine q3h ?_;refine l8 ?_;refine dL ?_;refine T.cond rfl (fun h1=>?_) (fun h1=>?_)
 ·have p1:=h1; (try simp only [c7] at p1);refine hD ?_;exact c8 rfl rfl (fun w' hw=>⟨by rw [kK,List.eq_nil_of_length_eq_zero (show (Y.cs i).length=0 by omega)];rfl,hw.isBelow⟩)
 ·have p1:=h1; (try simp only [c7] at p1);refine gW ?_; (refine cU (Wt.none) rfl rfl (Ew.alloc) ?_;rintro _ _ ⟨g5,rfl,rfl⟩);refine TL.ns ?_;refine T.cut (gs:=[(0, .pointer (some ⟨sp,0,none⟩)),(1, .int .i64 (i:Int)),(5, .pointer (some ⟨g5,0,none⟩))]) (hs':=[.row g5 227 (l4 (ig L (Y.inn i)))]) ?_ ?_
  ·skip;refine iD ?_;refine q1N ?_;refine cR (dX rfl rfl hI0 (fun h=>h)) ?_;refine lx ?_;refine cR (ek (j:=0) rfl rfl hIi rfl rfl (fun h=>h)) ?_;refine jH ?_;refine T.loop (ι:=Nat) (fun k=>[(0, .pointer (some ⟨sp,0,none⟩)),(1, .int .i64 (i:Int)),(5, .pointer (some ⟨g5,0,none⟩)),(34, .slice BI (Y.inn i).length cpI),(35, .int .i64 ((Y.inn i).length:Int)),(36, .int .i64 (k:Int))]) (fun k=>[.row g5 227 (l4 (ig L ((Y.inn i).take k)))]) (fun k=>k≤(Y.inn i).length) (fun k=>(Y.inn i).length - k) 0 ?_ ?_ ?_ ?_
   ·omega
   ·exact (by repeat (first|exact Sub.nil|refine Sub.cons rfl ?_))
   ·exact Sx
   ·intro k hphi;refine eR ?_;refine T.cond rfl (fun h2=>?_) (fun h2=>?_)
    ·have p2:=h2; (try simp only [c7] at p2);obtain ⟨g,off,rfl,hc⟩:=hslI a5;have hk:=hc k a5;simp only [Ld.cells] at hk;have hr:=hrng _ (i0 (xs:=Y.inn i) (k:=k) a5);have oa:=zhD L (cQ (Y.inn i) k).fr.toNat;refine fH ?_;refine lG ?_; (refine cU (Wt.none) rfl rfl (Ew.alloc) ?_;rintro _ _ ⟨g7,rfl,rfl⟩); (refine dS (Wt.none) rfl (dF 0) ?_;rintro _ _ ⟨rfl,rfl⟩);refine l7 ?_;refine eX ?_; (refine cU (Wt.none) rfl rfl (cS rfl rfl rfl (fun w hw=>zdr sp Y L c (cQ (Y.inn i) k).fr.toNat _ a5 a5 w (h.kept hw))) ?_;rintro _ _ ⟨rfl,rfl⟩);refine gz ?_;refine eX ?_;refine fF ?_;refine dw rfl rfl rfl (fun h3=>?_) (fun h3=>?_)
     ·have p3:=h3; (try simp only [c7] at p3);refine q1L ?_;refine q0S ?_;refine q1L ?_;refine q3x ?_;refine TL.ns ?_;refine T.cond rfl (fun h4=>?_) (fun h4=>?_)
      ·have p4:=h4; (try simp only [c7] at p4);have hld:=zgx (f:=ig L ((Y.inn i).take k)) (d:=only L (cQ (Y.inn i) k).fr.toNat) (p:=0+only L (cQ (Y.inn i) k).fr.toNat*1) a5 a5;have hbd:=zmU (L:=L) hlen hwt k (only L (cQ (Y.inn i) k).fr.toNat);refine d8 (sN 0 2 (sN 3 2 (.eff 2 (sN 5 2 (.eff 7 .done))))) (List.eraseIdx _ 1) a7 (List.eraseIdx_sublist _ _) ?_;refine gj ?_;refine cZ rfl (ep rfl rfl rfl rfl a5) ?_;refine gD ?_;refine dQ ?_;refine eP rfl (Wt.none) rfl rfl (da 1 rfl rfl rfl hld) Sx ?_;refine q3z ?_;refine cZ rfl (ep rfl rfl rfl rfl a5) ?_;refine dQ ?_; (refine dP rfl (Wt.none) rfl (hJ 1 (l4 (ig L ((Y.inn i).take (k+1)))) rfl rfl rfl rfl (by rw [ziV];omega) (zi4 (d:=only L (cQ (Y.inn i) k).fr.toNat) a5 a5 (by rw [zfg a5,jG,if_pos ⟨by omega,by omega,rfl⟩]) (fun e he=>by rw [zfg a5,jG,if_neg (fun hh=>he hh.2.2.symm)]))) ?_;rintro _ _ ⟨rfl,rfl⟩;refine ⟨Sx,?_⟩);refine q1t ?_;exact K.next (k+1) a5 a5 (by repeat (first|exact Sub.nil|refine Sub.cons rfl ?_)) Sx
      ·have p4:=h4; (try simp only [c7] at p4);refine gZ ?_;exact K.next (k+1) a5 a5 (by repeat (first|exact Sub.nil|refine Sub.cons rfl ?_)) (by rw [zfg a5,show jG L (ig L ((Y.inn i).take k)) (cQ (Y.inn i) k)=ig L ((Y.inn i).take k) from funext fun d=>by unfold jG;exact if_neg (fun hh=>absurd hh.2.1 a5)];exact Sx)
     ·have p3:=h3; (try simp only [c7] at p3);refine q27 ?_;refine ly ?_;refine gZ ?_;exact K.next (k+1) a5 a5 (by repeat (first|exact Sub.nil|refine Sub.cons rfl ?_)) (by rw [zfg a5,show jG L (ig L ((Y.inn i).take k)) (cQ (Y.inn i) k)=ig L ((Y.inn i).take k) from funext fun d=>by unfold jG;exact if_neg (fun hh=>absurd hh.1 a5)];exact Sx)
    ·have p2:=h2; (try simp only [c7] at p2);refine fi ?_;exact K.at (by repeat (first|exact Sub.nil|refine Sub.cons rfl ?_)) (by rw [show (Y.inn i).take k=Y.inn i from List.take_of_length_le a5];exact Sx)
  ·skip;refine q3h ?_;refine jH ?_;refine T.loop (ι:=Nat) (fun k=>[(0, .pointer (some ⟨sp,0,none⟩)),(1, .int .i64 (i:Int)),(5, .pointer (some ⟨g5,0,none⟩)),(9,U (((Y.cs i).take k).foldl (zeU (ig L (Y.inn i))) 0#64)),(71, .slice BC (Y.cs i).length cpC),(72, .int .i64 ((Y.cs i).length:Int)),(73, .int .i64 (k:Int))]) (fun k=>[.row g5 227 (l4 (ig L (Y.inn i)))]) (fun k=>k≤(Y.cs i).length) (fun k=>(Y.cs i).length - k) 0 ?_ ?_ ?_ ?_
   ·omega
   ·exact (by repeat (first|exact Sub.nil|refine Sub.cons rfl ?_))
   ·exact Sx
   ·intro k hphi;refine eR ?_;refine T.cond rfl (fun h5=>?_) (fun h5=>?_)
    ·have p5:=h5; (try simp only [c7] at p5);obtain ⟨g,off,rfl,hc⟩:=hslC a5;have hk:=hc k a5;simp only [Cp.cells] at hk;have hr:=hrngC _ (i0 (xs:=Y.cs i) (k:=k) a5);refine kP ?_;refine T.cut (gs:=[(0, .pointer (some ⟨sp,0,none⟩)),(1, .int .i64 (i:Int)),(5, .pointer (some ⟨g5,0,none⟩)),(9,U (((Y.cs i).take (k+1)).foldl (zeU (ig L (Y.inn i))) 0#64)),(71, .slice (some ⟨g,off,none⟩) (Y.cs i).length cpC),(72, .int .i64 ((Y.cs i).length:Int)),(73, .int .i64 (k:Int))]) (hs':=[.row g5 227 (l4 (ig L (Y.inn i)))]) ?_ ?_
     ·skip;refine T.block (dm ?_);refine lG ?_; (refine cU (Wt.none) rfl rfl (Ew.alloc) ?_;rintro _ _ ⟨g11,rfl,rfl⟩); (refine dS (Wt.none) rfl (dF 0) ?_;rintro _ _ ⟨rfl,rfl⟩);refine dR ?_;refine eX ?_;refine dp ?_;refine TL.ns (T.block ?_);refine T.loop (ι:=Nat) (fun j=>[(0, .pointer (some ⟨sp,0,none⟩)),(1, .int .i64 (i:Int)),(5, .pointer (some ⟨g5,0,none⟩)),(9,U ((List.range' (cQ (Y.cs i) k).lo.toNat j).foldl (ziA (ig L (Y.inn i)) (cQ (Y.cs i) k).mx) (((Y.cs i).take k).foldl (zeU (ig L (Y.inn i))) 0#64))),(11, .pointer (some ⟨g11,0,none⟩)),(12, .int .i64 ((cQ (Y.cs i) k).lo+(j:Int))),(71, .slice (some ⟨g,off,none⟩) (Y.cs i).length cpC),(72, .int .i64 ((Y.cs i).length:Int)),(73, .int .i64 (k:Int))]) (fun j=>[.row g11 104 [.int .i64 (cQ (Y.cs i) k).st, .int .i64 (cQ (Y.cs i) k).mx, .int .i64 (cQ (Y.cs i) k).lo, .int .i64 (cQ (Y.cs i) k).hi], .row g5 227 (l4 (ig L (Y.inn i)))]) (fun j=>(cQ (Y.cs i) k).lo+(j:Int)≤(cQ (Y.cs i) k).hi+1) (fun j=>((cQ (Y.cs i) k).hi+1 - (cQ (Y.cs i) k).lo).toNat - j) 0 ?_ ?_ ?_ ?_
      ·omega
      ·exact (by repeat (first|exact Sub.nil|refine Sub.cons rfl ?_|(refine fc rfl a5 ?_)))
      ·exact Sx
      ·intro j hphi;refine q3L ?_;refine eX ?_;refine dL ?_;refine T.cond rfl (fun h6=>?_) (fun h6=>?_)
       ·have p6:=h6; (try simp only [c7] at p6);have hld:=zgx (f:=ig L (Y.inn i)) (d:=(cQ (Y.cs i) k).lo.toNat+j) (p:=0+((cQ (Y.cs i) k).lo.toNat+j) *1) a5 a5;refine kq ?_;refine d8 (sN 0 5 (.still 5 .done)) _ a7 (List.Sublist.refl _) ?_;refine gj ?_;refine cZ rfl (ep rfl rfl rfl (show (_:Int)=(((cQ (Y.cs i) k).lo.toNat+j:Nat):Int) from by omega) a5) ?_;refine cZ rfl (da 1 rfl rfl rfl hld) ?_;refine gD ?_;refine kQ ?_;refine T.cond rfl (fun h7=>?_) (fun h7=>?_)
        ·have p7:=h7; (try simp only [c7] at p7);refine gp ?_;refine cR (gG (a:=1#64) ((cQ (Y.cs i) k).lo.toNat+j) rfl rfl rfl a5 a5) ?_;refine cR (gg) ?_;refine dp ?_;refine q18 ?_;exact K.next (j+1) a5 a5 (by rw [List.range'_1_concat,List.foldl_append];simp only [List.foldl_cons,List.foldl_nil];rw [ziA,if_pos a5];repeat (first|exact Sub.nil|refine Sub.cons rfl ?_|(refine fc rfl a5 ?_))) Sx
        ·have p7:=h7; (try simp only [c7] at p7);refine li ?_;exact K.next (j+1) a5 a5 (by rw [List.range'_1_concat,List.foldl_append];simp only [List.foldl_cons,List.foldl_nil];rw [ziA,if_neg a5];repeat (first|exact Sub.nil|refine Sub.cons rfl ?_|(refine fc rfl a5 ?_))) Sx
       ·have p6:=h6; (try simp only [c7] at p6);refine T.exit (fG (fG (iT (fI ?_))));exact K.at (by rw [jm _ _ a5,zeU,show (cQ (Y.cs i) k).hi.toNat+1 - (cQ (Y.cs i) k).lo.toNat=j by omega];exact (by repeat (first|exact Sub.nil|refine Sub.cons rfl ?_))) Sx
     ·skip;refine fg ?_;refine ka ?_;exact K.next (k+1) a5 a5 (by repeat (first|exact Sub.nil|refine Sub.cons rfl ?_)) Sx
    ·have p5:=h5; (try simp only [c7] at p5);refine q01 ?_;refine jP ?_;exact c8 rfl rfl (fun w' hw=>⟨by rw [kK,List.take_of_length_le a5],hw.isBelow⟩)
end Go.Proofs.YtogbggmckmnlfaaGreatDoor
