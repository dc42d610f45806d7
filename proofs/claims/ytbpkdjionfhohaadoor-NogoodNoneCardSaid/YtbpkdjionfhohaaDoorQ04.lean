/- B C D E F G: shortened and put together by squeeze.py. -/
import Derived.Test.YtbpkdjionfhohaaDoorQ03
set_option maxRecDepth 100000
set_option maxHeartbeats 4000000
set_option linter.unusedVariables false
set_option linter.unusedSectionVars false
set_option linter.unusedSimpArgs false
namespace Go.Proofs.YtbpkdjionfhohaaDoor
open Go.RowKit
theorem Cs.later {w w':World}(hb:Below w.heap.size w w'){g p:Nat}{l:List Value}(h:Cs w g p l):Cs w' g p l:=h.kept (Hp.of_below hb) (fun h=>h)
def Dx.ok (d:Dx):Bool:=inB d.st 0 511&&(allB (fun c=>inB c 2 51) d.chs&&incB cmpI d.chs)
def Pb.rulesOk (P:Pb):Bool:=decide ((P.ps.length:Int)≤4096)&&(allB Pr.ok P.ps&&(incB Pr.cmp P.ps&&(decide ((P.ls.length:Int)≤1024)&&(allB Ld.ok P.ls&&(incB Ld.cmp P.ls&&(decide ((P.cs.length:Int)≤1024)&&(allB Cp.ok P.cs&&incB Cp.cmp P.cs)))))))
abbrev Ws:=List (BitVec 64)
abbrev Ws.cells (ws:Ws):List Value:=ws.map fun b=>U b
def sNil:Ws:=List.replicate 8 0#64
def sAdd (ws:Ws)(i:Nat):Ws:=ws.set (i / 64) (nth ws (i / 64) ||| 1#64 <<< (i % 64))
def sBit (ws:Ws)(i:Nat):Bool:=(nth ws (i / 64)).getLsbD (i % 64)
def sHas (ws:Ws)(i:Int):Bool:=inB i 0 511&&sBit ws i.toNat
def zdu (l:List Int):Ws:=l.foldl (fun s i=>sAdd s i.toNat) sNil
theorem za4 {ws:Ws}{i:Nat}:(sAdd ws i).length=ws.length:=by simp [sAdd]
theorem zaP (l:List Int):(zdu l).length=8:=by
 have:∀(l:List Int) (s:Ws),(l.foldl (fun s i=>sAdd s i.toNat) s).length=s.length:=by
  intro l
  induction l with
  |nil=>intro s;rfl
  |cons x r ih=>intro s;simp only [List.foldl_cons,ih,za4]
 exact this l sNil
theorem zhb {l:List Int}{k:Nat}(h:k<l.length):zdu (l.take (k+1))=sAdd (zdu (l.take k)) (nth l k).toNat:=by
 unfold zdu;rw [List.take_succ_eq_append_getElem h,zam h,List.foldl_append];rfl
theorem Ws.get {ws:Ws}{i p:Nat}(h:i<ws.length)(hp:p=i):ws.cells[p]?=some (U (nth ws i)):=by
 subst hp;simp [nth,h]
theorem Ws.put {ws:Ws}{i p:Nat}{b:BitVec 64}(hp:p=i):ws.cells.set p (U b)=Ws.cells (ws.set i b):=by
 subst hp;simp [List.map_set]
theorem ze1 (a:BitVec 64)(j:Nat):decide (((((a >>> j) &&& 1#64).toNat:Nat):Int)=1)=a.getLsbD j:=by
 rw [BitVec.toNat_and,BitVec.toNat_ushiftRight]
 show decide ((((a.toNat >>> j &&& 1):Nat):Int)=1)=a.toNat.testBit j
 rw [Nat.and_one_is_mod,Nat.testBit,Nat.and_comm,Nat.and_one_is_mod];rcases Nat.mod_two_eq_zero_or_one (a.toNat >>> j) with h|h <;> rw [h] <;> rfl
theorem zdN {ws:Ws}{i j:Nat}(hl:ws.length=8)(hi:i<512)(hj:j<512):sBit (sAdd ws i) j=(sBit ws j||decide (i=j)):=by
 unfold sBit sAdd nth;simp only [List.getD_eq_getElem?_getD];by_cases h:i / 64=j / 64
 ·rw [h,List.getElem?_set_self (by omega)];simp only [Option.getD_some,BitVec.getLsbD_or,BitVec.getLsbD_shiftLeft];by_cases h2:i=j
  ·subst h2;have hm:i % 64<64:=Nat.mod_lt _ (by decide);simp [hm]
  ·(have hm:¬i % 64=j % 64:=by omega);rw [decide_eq_false h2,Bool.or_false]
   have:(decide (j % 64<64)&& !decide (j % 64<i % 64)&&(1#64).getLsbD (j % 64 - i % 64))=false:=by
    by_cases h3:j % 64<i % 64
    ·simp [h3]
    ·rw [show (1#64).getLsbD (j % 64 - i % 64)=false from by rw [BitVec.getLsbD_one];simp;omega];simp
   rw [this,Bool.or_false]
 ·rw [List.getElem?_set_ne h,decide_eq_false (by intro hh;subst hh;exact h rfl),Bool.or_false]
theorem zcl (j:Nat):sBit sNil j=false:=by
 unfold sBit sNil nth;rw [List.getD_eq_getElem?_getD,List.getElem?_replicate]
 split
 ·simp
 ·exact BitVec.getLsbD_zero
theorem zhO (l:List Int)(hl:∀x∈l,0≤x∧x≤511)(j:Int):sHas (zdu l) j=true↔j∈l:=by
 have key:∀(l:List Int) (s:Ws),s.length=8→(∀x∈l,0≤x∧x≤511)→∀j:Nat,j<512→(sBit (l.foldl (fun s i=>sAdd s i.toNat) s) j=true↔sBit s j=true∨(j:Int)∈l):=by
  intro l
  induction l with
  |nil=>intro s _ _ j _;simp
  |cons x r ih=>
   intro s hs hx j hj;have h1:=hx x (by simp);rw [List.foldl_cons,ih _ (by rw [za4,hs]) (fun y hy=>hx y (by simp [hy])) j hj,zdN hs (by omega) hj];simp only [Bool.or_eq_true,decide_eq_true_eq,List.mem_cons];constructor
   ·rintro ((h|h)|h)
    ·exact .inl h
    ·exact .inr (.inl (by omega))
    ·exact .inr (.inr h)
   ·rintro (h|h|h)
    ·exact .inl (.inl h)
    ·exact .inl (.inr (by omega))
    ·exact .inr h
 unfold sHas inB;by_cases h:0≤j∧j≤511
 ·rw [decide_eq_true h.1,decide_eq_true h.2,Bool.and_true,Bool.true_and,show sBit (zdu l) j.toNat=true↔_ from key l sNil (by rfl) hl j.toNat (by omega),zcl,Int.toNat_of_nonneg h.1];simp
 ·constructor
  ·intro hh;simp only [Bool.and_eq_true,decide_eq_true_eq] at hh;exact absurd hh.1 h
  ·intro hm;exact absurd (hl j hm) h
def Pb.has (P:Pb)(i:Int):Bool:=sHas (zdu (P.ds.map (·.st))) i
def Pb.ok (P:Pb):Bool:=allB Dx.ok P.ds&&(P.rulesOk&&(incB (fun a b=>cmpI a.st b.st) P.ds&&(allB (fun x:Pr=>P.has x.a&&P.has x.b) P.ps&&(allB (fun x:Ld=>P.has x.to&&P.has x.fr) P.ls&&allB (fun x:Cp=>P.has x.st) P.cs))))
theorem ziK {α:Type}[Inhabited α]{q:α→Bool}{xs:List α}:allB q xs=true↔∀k,k<xs.length→q (nth xs k)=true:=by
 unfold allB;rw [List.all_eq_true];simp only [List.mem_range]
theorem allB_mem {α:Type}[Inhabited α]{q:α→Bool}{xs:List α}:allB q xs=true↔∀x∈xs,q x=true:=by
 rw [ziK];constructor
 ·intro h x hx;obtain ⟨k,hk,rfl⟩:=List.mem_iff_getElem.1 hx;rw [←zam hk];exact h k hk
 ·intro h k hk;exact h _ (zaI hk)
theorem incB_iff {α:Type}[Inhabited α]{c:α→α→Int}{xs:List α}:incB c xs=true↔∀k,k+1<xs.length→c (nth xs k) (nth xs (k+1))<0:=by
 unfold incB;rw [List.all_eq_true];simp only [List.mem_range];constructor
 ·intro h k hk;have:=h (k+1) hk;simp at this;omega
 ·intro h k hk
  cases k with
  |zero=>rfl
  |succ k=>have:=h k hk;simp;omega
theorem cmpI_neg {a b:Int}:cmpI a b<0↔a<b:=by unfold cmpI;split <;> (try split) <;> omega
theorem zhJ {α:Type}[Inhabited α]{f:α→Int}{xs:List α}(hi:incB (fun a b=>cmpI (f a) (f b)) xs=true)(h0:∀x∈xs,0≤f x):∀k,k<xs.length→(k:Int)≤f (nth xs k)
 |0,h=>h0 _ (zaI h)
 |k+1,h=>by
  have h1:=zhJ hi h0 k (by omega);have h2:=cmpI_neg.1 (incB_iff.1 hi k h);omega
theorem zhG {xs:List Dx}(hi:incB (fun a b:Dx=>cmpI a.st b.st) xs=true)(hr:allB Dx.ok xs=true):xs.length≤512:=by
 have hst:∀x∈xs,0≤x.st∧x.st≤511:=fun x hx=>by
  have:=allB_mem.1 hr x hx;simp only [Dx.ok,inB,Bool.and_eq_true,decide_eq_true_eq] at this;exact this.1
 rcases Nat.lt_or_ge 512 xs.length with h|h
 ·have h1:=zhJ (f:=Dx.st) hi (fun x hx=>(hst x hx).1) 512 h;have h2:=hst _ (zaI h);omega
 ·exact h
theorem zg8 (c:Int)(w:World):Calls Tryd.prog 67 #[.int .i64 c] w fun e w'=>e= .returned (.bool (inB c 2 51))∧Below w.heap.size w w':=by
 refine zaa (M:=fun _=>False) (hs:=[]) Tryd.func67 rfl rfl rfl (Hp.refl _ _) ?_;refine T.sr ?_;refine TL.run 1 rfl ?_;refine TL.nx ?_;refine TL.run 1 rfl ?_; (refine TL.ew (Wt.none rfl) rfl rfl (Ew.af rfl rfl rfl (fun w hw=>zbJ _ _ _ _)) ?_;rintro _ _ ⟨rfl,rfl⟩);refine TL.run 1 rfl ?_;refine TL.ns (T.ret ?_);refine K.ah rfl rfl (fun w' hw=>⟨?_,hw.isBelow⟩)
 rfl
theorem zep (d:Dx)(w:World)(h:zdV w d.v d.chs)(hl:d.chs.length≤9223372036854775807):Calls Tryd.prog 47 #[.agg (Dx.cells d).toArray] w fun e w'=>e= .returned (.bool d.ok)∧Below w.heap.size w w':=by
 haveI:=h.one;refine zaa (M:=fun _=>False) (hs:=[]) Tryd.func47 rfl rfl rfl (Hp.refl _ _) ?_;simp only [Dx.cells];refine T.sr ?_; (refine TL.ew (Wt.none rfl) rfl rfl (Ew.aA rfl rfl) ?_;rintro _ _ ⟨g1,rfl,rfl⟩);refine TL.run 1 rfl ?_;refine TL.nx ?_;refine TL.run 1 rfl ?_;refine TL.nx ?_;refine TL.y (Yv.fieldAddr rfl rfl) ?_;refine TL.y (Yv.ac 0 rfl rfl rfl rfl) ?_; (refine TL.ew (Wt.none rfl) rfl rfl (Ew.af rfl rfl rfl (fun w hw=>zbb _ _)) ?_;rintro _ _ ⟨rfl,rfl⟩);refine TL.run 1 rfl ?_;refine TL.ak rfl rfl rfl (fun h1=>?_) (fun h1=>?_)
 ·have p1:=h1; (try simp only [nfB] at p1);refine TL.yv (Wt.some rfl rfl rfl h1) rfl rfl (Yv.fieldAddr rfl rfl) ?_;refine TL.yv (Wt.some rfl rfl rfl h1) rfl rfl (Yv.ac 0 rfl rfl rfl rfl) ?_;refine TL.yv (Wt.some rfl rfl rfl h1) rfl rfl (Yv.au rfl) ?_; (refine TL.ew (Wt.some rfl rfl rfl h1) rfl rfl (Ew.af rfl rfl rfl (fun w hw=>zi3 (q:=fun c=>inB c 2 51) d.chs _ _ #[] w (h.kept hw) (fun k hk w1 hb=>zg8 _ w1) hl)) ?_;rintro _ _ ⟨rfl,rfl⟩);refine TL.y (Yv.am rfl rfl h1 rfl) ?_;refine TL.run 1 rfl ?_;refine TL.ak rfl rfl rfl (fun h2=>?_) (fun h2=>?_)
  ·have p2:=h2; (try simp only [nfB] at p2);refine TL.yv (Wt.some rfl rfl rfl h2) rfl rfl (Yv.fieldAddr rfl rfl) ?_;refine TL.yv (Wt.some rfl rfl rfl h2) rfl rfl (Yv.ac 0 rfl rfl rfl rfl) ?_; (refine TL.ew (Wt.some rfl rfl rfl h2) rfl rfl (Ew.af rfl rfl rfl (fun w hw=>zeR (c:=cmpI) d.chs _ _ w (h.kept hw) (fun x y w1=>zax x y w1) hl)) ?_;rintro _ _ ⟨rfl,rfl⟩);refine TL.y (Yv.am rfl rfl h2 rfl) ?_;refine TL.run 1 rfl ?_;refine TL.ns (T.ret ?_);refine K.ah rfl rfl (fun w' hw=>⟨?_,hw.isBelow⟩);exact zae (by simp only [Dx.ok, *,Bool.not_true,Bool.not_false,Bool.or_false,Bool.false_or,Bool.or_true,Bool.true_or,Bool.and_false,Bool.false_and,Bool.true_and,Bool.and_true,Bool.or_self,Bool.and_self,Bool.not_not,decide_true,decide_false,not_true_eq_false,not_false_eq_true,cond_true,cond_false])
  ·have p2:=h2; (try simp only [nfB] at p2);refine TL.off (Wt.not rfl rfl rfl h2) rfl rfl ?_;refine TL.off (Wt.not rfl rfl rfl h2) rfl rfl ?_;refine TL.off (Wt.not rfl rfl rfl h2) rfl rfl ?_;refine TL.y (Yv.an rfl rfl h2 rfl) ?_;refine TL.run 1 rfl ?_;refine TL.ns (T.ret ?_);refine K.ah rfl rfl (fun w' hw=>⟨?_,hw.isBelow⟩);exact zae (by simp only [Dx.ok, *,Bool.not_true,Bool.not_false,Bool.or_false,Bool.false_or,Bool.or_true,Bool.true_or,Bool.and_false,Bool.false_and,Bool.true_and,Bool.and_true,Bool.or_self,Bool.and_self,Bool.not_not,decide_true,decide_false,not_true_eq_false,not_false_eq_true,cond_true,cond_false])
 ·have p1:=h1; (try simp only [nfB] at p1);refine TL.off (Wt.not rfl rfl rfl h1) rfl rfl ?_;refine TL.off (Wt.not rfl rfl rfl h1) rfl rfl ?_;refine TL.off (Wt.not rfl rfl rfl h1) rfl rfl ?_;refine TL.off (Wt.not rfl rfl rfl h1) rfl rfl ?_;refine TL.y (Yv.an rfl rfl h1 rfl) ?_;refine TL.run 6 rfl ?_;refine TL.ns (T.ret ?_);refine K.ah rfl rfl (fun w' hw=>⟨?_,hw.isBelow⟩);exact zae (by simp only [Dx.ok, *,Bool.not_true,Bool.not_false,Bool.or_false,Bool.false_or,Bool.or_true,Bool.true_or,Bool.and_false,Bool.false_and,Bool.true_and,Bool.and_true,Bool.or_self,Bool.and_self,Bool.not_not,decide_true,decide_false,not_true_eq_false,not_false_eq_true,cond_true,cond_false])
theorem zeV (x y:Dx)(hx:OneC x.v)(hy:OneC y.v)(w:World):Calls Tryd.prog 49 #[.agg (Dx.cells x).toArray, .agg (Dx.cells y).toArray] w fun e w'=>e= .returned (.int .i64 (cmpI x.st y.st))∧Below w.heap.size w w':=by
 refine zaa (M:=fun _=>False) (hs:=[]) Tryd.func49 rfl rfl rfl (Hp.refl _ _) ?_;simp only [Dx.cells];refine T.sr ?_; (refine TL.ew (Wt.none rfl) rfl rfl (Ew.aA rfl rfl) ?_;rintro _ _ ⟨g2,rfl,rfl⟩); (refine TL.ew (Wt.none rfl) rfl rfl (Ew.aA rfl rfl) ?_;rintro _ _ ⟨g3,rfl,rfl⟩);refine TL.run 1 rfl ?_;refine TL.nx ?_;refine TL.y (Yv.fieldAddr rfl rfl) ?_;refine TL.y (Yv.ac 1 rfl rfl rfl rfl) ?_;refine TL.y (Yv.fieldAddr rfl rfl) ?_;refine TL.y (Yv.ac 0 rfl rfl rfl rfl) ?_; (refine TL.ew (Wt.none rfl) rfl rfl (Ew.af rfl rfl rfl (fun w hw=>zax _ _ _)) ?_;rintro _ _ ⟨rfl,rfl⟩);refine TL.run 1 rfl ?_;refine TL.ns (T.ret ?_);refine K.ah rfl rfl (fun w' hw=>⟨?_,hw.isBelow⟩)
 rfl
theorem zem (P:Pb)(vp vl vc:Value)(w:World)(h:RulesAt w vp vl vc P):Calls Tryd.prog 48 #[.agg [vp,vl,vc].toArray] w fun e w'=>e= .returned (.bool P.rulesOk)∧Below w.heap.size w w':=by
 obtain ⟨A1,cap1,rfl, -⟩:=h.ps.op;obtain ⟨A2,cap2,rfl, -⟩:=h.ls.op;obtain ⟨A3,cap3,rfl, -⟩:=h.cs.op;refine zaa (M:=fun _=>False) (hs:=[]) Tryd.func48 rfl rfl rfl (Hp.refl _ _) ?_;refine T.sr ?_; (refine TL.ew (Wt.none rfl) rfl rfl (Ew.aA rfl rfl) ?_;rintro _ _ ⟨g1,rfl,rfl⟩);refine TL.run 1 rfl ?_;refine TL.nx ?_;refine TL.y (Yv.fieldAddr rfl rfl) ?_;refine TL.y (Yv.ac 0 rfl rfl rfl rfl) ?_;refine TL.y (Yv.aq rfl rfl) ?_;refine TL.run 2 rfl ?_;refine TL.ak rfl rfl rfl (fun h1=>?_) (fun h1=>?_)
 ·have p1:=h1; (try simp only [nfB] at p1);refine TL.yv (Wt.some rfl rfl rfl h1) rfl rfl (Yv.fieldAddr rfl rfl) ?_;refine TL.yv (Wt.some rfl rfl rfl h1) rfl rfl (Yv.ac 0 rfl rfl rfl rfl) ?_; (refine TL.ew (Wt.some rfl rfl rfl h1) rfl rfl (Ew.af rfl rfl rfl (fun w hw=>zhw (q:=Pr.ok) P.ps _ 70 #[] w (h.ps.kept hw) (fun k hk w1 hb=>zfI _ w1) h.hps)) ?_;rintro _ _ ⟨rfl,rfl⟩);refine TL.y (Yv.am rfl rfl h1 rfl) ?_;refine TL.run 1 rfl ?_;refine TL.ak rfl rfl rfl (fun h2=>?_) (fun h2=>?_)
  ·have p2:=h2; (try simp only [nfB] at p2);refine TL.yv (Wt.some rfl rfl rfl h2) rfl rfl (Yv.fieldAddr rfl rfl) ?_;refine TL.yv (Wt.some rfl rfl rfl h2) rfl rfl (Yv.ac 0 rfl rfl rfl rfl) ?_; (refine TL.ew (Wt.some rfl rfl rfl h2) rfl rfl (Ew.af rfl rfl rfl (fun w hw=>ze8 (c:=Pr.cmp) P.ps _ 72 w (h.ps.kept hw) (fun x y w1=>zdJ x y w1) h.hps)) ?_;rintro _ _ ⟨rfl,rfl⟩);refine TL.y (Yv.am rfl rfl h2 rfl) ?_;refine TL.run 1 rfl ?_;refine TL.ak rfl rfl rfl (fun h3=>?_) (fun h3=>?_)
   ·have p3:=h3; (try simp only [nfB] at p3);refine TL.yv (Wt.some rfl rfl rfl h3) rfl rfl (Yv.fieldAddr rfl rfl) ?_;refine TL.yv (Wt.some rfl rfl rfl h3) rfl rfl (Yv.ac 0 rfl rfl rfl rfl) ?_;refine TL.yv (Wt.some rfl rfl rfl h3) rfl rfl (Yv.aq rfl rfl) ?_;refine TL.yv (Wt.some rfl rfl rfl h3) rfl rfl (Yv.au rfl) ?_;refine TL.y (Yv.am rfl rfl h3 rfl) ?_;refine TL.run 1 rfl ?_;refine TL.ak rfl rfl rfl (fun h4=>?_) (fun h4=>?_)
    ·have p4:=h4; (try simp only [nfB] at p4);refine TL.yv (Wt.some rfl rfl rfl h4) rfl rfl (Yv.fieldAddr rfl rfl) ?_;refine TL.yv (Wt.some rfl rfl rfl h4) rfl rfl (Yv.ac 0 rfl rfl rfl rfl) ?_; (refine TL.ew (Wt.some rfl rfl rfl h4) rfl rfl (Ew.af rfl rfl rfl (fun w hw=>zhY (q:=Ld.ok) P.ls _ 73 #[] w (h.ls.kept hw) (fun k hk w1 hb=>zfv _ w1) h.hls)) ?_;rintro _ _ ⟨rfl,rfl⟩);refine TL.y (Yv.am rfl rfl h4 rfl) ?_;refine TL.run 1 rfl ?_;refine TL.ak rfl rfl rfl (fun h5=>?_) (fun h5=>?_)
     ·have p5:=h5; (try simp only [nfB] at p5);refine TL.yv (Wt.some rfl rfl rfl h5) rfl rfl (Yv.fieldAddr rfl rfl) ?_;refine TL.yv (Wt.some rfl rfl rfl h5) rfl rfl (Yv.ac 0 rfl rfl rfl rfl) ?_; (refine TL.ew (Wt.some rfl rfl rfl h5) rfl rfl (Ew.af rfl rfl rfl (fun w hw=>zfp (c:=Ld.cmp) P.ls _ 75 w (h.ls.kept hw) (fun x y w1=>zdH x y w1) h.hls)) ?_;rintro _ _ ⟨rfl,rfl⟩);refine TL.y (Yv.am rfl rfl h5 rfl) ?_;refine TL.run 1 rfl ?_;refine TL.ak rfl rfl rfl (fun h6=>?_) (fun h6=>?_)
      ·have p6:=h6; (try simp only [nfB] at p6);refine TL.yv (Wt.some rfl rfl rfl h6) rfl rfl (Yv.fieldAddr rfl rfl) ?_;refine TL.yv (Wt.some rfl rfl rfl h6) rfl rfl (Yv.ac 0 rfl rfl rfl rfl) ?_;refine TL.yv (Wt.some rfl rfl rfl h6) rfl rfl (Yv.aq rfl rfl) ?_;refine TL.yv (Wt.some rfl rfl rfl h6) rfl rfl (Yv.au rfl) ?_;refine TL.y (Yv.am rfl rfl h6 rfl) ?_;refine TL.run 1 rfl ?_;refine TL.ak rfl rfl rfl (fun h7=>?_) (fun h7=>?_)
       ·have p7:=h7; (try simp only [nfB] at p7);refine TL.yv (Wt.some rfl rfl rfl h7) rfl rfl (Yv.fieldAddr rfl rfl) ?_;refine TL.yv (Wt.some rfl rfl rfl h7) rfl rfl (Yv.ac 0 rfl rfl rfl rfl) ?_; (refine TL.ew (Wt.some rfl rfl rfl h7) rfl rfl (Ew.af rfl rfl rfl (fun w hw=>zih (q:=Cp.ok) P.cs _ 76 #[] w (h.cs.kept hw) (fun k hk w1 hb=>zgc _ w1) h.hcs)) ?_;rintro _ _ ⟨rfl,rfl⟩);refine TL.y (Yv.am rfl rfl h7 rfl) ?_;refine TL.run 1 rfl ?_;refine TL.ak rfl rfl rfl (fun h8=>?_) (fun h8=>?_)
        ·have p8:=h8; (try simp only [nfB] at p8);refine TL.yv (Wt.some rfl rfl rfl h8) rfl rfl (Yv.fieldAddr rfl rfl) ?_;refine TL.yv (Wt.some rfl rfl rfl h8) rfl rfl (Yv.ac 0 rfl rfl rfl rfl) ?_; (refine TL.ew (Wt.some rfl rfl rfl h8) rfl rfl (Ew.af rfl rfl rfl (fun w hw=>zft (c:=Cp.cmp) P.cs _ 78 w (h.cs.kept hw) (fun x y w1=>zeg x y w1) h.hcs)) ?_;rintro _ _ ⟨rfl,rfl⟩);refine TL.y (Yv.am rfl rfl h8 rfl) ?_;refine TL.run 1 rfl ?_;refine TL.ns (T.ret ?_);refine K.ah rfl rfl (fun w' hw=>⟨?_,hw.isBelow⟩);exact zae (by simp only [Pb.rulesOk, *,Bool.not_true,Bool.not_false,Bool.or_false,Bool.false_or,Bool.or_true,Bool.true_or,Bool.and_false,Bool.false_and,Bool.true_and,Bool.and_true,Bool.or_self,Bool.and_self,Bool.not_not,decide_true,decide_false,not_true_eq_false,not_false_eq_true,cond_true,cond_false])
        ·have p8:=h8; (try simp only [nfB] at p8);refine TL.off (Wt.not rfl rfl rfl h8) rfl rfl ?_;refine TL.off (Wt.not rfl rfl rfl h8) rfl rfl ?_;refine TL.off (Wt.not rfl rfl rfl h8) rfl rfl ?_;refine TL.y (Yv.an rfl rfl h8 rfl) ?_;refine TL.run 1 rfl ?_;refine TL.ns (T.ret ?_);refine K.ah rfl rfl (fun w' hw=>⟨?_,hw.isBelow⟩);exact zae (by simp only [Pb.rulesOk, *,Bool.not_true,Bool.not_false,Bool.or_false,Bool.false_or,Bool.or_true,Bool.true_or,Bool.and_false,Bool.false_and,Bool.true_and,Bool.and_true,Bool.or_self,Bool.and_self,Bool.not_not,decide_true,decide_false,not_true_eq_false,not_false_eq_true,cond_true,cond_false])
       ·have p7:=h7; (try simp only [nfB] at p7);refine TL.off (Wt.not rfl rfl rfl h7) rfl rfl ?_;refine TL.off (Wt.not rfl rfl rfl h7) rfl rfl ?_;refine TL.off (Wt.not rfl rfl rfl h7) rfl rfl ?_;refine TL.y (Yv.an rfl rfl h7 rfl) ?_;refine TL.run 6 rfl ?_;refine TL.ns (T.ret ?_);refine K.ah rfl rfl (fun w' hw=>⟨?_,hw.isBelow⟩);exact zae (by simp only [Pb.rulesOk, *,Bool.not_true,Bool.not_false,Bool.or_false,Bool.false_or,Bool.or_true,Bool.true_or,Bool.and_false,Bool.false_and,Bool.true_and,Bool.and_true,Bool.or_self,Bool.and_self,Bool.not_not,decide_true,decide_false,not_true_eq_false,not_false_eq_true,cond_true,cond_false])
      ·have p6:=h6; (try simp only [nfB] at p6);refine TL.off (Wt.not rfl rfl rfl h6) rfl rfl ?_;refine TL.off (Wt.not rfl rfl rfl h6) rfl rfl ?_;refine TL.off (Wt.not rfl rfl rfl h6) rfl rfl ?_;refine TL.off (Wt.not rfl rfl rfl h6) rfl rfl ?_;refine TL.y (Yv.an rfl rfl h6 rfl) ?_;refine TL.run 11 rfl ?_;refine TL.ns (T.ret ?_);refine K.ah rfl rfl (fun w' hw=>⟨?_,hw.isBelow⟩);exact zae (by simp only [Pb.rulesOk, *,Bool.not_true,Bool.not_false,Bool.or_false,Bool.false_or,Bool.or_true,Bool.true_or,Bool.and_false,Bool.false_and,Bool.true_and,Bool.and_true,Bool.or_self,Bool.and_self,Bool.not_not,decide_true,decide_false,not_true_eq_false,not_false_eq_true,cond_true,cond_false])
     ·have p5:=h5; (try simp only [nfB] at p5);refine TL.off (Wt.not rfl rfl rfl h5) rfl rfl ?_;refine TL.off (Wt.not rfl rfl rfl h5) rfl rfl ?_;refine TL.off (Wt.not rfl rfl rfl h5) rfl rfl ?_;refine TL.y (Yv.an rfl rfl h5 rfl) ?_;refine TL.run 17 rfl ?_;refine TL.ns (T.ret ?_);refine K.ah rfl rfl (fun w' hw=>⟨?_,hw.isBelow⟩);exact zae (by simp only [Pb.rulesOk, *,Bool.not_true,Bool.not_false,Bool.or_false,Bool.false_or,Bool.or_true,Bool.true_or,Bool.and_false,Bool.false_and,Bool.true_and,Bool.and_true,Bool.or_self,Bool.and_self,Bool.not_not,decide_true,decide_false,not_true_eq_false,not_false_eq_true,cond_true,cond_false])
    ·have p4:=h4; (try simp only [nfB] at p4);refine TL.off (Wt.not rfl rfl rfl h4) rfl rfl ?_;refine TL.off (Wt.not rfl rfl rfl h4) rfl rfl ?_;refine TL.off (Wt.not rfl rfl rfl h4) rfl rfl ?_;refine TL.y (Yv.an rfl rfl h4 rfl) ?_;refine TL.run 22 rfl ?_;refine TL.ns (T.ret ?_);refine K.ah rfl rfl (fun w' hw=>⟨?_,hw.isBelow⟩);exact zae (by simp only [Pb.rulesOk, *,Bool.not_true,Bool.not_false,Bool.or_false,Bool.false_or,Bool.or_true,Bool.true_or,Bool.and_false,Bool.false_and,Bool.true_and,Bool.and_true,Bool.or_self,Bool.and_self,Bool.not_not,decide_true,decide_false,not_true_eq_false,not_false_eq_true,cond_true,cond_false])
   ·have p3:=h3; (try simp only [nfB] at p3);refine TL.off (Wt.not rfl rfl rfl h3) rfl rfl ?_;refine TL.off (Wt.not rfl rfl rfl h3) rfl rfl ?_;refine TL.off (Wt.not rfl rfl rfl h3) rfl rfl ?_;refine TL.off (Wt.not rfl rfl rfl h3) rfl rfl ?_;refine TL.y (Yv.an rfl rfl h3 rfl) ?_;refine TL.run 27 rfl ?_;refine TL.ns (T.ret ?_);refine K.ah rfl rfl (fun w' hw=>⟨?_,hw.isBelow⟩);exact zae (by simp only [Pb.rulesOk, *,Bool.not_true,Bool.not_false,Bool.or_false,Bool.false_or,Bool.or_true,Bool.true_or,Bool.and_false,Bool.false_and,Bool.true_and,Bool.and_true,Bool.or_self,Bool.and_self,Bool.not_not,decide_true,decide_false,not_true_eq_false,not_false_eq_true,cond_true,cond_false])
  ·have p2:=h2; (try simp only [nfB] at p2);refine TL.off (Wt.not rfl rfl rfl h2) rfl rfl ?_;refine TL.off (Wt.not rfl rfl rfl h2) rfl rfl ?_;refine TL.off (Wt.not rfl rfl rfl h2) rfl rfl ?_;refine TL.y (Yv.an rfl rfl h2 rfl) ?_;refine TL.run 33 rfl ?_;refine TL.ns (T.ret ?_);refine K.ah rfl rfl (fun w' hw=>⟨?_,hw.isBelow⟩);exact zae (by simp only [Pb.rulesOk, *,Bool.not_true,Bool.not_false,Bool.or_false,Bool.false_or,Bool.or_true,Bool.true_or,Bool.and_false,Bool.false_and,Bool.true_and,Bool.and_true,Bool.or_self,Bool.and_self,Bool.not_not,decide_true,decide_false,not_true_eq_false,not_false_eq_true,cond_true,cond_false])
 ·have p1:=h1; (try simp only [nfB] at p1);refine TL.off (Wt.not rfl rfl rfl h1) rfl rfl ?_;refine TL.off (Wt.not rfl rfl rfl h1) rfl rfl ?_;refine TL.off (Wt.not rfl rfl rfl h1) rfl rfl ?_;refine TL.y (Yv.an rfl rfl h1 rfl) ?_;refine TL.run 38 rfl ?_;refine TL.ns (T.ret ?_);refine K.ah rfl rfl (fun w' hw=>⟨?_,hw.isBelow⟩);exact zae (by simp only [Pb.rulesOk, *,Bool.not_true,Bool.not_false,Bool.or_false,Bool.false_or,Bool.or_true,Bool.true_or,Bool.and_false,Bool.false_and,Bool.true_and,Bool.and_true,Bool.or_self,Bool.and_self,Bool.not_not,decide_true,decide_false,not_true_eq_false,not_false_eq_true,cond_true,cond_false])
theorem zcX (i:Int)(w:World):Calls Tryd.prog 81 #[.int .i64 i] w fun e w'=>e= .returned (.bool (inB i 0 511))∧Below w.heap.size w w':=by
 refine zaa (M:=fun _=>False) (hs:=[]) Tryd.func81 rfl rfl rfl (Hp.refl _ _) ?_;refine T.sr ?_;refine TL.run 1 rfl ?_;refine TL.nx ?_;refine TL.run 3 rfl ?_;refine TL.ak rfl rfl rfl (fun h1=>?_) (fun h1=>?_)
 ·have p1:=h1; (try simp only [nfB] at p1);refine TL.yv (Wt.some rfl rfl rfl h1) rfl rfl (Yv.au rfl) ?_;refine TL.yv (Wt.some rfl rfl rfl h1) rfl rfl (Yv.au rfl) ?_;refine TL.y (Yv.am rfl rfl h1 rfl) ?_;refine TL.run 1 rfl ?_;refine TL.ns (T.ret ?_);refine K.ah rfl rfl (fun w' hw=>⟨?_,hw.isBelow⟩);refine zae ?_;simp only [inB, *,Bool.not_true,Bool.not_false,Bool.or_false,Bool.false_or,Bool.or_true,Bool.true_or,Bool.and_false,Bool.false_and,Bool.true_and,Bool.and_true,Bool.or_self,Bool.and_self,Bool.not_not,decide_true,decide_false,not_true_eq_false,not_false_eq_true,cond_true,cond_false]; (try exact decide_eq_decide.2 (by omega))
 ·have p1:=h1; (try simp only [nfB] at p1);refine TL.off (Wt.not rfl rfl rfl h1) rfl rfl ?_;refine TL.off (Wt.not rfl rfl rfl h1) rfl rfl ?_;refine TL.y (Yv.an rfl rfl h1 rfl) ?_;refine TL.run 1 rfl ?_;refine TL.ns (T.ret ?_);refine K.ah rfl rfl (fun w' hw=>⟨?_,hw.isBelow⟩);refine zae ?_;simp only [inB, *,Bool.not_true,Bool.not_false,Bool.or_false,Bool.false_or,Bool.or_true,Bool.true_or,Bool.and_false,Bool.false_and,Bool.true_and,Bool.and_true,Bool.or_self,Bool.and_self,Bool.not_not,decide_true,decide_false,not_true_eq_false,not_false_eq_true,cond_true,cond_false]; (try exact decide_eq_decide.2 (by omega))
theorem zea (ws:Ws)(hws:ws.length=8)(i:Int)(w:World):Calls Tryd.prog 55 #[.agg ws.cells.toArray, .int .i64 i] w fun e w'=>e= .returned (.bool (sHas ws i))∧Below w.heap.size w w':=by
 refine zaa (M:=fun _=>False) (hs:=[]) Tryd.func55 rfl rfl rfl (Hp.refl _ _) ?_;refine T.sr ?_; (refine TL.ew (Wt.none rfl) rfl rfl (Ew.aA rfl rfl) ?_;rintro _ _ ⟨g2,rfl,rfl⟩);refine TL.run 1 rfl ?_;refine TL.nx ?_;refine TL.run 1 rfl ?_; (refine TL.ew (Wt.none rfl) rfl rfl (Ew.af rfl rfl rfl (fun w hw=>zcX _ _)) ?_;rintro _ _ ⟨rfl,rfl⟩);refine TL.run 1 rfl ?_;refine TL.ak rfl rfl rfl (fun h1=>?_) (fun h1=>?_)
 ·have p1:=h1; (try simp only [nfB] at p1); (try simp only [inB,Bool.and_eq_true,decide_eq_true_eq] at p1); (try have hld:=Ws.get (ws:=ws) (i:=i.toNat / 64) (p:=0+0+i.toNat / 64*1) (by omega) (by omega));refine TL.yv (Wt.some rfl rfl rfl h1) rfl rfl (Yv.au rfl) ?_;refine TL.yv (Wt.some rfl rfl rfl h1) rfl rfl (Yv.bJ rfl rfl rfl (by omega)) ?_;refine TL.yv (Wt.some rfl rfl rfl h1) rfl rfl (Yv.fieldAddr rfl rfl) ?_;refine TL.yv (Wt.some rfl rfl rfl h1) rfl rfl (Yv.as rfl rfl rfl (show i / 64=((i.toNat / 64:Nat):Int) from by omega) (by omega)) ?_;refine TL.yv (Wt.some rfl rfl rfl h1) rfl rfl (Yv.ac 0 rfl rfl rfl hld) ?_;refine TL.yv (Wt.some rfl rfl rfl h1) rfl rfl (Yv.au rfl) ?_;refine TL.yv (Wt.some rfl rfl rfl h1) rfl rfl (Yv.by rfl rfl rfl (by omega)) ?_;refine TL.yv (Wt.some rfl rfl rfl h1) rfl rfl (Yv.aY (i.toNat % 64) rfl rfl rfl (by omega) (by omega)) ?_;refine TL.yv (Wt.some rfl rfl rfl h1) rfl rfl (Yv.aV (b:=1#64) rfl rfl rfl) ?_;refine TL.yv (Wt.some rfl rfl rfl h1) rfl rfl (Yv.au rfl) ?_;refine TL.y (Yv.am rfl rfl h1 rfl) ?_;refine TL.run 1 rfl ?_;refine TL.ns (T.ret ?_);refine K.ah rfl rfl (fun w' hw=>⟨?_,hw.isBelow⟩);exact zae (by simp only [sHas,sBit,ze1, *,Bool.not_true,Bool.not_false,Bool.or_false,Bool.false_or,Bool.or_true,Bool.true_or,Bool.and_false,Bool.false_and,Bool.true_and,Bool.and_true,Bool.or_self,Bool.and_self,Bool.not_not,decide_true,decide_false,not_true_eq_false,not_false_eq_true,cond_true,cond_false])
 ·have p1:=h1; (try simp only [nfB] at p1); (try simp only [inB,Bool.and_eq_true,decide_eq_true_eq] at p1); (try have hld:=Ws.get (ws:=ws) (i:=i.toNat / 64) (p:=0+0+i.toNat / 64*1) (by omega) (by omega));refine TL.off (Wt.not rfl rfl rfl h1) rfl rfl ?_;refine TL.off (Wt.not rfl rfl rfl h1) rfl rfl ?_;refine TL.off (Wt.not rfl rfl rfl h1) rfl rfl ?_;refine TL.off (Wt.not rfl rfl rfl h1) rfl rfl ?_;refine TL.off (Wt.not rfl rfl rfl h1) rfl rfl ?_;refine TL.off (Wt.not rfl rfl rfl h1) rfl rfl ?_;refine TL.off (Wt.not rfl rfl rfl h1) rfl rfl ?_;refine TL.off (Wt.not rfl rfl rfl h1) rfl rfl ?_;refine TL.off (Wt.not rfl rfl rfl h1) rfl rfl ?_;refine TL.off (Wt.not rfl rfl rfl h1) rfl rfl ?_;refine TL.y (Yv.an rfl rfl h1 rfl) ?_;refine TL.run 1 rfl ?_;refine TL.ns (T.ret ?_);refine K.ah rfl rfl (fun w' hw=>⟨?_,hw.isBelow⟩);exact zae (by simp only [sHas,sBit,ze1, *,Bool.not_true,Bool.not_false,Bool.or_false,Bool.false_or,Bool.or_true,Bool.true_or,Bool.and_false,Bool.false_and,Bool.true_and,Bool.and_true,Bool.or_self,Bool.and_self,Bool.not_not,decide_true,decide_false,not_true_eq_false,not_false_eq_true,cond_true,cond_false])
theorem zj3 (l:List Int)(v:Value)(w:World)(h:zdV w v l)(hl:l.length≤9223372036854775807)(hr:∀x∈l,0≤x∧x≤511):Calls Tryd.prog 80 #[v] w fun e w'=>e= .returned (.tuple #[.agg (Ws.cells (zdu l)).toArray, .int .i64 0])∧Below w.heap.size w w':=by
 obtain ⟨A,cap,rfl,hsl⟩:=h.op;refine zaa (M:=fun _=>False) (hs:=[]) Tryd.func80 rfl rfl rfl (Hp.refl _ _) ?_;refine T.sr ?_; (refine TL.ew (Wt.none rfl) rfl rfl (Ew.alloc rfl) ?_;rintro _ _ ⟨g2,rfl,rfl⟩);refine TL.run 1 rfl ?_;refine TL.nx ?_; (refine TL.ew (Wt.none rfl) rfl rfl (Ew.alloc rfl) ?_;rintro _ _ ⟨g4,rfl,rfl⟩);refine TL.ns (T.seq (T.sr ?_));refine TL.run 1 rfl ?_;refine TL.y (Yv.aq rfl rfl) ?_;refine TL.run 1 rfl ?_;refine TL.ns (T.block ?_);refine T.loop (ι:=Nat) (fun k=>[(2, .pointer (some ⟨g2,0,none⟩)),(4, .pointer (some ⟨g4,0,none⟩)),(7, .slice A l.length cap),(8, .int .i64 (l.length:Int)),(9, .int .i64 (k:Int))]) (fun k=>[.row g4 112 (Ws.cells (zdu (l.take k))), .row g2 112 (Ws.cells sNil)]) (fun k=>k≤l.length) (fun k=>l.length - k) 0 ?_ ?_ ?_ ?_
 ·omega
 ·exact (by repeat (first|exact Sub.nil|refine Sub.cons rfl ?_))
 ·exact Sx
 ·intro k hphi;have hlen:=zaP (l.take k); (have hsl8:(Ws.cells (zdu (l.take k))).length=8:=by rw [List.length_map,hlen]);refine T.sr ?_;refine TL.run 1 rfl ?_;refine TL.ns (T.seq ?_);refine T.cond rfl (fun h1=>?_) (fun h1=>?_)
  ·have p1:=h1; (try simp only [nfB] at p1);obtain ⟨g,off,rfl,hc⟩:=hsl (by omega);have hk:=hc k (by omega);simp only [Ie] at hk;have hr1:=hr _ (zaI (xs:=l) (k:=k) (by omega));have hld:=Ws.get (ws:=zdu (l.take k)) (i:=(nth l k).toNat / 64) (p:=0+0+(nth l k).toNat / 64*1) (by omega) (by omega);refine T.skip (K.seq (T.seq (T.block (T.sr ?_))));refine TL.y (Yv.ag rfl rfl rfl rfl (by omega)) ?_;refine TL.y (Yv.loadC (j:=0) rfl rfl hk rfl rfl (fun h=>h)) ?_;refine TL.run 1 rfl ?_;refine TL.ns (T.seq (T.sr ?_));refine TL.run 1 rfl ?_; (refine TL.ew (Wt.none rfl) rfl rfl (Ew.af rfl rfl rfl (fun w hw=>zcX _ _)) ?_;rintro _ _ ⟨rfl,rfl⟩);refine TL.run 1 rfl ?_;refine TL.ns ?_;refine T.aE rfl (by rw [inB,decide_eq_true hr1.1,decide_eq_true hr1.2];rfl) ?_;refine T.skip (K.seq ?_);refine T.ay (.still 0 (.still 1 (.still 2 (.still 3 (.still 5 (.still 6 (.still 7 (.still 9 (.eff 4 (.still 8 (.still 10 (.eff 11 .done)))))))))))) [.row g2 112 (Ws.cells sNil)] (by kernel_rfl) Sx ?_;refine TS.run 1 rfl ?_;refine TS.y rfl (Yv.bJ rfl rfl rfl (by omega)) ?_;refine TS.y rfl (Yv.fieldAddr rfl rfl) ?_;refine TS.y rfl (Yv.as rfl rfl rfl (show (nth l k) / 64=(((nth l k).toNat / 64:Nat):Int) from by omega) (by omega)) ?_;refine TS.run 1 rfl ?_;refine TS.y rfl (Yv.by rfl rfl rfl (by omega)) ?_;refine TS.y rfl (Yv.bb (a:=1#64) ((nth l k).toNat % 64) rfl rfl rfl (by omega) (by omega)) ?_;refine TS.y rfl (Yv.fieldAddr rfl rfl) ?_;refine TS.eff ?_;refine TSo.yv rfl (Wt.none rfl) rfl rfl (Yv.ac 0 rfl rfl rfl hld) Sx ?_;refine TS.y rfl (Yv.bC rfl rfl rfl) ?_;refine TS.y rfl (Yv.as rfl rfl rfl (show (nth l k) / 64=(((nth l k).toNat / 64:Nat):Int) from by omega) (by omega)) ?_;refine TS.eff ?_; (refine TSo.ax rfl (Wt.none rfl) rfl (Ew.aN 0 (Ws.cells (sAdd (zdu (l.take k)) (nth l k).toNat)) rfl rfl rfl rfl (by rw [List.length_map,hlen];omega) (Ws.put (by omega))) ?_;rintro _ _ ⟨rfl,rfl⟩;refine ⟨Sx,?_⟩);refine TS.done ?_;refine K.ad (K.seq (T.region ?_));refine TL.y (Yv.al rfl rfl rfl (by omega)) ?_;refine TL.run 1 rfl ?_;refine TL.nil ?_;exact K.next (k+1) (by omega) (by omega) (by repeat (first|exact Sub.nil|refine Sub.cons rfl ?_)) (by rw [zhb (by omega)];exact Sx)
  ·have p1:=h1; (try simp only [nfB] at p1);refine T.exit (K.ab (K.ab (K.ae (K.seq (T.sr ?_)))));refine TL.y (Yv.ao 0 rfl rfl rfl hsl8) ?_; (refine TL.ax (Wt.none rfl) rfl (Ew.aj 1 rfl rfl rfl rfl (by rw [List.length_map,zaP]) (by rw [List.length_map,zaP];rfl)) ?_;rintro _ _ ⟨rfl,rfl⟩);refine TL.run 1 rfl ?_;refine TL.ns (T.ret ?_);exact K.bo 1 rfl rfl rfl rfl (by rw [List.length_map,zaP]) (fun w' hw=>⟨by rw [List.take_of_length_le (by omega)],hw.isBelow⟩)
def zaQ (f:Nat→Value)(z:Value)(n k:Nat):List Value:=(List.range k).map f++List.replicate (n - k) z
theorem zdm {f:Nat→Value}{z:Value}{n k:Nat}(h:k≤n):(zaQ f z n k).length=n:=by simp [zaQ];omega
theorem zdk {f:Nat→Value}{z:Value}{n k p:Nat}(h:k<n)(hp:p=k):(zaQ f z n k).set p (f k)=zaQ f z n (k+1):=by
 subst hp;unfold zaQ;rw [List.set_append_right _ _ (by simp),show n - p=(n - (p+1))+1 by omega,List.replicate_succ,List.range_succ,List.map_append];simp
theorem zdn (z:Value)(n:Nat):(madeCells [z].toArray (n*1)).toList=zaQ (fun _=>z) z n 0:=by
 apply List.ext_getElem?;intro i;by_cases h:i<n
 ·simp [zaQ,madeCells,List.getElem?_replicate,Nat.mod_one,h]
 ·simp [zaQ,madeCells,List.getElem?_replicate,h]
theorem ze2 {α:Type}[Inhabited α]{xs:List α}{f:Nat→Value}{z:Value}(g:α→Int)(hf:∀j,f j= .int .i64 (g (nth xs j))){k:Nat}(hk:k=xs.length):zaQ f z xs.length k=(xs.map g).flatMap Ie:=by
 subst hk;unfold zaQ;apply List.ext_getElem?;intro i
 have e:(xs.map g).flatMap Ie=(xs.map g).map (fun z=>Value.int .i64 z):=by
  have:∀l:List Int,l.flatMap Ie=l.map (fun z=>Value.int .i64 z):=by
   intro l
   induction l with
   |nil=>rfl
   |cons x r ih=>simp [List.flatMap_cons,Ie,ih]
  exact this _
 rw [e];simp only [Nat.sub_self,List.replicate_zero,List.append_nil,List.getElem?_map,List.getElem?_range];by_cases h:i<xs.length
 ·simp [h,hf,nth]
 ·simp [h]
theorem zgz (P:Pb)(vd vp vl vc:Value)(w:World)(h:ProbAt w vd vp vl vc P)(hn:P.ds.length≤512)(hr:∀d∈P.ds,0≤d.st∧d.st≤511):Calls Tryd.prog 52 #[.agg [vd,vp,vl,vc].toArray] w fun e w'=>e= .returned (.agg (Ws.cells (zdu (P.ds.map (·.st)))).toArray)∧Below w.heap.size w w':=by
 obtain ⟨A,cap,rfl,hsl⟩:=h.ds.sl.op;obtain ⟨A1,cap1,rfl, -⟩:=h.ru.ps.op;obtain ⟨A2,cap2,rfl, -⟩:=h.ru.ls.op;obtain ⟨A3,cap3,rfl, -⟩:=h.ru.cs.op;refine zaa (M:=fun _=>False) (hs:=[]) Tryd.func52 rfl rfl rfl (Hp.refl _ _) ?_;refine T.sr ?_; (refine TL.ew (Wt.none rfl) rfl rfl (Ew.aA rfl rfl) ?_;rintro _ _ ⟨g1,rfl,rfl⟩); (refine TL.ew (Wt.none rfl) rfl rfl (Ew.alloc rfl) ?_;rintro _ _ ⟨g2,rfl,rfl⟩);refine TL.nx ?_;refine TL.y (Yv.fieldAddr rfl rfl) ?_;refine TL.y (Yv.ac 1 rfl rfl rfl rfl) ?_;refine TL.y (Yv.aq rfl rfl) ?_; (refine TL.ew (Wt.none rfl) rfl rfl (Ew.makeSlice rfl rfl rfl rfl rfl (by omega) (by omega)) ?_;rintro _ _ ⟨g11,rfl,rfl⟩);refine TL.run 1 rfl ?_;refine TL.ns ?_;refine T.cut (gs:=[(2, .pointer (some ⟨g2,0,none⟩)),(3,(.slice (some ⟨g11,0,none⟩) P.ds.length P.ds.length))]) (hs':=[.sl (.slice (some ⟨g11,0,none⟩) P.ds.length P.ds.length) 3 1 P.ds.length ((P.ds.map (·.st)).flatMap Ie), .row g2 112 (Ws.cells sNil)]) ?_ ?_
 ·skip;refine T.seq ?_;rw [zdn];refine T.region ?_;refine TL.y (Yv.fieldAddr rfl rfl) ?_;refine TL.y (Yv.ac 2 rfl rfl rfl rfl) ?_;refine TL.y (Yv.aq rfl rfl) ?_;refine TL.run 1 rfl ?_;refine TL.ns (T.block ?_);refine T.loop (ι:=Nat) (fun k=>[(2, .pointer (some ⟨g2,0,none⟩)),(3,(.slice (some ⟨g11,0,none⟩) P.ds.length P.ds.length)),(13, .slice A P.ds.length cap),(14, .int .i64 (P.ds.length:Int)),(15, .int .i64 (k:Int))]) (fun k=>[.sl (.slice (some ⟨g11,0,none⟩) P.ds.length P.ds.length) 3 1 P.ds.length (zaQ (fun j=> .int .i64 (nth P.ds j).st) (.int .i64 0) P.ds.length k), .row g2 112 (Ws.cells sNil)]) (fun k=>k≤P.ds.length) (fun k=>P.ds.length - k) 0 ?_ ?_ ?_ ?_
  ·omega
  ·exact (by repeat (first|exact Sub.nil|refine Sub.cons rfl ?_))
  ·exact Sx
  ·intro k hphi;refine T.sr ?_;refine TL.run 1 rfl ?_;refine TL.ns (T.seq ?_);refine T.cond rfl (fun h1=>?_) (fun h1=>?_)
   ·have p1:=h1; (try simp only [nfB] at p1);obtain ⟨g,off,rfl,hc⟩:=hsl (by omega);have hk:=hc k (by omega);haveI:=(h.ds.at (k:=k) (by omega)).one;simp only [Dx.cells] at hk;refine T.skip (K.seq (T.seq (T.block (T.sr ?_))));refine TL.run 1 rfl ?_;refine TL.y (Yv.ag rfl rfl rfl rfl (by omega)) ?_;refine TL.y (Yv.av rfl rfl hk rfl (fun h=>h)) ?_; (refine TL.ew (Wt.none rfl) rfl rfl (Ew.alloc rfl) ?_;rintro _ _ ⟨g5,rfl,rfl⟩);refine TL.run 1 rfl ?_; (refine TL.ax (Wt.none rfl) rfl (Ew.aj 0 rfl rfl rfl rfl rfl rfl) ?_;rintro _ _ ⟨rfl,rfl⟩);refine TL.ns (T.region ?_);refine TL.run 2 rfl ?_;refine TL.y (Yv.fieldAddr rfl rfl) ?_;refine TL.y (Yv.ac 0 rfl rfl rfl rfl) ?_;refine TL.y (Yv.ag rfl rfl rfl rfl (by omega)) ?_; (refine TL.ax (Wt.none rfl) rfl (Ew.aF 1 (zaQ (fun j=> .int .i64 (nth P.ds j).st) (.int .i64 0) P.ds.length (k+1)) rfl rfl rfl rfl (by rw [zdm (by omega)];omega) (zdk (by omega) (by omega))) ?_;rintro _ _ ⟨rfl,rfl⟩);refine TL.nil (K.ad (K.seq (T.region ?_)));refine TL.y (Yv.al rfl rfl rfl (by omega)) ?_;refine TL.run 1 rfl ?_;refine TL.nil ?_;exact K.next (k+1) (by omega) (by omega) (by repeat (first|exact Sub.nil|refine Sub.cons rfl ?_)) Sx
   ·have p1:=h1; (try simp only [nfB] at p1);refine T.exit (K.ab (K.ab (K.ae ?_)));exact K.at (by repeat (first|exact Sub.nil|refine Sub.cons rfl ?_)) (by rw [ze2 (fun d:Dx=>d.st) (fun _=>rfl) (show k=P.ds.length by omega)];exact Sx)
 ·skip;refine T.sr ?_;refine TL.run 1 rfl ?_; (refine TL.ew (Wt.none rfl) rfl rfl (Ew.af rfl rfl rfl (fun w hw=>zj3 (P.ds.map (·.st)) _ w (SlOf.ownAt (enc:=Ie) (fun _=>rfl) hw 0 rfl (by simp)) (by simp;omega) (by intro x hx;obtain ⟨d,hd,rfl⟩:=List.mem_map.1 hx;exact hr d hd))) ?_;rintro _ _ ⟨rfl,rfl⟩);refine TL.run 3 rfl ?_; (refine TL.ew (Wt.none rfl) rfl rfl (Ew.alloc rfl) ?_;rintro _ _ ⟨g6,rfl,rfl⟩); (refine TL.ax (Wt.none rfl) rfl (Ew.aj 0 rfl rfl rfl rfl (by rw [List.length_map,zaP]) (by rw [List.length_map,zaP];rfl)) ?_;rintro _ _ ⟨rfl,rfl⟩);refine TL.run 1 rfl ?_;refine TL.nx ?_;refine TL.y (Yv.ao 0 rfl rfl rfl (by rw [List.length_map,zaP])) ?_; (refine TL.ax (Wt.none rfl) rfl (Ew.aj 2 rfl rfl rfl rfl (by rw [List.length_map,zaP]) (by rw [List.length_map,List.length_map,zaP];rfl)) ?_;rintro _ _ ⟨rfl,rfl⟩);refine TL.ns (T.ret ?_);exact K.bz 2 rfl rfl rfl (by rw [List.length_map,zaP]) (fun w' hw=>⟨rfl,hw.isBelow⟩)
theorem zgq (x:Pr)(ws:Ws)(hws:ws.length=8)(p:Nat)(w:World)(hp:Cs w p 0 ws.cells):Calls Tryd.prog 54 #[.agg (Pr.cells x).toArray, .pointer (some ⟨p,0,none⟩)] w fun e w'=>e= .returned (.bool (sHas ws x.a&&sHas ws x.b))∧Below w.heap.size w w':=by
 refine zaa (M:=fun _=>False) (hs:=[]) Tryd.func54 rfl rfl rfl (Hp.refl _ _) ?_;simp only [Pr.cells];refine T.sr ?_; (refine TL.ew (Wt.none rfl) rfl rfl (Ew.aA rfl rfl) ?_;rintro _ _ ⟨g2,rfl,rfl⟩);refine TL.run 1 rfl ?_;refine TL.nx ?_;refine TL.y (Yv.av rfl rfl hp (by rw [List.length_map,hws]) (fun h=>h)) ?_;refine TL.y (Yv.fieldAddr rfl rfl) ?_;refine TL.y (Yv.ac 0 rfl rfl rfl rfl) ?_; (refine TL.ew (Wt.none rfl) rfl rfl (Ew.af rfl rfl rfl (fun w hw=>zea ws hws _ w)) ?_;rintro _ _ ⟨rfl,rfl⟩);refine TL.run 1 rfl ?_;refine TL.ak rfl rfl rfl (fun h1=>?_) (fun h1=>?_)
 ·have p1:=h1; (try simp only [nfB] at p1);refine TL.yv (Wt.some rfl rfl rfl h1) rfl rfl (Yv.av rfl rfl hp (by rw [List.length_map,hws]) (fun h=>h)) ?_;refine TL.yv (Wt.some rfl rfl rfl h1) rfl rfl (Yv.fieldAddr rfl rfl) ?_;refine TL.yv (Wt.some rfl rfl rfl h1) rfl rfl (Yv.ac 0 rfl rfl rfl rfl) ?_; (refine TL.ew (Wt.some rfl rfl rfl h1) rfl rfl (Ew.af rfl rfl rfl (fun w hw=>zea ws hws _ w)) ?_;rintro _ _ ⟨rfl,rfl⟩);refine TL.y (Yv.am rfl rfl h1 rfl) ?_;refine TL.run 1 rfl ?_;refine TL.ns (T.ret ?_);refine K.ah rfl rfl (fun w' hw=>⟨?_,hw.isBelow⟩);exact zae (by simp only [*,Bool.not_true,Bool.not_false,Bool.or_false,Bool.false_or,Bool.or_true,Bool.true_or,Bool.and_false,Bool.false_and,Bool.true_and,Bool.and_true,Bool.or_self,Bool.and_self,Bool.not_not,decide_true,decide_false,not_true_eq_false,not_false_eq_true,cond_true,cond_false])
 ·have p1:=h1; (try simp only [nfB] at p1);refine TL.off (Wt.not rfl rfl rfl h1) rfl rfl ?_;refine TL.off (Wt.not rfl rfl rfl h1) rfl rfl ?_;refine TL.off (Wt.not rfl rfl rfl h1) rfl rfl ?_;refine TL.off (Wt.not rfl rfl rfl h1) rfl rfl ?_;refine TL.y (Yv.an rfl rfl h1 rfl) ?_;refine TL.run 1 rfl ?_;refine TL.ns (T.ret ?_);refine K.ah rfl rfl (fun w' hw=>⟨?_,hw.isBelow⟩);exact zae (by simp only [*,Bool.not_true,Bool.not_false,Bool.or_false,Bool.false_or,Bool.or_true,Bool.true_or,Bool.and_false,Bool.false_and,Bool.true_and,Bool.and_true,Bool.or_self,Bool.and_self,Bool.not_not,decide_true,decide_false,not_true_eq_false,not_false_eq_true,cond_true,cond_false])
theorem zgu (x:Ld)(ws:Ws)(hws:ws.length=8)(p:Nat)(w:World)(hp:Cs w p 0 ws.cells):Calls Tryd.prog 57 #[.agg (Ld.cells x).toArray, .pointer (some ⟨p,0,none⟩)] w fun e w'=>e= .returned (.bool (sHas ws x.to&&sHas ws x.fr))∧Below w.heap.size w w':=by
 refine zaa (M:=fun _=>False) (hs:=[]) Tryd.func57 rfl rfl rfl (Hp.refl _ _) ?_;simp only [Ld.cells];refine T.sr ?_; (refine TL.ew (Wt.none rfl) rfl rfl (Ew.aA rfl rfl) ?_;rintro _ _ ⟨g2,rfl,rfl⟩);refine TL.run 1 rfl ?_;refine TL.nx ?_;refine TL.y (Yv.av rfl rfl hp (by rw [List.length_map,hws]) (fun h=>h)) ?_;refine TL.y (Yv.fieldAddr rfl rfl) ?_;refine TL.y (Yv.ac 0 rfl rfl rfl rfl) ?_; (refine TL.ew (Wt.none rfl) rfl rfl (Ew.af rfl rfl rfl (fun w hw=>zea ws hws _ w)) ?_;rintro _ _ ⟨rfl,rfl⟩);refine TL.run 1 rfl ?_;refine TL.ak rfl rfl rfl (fun h1=>?_) (fun h1=>?_)
 ·have p1:=h1; (try simp only [nfB] at p1);refine TL.yv (Wt.some rfl rfl rfl h1) rfl rfl (Yv.av rfl rfl hp (by rw [List.length_map,hws]) (fun h=>h)) ?_;refine TL.yv (Wt.some rfl rfl rfl h1) rfl rfl (Yv.fieldAddr rfl rfl) ?_;refine TL.yv (Wt.some rfl rfl rfl h1) rfl rfl (Yv.ac 0 rfl rfl rfl rfl) ?_; (refine TL.ew (Wt.some rfl rfl rfl h1) rfl rfl (Ew.af rfl rfl rfl (fun w hw=>zea ws hws _ w)) ?_;rintro _ _ ⟨rfl,rfl⟩);refine TL.y (Yv.am rfl rfl h1 rfl) ?_;refine TL.run 1 rfl ?_;refine TL.ns (T.ret ?_);refine K.ah rfl rfl (fun w' hw=>⟨?_,hw.isBelow⟩);exact zae (by simp only [*,Bool.not_true,Bool.not_false,Bool.or_false,Bool.false_or,Bool.or_true,Bool.true_or,Bool.and_false,Bool.false_and,Bool.true_and,Bool.and_true,Bool.or_self,Bool.and_self,Bool.not_not,decide_true,decide_false,not_true_eq_false,not_false_eq_true,cond_true,cond_false])
 ·have p1:=h1; (try simp only [nfB] at p1);refine TL.off (Wt.not rfl rfl rfl h1) rfl rfl ?_;refine TL.off (Wt.not rfl rfl rfl h1) rfl rfl ?_;refine TL.off (Wt.not rfl rfl rfl h1) rfl rfl ?_;refine TL.off (Wt.not rfl rfl rfl h1) rfl rfl ?_;refine TL.y (Yv.an rfl rfl h1 rfl) ?_;refine TL.run 1 rfl ?_;refine TL.ns (T.ret ?_);refine K.ah rfl rfl (fun w' hw=>⟨?_,hw.isBelow⟩);exact zae (by simp only [*,Bool.not_true,Bool.not_false,Bool.or_false,Bool.false_or,Bool.or_true,Bool.true_or,Bool.and_false,Bool.false_and,Bool.true_and,Bool.and_true,Bool.or_self,Bool.and_self,Bool.not_not,decide_true,decide_false,not_true_eq_false,not_false_eq_true,cond_true,cond_false])
theorem zfW (x:Cp)(ws:Ws)(hws:ws.length=8)(p:Nat)(w:World)(hp:Cs w p 0 ws.cells):Calls Tryd.prog 59 #[.agg (Cp.cells x).toArray, .pointer (some ⟨p,0,none⟩)] w fun e w'=>e= .returned (.bool (sHas ws x.st))∧Below w.heap.size w w':=by
 refine zaa (M:=fun _=>False) (hs:=[]) Tryd.func59 rfl rfl rfl (Hp.refl _ _) ?_;simp only [Cp.cells];refine T.sr ?_; (refine TL.ew (Wt.none rfl) rfl rfl (Ew.aA rfl rfl) ?_;rintro _ _ ⟨g2,rfl,rfl⟩);refine TL.run 1 rfl ?_;refine TL.nx ?_;refine TL.y (Yv.av rfl rfl hp (by rw [List.length_map,hws]) (fun h=>h)) ?_;refine TL.y (Yv.fieldAddr rfl rfl) ?_;refine TL.y (Yv.ac 0 rfl rfl rfl rfl) ?_; (refine TL.ew (Wt.none rfl) rfl rfl (Ew.af rfl rfl rfl (fun w hw=>zea ws hws _ w)) ?_;rintro _ _ ⟨rfl,rfl⟩);refine TL.run 1 rfl ?_;refine TL.ns (T.ret ?_);refine K.ah rfl rfl (fun w' hw=>⟨?_,hw.isBelow⟩);exact zae (by simp only [*,Bool.not_true,Bool.not_false,Bool.or_false,Bool.false_or,Bool.or_true,Bool.true_or,Bool.and_false,Bool.false_and,Bool.true_and,Bool.and_true,Bool.or_self,Bool.and_self,Bool.not_not,decide_true,decide_false,not_true_eq_false,not_false_eq_true,cond_true,cond_false])
theorem ze4 (P:Pb)(vd vp vl vc:Value)(w:World)(h:ProbAt w vd vp vl vc P):Calls Tryd.prog 37 #[.agg [vd,vp,vl,vc].toArray] w fun e w'=>e= .returned (.bool P.ok)∧Below w.heap.size w w':=by
 obtain ⟨A,cap,rfl,hsl⟩:=h.ds.sl.op;obtain ⟨A1,cap1,rfl, -⟩:=h.ru.ps.op;obtain ⟨A2,cap2,rfl, -⟩:=h.ru.ls.op;obtain ⟨A3,cap3,rfl, -⟩:=h.ru.cs.op;refine zaa (M:=fun _=>False) (hs:=[]) Tryd.func37 rfl rfl rfl (Hp.refl _ _) ?_;refine T.sr ?_; (refine TL.ew (Wt.none rfl) rfl rfl (Ew.aA rfl rfl) ?_;rintro _ _ ⟨g1,rfl,rfl⟩);refine TL.run 1 rfl ?_;refine TL.ns (T.seq (T.sr ?_));refine TL.y (Yv.fieldAddr rfl rfl) ?_;refine TL.y (Yv.ac 0 rfl rfl rfl rfl) ?_; (refine TL.ew (Wt.none rfl) rfl rfl (Ew.af rfl rfl rfl (fun w hw=>zi4 (q:=Dx.ok) P.ds _ 47 #[] w (h.ds.sl.kept hw) (fun k hk=>(h.ds.at hk).one) (fun k hk w1 hb=>zep _ w1 (((h.ds.at hk).kept hw).kept (Hp.of_below hb)) (h.hch _ (zaI hk))) h.hds)) ?_;rintro _ _ ⟨rfl,rfl⟩);refine TL.run 2 rfl ?_;refine TL.ak rfl rfl rfl (fun h1=>?_) (fun h1=>?_)
 ·have p1:=h1; (try simp only [nfB] at p1);refine TL.off (Wt.not rfl rfl rfl h1) rfl rfl ?_;refine TL.off (Wt.not rfl rfl rfl h1) rfl rfl ?_;refine TL.off (Wt.not rfl rfl rfl h1) rfl rfl ?_;refine TL.off (Wt.not rfl rfl rfl h1) rfl rfl ?_;refine TL.y (Yv.am rfl rfl h1 rfl) ?_;refine TL.ns ?_;refine T.aC rfl rfl ?_;refine T.sr ?_;refine TL.run 1 rfl ?_;refine TL.ns (T.ret (K.aa ?_));refine K.ah rfl rfl (fun w' hw=>⟨?_,hw.isBelow⟩);exact zae (by simp only [Pb.ok, *,Bool.not_true,Bool.not_false,Bool.or_false,Bool.false_or,Bool.or_true,Bool.true_or,Bool.and_false,Bool.false_and,Bool.true_and,Bool.and_true,Bool.or_self,Bool.and_self,Bool.not_not,decide_true,decide_false,not_true_eq_false,not_false_eq_true,cond_true,cond_false])
 ·have p1:=h1; (try simp only [nfB] at p1);refine TL.yv (Wt.some rfl rfl rfl h1) rfl rfl (Yv.fieldAddr rfl rfl) ?_;refine TL.yv (Wt.some rfl rfl rfl h1) rfl rfl (Yv.bV 0 (m:=[.slice A1 P.ps.length cap1, .slice A2 P.ls.length cap2, .slice A3 P.cs.length cap3]) rfl rfl rfl rfl rfl) ?_; (refine TL.ew (Wt.some rfl rfl rfl h1) rfl rfl (Ew.af rfl rfl rfl (fun w hw=>zem P _ _ _ w (h.ru.kept hw))) ?_;rintro _ _ ⟨rfl,rfl⟩);refine TL.yv (Wt.some rfl rfl rfl h1) rfl rfl (Yv.au rfl) ?_;refine TL.y (Yv.an rfl rfl h1 rfl) ?_;refine TL.ns ?_;refine T.cond rfl (fun h2=>?_) (fun h2=>?_)
  ·have p2:=h2; (try simp only [nfB] at p2);refine T.sr ?_;refine TL.run 1 rfl ?_;refine TL.ns (T.ret (K.aa ?_));refine K.ah rfl rfl (fun w' hw=>⟨?_,hw.isBelow⟩);exact zae (by simp only [Pb.ok, *,Bool.not_true,Bool.not_false,Bool.or_false,Bool.false_or,Bool.or_true,Bool.true_or,Bool.and_false,Bool.false_and,Bool.true_and,Bool.and_true,Bool.or_self,Bool.and_self,Bool.not_not,decide_true,decide_false,not_true_eq_false,not_false_eq_true,cond_true,cond_false])
  ·have p2:=h2; (try simp only [nfB] at p2);refine T.skip (K.seq (T.sr ?_));refine TL.run 1 rfl ?_;refine TL.ns (T.seq (T.sr ?_));refine TL.y (Yv.fieldAddr rfl rfl) ?_;refine TL.y (Yv.ac 0 rfl rfl rfl rfl) ?_;refine TL.run 1 rfl ?_; (refine TL.ew (Wt.none rfl) rfl rfl (Ew.af rfl rfl rfl (fun w hw=>zeZ (c:=fun a b=>cmpI a.st b.st) P.ds _ 49 w (h.ds.sl.kept hw) (fun k hk=>(h.ds.at hk).one) (fun x y hx hy w1=>zeV x y hx hy w1) h.hds)) ?_;rintro _ _ ⟨rfl,rfl⟩);refine TL.run 1 rfl ?_;refine TL.ns ?_;refine T.cond rfl (fun h3=>?_) (fun h3=>?_)
   ·have p3:=h3; (try simp only [nfB] at p3);refine T.sr ?_;refine TL.run 1 rfl ?_;refine TL.ns (T.ret (K.aa ?_));refine K.ah rfl rfl (fun w' hw=>⟨?_,hw.isBelow⟩);exact zae (by simp only [Pb.ok, *,Bool.not_true,Bool.not_false,Bool.or_false,Bool.false_or,Bool.or_true,Bool.true_or,Bool.and_false,Bool.false_and,Bool.true_and,Bool.and_true,Bool.or_self,Bool.and_self,Bool.not_not,decide_true,decide_false,not_true_eq_false,not_false_eq_true,cond_true,cond_false])
   ·have p3:=h3; (try simp only [nfB] at p3);refine T.skip (K.seq (T.sr ?_));refine TL.y (Yv.ao 0 rfl rfl rfl rfl) ?_; (have hall:allB Dx.ok P.ds=true:=by assumption); (have hinc:incB (fun a b:Dx=>cmpI a.st b.st) P.ds=true:=by assumption); (have hst:∀d∈P.ds,0≤d.st∧d.st≤511:=fun d hd=>by have:=allB_mem.1 hall d hd;simp only [Dx.ok,inB,Bool.and_eq_true,decide_eq_true_eq] at this;exact this.1); (refine TL.ew (Wt.none rfl) rfl rfl (Ew.af rfl rfl rfl (fun w hw=>zgz P _ _ _ _ w (h.kept hw) (zhG hinc hall) hst)) ?_;rintro _ _ ⟨rfl,rfl⟩); (refine TL.ew (Wt.none rfl) rfl rfl (Ew.alloc rfl) ?_;rintro _ _ ⟨g4,rfl,rfl⟩); (refine TL.ax (Wt.none rfl) rfl (Ew.aj 0 rfl rfl rfl rfl (by rw [List.length_map,zaP]) (by rw [List.length_map,zaP];rfl)) ?_;rintro _ _ ⟨rfl,rfl⟩);refine TL.nx ?_;refine TL.y (Yv.fieldAddr rfl rfl) ?_;refine TL.y (Yv.fieldAddr rfl rfl) ?_;refine TL.y (Yv.ac 1 rfl rfl rfl rfl) ?_;refine TL.run 1 rfl ?_; (refine TL.ew (Wt.none rfl) rfl rfl (Ew.af rfl rfl rfl (fun w hw=>zhw (q:=fun x:Pr=>P.has x.a&&P.has x.b) P.ps _ 54 #[.pointer (some ⟨g4,0,none⟩)] w (h.ru.ps.kept hw) (fun k hk w1 hb=>zgq _ _ (zaP _) _ w1 (Cs.later hb (Cs.of_row (Ent.row_ok.1 (hw.get (i:=0) rfl)) (by rw [List.drop_zero,List.take_length])))) h.ru.hps)) ?_;rintro _ _ ⟨rfl,rfl⟩);refine TL.run 1 rfl ?_;refine TL.ak rfl rfl rfl (fun h4=>?_) (fun h4=>?_)
    ·have p4:=h4; (try simp only [nfB] at p4);refine TL.yv (Wt.some rfl rfl rfl h4) rfl rfl (Yv.fieldAddr rfl rfl) ?_;refine TL.yv (Wt.some rfl rfl rfl h4) rfl rfl (Yv.fieldAddr rfl rfl) ?_;refine TL.yv (Wt.some rfl rfl rfl h4) rfl rfl (Yv.ac 1 rfl rfl rfl rfl) ?_;refine TL.yv (Wt.some rfl rfl rfl h4) rfl rfl (Yv.au rfl) ?_; (refine TL.ew (Wt.some rfl rfl rfl h4) rfl rfl (Ew.af rfl rfl rfl (fun w hw=>zhY (q:=fun x:Ld=>P.has x.to&&P.has x.fr) P.ls _ 57 #[.pointer (some ⟨g4,0,none⟩)] w (h.ru.ls.kept hw) (fun k hk w1 hb=>zgu _ _ (zaP _) _ w1 (Cs.later hb (Cs.of_row (Ent.row_ok.1 (hw.get (i:=0) rfl)) (by rw [List.drop_zero,List.take_length])))) h.ru.hls)) ?_;rintro _ _ ⟨rfl,rfl⟩);refine TL.y (Yv.am rfl rfl h4 rfl) ?_;refine TL.run 1 rfl ?_;refine TL.ak rfl rfl rfl (fun h5=>?_) (fun h5=>?_)
     ·have p5:=h5; (try simp only [nfB] at p5);refine TL.yv (Wt.some rfl rfl rfl h5) rfl rfl (Yv.fieldAddr rfl rfl) ?_;refine TL.yv (Wt.some rfl rfl rfl h5) rfl rfl (Yv.fieldAddr rfl rfl) ?_;refine TL.yv (Wt.some rfl rfl rfl h5) rfl rfl (Yv.ac 1 rfl rfl rfl rfl) ?_;refine TL.yv (Wt.some rfl rfl rfl h5) rfl rfl (Yv.au rfl) ?_; (refine TL.ew (Wt.some rfl rfl rfl h5) rfl rfl (Ew.af rfl rfl rfl (fun w hw=>zih (q:=fun x:Cp=>P.has x.st) P.cs _ 59 #[.pointer (some ⟨g4,0,none⟩)] w (h.ru.cs.kept hw) (fun k hk w1 hb=>zfW _ _ (zaP _) _ w1 (Cs.later hb (Cs.of_row (Ent.row_ok.1 (hw.get (i:=0) rfl)) (by rw [List.drop_zero,List.take_length])))) h.ru.hcs)) ?_;rintro _ _ ⟨rfl,rfl⟩);refine TL.y (Yv.am rfl rfl h5 rfl) ?_;refine TL.run 1 rfl ?_;refine TL.ns (T.ret ?_);refine K.ah rfl rfl (fun w' hw=>⟨?_,hw.isBelow⟩);exact zae (by simp only [Pb.ok, *,Bool.not_true,Bool.not_false,Bool.or_false,Bool.false_or,Bool.or_true,Bool.true_or,Bool.and_false,Bool.false_and,Bool.true_and,Bool.and_true,Bool.or_self,Bool.and_self,Bool.not_not,decide_true,decide_false,not_true_eq_false,not_false_eq_true,cond_true,cond_false])
     ·have p5:=h5; (try simp only [nfB] at p5);refine TL.off (Wt.not rfl rfl rfl h5) rfl rfl ?_;refine TL.off (Wt.not rfl rfl rfl h5) rfl rfl ?_;refine TL.off (Wt.not rfl rfl rfl h5) rfl rfl ?_;refine TL.off (Wt.not rfl rfl rfl h5) rfl rfl ?_;refine TL.off (Wt.not rfl rfl rfl h5) rfl rfl ?_;refine TL.y (Yv.an rfl rfl h5 rfl) ?_;refine TL.run 1 rfl ?_;refine TL.ns (T.ret ?_);refine K.ah rfl rfl (fun w' hw=>⟨?_,hw.isBelow⟩);exact zae (by simp only [Pb.ok, *,Bool.not_true,Bool.not_false,Bool.or_false,Bool.false_or,Bool.or_true,Bool.true_or,Bool.and_false,Bool.false_and,Bool.true_and,Bool.and_true,Bool.or_self,Bool.and_self,Bool.not_not,decide_true,decide_false,not_true_eq_false,not_false_eq_true,cond_true,cond_false])
    ·have p4:=h4; (try simp only [nfB] at p4);refine TL.off (Wt.not rfl rfl rfl h4) rfl rfl ?_;refine TL.off (Wt.not rfl rfl rfl h4) rfl rfl ?_;refine TL.off (Wt.not rfl rfl rfl h4) rfl rfl ?_;refine TL.off (Wt.not rfl rfl rfl h4) rfl rfl ?_;refine TL.off (Wt.not rfl rfl rfl h4) rfl rfl ?_;refine TL.y (Yv.an rfl rfl h4 rfl) ?_;refine TL.run 8 rfl ?_;refine TL.ns (T.ret ?_);refine K.ah rfl rfl (fun w' hw=>⟨?_,hw.isBelow⟩);exact zae (by simp only [Pb.ok, *,Bool.not_true,Bool.not_false,Bool.or_false,Bool.false_or,Bool.or_true,Bool.true_or,Bool.and_false,Bool.false_and,Bool.true_and,Bool.and_true,Bool.or_self,Bool.and_self,Bool.not_not,decide_true,decide_false,not_true_eq_false,not_false_eq_true,cond_true,cond_false])
def zbk (l:List Int):BitVec 64:=l.foldl (fun m c=>m ||| 1#64 <<< c.toNat) 0#64
theorem zgv {l:List Int}{k:Nat}(h:k<l.length):zbk (l.take (k+1))=(zbk (l.take k) ||| 1#64 <<< (nth l k).toNat):=by
 unfold zbk;rw [List.take_succ_eq_append_getElem h,zam h,List.foldl_append];rfl
def pop1 (a:BitVec 64):BitVec 64:=((a >>> 1) &&& 6148914691236517205#64)+(a &&& 6148914691236517205#64)
def pop2 (a:BitVec 64):BitVec 64:=((a >>> 2) &&& 3689348814741910323#64)+(a &&& 3689348814741910323#64)
def pop3 (a:BitVec 64):BitVec 64:=((a >>> 4)+a) &&& 1085102592571150095#64
def pop4 (k:Nat)(a:BitVec 64):BitVec 64:=a+(a >>> k)
def zij (a:BitVec 64):Nat:=(pop4 32 (pop4 16 (pop4 8 (pop3 (pop2 (pop1 a))))) &&& 127#64).toNat
theorem zgQ (a:BitVec 64):zij a≤127:=by
 unfold zij;rw [BitVec.toNat_and];exact Nat.and_le_right
theorem zg7 (b:BitVec 64):BitVec.ofInt 64 (IntKind.i64.wrap (b.toNat:Int))=b:=by
 apply BitVec.eq_of_toNat_eq;rw [BitVec.toNat_ofInt,IntKind.wrap_i64];have:=b.isLt;omega
section
variable {P:Program}{n:Nat}{B D:World}{M:Nat→Prop}{fs:SFs}{hs:HS}{o:Oper}{v:Value}
theorem Yv.co {x:Operand}{a:BitVec 64}(ho:o.op= .convert 25 3 x)(hx:ev fs x=some (U a)):Yv Tryd.prog n B M fs hs o (.int .i64 (IntKind.i64.wrap (a.toNat:Int))):=fun f w ha _=>by
 (have hr:(convert 25 3 (U a)).run Tryd.prog w= .ok (.int .i64 (IntKind.i64.wrap (a.toNat:Int))) w:=by kernel_rfl);unfold execOp;simp only [ho,ha.ev hx];rw [Sem.run_bind,hr]
 rfl
theorem Yv.cd {x:Operand}{t u:TypeId}{a:BitVec 64}(ho:o.op= .binOp .and t x (.const (.int .i64 127)) u)(hx:ev fs x=some (.int .i64 (IntKind.i64.wrap (a.toNat:Int)))):Yv P n B M fs hs o (.int .i64 ((a &&& 127#64).toNat:Int)):=fun f w ha _=>by
 have hr:(binOp .and t (.int .i64 (IntKind.i64.wrap (a.toNat:Int))) (.int .i64 127)).run P w= .ok (.int .i64 ((a &&& 127#64).toNat:Int)) w:=by
  have e:(binOp .and t (.int .i64 (IntKind.i64.wrap (a.toNat:Int))) (.int .i64 127)).run P w= .ok (.int .i64 (IntKind.i64.wrap ((BitVec.ofInt 64 (IntKind.i64.wrap (a.toNat:Int)) &&& BitVec.ofInt 64 127).toNat:Int))) w:=rfl; (have hle:(a &&& 127#64).toNat≤127:=by rw [BitVec.toNat_and];exact Nat.and_le_right);rw [e,zg7,show BitVec.ofInt 64 127=127#64 from rfl,IntWalk.i64_in _ ⟨by omega,by omega⟩]
 unfold execOp;simp only [ho,ha.ev hx,ha.ev (x:= .const (.int .i64 127)) rfl];rw [Sem.run_bind,Sem.run_bind,show (eqGuard .and t x (.const (.int .i64 127)) (.int .i64 (IntKind.i64.wrap (a.toNat:Int))) (.int .i64 127)).run P w= .ok () w from rfl];simp only [Result.andThen,hr]
 rfl
end
theorem ziI (a:BitVec 64)(w:World):Calls Tryd.prog 88 #[U a] w fun e w'=>e= .returned (.int .i64 (zij a:Int))∧Below w.heap.size w w':=by
 refine zaa (M:=fun _=>False) (hs:=[]) Tryd.func88 rfl rfl rfl (Hp.refl _ _) ?_;refine T.sr ?_;refine TL.run 1 rfl ?_;refine TL.nx ?_;refine TL.run 1 rfl ?_;refine TL.y (Yv.aY 1 rfl rfl rfl rfl (by decide)) ?_;refine TL.y (Yv.aV (b:=6148914691236517205#64) rfl rfl rfl) ?_;refine TL.run 1 rfl ?_;refine TL.y (Yv.aV (b:=6148914691236517205#64) rfl rfl rfl) ?_;refine TL.y (Yv.bt rfl rfl rfl) ?_;refine TL.run 1 rfl ?_;refine TL.nx ?_;refine TL.run 1 rfl ?_;refine TL.y (Yv.aY 2 rfl rfl rfl rfl (by decide)) ?_;refine TL.y (Yv.aV (b:=3689348814741910323#64) rfl rfl rfl) ?_;refine TL.run 1 rfl ?_;refine TL.y (Yv.aV (b:=3689348814741910323#64) rfl rfl rfl) ?_;refine TL.y (Yv.bt rfl rfl rfl) ?_;refine TL.run 1 rfl ?_;refine TL.nx ?_;refine TL.run 1 rfl ?_;refine TL.y (Yv.aY 4 rfl rfl rfl rfl (by decide)) ?_;refine TL.run 1 rfl ?_;refine TL.y (Yv.bt rfl rfl rfl) ?_;refine TL.y (Yv.aV (b:=1085102592571150095#64) rfl rfl rfl) ?_;refine TL.run 1 rfl ?_;refine TL.nx ?_;refine TL.run 2 rfl ?_;refine TL.y (Yv.aY 8 rfl rfl rfl rfl (by decide)) ?_;refine TL.y (Yv.bt rfl rfl rfl) ?_;refine TL.run 1 rfl ?_;refine TL.nx ?_;refine TL.run 2 rfl ?_;refine TL.y (Yv.aY 16 rfl rfl rfl rfl (by decide)) ?_;refine TL.y (Yv.bt rfl rfl rfl) ?_;refine TL.run 1 rfl ?_;refine TL.nx ?_;refine TL.run 2 rfl ?_;refine TL.y (Yv.aY 32 rfl rfl rfl rfl (by decide)) ?_;refine TL.y (Yv.bt rfl rfl rfl) ?_;refine TL.run 1 rfl ?_;refine TL.nx ?_;refine TL.run 1 rfl ?_;refine TL.y (Yv.co rfl rfl) ?_;refine TL.y (Yv.cd rfl rfl) ?_;refine TL.run 1 rfl ?_;refine TL.ns (T.ret ?_);refine K.ah rfl rfl (fun w' hw=>⟨?_,hw.isBelow⟩)
 rfl
theorem zit (a:BitVec 64)(ha:a≠0#64)(w:World)(ht:Tab w):Calls Tryd.prog 45 #[U a] w fun e w'=>e= .returned (.int .i64 (ctz a:Int))∧Below w.heap.size w w':=by
 obtain ⟨hi,htab⟩:=zj9 ha;have hcell:=ht _ hi;rw [htab] at hcell;have hlt:=zeD ha;refine zaa (M:=fun _=>False) (hs:=[]) Tryd.func45 rfl rfl rfl (Hp.refl _ _) ?_;refine T.sr ?_;refine TL.run 1 rfl ?_;refine TL.ns (T.seq (T.sr ?_));refine TL.run 2 rfl ?_;refine TL.ns ?_;refine T.aE rfl (by rw [zjA];exact decide_eq_false ha) ?_;refine T.skip (K.seq (T.sr ?_));refine TL.run 2 rfl ?_;refine TL.y (Yv.ct rfl rfl) ?_;refine TL.y (Yv.aV rfl rfl rfl) ?_;refine TL.y (Yv.cr (b:=285870213051353865#64) rfl rfl rfl) ?_;refine TL.y (Yv.aY 58 rfl rfl rfl rfl (by decide)) ?_;refine TL.y (Yv.as rfl rfl rfl rfl (by omega)) ?_;refine TL.y (Yv.ar rfl rfl (by rw [show ∀x:Nat,0+x*1=x from fun x=>by omega];exact hcell) (fun h=>h)) ?_;refine TL.y (Yv.cm rfl rfl (by first|exact IntWalk.i64_in _ (by omega)|exact IntWalk.u64_in _ (by omega)|exact IntWalk.u8_in _ (by omega))) ?_;refine TL.run 1 rfl ?_;refine TL.ns (T.ret ?_);refine K.ah rfl rfl (fun w' hw=>⟨?_,hw.isBelow⟩)
 rfl
theorem ziz (l:List Int)(v:Value)(w:World)(h:zdV w v l)(hl:l.length≤9223372036854775807)(hr:∀x∈l,2≤x∧x≤51):Calls Tryd.prog 39 #[v] w fun e w'=>e= .returned (U (zbk l))∧Below w.heap.size w w':=by
 obtain ⟨A,cap,rfl,hsl⟩:=h.op;refine zaa (M:=fun _=>False) (hs:=[]) Tryd.func39 rfl rfl rfl (Hp.refl _ _) ?_;refine T.sr ?_;refine TL.run 1 rfl ?_;refine TL.nx ?_;refine TL.run 1 rfl ?_;refine TL.ns (T.seq (T.sr ?_));refine TL.run 1 rfl ?_;refine TL.y (Yv.aq rfl rfl) ?_;refine TL.run 1 rfl ?_;refine TL.ns (T.block ?_);refine T.loop (ι:=Nat) (fun k=>[(3,U (zbk (l.take k))),(6, .slice A l.length cap),(7, .int .i64 (l.length:Int)),(8, .int .i64 (k:Int))]) (fun k=>[]) (fun k=>k≤l.length) (fun k=>l.length - k) 0 ?_ ?_ ?_ ?_
 ·omega
 ·exact (by repeat (first|exact Sub.nil|refine Sub.cons rfl ?_))
 ·exact Sx
 ·intro k hphi;refine T.sr ?_;refine TL.run 1 rfl ?_;refine TL.ns (T.seq ?_);refine T.cond rfl (fun h1=>?_) (fun h1=>?_)
  ·have p1:=h1; (try simp only [nfB] at p1);obtain ⟨g,off,rfl,hc⟩:=hsl (by omega);have hk:=hc k (by omega);simp only [Ie] at hk;have hr1:=hr _ (zaI (xs:=l) (k:=k) (by omega));refine T.skip (K.seq (T.seq (T.block (T.sr ?_))));refine TL.y (Yv.ag rfl rfl rfl rfl (by omega)) ?_;refine TL.y (Yv.loadC (j:=0) rfl rfl hk rfl rfl (fun h=>h)) ?_;refine TL.run 1 rfl ?_;refine TL.ns (T.region ?_);refine TL.run 2 rfl ?_;refine TL.y (Yv.bb (a:=1#64) (nth l k).toNat rfl rfl rfl (by omega) (by omega)) ?_;refine TL.y (Yv.bC rfl rfl rfl) ?_;refine TL.run 1 rfl ?_;refine TL.nil (K.ad (K.seq (T.region ?_)));refine TL.y (Yv.al rfl rfl rfl (by omega)) ?_;refine TL.run 1 rfl ?_;refine TL.nil ?_;exact K.next (k+1) (by omega) (by omega) (by rw [zgv (by omega)];exact (by repeat (first|exact Sub.nil|refine Sub.cons rfl ?_))) Sx
  ·have p1:=h1; (try simp only [nfB] at p1);refine T.exit (K.ab (K.ab (K.ae (K.seq (T.sr ?_)))));refine TL.run 2 rfl ?_;refine TL.ns (T.ret ?_);exact K.ah rfl rfl (fun w' hw=>⟨by rw [List.take_of_length_le (by omega)],hw.isBelow⟩)
def slen (ws:Ws)(k:Nat):Nat:=((ws.take k).map zij).sum
theorem zfH {ws:Ws}{k:Nat}(h:k<ws.length):slen ws (k+1)=slen ws k+zij (nth ws k):=by
 unfold slen;rw [List.take_succ_eq_append_getElem h,zam h,List.map_append,List.sum_append];simp
theorem zgA (ws:Ws):∀k,slen ws k≤127*k
 |0=>by simp [slen]
 |k+1=>by
  have:=zgA ws k;rcases Nat.lt_or_ge k ws.length with h|h
  ·rw [zfH h];have:=zgQ (nth ws k);omega
  ·unfold slen at *;rw [List.take_of_length_le (by omega)] at *;omega
@[irreducible] def memF (ws:Ws) (i:Nat):List Nat:=(List.range' i (512 - i)).filter (sBit ws)
abbrev memN (ws:Ws):List Nat:=memF ws 0
def zfA:List Nat→Int
 | []=> -1
 |x :: _=>(x:Int)
theorem zd3 {ws:Ws}{i:Nat}(h:∀j,i≤j→j<512→sBit ws j=false):memF ws i=[]:=by
 unfold memF;rw [List.filter_eq_nil_iff];intro j hj;obtain ⟨h1,h2⟩:=List.mem_range'_1.1 hj;rw [h j h1 (by omega)];simp
theorem zfz {ws:Ws}{i r:Nat}(hi:i≤r)(hr:r<512)(hb:sBit ws r=true)(h:∀j,i≤j→j<r→sBit ws j=false):memF ws i=r :: memF ws (r+1):=by
 unfold memF
 have e:List.range' i (512 - i)=List.range' i (r - i)++(r :: List.range' (r+1) (512 - (r+1))):=by
  rw [show r :: List.range' (r+1) (512 - (r+1))=List.range' r (512 - r) from by rw [show 512 - r=(512 - (r+1))+1 by omega,List.range'_succ]];have:=List.range'_append (s:=i) (m:=r - i) (n:=512 - r) (step:=1);rw [Nat.one_mul,show i+(r - i)=r by omega,show r - i+(512 - r)=512 - i by omega] at this;exact this.symm
 rw [e,List.filter_append,List.filter_cons_of_pos (by simpa using hb)]
 have:(List.range' i (r - i)).filter (sBit ws)=[]:=by
  rw [List.filter_eq_nil_iff];intro j hj;obtain ⟨h1,h2⟩:=List.mem_range'_1.1 hj;rw [h j h1 (by omega)];simp
 rw [this];rfl
theorem memF_mem {ws:Ws}{i j:Nat}:j∈memF ws i↔i≤j∧j<512∧sBit ws j=true:=by
 unfold memF;rw [List.mem_filter,List.mem_range'_1];constructor
 ·rintro ⟨⟨h1,h2⟩,h3⟩;exact ⟨h1,by omega,h3⟩
 ·rintro ⟨h1,h2,h3⟩;exact ⟨⟨h1,by omega⟩,h3⟩
theorem zhN {ws:Ws}{i h:Nat}{t:List Nat}(e:memF ws i=h :: t):i≤h∧h<512∧t=memF ws (h+1):=by
 have hm:=memF_mem.1 (show h∈memF ws i by rw [e];simp)
 have hs:memF ws i=h :: memF ws (h+1):=zfz hm.1 hm.2.1 hm.2.2 (fun j h1 h2=>by
  cases hb:sBit ws j with
  |false=>rfl
  |true=>
   have hj:j∈memF ws i:=memF_mem.2 ⟨h1,by omega,hb⟩; (have hsort:(memF ws i).Pairwise (· < ·):=by unfold memF;exact List.Pairwise.filter _ List.pairwise_lt_range');rw [e] at hj hsort;rcases List.mem_cons.1 hj with hj|hj
   ·omega
   ·have:=(List.pairwise_cons.1 hsort).1 j hj;omega)
 rw [e] at hs;exact ⟨hm.1,hm.2.1,(List.cons.inj hs).2⟩
theorem zdS (ws:Ws)(i:Nat):(memF ws i).length≤512:=by
 unfold memF;have:=List.length_filter_le (sBit ws) (List.range' i (512 - i));rw [List.length_range'] at this;omega
theorem zjL (a:BitVec 64)(k j:Nat)(hj:j<64):((a >>> k) <<< k).getLsbD j=(a.getLsbD j&&decide (k≤j)):=by
 rw [BitVec.getLsbD_shiftLeft,BitVec.getLsbD_ushiftRight];by_cases h:j<k
 ·simp [h]
 ·rw [show k+(j - k)=j by omega];simp [hj,h];intro _;omega
structure NxInv (ws:Ws) (i at':Nat) (b:BitVec 64):Prop where
 lt:at'<8
 ge:i<64* (at'+1)
 bit:∀j,j<64→b.getLsbD j=(sBit ws (64*at'+j)&&decide (i≤64*at'+j))
 none:∀j,i≤j→j<64*at'→sBit ws j=false
theorem NxInv.start {ws:Ws}{i:Nat}(hi:i<512):NxInv ws i (i / 64) ((nth ws (i / 64) >>> (i % 64)) <<< (i % 64)) where
 lt:=by omega
 ge:=by omega
 bit j hj:=by
  rw [zjL _ _ _ hj];unfold sBit;rw [show (64* (i / 64)+j) / 64=i / 64 by omega,show (64* (i / 64)+j) % 64=j by omega]
  congr 1
  exact decide_eq_decide.2 (by omega)
 none j h1 h2:=by omega
theorem NxInv.next {ws:Ws}{i a:Nat}(h:NxInv ws i a 0#64)(ha:a+1<8):NxInv ws i (a+1) (nth ws (a+1)) where
 lt:=ha
 ge:=by have:=h.ge;omega
 bit j hj:=by
  have:=h.ge;unfold sBit;rw [show (64* (a+1)+j) / 64=a+1 by omega,show (64* (a+1)+j) % 64=j by omega,decide_eq_true (by omega),Bool.and_true]
 none j h1 h2:=by
  rcases Nat.lt_or_ge j (64*a) with hj|hj
  ·exact h.none j h1 hj
  ·have:=h.bit (j - 64*a) (by omega);rw [show 64*a+(j - 64*a)=j by omega,decide_eq_true h1,Bool.and_true,BitVec.getLsbD_zero] at this;exact this.symm
theorem NxInv.found {ws:Ws}{i a:Nat}{b:BitVec 64}(h:NxInv ws i a b)(hb:b≠0#64):memF ws i=(64*a+ctz b) :: memF ws (64*a+ctz b+1):=by
 have hc:=zeD hb;have h1:=(zcz hb 0).1;rw [h.bit _ hc] at h1;simp only [Bool.and_eq_true,decide_eq_true_eq] at h1;have:=h.lt;refine zfz h1.2 (by omega) h1.1 (fun j hi hj=>?_);rcases Nat.lt_or_ge j (64*a) with hj2|hj2
 ·exact h.none j hi hj2
 ·have h2:=(zcz hb (j - 64*a)).2 (by omega);rw [h.bit _ (by omega),show 64*a+(j - 64*a)=j by omega,decide_eq_true hi,Bool.and_true] at h2;exact h2
theorem NxInv.over {ws:Ws}{i a:Nat}(h:NxInv ws i a 0#64)(ha:a+1=8):memF ws i=[]:=zd3 fun j h1 h2=>by
 rcases Nat.lt_or_ge j (64*a) with hj2|hj2
 ·exact h.none j h1 hj2
 ·have h3:=h.bit (j - 64*a) (by omega);rw [show 64*a+(j - 64*a)=j by omega,decide_eq_true h1,Bool.and_true,BitVec.getLsbD_zero] at h3;exact h3.symm
theorem ze9 (ws:Ws):∀(k i:Nat),k<(memF ws i).length→memF ws (nth (memF ws i) k+1)=(memF ws i).drop (k+1)
 |k,i,hk=>by
  cases e:memF ws i with
  |nil=>rw [e] at hk;simp at hk
  |cons h t=>
   obtain ⟨h1,h2,h3⟩:=zhN e
   cases k with
   |zero=>simp [nth,h3]
   |succ k=>
    rw [e] at hk;subst h3;have:=ze9 ws k (h+1) (by simpa using hk);simpa [nth] using this
theorem zeF {xs:List Nat}{k:Nat}(h:k<xs.length):zfA (xs.drop k)=((nth xs k:Nat):Int):=by
 rw [List.drop_eq_getElem_cons h,zam h];rfl
theorem zil {xs:List Nat}{k:Nat}(h:zfA (xs.drop k)<0):xs.length≤k:=by
 rcases Nat.lt_or_ge k xs.length with hk|hk
 ·rw [zeF hk] at h;omega
 ·exact hk
theorem ziq {xs:List Nat}{k:Nat}(h:0≤zfA (xs.drop k)):k<xs.length:=by
 rcases Nat.lt_or_ge k xs.length with hk|hk
 ·exact hk
 ·rw [List.drop_eq_nil_of_le hk] at h;simp [zfA] at h
theorem zjT {α:Type}[Inhabited α]{xs:List α}{k:Nat}(h:k<xs.length):xs[k]?=some (nth xs k):=by rw [zam h];exact List.getElem?_eq_getElem h
theorem zjJ {α:Type}[Inhabited α]{xs:List α}{k:Nat}{x:α}(h:xs[k]?=some x):k<xs.length∧x=nth xs k:=by
 obtain ⟨h1,h2⟩:=List.getElem?_eq_some_iff.1 h;exact ⟨h1,by rw [zam h1,h2]⟩
def nums (l:List Nat):List Value:=l.map fun j:Nat=> .int .i64 (j:Int)
theorem zhF {l:List Nat}{k:Nat}(h:k<l.length):nums (l.take (k+1))=nums (l.take k)++[.int .i64 ((nth l k:Nat):Int)]:=by
 unfold nums;rw [List.take_succ_eq_append_getElem h,zam h,List.map_append];rfl
theorem zhQ (l:List Nat):nums l=(l.map fun j:Nat=>(j:Int)).flatMap Ie:=by
 unfold nums
 induction l with
 |nil=>rfl
 |cons x r ih=>simp_all [Ie]
@[irreducible] def chansN (m:BitVec 64):List Nat:=(List.range' 0 64).filter m.getLsbD
theorem zcS {m:BitVec 64}(h:m≠0#64):chansN m=ctz m :: chansN (m &&& (m - 1#64)):=by
 have hc:=zeD h
 have e:List.range' 0 64=List.range' 0 (ctz m)++(ctz m :: List.range' (ctz m+1) (64 - (ctz m+1))):=by
  rw [show ctz m :: List.range' (ctz m+1) (64 - (ctz m+1))=List.range' (ctz m) (64 - ctz m) from by rw [show 64 - ctz m=(64 - (ctz m+1))+1 by omega,List.range'_succ]];have:=List.range'_append (s:=0) (m:=ctz m) (n:=64 - ctz m) (step:=1);rw [Nat.one_mul,Nat.zero_add,show ctz m+(64 - ctz m)=64 by omega] at this;exact this.symm
 have z:∀f:Nat→Bool,(∀j,j<ctz m→f j=false)→(List.range' 0 (ctz m)).filter f=[]:=fun f hf=>by
  rw [List.filter_eq_nil_iff];intro j hj;obtain ⟨_,h2⟩:=List.mem_range'_1.1 hj;rw [hf j (by omega)];simp
 unfold chansN;rw [e,List.filter_append,List.filter_append,z _ (fun j hj=>(zcz h j).2 hj),z _ (fun j hj=>by rw [zdy h,(zcz h j).2 hj];rfl),List.filter_cons_of_pos (by simpa using (zcz h 0).1),List.filter_cons_of_neg (by rw [zdy h];simp)];simp only [List.nil_append]
 congr 1
 apply List.filter_congr;intro j hj;obtain ⟨h1,_⟩:=List.mem_range'_1.1 hj;rw [zdy h,decide_eq_false (by omega)];simp
theorem zhj (m:BitVec 64):(chansN m).length≤64:=by
 unfold chansN;have:=List.length_filter_le m.getLsbD (List.range' 0 64);rw [List.length_range'] at this;exact this
theorem zf9:chansN 0#64=[]:=by
 unfold chansN;rw [List.filter_eq_nil_iff];intro j _;simp
theorem zjy (ws:Ws)(hws:ws.length=8)(w:World):Calls Tryd.prog 82 #[.agg ws.cells.toArray] w fun e w'=>e= .returned (.int .i64 (slen ws 8:Int))∧Below w.heap.size w w':=by
 refine zaa (M:=fun _=>False) (hs:=[]) Tryd.func82 rfl rfl rfl (Hp.refl _ _) ?_;refine T.sr ?_; (refine TL.ew (Wt.none rfl) rfl rfl (Ew.aA rfl rfl) ?_;rintro _ _ ⟨g1,rfl,rfl⟩);refine TL.run 1 rfl ?_;refine TL.nx ?_;refine TL.run 1 rfl ?_;refine TL.ns (T.seq (T.sr ?_));refine TL.y (Yv.fieldAddr rfl rfl) ?_;refine TL.y (Yv.ao 0 rfl rfl rfl (by rw [List.length_map,hws])) ?_;refine TL.run 1 rfl ?_;refine TL.ns (T.block ?_);refine T.loop (ι:=Nat) (fun k=>[(3, .int .i64 (slen ws k:Int)),(7, .agg ws.cells.toArray),(8, .int .i64 (k:Int))]) (fun k=>[]) (fun k=>k≤8) (fun k=>8 - k) 0 ?_ ?_ ?_ ?_
 ·omega
 ·exact (by repeat (first|exact Sub.nil|refine Sub.cons rfl ?_))
 ·exact Sx
 ·intro k hphi;have hle:=zgA ws k;refine T.sr ?_;refine TL.run 1 rfl ?_;refine TL.ns (T.seq ?_);refine T.cond rfl (fun h1=>?_) (fun h1=>?_)
  ·have p1:=h1; (try simp only [nfB] at p1);have hld:=Ws.get (ws:=ws) (i:=k) (p:=k) (by omega) rfl;have hp8:=zgQ (nth ws k);refine T.skip (K.seq (T.seq (T.block (T.sr ?_))));refine TL.y (Yv.bL rfl rfl rfl rfl (by omega) hld) ?_;refine TL.run 1 rfl ?_;refine TL.ns (T.region ?_);refine TL.run 2 rfl ?_; (refine TL.ew (Wt.none rfl) rfl rfl (Ew.af rfl rfl rfl (fun w hw=>ziI _ w)) ?_;rintro _ _ ⟨rfl,rfl⟩);refine TL.y (Yv.al rfl rfl rfl (by omega)) ?_;refine TL.run 1 rfl ?_;refine TL.nil (K.ad (K.seq (T.region ?_)));refine TL.y (Yv.al rfl rfl rfl (by omega)) ?_;refine TL.run 1 rfl ?_;refine TL.nil ?_;exact K.next (k+1) (by omega) (by omega) (by repeat (first|exact Sub.nil|refine Sub.cons rfl ?_|(refine Sub.consI rfl (by rw [zfH (by omega)];omega) ?_))) Sx
  ·have p1:=h1; (try simp only [nfB] at p1);refine T.exit (K.ab (K.ab (K.ae (K.seq (T.sr ?_)))));refine TL.run 2 rfl ?_;refine TL.ns (T.ret ?_);exact K.ah rfl rfl (fun w' hw=>⟨zbA (by rw [show k=8 by omega]),hw.isBelow⟩)
theorem zjQ (ws:Ws)(hws:ws.length=8)(i:Nat)(hi:i<512)(w:World):Calls Tryd.prog 85 #[.agg ws.cells.toArray, .int .i64 (i:Int)] w fun e w'=>e= .returned (.tuple #[.agg (Ws.cells (sAdd ws i)).toArray, .int .i64 0])∧Below w.heap.size w w':=by
 have hld:=Ws.get (ws:=ws) (i:=i / 64) (p:=0+0+i / 64*1) (by omega) (by omega);refine zaa (M:=fun _=>False) (hs:=[]) Tryd.func85 rfl rfl rfl (Hp.refl _ _) ?_;refine T.sr ?_; (refine TL.ew (Wt.none rfl) rfl rfl (Ew.aA rfl rfl) ?_;rintro _ _ ⟨g2,rfl,rfl⟩); (refine TL.ew (Wt.none rfl) rfl rfl (Ew.alloc rfl) ?_;rintro _ _ ⟨g4,rfl,rfl⟩);refine TL.run 1 rfl ?_;refine TL.ns (T.seq (T.sr ?_));refine TL.run 1 rfl ?_; (refine TL.ew (Wt.none rfl) rfl rfl (Ew.af rfl rfl rfl (fun w hw=>zcX _ _)) ?_;rintro _ _ ⟨rfl,rfl⟩);refine TL.run 1 rfl ?_;refine TL.ns ?_;refine T.aE rfl (by rw [inB,decide_eq_true (show (0:Int)≤(i:Int) by omega),decide_eq_true (show (i:Int)≤511 by omega)];rfl) ?_;refine T.skip (K.seq (T.seq ?_));refine T.ay (.still 0 (.still 1 (.still 2 (.still 3 (.still 5 (.still 6 (.still 7 (.still 9 (.eff 4 (.still 8 (.still 10 (.eff 11 .done)))))))))))) [.row g4 112 (Ws.cells sNil)] (by kernel_rfl) Sx ?_;refine TS.run 1 rfl ?_;refine TS.y rfl (Yv.bJ rfl rfl rfl (by omega)) ?_;refine TS.y rfl (Yv.fieldAddr rfl rfl) ?_;refine TS.y rfl (Yv.as rfl rfl rfl (show (i:Int) / 64=((i / 64:Nat):Int) from by omega) (by omega)) ?_;refine TS.run 1 rfl ?_;refine TS.y rfl (Yv.by rfl rfl rfl (by omega)) ?_;refine TS.y rfl (Yv.bb (a:=1#64) (i % 64) rfl rfl rfl (by omega) (by omega)) ?_;refine TS.y rfl (Yv.fieldAddr rfl rfl) ?_;refine TS.eff ?_;refine TSo.yv rfl (Wt.none rfl) rfl rfl (Yv.ac 1 rfl rfl rfl hld) Sx ?_;refine TS.y rfl (Yv.bC rfl rfl rfl) ?_;refine TS.y rfl (Yv.as rfl rfl rfl (show (i:Int) / 64=((i / 64:Nat):Int) from by omega) (by omega)) ?_;refine TS.eff ?_; (refine TSo.ax rfl (Wt.none rfl) rfl (Ew.aN 1 (Ws.cells (sAdd ws i)) rfl rfl rfl rfl (by rw [List.length_map,hws];omega) (Ws.put (by omega))) ?_;rintro _ _ ⟨rfl,rfl⟩;refine ⟨Sx,?_⟩);refine TS.done ?_;refine K.seq (T.sr ?_);refine TL.y (Yv.ao 1 rfl rfl rfl (by rw [List.length_map,za4,hws])) ?_; (refine TL.ax (Wt.none rfl) rfl (Ew.aj 0 rfl rfl rfl rfl (by rw [List.length_map,za4,hws]) (by rw [List.length_map,za4,hws];rfl)) ?_;rintro _ _ ⟨rfl,rfl⟩);refine TL.run 1 rfl ?_;refine TL.ns (T.ret ?_);exact K.bo 0 rfl rfl rfl rfl (by rw [List.length_map,za4,hws]) (fun w' hw=>⟨rfl,hw.isBelow⟩)
theorem zgS (ws:Ws)(hws:ws.length=8)(i:Nat)(z:Int)(hz:z=(i:Int))(w:World)(ht:Tab w):Calls Tryd.prog 91 #[.agg ws.cells.toArray, .int .i64 z] w fun e w'=>e= .returned (.int .i64 (zfA (memF ws i)))∧Below w.heap.size w w':=by
 subst hz;refine zaa (M:=fun _=>False) (hs:=[]) Tryd.func91 rfl rfl rfl (Hp.refl _ _) ?_;refine T.sr ?_; (refine TL.ew (Wt.none rfl) rfl rfl (Ew.aA rfl rfl) ?_;rintro _ _ ⟨g2,rfl,rfl⟩);refine TL.run 1 rfl ?_;refine TL.ns (T.seq (T.sr ?_));refine TL.run 2 rfl ?_;refine TL.ns ?_;refine T.aE rfl (decide_eq_false (by omega)) ?_;refine T.skip (K.seq (T.seq (T.sr ?_)));refine TL.run 2 rfl ?_;refine TL.ns ?_;refine T.cond rfl (fun h1=>?_) (fun h1=>?_)
 ·have p1:=h1; (try simp only [nfB] at p1);refine T.sr ?_;refine TL.run 1 rfl ?_;refine TL.ns (T.ret (K.aa ?_));exact K.ah rfl rfl (fun w' hw=>⟨zbA (by rw [zd3 (fun j h1 h2=>by omega)];rfl),hw.isBelow⟩)
 ·have p1:=h1; (try simp only [nfB] at p1);have hld:=Ws.get (ws:=ws) (i:=i / 64) (p:=0+0+i / 64*1) (by omega) (by omega);refine T.skip (K.seq (T.sr ?_));refine TL.run 1 rfl ?_;refine TL.y (Yv.bJ rfl rfl rfl (by omega)) ?_;refine TL.run 1 rfl ?_;refine TL.nx ?_;refine TL.run 1 rfl ?_;refine TL.y (Yv.fieldAddr rfl rfl) ?_;refine TL.y (Yv.as rfl rfl rfl (show (i:Int) / 64=((i / 64:Nat):Int) from by omega) (by omega)) ?_;refine TL.y (Yv.ac 0 rfl rfl rfl hld) ?_;refine TL.run 1 rfl ?_;refine TL.y (Yv.by rfl rfl rfl (by omega)) ?_;refine TL.y (Yv.aY (i % 64) rfl rfl rfl (by omega) (by omega)) ?_;refine TL.run 1 rfl ?_;refine TL.y (Yv.by rfl rfl rfl (by omega)) ?_;refine TL.y (Yv.bb (i % 64) rfl rfl rfl (by omega) (by omega)) ?_;refine TL.run 1 rfl ?_;refine TL.ns (T.seq (T.block ?_));refine T.loop (ι:=Nat×BitVec 64) (fun x=>[(2, .pointer (some ⟨g2,0,none⟩)),(5, .int .i64 (x.1:Int)),(6,U x.2)]) (fun x=>[.row g2 112 ws.cells]) (fun x=>NxInv ws i x.1 x.2) (fun x=>8 - x.1) (i / 64,(nth ws (i / 64) >>> (i % 64)) <<< (i % 64)) ?_ ?_ ?_ ?_
  ·exact NxInv.start (by omega)
  ·exact (by repeat (first|exact Sub.nil|refine Sub.cons rfl ?_|(refine Sub.consI rfl (by omega) ?_)))
  ·exact Sx
  ·intro x hphi;obtain ⟨a,b⟩:=x;dsimp only at hphi ⊢;have hlt0:=hphi.lt;refine T.seq (T.sr ?_);refine TL.run 2 rfl ?_;refine TL.ns ?_;refine T.cond rfl (fun h2=>?_) (fun h2=>?_)
   ·have p2:=h2; (try simp only [nfB] at p2); (have hb0:b=0#64:=by rw [zjA] at h2;exact of_decide_eq_true h2);subst hb0;refine T.skip (K.seq (T.block (T.sr ?_)));refine TL.run 1 rfl ?_;refine TL.y (Yv.al rfl rfl rfl (by omega)) ?_;refine TL.run 1 rfl ?_;refine TL.ns (T.seq (T.sr ?_));refine TL.run 2 rfl ?_;refine TL.ns ?_;refine T.cond rfl (fun h3=>?_) (fun h3=>?_)
    ·have p3:=h3; (try simp only [nfB] at p3);refine T.sr ?_;refine TL.run 1 rfl ?_;refine TL.ns (T.ret (K.aa (K.ai (K.aa (K.ai (K.aa ?_))))));exact K.ah rfl rfl (fun w' hw=>⟨zbA (by rw [hphi.over (by omega)];rfl),hw.isBelow⟩)
    ·have p3:=h3; (try simp only [nfB] at p3);have hlt8:=hphi.lt;have hld:=Ws.get (ws:=ws) (i:=a+1) (p:=0+0+(a+1) *1) (by omega) (by omega);refine T.skip (K.seq (T.region ?_));refine TL.run 1 rfl ?_;refine TL.y (Yv.fieldAddr rfl rfl) ?_;refine TL.y (Yv.as rfl rfl rfl (show (a:Int)+1=((a+1:Nat):Int) from by omega) (by omega)) ?_;refine TL.y (Yv.ac 0 rfl rfl rfl hld) ?_;refine TL.run 1 rfl ?_;refine TL.nil (K.ad ?_);exact K.next (a+1,nth ws (a+1)) (hphi.next (by omega)) (by show 8 - (a+1)<8 - a;omega) (by repeat (first|exact Sub.nil|refine Sub.cons rfl ?_|(refine Sub.consI rfl (by omega) ?_))) Sx
   ·have p2:=h2; (try simp only [nfB] at p2); (have hb0:b≠0#64:=by rw [zjA] at h2;exact of_decide_eq_false h2);have hcz:=zeD hb0;have hlt8:=hphi.lt;refine T.exit (K.ab (K.ab (K.ae (K.seq (T.sr ?_)))));refine TL.run 1 rfl ?_;refine TL.y (Yv.cq rfl rfl rfl (by omega)) ?_;refine TL.run 1 rfl ?_; (refine TL.ew (Wt.none rfl) rfl rfl (Ew.af rfl rfl rfl (fun w hw=>zit b hb0 w (ht.keptF hw))) ?_;rintro _ _ ⟨rfl,rfl⟩);refine TL.y (Yv.al rfl rfl rfl (by omega)) ?_;refine TL.run 1 rfl ?_;refine TL.ns (T.ret ?_);exact K.ah rfl rfl (fun w' hw=>⟨zbA (by rw [hphi.found hb0];simp only [zfA];omega),hw.isBelow⟩)
theorem zjv (ws:Ws)(hws:ws.length=8)(w:World)(ht:Tab w):Calls Tryd.prog 90 #[.agg ws.cells.toArray] w fun e w'=>e= .returned (.int .i64 (zfA (memN ws)))∧Below w.heap.size w w':=by
 refine zaa (M:=fun _=>False) (hs:=[]) Tryd.func90 rfl rfl rfl (Hp.refl _ _) ?_;refine T.sr ?_; (refine TL.ew (Wt.none rfl) rfl rfl (Ew.aA rfl rfl) ?_;rintro _ _ ⟨g1,rfl,rfl⟩);refine TL.run 1 rfl ?_;refine TL.nx ?_;refine TL.y (Yv.ao 0 rfl rfl rfl (by rw [List.length_map,hws])) ?_; (refine TL.ew (Wt.none rfl) rfl rfl (Ew.af rfl rfl rfl (fun w hw=>zgS ws hws 0 0 rfl w (ht.keptF hw))) ?_;rintro _ _ ⟨rfl,rfl⟩);refine TL.run 1 rfl ?_;refine TL.ns (T.ret ?_);refine K.ah rfl rfl (fun w' hw=>⟨?_,hw.isBelow⟩)
 rfl
theorem zjq (ws:Ws)(hws:ws.length=8)(w:World):Calls Tryd.prog 83 #[.agg ws.cells.toArray] w fun e w'=>∃x:Nat,True∧e= .returned (.func (.func 89) #[] #[.pointer (some ⟨x,0,none⟩)])∧Hp w (fun _=>False) [.row x 112 ws.cells] w':=by
 refine zaa (M:=fun _=>False) (hs:=[]) Tryd.func83 rfl rfl rfl (Hp.refl _ _) ?_;refine T.sr ?_; (refine TL.ew (Wt.none rfl) rfl rfl (Ew.aA rfl rfl) ?_;rintro _ _ ⟨g1,rfl,rfl⟩);refine TL.run 1 rfl ?_;refine TL.nx ?_;refine TL.run 2 rfl ?_;refine TL.ns (T.ret ?_);exact K.ah rfl rfl (fun w' hw=>⟨g1,trivial,rfl,hw⟩)
theorem ziJ (ws:Ws)(hws:ws.length=8)(p:Nat)(B:World)(M:Nat→Prop)(ht:Tab B)(hM0:¬M 0):IterAt Tryd.prog 89 [.pointer (some ⟨p,0,none⟩)] (fun j:Nat=>[.int .i64 (j:Int)]) (memN ws) [.row p 112 ws.cells] B M:=by
 intro G Z l W g0 hy hG0 hW;refine zeS (B:=B) (M:=M) Tryd.func89 rfl rfl rfl hW ?_;refine T.sr ?_;refine TL.y (Yv.ao 0 rfl rfl rfl (by rw [List.length_map,hws])) ?_; (refine TL.ew (Wt.none rfl) rfl rfl (Ew.af rfl rfl rfl (fun w hw=>zjv ws hws w (ht.kept hw hM0))) ?_;rintro _ _ ⟨rfl,rfl⟩);refine TL.run 1 rfl ?_;refine TL.ns (T.block ?_);refine T.loop (ι:=Nat×HS) (fun x=>[(0, .func (.yield l) #[] #[]),(1, .pointer (some ⟨p,0,none⟩)),(3, .int .i64 (zfA ((memN ws).drop x.1)))]) (fun x=>[.row p 112 ws.cells]++x.2) (fun x=>x.1≤(memN ws).length∧G x.1 x.2) (fun x=>(memN ws).length - x.1) (0,g0) ?_ ?_ ?_ ?_
 ·exact ⟨by simp,hG0⟩
 ·exact (by repeat (first|exact Sub.nil|refine Sub.cons rfl ?_))
 ·exact List.Sublist.refl _
 ·intro x hphi;obtain ⟨k,g⟩:=x;dsimp only at hphi ⊢;obtain ⟨hkn,hG⟩:=hphi;refine T.seq (T.sr ?_);refine TL.run 2 rfl ?_;refine TL.ns ?_;refine T.cond rfl (fun h1=>?_) (fun h1=>?_)
  ·have p1:=h1; (try simp only [nfB] at p1);have hk:=ziq p1;have h512:nth (memN ws) k<512:=(memF_mem.1 (zaI hk)).2.1;rw [zeF hk];refine T.skip (K.seq (T.seq (T.block (T.sr ?_))));refine TL.run 2 rfl ?_;refine TL.bW (Wt.none rfl) rfl rfl rfl rfl rfl hy (zjT hk) hG (enc:=fun j:Nat=>[.int .i64 (j:Int)]) (x:=nth (memN ws) k) (i:=k) ?_ ?_
   ·intro g' hG';refine TL.run 1 rfl ?_;refine TL.ns ?_;refine T.aE rfl rfl ?_;refine T.skip (K.ad (K.seq (T.region ?_)));refine TL.y (Yv.ao 0 rfl rfl rfl (by rw [List.length_map,hws])) ?_;refine TL.run 1 rfl ?_;refine TL.y (Yv.al rfl rfl rfl (by omega)) ?_; (refine TL.ew (Wt.none rfl) rfl rfl (Ew.af rfl rfl rfl (fun w hw=>zgS ws hws (nth (memN ws) k+1) _ (by omega) w (ht.kept hw hM0))) ?_;rintro _ _ ⟨rfl,rfl⟩);refine TL.run 1 rfl ?_;refine TL.nil ?_;exact K.next (k+1,g') ⟨by dsimp only;omega,hG'⟩ (by dsimp only;omega) (by rw [←ze9 ws k 0 hk];exact (by repeat (first|exact Sub.nil|refine Sub.cons rfl ?_))) (List.Sublist.refl _)
   ·intro z hZ;refine TL.run 1 rfl ?_;refine TL.ns ?_;refine T.aC rfl rfl ?_;refine T.ret (K.ai (K.aa (K.aa (K.ai ?_))));exact K.bR rfl (fun w' hw hkp=>⟨⟨_,rfl⟩,hkp, .inr ⟨z,hZ,hw⟩⟩)
  ·have p1:=h1; (try simp only [nfB] at p1);have hk:=zil p1;refine T.exit (K.ab (K.ab (K.ae ?_)));exact K.bS rfl (fun w' hw hkp=>⟨⟨_,rfl⟩,hkp, .inl ⟨g,by rw [show (memN ws).length=k from by omega];exact hG,hw⟩⟩)
theorem zgJ (ws:Ws)(hws:ws.length=8)(w:World)(ht:Tab w):Calls Tryd.prog 63 #[.agg ws.cells.toArray] w fun e w'=>∃v:Value,True∧e= .returned v∧Hp w (fun _=>False) [.sl v 3 1 (memN ws).length (nums (memN ws))] w':=by
 have hsl8:=zgA ws 8;have hml:=zdS ws 0;refine zaa (M:=fun _=>False) (hs:=[]) Tryd.func63 rfl rfl rfl (Hp.refl _ _) ?_;refine T.sr ?_; (refine TL.ew (Wt.none rfl) rfl rfl (Ew.aA rfl rfl) ?_;rintro _ _ ⟨g1,rfl,rfl⟩);refine TL.run 1 rfl ?_;refine TL.nx ?_;refine TL.y (Yv.ao 0 rfl rfl rfl (by rw [List.length_map,hws])) ?_; (refine TL.ew (Wt.none rfl) rfl rfl (Ew.af rfl rfl rfl (fun w hw=>zjy ws hws w)) ?_;rintro _ _ ⟨rfl,rfl⟩); (refine TL.ew (Wt.none rfl) rfl rfl (Ew.bD rfl rfl rfl rfl (by omega) (by omega)) ?_;rintro _ _ ⟨g7,rfl,rfl⟩); (refine TL.ew (Wt.none rfl) rfl rfl (Ew.alloc rfl) ?_;rintro _ _ ⟨g3,rfl,rfl⟩); (refine TL.ax (Wt.none rfl) rfl (Ew.aB 0 rfl rfl rfl rfl (by decide)) ?_;rintro _ _ ⟨rfl,rfl⟩);refine TL.ns (T.seq (T.sr ?_));refine TL.y (Yv.ao 2 rfl rfl rfl (by rw [List.length_map,hws])) ?_; (refine TL.ew (Wt.none rfl) rfl rfl (Ew.bc rfl rfl rfl (fun w hw=>zjq ws hws _)) ?_;rintro _ _ ⟨b9, -,rfl,rfl⟩);dsimp only [List.cons_append,List.nil_append];refine TL.ns (T.block ?_);refine T.bB (α:=Nat) ((fun j:Nat=>[.int .i64 (j:Int)])) (memN ws) ([.row b9 112 ws.cells]) (fun i g=>∃v,g=[.row g3 60 [v], .sl v 3 1 i (nums ((memN ws).take i))]) (fun _ _=>False) (fun x=>[(3, .pointer (some ⟨g3,0,none⟩)),(4, .int .i64 (x:Int))]) (_) (⟨_,rfl⟩) rfl (ziJ ws hws b9 _ _ ht (fun h=>h)) (by decide) (fun _=>rfl) (by exact Sx) ?_ ?_ ?_ ?_
 ·intro l i x X D g hx;refine T.region ?_;refine TL.run 1 rfl ?_;refine TL.nil ?_;exact K.at (by repeat (first|exact Sub.nil|refine Sub.cons rfl ?_)) (List.Sublist.refl _)
 ·intro l i x X D g hx hG;obtain ⟨v,rfl⟩:=hG;obtain ⟨hi,rfl⟩:=zjJ hx;have hi2:i<(memF ws 0).length:=hi;dsimp only [List.cons_append,List.nil_append];refine T.block (T.region ?_);refine TL.y (Yv.ac 1 rfl rfl rfl rfl) ?_;refine TL.run 1 rfl ?_; (refine TL.ew (Wt.none rfl) rfl rfl (Ew.buildSlice rfl rfl rfl (by decide)) ?_;rintro _ _ ⟨g13,rfl,rfl⟩); (refine TL.ew (Wt.none rfl) rfl rfl (Ew.append 3 0 rfl rfl rfl rfl rfl rfl (by omega) (by omega)) ?_;rintro v14 _ ⟨hv14,rfl⟩); (refine TL.ax (Wt.none rfl) rfl (Ew.aB 2 rfl rfl rfl rfl (by first|omega|simp)) ?_;rintro _ _ ⟨rfl,rfl⟩);refine TL.nil (K.ad ?_);exact K.round _ ⟨_,rfl,v14,rfl⟩ (by rw [zhF hi];exact Sx)
 ·intro g hG;obtain ⟨v,rfl⟩:=hG;dsimp only [List.cons_append,List.nil_append];rw [List.take_length];refine K.ad (K.seq (T.sr ?_));refine TL.y (Yv.ac 1 rfl rfl rfl rfl) ?_;refine TL.run 1 rfl ?_;refine TL.ns (T.ret ?_);exact K.ah rfl rfl (fun w' hw=>⟨_,trivial,rfl,hw.sub Sx⟩)
 ·intro c y hz;exact hz.elim
theorem zcp {w:World}{v:Value}{e:TypeId}{size k:Nat}{l:List Value}(h:(Ent.sl v e size k l).ok w):OneC v:=by
 rcases (Ent.sl_ok.1 h).2 with ⟨rfl,_⟩|⟨g,cap,cur,rfl,_⟩ <;> exact inferInstance
theorem zfd (m:BitVec 64)(w:World)(ht:Tab w):Calls Tryd.prog 36 #[U m] w fun e w'=>∃v:Value,OneC v∧e= .returned v∧Hp w (fun _=>False) [.sl v 3 1 (chansN m).length (nums (chansN m))] w':=by
 have hcl:=zhj m;refine zaa (M:=fun _=>False) (hs:=[]) Tryd.func36 rfl rfl rfl (Hp.refl _ _) ?_;refine T.sr ?_;refine TL.run 1 rfl ?_;refine TL.nx ?_;refine TL.run 1 rfl ?_;refine TL.ns (T.seq (T.block ?_));refine T.slNil 3 1 ?_;refine T.loop (ι:=BitVec 64×List Nat×Value) (fun x=>[(0,U x.1),(3,x.2.2)]) (fun x=>[.sl x.2.2 3 1 x.2.1.length (nums x.2.1)]) (fun x=>x.2.1++chansN x.1=chansN m) (fun x=>(chansN x.1).length) (m,[], .slice none 0 0) ?_ ?_ ?_ ?_
 ·rfl
 ·exact (by repeat (first|exact Sub.nil|refine Sub.cons rfl ?_))
 ·exact Sx
 ·intro x hphi;obtain ⟨b,l,v⟩:=x;dsimp only at hphi ⊢; (have hll:l.length+(chansN b).length=(chansN m).length:=by rw [←hphi,List.length_append]);refine T.seq (T.sr ?_);refine TL.run 2 rfl ?_;refine TL.ns ?_;refine T.cond rfl (fun h1=>?_) (fun h1=>?_)
  ·have p1:=h1; (try simp only [nfB] at p1); (have hb0:b≠0#64:=by rintro rfl;exact p1 rfl);have hst:=zcS hb0;refine T.skip (K.seq (T.seq (T.block (T.region ?_))));refine TL.run 2 rfl ?_; (refine TL.ew (Wt.none rfl) rfl rfl (Ew.af rfl rfl rfl (fun w hw=>zit b hb0 w (ht.keptF hw))) ?_;rintro _ _ ⟨rfl,rfl⟩); (refine TL.ew (Wt.none rfl) rfl rfl (Ew.buildSlice rfl rfl rfl (by decide)) ?_;rintro _ _ ⟨g13,rfl,rfl⟩); (refine TL.ew (Wt.none rfl) rfl rfl (Ew.append 1 0 rfl rfl rfl rfl rfl rfl (by omega) (by omega)) ?_;rintro v14 _ ⟨hv14,rfl⟩);refine TL.run 1 rfl ?_;refine TL.nil (K.ad (K.seq (T.region ?_)));refine TL.run 2 rfl ?_;refine TL.y (Yv.ck (b:=1#64) rfl rfl rfl) ?_;refine TL.y (Yv.aV rfl rfl rfl) ?_;refine TL.run 1 rfl ?_;refine TL.nil ?_;exact K.next (b &&& (b - 1#64),l++[ctz b],v14) (by dsimp only;rw [List.append_assoc,List.singleton_append,←zcS hb0];exact hphi) (by dsimp only;rw [zcS hb0];simp) (by repeat (first|exact Sub.nil|refine Sub.cons rfl ?_)) (by simp only [List.length_append,List.length_singleton,nums,List.map_append,List.map_cons,List.map_nil];exact Sx)
  ·have p1:=h1; (try simp only [nfB] at p1); (have hb0:b=0#64:=by refine BitVec.eq_of_toNat_eq ?_;show b.toNat=0;omega);subst hb0;rw [zf9,List.append_nil] at hphi;subst hphi;refine T.exit (K.ab (K.ab (K.ae (K.seq (T.sr ?_)))));refine TL.run 2 rfl ?_;refine TL.ns (T.ret ?_);exact K.ah rfl rfl (fun w' hw=>⟨_,zcp (hw.get (i:=0) rfl),rfl,hw.sub Sx⟩)
structure Tb where
 st:List Int
 ix:Nat→Int
 total:Int
 vps:List Value
 ps:Nat→List Pr
 vcs:List Value
 cs:Nat→List Cp
 vin:List Value
 inn:Nat→List Ld
 vout:List Value
 out:Nat→List Ld
abbrev Tb.n (T:Tb):Nat:=T.st.length
structure Lists {α:Type} (w:World) (p:Addr) (enc:α→List Value) (size:Nat) (vs:List Value) (n:Nat) (f:Nat→List α):Prop where
 at':∃v,w.cell? p=some v∧SlOf w v (fun u=>[u]) 1 vs
 len:vs.length=n
 each:∀i,i<n→SlOf w (nth vs i) enc size (f i)
structure TablesAt (w:World) (tp:Nat) (T:Tb):Prop where
 st:∃v,w.cell? ⟨tp,0,none⟩=some v∧zdV w v T.st
 ix:∀j,j<512→w.cell? ⟨tp,1+j,none⟩=some (.int .i64 (T.ix j))
 total:w.cell? ⟨tp,513,none⟩=some (.int .i64 T.total)
 ps:Lists w ⟨tp,514,none⟩ Pr.cells 5 T.vps T.n T.ps
 cs:Lists w ⟨tp,515,none⟩ Cp.cells 4 T.vcs T.n T.cs
 inn:Lists w ⟨tp,516,none⟩ Ld.cells 5 T.vin T.n T.inn
 out:Lists w ⟨tp,517,none⟩ Ld.cells 5 T.vout T.n T.out
structure Tb.Ok (T:Tb):Prop where
 n:T.n≤512
 ps:∀i,i<T.n→(T.ps i).length≤4096∧∀x∈T.ps i,0≤x.a∧x.a<T.n∧0≤x.b∧x.b<T.n∧ -1≤x.off∧x.off≤1∧2≤x.lo∧x.lo≤x.hi∧x.hi≤51∧(x.a=i∨x.b=i)
 cs:∀i,i<T.n→(T.cs i).length≤1024∧∀x∈T.cs i,0≤x.mx∧x.mx≤1099511627776∧2≤x.lo∧x.lo≤x.hi∧x.hi≤51
 inn:∀i,i<T.n→(T.inn i).length≤1024∧∀x∈T.inn i,x.to=i∧0≤x.fr∧x.fr<T.n∧1≤x.wt∧x.wt≤1073741824∧2≤x.lo∧x.lo≤x.hi∧x.hi≤51
 psS:∀i,i<T.n→∀x∈T.ps i,x.a≠x.b∧x∈T.ps x.a.toNat∧x∈T.ps x.b.toNat
 innS:∀i,i<T.n→∀x∈T.inn i,x.to≠x.fr∧x∈T.out x.fr.toNat
 outS:∀i,i<T.n→∀x∈T.out i,x.to≠x.fr∧x∈T.inn x.to.toNat
 out:∀i,i<T.n→(T.out i).length≤1024∧∀x∈T.out i,x.fr=i∧0≤x.to∧x.to<T.n∧1≤x.wt∧x.wt≤1073741824∧2≤x.lo∧x.lo≤x.hi∧x.hi≤51
def IsC (w:World)(g:Nat):Prop:=∃cs t p,w.heap[g]?=some (.cells cs t p)
def Fz (w0 w:World):Prop:=∀g,IsC w0 g→w.heap[g]?=w0.heap[g]?
theorem zcK {w:World}{p:Addr}{v:Value}(h:w.cell? p=some v):IsC w p.block:=by
 unfold World.cell? at h
 split at h
 ·rename_i hh;exact ⟨_,_,_,hh⟩
 ·cases h
theorem Fz.cell {w w':World}(hb:Fz w w'){p:Addr}{v:Value}(h:w.cell? p=some v):w'.cell? p=some v:=(World.cell?_of_block (w:=w) (hb _ (zcK h))).trans h
theorem Fz.cs {w w':World}(hb:Fz w w'){g p:Nat}{l:List Value}(h:Cs w g p l):Cs w' g p l:=fun j hj=>by
 have:=h j hj;rw [List.getElem?_eq_getElem hj] at this ⊢;exact hb.cell this
theorem Cs.isC {w:World}{g p:Nat}{l:List Value}(h:Cs w g p l)(hl:0<l.length):IsC w g:=by
 have:=h 0 hl;rw [List.getElem?_eq_getElem hl] at this;exact zcK this
theorem Fz.sl {α:Type}{w w':World}(hb:Fz w w'){v:Value}{enc:α→List Value}{size:Nat}{xs:List α}(h:SlOf w v enc size xs):SlOf w' v enc size xs:=by
 obtain ⟨A,cap,rfl,hc⟩:=h;refine ⟨A,cap,rfl,fun hp=>?_⟩;obtain ⟨g,off,rfl,hcs⟩:=hc hp;exact ⟨g,off,rfl,fun i hi=>hb.cs (hcs i hi)⟩
theorem Fz.of_below {w w':World}(hb:Below w.heap.size w w'):Fz w w':=fun g ⟨cs,t,p,h⟩=>hb.block g (Array.getElem?_eq_some_iff.1 h).1
theorem Fz.hp {w0 w w':World}{M:Nat→Prop}{hs:HS}(h:Fz w0 w)(hw:Hp w M hs w')(h0:∀g,M g→¬IsC w0 g):Fz w0 w':=fun g hg=>by
 have h1:=h g hg;obtain ⟨cs,t,p,e⟩:=hg;rw [←h1];refine hw.base g ?_ (fun hm=>h0 g hm ⟨cs,t,p,e⟩);rw [e] at h1;exact (Array.getElem?_eq_some_iff.1 h1).1
theorem Lists.later {α:Type}{w w':World}(hb:Fz w w'){p:Addr}{enc:α→List Value}{size:Nat}{vs:List Value}{n:Nat}{f:Nat→List α}(h:Lists w p enc size vs n f):Lists w' p enc size vs n f:=
 ⟨by obtain ⟨v,h1,h2⟩:=h.at';exact ⟨v,hb.cell h1,hb.sl h2⟩,h.len,fun i hi=>hb.sl (h.each i hi)⟩
theorem TablesAt.later {w w':World}(hb:Fz w w'){tp:Nat}{T:Tb}(h:TablesAt w tp T):TablesAt w' tp T:=
 ⟨by obtain ⟨v,h1,h2⟩:=h.st;exact ⟨v,hb.cell h1,hb.sl h2⟩,fun j hj=>hb.cell (h.ix j hj),hb.cell h.total,h.ps.later hb,h.cs.later hb,h.inn.later hb,h.out.later hb⟩
def Le (b:BitVec 64):List Value:=[U b]
structure StateAt (w:World) (sp:Nat) (T:Tb) (L:Ws) (c:Bool):Prop where
 tab:Tab w
 tb:∃tp,w.cell? ⟨sp,0,none⟩=some (.pointer (some ⟨tp,0,none⟩))∧TablesAt w tp T
 left:∃v,w.cell? ⟨sp,1,none⟩=some v∧SlOf w v Le 1 L
 len:L.length=T.n
 con:w.cell? ⟨sp,2,none⟩=some (.bool c)
theorem StateAt.later {w w':World}(hb:Below w.heap.size w w'){sp:Nat}{T:Tb}{L:Ws}{c:Bool}(h:StateAt w sp T L c):StateAt w' sp T L c:=
 have hf:=Fz.of_below hb
 ⟨h.tab.keptF (Hp.of_below hb),by obtain ⟨tp,h1,h2⟩:=h.tb;exact ⟨tp,hf.cell h1,h2.later hf⟩,by obtain ⟨v,h1,h2⟩:=h.left;exact ⟨v,hf.cell h1,hf.sl h2⟩,h.len,hf.cell h.con⟩
theorem StateAt.kept {B w:World}{hs:HS}{sp:Nat}{T:Tb}{L:Ws}{c:Bool}(hw:Hp B (fun _=>False) hs w)(h:StateAt B sp T L c):StateAt w sp T L c:=h.later ⟨hw.os,hw.tape,hw.output,hw.size,fun k hk=>hw.base k hk (fun h=>h)⟩
def zbr (b:BitVec 64):Nat:=if b≠0#64∧b &&& (b - 1#64)=0#64 then ctz b else 0
def only (L:Ws)(i:Nat):Nat:=zbr (nth L i)
theorem ziD (b:BitVec 64):zbr b<64:=by
 unfold zbr;split
 ·rename_i h;exact zeD h.1
 ·decide
theorem zeT (L:Ws)(i:Nat):only L i<64:=ziD _
def zbi (L:Ws)(i:Nat)(g:BitVec 64)(x:Pr):BitVec 64:=
 if x.a=(i:Int) then
  if (only L x.b.toNat:Int)≠0∧x.lo≤(only L x.b.toNat:Int) - x.off∧(only L x.b.toNat:Int) - x.off≤x.hi then g ||| 1#64 <<< ((only L x.b.toNat:Int) - x.off).toNat else g
 else if x.lo≤(only L x.a.toNat:Int)∧(only L x.a.toNat:Int)≤x.hi then g ||| 1#64 <<< ((only L x.a.toNat:Int)+x.off).toNat else g
def zb7 (T:Tb)(L:Ws)(i:Nat):BitVec 64:=(T.ps i).foldl (zbi L i) 0#64
theorem zan {α β:Type}[Inhabited α](f:β→α→β)(z:β){l:List α}{k:Nat}(h:k<l.length):(l.take (k+1)).foldl f z=f ((l.take k).foldl f z) (nth l k):=by
 rw [List.take_succ_eq_append_getElem h,zam h,List.foldl_append];rfl
theorem ziv {b:BitVec 64}(h1:¬(b.toNat:Int)=0)(h2:((b &&& (b - 1#64)).toNat:Int)=0):zbr b=ctz b:=by
 unfold zbr;rw [if_pos ⟨by rintro rfl;exact h1 rfl,BitVec.eq_of_toNat_eq (by show _=0;omega)⟩]
theorem zjU {b:BitVec 64}(h2:¬((b &&& (b - 1#64)).toNat:Int)=0):zbr b=0:=by
 unfold zbr;rw [if_neg (fun h=>h2 (by rw [h.2];rfl))]
theorem zi9 {b:BitVec 64}(h1:(b.toNat:Int)=0):zbr b=0:=by
 unfold zbr;rw [if_neg (fun h=>h.1 (BitVec.eq_of_toNat_eq (by show _=0;omega)))]
theorem zbU (sp:Nat)(Y:Tb)(L:Ws)(c:Bool)(i:Nat)(z:Int)(hz:z=(i:Int))(hi:i<Y.n)(w:World)(h:StateAt w sp Y L c):Calls Tryd.prog 66 #[.pointer (some ⟨sp,0,none⟩), .int .i64 z] w fun e w'=>e= .returned (.int .i64 (only L i:Int))∧Below w.heap.size w w':=by
 subst hz;obtain ⟨tp,hsp0,hT⟩:=h.tb;obtain ⟨vL,hsp1,hL⟩:=h.left;obtain ⟨AL,capL,rfl,hLs⟩:=hL.op;have hLn:=h.len;obtain ⟨gL,oL,rfl,hc⟩:=hLs (by omega);have hk:=hc i (by omega);simp only [Le] at hk;refine zaa (M:=fun _=>False) (hs:=[]) Tryd.func66 rfl rfl rfl (Hp.refl _ _) ?_;refine T.sr ?_;refine TL.run 1 rfl ?_;refine TL.ns (T.seq (T.sr ?_));refine TL.run 2 rfl ?_;refine TL.y (Yv.fieldAddr rfl rfl) ?_;refine TL.y (Yv.ar rfl rfl (by assumption) (fun h=>h)) ?_;refine TL.run 1 rfl ?_;refine TL.y (Yv.ag rfl rfl rfl rfl (by omega)) ?_;refine TL.y (Yv.loadC (j:=0) rfl rfl hk rfl rfl (fun h=>h)) ?_;refine TL.run 1 rfl ?_;refine TL.nx ?_;refine TL.run 3 rfl ?_;refine TL.ak rfl rfl rfl (fun h1=>?_) (fun h1=>?_)
 ·have p1:=h1; (try simp only [nfB] at p1);refine TL.yv (Wt.some rfl rfl rfl h1) rfl rfl (Yv.au rfl) ?_;refine TL.yv (Wt.some rfl rfl rfl h1) rfl rfl (Yv.au rfl) ?_;refine TL.yv (Wt.some rfl rfl rfl h1) rfl rfl (Yv.ck (b:=1#64) rfl rfl rfl) ?_;refine TL.yv (Wt.some rfl rfl rfl h1) rfl rfl (Yv.aV rfl rfl rfl) ?_;refine TL.yv (Wt.some rfl rfl rfl h1) rfl rfl (Yv.au rfl) ?_;refine TL.y (Yv.am rfl rfl h1 rfl) ?_;refine TL.ns ?_;refine T.cond rfl (fun h2=>?_) (fun h2=>?_)
  ·have p2:=h2; (try simp only [nfB] at p2); (have hne:nth L i≠0#64:=by intro hh;rw [hh] at p1;exact p1 rfl);refine T.sr ?_;refine TL.run 1 rfl ?_; (refine TL.ew (Wt.none rfl) rfl rfl (Ew.af rfl rfl rfl (fun w hw=>zit _ hne w (h.tab.keptF hw))) ?_;rintro _ _ ⟨rfl,rfl⟩);refine TL.run 1 rfl ?_;refine TL.ns (T.ret (K.aa ?_));exact K.ah rfl rfl (fun w' hw=>⟨zbA (by rw [only,ziv p1 p2]),hw.isBelow⟩)
  ·have p2:=h2; (try simp only [nfB] at p2);refine T.skip (K.seq (T.sr ?_));refine TL.run 1 rfl ?_;refine TL.ns (T.ret ?_);exact K.ah rfl rfl (fun w' hw=>⟨zbA (by rw [only,zjU p2];rfl),hw.isBelow⟩)
 ·have p1:=h1; (try simp only [nfB] at p1);refine TL.off (Wt.not rfl rfl rfl h1) rfl rfl ?_;refine TL.off (Wt.not rfl rfl rfl h1) rfl rfl ?_;refine TL.off (Wt.not rfl rfl rfl h1) rfl rfl ?_;refine TL.off (Wt.not rfl rfl rfl h1) rfl rfl ?_;refine TL.off (Wt.not rfl rfl rfl h1) rfl rfl ?_;refine TL.y (Yv.an rfl rfl h1 rfl) ?_;refine TL.ns ?_;refine T.aE rfl rfl ?_;refine T.skip (K.seq (T.sr ?_));refine TL.run 1 rfl ?_;refine TL.ns (T.ret ?_);exact K.ah rfl rfl (fun w' hw=>⟨zbA (by rw [only,zi9 p1];rfl),hw.isBelow⟩)
theorem zgr (sp:Nat)(Y:Tb)(L:Ws)(c:Bool)(i:Nat)(z:Int)(hz:z=(i:Int))(hi:i<Y.n)(w:World)(h:StateAt w sp Y L c)(hok:Y.Ok):Calls Tryd.prog 60 #[.pointer (some ⟨sp,0,none⟩), .int .i64 z] w fun e w'=>e= .returned (U (zb7 Y L i))∧Below w.heap.size w w':=by
 subst hz;obtain ⟨tp,hsp0,hT⟩:=h.tb;obtain ⟨vL,hsp1,hL⟩:=h.left;obtain ⟨AL,capL,rfl,hLs⟩:=hL.op;have hLn:=h.len;obtain ⟨vP,hP0,hP⟩:=hT.ps.at';obtain ⟨AP,capP,rfl,hPs⟩:=hP.op;have hPn:=hT.ps.len;obtain ⟨gP,oP,rfl,hPc⟩:=hPs (by omega);rw [hPn] at hP0;have hPi:=hPc i (by rw [hPn];exact hi);obtain ⟨BP,cpP,hvP,hslP⟩:=(hT.ps.each i hi).op;simp only [hvP] at hPi;obtain ⟨hlen,hrng⟩:=hok.ps i hi;have hn512:=hok.n;refine zaa (M:=fun _=>False) (hs:=[]) Tryd.func60 rfl rfl rfl (Hp.refl _ _) ?_;refine T.sr ?_;refine TL.run 1 rfl ?_;refine TL.nx ?_;refine TL.run 1 rfl ?_;refine TL.ns (T.seq (T.sr ?_));refine TL.run 2 rfl ?_;refine TL.y (Yv.fieldAddr rfl rfl) ?_;refine TL.y (Yv.ar rfl rfl hsp0 (fun h=>h)) ?_;refine TL.run 1 rfl ?_;refine TL.y (Yv.fieldAddr rfl rfl) ?_;refine TL.y (Yv.ar rfl rfl hP0 (fun h=>h)) ?_;refine TL.run 1 rfl ?_;refine TL.y (Yv.ag rfl rfl rfl rfl (by omega)) ?_;refine TL.y (Yv.loadC (j:=0) rfl rfl hPi rfl rfl (fun h=>h)) ?_;refine TL.y (Yv.aq rfl rfl) ?_;refine TL.run 1 rfl ?_;refine TL.ns (T.block ?_);refine T.loop (ι:=Nat) (fun k=>[(0, .pointer (some ⟨sp,0,none⟩)),(1, .int .i64 (i:Int)),(5,U (((Y.ps i).take k).foldl (zbi L i) 0#64)),(19, .slice BP (Y.ps i).length cpP),(20, .int .i64 ((Y.ps i).length:Int)),(21, .int .i64 (k:Int))]) (fun k=>[]) (fun k=>k≤(Y.ps i).length) (fun k=>(Y.ps i).length - k) 0 ?_ ?_ ?_ ?_
 ·omega
 ·exact (by repeat (first|exact Sub.nil|refine Sub.cons rfl ?_))
 ·exact Sx
 ·intro k hphi;refine T.sr ?_;refine TL.run 1 rfl ?_;refine TL.ns (T.seq ?_);refine T.cond rfl (fun h1=>?_) (fun h1=>?_)
  ·have p1:=h1; (try simp only [nfB] at p1);obtain ⟨g,off,rfl,hc⟩:=hslP (by omega);have hk:=hc k (by omega);simp only [Pr.cells] at hk;have hr:=hrng _ (zaI (xs:=Y.ps i) (k:=k) (by omega));have oa:=zeT L (nth (Y.ps i) k).a.toNat;have ob:=zeT L (nth (Y.ps i) k).b.toNat;refine T.skip (K.seq (T.seq (T.block (T.sr ?_))));refine TL.y (Yv.ag rfl rfl rfl rfl (by omega)) ?_;refine TL.y (Yv.av rfl rfl hk rfl (fun h=>h)) ?_; (refine TL.ew (Wt.none rfl) rfl rfl (Ew.alloc rfl) ?_;rintro _ _ ⟨g7,rfl,rfl⟩); (refine TL.ax (Wt.none rfl) rfl (Ew.aj 0 rfl rfl rfl rfl rfl rfl) ?_;rintro _ _ ⟨rfl,rfl⟩);refine TL.nx ?_;refine TL.y (Yv.fieldAddr rfl rfl) ?_;refine TL.y (Yv.ac 0 rfl rfl rfl rfl) ?_;refine TL.run 2 rfl ?_;refine TL.ns ?_;refine T.cond rfl (fun h2=>?_) (fun h2=>?_)
   ·have p2:=h2; (try simp only [nfB] at p2);refine T.sr ?_;refine TL.run 1 rfl ?_;refine TL.y (Yv.fieldAddr rfl rfl) ?_;refine TL.y (Yv.ac 0 rfl rfl rfl rfl) ?_; (refine TL.ew (Wt.none rfl) rfl rfl (Ew.af rfl rfl rfl (fun w hw=>zbU sp Y L c (nth (Y.ps i) k).b.toNat _ (by omega) (by omega) w (h.kept hw))) ?_;rintro _ _ ⟨rfl,rfl⟩);refine TL.run 1 rfl ?_;refine TL.nx ?_;refine TL.run 3 rfl ?_;refine TL.ak rfl rfl rfl (fun h3=>?_) (fun h3=>?_)
    ·have p3:=h3; (try simp only [nfB] at p3);refine TL.yv (Wt.some rfl rfl rfl h3) rfl rfl (Yv.fieldAddr rfl rfl) ?_;refine TL.yv (Wt.some rfl rfl rfl h3) rfl rfl (Yv.ac 0 rfl rfl rfl rfl) ?_;refine TL.yv (Wt.some rfl rfl rfl h3) rfl rfl (Yv.au rfl) ?_;refine TL.yv (Wt.some rfl rfl rfl h3) rfl rfl (Yv.fieldAddr rfl rfl) ?_;refine TL.yv (Wt.some rfl rfl rfl h3) rfl rfl (Yv.ac 0 rfl rfl rfl rfl) ?_;refine TL.yv (Wt.some rfl rfl rfl h3) rfl rfl (Yv.aL rfl rfl rfl (by omega)) ?_;refine TL.yv (Wt.some rfl rfl rfl h3) rfl rfl (Yv.au rfl) ?_;refine TL.y (Yv.am rfl rfl h3 rfl) ?_;refine TL.run 1 rfl ?_;refine TL.ak rfl rfl rfl (fun h4=>?_) (fun h4=>?_)
     ·have p4:=h4; (try simp only [nfB] at p4);refine TL.yv (Wt.some rfl rfl rfl h4) rfl rfl (Yv.au rfl) ?_;refine TL.yv (Wt.some rfl rfl rfl h4) rfl rfl (Yv.fieldAddr rfl rfl) ?_;refine TL.yv (Wt.some rfl rfl rfl h4) rfl rfl (Yv.ac 0 rfl rfl rfl rfl) ?_;refine TL.yv (Wt.some rfl rfl rfl h4) rfl rfl (Yv.aL rfl rfl rfl (by omega)) ?_;refine TL.yv (Wt.some rfl rfl rfl h4) rfl rfl (Yv.fieldAddr rfl rfl) ?_;refine TL.yv (Wt.some rfl rfl rfl h4) rfl rfl (Yv.ac 0 rfl rfl rfl rfl) ?_;refine TL.yv (Wt.some rfl rfl rfl h4) rfl rfl (Yv.au rfl) ?_;refine TL.y (Yv.am rfl rfl h4 rfl) ?_;refine TL.ns ?_;refine T.cond rfl (fun h5=>?_) (fun h5=>?_)
      ·have p5:=h5; (try simp only [nfB] at p5);refine T.region ?_;refine TL.run 2 rfl ?_;refine TL.y (Yv.fieldAddr rfl rfl) ?_;refine TL.y (Yv.ac 0 rfl rfl rfl rfl) ?_;refine TL.y (Yv.aL rfl rfl rfl (by omega)) ?_;refine TL.y (Yv.bb (a:=1#64) ((only L (nth (Y.ps i) k).b.toNat:Int) - (nth (Y.ps i) k).off).toNat rfl rfl rfl (by omega) (by omega)) ?_;refine TL.y (Yv.bC rfl rfl rfl) ?_;refine TL.run 1 rfl ?_;refine TL.nil (K.ad (K.seq (T.region ?_)));refine TL.y (Yv.al rfl rfl rfl (by omega)) ?_;refine TL.run 1 rfl ?_;refine TL.nil ?_;exact K.next (k+1) (by omega) (by omega) (by rw [zan _ _ (by omega),zbi,if_pos p2,if_pos ⟨p3,p4,p5⟩];exact (by repeat (first|exact Sub.nil|refine Sub.cons rfl ?_))) Sx
      ·have p5:=h5; (try simp only [nfB] at p5);refine T.skip (K.ad (K.seq (T.region ?_)));refine TL.y (Yv.al rfl rfl rfl (by omega)) ?_;refine TL.run 1 rfl ?_;refine TL.nil ?_;exact K.next (k+1) (by omega) (by omega) (by rw [zan _ _ (by omega),zbi,if_pos p2,if_neg (fun hh=>absurd hh.2.2 (by omega))];exact (by repeat (first|exact Sub.nil|refine Sub.cons rfl ?_))) Sx
     ·have p4:=h4; (try simp only [nfB] at p4);refine TL.off (Wt.not rfl rfl rfl h4) rfl rfl ?_;refine TL.off (Wt.not rfl rfl rfl h4) rfl rfl ?_;refine TL.off (Wt.not rfl rfl rfl h4) rfl rfl ?_;refine TL.off (Wt.not rfl rfl rfl h4) rfl rfl ?_;refine TL.off (Wt.not rfl rfl rfl h4) rfl rfl ?_;refine TL.off (Wt.not rfl rfl rfl h4) rfl rfl ?_;refine TL.off (Wt.not rfl rfl rfl h4) rfl rfl ?_;refine TL.y (Yv.an rfl rfl h4 rfl) ?_;refine TL.ns ?_;refine T.aE rfl rfl ?_;refine T.skip (K.ad (K.seq (T.region ?_)));refine TL.y (Yv.al rfl rfl rfl (by omega)) ?_;refine TL.run 1 rfl ?_;refine TL.nil ?_;exact K.next (k+1) (by omega) (by omega) (by rw [zan _ _ (by omega),zbi,if_pos p2,if_neg (fun hh=>absurd hh.2.1 (by omega))];exact (by repeat (first|exact Sub.nil|refine Sub.cons rfl ?_))) Sx
    ·have p3:=h3; (try simp only [nfB] at p3);refine TL.off (Wt.not rfl rfl rfl h3) rfl rfl ?_;refine TL.off (Wt.not rfl rfl rfl h3) rfl rfl ?_;refine TL.off (Wt.not rfl rfl rfl h3) rfl rfl ?_;refine TL.off (Wt.not rfl rfl rfl h3) rfl rfl ?_;refine TL.off (Wt.not rfl rfl rfl h3) rfl rfl ?_;refine TL.off (Wt.not rfl rfl rfl h3) rfl rfl ?_;refine TL.off (Wt.not rfl rfl rfl h3) rfl rfl ?_;refine TL.y (Yv.an rfl rfl h3 rfl) ?_;refine TL.run 9 rfl ?_;refine TL.ns ?_;refine T.aE rfl rfl ?_;refine T.skip (K.ad (K.seq (T.region ?_)));refine TL.y (Yv.al rfl rfl rfl (by omega)) ?_;refine TL.run 1 rfl ?_;refine TL.nil ?_;exact K.next (k+1) (by omega) (by omega) (by rw [zan _ _ (by omega),zbi,if_pos p2,if_neg (fun hh=>hh.1 p3)];exact (by repeat (first|exact Sub.nil|refine Sub.cons rfl ?_))) Sx
   ·have p2:=h2; (try simp only [nfB] at p2);refine T.sr ?_;refine TL.run 1 rfl ?_;refine TL.y (Yv.fieldAddr rfl rfl) ?_;refine TL.y (Yv.ac 0 rfl rfl rfl rfl) ?_; (refine TL.ew (Wt.none rfl) rfl rfl (Ew.af rfl rfl rfl (fun w hw=>zbU sp Y L c (nth (Y.ps i) k).a.toNat _ (by omega) (by omega) w (h.kept hw))) ?_;rintro _ _ ⟨rfl,rfl⟩);refine TL.run 1 rfl ?_;refine TL.nx ?_;refine TL.y (Yv.fieldAddr rfl rfl) ?_;refine TL.y (Yv.ac 0 rfl rfl rfl rfl) ?_;refine TL.run 3 rfl ?_;refine TL.ak rfl rfl rfl (fun h6=>?_) (fun h6=>?_)
    ·have p6:=h6; (try simp only [nfB] at p6);refine TL.yv (Wt.some rfl rfl rfl h6) rfl rfl (Yv.au rfl) ?_;refine TL.yv (Wt.some rfl rfl rfl h6) rfl rfl (Yv.fieldAddr rfl rfl) ?_;refine TL.yv (Wt.some rfl rfl rfl h6) rfl rfl (Yv.ac 0 rfl rfl rfl rfl) ?_;refine TL.yv (Wt.some rfl rfl rfl h6) rfl rfl (Yv.au rfl) ?_;refine TL.y (Yv.am rfl rfl h6 rfl) ?_;refine TL.ns ?_;refine T.cond rfl (fun h7=>?_) (fun h7=>?_)
     ·have p7:=h7; (try simp only [nfB] at p7);refine T.region ?_;refine TL.run 2 rfl ?_;refine TL.y (Yv.fieldAddr rfl rfl) ?_;refine TL.y (Yv.ac 0 rfl rfl rfl rfl) ?_;refine TL.y (Yv.al rfl rfl rfl (by omega)) ?_;refine TL.y (Yv.bb (a:=1#64) ((only L (nth (Y.ps i) k).a.toNat:Int)+(nth (Y.ps i) k).off).toNat rfl rfl rfl (by omega) (by omega)) ?_;refine TL.y (Yv.bC rfl rfl rfl) ?_;refine TL.run 1 rfl ?_;refine TL.nil (K.ad (K.seq (T.region ?_)));refine TL.y (Yv.al rfl rfl rfl (by omega)) ?_;refine TL.run 1 rfl ?_;refine TL.nil ?_;exact K.next (k+1) (by omega) (by omega) (by rw [zan _ _ (by omega),zbi,if_neg p2,if_pos ⟨p6,p7⟩];exact (by repeat (first|exact Sub.nil|refine Sub.cons rfl ?_))) Sx
     ·have p7:=h7; (try simp only [nfB] at p7);refine T.skip (K.ad (K.seq (T.region ?_)));refine TL.y (Yv.al rfl rfl rfl (by omega)) ?_;refine TL.run 1 rfl ?_;refine TL.nil ?_;exact K.next (k+1) (by omega) (by omega) (by rw [zan _ _ (by omega),zbi,if_neg p2,if_neg (fun hh=>absurd hh.2 (by omega))];exact (by repeat (first|exact Sub.nil|refine Sub.cons rfl ?_))) Sx
    ·have p6:=h6; (try simp only [nfB] at p6);refine TL.off (Wt.not rfl rfl rfl h6) rfl rfl ?_;refine TL.off (Wt.not rfl rfl rfl h6) rfl rfl ?_;refine TL.off (Wt.not rfl rfl rfl h6) rfl rfl ?_;refine TL.off (Wt.not rfl rfl rfl h6) rfl rfl ?_;refine TL.y (Yv.an rfl rfl h6 rfl) ?_;refine TL.ns ?_;refine T.aE rfl rfl ?_;refine T.skip (K.ad (K.seq (T.region ?_)));refine TL.y (Yv.al rfl rfl rfl (by omega)) ?_;refine TL.run 1 rfl ?_;refine TL.nil ?_;exact K.next (k+1) (by omega) (by omega) (by rw [zan _ _ (by omega),zbi,if_neg p2,if_neg (fun hh=>absurd hh.1 (by omega))];exact (by repeat (first|exact Sub.nil|refine Sub.cons rfl ?_))) Sx
  ·have p1:=h1; (try simp only [nfB] at p1);refine T.exit (K.ab (K.ab (K.ae (K.seq (T.sr ?_)))));refine TL.run 2 rfl ?_;refine TL.ns (T.ret ?_);exact K.ah rfl rfl (fun w' hw=>⟨by rw [zb7,List.take_of_length_le (by omega)],hw.isBelow⟩)
def zbs (f:Nat→Int):List Value:=(List.range 52).map fun d=> .int .i64 (f d)
theorem zgg (f:Nat→Int):(zbs f).length=52:=by simp [zbs]
theorem zei {f:Nat→Int}{d p:Nat}(hp:p=d)(hd:d<52):(zbs f)[p]?=some (.int .i64 (f d)):=by subst hp;simp [zbs,hd]
theorem zf6 {f f':Nat→Int}{d p:Nat}{v:Int}(hp:p=d)(hd:d<52)(h1:f' d=v)(h2:∀e,e≠d→f' e=f e):(zbs f).set p (.int .i64 v)=zbs f':=by
 subst hp h1;apply List.ext_getElem?;intro e;unfold zbs;by_cases he:e=p
 ·subst he;rw [List.getElem?_set_self (by simpa using hd)];simp [hd]
 ·rw [List.getElem?_set_ne (fun h=>he h.symm)];simp only [List.getElem?_map,List.getElem?_range];by_cases h52:e<52
  ·simp [h52,h2 e he]
  ·simp [h52]
def zaL (L:Ws)(f:Nat→Int)(x:Ld):Nat→Int:=fun d=>if x.lo≤(only L x.fr.toNat:Int)∧(only L x.fr.toNat:Int)≤x.hi∧only L x.fr.toNat=d then f d+x.wt else f d
def zaN (L:Ws)(l:List Ld):Nat→Int:=l.foldl (zaL L) (fun _=>0)
theorem zh0 (L:Ws):∀(l:List Ld),(∀x∈l,1≤x.wt∧x.wt≤1073741824)→∀(f:Nat→Int) (b:Int),(∀d,0≤f d∧f d≤b)→∀d,0≤l.foldl (zaL L) f d∧l.foldl (zaL L) f d≤b+1073741824* (l.length:Int)
 | [],_,f,b,hf,d=>by simpa using hf d
 |x :: r,hx,f,b,hf,d=>by
  have h1:=hx x (by simp)
  have:=zh0 L r (fun y hy=>hx y (by simp [hy])) (zaL L f x) (b+1073741824) (fun e=>by
   have:=hf e
   unfold zaL;split <;> omega) d
  simp only [List.foldl_cons,List.length_cons];omega
def zfn (f:Nat→Int)(mx:Int)(g:BitVec 64)(d:Nat):BitVec 64:=if mx<f d then g ||| 1#64 <<< d else g
def zcY (f:Nat→Int)(g:BitVec 64)(x:Cp):BitVec 64:=(List.range' x.lo.toNat (x.hi.toNat+1 - x.lo.toNat)).foldl (zfn f x.mx) g
def zcN (Y:Tb)(L:Ws)(i:Nat):BitVec 64:=(Y.cs i).foldl (zcY (zaN L (Y.inn i))) 0#64
theorem zdj {L:Ws}{l:List Ld}{k:Nat}(h:k<l.length):zaN L (l.take (k+1))=zaL L (zaN L (l.take k)) (nth l k):=zan _ _ h
theorem zjs {L:Ws}{l:List Ld}(hl:l.length≤1024)(hw:∀x∈l,1≤x.wt∧x.wt≤1073741824)(k d:Nat):0≤zaN L (l.take k) d∧zaN L (l.take k) d≤1099511627776:=by
 have:=zh0 L (l.take k) (fun x hx=>hw x (List.mem_of_mem_take hx)) (fun _=>0) 0 (fun _=>⟨by simp,by simp⟩) d; (have hk:(l.take k).length≤1024:=by rw [List.length_take];omega);unfold zaN;omega
def zaZ (L:Ws)(i d:Nat)(s:Int)(x:Ld):Int:=if (x.lo≤(d:Int)∧(d:Int)≤x.hi)∧(x.fr=(i:Int)∨only L x.fr.toNat=d) then s+x.wt else s
theorem zji (L:Ws)(i d:Nat):∀(l:List Ld),(∀x∈l,1≤x.wt∧x.wt≤1073741824)→∀(s:Int),0≤s→0≤l.foldl (zaZ L i d) s∧l.foldl (zaZ L i d) s≤s+1073741824* (l.length:Int)
 | [],_,s,h=>by simp;exact h
 |x :: r,hx,s,h=>by
  have h1:=hx x (by simp); (have hs:0≤zaZ L i d s x∧zaZ L i d s x≤s+1073741824:=by unfold zaZ;split <;> omega);have:=zji L i d r (fun y hy=>hx y (by simp [hy])) (zaZ L i d s x) hs.1;simp only [List.foldl_cons,List.length_cons];omega
def zb8 (L:Ws)(i d:Nat)(l:List Ld):Int:=l.foldl (zaZ L i d) 0
theorem zks {L:Ws}{l:List Ld}{i d:Nat}(hl:l.length≤1024)(hw:∀x∈l,1≤x.wt∧x.wt≤1073741824)(k:Nat):0≤zb8 L i d (l.take k)∧zb8 L i d (l.take k)≤1099511627776:=by
 have:=zji L i d (l.take k) (fun x hx=>hw x (List.mem_of_mem_take hx)) 0 (Int.le_refl _); (have hk:(l.take k).length≤1024:=by rw [List.length_take];omega);unfold zb8;omega
def zcv (lost:Int)(d:Nat)(g:BitVec 64)(x:Cp):BitVec 64:=if (x.lo≤(d:Int)∧(d:Int)≤x.hi)∧x.mx<lost then g ||| 1#64 <<< d else g
def za5 (Y:Tb)(L:Ws)(i:Nat)(g:BitVec 64)(x:Ld):BitVec 64:=
 if ((only L x.to.toNat:Int)<x.lo∨x.hi<(only L x.to.toNat:Int))∨g.getLsbD (only L x.to.toNat)=true then g
 else (Y.cs x.to.toNat).foldl (zcv (zb8 L i (only L x.to.toNat) (Y.inn x.to.toNat)) (only L x.to.toNat)) g
def zb9 (Y:Tb)(L:Ws)(i:Nat):BitVec 64:=(Y.out i).foldl (za5 Y L i) 0#64
theorem zhi (sp:Nat)(Y:Tb)(L:Ws)(c:Bool)(i:Nat)(z:Int)(hz:z=(i:Int))(hi:i<Y.n)(w:World)(h:StateAt w sp Y L c)(hok:Y.Ok):Calls Tryd.prog 61 #[.pointer (some ⟨sp,0,none⟩), .int .i64 z] w fun e w'=>e= .returned (U (zcN Y L i))∧Below w.heap.size w w':=by
 subst hz;obtain ⟨tp,hsp0,hT⟩:=h.tb;obtain ⟨vL,hsp1,hL⟩:=h.left;obtain ⟨AL,capL,rfl,hLs⟩:=hL.op;have hLn:=h.len;obtain ⟨vC,hC0,hC⟩:=hT.cs.at';obtain ⟨AC,capC,rfl,hCs⟩:=hC.op;have hCn:=hT.cs.len;obtain ⟨gC,oC,rfl,hCc⟩:=hCs (by omega);rw [hCn] at hC0;have hCi:=hCc i (by rw [hCn];exact hi);obtain ⟨BC,cpC,hvC,hslC⟩:=(hT.cs.each i hi).op;simp only [hvC] at hCi;obtain ⟨vI,hI0,hI⟩:=hT.inn.at';obtain ⟨AI,capI,rfl,hIs⟩:=hI.op;have hIn:=hT.inn.len;obtain ⟨gI,oI,rfl,hIc⟩:=hIs (by omega);rw [hIn] at hI0;have hIi:=hIc i (by rw [hIn];exact hi);obtain ⟨BI,cpI,hvI,hslI⟩:=(hT.inn.each i hi).op;simp only [hvI] at hIi;obtain ⟨hlenC,hrngC⟩:=hok.cs i hi;obtain ⟨hlen,hrng⟩:=hok.inn i hi;have hn512:=hok.n; (have hwt:∀x∈Y.inn i,1≤x.wt∧x.wt≤1073741824:=fun x hx=>by have:=hrng x hx;omega);refine zaa (M:=fun _=>False) (hs:=[]) Tryd.func61 rfl rfl rfl (Hp.refl _ _) ?_;refine T.sr ?_;refine TL.run 1 rfl ?_;refine TL.ns (T.seq (T.sr ?_));refine TL.run 2 rfl ?_;refine TL.y (Yv.fieldAddr rfl rfl) ?_;refine TL.y (Yv.ar rfl rfl hsp0 (fun h=>h)) ?_;refine TL.run 1 rfl ?_;refine TL.y (Yv.fieldAddr rfl rfl) ?_;refine TL.y (Yv.ar rfl rfl hC0 (fun h=>h)) ?_;refine TL.run 1 rfl ?_;refine TL.y (Yv.ag rfl rfl rfl rfl (by omega)) ?_;refine TL.y (Yv.loadC (j:=0) rfl rfl hCi rfl rfl (fun h=>h)) ?_;refine TL.y (Yv.aq rfl rfl) ?_;refine TL.run 1 rfl ?_;refine TL.ns ?_;refine T.cond rfl (fun h1=>?_) (fun h1=>?_)
 ·have p1:=h1; (try simp only [nfB] at p1);refine T.sr ?_;refine TL.run 1 rfl ?_;refine TL.ns (T.ret (K.aa ?_));exact K.ah rfl rfl (fun w' hw=>⟨by rw [zcN,List.eq_nil_of_length_eq_zero (show (Y.cs i).length=0 by omega)];rfl,hw.isBelow⟩)
 ·have p1:=h1; (try simp only [nfB] at p1);refine T.skip (K.seq (T.sr ?_)); (refine TL.ew (Wt.none rfl) rfl rfl (Ew.alloc rfl) ?_;rintro _ _ ⟨g5,rfl,rfl⟩);refine TL.ns ?_;refine T.cut (gs:=[(0, .pointer (some ⟨sp,0,none⟩)),(1, .int .i64 (i:Int)),(5, .pointer (some ⟨g5,0,none⟩))]) (hs':=[.row g5 145 (zbs (zaN L (Y.inn i)))]) ?_ ?_
  ·skip;refine T.sr ?_;refine TL.run 2 rfl ?_;refine TL.y (Yv.fieldAddr rfl rfl) ?_;refine TL.y (Yv.ar rfl rfl hsp0 (fun h=>h)) ?_;refine TL.run 1 rfl ?_;refine TL.y (Yv.fieldAddr rfl rfl) ?_;refine TL.y (Yv.ar rfl rfl hI0 (fun h=>h)) ?_;refine TL.run 1 rfl ?_;refine TL.y (Yv.ag rfl rfl rfl rfl (by omega)) ?_;refine TL.y (Yv.loadC (j:=0) rfl rfl hIi rfl rfl (fun h=>h)) ?_;refine TL.y (Yv.aq rfl rfl) ?_;refine TL.run 1 rfl ?_;refine TL.ns (T.block ?_);refine T.loop (ι:=Nat) (fun k=>[(0, .pointer (some ⟨sp,0,none⟩)),(1, .int .i64 (i:Int)),(5, .pointer (some ⟨g5,0,none⟩)),(34, .slice BI (Y.inn i).length cpI),(35, .int .i64 ((Y.inn i).length:Int)),(36, .int .i64 (k:Int))]) (fun k=>[.row g5 145 (zbs (zaN L ((Y.inn i).take k)))]) (fun k=>k≤(Y.inn i).length) (fun k=>(Y.inn i).length - k) 0 ?_ ?_ ?_ ?_
   ·omega
   ·exact (by repeat (first|exact Sub.nil|refine Sub.cons rfl ?_))
   ·exact Sx
   ·intro k hphi;refine T.sr ?_;refine TL.run 1 rfl ?_;refine TL.ns (T.seq ?_);refine T.cond rfl (fun h2=>?_) (fun h2=>?_)
    ·have p2:=h2; (try simp only [nfB] at p2);obtain ⟨g,off,rfl,hc⟩:=hslI (by omega);have hk:=hc k (by omega);simp only [Ld.cells] at hk;have hr:=hrng _ (zaI (xs:=Y.inn i) (k:=k) (by omega));have oa:=zeT L (nth (Y.inn i) k).fr.toNat;refine T.skip (K.seq (T.seq (T.block (T.sr ?_))));refine TL.y (Yv.ag rfl rfl rfl rfl (by omega)) ?_;refine TL.y (Yv.av rfl rfl hk rfl (fun h=>h)) ?_; (refine TL.ew (Wt.none rfl) rfl rfl (Ew.alloc rfl) ?_;rintro _ _ ⟨g7,rfl,rfl⟩); (refine TL.ax (Wt.none rfl) rfl (Ew.aj 0 rfl rfl rfl rfl rfl rfl) ?_;rintro _ _ ⟨rfl,rfl⟩);refine TL.nx ?_;refine TL.run 1 rfl ?_;refine TL.y (Yv.fieldAddr rfl rfl) ?_;refine TL.y (Yv.ac 0 rfl rfl rfl rfl) ?_; (refine TL.ew (Wt.none rfl) rfl rfl (Ew.af rfl rfl rfl (fun w hw=>zbU sp Y L c (nth (Y.inn i) k).fr.toNat _ (by omega) (by omega) w (h.kept hw))) ?_;rintro _ _ ⟨rfl,rfl⟩);refine TL.run 1 rfl ?_;refine TL.nx ?_;refine TL.y (Yv.fieldAddr rfl rfl) ?_;refine TL.y (Yv.ac 0 rfl rfl rfl rfl) ?_;refine TL.run 3 rfl ?_;refine TL.ak rfl rfl rfl (fun h3=>?_) (fun h3=>?_)
     ·have p3:=h3; (try simp only [nfB] at p3);refine TL.yv (Wt.some rfl rfl rfl h3) rfl rfl (Yv.au rfl) ?_;refine TL.yv (Wt.some rfl rfl rfl h3) rfl rfl (Yv.fieldAddr rfl rfl) ?_;refine TL.yv (Wt.some rfl rfl rfl h3) rfl rfl (Yv.ac 0 rfl rfl rfl rfl) ?_;refine TL.yv (Wt.some rfl rfl rfl h3) rfl rfl (Yv.au rfl) ?_;refine TL.y (Yv.am rfl rfl h3 rfl) ?_;refine TL.ns ?_;refine T.cond rfl (fun h4=>?_) (fun h4=>?_)
      ·have p4:=h4; (try simp only [nfB] at p4);have hld:=zei (f:=zaN L ((Y.inn i).take k)) (d:=only L (nth (Y.inn i) k).fr.toNat) (p:=0+only L (nth (Y.inn i) k).fr.toNat*1) (by omega) (by omega);have hbd:=zjs (L:=L) hlen hwt k (only L (nth (Y.inn i) k).fr.toNat);refine T.ay (.still 0 (.still 1 (.still 3 (.still 4 (.eff 2 (.still 5 (.still 6 (.eff 7 .done)))))))) (List.eraseIdx _ 1) (by kernel_rfl) (List.eraseIdx_sublist _ _) ?_;refine TS.run 1 rfl ?_;refine TS.y rfl (Yv.as rfl rfl rfl rfl (by omega)) ?_;refine TS.y rfl (Yv.fieldAddr rfl rfl) ?_;refine TS.y rfl (Yv.ac 0 rfl rfl rfl rfl) ?_;refine TS.eff ?_;refine TSo.yv rfl (Wt.none rfl) rfl rfl (Yv.ac 1 rfl rfl rfl hld) Sx ?_;refine TS.y rfl (Yv.al rfl rfl rfl (by omega)) ?_;refine TS.y rfl (Yv.as rfl rfl rfl rfl (by omega)) ?_;refine TS.eff ?_; (refine TSo.ax rfl (Wt.none rfl) rfl (Ew.aN 1 (zbs (zaN L ((Y.inn i).take (k+1)))) rfl rfl rfl rfl (by rw [zgg];omega) (zf6 (d:=only L (nth (Y.inn i) k).fr.toNat) (by omega) (by omega) (by rw [zdj (by omega),zaL,if_pos ⟨by omega,by omega,rfl⟩]) (fun e he=>by rw [zdj (by omega),zaL,if_neg (fun hh=>he hh.2.2.symm)]))) ?_;rintro _ _ ⟨rfl,rfl⟩;refine ⟨Sx,?_⟩);refine TS.done ?_;refine K.ad (K.seq (T.region ?_));refine TL.y (Yv.al rfl rfl rfl (by omega)) ?_;refine TL.run 1 rfl ?_;refine TL.nil ?_;exact K.next (k+1) (by omega) (by omega) (by repeat (first|exact Sub.nil|refine Sub.cons rfl ?_)) Sx
      ·have p4:=h4; (try simp only [nfB] at p4);refine T.skip (K.ad (K.seq (T.region ?_)));refine TL.y (Yv.al rfl rfl rfl (by omega)) ?_;refine TL.run 1 rfl ?_;refine TL.nil ?_;exact K.next (k+1) (by omega) (by omega) (by repeat (first|exact Sub.nil|refine Sub.cons rfl ?_)) (by rw [zdj (by omega),show zaL L (zaN L ((Y.inn i).take k)) (nth (Y.inn i) k)=zaN L ((Y.inn i).take k) from funext fun d=>by unfold zaL;exact if_neg (fun hh=>absurd hh.2.1 (by omega))];exact Sx)
     ·have p3:=h3; (try simp only [nfB] at p3);refine TL.off (Wt.not rfl rfl rfl h3) rfl rfl ?_;refine TL.off (Wt.not rfl rfl rfl h3) rfl rfl ?_;refine TL.off (Wt.not rfl rfl rfl h3) rfl rfl ?_;refine TL.off (Wt.not rfl rfl rfl h3) rfl rfl ?_;refine TL.y (Yv.an rfl rfl h3 rfl) ?_;refine TL.ns ?_;refine T.aE rfl rfl ?_;refine T.skip (K.ad (K.seq (T.region ?_)));refine TL.y (Yv.al rfl rfl rfl (by omega)) ?_;refine TL.run 1 rfl ?_;refine TL.nil ?_;exact K.next (k+1) (by omega) (by omega) (by repeat (first|exact Sub.nil|refine Sub.cons rfl ?_)) (by rw [zdj (by omega),show zaL L (zaN L ((Y.inn i).take k)) (nth (Y.inn i) k)=zaN L ((Y.inn i).take k) from funext fun d=>by unfold zaL;exact if_neg (fun hh=>absurd hh.1 (by omega))];exact Sx)
    ·have p2:=h2; (try simp only [nfB] at p2);refine T.exit (K.ab (K.ab (K.ae ?_)));exact K.at (by repeat (first|exact Sub.nil|refine Sub.cons rfl ?_)) (by rw [show (Y.inn i).take k=Y.inn i from List.take_of_length_le (by omega)];exact Sx)
  ·skip;refine T.sr ?_;refine TL.run 1 rfl ?_;refine TL.ns (T.seq (T.sr ?_));refine TL.run 2 rfl ?_;refine TL.y (Yv.fieldAddr rfl rfl) ?_;refine TL.y (Yv.ar rfl rfl hsp0 (fun h=>h)) ?_;refine TL.run 1 rfl ?_;refine TL.y (Yv.fieldAddr rfl rfl) ?_;refine TL.y (Yv.ar rfl rfl hC0 (fun h=>h)) ?_;refine TL.run 1 rfl ?_;refine TL.y (Yv.ag rfl rfl rfl rfl (by omega)) ?_;refine TL.y (Yv.loadC (j:=0) rfl rfl hCi rfl rfl (fun h=>h)) ?_;refine TL.y (Yv.aq rfl rfl) ?_;refine TL.run 1 rfl ?_;refine TL.ns (T.block ?_);refine T.loop (ι:=Nat) (fun k=>[(0, .pointer (some ⟨sp,0,none⟩)),(1, .int .i64 (i:Int)),(5, .pointer (some ⟨g5,0,none⟩)),(9,U (((Y.cs i).take k).foldl (zcY (zaN L (Y.inn i))) 0#64)),(71, .slice BC (Y.cs i).length cpC),(72, .int .i64 ((Y.cs i).length:Int)),(73, .int .i64 (k:Int))]) (fun k=>[.row g5 145 (zbs (zaN L (Y.inn i)))]) (fun k=>k≤(Y.cs i).length) (fun k=>(Y.cs i).length - k) 0 ?_ ?_ ?_ ?_
   ·omega
   ·exact (by repeat (first|exact Sub.nil|refine Sub.cons rfl ?_))
   ·exact Sx
   ·intro k hphi;refine T.sr ?_;refine TL.run 1 rfl ?_;refine TL.ns (T.seq ?_);refine T.cond rfl (fun h5=>?_) (fun h5=>?_)
    ·have p5:=h5; (try simp only [nfB] at p5);obtain ⟨g,off,rfl,hc⟩:=hslC (by omega);have hk:=hc k (by omega);simp only [Cp.cells] at hk;have hr:=hrngC _ (zaI (xs:=Y.cs i) (k:=k) (by omega));refine T.skip (K.seq ?_);refine T.cut (gs:=[(0, .pointer (some ⟨sp,0,none⟩)),(1, .int .i64 (i:Int)),(5, .pointer (some ⟨g5,0,none⟩)),(9,U (((Y.cs i).take (k+1)).foldl (zcY (zaN L (Y.inn i))) 0#64)),(71, .slice (some ⟨g,off,none⟩) (Y.cs i).length cpC),(72, .int .i64 ((Y.cs i).length:Int)),(73, .int .i64 (k:Int))]) (hs':=[.row g5 145 (zbs (zaN L (Y.inn i)))]) ?_ ?_
     ·skip;refine T.block (T.sr ?_);refine TL.y (Yv.ag rfl rfl rfl rfl (by omega)) ?_;refine TL.y (Yv.av rfl rfl hk rfl (fun h=>h)) ?_; (refine TL.ew (Wt.none rfl) rfl rfl (Ew.alloc rfl) ?_;rintro _ _ ⟨g11,rfl,rfl⟩); (refine TL.ax (Wt.none rfl) rfl (Ew.aj 0 rfl rfl rfl rfl rfl rfl) ?_;rintro _ _ ⟨rfl,rfl⟩);refine TL.nx ?_;refine TL.y (Yv.fieldAddr rfl rfl) ?_;refine TL.y (Yv.ac 0 rfl rfl rfl rfl) ?_;refine TL.run 1 rfl ?_;refine TL.ns (T.block ?_);refine T.loop (ι:=Nat) (fun j=>[(0, .pointer (some ⟨sp,0,none⟩)),(1, .int .i64 (i:Int)),(5, .pointer (some ⟨g5,0,none⟩)),(9,U ((List.range' (nth (Y.cs i) k).lo.toNat j).foldl (zfn (zaN L (Y.inn i)) (nth (Y.cs i) k).mx) (((Y.cs i).take k).foldl (zcY (zaN L (Y.inn i))) 0#64))),(11, .pointer (some ⟨g11,0,none⟩)),(12, .int .i64 ((nth (Y.cs i) k).lo+(j:Int))),(71, .slice (some ⟨g,off,none⟩) (Y.cs i).length cpC),(72, .int .i64 ((Y.cs i).length:Int)),(73, .int .i64 (k:Int))]) (fun j=>[.row g11 122 [.int .i64 (nth (Y.cs i) k).st, .int .i64 (nth (Y.cs i) k).mx, .int .i64 (nth (Y.cs i) k).lo, .int .i64 (nth (Y.cs i) k).hi], .row g5 145 (zbs (zaN L (Y.inn i)))]) (fun j=>(nth (Y.cs i) k).lo+(j:Int)≤(nth (Y.cs i) k).hi+1) (fun j=>((nth (Y.cs i) k).hi+1 - (nth (Y.cs i) k).lo).toNat - j) 0 ?_ ?_ ?_ ?_
      ·omega
      ·exact (by repeat (first|exact Sub.nil|refine Sub.cons rfl ?_|(refine Sub.consI rfl (by omega) ?_)))
      ·exact Sx
      ·intro j hphi;refine T.seq (T.sr ?_);refine TL.run 1 rfl ?_;refine TL.y (Yv.fieldAddr rfl rfl) ?_;refine TL.y (Yv.ac 0 rfl rfl rfl rfl) ?_;refine TL.run 1 rfl ?_;refine TL.ns ?_;refine T.cond rfl (fun h6=>?_) (fun h6=>?_)
       ·have p6:=h6; (try simp only [nfB] at p6);have hld:=zei (f:=zaN L (Y.inn i)) (d:=(nth (Y.cs i) k).lo.toNat+j) (p:=0+((nth (Y.cs i) k).lo.toNat+j) *1) (by omega) (by omega);refine T.skip (K.seq (T.seq (T.block (T.seq ?_))));refine T.ay (.still 0 (.still 1 (.still 2 (.still 3 (.still 4 (.still 5 .done)))))) _ (by kernel_rfl) (List.Sublist.refl _) ?_;refine TS.run 1 rfl ?_;refine TS.y rfl (Yv.as rfl rfl rfl (show (_:Int)=(((nth (Y.cs i) k).lo.toNat+j:Nat):Int) from by omega) (by omega)) ?_;refine TS.y rfl (Yv.ac 1 rfl rfl rfl hld) ?_;refine TS.y rfl (Yv.fieldAddr rfl rfl) ?_;refine TS.y rfl (Yv.ac 0 rfl rfl rfl rfl) ?_;refine TS.run 1 rfl ?_;refine TS.done ?_;refine K.seq ?_;refine T.cond rfl (fun h7=>?_) (fun h7=>?_)
        ·have p7:=h7; (try simp only [nfB] at p7);refine T.region ?_;refine TL.run 2 rfl ?_;refine TL.y (Yv.bb (a:=1#64) ((nth (Y.cs i) k).lo.toNat+j) rfl rfl rfl (by omega) (by omega)) ?_;refine TL.y (Yv.bC rfl rfl rfl) ?_;refine TL.run 1 rfl ?_;refine TL.nil (K.ad (K.seq (T.region ?_)));refine TL.run 1 rfl ?_;refine TL.y (Yv.al rfl rfl rfl (by omega)) ?_;refine TL.run 1 rfl ?_;refine TL.nil ?_;exact K.next (j+1) (by omega) (by omega) (by rw [List.range'_1_concat,List.foldl_append];simp only [List.foldl_cons,List.foldl_nil];rw [zfn,if_pos (by omega)];repeat (first|exact Sub.nil|refine Sub.cons rfl ?_|(refine Sub.consI rfl (by omega) ?_))) Sx
        ·have p7:=h7; (try simp only [nfB] at p7);refine T.skip (K.ad (K.seq (T.region ?_)));refine TL.run 1 rfl ?_;refine TL.y (Yv.al rfl rfl rfl (by omega)) ?_;refine TL.run 1 rfl ?_;refine TL.nil ?_;exact K.next (j+1) (by omega) (by omega) (by rw [List.range'_1_concat,List.foldl_append];simp only [List.foldl_cons,List.foldl_nil];rw [zfn,if_neg (by omega)];repeat (first|exact Sub.nil|refine Sub.cons rfl ?_|(refine Sub.consI rfl (by omega) ?_))) Sx
       ·have p6:=h6; (try simp only [nfB] at p6);refine T.exit (K.ab (K.ab (K.ae (K.ad ?_))));exact K.at (by rw [zan _ _ (by omega),zcY,show (nth (Y.cs i) k).hi.toNat+1 - (nth (Y.cs i) k).lo.toNat=j by omega];exact (by repeat (first|exact Sub.nil|refine Sub.cons rfl ?_))) Sx
     ·skip;refine T.region ?_;refine TL.y (Yv.al rfl rfl rfl (by omega)) ?_;refine TL.run 1 rfl ?_;refine TL.nil ?_;exact K.next (k+1) (by omega) (by omega) (by repeat (first|exact Sub.nil|refine Sub.cons rfl ?_)) Sx
    ·have p5:=h5; (try simp only [nfB] at p5);refine T.exit (K.ab (K.ab (K.ae (K.seq (T.sr ?_)))));refine TL.run 2 rfl ?_;refine TL.ns (T.ret ?_);exact K.ah rfl rfl (fun w' hw=>⟨by rw [zcN,List.take_of_length_le (by omega)],hw.isBelow⟩)
end Go.Proofs.YtbpkdjionfhohaaDoor
