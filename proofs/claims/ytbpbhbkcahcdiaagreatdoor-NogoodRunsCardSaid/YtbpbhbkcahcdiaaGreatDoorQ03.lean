/- B C D E F G: shortened and put together by squeeze.py. -/
import Derived.Test.YtbpbhbkcahcdiaaGreatDoorQ02
set_option maxRecDepth 100000
set_option maxHeartbeats 4000000
set_option linter.unusedVariables false
set_option linter.unusedSectionVars false
set_option linter.unusedSimpArgs false
namespace Go.Proofs.YtbpbhbkcahcdiaaGreatDoor
open Go.RowKit
theorem Cs.later {w w':World}(hb:Below w.heap.size w w'){g p:Nat}{l:List Value}(h:Cs w g p l):Cs w' g p l:=h.kept (Hp.of_below hb) (fun h=>h)
def Dx.ok (d:Dx):Bool:=inB d.st 0 511&&(allB (fun c=>inB c 2 51) d.chs&&incB cmpI d.chs)
def Pb.rulesOk (P:Pb):Bool:=decide ((P.ps.length:Int)≤4096)&&(allB Pr.ok P.ps&&(incB Pr.cmp P.ps&&(decide ((P.ls.length:Int)≤1024)&&(allB Ld.ok P.ls&&(incB Ld.cmp P.ls&&(decide ((P.cs.length:Int)≤1024)&&(allB Cp.ok P.cs&&incB Cp.cmp P.cs)))))))
abbrev Ws:=List (BitVec 64)
abbrev Ws.cells (ws:Ws):List Value:=ws.map fun b=>U b
def sNil:Ws:=List.replicate 8 0#64
def sAdd (ws:Ws)(i:Nat):Ws:=ws.set (i / 64) (nth ws (i / 64) ||| 1#64 <<< (i % 64))
def sBit (ws:Ws)(i:Nat):Bool:=(nth ws (i / 64)).getLsbD (i % 64)
def sHas (ws:Ws)(i:Int):Bool:=inB i 0 511&&sBit ws i.toNat
def zeH (l:List Int):Ws:=l.foldl (fun s i=>sAdd s i.toNat) sNil
theorem zbG {ws:Ws}{i:Nat}:(sAdd ws i).length=ws.length:=by simp [sAdd]
theorem zbi (l:List Int):(zeH l).length=8:=by
 have:∀(l:List Int) (s:Ws),(l.foldl (fun s i=>sAdd s i.toNat) s).length=s.length:=by
  intro l
  induction l with
  |nil=>intro s;rfl
  |cons x r ih=>intro s;simp only [List.foldl_cons,ih,zbG]
 exact this l sNil
theorem zi3 {l:List Int}{k:Nat}(h:k<l.length):zeH (l.take (k+1))=sAdd (zeH (l.take k)) (nth l k).toNat:=by
 unfold zeH;rw [List.take_succ_eq_append_getElem h,zat h,List.foldl_append];rfl
theorem Ws.get {ws:Ws}{i p:Nat}(h:i<ws.length)(hp:p=i):ws.cells[p]?=some (U (nth ws i)):=by
 subst hp;simp [nth,h]
theorem Ws.put {ws:Ws}{i p:Nat}{b:BitVec 64}(hp:p=i):ws.cells.set p (U b)=Ws.cells (ws.set i b):=by
 subst hp;simp [List.map_set]
theorem zgV (a:BitVec 64)(j:Nat):decide (((((a >>> j) &&& 1#64).toNat:Nat):Int)=1)=a.getLsbD j:=by
 rw [BitVec.toNat_and,BitVec.toNat_ushiftRight]
 show decide ((((a.toNat >>> j &&& 1):Nat):Int)=1)=a.toNat.testBit j
 rw [Nat.and_one_is_mod,Nat.testBit,Nat.and_comm,Nat.and_one_is_mod];rcases Nat.mod_two_eq_zero_or_one (a.toNat >>> j) with h|h <;> rw [h] <;> rfl
theorem zfd {ws:Ws}{i j:Nat}(hl:ws.length=8)(hi:i<512)(hj:j<512):sBit (sAdd ws i) j=(sBit ws j||decide (i=j)):=by
 unfold sBit sAdd nth;simp only [List.getD_eq_getElem?_getD];by_cases h:i / 64=j / 64
 ·rw [h,List.getElem?_set_self (by omega)];simp only [Option.getD_some,BitVec.getLsbD_or,BitVec.getLsbD_shiftLeft];by_cases h2:i=j
  ·subst h2;have hm:i % 64<64:=Nat.mod_lt _ (by decide);simp [hm]
  ·(have hm:¬i % 64=j % 64:=by omega);rw [decide_eq_false h2,Bool.or_false]
   have:(decide (j % 64<64)&& !decide (j % 64<i % 64)&&(1#64).getLsbD (j % 64 - i % 64))=false:=by
    by_cases h3:j % 64<i % 64
    ·simp [h3]
    ·rw [show (1#64).getLsbD (j % 64 - i % 64)=false from by rw [BitVec.getLsbD_one];simp;omega];simp
   rw [this,Bool.or_false]
 ·rw [List.getElem?_set_ne h,decide_eq_false (by intro hh;subst hh;exact h rfl),Bool.or_false]
theorem zdm (j:Nat):sBit sNil j=false:=by
 unfold sBit sNil nth;rw [List.getD_eq_getElem?_getD,List.getElem?_replicate]
 split
 ·simp
 ·exact BitVec.getLsbD_zero
theorem zhB (l:List Int)(hl:∀x∈l,0≤x∧x≤511)(j:Int):sHas (zeH l) j=true↔j∈l:=by
 have key:∀(l:List Int) (s:Ws),s.length=8→(∀x∈l,0≤x∧x≤511)→∀j:Nat,j<512→(sBit (l.foldl (fun s i=>sAdd s i.toNat) s) j=true↔sBit s j=true∨(j:Int)∈l):=by
  intro l
  induction l with
  |nil=>intro s _ _ j _;simp
  |cons x r ih=>
   intro s hs hx j hj;have h1:=hx x (by simp);rw [List.foldl_cons,ih _ (by rw [zbG,hs]) (fun y hy=>hx y (by simp [hy])) j hj,zfd hs (by omega) hj];simp only [Bool.or_eq_true,decide_eq_true_eq,List.mem_cons];constructor
   ·rintro ((h|h)|h)
    ·exact .inl h
    ·exact .inr (.inl (by omega))
    ·exact .inr (.inr h)
   ·rintro (h|h|h)
    ·exact .inl (.inl h)
    ·exact .inl (.inr (by omega))
    ·exact .inr h
 unfold sHas inB;by_cases h:0≤j∧j≤511
 ·rw [decide_eq_true h.1,decide_eq_true h.2,Bool.and_true,Bool.true_and,show sBit (zeH l) j.toNat=true↔_ from key l sNil (by rfl) hl j.toNat (by omega),zdm,Int.toNat_of_nonneg h.1];simp
 ·constructor
  ·intro hh;simp only [Bool.and_eq_true,decide_eq_true_eq] at hh;exact absurd hh.1 h
  ·intro hm;exact absurd (hl j hm) h
def Pb.has (P:Pb)(i:Int):Bool:=sHas (zeH (P.ds.map (·.st))) i
def Pb.ok (P:Pb):Bool:=allB Dx.ok P.ds&&(P.rulesOk&&(incB (fun a b=>cmpI a.st b.st) P.ds&&(allB (fun x:Pr=>P.has x.a&&P.has x.b) P.ps&&(allB (fun x:Ld=>P.has x.to&&P.has x.fr) P.ls&&allB (fun x:Cp=>P.has x.st) P.cs))))
theorem zeb {α:Type}[Inhabited α]{q:α→Bool}{xs:List α}:allB q xs=true↔∀k,k<xs.length→q (nth xs k)=true:=by
 unfold allB;rw [List.all_eq_true];simp only [List.mem_range]
theorem allB_mem {α:Type}[Inhabited α]{q:α→Bool}{xs:List α}:allB q xs=true↔∀x∈xs,q x=true:=by
 rw [zeb];constructor
 ·intro h x hx;obtain ⟨k,hk,rfl⟩:=List.mem_iff_getElem.1 hx;rw [←zat hk];exact h k hk
 ·intro h k hk;exact h _ (zaY hk)
theorem incB_iff {α:Type}[Inhabited α]{c:α→α→Int}{xs:List α}:incB c xs=true↔∀k,k+1<xs.length→c (nth xs k) (nth xs (k+1))<0:=by
 unfold incB;rw [List.all_eq_true];simp only [List.mem_range];constructor
 ·intro h k hk;have:=h (k+1) hk;simp at this;omega
 ·intro h k hk
  cases k with
  |zero=>rfl
  |succ k=>have:=h k hk;simp;omega
theorem cmpI_neg {a b:Int}:cmpI a b<0↔a<b:=by unfold cmpI;split <;> (try split) <;> omega
theorem zku {α:Type}[Inhabited α]{f:α→Int}{xs:List α}(hi:incB (fun a b=>cmpI (f a) (f b)) xs=true)(h0:∀x∈xs,0≤f x):∀k,k<xs.length→(k:Int)≤f (nth xs k)
 |0,h=>h0 _ (zaY h)
 |k+1,h=>by
  have h1:=zku hi h0 k (by omega);have h2:=cmpI_neg.1 (incB_iff.1 hi k h);omega
theorem zjV {xs:List Dx}(hi:incB (fun a b:Dx=>cmpI a.st b.st) xs=true)(hr:allB Dx.ok xs=true):xs.length≤512:=by
 have hst:∀x∈xs,0≤x.st∧x.st≤511:=fun x hx=>by
  have:=allB_mem.1 hr x hx;simp only [Dx.ok,inB,Bool.and_eq_true,decide_eq_true_eq] at this;exact this.1
 rcases Nat.lt_or_ge 512 xs.length with h|h
 ·have h1:=zku (f:=Dx.st) hi (fun x hx=>(hst x hx).1) 512 h;have h2:=hst _ (zaY h);omega
 ·exact h
theorem zjh (c:Int)(w:World):Calls Tryz.prog 106 #[.int .i64 c] w fun e w'=>e= .returned (.bool (inB c 2 51))∧Below w.heap.size w w':=by
 refine zac (M:=fun _=>False) (hs:=[]) Tryz.func106 rfl rfl rfl (Hp.refl _ _) ?_;refine T.sr ?_;refine TL.run 1 rfl ?_;refine TL.nx ?_;refine TL.run 1 rfl ?_; (refine TL.ew (Wt.none rfl) rfl rfl (Ew.af rfl rfl rfl (fun w hw=>zcV _ _ _ _)) ?_;rintro _ _ ⟨rfl,rfl⟩);refine TL.run 1 rfl ?_;refine TL.ns (T.ret ?_);refine K.ah rfl rfl (fun w' hw=>⟨?_,hw.isBelow⟩)
 rfl
theorem zfU (d:Dx)(w:World)(h:zfz w d.v d.chs)(hl:d.chs.length≤9223372036854775807):Calls Tryz.prog 80 #[.agg (Dx.cells d).toArray] w fun e w'=>e= .returned (.bool d.ok)∧Below w.heap.size w w':=by
 haveI:=h.one;refine zac (M:=fun _=>False) (hs:=[]) Tryz.func80 rfl rfl rfl (Hp.refl _ _) ?_;simp only [Dx.cells];refine T.sr ?_; (refine TL.ew (Wt.none rfl) rfl rfl (Ew.aA rfl rfl) ?_;rintro _ _ ⟨g1,rfl,rfl⟩);refine TL.run 1 rfl ?_;refine TL.nx ?_;refine TL.run 1 rfl ?_;refine TL.nx ?_;refine TL.y (Yv.fieldAddr rfl rfl) ?_;refine TL.y (Yv.ac 0 rfl rfl rfl rfl) ?_; (refine TL.ew (Wt.none rfl) rfl rfl (Ew.af rfl rfl rfl (fun w hw=>zbW _ _)) ?_;rintro _ _ ⟨rfl,rfl⟩);refine TL.run 1 rfl ?_;refine TL.aq rfl rfl rfl (fun h1=>?_) (fun h1=>?_)
 ·have p1:=h1; (try simp only [nfB] at p1);refine TL.yv (Wt.some rfl rfl rfl h1) rfl rfl (Yv.fieldAddr rfl rfl) ?_;refine TL.yv (Wt.some rfl rfl rfl h1) rfl rfl (Yv.ac 0 rfl rfl rfl rfl) ?_;refine TL.yv (Wt.some rfl rfl rfl h1) rfl rfl (Yv.aB rfl) ?_; (refine TL.ew (Wt.some rfl rfl rfl h1) rfl rfl (Ew.af rfl rfl rfl (fun w hw=>zkQ (q:=fun c=>inB c 2 51) d.chs _ _ #[] w (h.kept hw) (fun k hk w1 hb=>zjh _ w1) hl)) ?_;rintro _ _ ⟨rfl,rfl⟩);refine TL.y (Yv.au rfl rfl h1 rfl) ?_;refine TL.run 1 rfl ?_;refine TL.aq rfl rfl rfl (fun h2=>?_) (fun h2=>?_)
  ·have p2:=h2; (try simp only [nfB] at p2);refine TL.yv (Wt.some rfl rfl rfl h2) rfl rfl (Yv.fieldAddr rfl rfl) ?_;refine TL.yv (Wt.some rfl rfl rfl h2) rfl rfl (Yv.ac 0 rfl rfl rfl rfl) ?_; (refine TL.ew (Wt.some rfl rfl rfl h2) rfl rfl (Ew.af rfl rfl rfl (fun w hw=>zgz (c:=cmpI) d.chs _ _ w (h.kept hw) (fun x y w1=>zaM x y w1) hl)) ?_;rintro _ _ ⟨rfl,rfl⟩);refine TL.y (Yv.au rfl rfl h2 rfl) ?_;refine TL.run 1 rfl ?_;refine TL.ns (T.ret ?_);refine K.ah rfl rfl (fun w' hw=>⟨?_,hw.isBelow⟩);exact zah (by simp only [Dx.ok, *,Bool.not_true,Bool.not_false,Bool.or_false,Bool.false_or,Bool.or_true,Bool.true_or,Bool.and_false,Bool.false_and,Bool.true_and,Bool.and_true,Bool.or_self,Bool.and_self,Bool.not_not,decide_true,decide_false,not_true_eq_false,not_false_eq_true,cond_true,cond_false])
  ·have p2:=h2; (try simp only [nfB] at p2);refine TL.off (Wt.not rfl rfl rfl h2) rfl rfl ?_;refine TL.off (Wt.not rfl rfl rfl h2) rfl rfl ?_;refine TL.off (Wt.not rfl rfl rfl h2) rfl rfl ?_;refine TL.y (Yv.av rfl rfl h2 rfl) ?_;refine TL.run 1 rfl ?_;refine TL.ns (T.ret ?_);refine K.ah rfl rfl (fun w' hw=>⟨?_,hw.isBelow⟩);exact zah (by simp only [Dx.ok, *,Bool.not_true,Bool.not_false,Bool.or_false,Bool.false_or,Bool.or_true,Bool.true_or,Bool.and_false,Bool.false_and,Bool.true_and,Bool.and_true,Bool.or_self,Bool.and_self,Bool.not_not,decide_true,decide_false,not_true_eq_false,not_false_eq_true,cond_true,cond_false])
 ·have p1:=h1; (try simp only [nfB] at p1);refine TL.off (Wt.not rfl rfl rfl h1) rfl rfl ?_;refine TL.off (Wt.not rfl rfl rfl h1) rfl rfl ?_;refine TL.off (Wt.not rfl rfl rfl h1) rfl rfl ?_;refine TL.off (Wt.not rfl rfl rfl h1) rfl rfl ?_;refine TL.y (Yv.av rfl rfl h1 rfl) ?_;refine TL.run 6 rfl ?_;refine TL.ns (T.ret ?_);refine K.ah rfl rfl (fun w' hw=>⟨?_,hw.isBelow⟩);exact zah (by simp only [Dx.ok, *,Bool.not_true,Bool.not_false,Bool.or_false,Bool.false_or,Bool.or_true,Bool.true_or,Bool.and_false,Bool.false_and,Bool.true_and,Bool.and_true,Bool.or_self,Bool.and_self,Bool.not_not,decide_true,decide_false,not_true_eq_false,not_false_eq_true,cond_true,cond_false])
theorem zgo (x y:Dx)(hx:OneC x.v)(hy:OneC y.v)(w:World):Calls Tryz.prog 82 #[.agg (Dx.cells x).toArray, .agg (Dx.cells y).toArray] w fun e w'=>e= .returned (.int .i64 (cmpI x.st y.st))∧Below w.heap.size w w':=by
 refine zac (M:=fun _=>False) (hs:=[]) Tryz.func82 rfl rfl rfl (Hp.refl _ _) ?_;simp only [Dx.cells];refine T.sr ?_; (refine TL.ew (Wt.none rfl) rfl rfl (Ew.aA rfl rfl) ?_;rintro _ _ ⟨g2,rfl,rfl⟩); (refine TL.ew (Wt.none rfl) rfl rfl (Ew.aA rfl rfl) ?_;rintro _ _ ⟨g3,rfl,rfl⟩);refine TL.run 1 rfl ?_;refine TL.nx ?_;refine TL.y (Yv.fieldAddr rfl rfl) ?_;refine TL.y (Yv.ac 1 rfl rfl rfl rfl) ?_;refine TL.y (Yv.fieldAddr rfl rfl) ?_;refine TL.y (Yv.ac 0 rfl rfl rfl rfl) ?_; (refine TL.ew (Wt.none rfl) rfl rfl (Ew.af rfl rfl rfl (fun w hw=>zaM _ _ _)) ?_;rintro _ _ ⟨rfl,rfl⟩);refine TL.run 1 rfl ?_;refine TL.ns (T.ret ?_);refine K.ah rfl rfl (fun w' hw=>⟨?_,hw.isBelow⟩)
 rfl
theorem zfP (P:Pb)(vp vl vc:Value)(w:World)(h:RulesAt w vp vl vc P):Calls Tryz.prog 81 #[.agg [vp,vl,vc].toArray] w fun e w'=>e= .returned (.bool P.rulesOk)∧Below w.heap.size w w':=by
 obtain ⟨A1,cap1,rfl, -⟩:=h.ps.op;obtain ⟨A2,cap2,rfl, -⟩:=h.ls.op;obtain ⟨A3,cap3,rfl, -⟩:=h.cs.op;refine zac (M:=fun _=>False) (hs:=[]) Tryz.func81 rfl rfl rfl (Hp.refl _ _) ?_;refine T.sr ?_; (refine TL.ew (Wt.none rfl) rfl rfl (Ew.aA rfl rfl) ?_;rintro _ _ ⟨g1,rfl,rfl⟩);refine TL.run 1 rfl ?_;refine TL.nx ?_;refine TL.y (Yv.fieldAddr rfl rfl) ?_;refine TL.y (Yv.ac 0 rfl rfl rfl rfl) ?_;refine TL.y (Yv.ax rfl rfl) ?_;refine TL.run 2 rfl ?_;refine TL.aq rfl rfl rfl (fun h1=>?_) (fun h1=>?_)
 ·have p1:=h1; (try simp only [nfB] at p1);refine TL.yv (Wt.some rfl rfl rfl h1) rfl rfl (Yv.fieldAddr rfl rfl) ?_;refine TL.yv (Wt.some rfl rfl rfl h1) rfl rfl (Yv.ac 0 rfl rfl rfl rfl) ?_; (refine TL.ew (Wt.some rfl rfl rfl h1) rfl rfl (Ew.af rfl rfl rfl (fun w hw=>zkB (q:=Pr.ok) P.ps _ 109 #[] w (h.ps.kept hw) (fun k hk w1 hb=>zhy _ w1) h.hps)) ?_;rintro _ _ ⟨rfl,rfl⟩);refine TL.y (Yv.au rfl rfl h1 rfl) ?_;refine TL.run 1 rfl ?_;refine TL.aq rfl rfl rfl (fun h2=>?_) (fun h2=>?_)
  ·have p2:=h2; (try simp only [nfB] at p2);refine TL.yv (Wt.some rfl rfl rfl h2) rfl rfl (Yv.fieldAddr rfl rfl) ?_;refine TL.yv (Wt.some rfl rfl rfl h2) rfl rfl (Yv.ac 0 rfl rfl rfl rfl) ?_; (refine TL.ew (Wt.some rfl rfl rfl h2) rfl rfl (Ew.af rfl rfl rfl (fun w hw=>zgN (c:=Pr.cmp) P.ps _ 111 w (h.ps.kept hw) (fun x y w1=>zeY x y w1) h.hps)) ?_;rintro _ _ ⟨rfl,rfl⟩);refine TL.y (Yv.au rfl rfl h2 rfl) ?_;refine TL.run 1 rfl ?_;refine TL.aq rfl rfl rfl (fun h3=>?_) (fun h3=>?_)
   ·have p3:=h3; (try simp only [nfB] at p3);refine TL.yv (Wt.some rfl rfl rfl h3) rfl rfl (Yv.fieldAddr rfl rfl) ?_;refine TL.yv (Wt.some rfl rfl rfl h3) rfl rfl (Yv.ac 0 rfl rfl rfl rfl) ?_;refine TL.yv (Wt.some rfl rfl rfl h3) rfl rfl (Yv.ax rfl rfl) ?_;refine TL.yv (Wt.some rfl rfl rfl h3) rfl rfl (Yv.aB rfl) ?_;refine TL.y (Yv.au rfl rfl h3 rfl) ?_;refine TL.run 1 rfl ?_;refine TL.aq rfl rfl rfl (fun h4=>?_) (fun h4=>?_)
    ·have p4:=h4; (try simp only [nfB] at p4);refine TL.yv (Wt.some rfl rfl rfl h4) rfl rfl (Yv.fieldAddr rfl rfl) ?_;refine TL.yv (Wt.some rfl rfl rfl h4) rfl rfl (Yv.ac 0 rfl rfl rfl rfl) ?_; (refine TL.ew (Wt.some rfl rfl rfl h4) rfl rfl (Ew.af rfl rfl rfl (fun w hw=>zkn (q:=Ld.ok) P.ls _ 112 #[] w (h.ls.kept hw) (fun k hk w1 hb=>zhG _ w1) h.hls)) ?_;rintro _ _ ⟨rfl,rfl⟩);refine TL.y (Yv.au rfl rfl h4 rfl) ?_;refine TL.run 1 rfl ?_;refine TL.aq rfl rfl rfl (fun h5=>?_) (fun h5=>?_)
     ·have p5:=h5; (try simp only [nfB] at p5);refine TL.yv (Wt.some rfl rfl rfl h5) rfl rfl (Yv.fieldAddr rfl rfl) ?_;refine TL.yv (Wt.some rfl rfl rfl h5) rfl rfl (Yv.ac 0 rfl rfl rfl rfl) ?_; (refine TL.ew (Wt.some rfl rfl rfl h5) rfl rfl (Ew.af rfl rfl rfl (fun w hw=>zhH (c:=Ld.cmp) P.ls _ 114 w (h.ls.kept hw) (fun x y w1=>zeV x y w1) h.hls)) ?_;rintro _ _ ⟨rfl,rfl⟩);refine TL.y (Yv.au rfl rfl h5 rfl) ?_;refine TL.run 1 rfl ?_;refine TL.aq rfl rfl rfl (fun h6=>?_) (fun h6=>?_)
      ·have p6:=h6; (try simp only [nfB] at p6);refine TL.yv (Wt.some rfl rfl rfl h6) rfl rfl (Yv.fieldAddr rfl rfl) ?_;refine TL.yv (Wt.some rfl rfl rfl h6) rfl rfl (Yv.ac 0 rfl rfl rfl rfl) ?_;refine TL.yv (Wt.some rfl rfl rfl h6) rfl rfl (Yv.ax rfl rfl) ?_;refine TL.yv (Wt.some rfl rfl rfl h6) rfl rfl (Yv.aB rfl) ?_;refine TL.y (Yv.au rfl rfl h6 rfl) ?_;refine TL.run 1 rfl ?_;refine TL.aq rfl rfl rfl (fun h7=>?_) (fun h7=>?_)
       ·have p7:=h7; (try simp only [nfB] at p7);refine TL.yv (Wt.some rfl rfl rfl h7) rfl rfl (Yv.fieldAddr rfl rfl) ?_;refine TL.yv (Wt.some rfl rfl rfl h7) rfl rfl (Yv.ac 0 rfl rfl rfl rfl) ?_; (refine TL.ew (Wt.some rfl rfl rfl h7) rfl rfl (Ew.af rfl rfl rfl (fun w hw=>zjX (q:=Cp.ok) P.cs _ 115 #[] w (h.cs.kept hw) (fun k hk w1 hb=>zh1 _ w1) h.hcs)) ?_;rintro _ _ ⟨rfl,rfl⟩);refine TL.y (Yv.au rfl rfl h7 rfl) ?_;refine TL.run 1 rfl ?_;refine TL.aq rfl rfl rfl (fun h8=>?_) (fun h8=>?_)
        ·have p8:=h8; (try simp only [nfB] at p8);refine TL.yv (Wt.some rfl rfl rfl h8) rfl rfl (Yv.fieldAddr rfl rfl) ?_;refine TL.yv (Wt.some rfl rfl rfl h8) rfl rfl (Yv.ac 0 rfl rfl rfl rfl) ?_; (refine TL.ew (Wt.some rfl rfl rfl h8) rfl rfl (Ew.af rfl rfl rfl (fun w hw=>zhC (c:=Cp.cmp) P.cs _ 117 w (h.cs.kept hw) (fun x y w1=>zfG x y w1) h.hcs)) ?_;rintro _ _ ⟨rfl,rfl⟩);refine TL.y (Yv.au rfl rfl h8 rfl) ?_;refine TL.run 1 rfl ?_;refine TL.ns (T.ret ?_);refine K.ah rfl rfl (fun w' hw=>⟨?_,hw.isBelow⟩);exact zah (by simp only [Pb.rulesOk, *,Bool.not_true,Bool.not_false,Bool.or_false,Bool.false_or,Bool.or_true,Bool.true_or,Bool.and_false,Bool.false_and,Bool.true_and,Bool.and_true,Bool.or_self,Bool.and_self,Bool.not_not,decide_true,decide_false,not_true_eq_false,not_false_eq_true,cond_true,cond_false])
        ·have p8:=h8; (try simp only [nfB] at p8);refine TL.off (Wt.not rfl rfl rfl h8) rfl rfl ?_;refine TL.off (Wt.not rfl rfl rfl h8) rfl rfl ?_;refine TL.off (Wt.not rfl rfl rfl h8) rfl rfl ?_;refine TL.y (Yv.av rfl rfl h8 rfl) ?_;refine TL.run 1 rfl ?_;refine TL.ns (T.ret ?_);refine K.ah rfl rfl (fun w' hw=>⟨?_,hw.isBelow⟩);exact zah (by simp only [Pb.rulesOk, *,Bool.not_true,Bool.not_false,Bool.or_false,Bool.false_or,Bool.or_true,Bool.true_or,Bool.and_false,Bool.false_and,Bool.true_and,Bool.and_true,Bool.or_self,Bool.and_self,Bool.not_not,decide_true,decide_false,not_true_eq_false,not_false_eq_true,cond_true,cond_false])
       ·have p7:=h7; (try simp only [nfB] at p7);refine TL.off (Wt.not rfl rfl rfl h7) rfl rfl ?_;refine TL.off (Wt.not rfl rfl rfl h7) rfl rfl ?_;refine TL.off (Wt.not rfl rfl rfl h7) rfl rfl ?_;refine TL.y (Yv.av rfl rfl h7 rfl) ?_;refine TL.run 6 rfl ?_;refine TL.ns (T.ret ?_);refine K.ah rfl rfl (fun w' hw=>⟨?_,hw.isBelow⟩);exact zah (by simp only [Pb.rulesOk, *,Bool.not_true,Bool.not_false,Bool.or_false,Bool.false_or,Bool.or_true,Bool.true_or,Bool.and_false,Bool.false_and,Bool.true_and,Bool.and_true,Bool.or_self,Bool.and_self,Bool.not_not,decide_true,decide_false,not_true_eq_false,not_false_eq_true,cond_true,cond_false])
      ·have p6:=h6; (try simp only [nfB] at p6);refine TL.off (Wt.not rfl rfl rfl h6) rfl rfl ?_;refine TL.off (Wt.not rfl rfl rfl h6) rfl rfl ?_;refine TL.off (Wt.not rfl rfl rfl h6) rfl rfl ?_;refine TL.off (Wt.not rfl rfl rfl h6) rfl rfl ?_;refine TL.y (Yv.av rfl rfl h6 rfl) ?_;refine TL.run 11 rfl ?_;refine TL.ns (T.ret ?_);refine K.ah rfl rfl (fun w' hw=>⟨?_,hw.isBelow⟩);exact zah (by simp only [Pb.rulesOk, *,Bool.not_true,Bool.not_false,Bool.or_false,Bool.false_or,Bool.or_true,Bool.true_or,Bool.and_false,Bool.false_and,Bool.true_and,Bool.and_true,Bool.or_self,Bool.and_self,Bool.not_not,decide_true,decide_false,not_true_eq_false,not_false_eq_true,cond_true,cond_false])
     ·have p5:=h5; (try simp only [nfB] at p5);refine TL.off (Wt.not rfl rfl rfl h5) rfl rfl ?_;refine TL.off (Wt.not rfl rfl rfl h5) rfl rfl ?_;refine TL.off (Wt.not rfl rfl rfl h5) rfl rfl ?_;refine TL.y (Yv.av rfl rfl h5 rfl) ?_;refine TL.run 17 rfl ?_;refine TL.ns (T.ret ?_);refine K.ah rfl rfl (fun w' hw=>⟨?_,hw.isBelow⟩);exact zah (by simp only [Pb.rulesOk, *,Bool.not_true,Bool.not_false,Bool.or_false,Bool.false_or,Bool.or_true,Bool.true_or,Bool.and_false,Bool.false_and,Bool.true_and,Bool.and_true,Bool.or_self,Bool.and_self,Bool.not_not,decide_true,decide_false,not_true_eq_false,not_false_eq_true,cond_true,cond_false])
    ·have p4:=h4; (try simp only [nfB] at p4);refine TL.off (Wt.not rfl rfl rfl h4) rfl rfl ?_;refine TL.off (Wt.not rfl rfl rfl h4) rfl rfl ?_;refine TL.off (Wt.not rfl rfl rfl h4) rfl rfl ?_;refine TL.y (Yv.av rfl rfl h4 rfl) ?_;refine TL.run 22 rfl ?_;refine TL.ns (T.ret ?_);refine K.ah rfl rfl (fun w' hw=>⟨?_,hw.isBelow⟩);exact zah (by simp only [Pb.rulesOk, *,Bool.not_true,Bool.not_false,Bool.or_false,Bool.false_or,Bool.or_true,Bool.true_or,Bool.and_false,Bool.false_and,Bool.true_and,Bool.and_true,Bool.or_self,Bool.and_self,Bool.not_not,decide_true,decide_false,not_true_eq_false,not_false_eq_true,cond_true,cond_false])
   ·have p3:=h3; (try simp only [nfB] at p3);refine TL.off (Wt.not rfl rfl rfl h3) rfl rfl ?_;refine TL.off (Wt.not rfl rfl rfl h3) rfl rfl ?_;refine TL.off (Wt.not rfl rfl rfl h3) rfl rfl ?_;refine TL.off (Wt.not rfl rfl rfl h3) rfl rfl ?_;refine TL.y (Yv.av rfl rfl h3 rfl) ?_;refine TL.run 27 rfl ?_;refine TL.ns (T.ret ?_);refine K.ah rfl rfl (fun w' hw=>⟨?_,hw.isBelow⟩);exact zah (by simp only [Pb.rulesOk, *,Bool.not_true,Bool.not_false,Bool.or_false,Bool.false_or,Bool.or_true,Bool.true_or,Bool.and_false,Bool.false_and,Bool.true_and,Bool.and_true,Bool.or_self,Bool.and_self,Bool.not_not,decide_true,decide_false,not_true_eq_false,not_false_eq_true,cond_true,cond_false])
  ·have p2:=h2; (try simp only [nfB] at p2);refine TL.off (Wt.not rfl rfl rfl h2) rfl rfl ?_;refine TL.off (Wt.not rfl rfl rfl h2) rfl rfl ?_;refine TL.off (Wt.not rfl rfl rfl h2) rfl rfl ?_;refine TL.y (Yv.av rfl rfl h2 rfl) ?_;refine TL.run 33 rfl ?_;refine TL.ns (T.ret ?_);refine K.ah rfl rfl (fun w' hw=>⟨?_,hw.isBelow⟩);exact zah (by simp only [Pb.rulesOk, *,Bool.not_true,Bool.not_false,Bool.or_false,Bool.false_or,Bool.or_true,Bool.true_or,Bool.and_false,Bool.false_and,Bool.true_and,Bool.and_true,Bool.or_self,Bool.and_self,Bool.not_not,decide_true,decide_false,not_true_eq_false,not_false_eq_true,cond_true,cond_false])
 ·have p1:=h1; (try simp only [nfB] at p1);refine TL.off (Wt.not rfl rfl rfl h1) rfl rfl ?_;refine TL.off (Wt.not rfl rfl rfl h1) rfl rfl ?_;refine TL.off (Wt.not rfl rfl rfl h1) rfl rfl ?_;refine TL.y (Yv.av rfl rfl h1 rfl) ?_;refine TL.run 38 rfl ?_;refine TL.ns (T.ret ?_);refine K.ah rfl rfl (fun w' hw=>⟨?_,hw.isBelow⟩);exact zah (by simp only [Pb.rulesOk, *,Bool.not_true,Bool.not_false,Bool.or_false,Bool.false_or,Bool.or_true,Bool.true_or,Bool.and_false,Bool.false_and,Bool.true_and,Bool.and_true,Bool.or_self,Bool.and_self,Bool.not_not,decide_true,decide_false,not_true_eq_false,not_false_eq_true,cond_true,cond_false])
theorem zdZ (i:Int)(w:World):Calls Tryz.prog 120 #[.int .i64 i] w fun e w'=>e= .returned (.bool (inB i 0 511))∧Below w.heap.size w w':=by
 refine zac (M:=fun _=>False) (hs:=[]) Tryz.func120 rfl rfl rfl (Hp.refl _ _) ?_;refine T.sr ?_;refine TL.run 1 rfl ?_;refine TL.nx ?_;refine TL.run 3 rfl ?_;refine TL.aq rfl rfl rfl (fun h1=>?_) (fun h1=>?_)
 ·have p1:=h1; (try simp only [nfB] at p1);refine TL.yv (Wt.some rfl rfl rfl h1) rfl rfl (Yv.aB rfl) ?_;refine TL.yv (Wt.some rfl rfl rfl h1) rfl rfl (Yv.aB rfl) ?_;refine TL.y (Yv.au rfl rfl h1 rfl) ?_;refine TL.run 1 rfl ?_;refine TL.ns (T.ret ?_);refine K.ah rfl rfl (fun w' hw=>⟨?_,hw.isBelow⟩);refine zah ?_;simp only [inB, *,Bool.not_true,Bool.not_false,Bool.or_false,Bool.false_or,Bool.or_true,Bool.true_or,Bool.and_false,Bool.false_and,Bool.true_and,Bool.and_true,Bool.or_self,Bool.and_self,Bool.not_not,decide_true,decide_false,not_true_eq_false,not_false_eq_true,cond_true,cond_false]; (try exact decide_eq_decide.2 (by omega))
 ·have p1:=h1; (try simp only [nfB] at p1);refine TL.off (Wt.not rfl rfl rfl h1) rfl rfl ?_;refine TL.off (Wt.not rfl rfl rfl h1) rfl rfl ?_;refine TL.y (Yv.av rfl rfl h1 rfl) ?_;refine TL.run 1 rfl ?_;refine TL.ns (T.ret ?_);refine K.ah rfl rfl (fun w' hw=>⟨?_,hw.isBelow⟩);refine zah ?_;simp only [inB, *,Bool.not_true,Bool.not_false,Bool.or_false,Bool.false_or,Bool.or_true,Bool.true_or,Bool.and_false,Bool.false_and,Bool.true_and,Bool.and_true,Bool.or_self,Bool.and_self,Bool.not_not,decide_true,decide_false,not_true_eq_false,not_false_eq_true,cond_true,cond_false]; (try exact decide_eq_decide.2 (by omega))
theorem zfM (ws:Ws)(hws:ws.length=8)(i:Int)(w:World):Calls Tryz.prog 88 #[.agg ws.cells.toArray, .int .i64 i] w fun e w'=>e= .returned (.bool (sHas ws i))∧Below w.heap.size w w':=by
 refine zac (M:=fun _=>False) (hs:=[]) Tryz.func88 rfl rfl rfl (Hp.refl _ _) ?_;refine T.sr ?_; (refine TL.ew (Wt.none rfl) rfl rfl (Ew.aA rfl rfl) ?_;rintro _ _ ⟨g2,rfl,rfl⟩);refine TL.run 1 rfl ?_;refine TL.nx ?_;refine TL.run 1 rfl ?_; (refine TL.ew (Wt.none rfl) rfl rfl (Ew.af rfl rfl rfl (fun w hw=>zdZ _ _)) ?_;rintro _ _ ⟨rfl,rfl⟩);refine TL.run 1 rfl ?_;refine TL.aq rfl rfl rfl (fun h1=>?_) (fun h1=>?_)
 ·have p1:=h1; (try simp only [nfB] at p1); (try simp only [inB,Bool.and_eq_true,decide_eq_true_eq] at p1); (try have hld:=Ws.get (ws:=ws) (i:=i.toNat / 64) (p:=0+0+i.toNat / 64*1) (by omega) (by omega));refine TL.yv (Wt.some rfl rfl rfl h1) rfl rfl (Yv.aB rfl) ?_;refine TL.yv (Wt.some rfl rfl rfl h1) rfl rfl (Yv.bN rfl rfl rfl (by omega)) ?_;refine TL.yv (Wt.some rfl rfl rfl h1) rfl rfl (Yv.fieldAddr rfl rfl) ?_;refine TL.yv (Wt.some rfl rfl rfl h1) rfl rfl (Yv.ay rfl rfl rfl (show i / 64=((i.toNat / 64:Nat):Int) from by omega) (by omega)) ?_;refine TL.yv (Wt.some rfl rfl rfl h1) rfl rfl (Yv.ac 0 rfl rfl rfl hld) ?_;refine TL.yv (Wt.some rfl rfl rfl h1) rfl rfl (Yv.aB rfl) ?_;refine TL.yv (Wt.some rfl rfl rfl h1) rfl rfl (Yv.bF rfl rfl rfl (by omega)) ?_;refine TL.yv (Wt.some rfl rfl rfl h1) rfl rfl (Yv.bf (i.toNat % 64) rfl rfl rfl (by omega) (by omega)) ?_;refine TL.yv (Wt.some rfl rfl rfl h1) rfl rfl (Yv.be (b:=1#64) rfl rfl rfl) ?_;refine TL.yv (Wt.some rfl rfl rfl h1) rfl rfl (Yv.aB rfl) ?_;refine TL.y (Yv.au rfl rfl h1 rfl) ?_;refine TL.run 1 rfl ?_;refine TL.ns (T.ret ?_);refine K.ah rfl rfl (fun w' hw=>⟨?_,hw.isBelow⟩);exact zah (by simp only [sHas,sBit,zgV, *,Bool.not_true,Bool.not_false,Bool.or_false,Bool.false_or,Bool.or_true,Bool.true_or,Bool.and_false,Bool.false_and,Bool.true_and,Bool.and_true,Bool.or_self,Bool.and_self,Bool.not_not,decide_true,decide_false,not_true_eq_false,not_false_eq_true,cond_true,cond_false])
 ·have p1:=h1; (try simp only [nfB] at p1); (try simp only [inB,Bool.and_eq_true,decide_eq_true_eq] at p1); (try have hld:=Ws.get (ws:=ws) (i:=i.toNat / 64) (p:=0+0+i.toNat / 64*1) (by omega) (by omega));refine TL.off (Wt.not rfl rfl rfl h1) rfl rfl ?_;refine TL.off (Wt.not rfl rfl rfl h1) rfl rfl ?_;refine TL.off (Wt.not rfl rfl rfl h1) rfl rfl ?_;refine TL.off (Wt.not rfl rfl rfl h1) rfl rfl ?_;refine TL.off (Wt.not rfl rfl rfl h1) rfl rfl ?_;refine TL.off (Wt.not rfl rfl rfl h1) rfl rfl ?_;refine TL.off (Wt.not rfl rfl rfl h1) rfl rfl ?_;refine TL.off (Wt.not rfl rfl rfl h1) rfl rfl ?_;refine TL.off (Wt.not rfl rfl rfl h1) rfl rfl ?_;refine TL.off (Wt.not rfl rfl rfl h1) rfl rfl ?_;refine TL.y (Yv.av rfl rfl h1 rfl) ?_;refine TL.run 1 rfl ?_;refine TL.ns (T.ret ?_);refine K.ah rfl rfl (fun w' hw=>⟨?_,hw.isBelow⟩);exact zah (by simp only [sHas,sBit,zgV, *,Bool.not_true,Bool.not_false,Bool.or_false,Bool.false_or,Bool.or_true,Bool.true_or,Bool.and_false,Bool.false_and,Bool.true_and,Bool.and_true,Bool.or_self,Bool.and_self,Bool.not_not,decide_true,decide_false,not_true_eq_false,not_false_eq_true,cond_true,cond_false])
theorem zmn (l:List Int)(v:Value)(w:World)(h:zfz w v l)(hl:l.length≤9223372036854775807)(hr:∀x∈l,0≤x∧x≤511):Calls Tryz.prog 119 #[v] w fun e w'=>e= .returned (.tuple #[.agg (Ws.cells (zeH l)).toArray, .int .i64 0])∧Below w.heap.size w w':=by
 obtain ⟨A,cap,rfl,hsl⟩:=h.op;refine zac (M:=fun _=>False) (hs:=[]) Tryz.func119 rfl rfl rfl (Hp.refl _ _) ?_;refine T.sr ?_; (refine TL.ew (Wt.none rfl) rfl rfl (Ew.alloc rfl) ?_;rintro _ _ ⟨g2,rfl,rfl⟩);refine TL.run 1 rfl ?_;refine TL.nx ?_; (refine TL.ew (Wt.none rfl) rfl rfl (Ew.alloc rfl) ?_;rintro _ _ ⟨g4,rfl,rfl⟩);refine TL.ns (T.seq (T.sr ?_));refine TL.run 1 rfl ?_;refine TL.y (Yv.ax rfl rfl) ?_;refine TL.run 1 rfl ?_;refine TL.ns (T.block ?_);refine T.loop (ι:=Nat) (fun k=>[(2, .pointer (some ⟨g2,0,none⟩)),(4, .pointer (some ⟨g4,0,none⟩)),(7, .slice A l.length cap),(8, .int .i64 (l.length:Int)),(9, .int .i64 (k:Int))]) (fun k=>[.row g4 143 (Ws.cells (zeH (l.take k))), .row g2 143 (Ws.cells sNil)]) (fun k=>k≤l.length) (fun k=>l.length - k) 0 ?_ ?_ ?_ ?_
 ·omega
 ·exact (by repeat (first|exact Sub.nil|refine Sub.cons rfl ?_))
 ·exact Sx
 ·intro k hphi;have hlen:=zbi (l.take k); (have hsl8:(Ws.cells (zeH (l.take k))).length=8:=by rw [List.length_map,hlen]);refine T.sr ?_;refine TL.run 1 rfl ?_;refine TL.ns (T.seq ?_);refine T.cond rfl (fun h1=>?_) (fun h1=>?_)
  ·have p1:=h1; (try simp only [nfB] at p1);obtain ⟨g,off,rfl,hc⟩:=hsl (by omega);have hk:=hc k (by omega);simp only [Ie] at hk;have hr1:=hr _ (zaY (xs:=l) (k:=k) (by omega));have hld:=Ws.get (ws:=zeH (l.take k)) (i:=(nth l k).toNat / 64) (p:=0+0+(nth l k).toNat / 64*1) (by omega) (by omega);refine T.skip (K.seq (T.seq (T.block (T.sr ?_))));refine TL.y (Yv.ai rfl rfl rfl rfl (by omega)) ?_;refine TL.y (Yv.loadC (j:=0) rfl rfl hk rfl rfl (fun h=>h)) ?_;refine TL.run 1 rfl ?_;refine TL.ns (T.seq (T.sr ?_));refine TL.run 1 rfl ?_; (refine TL.ew (Wt.none rfl) rfl rfl (Ew.af rfl rfl rfl (fun w hw=>zdZ _ _)) ?_;rintro _ _ ⟨rfl,rfl⟩);refine TL.run 1 rfl ?_;refine TL.ns ?_;refine T.aJ rfl (by rw [inB,decide_eq_true hr1.1,decide_eq_true hr1.2];rfl) ?_;refine T.skip (K.seq ?_);refine T.as (.still 0 (.still 1 (.still 2 (.still 3 (.still 5 (.still 6 (.still 7 (.still 9 (.eff 4 (.still 8 (.still 10 (.eff 11 .done)))))))))))) [.row g2 143 (Ws.cells sNil)] (by kernel_rfl) Sx ?_;refine TS.run 1 rfl ?_;refine TS.y rfl (Yv.bN rfl rfl rfl (by omega)) ?_;refine TS.y rfl (Yv.fieldAddr rfl rfl) ?_;refine TS.y rfl (Yv.ay rfl rfl rfl (show (nth l k) / 64=(((nth l k).toNat / 64:Nat):Int) from by omega) (by omega)) ?_;refine TS.run 1 rfl ?_;refine TS.y rfl (Yv.bF rfl rfl rfl (by omega)) ?_;refine TS.y rfl (Yv.bi (a:=1#64) ((nth l k).toNat % 64) rfl rfl rfl (by omega) (by omega)) ?_;refine TS.y rfl (Yv.fieldAddr rfl rfl) ?_;refine TS.eff ?_;refine TSo.yv rfl (Wt.none rfl) rfl rfl (Yv.ac 0 rfl rfl rfl hld) Sx ?_;refine TS.y rfl (Yv.orV rfl rfl rfl) ?_;refine TS.y rfl (Yv.ay rfl rfl rfl (show (nth l k) / 64=(((nth l k).toNat / 64:Nat):Int) from by omega) (by omega)) ?_;refine TS.eff ?_; (refine TSo.aF rfl (Wt.none rfl) rfl (Ew.aT 0 (Ws.cells (sAdd (zeH (l.take k)) (nth l k).toNat)) rfl rfl rfl rfl (by rw [List.length_map,hlen];omega) (Ws.put (by omega))) ?_;rintro _ _ ⟨rfl,rfl⟩;refine ⟨Sx,?_⟩);refine TS.done ?_;refine K.ad (K.seq (T.region ?_));refine TL.y (Yv.an rfl rfl rfl (by omega)) ?_;refine TL.run 1 rfl ?_;refine TL.nil ?_;exact K.next (k+1) (by omega) (by omega) (by repeat (first|exact Sub.nil|refine Sub.cons rfl ?_)) (by rw [zi3 (by omega)];exact Sx)
  ·have p1:=h1; (try simp only [nfB] at p1);refine T.exit (K.ab (K.ab (K.ae (K.seq (T.sr ?_)))));refine TL.y (Yv.am 0 rfl rfl rfl hsl8) ?_; (refine TL.aF (Wt.none rfl) rfl (Ew.ak 1 rfl rfl rfl rfl (by rw [List.length_map,zbi]) (by rw [List.length_map,zbi];rfl)) ?_;rintro _ _ ⟨rfl,rfl⟩);refine TL.run 1 rfl ?_;refine TL.ns (T.ret ?_);exact K.bu 1 rfl rfl rfl rfl (by rw [List.length_map,zbi]) (fun w' hw=>⟨by rw [List.take_of_length_le (by omega)],hw.isBelow⟩)
def zbg (f:Nat→Value)(z:Value)(n k:Nat):List Value:=(List.range k).map f++List.replicate (n - k) z
theorem zeo {f:Nat→Value}{z:Value}{n k:Nat}(h:k≤n):(zbg f z n k).length=n:=by simp [zbg];omega
theorem zed {f:Nat→Value}{z:Value}{n k p:Nat}(h:k<n)(hp:p=k):(zbg f z n k).set p (f k)=zbg f z n (k+1):=by
 subst hp;unfold zbg;rw [List.set_append_right _ _ (by simp),show n - p=(n - (p+1))+1 by omega,List.replicate_succ,List.range_succ,List.map_append];simp
theorem zen (z:Value)(n:Nat):(madeCells [z].toArray (n*1)).toList=zbg (fun _=>z) z n 0:=by
 apply List.ext_getElem?;intro i;by_cases h:i<n
 ·simp [zbg,madeCells,List.getElem?_replicate,Nat.mod_one,h]
 ·simp [zbg,madeCells,List.getElem?_replicate,h]
theorem zhf {α:Type}[Inhabited α]{xs:List α}{f:Nat→Value}{z:Value}(g:α→Int)(hf:∀j,f j= .int .i64 (g (nth xs j))){k:Nat}(hk:k=xs.length):zbg f z xs.length k=(xs.map g).flatMap Ie:=by
 subst hk;unfold zbg;apply List.ext_getElem?;intro i
 have e:(xs.map g).flatMap Ie=(xs.map g).map (fun z=>Value.int .i64 z):=by
  have:∀l:List Int,l.flatMap Ie=l.map (fun z=>Value.int .i64 z):=by
   intro l
   induction l with
   |nil=>rfl
   |cons x r ih=>simp [List.flatMap_cons,Ie,ih]
  exact this _
 rw [e];simp only [Nat.sub_self,List.replicate_zero,List.append_nil,List.getElem?_map,List.getElem?_range];by_cases h:i<xs.length
 ·simp [h,hf,nth]
 ·simp [h]
theorem zhS (P:Pb)(vd vp vl vc:Value)(w:World)(h:ProbAt w vd vp vl vc P)(hn:P.ds.length≤512)(hr:∀d∈P.ds,0≤d.st∧d.st≤511):Calls Tryz.prog 85 #[.agg [vd,vp,vl,vc].toArray] w fun e w'=>e= .returned (.agg (Ws.cells (zeH (P.ds.map (·.st)))).toArray)∧Below w.heap.size w w':=by
 obtain ⟨A,cap,rfl,hsl⟩:=h.ds.sl.op;obtain ⟨A1,cap1,rfl, -⟩:=h.ru.ps.op;obtain ⟨A2,cap2,rfl, -⟩:=h.ru.ls.op;obtain ⟨A3,cap3,rfl, -⟩:=h.ru.cs.op;refine zac (M:=fun _=>False) (hs:=[]) Tryz.func85 rfl rfl rfl (Hp.refl _ _) ?_;refine T.sr ?_; (refine TL.ew (Wt.none rfl) rfl rfl (Ew.aA rfl rfl) ?_;rintro _ _ ⟨g1,rfl,rfl⟩); (refine TL.ew (Wt.none rfl) rfl rfl (Ew.alloc rfl) ?_;rintro _ _ ⟨g2,rfl,rfl⟩);refine TL.nx ?_;refine TL.y (Yv.fieldAddr rfl rfl) ?_;refine TL.y (Yv.ac 1 rfl rfl rfl rfl) ?_;refine TL.y (Yv.ax rfl rfl) ?_; (refine TL.ew (Wt.none rfl) rfl rfl (Ew.makeSlice rfl rfl rfl rfl rfl (by omega) (by omega)) ?_;rintro _ _ ⟨g11,rfl,rfl⟩);refine TL.run 1 rfl ?_;refine TL.ns ?_;refine T.cut (gs:=[(2, .pointer (some ⟨g2,0,none⟩)),(3,(.slice (some ⟨g11,0,none⟩) P.ds.length P.ds.length))]) (hs':=[.sl (.slice (some ⟨g11,0,none⟩) P.ds.length P.ds.length) 3 1 P.ds.length ((P.ds.map (·.st)).flatMap Ie), .row g2 143 (Ws.cells sNil)]) ?_ ?_
 ·skip;refine T.seq ?_;rw [zen];refine T.region ?_;refine TL.y (Yv.fieldAddr rfl rfl) ?_;refine TL.y (Yv.ac 2 rfl rfl rfl rfl) ?_;refine TL.y (Yv.ax rfl rfl) ?_;refine TL.run 1 rfl ?_;refine TL.ns (T.block ?_);refine T.loop (ι:=Nat) (fun k=>[(2, .pointer (some ⟨g2,0,none⟩)),(3,(.slice (some ⟨g11,0,none⟩) P.ds.length P.ds.length)),(13, .slice A P.ds.length cap),(14, .int .i64 (P.ds.length:Int)),(15, .int .i64 (k:Int))]) (fun k=>[.sl (.slice (some ⟨g11,0,none⟩) P.ds.length P.ds.length) 3 1 P.ds.length (zbg (fun j=> .int .i64 (nth P.ds j).st) (.int .i64 0) P.ds.length k), .row g2 143 (Ws.cells sNil)]) (fun k=>k≤P.ds.length) (fun k=>P.ds.length - k) 0 ?_ ?_ ?_ ?_
  ·omega
  ·exact (by repeat (first|exact Sub.nil|refine Sub.cons rfl ?_))
  ·exact Sx
  ·intro k hphi;refine T.sr ?_;refine TL.run 1 rfl ?_;refine TL.ns (T.seq ?_);refine T.cond rfl (fun h1=>?_) (fun h1=>?_)
   ·have p1:=h1; (try simp only [nfB] at p1);obtain ⟨g,off,rfl,hc⟩:=hsl (by omega);have hk:=hc k (by omega);haveI:=(h.ds.at (k:=k) (by omega)).one;simp only [Dx.cells] at hk;refine T.skip (K.seq (T.seq (T.block (T.sr ?_))));refine TL.run 1 rfl ?_;refine TL.y (Yv.ai rfl rfl rfl rfl (by omega)) ?_;refine TL.y (Yv.aC rfl rfl hk rfl (fun h=>h)) ?_; (refine TL.ew (Wt.none rfl) rfl rfl (Ew.alloc rfl) ?_;rintro _ _ ⟨g5,rfl,rfl⟩);refine TL.run 1 rfl ?_; (refine TL.aF (Wt.none rfl) rfl (Ew.ak 0 rfl rfl rfl rfl rfl rfl) ?_;rintro _ _ ⟨rfl,rfl⟩);refine TL.ns (T.region ?_);refine TL.run 2 rfl ?_;refine TL.y (Yv.fieldAddr rfl rfl) ?_;refine TL.y (Yv.ac 0 rfl rfl rfl rfl) ?_;refine TL.y (Yv.ai rfl rfl rfl rfl (by omega)) ?_; (refine TL.aF (Wt.none rfl) rfl (Ew.aL 1 (zbg (fun j=> .int .i64 (nth P.ds j).st) (.int .i64 0) P.ds.length (k+1)) rfl rfl rfl rfl (by rw [zeo (by omega)];omega) (zed (by omega) (by omega))) ?_;rintro _ _ ⟨rfl,rfl⟩);refine TL.nil (K.ad (K.seq (T.region ?_)));refine TL.y (Yv.an rfl rfl rfl (by omega)) ?_;refine TL.run 1 rfl ?_;refine TL.nil ?_;exact K.next (k+1) (by omega) (by omega) (by repeat (first|exact Sub.nil|refine Sub.cons rfl ?_)) Sx
   ·have p1:=h1; (try simp only [nfB] at p1);refine T.exit (K.ab (K.ab (K.ae ?_)));exact K.at (by repeat (first|exact Sub.nil|refine Sub.cons rfl ?_)) (by rw [zhf (fun d:Dx=>d.st) (fun _=>rfl) (show k=P.ds.length by omega)];exact Sx)
 ·skip;refine T.sr ?_;refine TL.run 1 rfl ?_; (refine TL.ew (Wt.none rfl) rfl rfl (Ew.af rfl rfl rfl (fun w hw=>zmn (P.ds.map (·.st)) _ w (SlOf.ownAt (enc:=Ie) (fun _=>rfl) hw 0 rfl (by simp)) (by simp;omega) (by intro x hx;obtain ⟨d,hd,rfl⟩:=List.mem_map.1 hx;exact hr d hd))) ?_;rintro _ _ ⟨rfl,rfl⟩);refine TL.run 3 rfl ?_; (refine TL.ew (Wt.none rfl) rfl rfl (Ew.alloc rfl) ?_;rintro _ _ ⟨g6,rfl,rfl⟩); (refine TL.aF (Wt.none rfl) rfl (Ew.ak 0 rfl rfl rfl rfl (by rw [List.length_map,zbi]) (by rw [List.length_map,zbi];rfl)) ?_;rintro _ _ ⟨rfl,rfl⟩);refine TL.run 1 rfl ?_;refine TL.nx ?_;refine TL.y (Yv.am 0 rfl rfl rfl (by rw [List.length_map,zbi])) ?_; (refine TL.aF (Wt.none rfl) rfl (Ew.ak 2 rfl rfl rfl rfl (by rw [List.length_map,zbi]) (by rw [List.length_map,List.length_map,zbi];rfl)) ?_;rintro _ _ ⟨rfl,rfl⟩);refine TL.ns (T.ret ?_);exact K.bG 2 rfl rfl rfl (by rw [List.length_map,zbi]) (fun w' hw=>⟨rfl,hw.isBelow⟩)
theorem zih (x:Pr)(ws:Ws)(hws:ws.length=8)(p:Nat)(w:World)(hp:Cs w p 0 ws.cells):Calls Tryz.prog 87 #[.agg (Pr.cells x).toArray, .pointer (some ⟨p,0,none⟩)] w fun e w'=>e= .returned (.bool (sHas ws x.a&&sHas ws x.b))∧Below w.heap.size w w':=by
 refine zac (M:=fun _=>False) (hs:=[]) Tryz.func87 rfl rfl rfl (Hp.refl _ _) ?_;simp only [Pr.cells];refine T.sr ?_; (refine TL.ew (Wt.none rfl) rfl rfl (Ew.aA rfl rfl) ?_;rintro _ _ ⟨g2,rfl,rfl⟩);refine TL.run 1 rfl ?_;refine TL.nx ?_;refine TL.y (Yv.aC rfl rfl hp (by rw [List.length_map,hws]) (fun h=>h)) ?_;refine TL.y (Yv.fieldAddr rfl rfl) ?_;refine TL.y (Yv.ac 0 rfl rfl rfl rfl) ?_; (refine TL.ew (Wt.none rfl) rfl rfl (Ew.af rfl rfl rfl (fun w hw=>zfM ws hws _ w)) ?_;rintro _ _ ⟨rfl,rfl⟩);refine TL.run 1 rfl ?_;refine TL.aq rfl rfl rfl (fun h1=>?_) (fun h1=>?_)
 ·have p1:=h1; (try simp only [nfB] at p1);refine TL.yv (Wt.some rfl rfl rfl h1) rfl rfl (Yv.aC rfl rfl hp (by rw [List.length_map,hws]) (fun h=>h)) ?_;refine TL.yv (Wt.some rfl rfl rfl h1) rfl rfl (Yv.fieldAddr rfl rfl) ?_;refine TL.yv (Wt.some rfl rfl rfl h1) rfl rfl (Yv.ac 0 rfl rfl rfl rfl) ?_; (refine TL.ew (Wt.some rfl rfl rfl h1) rfl rfl (Ew.af rfl rfl rfl (fun w hw=>zfM ws hws _ w)) ?_;rintro _ _ ⟨rfl,rfl⟩);refine TL.y (Yv.au rfl rfl h1 rfl) ?_;refine TL.run 1 rfl ?_;refine TL.ns (T.ret ?_);refine K.ah rfl rfl (fun w' hw=>⟨?_,hw.isBelow⟩);exact zah (by simp only [*,Bool.not_true,Bool.not_false,Bool.or_false,Bool.false_or,Bool.or_true,Bool.true_or,Bool.and_false,Bool.false_and,Bool.true_and,Bool.and_true,Bool.or_self,Bool.and_self,Bool.not_not,decide_true,decide_false,not_true_eq_false,not_false_eq_true,cond_true,cond_false])
 ·have p1:=h1; (try simp only [nfB] at p1);refine TL.off (Wt.not rfl rfl rfl h1) rfl rfl ?_;refine TL.off (Wt.not rfl rfl rfl h1) rfl rfl ?_;refine TL.off (Wt.not rfl rfl rfl h1) rfl rfl ?_;refine TL.off (Wt.not rfl rfl rfl h1) rfl rfl ?_;refine TL.y (Yv.av rfl rfl h1 rfl) ?_;refine TL.run 1 rfl ?_;refine TL.ns (T.ret ?_);refine K.ah rfl rfl (fun w' hw=>⟨?_,hw.isBelow⟩);exact zah (by simp only [*,Bool.not_true,Bool.not_false,Bool.or_false,Bool.false_or,Bool.or_true,Bool.true_or,Bool.and_false,Bool.false_and,Bool.true_and,Bool.and_true,Bool.or_self,Bool.and_self,Bool.not_not,decide_true,decide_false,not_true_eq_false,not_false_eq_true,cond_true,cond_false])
theorem zh9 (x:Ld)(ws:Ws)(hws:ws.length=8)(p:Nat)(w:World)(hp:Cs w p 0 ws.cells):Calls Tryz.prog 90 #[.agg (Ld.cells x).toArray, .pointer (some ⟨p,0,none⟩)] w fun e w'=>e= .returned (.bool (sHas ws x.to&&sHas ws x.fr))∧Below w.heap.size w w':=by
 refine zac (M:=fun _=>False) (hs:=[]) Tryz.func90 rfl rfl rfl (Hp.refl _ _) ?_;simp only [Ld.cells];refine T.sr ?_; (refine TL.ew (Wt.none rfl) rfl rfl (Ew.aA rfl rfl) ?_;rintro _ _ ⟨g2,rfl,rfl⟩);refine TL.run 1 rfl ?_;refine TL.nx ?_;refine TL.y (Yv.aC rfl rfl hp (by rw [List.length_map,hws]) (fun h=>h)) ?_;refine TL.y (Yv.fieldAddr rfl rfl) ?_;refine TL.y (Yv.ac 0 rfl rfl rfl rfl) ?_; (refine TL.ew (Wt.none rfl) rfl rfl (Ew.af rfl rfl rfl (fun w hw=>zfM ws hws _ w)) ?_;rintro _ _ ⟨rfl,rfl⟩);refine TL.run 1 rfl ?_;refine TL.aq rfl rfl rfl (fun h1=>?_) (fun h1=>?_)
 ·have p1:=h1; (try simp only [nfB] at p1);refine TL.yv (Wt.some rfl rfl rfl h1) rfl rfl (Yv.aC rfl rfl hp (by rw [List.length_map,hws]) (fun h=>h)) ?_;refine TL.yv (Wt.some rfl rfl rfl h1) rfl rfl (Yv.fieldAddr rfl rfl) ?_;refine TL.yv (Wt.some rfl rfl rfl h1) rfl rfl (Yv.ac 0 rfl rfl rfl rfl) ?_; (refine TL.ew (Wt.some rfl rfl rfl h1) rfl rfl (Ew.af rfl rfl rfl (fun w hw=>zfM ws hws _ w)) ?_;rintro _ _ ⟨rfl,rfl⟩);refine TL.y (Yv.au rfl rfl h1 rfl) ?_;refine TL.run 1 rfl ?_;refine TL.ns (T.ret ?_);refine K.ah rfl rfl (fun w' hw=>⟨?_,hw.isBelow⟩);exact zah (by simp only [*,Bool.not_true,Bool.not_false,Bool.or_false,Bool.false_or,Bool.or_true,Bool.true_or,Bool.and_false,Bool.false_and,Bool.true_and,Bool.and_true,Bool.or_self,Bool.and_self,Bool.not_not,decide_true,decide_false,not_true_eq_false,not_false_eq_true,cond_true,cond_false])
 ·have p1:=h1; (try simp only [nfB] at p1);refine TL.off (Wt.not rfl rfl rfl h1) rfl rfl ?_;refine TL.off (Wt.not rfl rfl rfl h1) rfl rfl ?_;refine TL.off (Wt.not rfl rfl rfl h1) rfl rfl ?_;refine TL.off (Wt.not rfl rfl rfl h1) rfl rfl ?_;refine TL.y (Yv.av rfl rfl h1 rfl) ?_;refine TL.run 1 rfl ?_;refine TL.ns (T.ret ?_);refine K.ah rfl rfl (fun w' hw=>⟨?_,hw.isBelow⟩);exact zah (by simp only [*,Bool.not_true,Bool.not_false,Bool.or_false,Bool.false_or,Bool.or_true,Bool.true_or,Bool.and_false,Bool.false_and,Bool.true_and,Bool.and_true,Bool.or_self,Bool.and_self,Bool.not_not,decide_true,decide_false,not_true_eq_false,not_false_eq_true,cond_true,cond_false])
theorem zic (x:Cp)(ws:Ws)(hws:ws.length=8)(p:Nat)(w:World)(hp:Cs w p 0 ws.cells):Calls Tryz.prog 92 #[.agg (Cp.cells x).toArray, .pointer (some ⟨p,0,none⟩)] w fun e w'=>e= .returned (.bool (sHas ws x.st))∧Below w.heap.size w w':=by
 refine zac (M:=fun _=>False) (hs:=[]) Tryz.func92 rfl rfl rfl (Hp.refl _ _) ?_;simp only [Cp.cells];refine T.sr ?_; (refine TL.ew (Wt.none rfl) rfl rfl (Ew.aA rfl rfl) ?_;rintro _ _ ⟨g2,rfl,rfl⟩);refine TL.run 1 rfl ?_;refine TL.nx ?_;refine TL.y (Yv.aC rfl rfl hp (by rw [List.length_map,hws]) (fun h=>h)) ?_;refine TL.y (Yv.fieldAddr rfl rfl) ?_;refine TL.y (Yv.ac 0 rfl rfl rfl rfl) ?_; (refine TL.ew (Wt.none rfl) rfl rfl (Ew.af rfl rfl rfl (fun w hw=>zfM ws hws _ w)) ?_;rintro _ _ ⟨rfl,rfl⟩);refine TL.run 1 rfl ?_;refine TL.ns (T.ret ?_);refine K.ah rfl rfl (fun w' hw=>⟨?_,hw.isBelow⟩);exact zah (by simp only [*,Bool.not_true,Bool.not_false,Bool.or_false,Bool.false_or,Bool.or_true,Bool.true_or,Bool.and_false,Bool.false_and,Bool.true_and,Bool.and_true,Bool.or_self,Bool.and_self,Bool.not_not,decide_true,decide_false,not_true_eq_false,not_false_eq_true,cond_true,cond_false])
theorem zhg (P:Pb)(vd vp vl vc:Value)(w:World)(h:ProbAt w vd vp vl vc P):Calls Tryz.prog 51 #[.agg [vd,vp,vl,vc].toArray] w fun e w'=>e= .returned (.bool P.ok)∧Below w.heap.size w w':=by
 obtain ⟨A,cap,rfl,hsl⟩:=h.ds.sl.op;obtain ⟨A1,cap1,rfl, -⟩:=h.ru.ps.op;obtain ⟨A2,cap2,rfl, -⟩:=h.ru.ls.op;obtain ⟨A3,cap3,rfl, -⟩:=h.ru.cs.op;refine zac (M:=fun _=>False) (hs:=[]) Tryz.func51 rfl rfl rfl (Hp.refl _ _) ?_;refine T.sr ?_; (refine TL.ew (Wt.none rfl) rfl rfl (Ew.aA rfl rfl) ?_;rintro _ _ ⟨g1,rfl,rfl⟩);refine TL.run 1 rfl ?_;refine TL.ns (T.seq (T.sr ?_));refine TL.y (Yv.fieldAddr rfl rfl) ?_;refine TL.y (Yv.ac 0 rfl rfl rfl rfl) ?_; (refine TL.ew (Wt.none rfl) rfl rfl (Ew.af rfl rfl rfl (fun w hw=>zk2 (q:=Dx.ok) P.ds _ 80 #[] w (h.ds.sl.kept hw) (fun k hk=>(h.ds.at hk).one) (fun k hk w1 hb=>zfU _ w1 (((h.ds.at hk).kept hw).kept (Hp.of_below hb)) (h.hch _ (zaY hk))) h.hds)) ?_;rintro _ _ ⟨rfl,rfl⟩);refine TL.run 2 rfl ?_;refine TL.aq rfl rfl rfl (fun h1=>?_) (fun h1=>?_)
 ·have p1:=h1; (try simp only [nfB] at p1);refine TL.off (Wt.not rfl rfl rfl h1) rfl rfl ?_;refine TL.off (Wt.not rfl rfl rfl h1) rfl rfl ?_;refine TL.off (Wt.not rfl rfl rfl h1) rfl rfl ?_;refine TL.off (Wt.not rfl rfl rfl h1) rfl rfl ?_;refine TL.y (Yv.au rfl rfl h1 rfl) ?_;refine TL.ns ?_;refine T.aK rfl rfl ?_;refine T.sr ?_;refine TL.run 1 rfl ?_;refine TL.ns (T.ret (K.aa ?_));refine K.ah rfl rfl (fun w' hw=>⟨?_,hw.isBelow⟩);exact zah (by simp only [Pb.ok, *,Bool.not_true,Bool.not_false,Bool.or_false,Bool.false_or,Bool.or_true,Bool.true_or,Bool.and_false,Bool.false_and,Bool.true_and,Bool.and_true,Bool.or_self,Bool.and_self,Bool.not_not,decide_true,decide_false,not_true_eq_false,not_false_eq_true,cond_true,cond_false])
 ·have p1:=h1; (try simp only [nfB] at p1);refine TL.yv (Wt.some rfl rfl rfl h1) rfl rfl (Yv.fieldAddr rfl rfl) ?_;refine TL.yv (Wt.some rfl rfl rfl h1) rfl rfl (Yv.bO 0 (m:=[.slice A1 P.ps.length cap1, .slice A2 P.ls.length cap2, .slice A3 P.cs.length cap3]) rfl rfl rfl rfl rfl) ?_; (refine TL.ew (Wt.some rfl rfl rfl h1) rfl rfl (Ew.af rfl rfl rfl (fun w hw=>zfP P _ _ _ w (h.ru.kept hw))) ?_;rintro _ _ ⟨rfl,rfl⟩);refine TL.yv (Wt.some rfl rfl rfl h1) rfl rfl (Yv.aB rfl) ?_;refine TL.y (Yv.av rfl rfl h1 rfl) ?_;refine TL.ns ?_;refine T.cond rfl (fun h2=>?_) (fun h2=>?_)
  ·have p2:=h2; (try simp only [nfB] at p2);refine T.sr ?_;refine TL.run 1 rfl ?_;refine TL.ns (T.ret (K.aa ?_));refine K.ah rfl rfl (fun w' hw=>⟨?_,hw.isBelow⟩);exact zah (by simp only [Pb.ok, *,Bool.not_true,Bool.not_false,Bool.or_false,Bool.false_or,Bool.or_true,Bool.true_or,Bool.and_false,Bool.false_and,Bool.true_and,Bool.and_true,Bool.or_self,Bool.and_self,Bool.not_not,decide_true,decide_false,not_true_eq_false,not_false_eq_true,cond_true,cond_false])
  ·have p2:=h2; (try simp only [nfB] at p2);refine T.skip (K.seq (T.sr ?_));refine TL.run 1 rfl ?_;refine TL.ns (T.seq (T.sr ?_));refine TL.y (Yv.fieldAddr rfl rfl) ?_;refine TL.y (Yv.ac 0 rfl rfl rfl rfl) ?_;refine TL.run 1 rfl ?_; (refine TL.ew (Wt.none rfl) rfl rfl (Ew.af rfl rfl rfl (fun w hw=>zgD (c:=fun a b=>cmpI a.st b.st) P.ds _ 82 w (h.ds.sl.kept hw) (fun k hk=>(h.ds.at hk).one) (fun x y hx hy w1=>zgo x y hx hy w1) h.hds)) ?_;rintro _ _ ⟨rfl,rfl⟩);refine TL.run 1 rfl ?_;refine TL.ns ?_;refine T.cond rfl (fun h3=>?_) (fun h3=>?_)
   ·have p3:=h3; (try simp only [nfB] at p3);refine T.sr ?_;refine TL.run 1 rfl ?_;refine TL.ns (T.ret (K.aa ?_));refine K.ah rfl rfl (fun w' hw=>⟨?_,hw.isBelow⟩);exact zah (by simp only [Pb.ok, *,Bool.not_true,Bool.not_false,Bool.or_false,Bool.false_or,Bool.or_true,Bool.true_or,Bool.and_false,Bool.false_and,Bool.true_and,Bool.and_true,Bool.or_self,Bool.and_self,Bool.not_not,decide_true,decide_false,not_true_eq_false,not_false_eq_true,cond_true,cond_false])
   ·have p3:=h3; (try simp only [nfB] at p3);refine T.skip (K.seq (T.sr ?_));refine TL.y (Yv.am 0 rfl rfl rfl rfl) ?_; (have hall:allB Dx.ok P.ds=true:=by assumption); (have hinc:incB (fun a b:Dx=>cmpI a.st b.st) P.ds=true:=by assumption); (have hst:∀d∈P.ds,0≤d.st∧d.st≤511:=fun d hd=>by have:=allB_mem.1 hall d hd;simp only [Dx.ok,inB,Bool.and_eq_true,decide_eq_true_eq] at this;exact this.1); (refine TL.ew (Wt.none rfl) rfl rfl (Ew.af rfl rfl rfl (fun w hw=>zhS P _ _ _ _ w (h.kept hw) (zjV hinc hall) hst)) ?_;rintro _ _ ⟨rfl,rfl⟩); (refine TL.ew (Wt.none rfl) rfl rfl (Ew.alloc rfl) ?_;rintro _ _ ⟨g4,rfl,rfl⟩); (refine TL.aF (Wt.none rfl) rfl (Ew.ak 0 rfl rfl rfl rfl (by rw [List.length_map,zbi]) (by rw [List.length_map,zbi];rfl)) ?_;rintro _ _ ⟨rfl,rfl⟩);refine TL.nx ?_;refine TL.y (Yv.fieldAddr rfl rfl) ?_;refine TL.y (Yv.fieldAddr rfl rfl) ?_;refine TL.y (Yv.ac 1 rfl rfl rfl rfl) ?_;refine TL.run 1 rfl ?_; (refine TL.ew (Wt.none rfl) rfl rfl (Ew.af rfl rfl rfl (fun w hw=>zkB (q:=fun x:Pr=>P.has x.a&&P.has x.b) P.ps _ 87 #[.pointer (some ⟨g4,0,none⟩)] w (h.ru.ps.kept hw) (fun k hk w1 hb=>zih _ _ (zbi _) _ w1 (Cs.later hb (Cs.of_row (Ent.row_ok.1 (hw.get (i:=0) rfl)) (by rw [List.drop_zero,List.take_length])))) h.ru.hps)) ?_;rintro _ _ ⟨rfl,rfl⟩);refine TL.run 1 rfl ?_;refine TL.aq rfl rfl rfl (fun h4=>?_) (fun h4=>?_)
    ·have p4:=h4; (try simp only [nfB] at p4);refine TL.yv (Wt.some rfl rfl rfl h4) rfl rfl (Yv.fieldAddr rfl rfl) ?_;refine TL.yv (Wt.some rfl rfl rfl h4) rfl rfl (Yv.fieldAddr rfl rfl) ?_;refine TL.yv (Wt.some rfl rfl rfl h4) rfl rfl (Yv.ac 1 rfl rfl rfl rfl) ?_;refine TL.yv (Wt.some rfl rfl rfl h4) rfl rfl (Yv.aB rfl) ?_; (refine TL.ew (Wt.some rfl rfl rfl h4) rfl rfl (Ew.af rfl rfl rfl (fun w hw=>zkn (q:=fun x:Ld=>P.has x.to&&P.has x.fr) P.ls _ 90 #[.pointer (some ⟨g4,0,none⟩)] w (h.ru.ls.kept hw) (fun k hk w1 hb=>zh9 _ _ (zbi _) _ w1 (Cs.later hb (Cs.of_row (Ent.row_ok.1 (hw.get (i:=0) rfl)) (by rw [List.drop_zero,List.take_length])))) h.ru.hls)) ?_;rintro _ _ ⟨rfl,rfl⟩);refine TL.y (Yv.au rfl rfl h4 rfl) ?_;refine TL.run 1 rfl ?_;refine TL.aq rfl rfl rfl (fun h5=>?_) (fun h5=>?_)
     ·have p5:=h5; (try simp only [nfB] at p5);refine TL.yv (Wt.some rfl rfl rfl h5) rfl rfl (Yv.fieldAddr rfl rfl) ?_;refine TL.yv (Wt.some rfl rfl rfl h5) rfl rfl (Yv.fieldAddr rfl rfl) ?_;refine TL.yv (Wt.some rfl rfl rfl h5) rfl rfl (Yv.ac 1 rfl rfl rfl rfl) ?_;refine TL.yv (Wt.some rfl rfl rfl h5) rfl rfl (Yv.aB rfl) ?_; (refine TL.ew (Wt.some rfl rfl rfl h5) rfl rfl (Ew.af rfl rfl rfl (fun w hw=>zjX (q:=fun x:Cp=>P.has x.st) P.cs _ 92 #[.pointer (some ⟨g4,0,none⟩)] w (h.ru.cs.kept hw) (fun k hk w1 hb=>zic _ _ (zbi _) _ w1 (Cs.later hb (Cs.of_row (Ent.row_ok.1 (hw.get (i:=0) rfl)) (by rw [List.drop_zero,List.take_length])))) h.ru.hcs)) ?_;rintro _ _ ⟨rfl,rfl⟩);refine TL.y (Yv.au rfl rfl h5 rfl) ?_;refine TL.run 1 rfl ?_;refine TL.ns (T.ret ?_);refine K.ah rfl rfl (fun w' hw=>⟨?_,hw.isBelow⟩);exact zah (by simp only [Pb.ok, *,Bool.not_true,Bool.not_false,Bool.or_false,Bool.false_or,Bool.or_true,Bool.true_or,Bool.and_false,Bool.false_and,Bool.true_and,Bool.and_true,Bool.or_self,Bool.and_self,Bool.not_not,decide_true,decide_false,not_true_eq_false,not_false_eq_true,cond_true,cond_false])
     ·have p5:=h5; (try simp only [nfB] at p5);refine TL.off (Wt.not rfl rfl rfl h5) rfl rfl ?_;refine TL.off (Wt.not rfl rfl rfl h5) rfl rfl ?_;refine TL.off (Wt.not rfl rfl rfl h5) rfl rfl ?_;refine TL.off (Wt.not rfl rfl rfl h5) rfl rfl ?_;refine TL.off (Wt.not rfl rfl rfl h5) rfl rfl ?_;refine TL.y (Yv.av rfl rfl h5 rfl) ?_;refine TL.run 1 rfl ?_;refine TL.ns (T.ret ?_);refine K.ah rfl rfl (fun w' hw=>⟨?_,hw.isBelow⟩);exact zah (by simp only [Pb.ok, *,Bool.not_true,Bool.not_false,Bool.or_false,Bool.false_or,Bool.or_true,Bool.true_or,Bool.and_false,Bool.false_and,Bool.true_and,Bool.and_true,Bool.or_self,Bool.and_self,Bool.not_not,decide_true,decide_false,not_true_eq_false,not_false_eq_true,cond_true,cond_false])
    ·have p4:=h4; (try simp only [nfB] at p4);refine TL.off (Wt.not rfl rfl rfl h4) rfl rfl ?_;refine TL.off (Wt.not rfl rfl rfl h4) rfl rfl ?_;refine TL.off (Wt.not rfl rfl rfl h4) rfl rfl ?_;refine TL.off (Wt.not rfl rfl rfl h4) rfl rfl ?_;refine TL.off (Wt.not rfl rfl rfl h4) rfl rfl ?_;refine TL.y (Yv.av rfl rfl h4 rfl) ?_;refine TL.run 8 rfl ?_;refine TL.ns (T.ret ?_);refine K.ah rfl rfl (fun w' hw=>⟨?_,hw.isBelow⟩);exact zah (by simp only [Pb.ok, *,Bool.not_true,Bool.not_false,Bool.or_false,Bool.false_or,Bool.or_true,Bool.true_or,Bool.and_false,Bool.false_and,Bool.true_and,Bool.and_true,Bool.or_self,Bool.and_self,Bool.not_not,decide_true,decide_false,not_true_eq_false,not_false_eq_true,cond_true,cond_false])
def zb5 (l:List Int):BitVec 64:=l.foldl (fun m c=>m ||| 1#64 <<< c.toNat) 0#64
theorem zii {l:List Int}{k:Nat}(h:k<l.length):zb5 (l.take (k+1))=(zb5 (l.take k) ||| 1#64 <<< (nth l k).toNat):=by
 unfold zb5;rw [List.take_succ_eq_append_getElem h,zat h,List.foldl_append];rfl
def pop1 (a:BitVec 64):BitVec 64:=((a >>> 1) &&& 6148914691236517205#64)+(a &&& 6148914691236517205#64)
def pop2 (a:BitVec 64):BitVec 64:=((a >>> 2) &&& 3689348814741910323#64)+(a &&& 3689348814741910323#64)
def pop3 (a:BitVec 64):BitVec 64:=((a >>> 4)+a) &&& 1085102592571150095#64
def pop4 (k:Nat)(a:BitVec 64):BitVec 64:=a+(a >>> k)
def zkl (a:BitVec 64):Nat:=(pop4 32 (pop4 16 (pop4 8 (pop3 (pop2 (pop1 a))))) &&& 127#64).toNat
theorem ziK (a:BitVec 64):zkl a≤127:=by
 unfold zkl;rw [BitVec.toNat_and];exact Nat.and_le_right
theorem ziQ (b:BitVec 64):BitVec.ofInt 64 (IntKind.i64.wrap (b.toNat:Int))=b:=by
 apply BitVec.eq_of_toNat_eq;rw [BitVec.toNat_ofInt,IntKind.wrap_i64];have:=b.isLt;omega
section
variable {P:Program}{n:Nat}{B D:World}{M:Nat→Prop}{fs:SFs}{hs:HS}{o:Oper}{v:Value}
theorem Yv.cu {x:Operand}{a:BitVec 64}(ho:o.op= .convert 88 3 x)(hx:ev fs x=some (U a)):Yv Tryz.prog n B M fs hs o (.int .i64 (IntKind.i64.wrap (a.toNat:Int))):=fun f w ha _=>by
 (have hr:(convert 88 3 (U a)).run Tryz.prog w= .ok (.int .i64 (IntKind.i64.wrap (a.toNat:Int))) w:=by kernel_rfl);unfold execOp;simp only [ho,ha.ev hx];rw [Sem.run_bind,hr]
 rfl
theorem Yv.cg {x:Operand}{t u:TypeId}{a:BitVec 64}(ho:o.op= .binOp .and t x (.const (.int .i64 127)) u)(hx:ev fs x=some (.int .i64 (IntKind.i64.wrap (a.toNat:Int)))):Yv P n B M fs hs o (.int .i64 ((a &&& 127#64).toNat:Int)):=fun f w ha _=>by
 have hr:(binOp .and t (.int .i64 (IntKind.i64.wrap (a.toNat:Int))) (.int .i64 127)).run P w= .ok (.int .i64 ((a &&& 127#64).toNat:Int)) w:=by
  have e:(binOp .and t (.int .i64 (IntKind.i64.wrap (a.toNat:Int))) (.int .i64 127)).run P w= .ok (.int .i64 (IntKind.i64.wrap ((BitVec.ofInt 64 (IntKind.i64.wrap (a.toNat:Int)) &&& BitVec.ofInt 64 127).toNat:Int))) w:=rfl; (have hle:(a &&& 127#64).toNat≤127:=by rw [BitVec.toNat_and];exact Nat.and_le_right);rw [e,ziQ,show BitVec.ofInt 64 127=127#64 from rfl,IntWalk.i64_in _ ⟨by omega,by omega⟩]
 unfold execOp;simp only [ho,ha.ev hx,ha.ev (x:= .const (.int .i64 127)) rfl];rw [Sem.run_bind,Sem.run_bind,show (eqGuard .and t x (.const (.int .i64 127)) (.int .i64 (IntKind.i64.wrap (a.toNat:Int))) (.int .i64 127)).run P w= .ok () w from rfl];simp only [Result.andThen,hr]
 rfl
end
theorem zln (a:BitVec 64)(w:World):Calls Tryz.prog 134 #[U a] w fun e w'=>e= .returned (.int .i64 (zkl a:Int))∧Below w.heap.size w w':=by
 refine zac (M:=fun _=>False) (hs:=[]) Tryz.func134 rfl rfl rfl (Hp.refl _ _) ?_;refine T.sr ?_;refine TL.run 1 rfl ?_;refine TL.nx ?_;refine TL.run 1 rfl ?_;refine TL.y (Yv.bf 1 rfl rfl rfl rfl (by decide)) ?_;refine TL.y (Yv.be (b:=6148914691236517205#64) rfl rfl rfl) ?_;refine TL.run 1 rfl ?_;refine TL.y (Yv.be (b:=6148914691236517205#64) rfl rfl rfl) ?_;refine TL.y (Yv.by rfl rfl rfl) ?_;refine TL.run 1 rfl ?_;refine TL.nx ?_;refine TL.run 1 rfl ?_;refine TL.y (Yv.bf 2 rfl rfl rfl rfl (by decide)) ?_;refine TL.y (Yv.be (b:=3689348814741910323#64) rfl rfl rfl) ?_;refine TL.run 1 rfl ?_;refine TL.y (Yv.be (b:=3689348814741910323#64) rfl rfl rfl) ?_;refine TL.y (Yv.by rfl rfl rfl) ?_;refine TL.run 1 rfl ?_;refine TL.nx ?_;refine TL.run 1 rfl ?_;refine TL.y (Yv.bf 4 rfl rfl rfl rfl (by decide)) ?_;refine TL.run 1 rfl ?_;refine TL.y (Yv.by rfl rfl rfl) ?_;refine TL.y (Yv.be (b:=1085102592571150095#64) rfl rfl rfl) ?_;refine TL.run 1 rfl ?_;refine TL.nx ?_;refine TL.run 2 rfl ?_;refine TL.y (Yv.bf 8 rfl rfl rfl rfl (by decide)) ?_;refine TL.y (Yv.by rfl rfl rfl) ?_;refine TL.run 1 rfl ?_;refine TL.nx ?_;refine TL.run 2 rfl ?_;refine TL.y (Yv.bf 16 rfl rfl rfl rfl (by decide)) ?_;refine TL.y (Yv.by rfl rfl rfl) ?_;refine TL.run 1 rfl ?_;refine TL.nx ?_;refine TL.run 2 rfl ?_;refine TL.y (Yv.bf 32 rfl rfl rfl rfl (by decide)) ?_;refine TL.y (Yv.by rfl rfl rfl) ?_;refine TL.run 1 rfl ?_;refine TL.nx ?_;refine TL.run 1 rfl ?_;refine TL.y (Yv.cu rfl rfl) ?_;refine TL.y (Yv.cg rfl rfl) ?_;refine TL.run 1 rfl ?_;refine TL.ns (T.ret ?_);refine K.ah rfl rfl (fun w' hw=>⟨?_,hw.isBelow⟩)
 rfl
theorem zkc (a:BitVec 64)(ha:a≠0#64)(w:World)(ht:Tab w):Calls Tryz.prog 103 #[U a] w fun e w'=>e= .returned (.int .i64 (ctz a:Int))∧Below w.heap.size w w':=by
 obtain ⟨hi,htab⟩:=zmC ha;have hcell:=ht _ hi;rw [htab] at hcell;have hlt:=zf6 ha;refine zac (M:=fun _=>False) (hs:=[]) Tryz.func103 rfl rfl rfl (Hp.refl _ _) ?_;refine T.sr ?_;refine TL.run 1 rfl ?_;refine TL.ns (T.seq (T.sr ?_));refine TL.run 2 rfl ?_;refine TL.ns ?_;refine T.aJ rfl (by rw [zl8];exact decide_eq_false ha) ?_;refine T.skip (K.seq (T.sr ?_));refine TL.run 2 rfl ?_;refine TL.y (Yv.cA rfl rfl) ?_;refine TL.y (Yv.be rfl rfl rfl) ?_;refine TL.y (Yv.cz (b:=285870213051353865#64) rfl rfl rfl) ?_;refine TL.y (Yv.bf 58 rfl rfl rfl rfl (by decide)) ?_;refine TL.y (Yv.ay rfl rfl rfl rfl (by omega)) ?_;refine TL.y (Yv.aw rfl rfl (by rw [show ∀x:Nat,0+x*1=x from fun x=>by omega];exact hcell) (fun h=>h)) ?_;refine TL.y (Yv.cr rfl rfl (by first|exact IntWalk.i64_in _ (by omega)|exact IntWalk.u64_in _ (by omega)|exact IntWalk.u8_in _ (by omega))) ?_;refine TL.run 1 rfl ?_;refine TL.ns (T.ret ?_);refine K.ah rfl rfl (fun w' hw=>⟨?_,hw.isBelow⟩)
 rfl
theorem zlo (l:List Int)(v:Value)(w:World)(h:zfz w v l)(hl:l.length≤9223372036854775807)(hr:∀x∈l,2≤x∧x≤51):Calls Tryz.prog 63 #[v] w fun e w'=>e= .returned (U (zb5 l))∧Below w.heap.size w w':=by
 obtain ⟨A,cap,rfl,hsl⟩:=h.op;refine zac (M:=fun _=>False) (hs:=[]) Tryz.func63 rfl rfl rfl (Hp.refl _ _) ?_;refine T.sr ?_;refine TL.run 1 rfl ?_;refine TL.nx ?_;refine TL.run 1 rfl ?_;refine TL.ns (T.seq (T.sr ?_));refine TL.run 1 rfl ?_;refine TL.y (Yv.ax rfl rfl) ?_;refine TL.run 1 rfl ?_;refine TL.ns (T.block ?_);refine T.loop (ι:=Nat) (fun k=>[(3,U (zb5 (l.take k))),(6, .slice A l.length cap),(7, .int .i64 (l.length:Int)),(8, .int .i64 (k:Int))]) (fun k=>[]) (fun k=>k≤l.length) (fun k=>l.length - k) 0 ?_ ?_ ?_ ?_
 ·omega
 ·exact (by repeat (first|exact Sub.nil|refine Sub.cons rfl ?_))
 ·exact Sx
 ·intro k hphi;refine T.sr ?_;refine TL.run 1 rfl ?_;refine TL.ns (T.seq ?_);refine T.cond rfl (fun h1=>?_) (fun h1=>?_)
  ·have p1:=h1; (try simp only [nfB] at p1);obtain ⟨g,off,rfl,hc⟩:=hsl (by omega);have hk:=hc k (by omega);simp only [Ie] at hk;have hr1:=hr _ (zaY (xs:=l) (k:=k) (by omega));refine T.skip (K.seq (T.seq (T.block (T.sr ?_))));refine TL.y (Yv.ai rfl rfl rfl rfl (by omega)) ?_;refine TL.y (Yv.loadC (j:=0) rfl rfl hk rfl rfl (fun h=>h)) ?_;refine TL.run 1 rfl ?_;refine TL.ns (T.region ?_);refine TL.run 2 rfl ?_;refine TL.y (Yv.bi (a:=1#64) (nth l k).toNat rfl rfl rfl (by omega) (by omega)) ?_;refine TL.y (Yv.orV rfl rfl rfl) ?_;refine TL.run 1 rfl ?_;refine TL.nil (K.ad (K.seq (T.region ?_)));refine TL.y (Yv.an rfl rfl rfl (by omega)) ?_;refine TL.run 1 rfl ?_;refine TL.nil ?_;exact K.next (k+1) (by omega) (by omega) (by rw [zii (by omega)];exact (by repeat (first|exact Sub.nil|refine Sub.cons rfl ?_))) Sx
  ·have p1:=h1; (try simp only [nfB] at p1);refine T.exit (K.ab (K.ab (K.ae (K.seq (T.sr ?_)))));refine TL.run 2 rfl ?_;refine TL.ns (T.ret ?_);exact K.ah rfl rfl (fun w' hw=>⟨by rw [List.take_of_length_le (by omega)],hw.isBelow⟩)
def slen (ws:Ws)(k:Nat):Nat:=((ws.take k).map zkl).sum
theorem zhK {ws:Ws}{k:Nat}(h:k<ws.length):slen ws (k+1)=slen ws k+zkl (nth ws k):=by
 unfold slen;rw [List.take_succ_eq_append_getElem h,zat h,List.map_append,List.sum_append];simp
theorem zhP (ws:Ws):∀k,slen ws k≤127*k
 |0=>by simp [slen]
 |k+1=>by
  have:=zhP ws k;rcases Nat.lt_or_ge k ws.length with h|h
  ·rw [zhK h];have:=ziK (nth ws k);omega
  ·unfold slen at *;rw [List.take_of_length_le (by omega)] at *;omega
@[irreducible] def memF (ws:Ws) (i:Nat):List Nat:=(List.range' i (512 - i)).filter (sBit ws)
abbrev memN (ws:Ws):List Nat:=memF ws 0
def zgQ:List Nat→Int
 | []=> -1
 |x :: _=>(x:Int)
theorem zfl {ws:Ws}{i:Nat}(h:∀j,i≤j→j<512→sBit ws j=false):memF ws i=[]:=by
 unfold memF;rw [List.filter_eq_nil_iff];intro j hj;obtain ⟨h1,h2⟩:=List.mem_range'_1.1 hj;rw [h j h1 (by omega)];simp
theorem zhe {ws:Ws}{i r:Nat}(hi:i≤r)(hr:r<512)(hb:sBit ws r=true)(h:∀j,i≤j→j<r→sBit ws j=false):memF ws i=r :: memF ws (r+1):=by
 unfold memF
 have e:List.range' i (512 - i)=List.range' i (r - i)++(r :: List.range' (r+1) (512 - (r+1))):=by
  rw [show r :: List.range' (r+1) (512 - (r+1))=List.range' r (512 - r) from by rw [show 512 - r=(512 - (r+1))+1 by omega,List.range'_succ]];have:=List.range'_append (s:=i) (m:=r - i) (n:=512 - r) (step:=1);rw [Nat.one_mul,show i+(r - i)=r by omega,show r - i+(512 - r)=512 - i by omega] at this;exact this.symm
 rw [e,List.filter_append,List.filter_cons_of_pos (by simpa using hb)]
 have:(List.range' i (r - i)).filter (sBit ws)=[]:=by
  rw [List.filter_eq_nil_iff];intro j hj;obtain ⟨h1,h2⟩:=List.mem_range'_1.1 hj;rw [h j h1 (by omega)];simp
 rw [this];rfl
theorem memF_mem {ws:Ws}{i j:Nat}:j∈memF ws i↔i≤j∧j<512∧sBit ws j=true:=by
 unfold memF;rw [List.mem_filter,List.mem_range'_1];constructor
 ·rintro ⟨⟨h1,h2⟩,h3⟩;exact ⟨h1,by omega,h3⟩
 ·rintro ⟨h1,h2,h3⟩;exact ⟨⟨h1,by omega⟩,h3⟩
theorem zjS {ws:Ws}{i h:Nat}{t:List Nat}(e:memF ws i=h :: t):i≤h∧h<512∧t=memF ws (h+1):=by
 have hm:=memF_mem.1 (show h∈memF ws i by rw [e];simp)
 have hs:memF ws i=h :: memF ws (h+1):=zhe hm.1 hm.2.1 hm.2.2 (fun j h1 h2=>by
  cases hb:sBit ws j with
  |false=>rfl
  |true=>
   have hj:j∈memF ws i:=memF_mem.2 ⟨h1,by omega,hb⟩; (have hsort:(memF ws i).Pairwise (· < ·):=by unfold memF;exact List.Pairwise.filter _ List.pairwise_lt_range');rw [e] at hj hsort;rcases List.mem_cons.1 hj with hj|hj
   ·omega
   ·have:=(List.pairwise_cons.1 hsort).1 j hj;omega)
 rw [e] at hs;exact ⟨hm.1,hm.2.1,(List.cons.inj hs).2⟩
theorem ze4 (ws:Ws)(i:Nat):(memF ws i).length≤512:=by
 unfold memF;have:=List.length_filter_le (sBit ws) (List.range' i (512 - i));rw [List.length_range'] at this;omega
theorem zmi (a:BitVec 64)(k j:Nat)(hj:j<64):((a >>> k) <<< k).getLsbD j=(a.getLsbD j&&decide (k≤j)):=by
 rw [BitVec.getLsbD_shiftLeft,BitVec.getLsbD_ushiftRight];by_cases h:j<k
 ·simp [h]
 ·rw [show k+(j - k)=j by omega];simp [hj,h];intro _;omega
structure NxInv (ws:Ws) (i at':Nat) (b:BitVec 64):Prop where
 lt:at'<8
 ge:i<64* (at'+1)
 bit:∀j,j<64→b.getLsbD j=(sBit ws (64*at'+j)&&decide (i≤64*at'+j))
 none:∀j,i≤j→j<64*at'→sBit ws j=false
theorem NxInv.start {ws:Ws}{i:Nat}(hi:i<512):NxInv ws i (i / 64) ((nth ws (i / 64) >>> (i % 64)) <<< (i % 64)) where
 lt:=by omega
 ge:=by omega
 bit j hj:=by
  rw [zmi _ _ _ hj];unfold sBit;rw [show (64* (i / 64)+j) / 64=i / 64 by omega,show (64* (i / 64)+j) % 64=j by omega]
  congr 1
  exact decide_eq_decide.2 (by omega)
 none j h1 h2:=by omega
theorem NxInv.next {ws:Ws}{i a:Nat}(h:NxInv ws i a 0#64)(ha:a+1<8):NxInv ws i (a+1) (nth ws (a+1)) where
 lt:=ha
 ge:=by have:=h.ge;omega
 bit j hj:=by
  have:=h.ge;unfold sBit;rw [show (64* (a+1)+j) / 64=a+1 by omega,show (64* (a+1)+j) % 64=j by omega,decide_eq_true (by omega),Bool.and_true]
 none j h1 h2:=by
  rcases Nat.lt_or_ge j (64*a) with hj|hj
  ·exact h.none j h1 hj
  ·have:=h.bit (j - 64*a) (by omega);rw [show 64*a+(j - 64*a)=j by omega,decide_eq_true h1,Bool.and_true,BitVec.getLsbD_zero] at this;exact this.symm
theorem NxInv.found {ws:Ws}{i a:Nat}{b:BitVec 64}(h:NxInv ws i a b)(hb:b≠0#64):memF ws i=(64*a+ctz b) :: memF ws (64*a+ctz b+1):=by
 have hc:=zf6 hb;have h1:=(zdC hb 0).1;rw [h.bit _ hc] at h1;simp only [Bool.and_eq_true,decide_eq_true_eq] at h1;have:=h.lt;refine zhe h1.2 (by omega) h1.1 (fun j hi hj=>?_);rcases Nat.lt_or_ge j (64*a) with hj2|hj2
 ·exact h.none j hi hj2
 ·have h2:=(zdC hb (j - 64*a)).2 (by omega);rw [h.bit _ (by omega),show 64*a+(j - 64*a)=j by omega,decide_eq_true hi,Bool.and_true] at h2;exact h2
theorem NxInv.over {ws:Ws}{i a:Nat}(h:NxInv ws i a 0#64)(ha:a+1=8):memF ws i=[]:=zfl fun j h1 h2=>by
 rcases Nat.lt_or_ge j (64*a) with hj2|hj2
 ·exact h.none j h1 hj2
 ·have h3:=h.bit (j - 64*a) (by omega);rw [show 64*a+(j - 64*a)=j by omega,decide_eq_true h1,Bool.and_true,BitVec.getLsbD_zero] at h3;exact h3.symm
theorem zhm (ws:Ws):∀(k i:Nat),k<(memF ws i).length→memF ws (nth (memF ws i) k+1)=(memF ws i).drop (k+1)
 |k,i,hk=>by
  cases e:memF ws i with
  |nil=>rw [e] at hk;simp at hk
  |cons h t=>
   obtain ⟨h1,h2,h3⟩:=zjS e
   cases k with
   |zero=>simp [nth,h3]
   |succ k=>
    rw [e] at hk;subst h3;have:=zhm ws k (h+1) (by simpa using hk);simpa [nth] using this
theorem zf2 {xs:List Nat}{k:Nat}(h:k<xs.length):zgQ (xs.drop k)=((nth xs k:Nat):Int):=by
 rw [List.drop_eq_getElem_cons h,zat h];rfl
theorem zjP {xs:List Nat}{k:Nat}(h:zgQ (xs.drop k)<0):xs.length≤k:=by
 rcases Nat.lt_or_ge k xs.length with hk|hk
 ·rw [zf2 hk] at h;omega
 ·exact hk
theorem zkA {xs:List Nat}{k:Nat}(h:0≤zgQ (xs.drop k)):k<xs.length:=by
 rcases Nat.lt_or_ge k xs.length with hk|hk
 ·exact hk
 ·rw [List.drop_eq_nil_of_le hk] at h;simp [zgQ] at h
theorem zlN {α:Type}[Inhabited α]{xs:List α}{k:Nat}(h:k<xs.length):xs[k]?=some (nth xs k):=by rw [zat h];exact List.getElem?_eq_getElem h
theorem zl7 {α:Type}[Inhabited α]{xs:List α}{k:Nat}{x:α}(h:xs[k]?=some x):k<xs.length∧x=nth xs k:=by
 obtain ⟨h1,h2⟩:=List.getElem?_eq_some_iff.1 h;exact ⟨h1,by rw [zat h1,h2]⟩
def nums (l:List Nat):List Value:=l.map fun j:Nat=> .int .i64 (j:Int)
theorem zj0 {l:List Nat}{k:Nat}(h:k<l.length):nums (l.take (k+1))=nums (l.take k)++[.int .i64 ((nth l k:Nat):Int)]:=by
 unfold nums;rw [List.take_succ_eq_append_getElem h,zat h,List.map_append];rfl
theorem zjR (l:List Nat):nums l=(l.map fun j:Nat=>(j:Int)).flatMap Ie:=by
 unfold nums
 induction l with
 |nil=>rfl
 |cons x r ih=>simp_all [Ie]
@[irreducible] def chansN (m:BitVec 64):List Nat:=(List.range' 0 64).filter m.getLsbD
theorem zd1 {m:BitVec 64}(h:m≠0#64):chansN m=ctz m :: chansN (m &&& (m - 1#64)):=by
 have hc:=zf6 h
 have e:List.range' 0 64=List.range' 0 (ctz m)++(ctz m :: List.range' (ctz m+1) (64 - (ctz m+1))):=by
  rw [show ctz m :: List.range' (ctz m+1) (64 - (ctz m+1))=List.range' (ctz m) (64 - ctz m) from by rw [show 64 - ctz m=(64 - (ctz m+1))+1 by omega,List.range'_succ]];have:=List.range'_append (s:=0) (m:=ctz m) (n:=64 - ctz m) (step:=1);rw [Nat.one_mul,Nat.zero_add,show ctz m+(64 - ctz m)=64 by omega] at this;exact this.symm
 have z:∀f:Nat→Bool,(∀j,j<ctz m→f j=false)→(List.range' 0 (ctz m)).filter f=[]:=fun f hf=>by
  rw [List.filter_eq_nil_iff];intro j hj;obtain ⟨_,h2⟩:=List.mem_range'_1.1 hj;rw [hf j (by omega)];simp
 unfold chansN;rw [e,List.filter_append,List.filter_append,z _ (fun j hj=>(zdC h j).2 hj),z _ (fun j hj=>by rw [zeO h,(zdC h j).2 hj];rfl),List.filter_cons_of_pos (by simpa using (zdC h 0).1),List.filter_cons_of_neg (by rw [zeO h];simp)];simp only [List.nil_append]
 congr 1
 apply List.filter_congr;intro j hj;obtain ⟨h1,_⟩:=List.mem_range'_1.1 hj;rw [zeO h,decide_eq_false (by omega)];simp
theorem ziU (m:BitVec 64):(chansN m).length≤64:=by
 unfold chansN;have:=List.length_filter_le m.getLsbD (List.range' 0 64);rw [List.length_range'] at this;exact this
theorem zhL:chansN 0#64=[]:=by
 unfold chansN;rw [List.filter_eq_nil_iff];intro j _;simp
theorem zlQ (ws:Ws)(hws:ws.length=8)(w:World):Calls Tryz.prog 122 #[.agg ws.cells.toArray] w fun e w'=>e= .returned (.int .i64 (slen ws 8:Int))∧Below w.heap.size w w':=by
 refine zac (M:=fun _=>False) (hs:=[]) Tryz.func122 rfl rfl rfl (Hp.refl _ _) ?_;refine T.sr ?_; (refine TL.ew (Wt.none rfl) rfl rfl (Ew.aA rfl rfl) ?_;rintro _ _ ⟨g1,rfl,rfl⟩);refine TL.run 1 rfl ?_;refine TL.nx ?_;refine TL.run 1 rfl ?_;refine TL.ns (T.seq (T.sr ?_));refine TL.y (Yv.fieldAddr rfl rfl) ?_;refine TL.y (Yv.am 0 rfl rfl rfl (by rw [List.length_map,hws])) ?_;refine TL.run 1 rfl ?_;refine TL.ns (T.block ?_);refine T.loop (ι:=Nat) (fun k=>[(3, .int .i64 (slen ws k:Int)),(7, .agg ws.cells.toArray),(8, .int .i64 (k:Int))]) (fun k=>[]) (fun k=>k≤8) (fun k=>8 - k) 0 ?_ ?_ ?_ ?_
 ·omega
 ·exact (by repeat (first|exact Sub.nil|refine Sub.cons rfl ?_))
 ·exact Sx
 ·intro k hphi;have hle:=zhP ws k;refine T.sr ?_;refine TL.run 1 rfl ?_;refine TL.ns (T.seq ?_);refine T.cond rfl (fun h1=>?_) (fun h1=>?_)
  ·have p1:=h1; (try simp only [nfB] at p1);have hld:=Ws.get (ws:=ws) (i:=k) (p:=k) (by omega) rfl;have hp8:=ziK (nth ws k);refine T.skip (K.seq (T.seq (T.block (T.sr ?_))));refine TL.y (Yv.bQ rfl rfl rfl rfl (by omega) hld) ?_;refine TL.run 1 rfl ?_;refine TL.ns (T.region ?_);refine TL.run 2 rfl ?_; (refine TL.ew (Wt.none rfl) rfl rfl (Ew.af rfl rfl rfl (fun w hw=>zln _ w)) ?_;rintro _ _ ⟨rfl,rfl⟩);refine TL.y (Yv.an rfl rfl rfl (by omega)) ?_;refine TL.run 1 rfl ?_;refine TL.nil (K.ad (K.seq (T.region ?_)));refine TL.y (Yv.an rfl rfl rfl (by omega)) ?_;refine TL.run 1 rfl ?_;refine TL.nil ?_;exact K.next (k+1) (by omega) (by omega) (by repeat (first|exact Sub.nil|refine Sub.cons rfl ?_|(refine Sub.consI rfl (by rw [zhK (by omega)];omega) ?_))) Sx
  ·have p1:=h1; (try simp only [nfB] at p1);refine T.exit (K.ab (K.ab (K.ae (K.seq (T.sr ?_)))));refine TL.run 2 rfl ?_;refine TL.ns (T.ret ?_);exact K.ah rfl rfl (fun w' hw=>⟨zcE (by rw [show k=8 by omega]),hw.isBelow⟩)
theorem zmf (ws:Ws)(hws:ws.length=8)(i:Nat)(hi:i<512)(w:World):Calls Tryz.prog 125 #[.agg ws.cells.toArray, .int .i64 (i:Int)] w fun e w'=>e= .returned (.tuple #[.agg (Ws.cells (sAdd ws i)).toArray, .int .i64 0])∧Below w.heap.size w w':=by
 have hld:=Ws.get (ws:=ws) (i:=i / 64) (p:=0+0+i / 64*1) (by omega) (by omega);refine zac (M:=fun _=>False) (hs:=[]) Tryz.func125 rfl rfl rfl (Hp.refl _ _) ?_;refine T.sr ?_; (refine TL.ew (Wt.none rfl) rfl rfl (Ew.aA rfl rfl) ?_;rintro _ _ ⟨g2,rfl,rfl⟩); (refine TL.ew (Wt.none rfl) rfl rfl (Ew.alloc rfl) ?_;rintro _ _ ⟨g4,rfl,rfl⟩);refine TL.run 1 rfl ?_;refine TL.ns (T.seq (T.sr ?_));refine TL.run 1 rfl ?_; (refine TL.ew (Wt.none rfl) rfl rfl (Ew.af rfl rfl rfl (fun w hw=>zdZ _ _)) ?_;rintro _ _ ⟨rfl,rfl⟩);refine TL.run 1 rfl ?_;refine TL.ns ?_;refine T.aJ rfl (by rw [inB,decide_eq_true (show (0:Int)≤(i:Int) by omega),decide_eq_true (show (i:Int)≤511 by omega)];rfl) ?_;refine T.skip (K.seq (T.seq ?_));refine T.as (.still 0 (.still 1 (.still 2 (.still 3 (.still 5 (.still 6 (.still 7 (.still 9 (.eff 4 (.still 8 (.still 10 (.eff 11 .done)))))))))))) [.row g4 143 (Ws.cells sNil)] (by kernel_rfl) Sx ?_;refine TS.run 1 rfl ?_;refine TS.y rfl (Yv.bN rfl rfl rfl (by omega)) ?_;refine TS.y rfl (Yv.fieldAddr rfl rfl) ?_;refine TS.y rfl (Yv.ay rfl rfl rfl (show (i:Int) / 64=((i / 64:Nat):Int) from by omega) (by omega)) ?_;refine TS.run 1 rfl ?_;refine TS.y rfl (Yv.bF rfl rfl rfl (by omega)) ?_;refine TS.y rfl (Yv.bi (a:=1#64) (i % 64) rfl rfl rfl (by omega) (by omega)) ?_;refine TS.y rfl (Yv.fieldAddr rfl rfl) ?_;refine TS.eff ?_;refine TSo.yv rfl (Wt.none rfl) rfl rfl (Yv.ac 1 rfl rfl rfl hld) Sx ?_;refine TS.y rfl (Yv.orV rfl rfl rfl) ?_;refine TS.y rfl (Yv.ay rfl rfl rfl (show (i:Int) / 64=((i / 64:Nat):Int) from by omega) (by omega)) ?_;refine TS.eff ?_; (refine TSo.aF rfl (Wt.none rfl) rfl (Ew.aT 1 (Ws.cells (sAdd ws i)) rfl rfl rfl rfl (by rw [List.length_map,hws];omega) (Ws.put (by omega))) ?_;rintro _ _ ⟨rfl,rfl⟩;refine ⟨Sx,?_⟩);refine TS.done ?_;refine K.seq (T.sr ?_);refine TL.y (Yv.am 1 rfl rfl rfl (by rw [List.length_map,zbG,hws])) ?_; (refine TL.aF (Wt.none rfl) rfl (Ew.ak 0 rfl rfl rfl rfl (by rw [List.length_map,zbG,hws]) (by rw [List.length_map,zbG,hws];rfl)) ?_;rintro _ _ ⟨rfl,rfl⟩);refine TL.run 1 rfl ?_;refine TL.ns (T.ret ?_);exact K.bu 0 rfl rfl rfl rfl (by rw [List.length_map,zbG,hws]) (fun w' hw=>⟨rfl,hw.isBelow⟩)
theorem ziG (ws:Ws)(hws:ws.length=8)(i:Nat)(z:Int)(hz:z=(i:Int))(w:World)(ht:Tab w):Calls Tryz.prog 137 #[.agg ws.cells.toArray, .int .i64 z] w fun e w'=>e= .returned (.int .i64 (zgQ (memF ws i)))∧Below w.heap.size w w':=by
 subst hz;refine zac (M:=fun _=>False) (hs:=[]) Tryz.func137 rfl rfl rfl (Hp.refl _ _) ?_;refine T.sr ?_; (refine TL.ew (Wt.none rfl) rfl rfl (Ew.aA rfl rfl) ?_;rintro _ _ ⟨g2,rfl,rfl⟩);refine TL.run 1 rfl ?_;refine TL.ns (T.seq (T.sr ?_));refine TL.run 2 rfl ?_;refine TL.ns ?_;refine T.aJ rfl (decide_eq_false (by omega)) ?_;refine T.skip (K.seq (T.seq (T.sr ?_)));refine TL.run 2 rfl ?_;refine TL.ns ?_;refine T.cond rfl (fun h1=>?_) (fun h1=>?_)
 ·have p1:=h1; (try simp only [nfB] at p1);refine T.sr ?_;refine TL.run 1 rfl ?_;refine TL.ns (T.ret (K.aa ?_));exact K.ah rfl rfl (fun w' hw=>⟨zcE (by rw [zfl (fun j h1 h2=>by omega)];rfl),hw.isBelow⟩)
 ·have p1:=h1; (try simp only [nfB] at p1);have hld:=Ws.get (ws:=ws) (i:=i / 64) (p:=0+0+i / 64*1) (by omega) (by omega);refine T.skip (K.seq (T.sr ?_));refine TL.run 1 rfl ?_;refine TL.y (Yv.bN rfl rfl rfl (by omega)) ?_;refine TL.run 1 rfl ?_;refine TL.nx ?_;refine TL.run 1 rfl ?_;refine TL.y (Yv.fieldAddr rfl rfl) ?_;refine TL.y (Yv.ay rfl rfl rfl (show (i:Int) / 64=((i / 64:Nat):Int) from by omega) (by omega)) ?_;refine TL.y (Yv.ac 0 rfl rfl rfl hld) ?_;refine TL.run 1 rfl ?_;refine TL.y (Yv.bF rfl rfl rfl (by omega)) ?_;refine TL.y (Yv.bf (i % 64) rfl rfl rfl (by omega) (by omega)) ?_;refine TL.run 1 rfl ?_;refine TL.y (Yv.bF rfl rfl rfl (by omega)) ?_;refine TL.y (Yv.bi (i % 64) rfl rfl rfl (by omega) (by omega)) ?_;refine TL.run 1 rfl ?_;refine TL.ns (T.seq (T.block ?_));refine T.loop (ι:=Nat×BitVec 64) (fun x=>[(2, .pointer (some ⟨g2,0,none⟩)),(5, .int .i64 (x.1:Int)),(6,U x.2)]) (fun x=>[.row g2 143 ws.cells]) (fun x=>NxInv ws i x.1 x.2) (fun x=>8 - x.1) (i / 64,(nth ws (i / 64) >>> (i % 64)) <<< (i % 64)) ?_ ?_ ?_ ?_
  ·exact NxInv.start (by omega)
  ·exact (by repeat (first|exact Sub.nil|refine Sub.cons rfl ?_|(refine Sub.consI rfl (by omega) ?_)))
  ·exact Sx
  ·intro x hphi;obtain ⟨a,b⟩:=x;dsimp only at hphi ⊢;have hlt0:=hphi.lt;refine T.seq (T.sr ?_);refine TL.run 2 rfl ?_;refine TL.ns ?_;refine T.cond rfl (fun h2=>?_) (fun h2=>?_)
   ·have p2:=h2; (try simp only [nfB] at p2); (have hb0:b=0#64:=by rw [zl8] at h2;exact of_decide_eq_true h2);subst hb0;refine T.skip (K.seq (T.block (T.sr ?_)));refine TL.run 1 rfl ?_;refine TL.y (Yv.an rfl rfl rfl (by omega)) ?_;refine TL.run 1 rfl ?_;refine TL.ns (T.seq (T.sr ?_));refine TL.run 2 rfl ?_;refine TL.ns ?_;refine T.cond rfl (fun h3=>?_) (fun h3=>?_)
    ·have p3:=h3; (try simp only [nfB] at p3);refine T.sr ?_;refine TL.run 1 rfl ?_;refine TL.ns (T.ret (K.aa (K.ag (K.aa (K.ag (K.aa ?_))))));exact K.ah rfl rfl (fun w' hw=>⟨zcE (by rw [hphi.over (by omega)];rfl),hw.isBelow⟩)
    ·have p3:=h3; (try simp only [nfB] at p3);have hlt8:=hphi.lt;have hld:=Ws.get (ws:=ws) (i:=a+1) (p:=0+0+(a+1) *1) (by omega) (by omega);refine T.skip (K.seq (T.region ?_));refine TL.run 1 rfl ?_;refine TL.y (Yv.fieldAddr rfl rfl) ?_;refine TL.y (Yv.ay rfl rfl rfl (show (a:Int)+1=((a+1:Nat):Int) from by omega) (by omega)) ?_;refine TL.y (Yv.ac 0 rfl rfl rfl hld) ?_;refine TL.run 1 rfl ?_;refine TL.nil (K.ad ?_);exact K.next (a+1,nth ws (a+1)) (hphi.next (by omega)) (by show 8 - (a+1)<8 - a;omega) (by repeat (first|exact Sub.nil|refine Sub.cons rfl ?_|(refine Sub.consI rfl (by omega) ?_))) Sx
   ·have p2:=h2; (try simp only [nfB] at p2); (have hb0:b≠0#64:=by rw [zl8] at h2;exact of_decide_eq_false h2);have hcz:=zf6 hb0;have hlt8:=hphi.lt;refine T.exit (K.ab (K.ab (K.ae (K.seq (T.sr ?_)))));refine TL.run 1 rfl ?_;refine TL.y (Yv.cx rfl rfl rfl (by omega)) ?_;refine TL.run 1 rfl ?_; (refine TL.ew (Wt.none rfl) rfl rfl (Ew.af rfl rfl rfl (fun w hw=>zkc b hb0 w (ht.keptF hw))) ?_;rintro _ _ ⟨rfl,rfl⟩);refine TL.y (Yv.an rfl rfl rfl (by omega)) ?_;refine TL.run 1 rfl ?_;refine TL.ns (T.ret ?_);exact K.ah rfl rfl (fun w' hw=>⟨zcE (by rw [hphi.found hb0];simp only [zgQ];omega),hw.isBelow⟩)
theorem zma (ws:Ws)(hws:ws.length=8)(w:World)(ht:Tab w):Calls Tryz.prog 136 #[.agg ws.cells.toArray] w fun e w'=>e= .returned (.int .i64 (zgQ (memN ws)))∧Below w.heap.size w w':=by
 refine zac (M:=fun _=>False) (hs:=[]) Tryz.func136 rfl rfl rfl (Hp.refl _ _) ?_;refine T.sr ?_; (refine TL.ew (Wt.none rfl) rfl rfl (Ew.aA rfl rfl) ?_;rintro _ _ ⟨g1,rfl,rfl⟩);refine TL.run 1 rfl ?_;refine TL.nx ?_;refine TL.y (Yv.am 0 rfl rfl rfl (by rw [List.length_map,hws])) ?_; (refine TL.ew (Wt.none rfl) rfl rfl (Ew.af rfl rfl rfl (fun w hw=>ziG ws hws 0 0 rfl w (ht.keptF hw))) ?_;rintro _ _ ⟨rfl,rfl⟩);refine TL.run 1 rfl ?_;refine TL.ns (T.ret ?_);refine K.ah rfl rfl (fun w' hw=>⟨?_,hw.isBelow⟩)
 rfl
theorem zlI (ws:Ws)(hws:ws.length=8)(w:World):Calls Tryz.prog 123 #[.agg ws.cells.toArray] w fun e w'=>∃x:Nat,True∧e= .returned (.func (.func 135) #[] #[.pointer (some ⟨x,0,none⟩)])∧Hp w (fun _=>False) [.row x 143 ws.cells] w':=by
 refine zac (M:=fun _=>False) (hs:=[]) Tryz.func123 rfl rfl rfl (Hp.refl _ _) ?_;refine T.sr ?_; (refine TL.ew (Wt.none rfl) rfl rfl (Ew.aA rfl rfl) ?_;rintro _ _ ⟨g1,rfl,rfl⟩);refine TL.run 1 rfl ?_;refine TL.nx ?_;refine TL.run 2 rfl ?_;refine TL.ns (T.ret ?_);exact K.ah rfl rfl (fun w' hw=>⟨g1,trivial,rfl,hw⟩)
theorem zla (ws:Ws)(hws:ws.length=8)(p:Nat)(B:World)(M:Nat→Prop)(ht:Tab B)(hM0:¬M 0):IterAt Tryz.prog 135 [.pointer (some ⟨p,0,none⟩)] (fun j:Nat=>[.int .i64 (j:Int)]) (memN ws) [.row p 143 ws.cells] B M:=by
 intro G Z l W g0 hy hG0 hW;refine zgj (B:=B) (M:=M) Tryz.func135 rfl rfl rfl hW ?_;refine T.sr ?_;refine TL.y (Yv.am 0 rfl rfl rfl (by rw [List.length_map,hws])) ?_; (refine TL.ew (Wt.none rfl) rfl rfl (Ew.af rfl rfl rfl (fun w hw=>zma ws hws w (ht.kept hw hM0))) ?_;rintro _ _ ⟨rfl,rfl⟩);refine TL.run 1 rfl ?_;refine TL.ns (T.block ?_);refine T.loop (ι:=Nat×HS) (fun x=>[(0, .func (.yield l) #[] #[]),(1, .pointer (some ⟨p,0,none⟩)),(3, .int .i64 (zgQ ((memN ws).drop x.1)))]) (fun x=>[.row p 143 ws.cells]++x.2) (fun x=>x.1≤(memN ws).length∧G x.1 x.2) (fun x=>(memN ws).length - x.1) (0,g0) ?_ ?_ ?_ ?_
 ·exact ⟨by simp,hG0⟩
 ·exact (by repeat (first|exact Sub.nil|refine Sub.cons rfl ?_))
 ·exact List.Sublist.refl _
 ·intro x hphi;obtain ⟨k,g⟩:=x;dsimp only at hphi ⊢;obtain ⟨hkn,hG⟩:=hphi;refine T.seq (T.sr ?_);refine TL.run 2 rfl ?_;refine TL.ns ?_;refine T.cond rfl (fun h1=>?_) (fun h1=>?_)
  ·have p1:=h1; (try simp only [nfB] at p1);have hk:=zkA p1;have h512:nth (memN ws) k<512:=(memF_mem.1 (zaY hk)).2.1;rw [zf2 hk];refine T.skip (K.seq (T.seq (T.block (T.sr ?_))));refine TL.run 2 rfl ?_;refine TL.cd (Wt.none rfl) rfl rfl rfl rfl rfl hy (zlN hk) hG (enc:=fun j:Nat=>[.int .i64 (j:Int)]) (x:=nth (memN ws) k) (i:=k) ?_ ?_
   ·intro g' hG';refine TL.run 1 rfl ?_;refine TL.ns ?_;refine T.aJ rfl rfl ?_;refine T.skip (K.ad (K.seq (T.region ?_)));refine TL.y (Yv.am 0 rfl rfl rfl (by rw [List.length_map,hws])) ?_;refine TL.run 1 rfl ?_;refine TL.y (Yv.an rfl rfl rfl (by omega)) ?_; (refine TL.ew (Wt.none rfl) rfl rfl (Ew.af rfl rfl rfl (fun w hw=>ziG ws hws (nth (memN ws) k+1) _ (by omega) w (ht.kept hw hM0))) ?_;rintro _ _ ⟨rfl,rfl⟩);refine TL.run 1 rfl ?_;refine TL.nil ?_;exact K.next (k+1,g') ⟨by dsimp only;omega,hG'⟩ (by dsimp only;omega) (by rw [←zhm ws k 0 hk];exact (by repeat (first|exact Sub.nil|refine Sub.cons rfl ?_))) (List.Sublist.refl _)
   ·intro z hZ;refine TL.run 1 rfl ?_;refine TL.ns ?_;refine T.aK rfl rfl ?_;refine T.ret (K.ag (K.aa (K.aa (K.ag ?_))));exact K.bV rfl (fun w' hw hkp=>⟨⟨_,rfl⟩,hkp, .inr ⟨z,hZ,hw⟩⟩)
  ·have p1:=h1; (try simp only [nfB] at p1);have hk:=zjP p1;refine T.exit (K.ab (K.ab (K.ae ?_)));exact K.bW rfl (fun w' hw hkp=>⟨⟨_,rfl⟩,hkp, .inl ⟨g,by rw [show (memN ws).length=k from by omega];exact hG,hw⟩⟩)
theorem ziN (ws:Ws)(hws:ws.length=8)(w:World)(ht:Tab w):Calls Tryz.prog 96 #[.agg ws.cells.toArray] w fun e w'=>∃v:Value,True∧e= .returned v∧Hp w (fun _=>False) [.sl v 3 1 (memN ws).length (nums (memN ws))] w':=by
 have hsl8:=zhP ws 8;have hml:=ze4 ws 0;refine zac (M:=fun _=>False) (hs:=[]) Tryz.func96 rfl rfl rfl (Hp.refl _ _) ?_;refine T.sr ?_; (refine TL.ew (Wt.none rfl) rfl rfl (Ew.aA rfl rfl) ?_;rintro _ _ ⟨g1,rfl,rfl⟩);refine TL.run 1 rfl ?_;refine TL.nx ?_;refine TL.y (Yv.am 0 rfl rfl rfl (by rw [List.length_map,hws])) ?_; (refine TL.ew (Wt.none rfl) rfl rfl (Ew.af rfl rfl rfl (fun w hw=>zlQ ws hws w)) ?_;rintro _ _ ⟨rfl,rfl⟩); (refine TL.ew (Wt.none rfl) rfl rfl (Ew.bI rfl rfl rfl rfl (by omega) (by omega)) ?_;rintro _ _ ⟨g7,rfl,rfl⟩); (refine TL.ew (Wt.none rfl) rfl rfl (Ew.alloc rfl) ?_;rintro _ _ ⟨g3,rfl,rfl⟩); (refine TL.aF (Wt.none rfl) rfl (Ew.aE 0 rfl rfl rfl rfl (by decide)) ?_;rintro _ _ ⟨rfl,rfl⟩);refine TL.ns (T.seq (T.sr ?_));refine TL.y (Yv.am 2 rfl rfl rfl (by rw [List.length_map,hws])) ?_; (refine TL.ew (Wt.none rfl) rfl rfl (Ew.bh rfl rfl rfl (fun w hw=>zlI ws hws _)) ?_;rintro _ _ ⟨b9, -,rfl,rfl⟩);dsimp only [List.cons_append,List.nil_append];refine TL.ns (T.block ?_);refine T.bH (α:=Nat) ((fun j:Nat=>[.int .i64 (j:Int)])) (memN ws) ([.row b9 143 ws.cells]) (fun i g=>∃v,g=[.row g3 46 [v], .sl v 3 1 i (nums ((memN ws).take i))]) (fun _ _=>False) (fun x=>[(3, .pointer (some ⟨g3,0,none⟩)),(4, .int .i64 (x:Int))]) (_) (⟨_,rfl⟩) rfl (zla ws hws b9 _ _ ht (fun h=>h)) (by decide) (fun _=>rfl) (by exact Sx) ?_ ?_ ?_ ?_
 ·intro l i x X D g hx;refine T.region ?_;refine TL.run 1 rfl ?_;refine TL.nil ?_;exact K.at (by repeat (first|exact Sub.nil|refine Sub.cons rfl ?_)) (List.Sublist.refl _)
 ·intro l i x X D g hx hG;obtain ⟨v,rfl⟩:=hG;obtain ⟨hi,rfl⟩:=zl7 hx;have hi2:i<(memF ws 0).length:=hi;dsimp only [List.cons_append,List.nil_append];refine T.block (T.region ?_);refine TL.y (Yv.ac 1 rfl rfl rfl rfl) ?_;refine TL.run 1 rfl ?_; (refine TL.ew (Wt.none rfl) rfl rfl (Ew.buildSlice rfl rfl rfl (by decide)) ?_;rintro _ _ ⟨g13,rfl,rfl⟩); (refine TL.ew (Wt.none rfl) rfl rfl (Ew.append 3 0 rfl rfl rfl rfl rfl rfl (by omega) (by omega)) ?_;rintro v14 _ ⟨hv14,rfl⟩); (refine TL.aF (Wt.none rfl) rfl (Ew.aE 2 rfl rfl rfl rfl (by first|omega|simp)) ?_;rintro _ _ ⟨rfl,rfl⟩);refine TL.nil (K.ad ?_);exact K.round _ ⟨_,rfl,v14,rfl⟩ (by rw [zj0 hi];exact Sx)
 ·intro g hG;obtain ⟨v,rfl⟩:=hG;dsimp only [List.cons_append,List.nil_append];rw [List.take_length];refine K.ad (K.seq (T.sr ?_));refine TL.y (Yv.ac 1 rfl rfl rfl rfl) ?_;refine TL.run 1 rfl ?_;refine TL.ns (T.ret ?_);exact K.ah rfl rfl (fun w' hw=>⟨_,trivial,rfl,hw.sub Sx⟩)
 ·intro c y hz;exact hz.elim
theorem zcG {w:World}{v:Value}{e:TypeId}{size k:Nat}{l:List Value}(h:(Ent.sl v e size k l).ok w):OneC v:=by
 rcases (Ent.sl_ok.1 h).2 with ⟨rfl,_⟩|⟨g,cap,cur,rfl,_⟩ <;> exact inferInstance
theorem zhh (m:BitVec 64)(w:World)(ht:Tab w):Calls Tryz.prog 76 #[U m] w fun e w'=>∃v:Value,OneC v∧e= .returned v∧Hp w (fun _=>False) [.sl v 3 1 (chansN m).length (nums (chansN m))] w':=by
 have hcl:=ziU m;refine zac (M:=fun _=>False) (hs:=[]) Tryz.func76 rfl rfl rfl (Hp.refl _ _) ?_;refine T.sr ?_;refine TL.run 1 rfl ?_;refine TL.nx ?_;refine TL.run 1 rfl ?_;refine TL.ns (T.seq (T.block ?_));refine T.slNil 3 1 ?_;refine T.loop (ι:=BitVec 64×List Nat×Value) (fun x=>[(0,U x.1),(3,x.2.2)]) (fun x=>[.sl x.2.2 3 1 x.2.1.length (nums x.2.1)]) (fun x=>x.2.1++chansN x.1=chansN m) (fun x=>(chansN x.1).length) (m,[], .slice none 0 0) ?_ ?_ ?_ ?_
 ·rfl
 ·exact (by repeat (first|exact Sub.nil|refine Sub.cons rfl ?_))
 ·exact Sx
 ·intro x hphi;obtain ⟨b,l,v⟩:=x;dsimp only at hphi ⊢; (have hll:l.length+(chansN b).length=(chansN m).length:=by rw [←hphi,List.length_append]);refine T.seq (T.sr ?_);refine TL.run 2 rfl ?_;refine TL.ns ?_;refine T.cond rfl (fun h1=>?_) (fun h1=>?_)
  ·have p1:=h1; (try simp only [nfB] at p1); (have hb0:b≠0#64:=by rintro rfl;exact p1 rfl);have hst:=zd1 hb0;refine T.skip (K.seq (T.seq (T.block (T.region ?_))));refine TL.run 2 rfl ?_; (refine TL.ew (Wt.none rfl) rfl rfl (Ew.af rfl rfl rfl (fun w hw=>zkc b hb0 w (ht.keptF hw))) ?_;rintro _ _ ⟨rfl,rfl⟩); (refine TL.ew (Wt.none rfl) rfl rfl (Ew.buildSlice rfl rfl rfl (by decide)) ?_;rintro _ _ ⟨g13,rfl,rfl⟩); (refine TL.ew (Wt.none rfl) rfl rfl (Ew.append 1 0 rfl rfl rfl rfl rfl rfl (by omega) (by omega)) ?_;rintro v14 _ ⟨hv14,rfl⟩);refine TL.run 1 rfl ?_;refine TL.nil (K.ad (K.seq (T.region ?_)));refine TL.run 2 rfl ?_;refine TL.y (Yv.co (b:=1#64) rfl rfl rfl) ?_;refine TL.y (Yv.be rfl rfl rfl) ?_;refine TL.run 1 rfl ?_;refine TL.nil ?_;exact K.next (b &&& (b - 1#64),l++[ctz b],v14) (by dsimp only;rw [List.append_assoc,List.singleton_append,←zd1 hb0];exact hphi) (by dsimp only;rw [zd1 hb0];simp) (by repeat (first|exact Sub.nil|refine Sub.cons rfl ?_)) (by simp only [List.length_append,List.length_singleton,nums,List.map_append,List.map_cons,List.map_nil];exact Sx)
  ·have p1:=h1; (try simp only [nfB] at p1); (have hb0:b=0#64:=by refine BitVec.eq_of_toNat_eq ?_;show b.toNat=0;omega);subst hb0;rw [zhL,List.append_nil] at hphi;subst hphi;refine T.exit (K.ab (K.ab (K.ae (K.seq (T.sr ?_)))));refine TL.run 2 rfl ?_;refine TL.ns (T.ret ?_);exact K.ah rfl rfl (fun w' hw=>⟨_,zcG (hw.get (i:=0) rfl),rfl,hw.sub Sx⟩)
structure Tb where
 st:List Int
 ix:Nat→Int
 total:Int
 vps:List Value
 ps:Nat→List Pr
 vcs:List Value
 cs:Nat→List Cp
 vin:List Value
 inn:Nat→List Ld
 vout:List Value
 out:Nat→List Ld
abbrev Tb.n (T:Tb):Nat:=T.st.length
structure Lists {α:Type} (w:World) (p:Addr) (enc:α→List Value) (size:Nat) (vs:List Value) (n:Nat) (f:Nat→List α):Prop where
 at':∃v,w.cell? p=some v∧SlOf w v (fun u=>[u]) 1 vs
 len:vs.length=n
 each:∀i,i<n→SlOf w (nth vs i) enc size (f i)
structure TablesAt (w:World) (tp:Nat) (T:Tb):Prop where
 st:∃v,w.cell? ⟨tp,0,none⟩=some v∧zfz w v T.st
 ix:∀j,j<512→w.cell? ⟨tp,1+j,none⟩=some (.int .i64 (T.ix j))
 total:w.cell? ⟨tp,513,none⟩=some (.int .i64 T.total)
 ps:Lists w ⟨tp,514,none⟩ Pr.cells 5 T.vps T.n T.ps
 cs:Lists w ⟨tp,515,none⟩ Cp.cells 4 T.vcs T.n T.cs
 inn:Lists w ⟨tp,516,none⟩ Ld.cells 5 T.vin T.n T.inn
 out:Lists w ⟨tp,517,none⟩ Ld.cells 5 T.vout T.n T.out
structure Tb.Ok (T:Tb):Prop where
 n:T.n≤512
 ps:∀i,i<T.n→(T.ps i).length≤4096∧∀x∈T.ps i,0≤x.a∧x.a<T.n∧0≤x.b∧x.b<T.n∧ -1≤x.off∧x.off≤1∧2≤x.lo∧x.lo≤x.hi∧x.hi≤51∧(x.a=i∨x.b=i)
 cs:∀i,i<T.n→(T.cs i).length≤1024∧∀x∈T.cs i,0≤x.mx∧x.mx≤1099511627776∧2≤x.lo∧x.lo≤x.hi∧x.hi≤51
 inn:∀i,i<T.n→(T.inn i).length≤1024∧∀x∈T.inn i,x.to=i∧0≤x.fr∧x.fr<T.n∧1≤x.wt∧x.wt≤1073741824∧2≤x.lo∧x.lo≤x.hi∧x.hi≤51
 psS:∀i,i<T.n→∀x∈T.ps i,x.a≠x.b∧x∈T.ps x.a.toNat∧x∈T.ps x.b.toNat
 innS:∀i,i<T.n→∀x∈T.inn i,x.to≠x.fr∧x∈T.out x.fr.toNat
 outS:∀i,i<T.n→∀x∈T.out i,x.to≠x.fr∧x∈T.inn x.to.toNat
 out:∀i,i<T.n→(T.out i).length≤1024∧∀x∈T.out i,x.fr=i∧0≤x.to∧x.to<T.n∧1≤x.wt∧x.wt≤1073741824∧2≤x.lo∧x.lo≤x.hi∧x.hi≤51
def IsC (w:World)(g:Nat):Prop:=∃cs t p,w.heap[g]?=some (.cells cs t p)
def Fz (w0 w:World):Prop:=∀g,IsC w0 g→w.heap[g]?=w0.heap[g]?
theorem zdK {w:World}{p:Addr}{v:Value}(h:w.cell? p=some v):IsC w p.block:=by
 unfold World.cell? at h
 split at h
 ·rename_i hh;exact ⟨_,_,_,hh⟩
 ·cases h
theorem Fz.cell {w w':World}(hb:Fz w w'){p:Addr}{v:Value}(h:w.cell? p=some v):w'.cell? p=some v:=(World.cell?_of_block (w:=w) (hb _ (zdK h))).trans h
theorem Fz.cs {w w':World}(hb:Fz w w'){g p:Nat}{l:List Value}(h:Cs w g p l):Cs w' g p l:=fun j hj=>by
 have:=h j hj;rw [List.getElem?_eq_getElem hj] at this ⊢;exact hb.cell this
theorem Cs.isC {w:World}{g p:Nat}{l:List Value}(h:Cs w g p l)(hl:0<l.length):IsC w g:=by
 have:=h 0 hl;rw [List.getElem?_eq_getElem hl] at this;exact zdK this
theorem Fz.sl {α:Type}{w w':World}(hb:Fz w w'){v:Value}{enc:α→List Value}{size:Nat}{xs:List α}(h:SlOf w v enc size xs):SlOf w' v enc size xs:=by
 obtain ⟨A,cap,rfl,hc⟩:=h;refine ⟨A,cap,rfl,fun hp=>?_⟩;obtain ⟨g,off,rfl,hcs⟩:=hc hp;exact ⟨g,off,rfl,fun i hi=>hb.cs (hcs i hi)⟩
theorem Fz.of_below {w w':World}(hb:Below w.heap.size w w'):Fz w w':=fun g ⟨cs,t,p,h⟩=>hb.block g (Array.getElem?_eq_some_iff.1 h).1
theorem Fz.hp {w0 w w':World}{M:Nat→Prop}{hs:HS}(h:Fz w0 w)(hw:Hp w M hs w')(h0:∀g,M g→¬IsC w0 g):Fz w0 w':=fun g hg=>by
 have h1:=h g hg;obtain ⟨cs,t,p,e⟩:=hg;rw [←h1];refine hw.base g ?_ (fun hm=>h0 g hm ⟨cs,t,p,e⟩);rw [e] at h1;exact (Array.getElem?_eq_some_iff.1 h1).1
theorem Lists.later {α:Type}{w w':World}(hb:Fz w w'){p:Addr}{enc:α→List Value}{size:Nat}{vs:List Value}{n:Nat}{f:Nat→List α}(h:Lists w p enc size vs n f):Lists w' p enc size vs n f:=
 ⟨by obtain ⟨v,h1,h2⟩:=h.at';exact ⟨v,hb.cell h1,hb.sl h2⟩,h.len,fun i hi=>hb.sl (h.each i hi)⟩
theorem TablesAt.later {w w':World}(hb:Fz w w'){tp:Nat}{T:Tb}(h:TablesAt w tp T):TablesAt w' tp T:=
 ⟨by obtain ⟨v,h1,h2⟩:=h.st;exact ⟨v,hb.cell h1,hb.sl h2⟩,fun j hj=>hb.cell (h.ix j hj),hb.cell h.total,h.ps.later hb,h.cs.later hb,h.inn.later hb,h.out.later hb⟩
def Le (b:BitVec 64):List Value:=[U b]
structure StateAt (w:World) (sp:Nat) (T:Tb) (L:Ws) (c:Bool):Prop where
 tab:Tab w
 tb:∃tp,w.cell? ⟨sp,0,none⟩=some (.pointer (some ⟨tp,0,none⟩))∧TablesAt w tp T
 left:∃v,w.cell? ⟨sp,1,none⟩=some v∧SlOf w v Le 1 L
 len:L.length=T.n
 con:w.cell? ⟨sp,2,none⟩=some (.bool c)
theorem StateAt.later {w w':World}(hb:Below w.heap.size w w'){sp:Nat}{T:Tb}{L:Ws}{c:Bool}(h:StateAt w sp T L c):StateAt w' sp T L c:=
 have hf:=Fz.of_below hb
 ⟨h.tab.keptF (Hp.of_below hb),by obtain ⟨tp,h1,h2⟩:=h.tb;exact ⟨tp,hf.cell h1,h2.later hf⟩,by obtain ⟨v,h1,h2⟩:=h.left;exact ⟨v,hf.cell h1,hf.sl h2⟩,h.len,hf.cell h.con⟩
theorem StateAt.kept {B w:World}{hs:HS}{sp:Nat}{T:Tb}{L:Ws}{c:Bool}(hw:Hp B (fun _=>False) hs w)(h:StateAt B sp T L c):StateAt w sp T L c:=h.later ⟨hw.os,hw.tape,hw.output,hw.size,fun k hk=>hw.base k hk (fun h=>h)⟩
def zch (b:BitVec 64):Nat:=if b≠0#64∧b &&& (b - 1#64)=0#64 then ctz b else 0
def only (L:Ws)(i:Nat):Nat:=zch (nth L i)
theorem zk4 (b:BitVec 64):zch b<64:=by
 unfold zch;split
 ·rename_i h;exact zf6 h.1
 ·decide
theorem zgi (L:Ws)(i:Nat):only L i<64:=zk4 _
def zb1 (L:Ws)(i:Nat)(g:BitVec 64)(x:Pr):BitVec 64:=
 if x.a=(i:Int) then
  if (only L x.b.toNat:Int)≠0∧x.lo≤(only L x.b.toNat:Int) - x.off∧(only L x.b.toNat:Int) - x.off≤x.hi then g ||| 1#64 <<< ((only L x.b.toNat:Int) - x.off).toNat else g
 else if x.lo≤(only L x.a.toNat:Int)∧(only L x.a.toNat:Int)≤x.hi then g ||| 1#64 <<< ((only L x.a.toNat:Int)+x.off).toNat else g
def zda (T:Tb)(L:Ws)(i:Nat):BitVec 64:=(T.ps i).foldl (zb1 L i) 0#64
theorem zaA {α β:Type}[Inhabited α](f:β→α→β)(z:β){l:List α}{k:Nat}(h:k<l.length):(l.take (k+1)).foldl f z=f ((l.take k).foldl f z) (nth l k):=by
 rw [List.take_succ_eq_append_getElem h,zat h,List.foldl_append];rfl
theorem zkL {b:BitVec 64}(h1:¬(b.toNat:Int)=0)(h2:((b &&& (b - 1#64)).toNat:Int)=0):zch b=ctz b:=by
 unfold zch;rw [if_pos ⟨by rintro rfl;exact h1 rfl,BitVec.eq_of_toNat_eq (by show _=0;omega)⟩]
theorem zlL {b:BitVec 64}(h2:¬((b &&& (b - 1#64)).toNat:Int)=0):zch b=0:=by
 unfold zch;rw [if_neg (fun h=>h2 (by rw [h.2];rfl))]
theorem zlc {b:BitVec 64}(h1:(b.toNat:Int)=0):zch b=0:=by
 unfold zch;rw [if_neg (fun h=>h.1 (BitVec.eq_of_toNat_eq (by show _=0;omega)))]
theorem zcY (sp:Nat)(Y:Tb)(L:Ws)(c:Bool)(i:Nat)(z:Int)(hz:z=(i:Int))(hi:i<Y.n)(w:World)(h:StateAt w sp Y L c):Calls Tryz.prog 121 #[.pointer (some ⟨sp,0,none⟩), .int .i64 z] w fun e w'=>e= .returned (.int .i64 (only L i:Int))∧Below w.heap.size w w':=by
 subst hz;obtain ⟨tp,hsp0,hT⟩:=h.tb;obtain ⟨vL,hsp1,hL⟩:=h.left;obtain ⟨AL,capL,rfl,hLs⟩:=hL.op;have hLn:=h.len;obtain ⟨gL,oL,rfl,hc⟩:=hLs (by omega);have hk:=hc i (by omega);simp only [Le] at hk;refine zac (M:=fun _=>False) (hs:=[]) Tryz.func121 rfl rfl rfl (Hp.refl _ _) ?_;refine T.sr ?_;refine TL.run 1 rfl ?_;refine TL.ns (T.seq (T.sr ?_));refine TL.run 2 rfl ?_;refine TL.y (Yv.fieldAddr rfl rfl) ?_;refine TL.y (Yv.aw rfl rfl (by assumption) (fun h=>h)) ?_;refine TL.run 1 rfl ?_;refine TL.y (Yv.ai rfl rfl rfl rfl (by omega)) ?_;refine TL.y (Yv.loadC (j:=0) rfl rfl hk rfl rfl (fun h=>h)) ?_;refine TL.run 1 rfl ?_;refine TL.nx ?_;refine TL.run 3 rfl ?_;refine TL.aq rfl rfl rfl (fun h1=>?_) (fun h1=>?_)
 ·have p1:=h1; (try simp only [nfB] at p1);refine TL.yv (Wt.some rfl rfl rfl h1) rfl rfl (Yv.aB rfl) ?_;refine TL.yv (Wt.some rfl rfl rfl h1) rfl rfl (Yv.aB rfl) ?_;refine TL.yv (Wt.some rfl rfl rfl h1) rfl rfl (Yv.co (b:=1#64) rfl rfl rfl) ?_;refine TL.yv (Wt.some rfl rfl rfl h1) rfl rfl (Yv.be rfl rfl rfl) ?_;refine TL.yv (Wt.some rfl rfl rfl h1) rfl rfl (Yv.aB rfl) ?_;refine TL.y (Yv.au rfl rfl h1 rfl) ?_;refine TL.ns ?_;refine T.cond rfl (fun h2=>?_) (fun h2=>?_)
  ·have p2:=h2; (try simp only [nfB] at p2); (have hne:nth L i≠0#64:=by intro hh;rw [hh] at p1;exact p1 rfl);refine T.sr ?_;refine TL.run 1 rfl ?_; (refine TL.ew (Wt.none rfl) rfl rfl (Ew.af rfl rfl rfl (fun w hw=>zkc _ hne w (h.tab.keptF hw))) ?_;rintro _ _ ⟨rfl,rfl⟩);refine TL.run 1 rfl ?_;refine TL.ns (T.ret (K.aa ?_));exact K.ah rfl rfl (fun w' hw=>⟨zcE (by rw [only,zkL p1 p2]),hw.isBelow⟩)
  ·have p2:=h2; (try simp only [nfB] at p2);refine T.skip (K.seq (T.sr ?_));refine TL.run 1 rfl ?_;refine TL.ns (T.ret ?_);exact K.ah rfl rfl (fun w' hw=>⟨zcE (by rw [only,zlL p2];rfl),hw.isBelow⟩)
 ·have p1:=h1; (try simp only [nfB] at p1);refine TL.off (Wt.not rfl rfl rfl h1) rfl rfl ?_;refine TL.off (Wt.not rfl rfl rfl h1) rfl rfl ?_;refine TL.off (Wt.not rfl rfl rfl h1) rfl rfl ?_;refine TL.off (Wt.not rfl rfl rfl h1) rfl rfl ?_;refine TL.off (Wt.not rfl rfl rfl h1) rfl rfl ?_;refine TL.y (Yv.av rfl rfl h1 rfl) ?_;refine TL.ns ?_;refine T.aJ rfl rfl ?_;refine T.skip (K.seq (T.sr ?_));refine TL.run 1 rfl ?_;refine TL.ns (T.ret ?_);exact K.ah rfl rfl (fun w' hw=>⟨zcE (by rw [only,zlc p1];rfl),hw.isBelow⟩)
theorem zh7 (sp:Nat)(Y:Tb)(L:Ws)(c:Bool)(i:Nat)(z:Int)(hz:z=(i:Int))(hi:i<Y.n)(w:World)(h:StateAt w sp Y L c)(hok:Y.Ok):Calls Tryz.prog 93 #[.pointer (some ⟨sp,0,none⟩), .int .i64 z] w fun e w'=>e= .returned (U (zda Y L i))∧Below w.heap.size w w':=by
 subst hz;obtain ⟨tp,hsp0,hT⟩:=h.tb;obtain ⟨vL,hsp1,hL⟩:=h.left;obtain ⟨AL,capL,rfl,hLs⟩:=hL.op;have hLn:=h.len;obtain ⟨vP,hP0,hP⟩:=hT.ps.at';obtain ⟨AP,capP,rfl,hPs⟩:=hP.op;have hPn:=hT.ps.len;obtain ⟨gP,oP,rfl,hPc⟩:=hPs (by omega);rw [hPn] at hP0;have hPi:=hPc i (by rw [hPn];exact hi);obtain ⟨BP,cpP,hvP,hslP⟩:=(hT.ps.each i hi).op;simp only [hvP] at hPi;obtain ⟨hlen,hrng⟩:=hok.ps i hi;have hn512:=hok.n;refine zac (M:=fun _=>False) (hs:=[]) Tryz.func93 rfl rfl rfl (Hp.refl _ _) ?_;refine T.sr ?_;refine TL.run 1 rfl ?_;refine TL.nx ?_;refine TL.run 1 rfl ?_;refine TL.ns (T.seq (T.sr ?_));refine TL.run 2 rfl ?_;refine TL.y (Yv.fieldAddr rfl rfl) ?_;refine TL.y (Yv.aw rfl rfl hsp0 (fun h=>h)) ?_;refine TL.run 1 rfl ?_;refine TL.y (Yv.fieldAddr rfl rfl) ?_;refine TL.y (Yv.aw rfl rfl hP0 (fun h=>h)) ?_;refine TL.run 1 rfl ?_;refine TL.y (Yv.ai rfl rfl rfl rfl (by omega)) ?_;refine TL.y (Yv.loadC (j:=0) rfl rfl hPi rfl rfl (fun h=>h)) ?_;refine TL.y (Yv.ax rfl rfl) ?_;refine TL.run 1 rfl ?_;refine TL.ns (T.block ?_);refine T.loop (ι:=Nat) (fun k=>[(0, .pointer (some ⟨sp,0,none⟩)),(1, .int .i64 (i:Int)),(5,U (((Y.ps i).take k).foldl (zb1 L i) 0#64)),(19, .slice BP (Y.ps i).length cpP),(20, .int .i64 ((Y.ps i).length:Int)),(21, .int .i64 (k:Int))]) (fun k=>[]) (fun k=>k≤(Y.ps i).length) (fun k=>(Y.ps i).length - k) 0 ?_ ?_ ?_ ?_
 ·omega
 ·exact (by repeat (first|exact Sub.nil|refine Sub.cons rfl ?_))
 ·exact Sx
 ·intro k hphi;refine T.sr ?_;refine TL.run 1 rfl ?_;refine TL.ns (T.seq ?_);refine T.cond rfl (fun h1=>?_) (fun h1=>?_)
  ·have p1:=h1; (try simp only [nfB] at p1);obtain ⟨g,off,rfl,hc⟩:=hslP (by omega);have hk:=hc k (by omega);simp only [Pr.cells] at hk;have hr:=hrng _ (zaY (xs:=Y.ps i) (k:=k) (by omega));have oa:=zgi L (nth (Y.ps i) k).a.toNat;have ob:=zgi L (nth (Y.ps i) k).b.toNat;refine T.skip (K.seq (T.seq (T.block (T.sr ?_))));refine TL.y (Yv.ai rfl rfl rfl rfl (by omega)) ?_;refine TL.y (Yv.aC rfl rfl hk rfl (fun h=>h)) ?_; (refine TL.ew (Wt.none rfl) rfl rfl (Ew.alloc rfl) ?_;rintro _ _ ⟨g7,rfl,rfl⟩); (refine TL.aF (Wt.none rfl) rfl (Ew.ak 0 rfl rfl rfl rfl rfl rfl) ?_;rintro _ _ ⟨rfl,rfl⟩);refine TL.nx ?_;refine TL.y (Yv.fieldAddr rfl rfl) ?_;refine TL.y (Yv.ac 0 rfl rfl rfl rfl) ?_;refine TL.run 2 rfl ?_;refine TL.ns ?_;refine T.cond rfl (fun h2=>?_) (fun h2=>?_)
   ·have p2:=h2; (try simp only [nfB] at p2);refine T.sr ?_;refine TL.run 1 rfl ?_;refine TL.y (Yv.fieldAddr rfl rfl) ?_;refine TL.y (Yv.ac 0 rfl rfl rfl rfl) ?_; (refine TL.ew (Wt.none rfl) rfl rfl (Ew.af rfl rfl rfl (fun w hw=>zcY sp Y L c (nth (Y.ps i) k).b.toNat _ (by omega) (by omega) w (h.kept hw))) ?_;rintro _ _ ⟨rfl,rfl⟩);refine TL.run 1 rfl ?_;refine TL.nx ?_;refine TL.run 3 rfl ?_;refine TL.aq rfl rfl rfl (fun h3=>?_) (fun h3=>?_)
    ·have p3:=h3; (try simp only [nfB] at p3);refine TL.yv (Wt.some rfl rfl rfl h3) rfl rfl (Yv.fieldAddr rfl rfl) ?_;refine TL.yv (Wt.some rfl rfl rfl h3) rfl rfl (Yv.ac 0 rfl rfl rfl rfl) ?_;refine TL.yv (Wt.some rfl rfl rfl h3) rfl rfl (Yv.aB rfl) ?_;refine TL.yv (Wt.some rfl rfl rfl h3) rfl rfl (Yv.fieldAddr rfl rfl) ?_;refine TL.yv (Wt.some rfl rfl rfl h3) rfl rfl (Yv.ac 0 rfl rfl rfl rfl) ?_;refine TL.yv (Wt.some rfl rfl rfl h3) rfl rfl (Yv.aP rfl rfl rfl (by omega)) ?_;refine TL.yv (Wt.some rfl rfl rfl h3) rfl rfl (Yv.aB rfl) ?_;refine TL.y (Yv.au rfl rfl h3 rfl) ?_;refine TL.run 1 rfl ?_;refine TL.aq rfl rfl rfl (fun h4=>?_) (fun h4=>?_)
     ·have p4:=h4; (try simp only [nfB] at p4);refine TL.yv (Wt.some rfl rfl rfl h4) rfl rfl (Yv.aB rfl) ?_;refine TL.yv (Wt.some rfl rfl rfl h4) rfl rfl (Yv.fieldAddr rfl rfl) ?_;refine TL.yv (Wt.some rfl rfl rfl h4) rfl rfl (Yv.ac 0 rfl rfl rfl rfl) ?_;refine TL.yv (Wt.some rfl rfl rfl h4) rfl rfl (Yv.aP rfl rfl rfl (by omega)) ?_;refine TL.yv (Wt.some rfl rfl rfl h4) rfl rfl (Yv.fieldAddr rfl rfl) ?_;refine TL.yv (Wt.some rfl rfl rfl h4) rfl rfl (Yv.ac 0 rfl rfl rfl rfl) ?_;refine TL.yv (Wt.some rfl rfl rfl h4) rfl rfl (Yv.aB rfl) ?_;refine TL.y (Yv.au rfl rfl h4 rfl) ?_;refine TL.ns ?_;refine T.cond rfl (fun h5=>?_) (fun h5=>?_)
      ·have p5:=h5; (try simp only [nfB] at p5);refine T.region ?_;refine TL.run 2 rfl ?_;refine TL.y (Yv.fieldAddr rfl rfl) ?_;refine TL.y (Yv.ac 0 rfl rfl rfl rfl) ?_;refine TL.y (Yv.aP rfl rfl rfl (by omega)) ?_;refine TL.y (Yv.bi (a:=1#64) ((only L (nth (Y.ps i) k).b.toNat:Int) - (nth (Y.ps i) k).off).toNat rfl rfl rfl (by omega) (by omega)) ?_;refine TL.y (Yv.orV rfl rfl rfl) ?_;refine TL.run 1 rfl ?_;refine TL.nil (K.ad (K.seq (T.region ?_)));refine TL.y (Yv.an rfl rfl rfl (by omega)) ?_;refine TL.run 1 rfl ?_;refine TL.nil ?_;exact K.next (k+1) (by omega) (by omega) (by rw [zaA _ _ (by omega),zb1,if_pos p2,if_pos ⟨p3,p4,p5⟩];exact (by repeat (first|exact Sub.nil|refine Sub.cons rfl ?_))) Sx
      ·have p5:=h5; (try simp only [nfB] at p5);refine T.skip (K.ad (K.seq (T.region ?_)));refine TL.y (Yv.an rfl rfl rfl (by omega)) ?_;refine TL.run 1 rfl ?_;refine TL.nil ?_;exact K.next (k+1) (by omega) (by omega) (by rw [zaA _ _ (by omega),zb1,if_pos p2,if_neg (fun hh=>absurd hh.2.2 (by omega))];exact (by repeat (first|exact Sub.nil|refine Sub.cons rfl ?_))) Sx
     ·have p4:=h4; (try simp only [nfB] at p4);refine TL.off (Wt.not rfl rfl rfl h4) rfl rfl ?_;refine TL.off (Wt.not rfl rfl rfl h4) rfl rfl ?_;refine TL.off (Wt.not rfl rfl rfl h4) rfl rfl ?_;refine TL.off (Wt.not rfl rfl rfl h4) rfl rfl ?_;refine TL.off (Wt.not rfl rfl rfl h4) rfl rfl ?_;refine TL.off (Wt.not rfl rfl rfl h4) rfl rfl ?_;refine TL.off (Wt.not rfl rfl rfl h4) rfl rfl ?_;refine TL.y (Yv.av rfl rfl h4 rfl) ?_;refine TL.ns ?_;refine T.aJ rfl rfl ?_;refine T.skip (K.ad (K.seq (T.region ?_)));refine TL.y (Yv.an rfl rfl rfl (by omega)) ?_;refine TL.run 1 rfl ?_;refine TL.nil ?_;exact K.next (k+1) (by omega) (by omega) (by rw [zaA _ _ (by omega),zb1,if_pos p2,if_neg (fun hh=>absurd hh.2.1 (by omega))];exact (by repeat (first|exact Sub.nil|refine Sub.cons rfl ?_))) Sx
    ·have p3:=h3; (try simp only [nfB] at p3);refine TL.off (Wt.not rfl rfl rfl h3) rfl rfl ?_;refine TL.off (Wt.not rfl rfl rfl h3) rfl rfl ?_;refine TL.off (Wt.not rfl rfl rfl h3) rfl rfl ?_;refine TL.off (Wt.not rfl rfl rfl h3) rfl rfl ?_;refine TL.off (Wt.not rfl rfl rfl h3) rfl rfl ?_;refine TL.off (Wt.not rfl rfl rfl h3) rfl rfl ?_;refine TL.off (Wt.not rfl rfl rfl h3) rfl rfl ?_;refine TL.y (Yv.av rfl rfl h3 rfl) ?_;refine TL.run 9 rfl ?_;refine TL.ns ?_;refine T.aJ rfl rfl ?_;refine T.skip (K.ad (K.seq (T.region ?_)));refine TL.y (Yv.an rfl rfl rfl (by omega)) ?_;refine TL.run 1 rfl ?_;refine TL.nil ?_;exact K.next (k+1) (by omega) (by omega) (by rw [zaA _ _ (by omega),zb1,if_pos p2,if_neg (fun hh=>hh.1 p3)];exact (by repeat (first|exact Sub.nil|refine Sub.cons rfl ?_))) Sx
   ·have p2:=h2; (try simp only [nfB] at p2);refine T.sr ?_;refine TL.run 1 rfl ?_;refine TL.y (Yv.fieldAddr rfl rfl) ?_;refine TL.y (Yv.ac 0 rfl rfl rfl rfl) ?_; (refine TL.ew (Wt.none rfl) rfl rfl (Ew.af rfl rfl rfl (fun w hw=>zcY sp Y L c (nth (Y.ps i) k).a.toNat _ (by omega) (by omega) w (h.kept hw))) ?_;rintro _ _ ⟨rfl,rfl⟩);refine TL.run 1 rfl ?_;refine TL.nx ?_;refine TL.y (Yv.fieldAddr rfl rfl) ?_;refine TL.y (Yv.ac 0 rfl rfl rfl rfl) ?_;refine TL.run 3 rfl ?_;refine TL.aq rfl rfl rfl (fun h6=>?_) (fun h6=>?_)
    ·have p6:=h6; (try simp only [nfB] at p6);refine TL.yv (Wt.some rfl rfl rfl h6) rfl rfl (Yv.aB rfl) ?_;refine TL.yv (Wt.some rfl rfl rfl h6) rfl rfl (Yv.fieldAddr rfl rfl) ?_;refine TL.yv (Wt.some rfl rfl rfl h6) rfl rfl (Yv.ac 0 rfl rfl rfl rfl) ?_;refine TL.yv (Wt.some rfl rfl rfl h6) rfl rfl (Yv.aB rfl) ?_;refine TL.y (Yv.au rfl rfl h6 rfl) ?_;refine TL.ns ?_;refine T.cond rfl (fun h7=>?_) (fun h7=>?_)
     ·have p7:=h7; (try simp only [nfB] at p7);refine T.region ?_;refine TL.run 2 rfl ?_;refine TL.y (Yv.fieldAddr rfl rfl) ?_;refine TL.y (Yv.ac 0 rfl rfl rfl rfl) ?_;refine TL.y (Yv.an rfl rfl rfl (by omega)) ?_;refine TL.y (Yv.bi (a:=1#64) ((only L (nth (Y.ps i) k).a.toNat:Int)+(nth (Y.ps i) k).off).toNat rfl rfl rfl (by omega) (by omega)) ?_;refine TL.y (Yv.orV rfl rfl rfl) ?_;refine TL.run 1 rfl ?_;refine TL.nil (K.ad (K.seq (T.region ?_)));refine TL.y (Yv.an rfl rfl rfl (by omega)) ?_;refine TL.run 1 rfl ?_;refine TL.nil ?_;exact K.next (k+1) (by omega) (by omega) (by rw [zaA _ _ (by omega),zb1,if_neg p2,if_pos ⟨p6,p7⟩];exact (by repeat (first|exact Sub.nil|refine Sub.cons rfl ?_))) Sx
     ·have p7:=h7; (try simp only [nfB] at p7);refine T.skip (K.ad (K.seq (T.region ?_)));refine TL.y (Yv.an rfl rfl rfl (by omega)) ?_;refine TL.run 1 rfl ?_;refine TL.nil ?_;exact K.next (k+1) (by omega) (by omega) (by rw [zaA _ _ (by omega),zb1,if_neg p2,if_neg (fun hh=>absurd hh.2 (by omega))];exact (by repeat (first|exact Sub.nil|refine Sub.cons rfl ?_))) Sx
    ·have p6:=h6; (try simp only [nfB] at p6);refine TL.off (Wt.not rfl rfl rfl h6) rfl rfl ?_;refine TL.off (Wt.not rfl rfl rfl h6) rfl rfl ?_;refine TL.off (Wt.not rfl rfl rfl h6) rfl rfl ?_;refine TL.off (Wt.not rfl rfl rfl h6) rfl rfl ?_;refine TL.y (Yv.av rfl rfl h6 rfl) ?_;refine TL.ns ?_;refine T.aJ rfl rfl ?_;refine T.skip (K.ad (K.seq (T.region ?_)));refine TL.y (Yv.an rfl rfl rfl (by omega)) ?_;refine TL.run 1 rfl ?_;refine TL.nil ?_;exact K.next (k+1) (by omega) (by omega) (by rw [zaA _ _ (by omega),zb1,if_neg p2,if_neg (fun hh=>absurd hh.1 (by omega))];exact (by repeat (first|exact Sub.nil|refine Sub.cons rfl ?_))) Sx
  ·have p1:=h1; (try simp only [nfB] at p1);refine T.exit (K.ab (K.ab (K.ae (K.seq (T.sr ?_)))));refine TL.run 2 rfl ?_;refine TL.ns (T.ret ?_);exact K.ah rfl rfl (fun w' hw=>⟨by rw [zda,List.take_of_length_le (by omega)],hw.isBelow⟩)
def zci (f:Nat→Int):List Value:=(List.range 52).map fun d=> .int .i64 (f d)
theorem zh0 (f:Nat→Int):(zci f).length=52:=by simp [zci]
theorem zfF {f:Nat→Int}{d p:Nat}(hp:p=d)(hd:d<52):(zci f)[p]?=some (.int .i64 (f d)):=by subst hp;simp [zci,hd]
theorem zid {f f':Nat→Int}{d p:Nat}{v:Int}(hp:p=d)(hd:d<52)(h1:f' d=v)(h2:∀e,e≠d→f' e=f e):(zci f).set p (.int .i64 v)=zci f':=by
 subst hp h1;apply List.ext_getElem?;intro e;unfold zci;by_cases he:e=p
 ·subst he;rw [List.getElem?_set_self (by simpa using hd)];simp [hd]
 ·rw [List.getElem?_set_ne (fun h=>he h.symm)];simp only [List.getElem?_map,List.getElem?_range];by_cases h52:e<52
  ·simp [h52,h2 e he]
  ·simp [h52]
def za6 (L:Ws)(f:Nat→Int)(x:Ld):Nat→Int:=fun d=>if x.lo≤(only L x.fr.toNat:Int)∧(only L x.fr.toNat:Int)≤x.hi∧only L x.fr.toNat=d then f d+x.wt else f d
def zbb (L:Ws)(l:List Ld):Nat→Int:=l.foldl (za6 L) (fun _=>0)
theorem zkI (L:Ws):∀(l:List Ld),(∀x∈l,1≤x.wt∧x.wt≤1073741824)→∀(f:Nat→Int) (b:Int),(∀d,0≤f d∧f d≤b)→∀d,0≤l.foldl (za6 L) f d∧l.foldl (za6 L) f d≤b+1073741824* (l.length:Int)
 | [],_,f,b,hf,d=>by simpa using hf d
 |x :: r,hx,f,b,hf,d=>by
  have h1:=hx x (by simp)
  have:=zkI L r (fun y hy=>hx y (by simp [hy])) (za6 L f x) (b+1073741824) (fun e=>by
   have:=hf e
   unfold za6;split <;> omega) d
  simp only [List.foldl_cons,List.length_cons];omega
def zhu (f:Nat→Int)(mx:Int)(g:BitVec 64)(d:Nat):BitVec 64:=if mx<f d then g ||| 1#64 <<< d else g
def zd3 (f:Nat→Int)(g:BitVec 64)(x:Cp):BitVec 64:=(List.range' x.lo.toNat (x.hi.toNat+1 - x.lo.toNat)).foldl (zhu f x.mx) g
def zdQ (Y:Tb)(L:Ws)(i:Nat):BitVec 64:=(Y.cs i).foldl (zd3 (zbb L (Y.inn i))) 0#64
theorem zee {L:Ws}{l:List Ld}{k:Nat}(h:k<l.length):zbb L (l.take (k+1))=za6 L (zbb L (l.take k)) (nth l k):=zaA _ _ h
theorem zl1 {L:Ws}{l:List Ld}(hl:l.length≤1024)(hw:∀x∈l,1≤x.wt∧x.wt≤1073741824)(k d:Nat):0≤zbb L (l.take k) d∧zbb L (l.take k) d≤1099511627776:=by
 have:=zkI L (l.take k) (fun x hx=>hw x (List.mem_of_mem_take hx)) (fun _=>0) 0 (fun _=>⟨by simp,by simp⟩) d; (have hk:(l.take k).length≤1024:=by rw [List.length_take];omega);unfold zbb;omega
def zbx (L:Ws)(i d:Nat)(s:Int)(x:Ld):Int:=if (x.lo≤(d:Int)∧(d:Int)≤x.hi)∧(x.fr=(i:Int)∨only L x.fr.toNat=d) then s+x.wt else s
theorem zlu (L:Ws)(i d:Nat):∀(l:List Ld),(∀x∈l,1≤x.wt∧x.wt≤1073741824)→∀(s:Int),0≤s→0≤l.foldl (zbx L i d) s∧l.foldl (zbx L i d) s≤s+1073741824* (l.length:Int)
 | [],_,s,h=>by simp;exact h
 |x :: r,hx,s,h=>by
  have h1:=hx x (by simp); (have hs:0≤zbx L i d s x∧zbx L i d s x≤s+1073741824:=by unfold zbx;split <;> omega);have:=zlu L i d r (fun y hy=>hx y (by simp [hy])) (zbx L i d s x) hs.1;simp only [List.foldl_cons,List.length_cons];omega
def zc7 (L:Ws)(i d:Nat)(l:List Ld):Int:=l.foldl (zbx L i d) 0
theorem zmp {L:Ws}{l:List Ld}{i d:Nat}(hl:l.length≤1024)(hw:∀x∈l,1≤x.wt∧x.wt≤1073741824)(k:Nat):0≤zc7 L i d (l.take k)∧zc7 L i d (l.take k)≤1099511627776:=by
 have:=zlu L i d (l.take k) (fun x hx=>hw x (List.mem_of_mem_take hx)) 0 (Int.le_refl _); (have hk:(l.take k).length≤1024:=by rw [List.length_take];omega);unfold zc7;omega
def zdE (lost:Int)(d:Nat)(g:BitVec 64)(x:Cp):BitVec 64:=if (x.lo≤(d:Int)∧(d:Int)≤x.hi)∧x.mx<lost then g ||| 1#64 <<< d else g
def zbH (Y:Tb)(L:Ws)(i:Nat)(g:BitVec 64)(x:Ld):BitVec 64:=
 if ((only L x.to.toNat:Int)<x.lo∨x.hi<(only L x.to.toNat:Int))∨g.getLsbD (only L x.to.toNat)=true then g
 else (Y.cs x.to.toNat).foldl (zdE (zc7 L i (only L x.to.toNat) (Y.inn x.to.toNat)) (only L x.to.toNat)) g
def zdb (Y:Tb)(L:Ws)(i:Nat):BitVec 64:=(Y.out i).foldl (zbH Y L i) 0#64
theorem zi7 (sp:Nat)(Y:Tb)(L:Ws)(c:Bool)(i:Nat)(z:Int)(hz:z=(i:Int))(hi:i<Y.n)(w:World)(h:StateAt w sp Y L c)(hok:Y.Ok):Calls Tryz.prog 94 #[.pointer (some ⟨sp,0,none⟩), .int .i64 z] w fun e w'=>e= .returned (U (zdQ Y L i))∧Below w.heap.size w w':=by
 subst hz;obtain ⟨tp,hsp0,hT⟩:=h.tb;obtain ⟨vL,hsp1,hL⟩:=h.left;obtain ⟨AL,capL,rfl,hLs⟩:=hL.op;have hLn:=h.len;obtain ⟨vC,hC0,hC⟩:=hT.cs.at';obtain ⟨AC,capC,rfl,hCs⟩:=hC.op;have hCn:=hT.cs.len;obtain ⟨gC,oC,rfl,hCc⟩:=hCs (by omega);rw [hCn] at hC0;have hCi:=hCc i (by rw [hCn];exact hi);obtain ⟨BC,cpC,hvC,hslC⟩:=(hT.cs.each i hi).op;simp only [hvC] at hCi;obtain ⟨vI,hI0,hI⟩:=hT.inn.at';obtain ⟨AI,capI,rfl,hIs⟩:=hI.op;have hIn:=hT.inn.len;obtain ⟨gI,oI,rfl,hIc⟩:=hIs (by omega);rw [hIn] at hI0;have hIi:=hIc i (by rw [hIn];exact hi);obtain ⟨BI,cpI,hvI,hslI⟩:=(hT.inn.each i hi).op;simp only [hvI] at hIi;obtain ⟨hlenC,hrngC⟩:=hok.cs i hi;obtain ⟨hlen,hrng⟩:=hok.inn i hi;have hn512:=hok.n; (have hwt:∀x∈Y.inn i,1≤x.wt∧x.wt≤1073741824:=fun x hx=>by have:=hrng x hx;omega);refine zac (M:=fun _=>False) (hs:=[]) Tryz.func94 rfl rfl rfl (Hp.refl _ _) ?_;refine T.sr ?_;refine TL.run 1 rfl ?_;refine TL.ns (T.seq (T.sr ?_));refine TL.run 2 rfl ?_;refine TL.y (Yv.fieldAddr rfl rfl) ?_;refine TL.y (Yv.aw rfl rfl hsp0 (fun h=>h)) ?_;refine TL.run 1 rfl ?_;refine TL.y (Yv.fieldAddr rfl rfl) ?_;refine TL.y (Yv.aw rfl rfl hC0 (fun h=>h)) ?_;refine TL.run 1 rfl ?_;refine TL.y (Yv.ai rfl rfl rfl rfl (by omega)) ?_;refine TL.y (Yv.loadC (j:=0) rfl rfl hCi rfl rfl (fun h=>h)) ?_;refine TL.y (Yv.ax rfl rfl) ?_;refine TL.run 1 rfl ?_;refine TL.ns ?_;refine T.cond rfl (fun h1=>?_) (fun h1=>?_)
 ·have p1:=h1; (try simp only [nfB] at p1);refine T.sr ?_;refine TL.run 1 rfl ?_;refine TL.ns (T.ret (K.aa ?_));exact K.ah rfl rfl (fun w' hw=>⟨by rw [zdQ,List.eq_nil_of_length_eq_zero (show (Y.cs i).length=0 by omega)];rfl,hw.isBelow⟩)
 ·have p1:=h1; (try simp only [nfB] at p1);refine T.skip (K.seq (T.sr ?_)); (refine TL.ew (Wt.none rfl) rfl rfl (Ew.alloc rfl) ?_;rintro _ _ ⟨g5,rfl,rfl⟩);refine TL.ns ?_;refine T.cut (gs:=[(0, .pointer (some ⟨sp,0,none⟩)),(1, .int .i64 (i:Int)),(5, .pointer (some ⟨g5,0,none⟩))]) (hs':=[.row g5 177 (zci (zbb L (Y.inn i)))]) ?_ ?_
  ·skip;refine T.sr ?_;refine TL.run 2 rfl ?_;refine TL.y (Yv.fieldAddr rfl rfl) ?_;refine TL.y (Yv.aw rfl rfl hsp0 (fun h=>h)) ?_;refine TL.run 1 rfl ?_;refine TL.y (Yv.fieldAddr rfl rfl) ?_;refine TL.y (Yv.aw rfl rfl hI0 (fun h=>h)) ?_;refine TL.run 1 rfl ?_;refine TL.y (Yv.ai rfl rfl rfl rfl (by omega)) ?_;refine TL.y (Yv.loadC (j:=0) rfl rfl hIi rfl rfl (fun h=>h)) ?_;refine TL.y (Yv.ax rfl rfl) ?_;refine TL.run 1 rfl ?_;refine TL.ns (T.block ?_);refine T.loop (ι:=Nat) (fun k=>[(0, .pointer (some ⟨sp,0,none⟩)),(1, .int .i64 (i:Int)),(5, .pointer (some ⟨g5,0,none⟩)),(34, .slice BI (Y.inn i).length cpI),(35, .int .i64 ((Y.inn i).length:Int)),(36, .int .i64 (k:Int))]) (fun k=>[.row g5 177 (zci (zbb L ((Y.inn i).take k)))]) (fun k=>k≤(Y.inn i).length) (fun k=>(Y.inn i).length - k) 0 ?_ ?_ ?_ ?_
   ·omega
   ·exact (by repeat (first|exact Sub.nil|refine Sub.cons rfl ?_))
   ·exact Sx
   ·intro k hphi;refine T.sr ?_;refine TL.run 1 rfl ?_;refine TL.ns (T.seq ?_);refine T.cond rfl (fun h2=>?_) (fun h2=>?_)
    ·have p2:=h2; (try simp only [nfB] at p2);obtain ⟨g,off,rfl,hc⟩:=hslI (by omega);have hk:=hc k (by omega);simp only [Ld.cells] at hk;have hr:=hrng _ (zaY (xs:=Y.inn i) (k:=k) (by omega));have oa:=zgi L (nth (Y.inn i) k).fr.toNat;refine T.skip (K.seq (T.seq (T.block (T.sr ?_))));refine TL.y (Yv.ai rfl rfl rfl rfl (by omega)) ?_;refine TL.y (Yv.aC rfl rfl hk rfl (fun h=>h)) ?_; (refine TL.ew (Wt.none rfl) rfl rfl (Ew.alloc rfl) ?_;rintro _ _ ⟨g7,rfl,rfl⟩); (refine TL.aF (Wt.none rfl) rfl (Ew.ak 0 rfl rfl rfl rfl rfl rfl) ?_;rintro _ _ ⟨rfl,rfl⟩);refine TL.nx ?_;refine TL.run 1 rfl ?_;refine TL.y (Yv.fieldAddr rfl rfl) ?_;refine TL.y (Yv.ac 0 rfl rfl rfl rfl) ?_; (refine TL.ew (Wt.none rfl) rfl rfl (Ew.af rfl rfl rfl (fun w hw=>zcY sp Y L c (nth (Y.inn i) k).fr.toNat _ (by omega) (by omega) w (h.kept hw))) ?_;rintro _ _ ⟨rfl,rfl⟩);refine TL.run 1 rfl ?_;refine TL.nx ?_;refine TL.y (Yv.fieldAddr rfl rfl) ?_;refine TL.y (Yv.ac 0 rfl rfl rfl rfl) ?_;refine TL.run 3 rfl ?_;refine TL.aq rfl rfl rfl (fun h3=>?_) (fun h3=>?_)
     ·have p3:=h3; (try simp only [nfB] at p3);refine TL.yv (Wt.some rfl rfl rfl h3) rfl rfl (Yv.aB rfl) ?_;refine TL.yv (Wt.some rfl rfl rfl h3) rfl rfl (Yv.fieldAddr rfl rfl) ?_;refine TL.yv (Wt.some rfl rfl rfl h3) rfl rfl (Yv.ac 0 rfl rfl rfl rfl) ?_;refine TL.yv (Wt.some rfl rfl rfl h3) rfl rfl (Yv.aB rfl) ?_;refine TL.y (Yv.au rfl rfl h3 rfl) ?_;refine TL.ns ?_;refine T.cond rfl (fun h4=>?_) (fun h4=>?_)
      ·have p4:=h4; (try simp only [nfB] at p4);have hld:=zfF (f:=zbb L ((Y.inn i).take k)) (d:=only L (nth (Y.inn i) k).fr.toNat) (p:=0+only L (nth (Y.inn i) k).fr.toNat*1) (by omega) (by omega);have hbd:=zl1 (L:=L) hlen hwt k (only L (nth (Y.inn i) k).fr.toNat);refine T.as (.still 0 (.still 1 (.still 3 (.still 4 (.eff 2 (.still 5 (.still 6 (.eff 7 .done)))))))) (List.eraseIdx _ 1) (by kernel_rfl) (List.eraseIdx_sublist _ _) ?_;refine TS.run 1 rfl ?_;refine TS.y rfl (Yv.ay rfl rfl rfl rfl (by omega)) ?_;refine TS.y rfl (Yv.fieldAddr rfl rfl) ?_;refine TS.y rfl (Yv.ac 0 rfl rfl rfl rfl) ?_;refine TS.eff ?_;refine TSo.yv rfl (Wt.none rfl) rfl rfl (Yv.ac 1 rfl rfl rfl hld) Sx ?_;refine TS.y rfl (Yv.an rfl rfl rfl (by omega)) ?_;refine TS.y rfl (Yv.ay rfl rfl rfl rfl (by omega)) ?_;refine TS.eff ?_; (refine TSo.aF rfl (Wt.none rfl) rfl (Ew.aT 1 (zci (zbb L ((Y.inn i).take (k+1)))) rfl rfl rfl rfl (by rw [zh0];omega) (zid (d:=only L (nth (Y.inn i) k).fr.toNat) (by omega) (by omega) (by rw [zee (by omega),za6,if_pos ⟨by omega,by omega,rfl⟩]) (fun e he=>by rw [zee (by omega),za6,if_neg (fun hh=>he hh.2.2.symm)]))) ?_;rintro _ _ ⟨rfl,rfl⟩;refine ⟨Sx,?_⟩);refine TS.done ?_;refine K.ad (K.seq (T.region ?_));refine TL.y (Yv.an rfl rfl rfl (by omega)) ?_;refine TL.run 1 rfl ?_;refine TL.nil ?_;exact K.next (k+1) (by omega) (by omega) (by repeat (first|exact Sub.nil|refine Sub.cons rfl ?_)) Sx
      ·have p4:=h4; (try simp only [nfB] at p4);refine T.skip (K.ad (K.seq (T.region ?_)));refine TL.y (Yv.an rfl rfl rfl (by omega)) ?_;refine TL.run 1 rfl ?_;refine TL.nil ?_;exact K.next (k+1) (by omega) (by omega) (by repeat (first|exact Sub.nil|refine Sub.cons rfl ?_)) (by rw [zee (by omega),show za6 L (zbb L ((Y.inn i).take k)) (nth (Y.inn i) k)=zbb L ((Y.inn i).take k) from funext fun d=>by unfold za6;exact if_neg (fun hh=>absurd hh.2.1 (by omega))];exact Sx)
     ·have p3:=h3; (try simp only [nfB] at p3);refine TL.off (Wt.not rfl rfl rfl h3) rfl rfl ?_;refine TL.off (Wt.not rfl rfl rfl h3) rfl rfl ?_;refine TL.off (Wt.not rfl rfl rfl h3) rfl rfl ?_;refine TL.off (Wt.not rfl rfl rfl h3) rfl rfl ?_;refine TL.y (Yv.av rfl rfl h3 rfl) ?_;refine TL.ns ?_;refine T.aJ rfl rfl ?_;refine T.skip (K.ad (K.seq (T.region ?_)));refine TL.y (Yv.an rfl rfl rfl (by omega)) ?_;refine TL.run 1 rfl ?_;refine TL.nil ?_;exact K.next (k+1) (by omega) (by omega) (by repeat (first|exact Sub.nil|refine Sub.cons rfl ?_)) (by rw [zee (by omega),show za6 L (zbb L ((Y.inn i).take k)) (nth (Y.inn i) k)=zbb L ((Y.inn i).take k) from funext fun d=>by unfold za6;exact if_neg (fun hh=>absurd hh.1 (by omega))];exact Sx)
    ·have p2:=h2; (try simp only [nfB] at p2);refine T.exit (K.ab (K.ab (K.ae ?_)));exact K.at (by repeat (first|exact Sub.nil|refine Sub.cons rfl ?_)) (by rw [show (Y.inn i).take k=Y.inn i from List.take_of_length_le (by omega)];exact Sx)
  ·skip;refine T.sr ?_;refine TL.run 1 rfl ?_;refine TL.ns (T.seq (T.sr ?_));refine TL.run 2 rfl ?_;refine TL.y (Yv.fieldAddr rfl rfl) ?_;refine TL.y (Yv.aw rfl rfl hsp0 (fun h=>h)) ?_;refine TL.run 1 rfl ?_;refine TL.y (Yv.fieldAddr rfl rfl) ?_;refine TL.y (Yv.aw rfl rfl hC0 (fun h=>h)) ?_;refine TL.run 1 rfl ?_;refine TL.y (Yv.ai rfl rfl rfl rfl (by omega)) ?_;refine TL.y (Yv.loadC (j:=0) rfl rfl hCi rfl rfl (fun h=>h)) ?_;refine TL.y (Yv.ax rfl rfl) ?_;refine TL.run 1 rfl ?_;refine TL.ns (T.block ?_);refine T.loop (ι:=Nat) (fun k=>[(0, .pointer (some ⟨sp,0,none⟩)),(1, .int .i64 (i:Int)),(5, .pointer (some ⟨g5,0,none⟩)),(9,U (((Y.cs i).take k).foldl (zd3 (zbb L (Y.inn i))) 0#64)),(71, .slice BC (Y.cs i).length cpC),(72, .int .i64 ((Y.cs i).length:Int)),(73, .int .i64 (k:Int))]) (fun k=>[.row g5 177 (zci (zbb L (Y.inn i)))]) (fun k=>k≤(Y.cs i).length) (fun k=>(Y.cs i).length - k) 0 ?_ ?_ ?_ ?_
   ·omega
   ·exact (by repeat (first|exact Sub.nil|refine Sub.cons rfl ?_))
   ·exact Sx
   ·intro k hphi;refine T.sr ?_;refine TL.run 1 rfl ?_;refine TL.ns (T.seq ?_);refine T.cond rfl (fun h5=>?_) (fun h5=>?_)
    ·have p5:=h5; (try simp only [nfB] at p5);obtain ⟨g,off,rfl,hc⟩:=hslC (by omega);have hk:=hc k (by omega);simp only [Cp.cells] at hk;have hr:=hrngC _ (zaY (xs:=Y.cs i) (k:=k) (by omega));refine T.skip (K.seq ?_);refine T.cut (gs:=[(0, .pointer (some ⟨sp,0,none⟩)),(1, .int .i64 (i:Int)),(5, .pointer (some ⟨g5,0,none⟩)),(9,U (((Y.cs i).take (k+1)).foldl (zd3 (zbb L (Y.inn i))) 0#64)),(71, .slice (some ⟨g,off,none⟩) (Y.cs i).length cpC),(72, .int .i64 ((Y.cs i).length:Int)),(73, .int .i64 (k:Int))]) (hs':=[.row g5 177 (zci (zbb L (Y.inn i)))]) ?_ ?_
     ·skip;refine T.block (T.sr ?_);refine TL.y (Yv.ai rfl rfl rfl rfl (by omega)) ?_;refine TL.y (Yv.aC rfl rfl hk rfl (fun h=>h)) ?_; (refine TL.ew (Wt.none rfl) rfl rfl (Ew.alloc rfl) ?_;rintro _ _ ⟨g11,rfl,rfl⟩); (refine TL.aF (Wt.none rfl) rfl (Ew.ak 0 rfl rfl rfl rfl rfl rfl) ?_;rintro _ _ ⟨rfl,rfl⟩);refine TL.nx ?_;refine TL.y (Yv.fieldAddr rfl rfl) ?_;refine TL.y (Yv.ac 0 rfl rfl rfl rfl) ?_;refine TL.run 1 rfl ?_;refine TL.ns (T.block ?_);refine T.loop (ι:=Nat) (fun j=>[(0, .pointer (some ⟨sp,0,none⟩)),(1, .int .i64 (i:Int)),(5, .pointer (some ⟨g5,0,none⟩)),(9,U ((List.range' (nth (Y.cs i) k).lo.toNat j).foldl (zhu (zbb L (Y.inn i)) (nth (Y.cs i) k).mx) (((Y.cs i).take k).foldl (zd3 (zbb L (Y.inn i))) 0#64))),(11, .pointer (some ⟨g11,0,none⟩)),(12, .int .i64 ((nth (Y.cs i) k).lo+(j:Int))),(71, .slice (some ⟨g,off,none⟩) (Y.cs i).length cpC),(72, .int .i64 ((Y.cs i).length:Int)),(73, .int .i64 (k:Int))]) (fun j=>[.row g11 81 [.int .i64 (nth (Y.cs i) k).st, .int .i64 (nth (Y.cs i) k).mx, .int .i64 (nth (Y.cs i) k).lo, .int .i64 (nth (Y.cs i) k).hi], .row g5 177 (zci (zbb L (Y.inn i)))]) (fun j=>(nth (Y.cs i) k).lo+(j:Int)≤(nth (Y.cs i) k).hi+1) (fun j=>((nth (Y.cs i) k).hi+1 - (nth (Y.cs i) k).lo).toNat - j) 0 ?_ ?_ ?_ ?_
      ·omega
      ·exact (by repeat (first|exact Sub.nil|refine Sub.cons rfl ?_|(refine Sub.consI rfl (by omega) ?_)))
      ·exact Sx
      ·intro j hphi;refine T.seq (T.sr ?_);refine TL.run 1 rfl ?_;refine TL.y (Yv.fieldAddr rfl rfl) ?_;refine TL.y (Yv.ac 0 rfl rfl rfl rfl) ?_;refine TL.run 1 rfl ?_;refine TL.ns ?_;refine T.cond rfl (fun h6=>?_) (fun h6=>?_)
       ·have p6:=h6; (try simp only [nfB] at p6);have hld:=zfF (f:=zbb L (Y.inn i)) (d:=(nth (Y.cs i) k).lo.toNat+j) (p:=0+((nth (Y.cs i) k).lo.toNat+j) *1) (by omega) (by omega);refine T.skip (K.seq (T.seq (T.block (T.seq ?_))));refine T.as (.still 0 (.still 1 (.still 2 (.still 3 (.still 4 (.still 5 .done)))))) _ (by kernel_rfl) (List.Sublist.refl _) ?_;refine TS.run 1 rfl ?_;refine TS.y rfl (Yv.ay rfl rfl rfl (show (_:Int)=(((nth (Y.cs i) k).lo.toNat+j:Nat):Int) from by omega) (by omega)) ?_;refine TS.y rfl (Yv.ac 1 rfl rfl rfl hld) ?_;refine TS.y rfl (Yv.fieldAddr rfl rfl) ?_;refine TS.y rfl (Yv.ac 0 rfl rfl rfl rfl) ?_;refine TS.run 1 rfl ?_;refine TS.done ?_;refine K.seq ?_;refine T.cond rfl (fun h7=>?_) (fun h7=>?_)
        ·have p7:=h7; (try simp only [nfB] at p7);refine T.region ?_;refine TL.run 2 rfl ?_;refine TL.y (Yv.bi (a:=1#64) ((nth (Y.cs i) k).lo.toNat+j) rfl rfl rfl (by omega) (by omega)) ?_;refine TL.y (Yv.orV rfl rfl rfl) ?_;refine TL.run 1 rfl ?_;refine TL.nil (K.ad (K.seq (T.region ?_)));refine TL.run 1 rfl ?_;refine TL.y (Yv.an rfl rfl rfl (by omega)) ?_;refine TL.run 1 rfl ?_;refine TL.nil ?_;exact K.next (j+1) (by omega) (by omega) (by rw [List.range'_1_concat,List.foldl_append];simp only [List.foldl_cons,List.foldl_nil];rw [zhu,if_pos (by omega)];repeat (first|exact Sub.nil|refine Sub.cons rfl ?_|(refine Sub.consI rfl (by omega) ?_))) Sx
        ·have p7:=h7; (try simp only [nfB] at p7);refine T.skip (K.ad (K.seq (T.region ?_)));refine TL.run 1 rfl ?_;refine TL.y (Yv.an rfl rfl rfl (by omega)) ?_;refine TL.run 1 rfl ?_;refine TL.nil ?_;exact K.next (j+1) (by omega) (by omega) (by rw [List.range'_1_concat,List.foldl_append];simp only [List.foldl_cons,List.foldl_nil];rw [zhu,if_neg (by omega)];repeat (first|exact Sub.nil|refine Sub.cons rfl ?_|(refine Sub.consI rfl (by omega) ?_))) Sx
       ·have p6:=h6; (try simp only [nfB] at p6);refine T.exit (K.ab (K.ab (K.ae (K.ad ?_))));exact K.at (by rw [zaA _ _ (by omega),zd3,show (nth (Y.cs i) k).hi.toNat+1 - (nth (Y.cs i) k).lo.toNat=j by omega];exact (by repeat (first|exact Sub.nil|refine Sub.cons rfl ?_))) Sx
     ·skip;refine T.region ?_;refine TL.y (Yv.an rfl rfl rfl (by omega)) ?_;refine TL.run 1 rfl ?_;refine TL.nil ?_;exact K.next (k+1) (by omega) (by omega) (by repeat (first|exact Sub.nil|refine Sub.cons rfl ?_)) Sx
    ·have p5:=h5; (try simp only [nfB] at p5);refine T.exit (K.ab (K.ab (K.ae (K.seq (T.sr ?_)))));refine TL.run 2 rfl ?_;refine TL.ns (T.ret ?_);exact K.ah rfl rfl (fun w' hw=>⟨by rw [zdQ,List.take_of_length_le (by omega)],hw.isBelow⟩)
end Go.Proofs.YtbpbhbkcahcdiaaGreatDoor
