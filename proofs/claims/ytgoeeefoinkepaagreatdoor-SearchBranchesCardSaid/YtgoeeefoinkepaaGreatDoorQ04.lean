/- A B C D: shortened and put together by squeeze.py. -/
import Derived.Test.YtgoeeefoinkepaaGreatDoorQ03
set_option maxRecDepth 100000
set_option maxHeartbeats 4000000
set_option linter.unusedVariables false
set_option linter.unusedSectionVars false
set_option linter.unusedSimpArgs false
namespace Go.Proofs.YtgoeeefoinkepaaGreatDoor
open Go.RowKit
def inB (n a b:Int):Bool:=decide (a≤n)&&decide (n≤b)
def eC (lo hi:Int):Bool:=decide (2≤lo)&&(decide (lo≤hi)&&decide (hi≤51))
def Ie (z:Int):List Value:=[.int .i64 z]
abbrev zft (w:World)(v:Value)(l:List Int):Prop:=SlOf w v Ie 1 l
structure Dx where
 st:Int
 v:Value
 chs:List Int
instance:Inhabited Dx:=⟨⟨0, .slice none 0 0,[]⟩⟩
def Dx.cells (d:Dx):List Value:=[.int .i64 d.st,d.v]
structure Pr where
 a:Int
 b:Int
 off:Int
 lo:Int
 hi:Int
deriving DecidableEq,Inhabited
def Pr.cells (x:Pr):List Value:=[.int .i64 x.a, .int .i64 x.b, .int .i64 x.off, .int .i64 x.lo, .int .i64 x.hi]
structure Ld where
 to:Int
 fr:Int
 wt:Int
 lo:Int
 hi:Int
deriving DecidableEq,Inhabited
def Ld.cells (x:Ld):List Value:=[.int .i64 x.to, .int .i64 x.fr, .int .i64 x.wt, .int .i64 x.lo, .int .i64 x.hi]
structure Cp where
 st:Int
 mx:Int
 lo:Int
 hi:Int
deriving DecidableEq,Inhabited
def Cp.cells (x:Cp):List Value:=[.int .i64 x.st, .int .i64 x.mx, .int .i64 x.lo, .int .i64 x.hi]
structure Ch where
 st:Int
 ch:Int
deriving DecidableEq,Inhabited
def Ch.cells (x:Ch):List Value:=[.int .i64 x.st, .int .i64 x.ch]
abbrev PrsAt (w:World)(v:Value)(l:List Pr):Prop:=SlOf w v Pr.cells 5 l
abbrev LdsAt (w:World)(v:Value)(l:List Ld):Prop:=SlOf w v Ld.cells 5 l
abbrev CpsAt (w:World)(v:Value)(l:List Cp):Prop:=SlOf w v Cp.cells 4 l
structure DomsAt (w:World) (v:Value) (l:List Dx):Prop where
 sl:SlOf w v Dx.cells 2 l
 each:∀d∈l,zft w d.v d.chs
theorem SlOf.one {α:Type}{w:World}{v:Value}{enc:α→List Value}{size:Nat}{xs:List α}(h:SlOf w v enc size xs):OneC v:=by
 obtain ⟨A,cap,rfl,_⟩:=h;exact inferInstance
theorem gR {α:Type}[Inhabited α]{xs:List α}{k:Nat}(h:k<xs.length):cD xs k∈xs:=by rw [d9 h];exact List.getElem_mem _
theorem DomsAt.at {w:World}{v:Value}{l:List Dx}(h:DomsAt w v l){k:Nat}(hk:k<l.length):zft w (cD l k).v (cD l k).chs:=h.each _ (gR hk)
theorem DomsAt.kept {B w:World}{hs:HS}{v:Value}{l:List Dx}(hw:Hp B (fun _=>False) hs w)(h:DomsAt B v l):DomsAt w v l:=⟨h.sl.kept hw,fun d hd=>(h.each d hd).kept hw⟩
structure Pb where
 ds:List Dx
 ps:List Pr
 ls:List Ld
 cs:List Cp
structure RulesAt (w:World) (vp vl vc:Value) (P:Pb):Prop where
 ps:PrsAt w vp P.ps
 ls:LdsAt w vl P.ls
 cs:CpsAt w vc P.cs
 hps:P.ps.length≤9223372036854775807
 hls:P.ls.length≤9223372036854775807
 hcs:P.cs.length≤9223372036854775807
structure ProbAt (w:World) (vd vp vl vc:Value) (P:Pb):Prop where
 ds:DomsAt w vd P.ds
 ru:RulesAt w vp vl vc P
 hds:P.ds.length≤9223372036854775807
 hch:∀d∈P.ds,d.chs.length≤9223372036854775807
theorem RulesAt.kept {B w:World}{hs:HS}{vp vl vc:Value}{P:Pb}(hw:Hp B (fun _=>False) hs w)(h:RulesAt B vp vl vc P):RulesAt w vp vl vc P:=⟨h.ps.kept hw,h.ls.kept hw,h.cs.kept hw,h.hps,h.hls,h.hcs⟩
theorem ProbAt.kept {B w:World}{hs:HS}{vd vp vl vc:Value}{P:Pb}(hw:Hp B (fun _=>False) hs w)(h:ProbAt B vd vp vl vc P):ProbAt w vd vp vl vc P:=⟨h.ds.kept hw,h.ru.kept hw,h.hds,h.hch⟩
def dC (a b:Int):Int:=if a<b then -1 else if b<a then 1 else 0
def eQ {α:Type}[Inhabited α](c:α→α→Int)(xs:List α):Bool:=(List.range xs.length).all fun k=>decide (k=0)|| !decide (0≤c (cD xs (k - 1)) (cD xs k))
def fh {α:Type}[Inhabited α](q:α→Bool)(xs:List α):Bool:=(List.range xs.length).all fun k=>q (cD xs k)
def lg:List Int→Int
 | []=>0
 |x :: r=>if x=0 then lg r else x
theorem zin {l:List Int}{k:Nat}(h:k<l.length):lg (l.drop k)=if cD l k=0 then lg (l.drop (k+1)) else cD l k:=by
 rw [List.drop_eq_getElem_cons h,d9 h];rfl
theorem zcA (n a b:Int)(w:World):Calls Tryz.prog 60 #[.int .i64 n, .int .i64 a, .int .i64 b] w fun e w'=>e= .returned (.bool (inB n a b))∧Below w.heap.size w w':=by
 refine dt (M:=fun _=>False) (hs:=[]) Tryz.func60 rfl rfl rfl (Hp.refl _ _) ?_;refine jo ?_;refine TL.run 4 rfl ?_;refine dd rfl rfl rfl (fun h1=>?_) (fun h1=>?_)
 ·have p1:=h1; (try simp only [cN] at p1);refine jd ?_;refine jd ?_;refine jd ?_;refine jU ?_;refine eT ?_;refine cQ rfl rfl (fun w' hw=>⟨?_,hw.isBelow⟩);exact q4u
 ·have p1:=h1; (try simp only [cN] at p1);refine q1g ?_;refine eT ?_;refine cQ rfl rfl (fun w' hw=>⟨?_,hw.isBelow⟩);exact q4u
theorem zbI (n:Int)(w:World):Calls Tryz.prog 59 #[.int .i64 n] w fun e w'=>e= .returned (.bool (inB n 0 511))∧Below w.heap.size w w':=by
 refine dt (M:=fun _=>False) (hs:=[]) Tryz.func59 rfl rfl rfl (Hp.refl _ _) ?_;refine jo ?_;refine c6 ?_; (refine cH (Wt.none) rfl rfl (cI rfl rfl rfl (fun w hw=>zcA _ _ _ _)) ?_;rintro _ _ ⟨rfl,rfl⟩);refine eT ?_;refine cQ rfl rfl (fun w' hw=>⟨?_,hw.isBelow⟩)
 rfl
theorem zdQ (lo hi:Int)(w:World):Calls Tryz.prog 110 #[.int .i64 lo, .int .i64 hi] w fun e w'=>e= .returned (.bool (eC lo hi))∧Below w.heap.size w w':=by
 refine dt (M:=fun _=>False) (hs:=[]) Tryz.func110 rfl rfl rfl (Hp.refl _ _) ?_;refine jo ?_;refine eu ?_;refine dd rfl rfl rfl (fun h1=>?_) (fun h1=>?_)
 ·have p1:=h1; (try simp only [cN] at p1);refine jd ?_;refine jd ?_;refine jd ?_;refine jU ?_;refine c6 ?_;refine dd rfl rfl rfl (fun h2=>?_) (fun h2=>?_)
  ·have p2:=h2; (try simp only [cN] at p2);refine lh ?_;refine lh ?_;refine q2z ?_;refine eT ?_;refine cQ rfl rfl (fun w' hw=>⟨?_,hw.isBelow⟩);exact q4j
  ·have p2:=h2; (try simp only [cN] at p2);refine q1L ?_;refine eT ?_;refine cQ rfl rfl (fun w' hw=>⟨?_,hw.isBelow⟩);exact q4j
 ·have p1:=h1; (try simp only [cN] at p1);refine q1g ?_;refine ke ?_;refine f9 ?_;refine cQ rfl rfl (fun w' hw=>⟨?_,hw.isBelow⟩);exact q4j
theorem zhg (n:Int)(w:World):Calls Tryz.prog 90 #[.int .i64 n] w fun e w'=>e= .returned (.bool false)∧Below w.heap.size w w':=by
 refine dt (M:=fun _=>False) (hs:=[]) Tryz.func90 rfl rfl rfl (Hp.refl _ _) ?_;refine jo ?_;refine TL.run 4 rfl ?_;refine f9 ?_;refine cQ rfl rfl (fun w' hw=>⟨?_,hw.isBelow⟩);exact jk b2
theorem jW (a b:Int)(w:World):Calls Tryz.prog 49 #[.int .i64 a, .int .i64 b] w fun e w'=>e= .returned (.int .i64 (dC a b))∧Below w.heap.size w w':=by
 refine dt (M:=fun _=>False) (hs:=[]) Tryz.func49 rfl rfl rfl (Hp.refl _ _) ?_;refine jo ?_;refine c6 ?_; (refine cH (Wt.none) rfl rfl (cI rfl rfl rfl (fun w hw=>zhg _ _)) ?_;rintro _ _ ⟨rfl,rfl⟩);refine lB ?_; (refine cH (Wt.none) rfl rfl (cI rfl rfl rfl (fun w hw=>zhg _ _)) ?_;rintro _ _ ⟨rfl,rfl⟩);refine jx ?_;refine dF ?_;refine gk rfl rfl ?_;refine jC ?_;refine dF ?_;refine gk rfl rfl ?_;refine jC ?_;refine eu ?_;refine cO ?_;refine T.cond rfl (fun h1=>?_) (fun h1=>?_)
 ·have p1:=h1; (try simp only [cN] at p1);refine il ?_;refine cQ rfl rfl (fun w' hw=>⟨?_,hw.isBelow⟩);exact q4k
 ·have p1:=h1; (try simp only [cN] at p1);refine jC ?_;refine eu ?_;refine cO ?_;refine T.cond rfl (fun h2=>?_) (fun h2=>?_)
  ·have p2:=h2; (try simp only [cN] at p2);refine il ?_;refine cQ rfl rfl (fun w' hw=>⟨?_,hw.isBelow⟩);exact q4k
  ·have p2:=h2; (try simp only [cN] at p2);refine ig ?_;refine eT ?_;refine cQ rfl rfl (fun w' hw=>⟨?_,hw.isBelow⟩);exact q4k
theorem zjI (l:List Int)(v:Value)(w:World)(h:zft w v l)(hl:l.length≤9223372036854775807):Calls Tryz.prog 111 #[v] w fun e w'=>e= .returned (.int .i64 (lg l))∧Below w.heap.size w w':=by
 obtain ⟨A,cap,rfl,hsl⟩:=h.op;refine dt (M:=fun _=>False) (hs:=[]) Tryz.func111 rfl rfl rfl (Hp.refl _ _) ?_;refine jo ?_;refine q3L ?_;refine iM ?_;refine T.loop (ι:=Nat) (fun k=>[(3, .int .i64 0),(6, .slice A l.length cap),(7, .int .i64 (l.length:Int)),(8, .int .i64 (k:Int))]) (fun k=>[]) (fun k=>k≤l.length∧lg (l.drop k)=lg l) (fun k=>l.length - k) 0 ?_ ?_ ?_ ?_
 ·exact ⟨by omega,rfl⟩
 ·exact (by repeat (first|exact Sub.nil|refine Sub.cons rfl ?_))
 ·exact Sx
 ·intro k hphi;obtain ⟨hkl,hor⟩:=hphi;refine eN ?_;refine T.cond rfl (fun h1=>?_) (fun h1=>?_)
  ·have p1:=h1; (try simp only [cN] at p1);obtain ⟨g,off,rfl,hc⟩:=hsl a6;have hk:=hc k a6;simp only [Ie] at hk;refine fq ?_;refine q1G ?_;refine gh ?_;refine eu ?_;refine cO ?_;refine T.cond rfl (fun h2=>?_) (fun h2=>?_)
   ·have p2:=h2; (try simp only [cN] at p2);refine hJ ?_;refine q0B ?_;refine cQ rfl rfl (fun w' hw=>⟨?_,hw.isBelow⟩);exact zcm (by rw [zin a6,if_neg b8] at hor;exact hor)
   ·have p2:=h2; (try simp only [cN] at p2);refine gG ?_;exact K.next (k+1) ⟨by omega,by rw [zin a6,if_pos b8] at hor;exact hor⟩ a6 (by repeat (first|exact Sub.nil|refine Sub.cons rfl ?_)) Sx
  ·have p1:=h1; (try simp only [cN] at p1);refine ld ?_;refine iX ?_;refine cQ rfl rfl (fun w' hw=>⟨?_,hw.isBelow⟩);exact zcm (by rw [List.drop_eq_nil_of_le a6] at hor;exact hor)
theorem zkv {q:Dx→Bool}(xs:List Dx)(v:Value)(f:FuncId)(caps:Array Value)(w:World)(h:SlOf w v Dx.cells 2 xs)(ho1:∀k,k<xs.length→OneC (cD xs k).v)[hE:Enters Tryz.prog f](hC:∀k,k<xs.length→∀w',Below w.heap.size w w'→Calls Tryz.prog f (.agg (Dx.cells (cD xs k)).toArray :: caps.toList).toArray w' fun e w''=>e= .returned (.bool (q (cD xs k)))∧Below w'.heap.size w' w'')(hl:xs.length≤9223372036854775807):Calls Tryz.prog 45 #[v, .func (.func f) #[] caps] w fun e w'=>e= .returned (.bool (fh q xs))∧Below w.heap.size w w':=by
 obtain ⟨A,cap,rfl,hsl⟩:=h.op;refine dt (M:=fun _=>False) (hs:=[]) Tryz.func45 rfl rfl rfl (Hp.refl _ _) ?_;refine iL ?_;refine iM ?_;refine T.loop (ι:=Nat) (fun k=>[(1, .func (.func f) #[] caps),(7, .slice A xs.length cap),(8, .int .i64 (xs.length:Int)),(9, .int .i64 (k:Int))]) (fun k=>[]) (fun k=>k≤xs.length∧∀j,j<k→q (cD xs j)=true) (fun k=>xs.length - k) 0 ?_ ?_ ?_ ?_
 ·exact q34
 ·exact (by repeat (first|exact Sub.nil|refine Sub.cons rfl ?_))
 ·exact Sx
 ·intro k hphi;obtain ⟨hkl,hall⟩:=hphi;refine eN ?_;refine T.cond rfl (fun h1=>?_) (fun h1=>?_)
  ·have p1:=h1; (try simp only [cN] at p1);obtain ⟨g,off,rfl,hc⟩:=hsl a6;have hk:=hc k a6;haveI:=ho1 k a6;simp only [Dx.cells] at hk;refine fq ?_;refine ku ?_; (refine cH (Wt.none) rfl rfl (Ew.alloc) ?_;rintro _ _ ⟨g6,rfl,rfl⟩); (refine dw (Wt.none) rfl (du 0) ?_;rintro _ _ ⟨rfl,rfl⟩);refine dp ?_;refine c6 ?_;refine iS ?_; (refine cH (Wt.none) rfl rfl (jE rfl rfl rfl (fun w hw=>hC k a6 w hw.isBelow)) ?_;rintro _ _ ⟨rfl,rfl⟩);refine dF ?_;refine T.cond rfl (fun h2=>?_) (fun h2=>?_)
   ·have p2:=h2; (try simp only [cN] at p2);refine iC ?_;refine cQ rfl rfl (fun w' hw=>⟨?_,hw.isBelow⟩);exact q35
   ·have p2:=h2; (try simp only [cN] at p2);refine gG ?_;exact K.next (k+1) ⟨by omega,zdj hall (by simpa using p2)⟩ a6 (by repeat (first|exact Sub.nil|refine Sub.cons rfl ?_)) Sx
  ·have p1:=h1; (try simp only [cN] at p1);refine q3M ?_;refine cQ rfl rfl (fun w' hw=>⟨?_,hw.isBelow⟩);exact q36
theorem zgl {c:Dx→Dx→Int}(xs:List Dx)(v:Value)(f:FuncId)(w:World)(h:SlOf w v Dx.cells 2 xs)(ho1:∀k,k<xs.length→OneC (cD xs k).v)[hE:Enters Tryz.prog f](hC:∀x y:Dx,OneC x.v→OneC y.v→∀w':World,Calls Tryz.prog f #[.agg (Dx.cells (x)).toArray, .agg (Dx.cells (y)).toArray] w' fun e w''=>e= .returned (.int .i64 (c x y))∧Below w'.heap.size w' w'')(hl:xs.length≤9223372036854775807):Calls Tryz.prog 50 #[v, .func (.func f) #[] #[]] w fun e w'=>e= .returned (.bool (eQ c xs))∧Below w.heap.size w w':=by
 obtain ⟨A,cap,rfl,hsl⟩:=h.op;refine dt (M:=fun _=>False) (hs:=[]) Tryz.func50 rfl rfl rfl (Hp.refl _ _) ?_;refine iL ?_;refine cO (T.block ?_);refine T.loop (ι:=Nat) (fun k=>[(0, .slice A xs.length cap),(1, .func (.func f) #[] #[]),(5, .int .i64 (k:Int))]) (fun k=>[]) (fun k=>1≤k∧∀j,j<k→j<xs.length→(decide (j=0)|| !decide (0≤c (cD xs (j - 1)) (cD xs j)))=true) (fun k=>xs.length - k) 1 ?_ ?_ ?_ ?_
 ·exact q37
 ·exact (by repeat (first|exact Sub.nil|refine Sub.cons rfl ?_))
 ·exact Sx
 ·intro k hphi;obtain ⟨hk0,hall⟩:=hphi;refine q2s ?_;refine T.cond rfl (fun h1=>?_) (fun h1=>?_)
  ·have p1:=h1; (try simp only [cN] at p1);obtain ⟨g,off,rfl,hc⟩:=hsl a6;have hk:=hc k a6;have hk1:=hc (k - 1) a6;have o1:=ho1 k a6;have o2:=ho1 (k - 1) a6;simp only [Dx.cells] at hk hk1;refine q0p ?_; (refine cV rfl (Wt.none) rfl rfl (cI rfl rfl rfl (fun w hw=>hC (cD xs (k - 1)) (cD xs k) o2 o1 w)) ?_;rintro _ _ ⟨rfl,rfl⟩;refine ⟨Sx,?_⟩);refine j4 ?_;refine T.cond rfl (fun h2=>?_) (fun h2=>?_)
   ·have p2:=h2; (try simp only [cN] at p2);refine iC ?_;refine cQ rfl rfl (fun w' hw=>⟨?_,hw.isBelow⟩);exact q38
   ·have p2:=h2; (try simp only [cN] at p2);refine iJ ?_;exact K.next (k+1) ⟨by omega,fun j hj hjl=>by rcases Nat.lt_or_ge j k with hh|hh;exact hall j hh hjl;rw [show j=k from by omega,decide_eq_false a6];simpa using p2⟩ a6 (by repeat (first|exact Sub.nil|refine Sub.cons rfl ?_)) Sx
  ·have p1:=h1; (try simp only [cN] at p1);refine q3M ?_;refine cQ rfl rfl (fun w' hw=>⟨?_,hw.isBelow⟩);exact q39
theorem zjD {q:Pr→Bool}(xs:List Pr)(v:Value)(f:FuncId)(caps:Array Value)(w:World)(h:SlOf w v Pr.cells 5 xs)[hE:Enters Tryz.prog f](hC:∀k,k<xs.length→∀w',Below w.heap.size w w'→Calls Tryz.prog f (.agg (Pr.cells (cD xs k)).toArray :: caps.toList).toArray w' fun e w''=>e= .returned (.bool (q (cD xs k)))∧Below w'.heap.size w' w'')(hl:xs.length≤9223372036854775807):Calls Tryz.prog 52 #[v, .func (.func f) #[] caps] w fun e w'=>e= .returned (.bool (fh q xs))∧Below w.heap.size w w':=by
 obtain ⟨A,cap,rfl,hsl⟩:=h.op;refine dt (M:=fun _=>False) (hs:=[]) Tryz.func52 rfl rfl rfl (Hp.refl _ _) ?_;refine iL ?_;refine iM ?_;refine T.loop (ι:=Nat) (fun k=>[(1, .func (.func f) #[] caps),(7, .slice A xs.length cap),(8, .int .i64 (xs.length:Int)),(9, .int .i64 (k:Int))]) (fun k=>[]) (fun k=>k≤xs.length∧∀j,j<k→q (cD xs j)=true) (fun k=>xs.length - k) 0 ?_ ?_ ?_ ?_
 ·exact q34
 ·exact (by repeat (first|exact Sub.nil|refine Sub.cons rfl ?_))
 ·exact Sx
 ·intro k hphi;obtain ⟨hkl,hall⟩:=hphi;refine eN ?_;refine T.cond rfl (fun h1=>?_) (fun h1=>?_)
  ·have p1:=h1; (try simp only [cN] at p1);obtain ⟨g,off,rfl,hc⟩:=hsl a6;have hk:=hc k a6;simp only [Pr.cells] at hk;refine fq ?_;refine ku ?_; (refine cH (Wt.none) rfl rfl (Ew.alloc) ?_;rintro _ _ ⟨g6,rfl,rfl⟩); (refine dw (Wt.none) rfl (du 0) ?_;rintro _ _ ⟨rfl,rfl⟩);refine dp ?_;refine c6 ?_;refine iS ?_; (refine cH (Wt.none) rfl rfl (jE rfl rfl rfl (fun w hw=>hC k a6 w hw.isBelow)) ?_;rintro _ _ ⟨rfl,rfl⟩);refine dF ?_;refine T.cond rfl (fun h2=>?_) (fun h2=>?_)
   ·have p2:=h2; (try simp only [cN] at p2);refine iC ?_;refine cQ rfl rfl (fun w' hw=>⟨?_,hw.isBelow⟩);exact q35
   ·have p2:=h2; (try simp only [cN] at p2);refine gG ?_;exact K.next (k+1) ⟨by omega,zdj hall (by simpa using p2)⟩ a6 (by repeat (first|exact Sub.nil|refine Sub.cons rfl ?_)) Sx
  ·have p1:=h1; (try simp only [cN] at p1);refine q3M ?_;refine cQ rfl rfl (fun w' hw=>⟨?_,hw.isBelow⟩);exact q36
theorem zgH {c:Pr→Pr→Int}(xs:List Pr)(v:Value)(f:FuncId)(w:World)(h:SlOf w v Pr.cells 5 xs)[hE:Enters Tryz.prog f](hC:∀x y:Pr,∀w':World,Calls Tryz.prog f #[.agg (Pr.cells (x)).toArray, .agg (Pr.cells (y)).toArray] w' fun e w''=>e= .returned (.int .i64 (c x y))∧Below w'.heap.size w' w'')(hl:xs.length≤9223372036854775807):Calls Tryz.prog 82 #[v, .func (.func f) #[] #[]] w fun e w'=>e= .returned (.bool (eQ c xs))∧Below w.heap.size w w':=by
 obtain ⟨A,cap,rfl,hsl⟩:=h.op;refine dt (M:=fun _=>False) (hs:=[]) Tryz.func82 rfl rfl rfl (Hp.refl _ _) ?_;refine iL ?_;refine cO (T.block ?_);refine T.loop (ι:=Nat) (fun k=>[(0, .slice A xs.length cap),(1, .func (.func f) #[] #[]),(5, .int .i64 (k:Int))]) (fun k=>[]) (fun k=>1≤k∧∀j,j<k→j<xs.length→(decide (j=0)|| !decide (0≤c (cD xs (j - 1)) (cD xs j)))=true) (fun k=>xs.length - k) 1 ?_ ?_ ?_ ?_
 ·exact q37
 ·exact (by repeat (first|exact Sub.nil|refine Sub.cons rfl ?_))
 ·exact Sx
 ·intro k hphi;obtain ⟨hk0,hall⟩:=hphi;refine q2s ?_;refine T.cond rfl (fun h1=>?_) (fun h1=>?_)
  ·have p1:=h1; (try simp only [cN] at p1);obtain ⟨g,off,rfl,hc⟩:=hsl a6;have hk:=hc k a6;have hk1:=hc (k - 1) a6;simp only [Pr.cells] at hk hk1;refine q0p ?_; (refine cV rfl (Wt.none) rfl rfl (cI rfl rfl rfl (fun w hw=>hC (cD xs (k - 1)) (cD xs k) w)) ?_;rintro _ _ ⟨rfl,rfl⟩;refine ⟨Sx,?_⟩);refine j4 ?_;refine T.cond rfl (fun h2=>?_) (fun h2=>?_)
   ·have p2:=h2; (try simp only [cN] at p2);refine iC ?_;refine cQ rfl rfl (fun w' hw=>⟨?_,hw.isBelow⟩);exact q38
   ·have p2:=h2; (try simp only [cN] at p2);refine iJ ?_;exact K.next (k+1) ⟨by omega,fun j hj hjl=>by rcases Nat.lt_or_ge j k with hh|hh;exact hall j hh hjl;rw [show j=k from by omega,decide_eq_false a6];simpa using p2⟩ a6 (by repeat (first|exact Sub.nil|refine Sub.cons rfl ?_)) Sx
  ·have p1:=h1; (try simp only [cN] at p1);refine q3M ?_;refine cQ rfl rfl (fun w' hw=>⟨?_,hw.isBelow⟩);exact q39
theorem zi4 {q:Ld→Bool}(xs:List Ld)(v:Value)(f:FuncId)(caps:Array Value)(w:World)(h:SlOf w v Ld.cells 5 xs)[hE:Enters Tryz.prog f](hC:∀k,k<xs.length→∀w',Below w.heap.size w w'→Calls Tryz.prog f (.agg (Ld.cells (cD xs k)).toArray :: caps.toList).toArray w' fun e w''=>e= .returned (.bool (q (cD xs k)))∧Below w'.heap.size w' w'')(hl:xs.length≤9223372036854775807):Calls Tryz.prog 55 #[v, .func (.func f) #[] caps] w fun e w'=>e= .returned (.bool (fh q xs))∧Below w.heap.size w w':=by
 obtain ⟨A,cap,rfl,hsl⟩:=h.op;refine dt (M:=fun _=>False) (hs:=[]) Tryz.func55 rfl rfl rfl (Hp.refl _ _) ?_;refine iL ?_;refine iM ?_;refine T.loop (ι:=Nat) (fun k=>[(1, .func (.func f) #[] caps),(7, .slice A xs.length cap),(8, .int .i64 (xs.length:Int)),(9, .int .i64 (k:Int))]) (fun k=>[]) (fun k=>k≤xs.length∧∀j,j<k→q (cD xs j)=true) (fun k=>xs.length - k) 0 ?_ ?_ ?_ ?_
 ·exact q34
 ·exact (by repeat (first|exact Sub.nil|refine Sub.cons rfl ?_))
 ·exact Sx
 ·intro k hphi;obtain ⟨hkl,hall⟩:=hphi;refine eN ?_;refine T.cond rfl (fun h1=>?_) (fun h1=>?_)
  ·have p1:=h1; (try simp only [cN] at p1);obtain ⟨g,off,rfl,hc⟩:=hsl a6;have hk:=hc k a6;simp only [Ld.cells] at hk;refine fq ?_;refine ku ?_; (refine cH (Wt.none) rfl rfl (Ew.alloc) ?_;rintro _ _ ⟨g6,rfl,rfl⟩); (refine dw (Wt.none) rfl (du 0) ?_;rintro _ _ ⟨rfl,rfl⟩);refine dp ?_;refine c6 ?_;refine iS ?_; (refine cH (Wt.none) rfl rfl (jE rfl rfl rfl (fun w hw=>hC k a6 w hw.isBelow)) ?_;rintro _ _ ⟨rfl,rfl⟩);refine dF ?_;refine T.cond rfl (fun h2=>?_) (fun h2=>?_)
   ·have p2:=h2; (try simp only [cN] at p2);refine iC ?_;refine cQ rfl rfl (fun w' hw=>⟨?_,hw.isBelow⟩);exact q35
   ·have p2:=h2; (try simp only [cN] at p2);refine gG ?_;exact K.next (k+1) ⟨by omega,zdj hall (by simpa using p2)⟩ a6 (by repeat (first|exact Sub.nil|refine Sub.cons rfl ?_)) Sx
  ·have p1:=h1; (try simp only [cN] at p1);refine q3M ?_;refine cQ rfl rfl (fun w' hw=>⟨?_,hw.isBelow⟩);exact q36
theorem zgQ {c:Ld→Ld→Int}(xs:List Ld)(v:Value)(f:FuncId)(w:World)(h:SlOf w v Ld.cells 5 xs)[hE:Enters Tryz.prog f](hC:∀x y:Ld,∀w':World,Calls Tryz.prog f #[.agg (Ld.cells (x)).toArray, .agg (Ld.cells (y)).toArray] w' fun e w''=>e= .returned (.int .i64 (c x y))∧Below w'.heap.size w' w'')(hl:xs.length≤9223372036854775807):Calls Tryz.prog 85 #[v, .func (.func f) #[] #[]] w fun e w'=>e= .returned (.bool (eQ c xs))∧Below w.heap.size w w':=by
 obtain ⟨A,cap,rfl,hsl⟩:=h.op;refine dt (M:=fun _=>False) (hs:=[]) Tryz.func85 rfl rfl rfl (Hp.refl _ _) ?_;refine iL ?_;refine cO (T.block ?_);refine T.loop (ι:=Nat) (fun k=>[(0, .slice A xs.length cap),(1, .func (.func f) #[] #[]),(5, .int .i64 (k:Int))]) (fun k=>[]) (fun k=>1≤k∧∀j,j<k→j<xs.length→(decide (j=0)|| !decide (0≤c (cD xs (j - 1)) (cD xs j)))=true) (fun k=>xs.length - k) 1 ?_ ?_ ?_ ?_
 ·exact q37
 ·exact (by repeat (first|exact Sub.nil|refine Sub.cons rfl ?_))
 ·exact Sx
 ·intro k hphi;obtain ⟨hk0,hall⟩:=hphi;refine q2s ?_;refine T.cond rfl (fun h1=>?_) (fun h1=>?_)
  ·have p1:=h1; (try simp only [cN] at p1);obtain ⟨g,off,rfl,hc⟩:=hsl a6;have hk:=hc k a6;have hk1:=hc (k - 1) a6;simp only [Ld.cells] at hk hk1;refine q0p ?_; (refine cV rfl (Wt.none) rfl rfl (cI rfl rfl rfl (fun w hw=>hC (cD xs (k - 1)) (cD xs k) w)) ?_;rintro _ _ ⟨rfl,rfl⟩;refine ⟨Sx,?_⟩);refine j4 ?_;refine T.cond rfl (fun h2=>?_) (fun h2=>?_)
   ·have p2:=h2; (try simp only [cN] at p2);refine iC ?_;refine cQ rfl rfl (fun w' hw=>⟨?_,hw.isBelow⟩);exact q38
   ·have p2:=h2; (try simp only [cN] at p2);refine iJ ?_;exact K.next (k+1) ⟨by omega,fun j hj hjl=>by rcases Nat.lt_or_ge j k with hh|hh;exact hall j hh hjl;rw [show j=k from by omega,decide_eq_false a6];simpa using p2⟩ a6 (by repeat (first|exact Sub.nil|refine Sub.cons rfl ?_)) Sx
  ·have p1:=h1; (try simp only [cN] at p1);refine q3M ?_;refine cQ rfl rfl (fun w' hw=>⟨?_,hw.isBelow⟩);exact q39
theorem zjc {q:Cp→Bool}(xs:List Cp)(v:Value)(f:FuncId)(caps:Array Value)(w:World)(h:SlOf w v Cp.cells 4 xs)[hE:Enters Tryz.prog f](hC:∀k,k<xs.length→∀w',Below w.heap.size w w'→Calls Tryz.prog f (.agg (Cp.cells (cD xs k)).toArray :: caps.toList).toArray w' fun e w''=>e= .returned (.bool (q (cD xs k)))∧Below w'.heap.size w' w'')(hl:xs.length≤9223372036854775807):Calls Tryz.prog 57 #[v, .func (.func f) #[] caps] w fun e w'=>e= .returned (.bool (fh q xs))∧Below w.heap.size w w':=by
 obtain ⟨A,cap,rfl,hsl⟩:=h.op;refine dt (M:=fun _=>False) (hs:=[]) Tryz.func57 rfl rfl rfl (Hp.refl _ _) ?_;refine iL ?_;refine iM ?_;refine T.loop (ι:=Nat) (fun k=>[(1, .func (.func f) #[] caps),(7, .slice A xs.length cap),(8, .int .i64 (xs.length:Int)),(9, .int .i64 (k:Int))]) (fun k=>[]) (fun k=>k≤xs.length∧∀j,j<k→q (cD xs j)=true) (fun k=>xs.length - k) 0 ?_ ?_ ?_ ?_
 ·exact q34
 ·exact (by repeat (first|exact Sub.nil|refine Sub.cons rfl ?_))
 ·exact Sx
 ·intro k hphi;obtain ⟨hkl,hall⟩:=hphi;refine eN ?_;refine T.cond rfl (fun h1=>?_) (fun h1=>?_)
  ·have p1:=h1; (try simp only [cN] at p1);obtain ⟨g,off,rfl,hc⟩:=hsl a6;have hk:=hc k a6;simp only [Cp.cells] at hk;refine fq ?_;refine ku ?_; (refine cH (Wt.none) rfl rfl (Ew.alloc) ?_;rintro _ _ ⟨g6,rfl,rfl⟩); (refine dw (Wt.none) rfl (du 0) ?_;rintro _ _ ⟨rfl,rfl⟩);refine dp ?_;refine c6 ?_;refine iS ?_; (refine cH (Wt.none) rfl rfl (jE rfl rfl rfl (fun w hw=>hC k a6 w hw.isBelow)) ?_;rintro _ _ ⟨rfl,rfl⟩);refine dF ?_;refine T.cond rfl (fun h2=>?_) (fun h2=>?_)
   ·have p2:=h2; (try simp only [cN] at p2);refine iC ?_;refine cQ rfl rfl (fun w' hw=>⟨?_,hw.isBelow⟩);exact q35
   ·have p2:=h2; (try simp only [cN] at p2);refine gG ?_;exact K.next (k+1) ⟨by omega,zdj hall (by simpa using p2)⟩ a6 (by repeat (first|exact Sub.nil|refine Sub.cons rfl ?_)) Sx
  ·have p1:=h1; (try simp only [cN] at p1);refine q3M ?_;refine cQ rfl rfl (fun w' hw=>⟨?_,hw.isBelow⟩);exact q36
theorem zgY {c:Cp→Cp→Int}(xs:List Cp)(v:Value)(f:FuncId)(w:World)(h:SlOf w v Cp.cells 4 xs)[hE:Enters Tryz.prog f](hC:∀x y:Cp,∀w':World,Calls Tryz.prog f #[.agg (Cp.cells (x)).toArray, .agg (Cp.cells (y)).toArray] w' fun e w''=>e= .returned (.int .i64 (c x y))∧Below w'.heap.size w' w'')(hl:xs.length≤9223372036854775807):Calls Tryz.prog 88 #[v, .func (.func f) #[] #[]] w fun e w'=>e= .returned (.bool (eQ c xs))∧Below w.heap.size w w':=by
 obtain ⟨A,cap,rfl,hsl⟩:=h.op;refine dt (M:=fun _=>False) (hs:=[]) Tryz.func88 rfl rfl rfl (Hp.refl _ _) ?_;refine iL ?_;refine cO (T.block ?_);refine T.loop (ι:=Nat) (fun k=>[(0, .slice A xs.length cap),(1, .func (.func f) #[] #[]),(5, .int .i64 (k:Int))]) (fun k=>[]) (fun k=>1≤k∧∀j,j<k→j<xs.length→(decide (j=0)|| !decide (0≤c (cD xs (j - 1)) (cD xs j)))=true) (fun k=>xs.length - k) 1 ?_ ?_ ?_ ?_
 ·exact q37
 ·exact (by repeat (first|exact Sub.nil|refine Sub.cons rfl ?_))
 ·exact Sx
 ·intro k hphi;obtain ⟨hk0,hall⟩:=hphi;refine q2s ?_;refine T.cond rfl (fun h1=>?_) (fun h1=>?_)
  ·have p1:=h1; (try simp only [cN] at p1);obtain ⟨g,off,rfl,hc⟩:=hsl a6;have hk:=hc k a6;have hk1:=hc (k - 1) a6;simp only [Cp.cells] at hk hk1;refine q0p ?_; (refine cV rfl (Wt.none) rfl rfl (cI rfl rfl rfl (fun w hw=>hC (cD xs (k - 1)) (cD xs k) w)) ?_;rintro _ _ ⟨rfl,rfl⟩;refine ⟨Sx,?_⟩);refine j4 ?_;refine T.cond rfl (fun h2=>?_) (fun h2=>?_)
   ·have p2:=h2; (try simp only [cN] at p2);refine iC ?_;refine cQ rfl rfl (fun w' hw=>⟨?_,hw.isBelow⟩);exact q38
   ·have p2:=h2; (try simp only [cN] at p2);refine iJ ?_;exact K.next (k+1) ⟨by omega,fun j hj hjl=>by rcases Nat.lt_or_ge j k with hh|hh;exact hall j hh hjl;rw [show j=k from by omega,decide_eq_false a6];simpa using p2⟩ a6 (by repeat (first|exact Sub.nil|refine Sub.cons rfl ?_)) Sx
  ·have p1:=h1; (try simp only [cN] at p1);refine q3M ?_;refine cQ rfl rfl (fun w' hw=>⟨?_,hw.isBelow⟩);exact q39
theorem zkJ {q:Int→Bool}(xs:List Int)(v:Value)(f:FuncId)(caps:Array Value)(w:World)(h:SlOf w v Ie 1 xs)[hE:Enters Tryz.prog f](hC:∀k,k<xs.length→∀w',Below w.heap.size w w'→Calls Tryz.prog f (.int .i64 (cD xs k) :: caps.toList).toArray w' fun e w''=>e= .returned (.bool (q (cD xs k)))∧Below w'.heap.size w' w'')(hl:xs.length≤9223372036854775807):Calls Tryz.prog 79 #[v, .func (.func f) #[] caps] w fun e w'=>e= .returned (.bool (fh q xs))∧Below w.heap.size w w':=by
 obtain ⟨A,cap,rfl,hsl⟩:=h.op;refine dt (M:=fun _=>False) (hs:=[]) Tryz.func79 rfl rfl rfl (Hp.refl _ _) ?_;refine iL ?_;refine iM ?_;refine T.loop (ι:=Nat) (fun k=>[(1, .func (.func f) #[] caps),(7, .slice A xs.length cap),(8, .int .i64 (xs.length:Int)),(9, .int .i64 (k:Int))]) (fun k=>[]) (fun k=>k≤xs.length∧∀j,j<k→q (cD xs j)=true) (fun k=>xs.length - k) 0 ?_ ?_ ?_ ?_
 ·exact q34
 ·exact (by repeat (first|exact Sub.nil|refine Sub.cons rfl ?_))
 ·exact Sx
 ·intro k hphi;obtain ⟨hkl,hall⟩:=hphi;refine eN ?_;refine T.cond rfl (fun h1=>?_) (fun h1=>?_)
  ·have p1:=h1; (try simp only [cN] at p1);obtain ⟨g,off,rfl,hc⟩:=hsl a6;have hk:=hc k a6;simp only [Ie] at hk;refine fq ?_;refine q1G ?_;refine gh ?_;refine dS ?_; (refine cH (Wt.none) rfl rfl (jE rfl rfl rfl (fun w hw=>hC k a6 w hw.isBelow)) ?_;rintro _ _ ⟨rfl,rfl⟩);refine dF ?_;refine T.cond rfl (fun h2=>?_) (fun h2=>?_)
   ·have p2:=h2; (try simp only [cN] at p2);refine iC ?_;refine cQ rfl rfl (fun w' hw=>⟨?_,hw.isBelow⟩);exact q35
   ·have p2:=h2; (try simp only [cN] at p2);refine gG ?_;exact K.next (k+1) ⟨by omega,zdj hall (by simpa using p2)⟩ a6 (by repeat (first|exact Sub.nil|refine Sub.cons rfl ?_)) Sx
  ·have p1:=h1; (try simp only [cN] at p1);refine q3M ?_;refine cQ rfl rfl (fun w' hw=>⟨?_,hw.isBelow⟩);exact q36
theorem zgg {c:Int→Int→Int}(xs:List Int)(v:Value)(f:FuncId)(w:World)(h:SlOf w v Ie 1 xs)[hE:Enters Tryz.prog f](hC:∀x y:Int,∀w':World,Calls Tryz.prog f #[.int .i64 (x), .int .i64 (y)] w' fun e w''=>e= .returned (.int .i64 (c x y))∧Below w'.heap.size w' w'')(hl:xs.length≤9223372036854775807):Calls Tryz.prog 80 #[v, .func (.func f) #[] #[]] w fun e w'=>e= .returned (.bool (eQ c xs))∧Below w.heap.size w w':=by
 obtain ⟨A,cap,rfl,hsl⟩:=h.op;refine dt (M:=fun _=>False) (hs:=[]) Tryz.func80 rfl rfl rfl (Hp.refl _ _) ?_;refine iL ?_;refine cO (T.block ?_);refine T.loop (ι:=Nat) (fun k=>[(0, .slice A xs.length cap),(1, .func (.func f) #[] #[]),(5, .int .i64 (k:Int))]) (fun k=>[]) (fun k=>1≤k∧∀j,j<k→j<xs.length→(decide (j=0)|| !decide (0≤c (cD xs (j - 1)) (cD xs j)))=true) (fun k=>xs.length - k) 1 ?_ ?_ ?_ ?_
 ·exact q37
 ·exact (by repeat (first|exact Sub.nil|refine Sub.cons rfl ?_))
 ·exact Sx
 ·intro k hphi;obtain ⟨hk0,hall⟩:=hphi;refine q2s ?_;refine T.cond rfl (fun h1=>?_) (fun h1=>?_)
  ·have p1:=h1; (try simp only [cN] at p1);obtain ⟨g,off,rfl,hc⟩:=hsl a6;have hk:=hc k a6;have hk1:=hc (k - 1) a6;simp only [Ie] at hk hk1;refine kZ ?_;refine q2Q ?_;refine fC ?_;refine lq ?_;refine cJ rfl (fy rfl rfl rfl (show (k:Int) - 1=((k - 1:Nat):Int) from by omega) a6) ?_;refine cJ rfl (dL (j:=0) rfl rfl hk1 rfl rfl (fun h=>h)) ?_;refine fj ?_;refine q2b ?_;refine cJ rfl (dL (j:=0) rfl rfl hk rfl rfl (fun h=>h)) ?_;refine dn ?_; (refine cV rfl (Wt.none) rfl rfl (cI rfl rfl rfl (fun w hw=>hC (cD xs (k - 1)) (cD xs k) w)) ?_;rintro _ _ ⟨rfl,rfl⟩;refine ⟨Sx,?_⟩);refine j4 ?_;refine T.cond rfl (fun h2=>?_) (fun h2=>?_)
   ·have p2:=h2; (try simp only [cN] at p2);refine iC ?_;refine cQ rfl rfl (fun w' hw=>⟨?_,hw.isBelow⟩);exact q38
   ·have p2:=h2; (try simp only [cN] at p2);refine iJ ?_;exact K.next (k+1) ⟨by omega,fun j hj hjl=>by rcases Nat.lt_or_ge j k with hh|hh;exact hall j hh hjl;rw [show j=k from by omega,decide_eq_false a6];simpa using p2⟩ a6 (by repeat (first|exact Sub.nil|refine Sub.cons rfl ?_)) Sx
  ·have p1:=h1; (try simp only [cN] at p1);refine q3M ?_;refine cQ rfl rfl (fun w' hw=>⟨?_,hw.isBelow⟩);exact q39
def Pr.ok (x:Pr):Bool:=inB x.a 0 511&&(inB x.b 0 511&&(decide (x.a<x.b)&&(inB x.off (-1) 1&&eC x.lo x.hi)))
def Ld.ok (x:Ld):Bool:=inB x.to 0 511&&(inB x.fr 0 511&&(decide (¬x.to=x.fr)&&(inB x.wt 1 1073741824&&eC x.lo x.hi)))
def Cp.ok (x:Cp):Bool:=inB x.st 0 511&&(inB x.mx 0 1099511627776&&eC x.lo x.hi)
def Pr.cmp (x y:Pr):Int:=lg [dC x.a y.a,dC x.b y.b,dC x.off y.off,dC x.lo y.lo,dC x.hi y.hi]
def Ld.cmp (x y:Ld):Int:=lg [dC x.to y.to,dC x.fr y.fr,dC x.wt y.wt,dC x.lo y.lo,dC x.hi y.hi]
def Cp.cmp (x y:Cp):Int:=lg [dC x.st y.st,dC x.mx y.mx,dC x.lo y.lo,dC x.hi y.hi]
theorem zg7 (x:Pr)(w:World):Calls Tryz.prog 81 #[.agg (Pr.cells x).toArray] w fun e w'=>e= .returned (.bool x.ok)∧Below w.heap.size w w':=by
 refine dt (M:=fun _=>False) (hs:=[]) Tryz.func81 rfl rfl rfl (Hp.refl _ _) ?_;simp only [Pr.cells];refine c7 ?_; (refine cH (Wt.none) rfl rfl (di) ?_;rintro _ _ ⟨g1,rfl,rfl⟩);refine gh ?_;refine d5 ?_; (refine cH (Wt.none) rfl rfl (cI rfl rfl rfl (fun w hw=>zbI _ _)) ?_;rintro _ _ ⟨rfl,rfl⟩);refine c6 ?_;refine dd rfl rfl rfl (fun h1=>?_) (fun h1=>?_)
 ·have p1:=h1; (try simp only [cN] at p1);refine q0H ?_; (refine cH (Wt.some rfl rfl rfl h1) rfl rfl (cI rfl rfl rfl (fun w hw=>zbI _ _)) ?_;rintro _ _ ⟨rfl,rfl⟩);refine jU ?_;refine c6 ?_;refine dd rfl rfl rfl (fun h2=>?_) (fun h2=>?_)
  ·have p2:=h2; (try simp only [cN] at p2);refine lQ ?_;refine lQ ?_;refine lh ?_;refine q2z ?_;refine c6 ?_;refine dd rfl rfl rfl (fun h3=>?_) (fun h3=>?_)
   ·have p3:=h3; (try simp only [cN] at p3);refine q0O ?_; (refine cH (Wt.some rfl rfl rfl h3) rfl rfl (cI rfl rfl rfl (fun w hw=>zcA _ _ _ _)) ?_;rintro _ _ ⟨rfl,rfl⟩);refine q3q ?_;refine c6 ?_;refine dd rfl rfl rfl (fun h4=>?_) (fun h4=>?_)
    ·have p4:=h4; (try simp only [cN] at p4);refine q0P ?_;refine q0P ?_; (refine cH (Wt.some rfl rfl rfl h4) rfl rfl (cI rfl rfl rfl (fun w hw=>zdQ _ _ _)) ?_;rintro _ _ ⟨rfl,rfl⟩);refine cF (ec rfl rfl h4) ?_;refine eT ?_;refine cQ rfl rfl (fun w' hw=>⟨?_,hw.isBelow⟩);exact q4a
    ·have p4:=h4; (try simp only [cN] at p4);refine q2e ?_;refine eT ?_;refine cQ rfl rfl (fun w' hw=>⟨?_,hw.isBelow⟩);exact q4a
   ·have p3:=h3; (try simp only [cN] at p3);refine q0o ?_;refine cF (dW rfl rfl h3) ?_;refine TL.run 8 rfl ?_;refine f9 ?_;refine cQ rfl rfl (fun w' hw=>⟨?_,hw.isBelow⟩);exact q4a
  ·have p2:=h2; (try simp only [cN] at p2);refine q0i ?_;refine q1L ?_;refine TL.run 13 rfl ?_;refine f9 ?_;refine cQ rfl rfl (fun w' hw=>⟨?_,hw.isBelow⟩);exact q4a
 ·have p1:=h1; (try simp only [cN] at p1);refine q1g ?_;refine TL.run 20 rfl ?_;refine f9 ?_;refine cQ rfl rfl (fun w' hw=>⟨?_,hw.isBelow⟩);exact q4a
theorem zeQ (x y:Pr)(w:World):Calls Tryz.prog 83 #[.agg (Pr.cells x).toArray, .agg (Pr.cells y).toArray] w fun e w'=>e= .returned (.int .i64 (x.cmp y))∧Below w.heap.size w w':=by
 refine dt (M:=fun _=>False) (hs:=[]) Tryz.func83 rfl rfl rfl (Hp.refl _ _) ?_;simp only [Pr.cells];refine c7 ?_; (refine cH (Wt.none) rfl rfl (di) ?_;rintro _ _ ⟨g2,rfl,rfl⟩); (refine cH (Wt.none) rfl rfl (di) ?_;rintro _ _ ⟨g3,rfl,rfl⟩);refine c6 ?_;refine q1e ?_; (refine cV rfl (Wt.none) rfl rfl (cI rfl rfl rfl (fun w hw=>jW _ _ _)) ?_;rintro _ _ ⟨rfl,rfl⟩;refine ⟨Sx,?_⟩);refine dn ?_; (refine cV rfl (Wt.none) rfl rfl (cI rfl rfl rfl (fun w hw=>jW _ _ _)) ?_;rintro _ _ ⟨rfl,rfl⟩;refine ⟨Sx,?_⟩);refine dn ?_; (refine cV rfl (Wt.none) rfl rfl (cI rfl rfl rfl (fun w hw=>jW _ _ _)) ?_;rintro _ _ ⟨rfl,rfl⟩;refine ⟨Sx,?_⟩);refine dn ?_; (refine cV rfl (Wt.none) rfl rfl (cI rfl rfl rfl (fun w hw=>jW _ _ _)) ?_;rintro _ _ ⟨rfl,rfl⟩;refine ⟨Sx,?_⟩);refine dn ?_; (refine cV rfl (Wt.none) rfl rfl (cI rfl rfl rfl (fun w hw=>jW _ _ _)) ?_;rintro _ _ ⟨rfl,rfl⟩;refine ⟨Sx,?_⟩);refine dn ?_; (refine cV rfl (Wt.none) rfl rfl (Ew.buildSlice rfl rfl rfl a7) ?_;rintro _ _ ⟨g30,rfl,rfl⟩;refine ⟨Sx,?_⟩);refine dn ?_; (refine cV rfl (Wt.none) rfl rfl (cI rfl rfl rfl (fun w hw=>zjI [dC x.a y.a,dC x.b y.b,dC x.off y.off,dC x.lo y.lo,dC x.hi y.hi] _ w (SlOf.lit (enc:=Ie) (size:=1) (fun _=>rfl) _ (cR.1 (hw.get (i:=0) rfl)) rfl rfl) b2)) ?_;rintro _ _ ⟨rfl,rfl⟩;refine ⟨Sx,?_⟩);refine q3Q ?_;refine cQ rfl rfl (fun w' hw=>⟨?_,hw.isBelow⟩)
 rfl
theorem zgA (x:Ld)(w:World):Calls Tryz.prog 84 #[.agg (Ld.cells x).toArray] w fun e w'=>e= .returned (.bool x.ok)∧Below w.heap.size w w':=by
 refine dt (M:=fun _=>False) (hs:=[]) Tryz.func84 rfl rfl rfl (Hp.refl _ _) ?_;simp only [Ld.cells];refine c7 ?_; (refine cH (Wt.none) rfl rfl (di) ?_;rintro _ _ ⟨g1,rfl,rfl⟩);refine gh ?_;refine d5 ?_; (refine cH (Wt.none) rfl rfl (cI rfl rfl rfl (fun w hw=>zbI _ _)) ?_;rintro _ _ ⟨rfl,rfl⟩);refine c6 ?_;refine dd rfl rfl rfl (fun h1=>?_) (fun h1=>?_)
 ·have p1:=h1; (try simp only [cN] at p1);refine q0H ?_; (refine cH (Wt.some rfl rfl rfl h1) rfl rfl (cI rfl rfl rfl (fun w hw=>zbI _ _)) ?_;rintro _ _ ⟨rfl,rfl⟩);refine jU ?_;refine c6 ?_;refine dd rfl rfl rfl (fun h2=>?_) (fun h2=>?_)
  ·have p2:=h2; (try simp only [cN] at p2);refine lQ ?_;refine lQ ?_;refine lh ?_;refine q2z ?_;refine c6 ?_;refine dd rfl rfl rfl (fun h3=>?_) (fun h3=>?_)
   ·have p3:=h3; (try simp only [cN] at p3);refine q0O ?_; (refine cH (Wt.some rfl rfl rfl h3) rfl rfl (cI rfl rfl rfl (fun w hw=>zcA _ _ _ _)) ?_;rintro _ _ ⟨rfl,rfl⟩);refine q3q ?_;refine c6 ?_;refine dd rfl rfl rfl (fun h4=>?_) (fun h4=>?_)
    ·have p4:=h4; (try simp only [cN] at p4);refine q0P ?_;refine q0P ?_; (refine cH (Wt.some rfl rfl rfl h4) rfl rfl (cI rfl rfl rfl (fun w hw=>zdQ _ _ _)) ?_;rintro _ _ ⟨rfl,rfl⟩);refine cF (ec rfl rfl h4) ?_;refine eT ?_;refine cQ rfl rfl (fun w' hw=>⟨?_,hw.isBelow⟩);exact q4b
    ·have p4:=h4; (try simp only [cN] at p4);refine q2e ?_;refine eT ?_;refine cQ rfl rfl (fun w' hw=>⟨?_,hw.isBelow⟩);exact q4b
   ·have p3:=h3; (try simp only [cN] at p3);refine q0o ?_;refine cF (dW rfl rfl h3) ?_;refine TL.run 8 rfl ?_;refine f9 ?_;refine cQ rfl rfl (fun w' hw=>⟨?_,hw.isBelow⟩);exact q4b
  ·have p2:=h2; (try simp only [cN] at p2);refine q0i ?_;refine q1L ?_;refine TL.run 13 rfl ?_;refine f9 ?_;refine cQ rfl rfl (fun w' hw=>⟨?_,hw.isBelow⟩);exact q4b
 ·have p1:=h1; (try simp only [cN] at p1);refine q1g ?_;refine TL.run 20 rfl ?_;refine f9 ?_;refine cQ rfl rfl (fun w' hw=>⟨?_,hw.isBelow⟩);exact q4b
theorem zeV (x y:Ld)(w:World):Calls Tryz.prog 86 #[.agg (Ld.cells x).toArray, .agg (Ld.cells y).toArray] w fun e w'=>e= .returned (.int .i64 (x.cmp y))∧Below w.heap.size w w':=by
 refine dt (M:=fun _=>False) (hs:=[]) Tryz.func86 rfl rfl rfl (Hp.refl _ _) ?_;simp only [Ld.cells];refine c7 ?_; (refine cH (Wt.none) rfl rfl (di) ?_;rintro _ _ ⟨g2,rfl,rfl⟩); (refine cH (Wt.none) rfl rfl (di) ?_;rintro _ _ ⟨g3,rfl,rfl⟩);refine c6 ?_;refine q1e ?_; (refine cV rfl (Wt.none) rfl rfl (cI rfl rfl rfl (fun w hw=>jW _ _ _)) ?_;rintro _ _ ⟨rfl,rfl⟩;refine ⟨Sx,?_⟩);refine dn ?_; (refine cV rfl (Wt.none) rfl rfl (cI rfl rfl rfl (fun w hw=>jW _ _ _)) ?_;rintro _ _ ⟨rfl,rfl⟩;refine ⟨Sx,?_⟩);refine dn ?_; (refine cV rfl (Wt.none) rfl rfl (cI rfl rfl rfl (fun w hw=>jW _ _ _)) ?_;rintro _ _ ⟨rfl,rfl⟩;refine ⟨Sx,?_⟩);refine dn ?_; (refine cV rfl (Wt.none) rfl rfl (cI rfl rfl rfl (fun w hw=>jW _ _ _)) ?_;rintro _ _ ⟨rfl,rfl⟩;refine ⟨Sx,?_⟩);refine dn ?_; (refine cV rfl (Wt.none) rfl rfl (cI rfl rfl rfl (fun w hw=>jW _ _ _)) ?_;rintro _ _ ⟨rfl,rfl⟩;refine ⟨Sx,?_⟩);refine dn ?_; (refine cV rfl (Wt.none) rfl rfl (Ew.buildSlice rfl rfl rfl a7) ?_;rintro _ _ ⟨g30,rfl,rfl⟩;refine ⟨Sx,?_⟩);refine dn ?_; (refine cV rfl (Wt.none) rfl rfl (cI rfl rfl rfl (fun w hw=>zjI [dC x.to y.to,dC x.fr y.fr,dC x.wt y.wt,dC x.lo y.lo,dC x.hi y.hi] _ w (SlOf.lit (enc:=Ie) (size:=1) (fun _=>rfl) _ (cR.1 (hw.get (i:=0) rfl)) rfl rfl) b2)) ?_;rintro _ _ ⟨rfl,rfl⟩;refine ⟨Sx,?_⟩);refine q3Q ?_;refine cQ rfl rfl (fun w' hw=>⟨?_,hw.isBelow⟩)
 rfl
theorem zhO (x:Cp)(w:World):Calls Tryz.prog 87 #[.agg (Cp.cells x).toArray] w fun e w'=>e= .returned (.bool x.ok)∧Below w.heap.size w w':=by
 refine dt (M:=fun _=>False) (hs:=[]) Tryz.func87 rfl rfl rfl (Hp.refl _ _) ?_;simp only [Cp.cells];refine c7 ?_; (refine cH (Wt.none) rfl rfl (di) ?_;rintro _ _ ⟨g1,rfl,rfl⟩);refine gh ?_;refine d5 ?_; (refine cH (Wt.none) rfl rfl (cI rfl rfl rfl (fun w hw=>zbI _ _)) ?_;rintro _ _ ⟨rfl,rfl⟩);refine c6 ?_;refine dd rfl rfl rfl (fun h1=>?_) (fun h1=>?_)
 ·have p1:=h1; (try simp only [cN] at p1);refine q0H ?_; (refine cH (Wt.some rfl rfl rfl h1) rfl rfl (cI rfl rfl rfl (fun w hw=>zcA _ _ _ _)) ?_;rintro _ _ ⟨rfl,rfl⟩);refine jU ?_;refine c6 ?_;refine dd rfl rfl rfl (fun h2=>?_) (fun h2=>?_)
  ·have p2:=h2; (try simp only [cN] at p2);refine lQ ?_;refine lQ ?_; (refine cH (Wt.some rfl rfl rfl h2) rfl rfl (cI rfl rfl rfl (fun w hw=>zdQ _ _ _)) ?_;rintro _ _ ⟨rfl,rfl⟩);refine q2z ?_;refine eT ?_;refine cQ rfl rfl (fun w' hw=>⟨?_,hw.isBelow⟩);exact q4l
  ·have p2:=h2; (try simp only [cN] at p2);refine q0i ?_;refine q1L ?_;refine eT ?_;refine cQ rfl rfl (fun w' hw=>⟨?_,hw.isBelow⟩);exact q4l
 ·have p1:=h1; (try simp only [cN] at p1);refine q1g ?_;refine TL.run 8 rfl ?_;refine f9 ?_;refine cQ rfl rfl (fun w' hw=>⟨?_,hw.isBelow⟩);exact q4l
theorem ze8 (x y:Cp)(w:World):Calls Tryz.prog 89 #[.agg (Cp.cells x).toArray, .agg (Cp.cells y).toArray] w fun e w'=>e= .returned (.int .i64 (x.cmp y))∧Below w.heap.size w w':=by
 refine dt (M:=fun _=>False) (hs:=[]) Tryz.func89 rfl rfl rfl (Hp.refl _ _) ?_;simp only [Cp.cells];refine c7 ?_; (refine cH (Wt.none) rfl rfl (di) ?_;rintro _ _ ⟨g2,rfl,rfl⟩); (refine cH (Wt.none) rfl rfl (di) ?_;rintro _ _ ⟨g3,rfl,rfl⟩);refine j9 ?_;refine dx (sN 0 4 (sN 5 4 (sN 10 4 (sN 15 4 (.eff 4 (.eff 9 (.eff 14 (.eff 19 (.eff 20 (.eff 21 (.still 22 .done))))))))))) _ a8 (List.Sublist.refl _) ?_;refine q0y ?_;refine fF ?_;refine cJ rfl (cT 1) ?_;refine lO ?_; (refine cV rfl (Wt.none) rfl rfl (cI rfl rfl rfl (fun w hw=>jW _ _ _)) ?_;rintro _ _ ⟨rfl,rfl⟩;refine ⟨Sx,?_⟩);refine dn ?_; (refine cV rfl (Wt.none) rfl rfl (cI rfl rfl rfl (fun w hw=>jW _ _ _)) ?_;rintro _ _ ⟨rfl,rfl⟩;refine ⟨Sx,?_⟩);refine dn ?_; (refine cV rfl (Wt.none) rfl rfl (cI rfl rfl rfl (fun w hw=>jW _ _ _)) ?_;rintro _ _ ⟨rfl,rfl⟩;refine ⟨Sx,?_⟩);refine dn ?_; (refine cV rfl (Wt.none) rfl rfl (cI rfl rfl rfl (fun w hw=>jW _ _ _)) ?_;rintro _ _ ⟨rfl,rfl⟩;refine ⟨Sx,?_⟩);refine dn ?_; (refine cV rfl (Wt.none) rfl rfl (Ew.buildSlice rfl rfl rfl a7) ?_;rintro _ _ ⟨g25,rfl,rfl⟩;refine ⟨Sx,?_⟩);refine dn ?_; (refine cV rfl (Wt.none) rfl rfl (cI rfl rfl rfl (fun w hw=>zjI [dC x.st y.st,dC x.mx y.mx,dC x.lo y.lo,dC x.hi y.hi] _ w (SlOf.lit (enc:=Ie) (size:=1) (fun _=>rfl) _ (cR.1 (hw.get (i:=0) rfl)) rfl rfl) b2)) ?_;rintro _ _ ⟨rfl,rfl⟩;refine ⟨Sx,?_⟩);refine q3Q ?_;refine cQ rfl rfl (fun w' hw=>⟨?_,hw.isBelow⟩)
 rfl
theorem Cs.later {w w':World}(hb:Below w.heap.size w w'){g p:Nat}{l:List Value}(h:Cs w g p l):Cs w' g p l:=h.kept (fR hb) (fun h=>h)
def Dx.ok (d:Dx):Bool:=inB d.st 0 511&&(fh (fun c=>inB c 2 51) d.chs&&eQ dC d.chs)
def Pb.rulesOk (P:Pb):Bool:=decide ((P.ps.length:Int)≤4096)&&(fh Pr.ok P.ps&&(eQ Pr.cmp P.ps&&(decide ((P.ls.length:Int)≤1024)&&(fh Ld.ok P.ls&&(eQ Ld.cmp P.ls&&(decide ((P.cs.length:Int)≤1024)&&(fh Cp.ok P.cs&&eQ Cp.cmp P.cs)))))))
abbrev Ws:=List (BitVec 64)
abbrev Ws.cells (ws:Ws):List Value:=ws.map fun b=>U b
def eJ:Ws:=List.replicate 8 0#64
def dJ (ws:Ws)(i:Nat):Ws:=ws.set (i / 64) (cD ws (i / 64) ||| 1#64 <<< (i % 64))
def d7 (ws:Ws)(i:Nat):Bool:=(cD ws (i / 64)).getLsbD (i % 64)
def i1 (ws:Ws)(i:Int):Bool:=inB i 0 511&&d7 ws i.toNat
def kJ (l:List Int):Ws:=l.foldl (fun s i=>dJ s i.toNat) eJ
theorem kd {ws:Ws}{i:Nat}:(dJ ws i).length=ws.length:=by simp [dJ]
theorem jY (l:List Int):(kJ l).length=8:=by
 have:∀(l:List Int) (s:Ws),(l.foldl (fun s i=>dJ s i.toNat) s).length=s.length:=by
  intro l
  induction l with
  |nil=>intro s;rfl
  |cons x r ih=>intro s;simp only [List.foldl_cons,ih,kd]
 exact this l eJ
theorem ziZ {l:List Int}{k:Nat}(h:k<l.length):kJ (l.take (k+1))=dJ (kJ (l.take k)) (cD l k).toNat:=by
 unfold kJ;rw [List.take_succ_eq_append_getElem h,d9 h,List.foldl_append];rfl
theorem Ws.get {ws:Ws}{i p:Nat}(h:i<ws.length)(hp:p=i):ws.cells[p]?=some (U (cD ws i)):=by
 subst hp;simp [cD,h]
theorem Ws.put {ws:Ws}{i p:Nat}{b:BitVec 64}(hp:p=i):ws.cells.set p (U b)=Ws.cells (ws.set i b):=by
 subst hp;simp [List.map_set]
theorem zg0 (a:BitVec 64)(j:Nat):decide (((((a >>> j) &&& 1#64).toNat:Nat):Int)=1)=a.getLsbD j:=by
 rw [BitVec.toNat_and,BitVec.toNat_ushiftRight]
 show decide ((((a.toNat >>> j &&& 1):Nat):Int)=1)=a.toNat.testBit j
 rw [Nat.and_one_is_mod,Nat.testBit,Nat.and_comm,Nat.and_one_is_mod];rcases Nat.mod_two_eq_zero_or_one (a.toNat >>> j) with h|h <;> rw [h] <;> rfl
theorem ze1 {ws:Ws}{i j:Nat}(hl:ws.length=8)(hi:i<512)(hj:j<512):d7 (dJ ws i) j=(d7 ws j||decide (i=j)):=by
 unfold d7 dJ cD;simp only [List.getD_eq_getElem?_getD];by_cases h:i / 64=j / 64
 ·rw [h,List.getElem?_set_self a6];simp only [Option.getD_some,BitVec.getLsbD_or,BitVec.getLsbD_shiftLeft];by_cases h2:i=j
  ·subst h2;have hm:i % 64<64:=Nat.mod_lt _ a7;simp [hm]
  ·(have hm:¬i % 64=j % 64:=by omega);rw [decide_eq_false h2,Bool.or_false]
   have:(decide (j % 64<64)&& !decide (j % 64<i % 64)&&(1#64).getLsbD (j % 64 - i % 64))=false:=by
    by_cases h3:j % 64<i % 64
    ·simp [h3]
    ·rw [show (1#64).getLsbD (j % 64 - i % 64)=false from by rw [BitVec.getLsbD_one];simp;omega];simp
   rw [this,Bool.or_false]
 ·rw [List.getElem?_set_ne h,decide_eq_false (by intro hh;subst hh;exact h rfl),Bool.or_false]
theorem zdb (j:Nat):d7 eJ j=false:=by
 unfold d7 eJ cD;rw [List.getD_eq_getElem?_getD,List.getElem?_replicate]
 split
 ·simp
 ·exact BitVec.getLsbD_zero
theorem zgC (l:List Int)(hl:∀x∈l,0≤x∧x≤511)(j:Int):i1 (kJ l) j=true↔j∈l:=by
 have key:∀(l:List Int) (s:Ws),s.length=8→(∀x∈l,0≤x∧x≤511)→∀j:Nat,j<512→(d7 (l.foldl (fun s i=>dJ s i.toNat) s) j=true↔d7 s j=true∨(j:Int)∈l):=by
  intro l
  induction l with
  |nil=>intro s _ _ j _;simp
  |cons x r ih=>
   intro s hs hx j hj;have h1:=hx x b2;rw [List.foldl_cons,ih _ (by rw [kd,hs]) (fun y hy=>hx y (by simp [hy])) j hj,ze1 hs a6 hj];simp only [Bool.or_eq_true,decide_eq_true_eq,List.mem_cons];constructor
   ·rintro ((h|h)|h)
    ·exact .inl h
    ·exact .inr (.inl a6)
    ·exact .inr (.inr h)
   ·rintro (h|h|h)
    ·exact .inl (.inl h)
    ·exact .inl (.inr a6)
    ·exact .inr h
 unfold i1 inB;by_cases h:0≤j∧j≤511
 ·rw [decide_eq_true h.1,decide_eq_true h.2,Bool.and_true,Bool.true_and,show d7 (kJ l) j.toNat=true↔_ from key l eJ (by rfl) hl j.toNat a6,zdb,Int.toNat_of_nonneg h.1];simp
 ·constructor
  ·intro hh;simp only [Bool.and_eq_true,decide_eq_true_eq] at hh;exact absurd hh.1 h
  ·intro hm;exact absurd (hl j hm) h
def Pb.has (P:Pb)(i:Int):Bool:=i1 (kJ (P.ds.map (·.st))) i
def Pb.ok (P:Pb):Bool:=fh Dx.ok P.ds&&(P.rulesOk&&(eQ (fun a b=>dC a.st b.st) P.ds&&(fh (fun x:Pr=>P.has x.a&&P.has x.b) P.ps&&(fh (fun x:Ld=>P.has x.to&&P.has x.fr) P.ls&&fh (fun x:Cp=>P.has x.st) P.cs))))
theorem zen {α:Type}[Inhabited α]{q:α→Bool}{xs:List α}:fh q xs=true↔∀k,k<xs.length→q (cD xs k)=true:=by
 unfold fh;rw [List.all_eq_true];simp only [List.mem_range]
theorem dX {α:Type}[Inhabited α]{q:α→Bool}{xs:List α}:fh q xs=true↔∀x∈xs,q x=true:=by
 rw [zen];constructor
 ·intro h x hx;obtain ⟨k,hk,rfl⟩:=List.mem_iff_getElem.1 hx;rw [←d9 hk];exact h k hk
 ·intro h k hk;exact h _ (gR hk)
theorem jD {α:Type}[Inhabited α]{c:α→α→Int}{xs:List α}:eQ c xs=true↔∀k,k+1<xs.length→c (cD xs k) (cD xs (k+1))<0:=by
 unfold eQ;rw [List.all_eq_true];simp only [List.mem_range];constructor
 ·intro h k hk;have:=h (k+1) hk;simp at this;omega
 ·intro h k hk
  cases k with
  |zero=>rfl
  |succ k=>have:=h k hk;simp;omega
theorem jO {a b:Int}:dC a b<0↔a<b:=by unfold dC;split <;> (try split) <;> omega
theorem zj5 {α:Type}[Inhabited α]{f:α→Int}{xs:List α}(hi:eQ (fun a b=>dC (f a) (f b)) xs=true)(h0:∀x∈xs,0≤f x):∀k,k<xs.length→(k:Int)≤f (cD xs k)
 |0,h=>h0 _ (gR h)
 |k+1,h=>by
  have h1:=zj5 hi h0 k a6;have h2:=jO.1 (jD.1 hi k h);omega
theorem zj1 {xs:List Dx}(hi:eQ (fun a b:Dx=>dC a.st b.st) xs=true)(hr:fh Dx.ok xs=true):xs.length≤512:=by
 have hst:∀x∈xs,0≤x.st∧x.st≤511:=fun x hx=>by
  have:=dX.1 hr x hx;simp only [Dx.ok,inB,Bool.and_eq_true,decide_eq_true_eq] at this;exact this.1
 rcases Nat.lt_or_ge 512 xs.length with h|h
 ·have h1:=zj5 (f:=Dx.st) hi (fun x hx=>(hst x hx).1) 512 h;have h2:=hst _ (gR h);omega
 ·exact h
theorem ziN (c:Int)(w:World):Calls Tryz.prog 78 #[.int .i64 c] w fun e w'=>e= .returned (.bool (inB c 2 51))∧Below w.heap.size w w':=by
 refine dt (M:=fun _=>False) (hs:=[]) Tryz.func78 rfl rfl rfl (Hp.refl _ _) ?_;refine jo ?_;refine c6 ?_; (refine cH (Wt.none) rfl rfl (cI rfl rfl rfl (fun w hw=>zcA _ _ _ _)) ?_;rintro _ _ ⟨rfl,rfl⟩);refine eT ?_;refine cQ rfl rfl (fun w' hw=>⟨?_,hw.isBelow⟩)
 rfl
theorem zfE (d:Dx)(w:World)(h:zft w d.v d.chs)(hl:d.chs.length≤9223372036854775807):Calls Tryz.prog 46 #[.agg (Dx.cells d).toArray] w fun e w'=>e= .returned (.bool d.ok)∧Below w.heap.size w w':=by
 haveI:=h.one;refine dt (M:=fun _=>False) (hs:=[]) Tryz.func46 rfl rfl rfl (Hp.refl _ _) ?_;simp only [Dx.cells];refine c7 ?_; (refine cH (Wt.none) rfl rfl (di) ?_;rintro _ _ ⟨g1,rfl,rfl⟩);refine gh ?_;refine gh ?_;refine d5 ?_; (refine cH (Wt.none) rfl rfl (cI rfl rfl rfl (fun w hw=>zbI _ _)) ?_;rintro _ _ ⟨rfl,rfl⟩);refine c6 ?_;refine dd rfl rfl rfl (fun h1=>?_) (fun h1=>?_)
 ·have p1:=h1; (try simp only [cN] at p1);refine q0H ?_;refine jd ?_; (refine cH (Wt.some rfl rfl rfl h1) rfl rfl (cI rfl rfl rfl (fun w hw=>zkJ (q:=fun c=>inB c 2 51) d.chs _ _ #[] w (h.kept hw) (fun k hk w1 hb=>ziN _ w1) hl)) ?_;rintro _ _ ⟨rfl,rfl⟩);refine jU ?_;refine c6 ?_;refine dd rfl rfl rfl (fun h2=>?_) (fun h2=>?_)
  ·have p2:=h2; (try simp only [cN] at p2);refine lQ ?_; (refine cH (Wt.some rfl rfl rfl h2) rfl rfl (cI rfl rfl rfl (fun w hw=>zgg (c:=dC) d.chs _ _ w (h.kept hw) (fun x y w1=>jW x y w1) hl)) ?_;rintro _ _ ⟨rfl,rfl⟩);refine q2z ?_;refine eT ?_;refine cQ rfl rfl (fun w' hw=>⟨?_,hw.isBelow⟩);exact q4m
  ·have p2:=h2; (try simp only [cN] at p2);refine q0i ?_;refine q3R ?_;refine eT ?_;refine cQ rfl rfl (fun w' hw=>⟨?_,hw.isBelow⟩);exact q4m
 ·have p1:=h1; (try simp only [cN] at p1);refine jm ?_;refine jm ?_;refine q2J ?_;refine TL.run 6 rfl ?_;refine f9 ?_;refine cQ rfl rfl (fun w' hw=>⟨?_,hw.isBelow⟩);exact q4m
theorem zf9 (x y:Dx)(hx:OneC x.v)(hy:OneC y.v)(w:World):Calls Tryz.prog 48 #[.agg (Dx.cells x).toArray, .agg (Dx.cells y).toArray] w fun e w'=>e= .returned (.int .i64 (dC x.st y.st))∧Below w.heap.size w w':=by
 refine dt (M:=fun _=>False) (hs:=[]) Tryz.func48 rfl rfl rfl (Hp.refl _ _) ?_;simp only [Dx.cells];refine c7 ?_; (refine cH (Wt.none) rfl rfl (di) ?_;rintro _ _ ⟨g2,rfl,rfl⟩); (refine cH (Wt.none) rfl rfl (di) ?_;rintro _ _ ⟨g3,rfl,rfl⟩);refine gh ?_;refine q1O ?_;refine d5 ?_; (refine cH (Wt.none) rfl rfl (cI rfl rfl rfl (fun w hw=>jW _ _ _)) ?_;rintro _ _ ⟨rfl,rfl⟩);refine eT ?_;refine cQ rfl rfl (fun w' hw=>⟨?_,hw.isBelow⟩)
 rfl
theorem zfB (P:Pb)(vp vl vc:Value)(w:World)(h:RulesAt w vp vl vc P):Calls Tryz.prog 47 #[.agg [vp,vl,vc].toArray] w fun e w'=>e= .returned (.bool P.rulesOk)∧Below w.heap.size w w':=by
 obtain ⟨A1,cap1,rfl, -⟩:=h.ps.op;obtain ⟨A2,cap2,rfl, -⟩:=h.ls.op;obtain ⟨A3,cap3,rfl, -⟩:=h.cs.op;refine dt (M:=fun _=>False) (hs:=[]) Tryz.func47 rfl rfl rfl (Hp.refl _ _) ?_;refine c7 ?_; (refine cH (Wt.none) rfl rfl (di) ?_;rintro _ _ ⟨g1,rfl,rfl⟩);refine gh ?_;refine d5 ?_;refine q3x ?_;refine dS ?_;refine dd rfl rfl rfl (fun h1=>?_) (fun h1=>?_)
 ·have p1:=h1; (try simp only [cN] at p1);refine q0H ?_; (refine cH (Wt.some rfl rfl rfl h1) rfl rfl (cI rfl rfl rfl (fun w hw=>zjD (q:=Pr.ok) P.ps _ 81 #[] w (h.ps.kept hw) (fun k hk w1 hb=>zg7 _ w1) h.hps)) ?_;rintro _ _ ⟨rfl,rfl⟩);refine jU ?_;refine c6 ?_;refine dd rfl rfl rfl (fun h2=>?_) (fun h2=>?_)
  ·have p2:=h2; (try simp only [cN] at p2);refine lQ ?_; (refine cH (Wt.some rfl rfl rfl h2) rfl rfl (cI rfl rfl rfl (fun w hw=>zgH (c:=Pr.cmp) P.ps _ 83 w (h.ps.kept hw) (fun x y w1=>zeQ x y w1) h.hps)) ?_;rintro _ _ ⟨rfl,rfl⟩);refine q2z ?_;refine c6 ?_;refine dd rfl rfl rfl (fun h3=>?_) (fun h3=>?_)
   ·have p3:=h3; (try simp only [cN] at p3);refine q0O ?_;refine cS (Wt.some rfl rfl rfl h3) rfl rfl (fO rfl rfl) ?_;refine q1I ?_;refine q3q ?_;refine c6 ?_;refine dd rfl rfl rfl (fun h4=>?_) (fun h4=>?_)
    ·have p4:=h4; (try simp only [cN] at p4);refine q0P ?_; (refine cH (Wt.some rfl rfl rfl h4) rfl rfl (cI rfl rfl rfl (fun w hw=>zi4 (q:=Ld.ok) P.ls _ 84 #[] w (h.ls.kept hw) (fun k hk w1 hb=>zgA _ w1) h.hls)) ?_;rintro _ _ ⟨rfl,rfl⟩);refine cF (ec rfl rfl h4) ?_;refine c6 ?_;refine dd rfl rfl rfl (fun h5=>?_) (fun h5=>?_)
     ·have p5:=h5; (try simp only [cN] at p5);refine cS (Wt.some rfl rfl rfl h5) rfl rfl (Yv.fieldAddr) ?_;refine cS (Wt.some rfl rfl rfl h5) rfl rfl (cT 0) ?_; (refine cH (Wt.some rfl rfl rfl h5) rfl rfl (cI rfl rfl rfl (fun w hw=>zgQ (c:=Ld.cmp) P.ls _ 86 w (h.ls.kept hw) (fun x y w1=>zeV x y w1) h.hls)) ?_;rintro _ _ ⟨rfl,rfl⟩);refine cF (ec rfl rfl h5) ?_;refine c6 ?_;refine dd rfl rfl rfl (fun h6=>?_) (fun h6=>?_)
      ·have p6:=h6; (try simp only [cN] at p6);refine cS (Wt.some rfl rfl rfl h6) rfl rfl (Yv.fieldAddr) ?_;refine cS (Wt.some rfl rfl rfl h6) rfl rfl (cT 0) ?_;refine cS (Wt.some rfl rfl rfl h6) rfl rfl (fO rfl rfl) ?_;refine cS (Wt.some rfl rfl rfl h6) rfl rfl (dO) ?_;refine cF (ec rfl rfl h6) ?_;refine c6 ?_;refine dd rfl rfl rfl (fun h7=>?_) (fun h7=>?_)
       ·have p7:=h7; (try simp only [cN] at p7);refine q3F ?_; (refine cH (Wt.some rfl rfl rfl h7) rfl rfl (cI rfl rfl rfl (fun w hw=>zjc (q:=Cp.ok) P.cs _ 87 #[] w (h.cs.kept hw) (fun k hk w1 hb=>zhO _ w1) h.hcs)) ?_;rintro _ _ ⟨rfl,rfl⟩);refine cF (ec rfl rfl h7) ?_;refine c6 ?_;refine dd rfl rfl rfl (fun h8=>?_) (fun h8=>?_)
        ·have p8:=h8; (try simp only [cN] at p8);refine q3G ?_; (refine cH (Wt.some rfl rfl rfl h8) rfl rfl (cI rfl rfl rfl (fun w hw=>zgY (c:=Cp.cmp) P.cs _ 89 w (h.cs.kept hw) (fun x y w1=>ze8 x y w1) h.hcs)) ?_;rintro _ _ ⟨rfl,rfl⟩);refine cF (ec rfl rfl h8) ?_;refine eT ?_;refine cQ rfl rfl (fun w' hw=>⟨?_,hw.isBelow⟩);exact q3X
        ·have p8:=h8; (try simp only [cN] at p8);refine q1d ?_;refine cF (dW rfl rfl h8) ?_;refine eT ?_;refine cQ rfl rfl (fun w' hw=>⟨?_,hw.isBelow⟩);exact q3X
       ·have p7:=h7; (try simp only [cN] at p7);refine q1u ?_;refine TL.off (Wt.not rfl rfl rfl h7) rfl rfl ?_;refine cF (dW rfl rfl h7) ?_;refine TL.run 6 rfl ?_;refine f9 ?_;refine cQ rfl rfl (fun w' hw=>⟨?_,hw.isBelow⟩);exact q3X
      ·have p6:=h6; (try simp only [cN] at p6);refine q0X ?_;refine q0X ?_;refine cF (dW rfl rfl h6) ?_;refine TL.run 11 rfl ?_;refine f9 ?_;refine cQ rfl rfl (fun w' hw=>⟨?_,hw.isBelow⟩);exact q3X
     ·have p5:=h5; (try simp only [cN] at p5);refine q1v ?_;refine TL.off (Wt.not rfl rfl rfl h5) rfl rfl ?_;refine cF (dW rfl rfl h5) ?_;refine TL.run 17 rfl ?_;refine f9 ?_;refine cQ rfl rfl (fun w' hw=>⟨?_,hw.isBelow⟩);exact q3X
    ·have p4:=h4; (try simp only [cN] at p4);refine q0n ?_;refine cF (dW rfl rfl h4) ?_;refine TL.run 22 rfl ?_;refine f9 ?_;refine cQ rfl rfl (fun w' hw=>⟨?_,hw.isBelow⟩);exact q3X
   ·have p3:=h3; (try simp only [cN] at p3);refine q2W ?_;refine TL.run 27 rfl ?_;refine f9 ?_;refine cQ rfl rfl (fun w' hw=>⟨?_,hw.isBelow⟩);exact q3X
  ·have p2:=h2; (try simp only [cN] at p2);refine q0i ?_;refine q3R ?_;refine TL.run 33 rfl ?_;refine f9 ?_;refine cQ rfl rfl (fun w' hw=>⟨?_,hw.isBelow⟩);exact q3X
 ·have p1:=h1; (try simp only [cN] at p1);refine q1g ?_;refine TL.run 38 rfl ?_;refine f9 ?_;refine cQ rfl rfl (fun w' hw=>⟨?_,hw.isBelow⟩);exact q3X
theorem zdX (i:Int)(w:World):Calls Tryz.prog 92 #[.int .i64 i] w fun e w'=>e= .returned (.bool (inB i 0 511))∧Below w.heap.size w w':=by
 refine dt (M:=fun _=>False) (hs:=[]) Tryz.func92 rfl rfl rfl (Hp.refl _ _) ?_;refine c7 ?_;refine TL.run 1 rfl ?_;refine dp ?_;refine TL.run 3 rfl ?_;refine dd rfl rfl rfl (fun h1=>?_) (fun h1=>?_)
 ·have p1:=h1; (try simp only [cN] at p1);refine cS (Wt.some rfl rfl rfl h1) rfl rfl (dO rfl) ?_;refine cS (Wt.some rfl rfl rfl h1) rfl rfl (dO rfl) ?_;refine cF (ec rfl rfl h1 rfl) ?_;refine TL.run 1 rfl ?_;refine cO (T.ret ?_);refine cQ rfl rfl (fun w' hw=>⟨?_,hw.isBelow⟩);refine jk ?_;simp only [inB, *,Bool.not_true,Bool.not_false,Bool.or_false,Bool.false_or,Bool.or_true,Bool.true_or,Bool.and_false,Bool.false_and,Bool.true_and,Bool.and_true,Bool.or_self,Bool.and_self,Bool.not_not,decide_true,decide_false,not_true_eq_false,not_false_eq_true,cond_true,cond_false]; (try exact decide_eq_decide.2 (by omega))
 ·have p1:=h1; (try simp only [cN] at p1);refine TL.off (Wt.not rfl rfl rfl h1) rfl rfl ?_;refine TL.off (Wt.not rfl rfl rfl h1) rfl rfl ?_;refine cF (dW rfl rfl h1 rfl) ?_;refine TL.run 1 rfl ?_;refine cO (T.ret ?_);refine cQ rfl rfl (fun w' hw=>⟨?_,hw.isBelow⟩);refine jk ?_;simp only [inB, *,Bool.not_true,Bool.not_false,Bool.or_false,Bool.false_or,Bool.or_true,Bool.true_or,Bool.and_false,Bool.false_and,Bool.true_and,Bool.and_true,Bool.or_self,Bool.and_self,Bool.not_not,decide_true,decide_false,not_true_eq_false,not_false_eq_true,cond_true,cond_false]; (try exact decide_eq_decide.2 (by omega))
theorem zfv (ws:Ws)(hws:ws.length=8)(i:Int)(w:World):Calls Tryz.prog 54 #[.agg ws.cells.toArray, .int .i64 i] w fun e w'=>e= .returned (.bool (i1 ws i))∧Below w.heap.size w w':=by
 refine dt (M:=fun _=>False) (hs:=[]) Tryz.func54 rfl rfl rfl (Hp.refl _ _) ?_;refine c7 ?_; (refine cH (Wt.none) rfl rfl (di) ?_;rintro _ _ ⟨g2,rfl,rfl⟩);refine lB ?_; (refine cH (Wt.none) rfl rfl (cI rfl rfl rfl (fun w hw=>zdX _ _)) ?_;rintro _ _ ⟨rfl,rfl⟩);refine c6 ?_;refine dd rfl rfl rfl (fun h1=>?_) (fun h1=>?_)
 ·have p1:=h1; (try simp only [cN] at p1); (try simp only [inB,Bool.and_eq_true,decide_eq_true_eq] at p1); (try have hld:=Ws.get (ws:=ws) (i:=i.toNat / 64) (p:=0+0+i.toNat / 64*1) a6 a6);refine jd ?_;refine cS (Wt.some rfl rfl rfl h1) rfl rfl (kh rfl rfl rfl a6) ?_;refine cS (Wt.some rfl rfl rfl h1) rfl rfl (Yv.fieldAddr) ?_;refine cS (Wt.some rfl rfl rfl h1) rfl rfl (dU rfl rfl rfl (show i / 64=((i.toNat / 64:Nat):Int) from by omega) a6) ?_;refine cS (Wt.some rfl rfl rfl h1) rfl rfl (cT 0 rfl rfl rfl hld) ?_;refine jd ?_;refine cS (Wt.some rfl rfl rfl h1) rfl rfl (jM rfl rfl rfl a6) ?_;refine cS (Wt.some rfl rfl rfl h1) rfl rfl (fH (i.toNat % 64) rfl rfl rfl a6 a6) ?_;refine cS (Wt.some rfl rfl rfl h1) rfl rfl (fx (b:=1#64)) ?_;refine jd ?_;refine jU ?_;refine eT ?_;refine cQ rfl rfl (fun w' hw=>⟨?_,hw.isBelow⟩);exact q4v
 ·have p1:=h1; (try simp only [cN] at p1); (try simp only [inB,Bool.and_eq_true,decide_eq_true_eq] at p1); (try have hld:=Ws.get (ws:=ws) (i:=i.toNat / 64) (p:=0+0+i.toNat / 64*1) a6 a6);refine jm ?_;refine jm ?_;refine jm ?_;refine jm ?_;refine jm ?_;refine q2J ?_;refine eT ?_;refine cQ rfl rfl (fun w' hw=>⟨?_,hw.isBelow⟩);exact q4v
theorem zlV (l:List Int)(v:Value)(w:World)(h:zft w v l)(hl:l.length≤9223372036854775807)(hr:∀x∈l,0≤x∧x≤511):Calls Tryz.prog 91 #[v] w fun e w'=>e= .returned (.tuple #[.agg (Ws.cells (kJ l)).toArray, .int .i64 0])∧Below w.heap.size w w':=by
 obtain ⟨A,cap,rfl,hsl⟩:=h.op;refine dt (M:=fun _=>False) (hs:=[]) Tryz.func91 rfl rfl rfl (Hp.refl _ _) ?_;refine c7 ?_; (refine cH (Wt.none) rfl rfl (Ew.alloc) ?_;rintro _ _ ⟨g2,rfl,rfl⟩);refine gh ?_; (refine cH (Wt.none) rfl rfl (Ew.alloc) ?_;rintro _ _ ⟨g4,rfl,rfl⟩);refine gW ?_;refine c6 ?_;refine iM ?_;refine T.loop (ι:=Nat) (fun k=>[(2, .pointer (some ⟨g2,0,none⟩)),(4, .pointer (some ⟨g4,0,none⟩)),(7, .slice A l.length cap),(8, .int .i64 (l.length:Int)),(9, .int .i64 (k:Int))]) (fun k=>[.row g4 101 (Ws.cells (kJ (l.take k))), .row g2 101 (Ws.cells eJ)]) (fun k=>k≤l.length) (fun k=>l.length - k) 0 ?_ ?_ ?_ ?_
 ·omega
 ·exact (by repeat (first|exact Sub.nil|refine Sub.cons rfl ?_))
 ·exact Sx
 ·intro k hphi;have hlen:=jY (l.take k); (have hsl8:(Ws.cells (kJ (l.take k))).length=8:=by rw [List.length_map,hlen]);refine eN ?_;refine T.cond rfl (fun h1=>?_) (fun h1=>?_)
  ·have p1:=h1; (try simp only [cN] at p1);obtain ⟨g,off,rfl,hc⟩:=hsl a6;have hk:=hc k a6;simp only [Ie] at hk;have hr1:=hr _ (gR (xs:=l) (k:=k) a6);have hld:=Ws.get (ws:=kJ (l.take k)) (i:=(cD l k).toNat / 64) (p:=0+0+(cD l k).toNat / 64*1) a6 a6;refine fq ?_;refine q1G ?_;refine q3L ?_; (refine cH (Wt.none) rfl rfl (cI rfl rfl rfl (fun w hw=>zdX _ _)) ?_;rintro _ _ ⟨rfl,rfl⟩);refine dF ?_;refine gk rfl (by rw [inB,decide_eq_true hr1.1,decide_eq_true hr1.2];rfl) ?_;refine T.skip (K.seq ?_);refine dx (sN 0 4 (sN 5 3 (.still 9 (.eff 4 (.still 8 (.still 10 (.eff 11 .done))))))) [.row g2 101 (Ws.cells eJ)] a8 Sx ?_;refine eG ?_;refine cJ rfl (kh rfl rfl rfl a6) ?_;refine fF ?_;refine cJ rfl (dU rfl rfl rfl (show (cD l k) / 64=(((cD l k).toNat / 64:Nat):Int) from by omega) a6) ?_;refine eG ?_;refine cJ rfl (jM rfl rfl rfl a6) ?_;refine cJ rfl (gr (a:=1#64) ((cD l k).toNat % 64) rfl rfl rfl a6 a6) ?_;refine lU ?_;refine d8 rfl (Wt.none) rfl rfl (cT 0 rfl rfl rfl hld) Sx ?_;refine cJ rfl (iI) ?_;refine cJ rfl (dU rfl rfl rfl (show (cD l k) / 64=(((cD l k).toNat / 64:Nat):Int) from by omega) a6) ?_;refine dn ?_; (refine dr rfl (Wt.none) rfl (gH 0 (Ws.cells (dJ (kJ (l.take k)) (cD l k).toNat)) rfl rfl rfl rfl (by rw [List.length_map,hlen];omega) (Ws.put a6)) ?_;rintro _ _ ⟨rfl,rfl⟩;refine ⟨Sx,?_⟩);refine q1X ?_;exact K.next (k+1) a6 a6 (by repeat (first|exact Sub.nil|refine Sub.cons rfl ?_)) (by rw [ziZ a6];exact Sx)
  ·have p1:=h1; (try simp only [cN] at p1);refine ld ?_;refine cF (fJ 0 rfl rfl rfl hsl8) ?_; (refine dw (Wt.none) rfl (du 1 rfl rfl rfl rfl (by rw [List.length_map,jY]) (by rw [List.length_map,jY];rfl)) ?_;rintro _ _ ⟨rfl,rfl⟩);refine eT ?_;exact iU 1 rfl rfl rfl rfl (by rw [List.length_map,jY]) (fun w' hw=>⟨by rw [List.take_of_length_le a6],hw.isBelow⟩)
def ff (f:Nat→Value)(z:Value)(n k:Nat):List Value:=(List.range k).map f++List.replicate (n - k) z
theorem zd5 {f:Nat→Value}{z:Value}{n k:Nat}(h:k≤n):(ff f z n k).length=n:=by simp [ff];omega
theorem zei {f:Nat→Value}{z:Value}{n k p:Nat}(h:k<n)(hp:p=k):(ff f z n k).set p (f k)=ff f z n (k+1):=by
 subst hp;unfold ff;rw [List.set_append_right _ _ b2,show n - p=(n - (p+1))+1 by omega,List.replicate_succ,List.range_succ,List.map_append];simp
theorem zd7 (z:Value)(n:Nat):(madeCells [z].toArray (n*1)).toList=ff (fun _=>z) z n 0:=by
 apply List.ext_getElem?;intro i;by_cases h:i<n
 ·simp [ff,madeCells,List.getElem?_replicate,Nat.mod_one,h]
 ·simp [ff,madeCells,List.getElem?_replicate,h]
theorem zgU {α:Type}[Inhabited α]{xs:List α}{f:Nat→Value}{z:Value}(g:α→Int)(hf:∀j,f j= .int .i64 (g (cD xs j))){k:Nat}(hk:k=xs.length):ff f z xs.length k=(xs.map g).flatMap Ie:=by
 subst hk;unfold ff;apply List.ext_getElem?;intro i
 have e:(xs.map g).flatMap Ie=(xs.map g).map (fun z=>Value.int .i64 z):=by
  have:∀l:List Int,l.flatMap Ie=l.map (fun z=>Value.int .i64 z):=by
   intro l
   induction l with
   |nil=>rfl
   |cons x r ih=>simp [List.flatMap_cons,Ie,ih]
  exact this _
 rw [e];simp only [Nat.sub_self,List.replicate_zero,List.append_nil,List.getElem?_map,List.getElem?_range];by_cases h:i<xs.length
 ·simp [h,hf,cD]
 ·simp [h]
theorem zhK (P:Pb)(vd vp vl vc:Value)(w:World)(h:ProbAt w vd vp vl vc P)(hn:P.ds.length≤512)(hr:∀d∈P.ds,0≤d.st∧d.st≤511):Calls Tryz.prog 51 #[.agg [vd,vp,vl,vc].toArray] w fun e w'=>e= .returned (.agg (Ws.cells (kJ (P.ds.map (·.st)))).toArray)∧Below w.heap.size w w':=by
 obtain ⟨A,cap,rfl,hsl⟩:=h.ds.sl.op;obtain ⟨A1,cap1,rfl, -⟩:=h.ru.ps.op;obtain ⟨A2,cap2,rfl, -⟩:=h.ru.ls.op;obtain ⟨A3,cap3,rfl, -⟩:=h.ru.cs.op;refine dt (M:=fun _=>False) (hs:=[]) Tryz.func51 rfl rfl rfl (Hp.refl _ _) ?_;refine c7 ?_; (refine cH (Wt.none) rfl rfl (di) ?_;rintro _ _ ⟨g1,rfl,rfl⟩); (refine cH (Wt.none) rfl rfl (Ew.alloc) ?_;rintro _ _ ⟨g2,rfl,rfl⟩);refine dp ?_;refine q1O ?_;refine q3x ?_; (refine cH (Wt.none) rfl rfl (Ew.makeSlice rfl rfl rfl rfl rfl a6 a6) ?_;rintro _ _ ⟨g11,rfl,rfl⟩);refine dF ?_;refine T.cut (gs:=[(2, .pointer (some ⟨g2,0,none⟩)),(3,(.slice (some ⟨g11,0,none⟩) P.ds.length P.ds.length))]) (hs':=[.sl (.slice (some ⟨g11,0,none⟩) P.ds.length P.ds.length) 3 1 P.ds.length ((P.ds.map (·.st)).flatMap Ie), .row g2 101 (Ws.cells eJ)]) ?_ ?_
 ·skip;refine T.seq ?_;rw [zd7];refine fo ?_;refine q17 ?_;refine iM ?_;refine T.loop (ι:=Nat) (fun k=>[(2, .pointer (some ⟨g2,0,none⟩)),(3,(.slice (some ⟨g11,0,none⟩) P.ds.length P.ds.length)),(13, .slice A P.ds.length cap),(14, .int .i64 (P.ds.length:Int)),(15, .int .i64 (k:Int))]) (fun k=>[.sl (.slice (some ⟨g11,0,none⟩) P.ds.length P.ds.length) 3 1 P.ds.length (ff (fun j=> .int .i64 (cD P.ds j).st) (.int .i64 0) P.ds.length k), .row g2 101 (Ws.cells eJ)]) (fun k=>k≤P.ds.length) (fun k=>P.ds.length - k) 0 ?_ ?_ ?_ ?_
  ·omega
  ·exact (by repeat (first|exact Sub.nil|refine Sub.cons rfl ?_))
  ·exact Sx
  ·intro k hphi;refine eN ?_;refine T.cond rfl (fun h1=>?_) (fun h1=>?_)
   ·have p1:=h1; (try simp only [cN] at p1);obtain ⟨g,off,rfl,hc⟩:=hsl a6;have hk:=hc k a6;haveI:=(h.ds.at (k:=k) a6).one;simp only [Dx.cells] at hk;refine fq ?_;refine c6 ?_;refine ku ?_; (refine cH (Wt.none) rfl rfl (Ew.alloc) ?_;rintro _ _ ⟨g5,rfl,rfl⟩);refine c6 ?_; (refine dw (Wt.none) rfl (du 0) ?_;rintro _ _ ⟨rfl,rfl⟩);refine cO (T.region ?_);refine dS ?_;refine d5 ?_;refine q0u ?_; (refine dw (Wt.none) rfl (eL 1 (ff (fun j=> .int .i64 (cD P.ds j).st) (.int .i64 0) P.ds.length (k+1)) rfl rfl rfl rfl (by rw [zd5 a6];omega) (zei a6 a6)) ?_;rintro _ _ ⟨rfl,rfl⟩);refine kR ?_;exact K.next (k+1) a6 a6 (by repeat (first|exact Sub.nil|refine Sub.cons rfl ?_)) Sx
   ·have p1:=h1; (try simp only [cN] at p1);refine ft ?_;exact K.at (by repeat (first|exact Sub.nil|refine Sub.cons rfl ?_)) (by rw [zgU (fun d:Dx=>d.st) (fun _=>rfl) (show k=P.ds.length by omega)];exact Sx)
 ·skip;refine gU ?_; (refine cH (Wt.none) rfl rfl (cI rfl rfl rfl (fun w hw=>zlV (P.ds.map (·.st)) _ w (ka (enc:=Ie) (fun _=>rfl) hw 0 rfl b2) cB (by intro x hx;obtain ⟨d,hd,rfl⟩:=List.mem_map.1 hx;exact hr d hd))) ?_;rintro _ _ ⟨rfl,rfl⟩);refine eu ?_; (refine cH (Wt.none) rfl rfl (Ew.alloc) ?_;rintro _ _ ⟨g6,rfl,rfl⟩); (refine dw (Wt.none) rfl (du 0 rfl rfl rfl rfl (by rw [List.length_map,jY]) (by rw [List.length_map,jY];rfl)) ?_;rintro _ _ ⟨rfl,rfl⟩);refine gh ?_;refine cF (fJ 0 rfl rfl rfl (by rw [List.length_map,jY])) ?_; (refine dw (Wt.none) rfl (du 2 rfl rfl rfl rfl (by rw [List.length_map,jY]) (by rw [List.length_map,List.length_map,jY];rfl)) ?_;rintro _ _ ⟨rfl,rfl⟩);refine f9 ?_;exact lm 2 rfl rfl rfl (by rw [List.length_map,jY]) (fun w' hw=>⟨rfl,hw.isBelow⟩)
theorem zhC (x:Pr)(ws:Ws)(hws:ws.length=8)(p:Nat)(w:World)(hp:Cs w p 0 ws.cells):Calls Tryz.prog 53 #[.agg (Pr.cells x).toArray, .pointer (some ⟨p,0,none⟩)] w fun e w'=>e= .returned (.bool (i1 ws x.a&&i1 ws x.b))∧Below w.heap.size w w':=by
 refine dt (M:=fun _=>False) (hs:=[]) Tryz.func53 rfl rfl rfl (Hp.refl _ _) ?_;simp only [Pr.cells];refine c7 ?_; (refine cH (Wt.none) rfl rfl (di) ?_;rintro _ _ ⟨g2,rfl,rfl⟩);refine q2R ?_; (refine cH (Wt.none) rfl rfl (cI rfl rfl rfl (fun w hw=>zfv ws hws _ w)) ?_;rintro _ _ ⟨rfl,rfl⟩);refine c6 ?_;refine dd rfl rfl rfl (fun h1=>?_) (fun h1=>?_)
 ·have p1:=h1; (try simp only [cN] at p1);refine cS (Wt.some rfl rfl rfl h1) rfl rfl (gm rfl rfl hp (by rw [List.length_map,hws]) (fun h=>h)) ?_;refine q0H ?_; (refine cH (Wt.some rfl rfl rfl h1) rfl rfl (cI rfl rfl rfl (fun w hw=>zfv ws hws _ w)) ?_;rintro _ _ ⟨rfl,rfl⟩);refine jU ?_;refine eT ?_;refine cQ rfl rfl (fun w' hw=>⟨?_,hw.isBelow⟩);exact q4c
 ·have p1:=h1; (try simp only [cN] at p1);refine jm ?_;refine jm ?_;refine q2J ?_;refine eT ?_;refine cQ rfl rfl (fun w' hw=>⟨?_,hw.isBelow⟩);exact q4c
theorem zhV (x:Ld)(ws:Ws)(hws:ws.length=8)(p:Nat)(w:World)(hp:Cs w p 0 ws.cells):Calls Tryz.prog 56 #[.agg (Ld.cells x).toArray, .pointer (some ⟨p,0,none⟩)] w fun e w'=>e= .returned (.bool (i1 ws x.to&&i1 ws x.fr))∧Below w.heap.size w w':=by
 refine dt (M:=fun _=>False) (hs:=[]) Tryz.func56 rfl rfl rfl (Hp.refl _ _) ?_;simp only [Ld.cells];refine c7 ?_; (refine cH (Wt.none) rfl rfl (di) ?_;rintro _ _ ⟨g2,rfl,rfl⟩);refine q2R ?_; (refine cH (Wt.none) rfl rfl (cI rfl rfl rfl (fun w hw=>zfv ws hws _ w)) ?_;rintro _ _ ⟨rfl,rfl⟩);refine c6 ?_;refine dd rfl rfl rfl (fun h1=>?_) (fun h1=>?_)
 ·have p1:=h1; (try simp only [cN] at p1);refine cS (Wt.some rfl rfl rfl h1) rfl rfl (gm rfl rfl hp (by rw [List.length_map,hws]) (fun h=>h)) ?_;refine q0H ?_; (refine cH (Wt.some rfl rfl rfl h1) rfl rfl (cI rfl rfl rfl (fun w hw=>zfv ws hws _ w)) ?_;rintro _ _ ⟨rfl,rfl⟩);refine jU ?_;refine eT ?_;refine cQ rfl rfl (fun w' hw=>⟨?_,hw.isBelow⟩);exact q4c
 ·have p1:=h1; (try simp only [cN] at p1);refine jm ?_;refine jm ?_;refine q2J ?_;refine eT ?_;refine cQ rfl rfl (fun w' hw=>⟨?_,hw.isBelow⟩);exact q4c
theorem zhY (x:Cp)(ws:Ws)(hws:ws.length=8)(p:Nat)(w:World)(hp:Cs w p 0 ws.cells):Calls Tryz.prog 58 #[.agg (Cp.cells x).toArray, .pointer (some ⟨p,0,none⟩)] w fun e w'=>e= .returned (.bool (i1 ws x.st))∧Below w.heap.size w w':=by
 refine dt (M:=fun _=>False) (hs:=[]) Tryz.func58 rfl rfl rfl (Hp.refl _ _) ?_;simp only [Cp.cells];refine c7 ?_; (refine cH (Wt.none) rfl rfl (di) ?_;rintro _ _ ⟨g2,rfl,rfl⟩);refine q2R ?_; (refine cH (Wt.none) rfl rfl (cI rfl rfl rfl (fun w hw=>zfv ws hws _ w)) ?_;rintro _ _ ⟨rfl,rfl⟩);refine eT ?_;refine cQ rfl rfl (fun w' hw=>⟨?_,hw.isBelow⟩);exact q4c
theorem zfk (P:Pb)(vd vp vl vc:Value)(w:World)(h:ProbAt w vd vp vl vc P):Calls Tryz.prog 25 #[.agg [vd,vp,vl,vc].toArray] w fun e w'=>e= .returned (.bool P.ok)∧Below w.heap.size w w':=by
 obtain ⟨A,cap,rfl,hsl⟩:=h.ds.sl.op;obtain ⟨A1,cap1,rfl, -⟩:=h.ru.ps.op;obtain ⟨A2,cap2,rfl, -⟩:=h.ru.ls.op;obtain ⟨A3,cap3,rfl, -⟩:=h.ru.cs.op;refine dt (M:=fun _=>False) (hs:=[]) Tryz.func25 rfl rfl rfl (Hp.refl _ _) ?_;refine c7 ?_; (refine cH (Wt.none) rfl rfl (di) ?_;rintro _ _ ⟨g1,rfl,rfl⟩);refine jx ?_;refine d5 ?_; (refine cH (Wt.none) rfl rfl (cI rfl rfl rfl (fun w hw=>zkv (q:=Dx.ok) P.ds _ 46 #[] w (h.ds.sl.kept hw) (fun k hk=>(h.ds.at hk).one) (fun k hk w1 hb=>zfE _ w1 (((h.ds.at hk).kept hw).kept (fR hb)) (h.hch _ (gR hk))) h.hds)) ?_;rintro _ _ ⟨rfl,rfl⟩);refine dS ?_;refine dd rfl rfl rfl (fun h1=>?_) (fun h1=>?_)
 ·have p1:=h1; (try simp only [cN] at p1);refine jm ?_;refine jm ?_;refine jU ?_;refine li ?_;refine il ?_;refine cQ rfl rfl (fun w' hw=>⟨?_,hw.isBelow⟩);exact q30
 ·have p1:=h1; (try simp only [cN] at p1);refine cS (Wt.some rfl rfl rfl h1) rfl rfl (Yv.fieldAddr) ?_;refine cS (Wt.some rfl rfl rfl h1) rfl rfl (lx 0 (m:=[.slice A1 P.ps.length cap1, .slice A2 P.ls.length cap2, .slice A3 P.cs.length cap3]) rfl rfl rfl rfl rfl) ?_; (refine cH (Wt.some rfl rfl rfl h1) rfl rfl (cI rfl rfl rfl (fun w hw=>zfB P _ _ _ w (h.ru.kept hw))) ?_;rintro _ _ ⟨rfl,rfl⟩);refine jd ?_;refine q2J ?_;refine cO ?_;refine T.cond rfl (fun h2=>?_) (fun h2=>?_)
  ·have p2:=h2; (try simp only [cN] at p2);refine il ?_;refine cQ rfl rfl (fun w' hw=>⟨?_,hw.isBelow⟩);exact q30
  ·have p2:=h2; (try simp only [cN] at p2);refine ig ?_;refine jx ?_;refine d5 ?_;refine c6 ?_; (refine cH (Wt.none) rfl rfl (cI rfl rfl rfl (fun w hw=>zgl (c:=fun a b=>dC a.st b.st) P.ds _ 48 w (h.ds.sl.kept hw) (fun k hk=>(h.ds.at hk).one) (fun x y hx hy w1=>zf9 x y hx hy w1) h.hds)) ?_;rintro _ _ ⟨rfl,rfl⟩);refine dF ?_;refine T.cond rfl (fun h3=>?_) (fun h3=>?_)
   ·have p3:=h3; (try simp only [cN] at p3);refine il ?_;refine cQ rfl rfl (fun w' hw=>⟨?_,hw.isBelow⟩);exact q30
   ·have p3:=h3; (try simp only [cN] at p3);refine ig ?_;refine iS ?_; (have hall:fh Dx.ok P.ds=true:=by assumption); (have hinc:eQ (fun a b:Dx=>dC a.st b.st) P.ds=true:=by assumption); (have hst:∀d∈P.ds,0≤d.st∧d.st≤511:=fun d hd=>by have:=dX.1 hall d hd;simp only [Dx.ok,inB,Bool.and_eq_true,decide_eq_true_eq] at this;exact this.1); (refine cH (Wt.none) rfl rfl (cI rfl rfl rfl (fun w hw=>zhK P _ _ _ _ w (h.kept hw) (zj1 hinc hall) hst)) ?_;rintro _ _ ⟨rfl,rfl⟩); (refine cH (Wt.none) rfl rfl (Ew.alloc) ?_;rintro _ _ ⟨g4,rfl,rfl⟩); (refine dw (Wt.none) rfl (du 0 rfl rfl rfl rfl (by rw [List.length_map,jY]) (by rw [List.length_map,jY];rfl)) ?_;rintro _ _ ⟨rfl,rfl⟩);refine dp ?_;refine eS ?_;refine q1O ?_;refine c6 ?_; (refine cH (Wt.none) rfl rfl (cI rfl rfl rfl (fun w hw=>zjD (q:=fun x:Pr=>P.has x.a&&P.has x.b) P.ps _ 53 #[.pointer (some ⟨g4,0,none⟩)] w (h.ru.ps.kept hw) (fun k hk w1 hb=>zhC _ _ (jY _) _ w1 (Cs.later hb (em (cR.1 (hw.get (i:=0) rfl)) cz))) h.ru.hps)) ?_;rintro _ _ ⟨rfl,rfl⟩);refine c6 ?_;refine dd rfl rfl rfl (fun h4=>?_) (fun h4=>?_)
    ·have p4:=h4; (try simp only [cN] at p4);refine cS (Wt.some rfl rfl rfl h4) rfl rfl (Yv.fieldAddr) ?_;refine cS (Wt.some rfl rfl rfl h4) rfl rfl (Yv.fieldAddr) ?_;refine cS (Wt.some rfl rfl rfl h4) rfl rfl (cT 1) ?_;refine cS (Wt.some rfl rfl rfl h4) rfl rfl (dO) ?_; (refine cH (Wt.some rfl rfl rfl h4) rfl rfl (cI rfl rfl rfl (fun w hw=>zi4 (q:=fun x:Ld=>P.has x.to&&P.has x.fr) P.ls _ 56 #[.pointer (some ⟨g4,0,none⟩)] w (h.ru.ls.kept hw) (fun k hk w1 hb=>zhV _ _ (jY _) _ w1 (Cs.later hb (em (cR.1 (hw.get (i:=0) rfl)) cz))) h.ru.hls)) ?_;rintro _ _ ⟨rfl,rfl⟩);refine cF (ec rfl rfl h4) ?_;refine c6 ?_;refine dd rfl rfl rfl (fun h5=>?_) (fun h5=>?_)
     ·have p5:=h5; (try simp only [cN] at p5);refine cS (Wt.some rfl rfl rfl h5) rfl rfl (Yv.fieldAddr) ?_;refine cS (Wt.some rfl rfl rfl h5) rfl rfl (Yv.fieldAddr) ?_;refine cS (Wt.some rfl rfl rfl h5) rfl rfl (cT 1) ?_;refine cS (Wt.some rfl rfl rfl h5) rfl rfl (dO) ?_; (refine cH (Wt.some rfl rfl rfl h5) rfl rfl (cI rfl rfl rfl (fun w hw=>zjc (q:=fun x:Cp=>P.has x.st) P.cs _ 58 #[.pointer (some ⟨g4,0,none⟩)] w (h.ru.cs.kept hw) (fun k hk w1 hb=>zhY _ _ (jY _) _ w1 (Cs.later hb (em (cR.1 (hw.get (i:=0) rfl)) cz))) h.ru.hcs)) ?_;rintro _ _ ⟨rfl,rfl⟩);refine cF (ec rfl rfl h5) ?_;refine eT ?_;refine cQ rfl rfl (fun w' hw=>⟨?_,hw.isBelow⟩);exact q30
     ·have p5:=h5; (try simp only [cN] at p5);refine q1v ?_;refine q1v ?_;refine TL.off (Wt.not rfl rfl rfl h5) rfl rfl ?_;refine cF (dW rfl rfl h5) ?_;refine eT ?_;refine cQ rfl rfl (fun w' hw=>⟨?_,hw.isBelow⟩);exact q30
    ·have p4:=h4; (try simp only [cN] at p4);refine q2e ?_;refine TL.run 8 rfl ?_;refine f9 ?_;refine cQ rfl rfl (fun w' hw=>⟨?_,hw.isBelow⟩);exact q30
def i7 (l:List Int):BitVec 64:=l.foldl (fun m c=>m ||| 1#64 <<< c.toNat) 0#64
theorem zhD {l:List Int}{k:Nat}(h:k<l.length):i7 (l.take (k+1))=(i7 (l.take k) ||| 1#64 <<< (cD l k).toNat):=by
 unfold i7;rw [List.take_succ_eq_append_getElem h,d9 h,List.foldl_append];rfl
def pop1 (a:BitVec 64):BitVec 64:=((a >>> 1) &&& 6148914691236517205#64)+(a &&& 6148914691236517205#64)
def pop2 (a:BitVec 64):BitVec 64:=((a >>> 2) &&& 3689348814741910323#64)+(a &&& 3689348814741910323#64)
def pop3 (a:BitVec 64):BitVec 64:=((a >>> 4)+a) &&& 1085102592571150095#64
def pop4 (k:Nat)(a:BitVec 64):BitVec 64:=a+(a >>> k)
def zjJ (a:BitVec 64):Nat:=(pop4 32 (pop4 16 (pop4 8 (pop3 (pop2 (pop1 a))))) &&& 127#64).toNat
theorem zh3 (a:BitVec 64):zjJ a≤127:=by
 unfold zjJ;rw [BitVec.toNat_and];exact Nat.and_le_right
theorem ziG (b:BitVec 64):BitVec.ofInt 64 (IntKind.i64.wrap (b.toNat:Int))=b:=by
 apply BitVec.eq_of_toNat_eq;rw [BitVec.toNat_ofInt,IntKind.wrap_i64];have:=b.isLt;omega
section
variable {P:Program}{n:Nat}{B D:World}{M:Nat→Prop}{fs:dK}{hs:HS}{o:Oper}{v:Value}
theorem Yv.cn {x:Operand}{a:BitVec 64}(ho:o.op= .convert 98 3 x)(hx:ev fs x=some (U a)):Yv Tryz.prog n B M fs hs o (.int .i64 (IntKind.i64.wrap (a.toNat:Int))):=fun f w ha _=>by
 (have hr:(convert 98 3 (U a)).run Tryz.prog w= .ok (.int .i64 (IntKind.i64.wrap (a.toNat:Int))) w:=by kernel_rfl);unfold execOp;simp only [ho,ha.ev hx];rw [Sem.run_bind,hr]
 rfl
theorem Yv.cd {x:Operand}{t u:TypeId}{a:BitVec 64}(ho:o.op= .binOp .and t x (.const (.int .i64 127)) u)(hx:ev fs x=some (.int .i64 (IntKind.i64.wrap (a.toNat:Int)))):Yv P n B M fs hs o (.int .i64 ((a &&& 127#64).toNat:Int)):=fun f w ha _=>by
 have hr:(binOp .and t (.int .i64 (IntKind.i64.wrap (a.toNat:Int))) (.int .i64 127)).run P w= .ok (.int .i64 ((a &&& 127#64).toNat:Int)) w:=by
  have e:(binOp .and t (.int .i64 (IntKind.i64.wrap (a.toNat:Int))) (.int .i64 127)).run P w= .ok (.int .i64 (IntKind.i64.wrap ((BitVec.ofInt 64 (IntKind.i64.wrap (a.toNat:Int)) &&& BitVec.ofInt 64 127).toNat:Int))) w:=rfl; (have hle:(a &&& 127#64).toNat≤127:=by rw [BitVec.toNat_and];exact Nat.and_le_right);rw [e,ziG,show BitVec.ofInt 64 127=127#64 from rfl,IntWalk.i64_in _ ⟨by omega,by omega⟩]
 unfold execOp;simp only [ho,ha.ev hx,ha.ev (x:= .const (.int .i64 127)) rfl];rw [Sem.run_bind,Sem.run_bind,show (eqGuard .and t x (.const (.int .i64 127)) (.int .i64 (IntKind.i64.wrap (a.toNat:Int))) (.int .i64 127)).run P w= .ok () w from rfl];simp only [Result.andThen,hr]
 rfl
end
theorem zkm (a:BitVec 64)(w:World):Calls Tryz.prog 157 #[U a] w fun e w'=>e= .returned (.int .i64 (zjJ a:Int))∧Below w.heap.size w w':=by
 refine dt (M:=fun _=>False) (hs:=[]) Tryz.func157 rfl rfl rfl (Hp.refl _ _) ?_;refine jo ?_;refine c6 ?_;refine cF (fH 1 rfl rfl rfl rfl a7) ?_;refine cF (fx (b:=6148914691236517205#64)) ?_;refine c6 ?_;refine cF (fx (b:=6148914691236517205#64)) ?_;refine cF (i4) ?_;refine lB ?_;refine cF (fH 2 rfl rfl rfl rfl a7) ?_;refine cF (fx (b:=3689348814741910323#64)) ?_;refine c6 ?_;refine cF (fx (b:=3689348814741910323#64)) ?_;refine cF (i4) ?_;refine lB ?_;refine cF (fH 4 rfl rfl rfl rfl a7) ?_;refine c6 ?_;refine cF (i4) ?_;refine cF (fx (b:=1085102592571150095#64)) ?_;refine gh ?_;refine dS ?_;refine cF (fH 8 rfl rfl rfl rfl a7) ?_;refine cF (i4) ?_;refine gh ?_;refine dS ?_;refine cF (fH 16 rfl rfl rfl rfl a7) ?_;refine cF (i4) ?_;refine gh ?_;refine dS ?_;refine cF (fH 32 rfl rfl rfl rfl a7) ?_;refine cF (i4) ?_;refine lB ?_;refine cF (Yv.cn rfl rfl) ?_;refine cF (Yv.cd rfl rfl) ?_;refine eT ?_;refine cQ rfl rfl (fun w' hw=>⟨?_,hw.isBelow⟩)
 rfl
theorem zjQ (a:BitVec 64)(ha:a≠0#64)(w:World)(ht:Tab w):Calls Tryz.prog 141 #[U a] w fun e w'=>e= .returned (.int .i64 (ctz a:Int))∧Below w.heap.size w w':=by
 obtain ⟨hi,htab⟩:=zl0 ha;have hcell:=ht _ hi;rw [htab] at hcell;have hlt:=zfR ha;refine dt (M:=fun _=>False) (hs:=[]) Tryz.func141 rfl rfl rfl (Hp.refl _ _) ?_;refine gU ?_;refine gW ?_;refine ic ?_;refine gk rfl (by rw [zlR];exact decide_eq_false ha) ?_;refine ig ?_;refine dS ?_;refine cF (Yv.ct rfl rfl) ?_;refine cF (fx) ?_;refine cF (Yv.cr (b:=285870213051353865#64) rfl rfl rfl) ?_;refine cF (fH 58 rfl rfl rfl rfl a7) ?_;refine cF (dU rfl rfl rfl rfl a6) ?_;refine cF (dv rfl rfl (by rw [show ∀x:Nat,0+x*1=x from fun x=>by omega];exact hcell) (fun h=>h)) ?_;refine cF (Yv.cl rfl rfl (by first|exact IntWalk.i64_in _ a6|exact IntWalk.u64_in _ a6|exact IntWalk.u8_in _ a6)) ?_;refine eT ?_;refine cQ rfl rfl (fun w' hw=>⟨?_,hw.isBelow⟩)
 rfl
theorem zkS (l:List Int)(v:Value)(w:World)(h:zft w v l)(hl:l.length≤9223372036854775807)(hr:∀x∈l,2≤x∧x≤51):Calls Tryz.prog 94 #[v] w fun e w'=>e= .returned (U (i7 l))∧Below w.heap.size w w':=by
 obtain ⟨A,cap,rfl,hsl⟩:=h.op;refine dt (M:=fun _=>False) (hs:=[]) Tryz.func94 rfl rfl rfl (Hp.refl _ _) ?_;refine jo ?_;refine q3L ?_;refine iM ?_;refine T.loop (ι:=Nat) (fun k=>[(3,U (i7 (l.take k))),(6, .slice A l.length cap),(7, .int .i64 (l.length:Int)),(8, .int .i64 (k:Int))]) (fun k=>[]) (fun k=>k≤l.length) (fun k=>l.length - k) 0 ?_ ?_ ?_ ?_
 ·omega
 ·exact (by repeat (first|exact Sub.nil|refine Sub.cons rfl ?_))
 ·exact Sx
 ·intro k hphi;refine eN ?_;refine T.cond rfl (fun h1=>?_) (fun h1=>?_)
  ·have p1:=h1; (try simp only [cN] at p1);obtain ⟨g,off,rfl,hc⟩:=hsl a6;have hk:=hc k a6;simp only [Ie] at hk;have hr1:=hr _ (gR (xs:=l) (k:=k) a6);refine fq ?_;refine q1G ?_;refine c6 ?_;refine cO (T.region ?_);refine dS ?_;refine cF (gr (a:=1#64) (cD l k).toNat rfl rfl rfl a6 a6) ?_;refine q3l ?_;exact K.next (k+1) a6 a6 (by rw [zhD a6];exact (by repeat (first|exact Sub.nil|refine Sub.cons rfl ?_))) Sx
  ·have p1:=h1; (try simp only [cN] at p1);refine ld ?_;refine iX ?_;exact cQ rfl rfl (fun w' hw=>⟨by rw [List.take_of_length_le a6],hw.isBelow⟩)
end Go.Proofs.YtgoeeefoinkepaaGreatDoor
