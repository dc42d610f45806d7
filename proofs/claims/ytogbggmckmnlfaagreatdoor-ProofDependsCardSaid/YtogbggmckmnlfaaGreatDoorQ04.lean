/- A B C D: shortened and put together by squeeze.py. -/
import Derived.Test.YtogbggmckmnlfaaGreatDoorQ03
set_option maxRecDepth 100000
set_option maxHeartbeats 4000000
set_option linter.unusedVariables false
set_option linter.unusedSectionVars false
set_option linter.unusedSimpArgs false
namespace Go.Proofs.YtogbggmckmnlfaaGreatDoor
open Go.RowKit
def inB (n a b:Int):Bool:=decide (a≤n)&&decide (n≤b)
def eU (lo hi:Int):Bool:=decide (2≤lo)&&(decide (lo≤hi)&&decide (hi≤51))
def Ie (z:Int):List Value:=[.int .i64 z]
abbrev zgE (w:World)(v:Value)(l:List Int):Prop:=SlOf w v Ie 1 l
structure Dx where
 st:Int
 v:Value
 chs:List Int
instance:Inhabited Dx:=⟨⟨0, .slice none 0 0,[]⟩⟩
def Dx.cells (d:Dx):List Value:=[.int .i64 d.st,d.v]
structure Pr where
 a:Int
 b:Int
 off:Int
 lo:Int
 hi:Int
deriving DecidableEq,Inhabited
def Pr.cells (x:Pr):List Value:=[.int .i64 x.a, .int .i64 x.b, .int .i64 x.off, .int .i64 x.lo, .int .i64 x.hi]
structure Ld where
 to:Int
 fr:Int
 wt:Int
 lo:Int
 hi:Int
deriving DecidableEq,Inhabited
def Ld.cells (x:Ld):List Value:=[.int .i64 x.to, .int .i64 x.fr, .int .i64 x.wt, .int .i64 x.lo, .int .i64 x.hi]
structure Cp where
 st:Int
 mx:Int
 lo:Int
 hi:Int
deriving DecidableEq,Inhabited
def Cp.cells (x:Cp):List Value:=[.int .i64 x.st, .int .i64 x.mx, .int .i64 x.lo, .int .i64 x.hi]
structure Ch where
 st:Int
 ch:Int
deriving DecidableEq,Inhabited
def Ch.cells (x:Ch):List Value:=[.int .i64 x.st, .int .i64 x.ch]
abbrev PrsAt (w:World)(v:Value)(l:List Pr):Prop:=SlOf w v Pr.cells 5 l
abbrev LdsAt (w:World)(v:Value)(l:List Ld):Prop:=SlOf w v Ld.cells 5 l
abbrev CpsAt (w:World)(v:Value)(l:List Cp):Prop:=SlOf w v Cp.cells 4 l
structure DomsAt (w:World) (v:Value) (l:List Dx):Prop where
 sl:SlOf w v Dx.cells 2 l
 each:∀d∈l,zgE w d.v d.chs
theorem SlOf.one {α:Type}{w:World}{v:Value}{enc:α→List Value}{size:Nat}{xs:List α}(h:SlOf w v enc size xs):OneC v:=by
 obtain ⟨A,cap,rfl,_⟩:=h;exact inferInstance
theorem iE {α:Type}[Inhabited α]{xs:List α}{k:Nat}(h:k<xs.length):cI xs k∈xs:=by rw [dS h];exact List.getElem_mem _
theorem DomsAt.at {w:World}{v:Value}{l:List Dx}(h:DomsAt w v l){k:Nat}(hk:k<l.length):zgE w (cI l k).v (cI l k).chs:=h.each _ (iE hk)
theorem DomsAt.kept {B w:World}{hs:HS}{v:Value}{l:List Dx}(hw:Hp B (fun _=>False) hs w)(h:DomsAt B v l):DomsAt w v l:=⟨h.sl.kept hw,fun d hd=>(h.each d hd).kept hw⟩
structure Pb where
 ds:List Dx
 ps:List Pr
 ls:List Ld
 cs:List Cp
structure RulesAt (w:World) (vp vl vc:Value) (P:Pb):Prop where
 ps:PrsAt w vp P.ps
 ls:LdsAt w vl P.ls
 cs:CpsAt w vc P.cs
 hps:P.ps.length≤9223372036854775807
 hls:P.ls.length≤9223372036854775807
 hcs:P.cs.length≤9223372036854775807
structure ProbAt (w:World) (vd vp vl vc:Value) (P:Pb):Prop where
 ds:DomsAt w vd P.ds
 ru:RulesAt w vp vl vc P
 hds:P.ds.length≤9223372036854775807
 hch:∀d∈P.ds,d.chs.length≤9223372036854775807
theorem RulesAt.kept {B w:World}{hs:HS}{vp vl vc:Value}{P:Pb}(hw:Hp B (fun _=>False) hs w)(h:RulesAt B vp vl vc P):RulesAt w vp vl vc P:=⟨h.ps.kept hw,h.ls.kept hw,h.cs.kept hw,h.hps,h.hls,h.hcs⟩
theorem ProbAt.kept {B w:World}{hs:HS}{vd vp vl vc:Value}{P:Pb}(hw:Hp B (fun _=>False) hs w)(h:ProbAt B vd vp vl vc P):ProbAt w vd vp vl vc P:=⟨h.ds.kept hw,h.ru.kept hw,h.hds,h.hch⟩
def dN (a b:Int):Int:=if a<b then -1 else if b<a then 1 else 0
def ft {α:Type}[Inhabited α](c:α→α→Int)(xs:List α):Bool:=(List.range xs.length).all fun k=>decide (k=0)|| !decide (0≤c (cI xs (k - 1)) (cI xs k))
def fL {α:Type}[Inhabited α](q:α→Bool)(xs:List α):Bool:=(List.range xs.length).all fun k=>q (cI xs k)
def mh:List Int→Int
 | []=>0
 |x :: r=>if x=0 then mh r else x
theorem zjP {l:List Int}{k:Nat}(h:k<l.length):mh (l.drop k)=if cI l k=0 then mh (l.drop (k+1)) else cI l k:=by
 rw [List.drop_eq_getElem_cons h,dS h];rfl
theorem zdb (n a b:Int)(w:World):Calls Tryz.prog 80 #[.int .i64 n, .int .i64 a, .int .i64 b] w fun e w'=>e= .returned (.bool (inB n a b))∧Below w.heap.size w w':=by
 refine dv (M:=fun _=>False) (hs:=[]) Tryz.func80 rfl rfl rfl (Hp.refl _ _) ?_;refine q3K ?_;refine TL.run 4 rfl ?_;refine dm rfl rfl rfl (fun h1=>?_) (fun h1=>?_)
 ·have p1:=h1; (try simp only [cW] at p1);refine jF ?_;refine jF ?_;refine jF ?_;refine kI ?_;refine fo ?_;refine cX rfl rfl (fun w' hw=>⟨?_,hw.isBelow⟩);exact q4V
 ·have p1:=h1; (try simp only [cW] at p1);refine q1i ?_;refine fo ?_;refine cX rfl rfl (fun w' hw=>⟨?_,hw.isBelow⟩);exact q4V
theorem zb8 (n:Int)(w:World):Calls Tryz.prog 79 #[.int .i64 n] w fun e w'=>e= .returned (.bool (inB n 0 511))∧Below w.heap.size w w':=by
 refine dv (M:=fun _=>False) (hs:=[]) Tryz.func79 rfl rfl rfl (Hp.refl _ _) ?_;refine f7 ?_;refine jW ?_; (refine cM (Wt.none) rfl rfl (cL rfl rfl rfl (fun w hw=>zdb _ _ _ _)) ?_;rintro _ _ ⟨rfl,rfl⟩);refine fo ?_;refine cX rfl rfl (fun w' hw=>⟨?_,hw.isBelow⟩)
 rfl
theorem zeT (lo hi:Int)(w:World):Calls Tryz.prog 151 #[.int .i64 lo, .int .i64 hi] w fun e w'=>e= .returned (.bool (eU lo hi))∧Below w.heap.size w w':=by
 refine dv (M:=fun _=>False) (hs:=[]) Tryz.func151 rfl rfl rfl (Hp.refl _ _) ?_;refine q3K ?_;refine eM ?_;refine dm rfl rfl rfl (fun h1=>?_) (fun h1=>?_)
 ·have p1:=h1; (try simp only [cW] at p1);refine jF ?_;refine jF ?_;refine jF ?_;refine kI ?_;refine dd ?_;refine dm rfl rfl rfl (fun h2=>?_) (fun h2=>?_)
  ·have p2:=h2; (try simp only [cW] at p2);refine mf ?_;refine mf ?_;refine q2H ?_;refine fo ?_;refine cX rfl rfl (fun w' hw=>⟨?_,hw.isBelow⟩);exact q4L
  ·have p2:=h2; (try simp only [cW] at p2);refine q1V ?_;refine fo ?_;refine cX rfl rfl (fun w' hw=>⟨?_,hw.isBelow⟩);exact q4L
 ·have p1:=h1; (try simp only [cW] at p1);refine q1i ?_;refine TL.run 5 rfl ?_;refine gb ?_;refine cX rfl rfl (fun w' hw=>⟨?_,hw.isBelow⟩);exact q4L
theorem zh0 (n:Int)(w:World):Calls Tryz.prog 140 #[.int .i64 n] w fun e w'=>e= .returned (.bool false)∧Below w.heap.size w w':=by
 refine dv (M:=fun _=>False) (hs:=[]) Tryz.func140 rfl rfl rfl (Hp.refl _ _) ?_;refine q3K ?_;refine TL.run 4 rfl ?_;refine gb ?_;refine cX rfl rfl (fun w' hw=>⟨?_,hw.isBelow⟩);exact j5 a8
theorem kG (a b:Int)(w:World):Calls Tryz.prog 107 #[.int .i64 a, .int .i64 b] w fun e w'=>e= .returned (.int .i64 (dN a b))∧Below w.heap.size w w':=by
 refine dv (M:=fun _=>False) (hs:=[]) Tryz.func107 rfl rfl rfl (Hp.refl _ _) ?_;refine f7 ?_;refine jW ?_; (refine cM (Wt.none) rfl rfl (cL rfl rfl rfl (fun w hw=>zh0 _ _)) ?_;rintro _ _ ⟨rfl,rfl⟩);refine ln ?_; (refine cM (Wt.none) rfl rfl (cL rfl rfl rfl (fun w hw=>zh0 _ _)) ?_;rintro _ _ ⟨rfl,rfl⟩);refine jl ?_;refine dD ?_;refine ii rfl rfl ?_;refine jx ?_;refine dD ?_;refine ii rfl rfl ?_;refine jx ?_;refine eM ?_;refine c4 ?_;refine T.cond rfl (fun h1=>?_) (fun h1=>?_)
 ·have p1:=h1; (try simp only [cW] at p1);refine ik ?_;refine cX rfl rfl (fun w' hw=>⟨?_,hw.isBelow⟩);exact q4M
 ·have p1:=h1; (try simp only [cW] at p1);refine jx ?_;refine eM ?_;refine c4 ?_;refine T.cond rfl (fun h2=>?_) (fun h2=>?_)
  ·have p2:=h2; (try simp only [cW] at p2);refine ik ?_;refine cX rfl rfl (fun w' hw=>⟨?_,hw.isBelow⟩);exact q4M
  ·have p2:=h2; (try simp only [cW] at p2);refine iD ?_;refine fo ?_;refine cX rfl rfl (fun w' hw=>⟨?_,hw.isBelow⟩);exact q4M
theorem zlc (l:List Int)(v:Value)(w:World)(h:zgE w v l)(hl:l.length≤9223372036854775807):Calls Tryz.prog 152 #[v] w fun e w'=>e= .returned (.int .i64 (mh l))∧Below w.heap.size w w':=by
 obtain ⟨A,cap,rfl,hsl⟩:=h.op;refine dv (M:=fun _=>False) (hs:=[]) Tryz.func152 rfl rfl rfl (Hp.refl _ _) ?_;refine q3K ?_;refine mX ?_;refine jE ?_;refine T.loop (ι:=Nat) (fun k=>[(3, .int .i64 0),(6, .slice A l.length cap),(7, .int .i64 (l.length:Int)),(8, .int .i64 (k:Int))]) (fun k=>[]) (fun k=>k≤l.length∧mh (l.drop k)=mh l) (fun k=>l.length - k) 0 ?_ ?_ ?_ ?_
 ·exact ⟨by omega,rfl⟩
 ·exact (by repeat (first|exact Sub.nil|refine Sub.cons rfl ?_))
 ·exact Sx
 ·intro k hphi;obtain ⟨hkl,hor⟩:=hphi;refine eO ?_;refine T.cond rfl (fun h1=>?_) (fun h1=>?_)
  ·have p1:=h1; (try simp only [cW] at p1);obtain ⟨g,off,rfl,hc⟩:=hsl a5;have hk:=hc k a5;simp only [Ie] at hk;refine fv ?_;refine q18 ?_;refine gy ?_;refine eM ?_;refine c4 ?_;refine T.cond rfl (fun h2=>?_) (fun h2=>?_)
   ·have p2:=h2; (try simp only [cW] at p2);refine jX ?_;refine q3b ?_;refine cX rfl rfl (fun w' hw=>⟨?_,hw.isBelow⟩);exact zcY (by rw [zjP a5,if_neg b8] at hor;exact hor)
   ·have p2:=h2; (try simp only [cW] at p2);refine gU ?_;exact K.next (k+1) ⟨by omega,by rw [zjP a5,if_pos b8] at hor;exact hor⟩ a5 (by repeat (first|exact Sub.nil|refine Sub.cons rfl ?_)) Sx
  ·have p1:=h1; (try simp only [cW] at p1);refine q01 ?_;refine j3 ?_;refine cX rfl rfl (fun w' hw=>⟨?_,hw.isBelow⟩);exact zcY (by rw [List.drop_eq_nil_of_le a5] at hor;exact hor)
theorem zmJ {q:Dx→Bool}(xs:List Dx)(v:Value)(f:FuncId)(caps:Array Value)(w:World)(h:SlOf w v Dx.cells 2 xs)(ho1:∀k,k<xs.length→OneC (cI xs k).v)[hE:Enters Tryz.prog f](hC:∀k,k<xs.length→∀w',Below w.heap.size w w'→Calls Tryz.prog f (.agg (Dx.cells (cI xs k)).toArray :: caps.toList).toArray w' fun e w''=>e= .returned (.bool (q (cI xs k)))∧Below w'.heap.size w' w'')(hl:xs.length≤9223372036854775807):Calls Tryz.prog 103 #[v, .func (.func f) #[] caps] w fun e w'=>e= .returned (.bool (fL q xs))∧Below w.heap.size w w':=by
 obtain ⟨A,cap,rfl,hsl⟩:=h.op;refine dv (M:=fun _=>False) (hs:=[]) Tryz.func103 rfl rfl rfl (Hp.refl _ _) ?_;refine i5 ?_;refine jE ?_;refine T.loop (ι:=Nat) (fun k=>[(1, .func (.func f) #[] caps),(7, .slice A xs.length cap),(8, .int .i64 (xs.length:Int)),(9, .int .i64 (k:Int))]) (fun k=>[]) (fun k=>k≤xs.length∧∀j,j<k→q (cI xs j)=true) (fun k=>xs.length - k) 0 ?_ ?_ ?_ ?_
 ·exact q4w
 ·exact (by repeat (first|exact Sub.nil|refine Sub.cons rfl ?_))
 ·exact Sx
 ·intro k hphi;obtain ⟨hkl,hall⟩:=hphi;refine eO ?_;refine T.cond rfl (fun h1=>?_) (fun h1=>?_)
  ·have p1:=h1; (try simp only [cW] at p1);obtain ⟨g,off,rfl,hc⟩:=hsl a5;have hk:=hc k a5;haveI:=ho1 k a5;simp only [Dx.cells] at hk;refine fv ?_;refine lC ?_; (refine cM (Wt.none) rfl rfl (Ew.alloc) ?_;rintro _ _ ⟨g6,rfl,rfl⟩); (refine dH (Wt.none) rfl (du 0) ?_;rintro _ _ ⟨rfl,rfl⟩);refine jW ?_;refine ij ?_; (refine cM (Wt.none) rfl rfl (kv rfl rfl rfl (fun w hw=>hC k a5 w hw.isBelow)) ?_;rintro _ _ ⟨rfl,rfl⟩);refine dD ?_;refine T.cond rfl (fun h2=>?_) (fun h2=>?_)
   ·have p2:=h2; (try simp only [cW] at p2);refine iu ?_;refine cX rfl rfl (fun w' hw=>⟨?_,hw.isBelow⟩);exact q4x
   ·have p2:=h2; (try simp only [cW] at p2);refine gU ?_;exact K.next (k+1) ⟨by omega,zem hall (by simpa using p2)⟩ a5 (by repeat (first|exact Sub.nil|refine Sub.cons rfl ?_)) Sx
  ·have p1:=h1; (try simp only [cW] at p1);refine q38 ?_;refine cX rfl rfl (fun w' hw=>⟨?_,hw.isBelow⟩);exact q4y
theorem zhN {c:Dx→Dx→Int}(xs:List Dx)(v:Value)(f:FuncId)(w:World)(h:SlOf w v Dx.cells 2 xs)(ho1:∀k,k<xs.length→OneC (cI xs k).v)[hE:Enters Tryz.prog f](hC:∀x y:Dx,OneC x.v→OneC y.v→∀w':World,Calls Tryz.prog f #[.agg (Dx.cells (x)).toArray, .agg (Dx.cells (y)).toArray] w' fun e w''=>e= .returned (.int .i64 (c x y))∧Below w'.heap.size w' w'')(hl:xs.length≤9223372036854775807):Calls Tryz.prog 108 #[v, .func (.func f) #[] #[]] w fun e w'=>e= .returned (.bool (ft c xs))∧Below w.heap.size w w':=by
 obtain ⟨A,cap,rfl,hsl⟩:=h.op;refine dv (M:=fun _=>False) (hs:=[]) Tryz.func108 rfl rfl rfl (Hp.refl _ _) ?_;refine i5 ?_;refine c4 (T.block ?_);refine T.loop (ι:=Nat) (fun k=>[(0, .slice A xs.length cap),(1, .func (.func f) #[] #[]),(5, .int .i64 (k:Int))]) (fun k=>[]) (fun k=>1≤k∧∀j,j<k→j<xs.length→(decide (j=0)|| !decide (0≤c (cI xs (j - 1)) (cI xs j)))=true) (fun k=>xs.length - k) 1 ?_ ?_ ?_ ?_
 ·exact q4z
 ·exact (by repeat (first|exact Sub.nil|refine Sub.cons rfl ?_))
 ·exact Sx
 ·intro k hphi;obtain ⟨hk0,hall⟩:=hphi;refine q2z ?_;refine T.cond rfl (fun h1=>?_) (fun h1=>?_)
  ·have p1:=h1; (try simp only [cW] at p1);obtain ⟨g,off,rfl,hc⟩:=hsl a5;have hk:=hc k a5;have hk1:=hc (k - 1) a5;have o1:=ho1 k a5;have o2:=ho1 (k - 1) a5;simp only [Dx.cells] at hk hk1;refine q0t ?_; (refine c9 rfl (Wt.none) rfl rfl (cL rfl rfl rfl (fun w hw=>hC (cI xs (k - 1)) (cI xs k) o2 o1 w)) ?_;rintro _ _ ⟨rfl,rfl⟩;refine ⟨Sx,?_⟩);refine j9 ?_;refine T.cond rfl (fun h2=>?_) (fun h2=>?_)
   ·have p2:=h2; (try simp only [cW] at p2);refine iu ?_;refine cX rfl rfl (fun w' hw=>⟨?_,hw.isBelow⟩);exact q4A
   ·have p2:=h2; (try simp only [cW] at p2);refine im ?_;exact K.next (k+1) ⟨by omega,fun j hj hjl=>by rcases Nat.lt_or_ge j k with hh|hh;exact hall j hh hjl;rw [show j=k from by omega,decide_eq_false a5];simpa using p2⟩ a5 (by repeat (first|exact Sub.nil|refine Sub.cons rfl ?_)) Sx
  ·have p1:=h1; (try simp only [cW] at p1);refine q38 ?_;refine cX rfl rfl (fun w' hw=>⟨?_,hw.isBelow⟩);exact q4B
theorem zlb {q:Pr→Bool}(xs:List Pr)(v:Value)(f:FuncId)(caps:Array Value)(w:World)(h:SlOf w v Pr.cells 5 xs)[hE:Enters Tryz.prog f](hC:∀k,k<xs.length→∀w',Below w.heap.size w w'→Calls Tryz.prog f (.agg (Pr.cells (cI xs k)).toArray :: caps.toList).toArray w' fun e w''=>e= .returned (.bool (q (cI xs k)))∧Below w'.heap.size w' w'')(hl:xs.length≤9223372036854775807):Calls Tryz.prog 110 #[v, .func (.func f) #[] caps] w fun e w'=>e= .returned (.bool (fL q xs))∧Below w.heap.size w w':=by
 obtain ⟨A,cap,rfl,hsl⟩:=h.op;refine dv (M:=fun _=>False) (hs:=[]) Tryz.func110 rfl rfl rfl (Hp.refl _ _) ?_;refine i5 ?_;refine jE ?_;refine T.loop (ι:=Nat) (fun k=>[(1, .func (.func f) #[] caps),(7, .slice A xs.length cap),(8, .int .i64 (xs.length:Int)),(9, .int .i64 (k:Int))]) (fun k=>[]) (fun k=>k≤xs.length∧∀j,j<k→q (cI xs j)=true) (fun k=>xs.length - k) 0 ?_ ?_ ?_ ?_
 ·exact q4w
 ·exact (by repeat (first|exact Sub.nil|refine Sub.cons rfl ?_))
 ·exact Sx
 ·intro k hphi;obtain ⟨hkl,hall⟩:=hphi;refine eO ?_;refine T.cond rfl (fun h1=>?_) (fun h1=>?_)
  ·have p1:=h1; (try simp only [cW] at p1);obtain ⟨g,off,rfl,hc⟩:=hsl a5;have hk:=hc k a5;simp only [Pr.cells] at hk;refine fv ?_;refine lC ?_; (refine cM (Wt.none) rfl rfl (Ew.alloc) ?_;rintro _ _ ⟨g6,rfl,rfl⟩); (refine dH (Wt.none) rfl (du 0) ?_;rintro _ _ ⟨rfl,rfl⟩);refine jW ?_;refine ij ?_; (refine cM (Wt.none) rfl rfl (kv rfl rfl rfl (fun w hw=>hC k a5 w hw.isBelow)) ?_;rintro _ _ ⟨rfl,rfl⟩);refine dD ?_;refine T.cond rfl (fun h2=>?_) (fun h2=>?_)
   ·have p2:=h2; (try simp only [cW] at p2);refine iu ?_;refine cX rfl rfl (fun w' hw=>⟨?_,hw.isBelow⟩);exact q4x
   ·have p2:=h2; (try simp only [cW] at p2);refine gU ?_;exact K.next (k+1) ⟨by omega,zem hall (by simpa using p2)⟩ a5 (by repeat (first|exact Sub.nil|refine Sub.cons rfl ?_)) Sx
  ·have p1:=h1; (try simp only [cW] at p1);refine q38 ?_;refine cX rfl rfl (fun w' hw=>⟨?_,hw.isBelow⟩);exact q4y
theorem ziN {c:Pr→Pr→Int}(xs:List Pr)(v:Value)(f:FuncId)(w:World)(h:SlOf w v Pr.cells 5 xs)[hE:Enters Tryz.prog f](hC:∀x y:Pr,∀w':World,Calls Tryz.prog f #[.agg (Pr.cells (x)).toArray, .agg (Pr.cells (y)).toArray] w' fun e w''=>e= .returned (.int .i64 (c x y))∧Below w'.heap.size w' w'')(hl:xs.length≤9223372036854775807):Calls Tryz.prog 132 #[v, .func (.func f) #[] #[]] w fun e w'=>e= .returned (.bool (ft c xs))∧Below w.heap.size w w':=by
 obtain ⟨A,cap,rfl,hsl⟩:=h.op;refine dv (M:=fun _=>False) (hs:=[]) Tryz.func132 rfl rfl rfl (Hp.refl _ _) ?_;refine i5 ?_;refine c4 (T.block ?_);refine T.loop (ι:=Nat) (fun k=>[(0, .slice A xs.length cap),(1, .func (.func f) #[] #[]),(5, .int .i64 (k:Int))]) (fun k=>[]) (fun k=>1≤k∧∀j,j<k→j<xs.length→(decide (j=0)|| !decide (0≤c (cI xs (j - 1)) (cI xs j)))=true) (fun k=>xs.length - k) 1 ?_ ?_ ?_ ?_
 ·exact q4z
 ·exact (by repeat (first|exact Sub.nil|refine Sub.cons rfl ?_))
 ·exact Sx
 ·intro k hphi;obtain ⟨hk0,hall⟩:=hphi;refine q2z ?_;refine T.cond rfl (fun h1=>?_) (fun h1=>?_)
  ·have p1:=h1; (try simp only [cW] at p1);obtain ⟨g,off,rfl,hc⟩:=hsl a5;have hk:=hc k a5;have hk1:=hc (k - 1) a5;simp only [Pr.cells] at hk hk1;refine q0t ?_; (refine c9 rfl (Wt.none) rfl rfl (cL rfl rfl rfl (fun w hw=>hC (cI xs (k - 1)) (cI xs k) w)) ?_;rintro _ _ ⟨rfl,rfl⟩;refine ⟨Sx,?_⟩);refine j9 ?_;refine T.cond rfl (fun h2=>?_) (fun h2=>?_)
   ·have p2:=h2; (try simp only [cW] at p2);refine iu ?_;refine cX rfl rfl (fun w' hw=>⟨?_,hw.isBelow⟩);exact q4A
   ·have p2:=h2; (try simp only [cW] at p2);refine im ?_;exact K.next (k+1) ⟨by omega,fun j hj hjl=>by rcases Nat.lt_or_ge j k with hh|hh;exact hall j hh hjl;rw [show j=k from by omega,decide_eq_false a5];simpa using p2⟩ a5 (by repeat (first|exact Sub.nil|refine Sub.cons rfl ?_)) Sx
  ·have p1:=h1; (try simp only [cW] at p1);refine q38 ?_;refine cX rfl rfl (fun w' hw=>⟨?_,hw.isBelow⟩);exact q4B
theorem zlA {q:Ld→Bool}(xs:List Ld)(v:Value)(f:FuncId)(caps:Array Value)(w:World)(h:SlOf w v Ld.cells 5 xs)[hE:Enters Tryz.prog f](hC:∀k,k<xs.length→∀w',Below w.heap.size w w'→Calls Tryz.prog f (.agg (Ld.cells (cI xs k)).toArray :: caps.toList).toArray w' fun e w''=>e= .returned (.bool (q (cI xs k)))∧Below w'.heap.size w' w'')(hl:xs.length≤9223372036854775807):Calls Tryz.prog 112 #[v, .func (.func f) #[] caps] w fun e w'=>e= .returned (.bool (fL q xs))∧Below w.heap.size w w':=by
 obtain ⟨A,cap,rfl,hsl⟩:=h.op;refine dv (M:=fun _=>False) (hs:=[]) Tryz.func112 rfl rfl rfl (Hp.refl _ _) ?_;refine i5 ?_;refine jE ?_;refine T.loop (ι:=Nat) (fun k=>[(1, .func (.func f) #[] caps),(7, .slice A xs.length cap),(8, .int .i64 (xs.length:Int)),(9, .int .i64 (k:Int))]) (fun k=>[]) (fun k=>k≤xs.length∧∀j,j<k→q (cI xs j)=true) (fun k=>xs.length - k) 0 ?_ ?_ ?_ ?_
 ·exact q4w
 ·exact (by repeat (first|exact Sub.nil|refine Sub.cons rfl ?_))
 ·exact Sx
 ·intro k hphi;obtain ⟨hkl,hall⟩:=hphi;refine eO ?_;refine T.cond rfl (fun h1=>?_) (fun h1=>?_)
  ·have p1:=h1; (try simp only [cW] at p1);obtain ⟨g,off,rfl,hc⟩:=hsl a5;have hk:=hc k a5;simp only [Ld.cells] at hk;refine fv ?_;refine lC ?_; (refine cM (Wt.none) rfl rfl (Ew.alloc) ?_;rintro _ _ ⟨g6,rfl,rfl⟩); (refine dH (Wt.none) rfl (du 0) ?_;rintro _ _ ⟨rfl,rfl⟩);refine jW ?_;refine ij ?_; (refine cM (Wt.none) rfl rfl (kv rfl rfl rfl (fun w hw=>hC k a5 w hw.isBelow)) ?_;rintro _ _ ⟨rfl,rfl⟩);refine dD ?_;refine T.cond rfl (fun h2=>?_) (fun h2=>?_)
   ·have p2:=h2; (try simp only [cW] at p2);refine iu ?_;refine cX rfl rfl (fun w' hw=>⟨?_,hw.isBelow⟩);exact q4x
   ·have p2:=h2; (try simp only [cW] at p2);refine gU ?_;exact K.next (k+1) ⟨by omega,zem hall (by simpa using p2)⟩ a5 (by repeat (first|exact Sub.nil|refine Sub.cons rfl ?_)) Sx
  ·have p1:=h1; (try simp only [cW] at p1);refine q38 ?_;refine cX rfl rfl (fun w' hw=>⟨?_,hw.isBelow⟩);exact q4y
theorem ziH {c:Ld→Ld→Int}(xs:List Ld)(v:Value)(f:FuncId)(w:World)(h:SlOf w v Ld.cells 5 xs)[hE:Enters Tryz.prog f](hC:∀x y:Ld,∀w':World,Calls Tryz.prog f #[.agg (Ld.cells (x)).toArray, .agg (Ld.cells (y)).toArray] w' fun e w''=>e= .returned (.int .i64 (c x y))∧Below w'.heap.size w' w'')(hl:xs.length≤9223372036854775807):Calls Tryz.prog 135 #[v, .func (.func f) #[] #[]] w fun e w'=>e= .returned (.bool (ft c xs))∧Below w.heap.size w w':=by
 obtain ⟨A,cap,rfl,hsl⟩:=h.op;refine dv (M:=fun _=>False) (hs:=[]) Tryz.func135 rfl rfl rfl (Hp.refl _ _) ?_;refine i5 ?_;refine c4 (T.block ?_);refine T.loop (ι:=Nat) (fun k=>[(0, .slice A xs.length cap),(1, .func (.func f) #[] #[]),(5, .int .i64 (k:Int))]) (fun k=>[]) (fun k=>1≤k∧∀j,j<k→j<xs.length→(decide (j=0)|| !decide (0≤c (cI xs (j - 1)) (cI xs j)))=true) (fun k=>xs.length - k) 1 ?_ ?_ ?_ ?_
 ·exact q4z
 ·exact (by repeat (first|exact Sub.nil|refine Sub.cons rfl ?_))
 ·exact Sx
 ·intro k hphi;obtain ⟨hk0,hall⟩:=hphi;refine q2z ?_;refine T.cond rfl (fun h1=>?_) (fun h1=>?_)
  ·have p1:=h1; (try simp only [cW] at p1);obtain ⟨g,off,rfl,hc⟩:=hsl a5;have hk:=hc k a5;have hk1:=hc (k - 1) a5;simp only [Ld.cells] at hk hk1;refine q0t ?_; (refine c9 rfl (Wt.none) rfl rfl (cL rfl rfl rfl (fun w hw=>hC (cI xs (k - 1)) (cI xs k) w)) ?_;rintro _ _ ⟨rfl,rfl⟩;refine ⟨Sx,?_⟩);refine j9 ?_;refine T.cond rfl (fun h2=>?_) (fun h2=>?_)
   ·have p2:=h2; (try simp only [cW] at p2);refine iu ?_;refine cX rfl rfl (fun w' hw=>⟨?_,hw.isBelow⟩);exact q4A
   ·have p2:=h2; (try simp only [cW] at p2);refine im ?_;exact K.next (k+1) ⟨by omega,fun j hj hjl=>by rcases Nat.lt_or_ge j k with hh|hh;exact hall j hh hjl;rw [show j=k from by omega,decide_eq_false a5];simpa using p2⟩ a5 (by repeat (first|exact Sub.nil|refine Sub.cons rfl ?_)) Sx
  ·have p1:=h1; (try simp only [cW] at p1);refine q38 ?_;refine cX rfl rfl (fun w' hw=>⟨?_,hw.isBelow⟩);exact q4B
theorem zl0 {q:Cp→Bool}(xs:List Cp)(v:Value)(f:FuncId)(caps:Array Value)(w:World)(h:SlOf w v Cp.cells 4 xs)[hE:Enters Tryz.prog f](hC:∀k,k<xs.length→∀w',Below w.heap.size w w'→Calls Tryz.prog f (.agg (Cp.cells (cI xs k)).toArray :: caps.toList).toArray w' fun e w''=>e= .returned (.bool (q (cI xs k)))∧Below w'.heap.size w' w'')(hl:xs.length≤9223372036854775807):Calls Tryz.prog 114 #[v, .func (.func f) #[] caps] w fun e w'=>e= .returned (.bool (fL q xs))∧Below w.heap.size w w':=by
 obtain ⟨A,cap,rfl,hsl⟩:=h.op;refine dv (M:=fun _=>False) (hs:=[]) Tryz.func114 rfl rfl rfl (Hp.refl _ _) ?_;refine i5 ?_;refine jE ?_;refine T.loop (ι:=Nat) (fun k=>[(1, .func (.func f) #[] caps),(7, .slice A xs.length cap),(8, .int .i64 (xs.length:Int)),(9, .int .i64 (k:Int))]) (fun k=>[]) (fun k=>k≤xs.length∧∀j,j<k→q (cI xs j)=true) (fun k=>xs.length - k) 0 ?_ ?_ ?_ ?_
 ·exact q4w
 ·exact (by repeat (first|exact Sub.nil|refine Sub.cons rfl ?_))
 ·exact Sx
 ·intro k hphi;obtain ⟨hkl,hall⟩:=hphi;refine eO ?_;refine T.cond rfl (fun h1=>?_) (fun h1=>?_)
  ·have p1:=h1; (try simp only [cW] at p1);obtain ⟨g,off,rfl,hc⟩:=hsl a5;have hk:=hc k a5;simp only [Cp.cells] at hk;refine fv ?_;refine lC ?_; (refine cM (Wt.none) rfl rfl (Ew.alloc) ?_;rintro _ _ ⟨g6,rfl,rfl⟩); (refine dH (Wt.none) rfl (du 0) ?_;rintro _ _ ⟨rfl,rfl⟩);refine jW ?_;refine ij ?_; (refine cM (Wt.none) rfl rfl (kv rfl rfl rfl (fun w hw=>hC k a5 w hw.isBelow)) ?_;rintro _ _ ⟨rfl,rfl⟩);refine dD ?_;refine T.cond rfl (fun h2=>?_) (fun h2=>?_)
   ·have p2:=h2; (try simp only [cW] at p2);refine iu ?_;refine cX rfl rfl (fun w' hw=>⟨?_,hw.isBelow⟩);exact q4x
   ·have p2:=h2; (try simp only [cW] at p2);refine gU ?_;exact K.next (k+1) ⟨by omega,zem hall (by simpa using p2)⟩ a5 (by repeat (first|exact Sub.nil|refine Sub.cons rfl ?_)) Sx
  ·have p1:=h1; (try simp only [cW] at p1);refine q38 ?_;refine cX rfl rfl (fun w' hw=>⟨?_,hw.isBelow⟩);exact q4y
theorem zh1 {c:Cp→Cp→Int}(xs:List Cp)(v:Value)(f:FuncId)(w:World)(h:SlOf w v Cp.cells 4 xs)[hE:Enters Tryz.prog f](hC:∀x y:Cp,∀w':World,Calls Tryz.prog f #[.agg (Cp.cells (x)).toArray, .agg (Cp.cells (y)).toArray] w' fun e w''=>e= .returned (.int .i64 (c x y))∧Below w'.heap.size w' w'')(hl:xs.length≤9223372036854775807):Calls Tryz.prog 138 #[v, .func (.func f) #[] #[]] w fun e w'=>e= .returned (.bool (ft c xs))∧Below w.heap.size w w':=by
 obtain ⟨A,cap,rfl,hsl⟩:=h.op;refine dv (M:=fun _=>False) (hs:=[]) Tryz.func138 rfl rfl rfl (Hp.refl _ _) ?_;refine i5 ?_;refine c4 (T.block ?_);refine T.loop (ι:=Nat) (fun k=>[(0, .slice A xs.length cap),(1, .func (.func f) #[] #[]),(5, .int .i64 (k:Int))]) (fun k=>[]) (fun k=>1≤k∧∀j,j<k→j<xs.length→(decide (j=0)|| !decide (0≤c (cI xs (j - 1)) (cI xs j)))=true) (fun k=>xs.length - k) 1 ?_ ?_ ?_ ?_
 ·exact q4z
 ·exact (by repeat (first|exact Sub.nil|refine Sub.cons rfl ?_))
 ·exact Sx
 ·intro k hphi;obtain ⟨hk0,hall⟩:=hphi;refine q2z ?_;refine T.cond rfl (fun h1=>?_) (fun h1=>?_)
  ·have p1:=h1; (try simp only [cW] at p1);obtain ⟨g,off,rfl,hc⟩:=hsl a5;have hk:=hc k a5;have hk1:=hc (k - 1) a5;simp only [Cp.cells] at hk hk1;refine q0t ?_; (refine c9 rfl (Wt.none) rfl rfl (cL rfl rfl rfl (fun w hw=>hC (cI xs (k - 1)) (cI xs k) w)) ?_;rintro _ _ ⟨rfl,rfl⟩;refine ⟨Sx,?_⟩);refine j9 ?_;refine T.cond rfl (fun h2=>?_) (fun h2=>?_)
   ·have p2:=h2; (try simp only [cW] at p2);refine iu ?_;refine cX rfl rfl (fun w' hw=>⟨?_,hw.isBelow⟩);exact q4A
   ·have p2:=h2; (try simp only [cW] at p2);refine im ?_;exact K.next (k+1) ⟨by omega,fun j hj hjl=>by rcases Nat.lt_or_ge j k with hh|hh;exact hall j hh hjl;rw [show j=k from by omega,decide_eq_false a5];simpa using p2⟩ a5 (by repeat (first|exact Sub.nil|refine Sub.cons rfl ?_)) Sx
  ·have p1:=h1; (try simp only [cW] at p1);refine q38 ?_;refine cX rfl rfl (fun w' hw=>⟨?_,hw.isBelow⟩);exact q4B
theorem zmC {q:Int→Bool}(xs:List Int)(v:Value)(f:FuncId)(caps:Array Value)(w:World)(h:SlOf w v Ie 1 xs)[hE:Enters Tryz.prog f](hC:∀k,k<xs.length→∀w',Below w.heap.size w w'→Calls Tryz.prog f (.int .i64 (cI xs k) :: caps.toList).toArray w' fun e w''=>e= .returned (.bool (q (cI xs k)))∧Below w'.heap.size w' w'')(hl:xs.length≤9223372036854775807):Calls Tryz.prog 122 #[v, .func (.func f) #[] caps] w fun e w'=>e= .returned (.bool (fL q xs))∧Below w.heap.size w w':=by
 obtain ⟨A,cap,rfl,hsl⟩:=h.op;refine dv (M:=fun _=>False) (hs:=[]) Tryz.func122 rfl rfl rfl (Hp.refl _ _) ?_;refine i5 ?_;refine jE ?_;refine T.loop (ι:=Nat) (fun k=>[(1, .func (.func f) #[] caps),(7, .slice A xs.length cap),(8, .int .i64 (xs.length:Int)),(9, .int .i64 (k:Int))]) (fun k=>[]) (fun k=>k≤xs.length∧∀j,j<k→q (cI xs j)=true) (fun k=>xs.length - k) 0 ?_ ?_ ?_ ?_
 ·exact q4w
 ·exact (by repeat (first|exact Sub.nil|refine Sub.cons rfl ?_))
 ·exact Sx
 ·intro k hphi;obtain ⟨hkl,hall⟩:=hphi;refine eO ?_;refine T.cond rfl (fun h1=>?_) (fun h1=>?_)
  ·have p1:=h1; (try simp only [cW] at p1);obtain ⟨g,off,rfl,hc⟩:=hsl a5;have hk:=hc k a5;simp only [Ie] at hk;refine fv ?_;refine q18 ?_;refine gy ?_;refine eh ?_; (refine cM (Wt.none) rfl rfl (kv rfl rfl rfl (fun w hw=>hC k a5 w hw.isBelow)) ?_;rintro _ _ ⟨rfl,rfl⟩);refine dD ?_;refine T.cond rfl (fun h2=>?_) (fun h2=>?_)
   ·have p2:=h2; (try simp only [cW] at p2);refine iu ?_;refine cX rfl rfl (fun w' hw=>⟨?_,hw.isBelow⟩);exact q4x
   ·have p2:=h2; (try simp only [cW] at p2);refine gU ?_;exact K.next (k+1) ⟨by omega,zem hall (by simpa using p2)⟩ a5 (by repeat (first|exact Sub.nil|refine Sub.cons rfl ?_)) Sx
  ·have p1:=h1; (try simp only [cW] at p1);refine q38 ?_;refine cX rfl rfl (fun w' hw=>⟨?_,hw.isBelow⟩);exact q4y
theorem zhn {c:Int→Int→Int}(xs:List Int)(v:Value)(f:FuncId)(w:World)(h:SlOf w v Ie 1 xs)[hE:Enters Tryz.prog f](hC:∀x y:Int,∀w':World,Calls Tryz.prog f #[.int .i64 (x), .int .i64 (y)] w' fun e w''=>e= .returned (.int .i64 (c x y))∧Below w'.heap.size w' w'')(hl:xs.length≤9223372036854775807):Calls Tryz.prog 123 #[v, .func (.func f) #[] #[]] w fun e w'=>e= .returned (.bool (ft c xs))∧Below w.heap.size w w':=by
 obtain ⟨A,cap,rfl,hsl⟩:=h.op;refine dv (M:=fun _=>False) (hs:=[]) Tryz.func123 rfl rfl rfl (Hp.refl _ _) ?_;refine i5 ?_;refine c4 (T.block ?_);refine T.loop (ι:=Nat) (fun k=>[(0, .slice A xs.length cap),(1, .func (.func f) #[] #[]),(5, .int .i64 (k:Int))]) (fun k=>[]) (fun k=>1≤k∧∀j,j<k→j<xs.length→(decide (j=0)|| !decide (0≤c (cI xs (j - 1)) (cI xs j)))=true) (fun k=>xs.length - k) 1 ?_ ?_ ?_ ?_
 ·exact q4z
 ·exact (by repeat (first|exact Sub.nil|refine Sub.cons rfl ?_))
 ·exact Sx
 ·intro k hphi;obtain ⟨hk0,hall⟩:=hphi;refine q2z ?_;refine T.cond rfl (fun h1=>?_) (fun h1=>?_)
  ·have p1:=h1; (try simp only [cW] at p1);obtain ⟨g,off,rfl,hc⟩:=hsl a5;have hk:=hc k a5;have hk1:=hc (k - 1) a5;simp only [Ie] at hk hk1;refine j1 ?_;refine q20 ?_;refine q08 ?_;refine cP rfl (gh rfl rfl rfl (show (k:Int) - 1=((k - 1:Nat):Int) from by omega) a5) ?_;refine cP rfl (dY (j:=0) rfl rfl hk1 rfl rfl (fun h=>h)) ?_;refine gM ?_;refine q2P ?_;refine cP rfl (dY (j:=0) rfl rfl hk rfl rfl (fun h=>h)) ?_;refine dy ?_; (refine c9 rfl (Wt.none) rfl rfl (cL rfl rfl rfl (fun w hw=>hC (cI xs (k - 1)) (cI xs k) w)) ?_;rintro _ _ ⟨rfl,rfl⟩;refine ⟨Sx,?_⟩);refine j9 ?_;refine T.cond rfl (fun h2=>?_) (fun h2=>?_)
   ·have p2:=h2; (try simp only [cW] at p2);refine iu ?_;refine cX rfl rfl (fun w' hw=>⟨?_,hw.isBelow⟩);exact q4A
   ·have p2:=h2; (try simp only [cW] at p2);refine im ?_;exact K.next (k+1) ⟨by omega,fun j hj hjl=>by rcases Nat.lt_or_ge j k with hh|hh;exact hall j hh hjl;rw [show j=k from by omega,decide_eq_false a5];simpa using p2⟩ a5 (by repeat (first|exact Sub.nil|refine Sub.cons rfl ?_)) Sx
  ·have p1:=h1; (try simp only [cW] at p1);refine q38 ?_;refine cX rfl rfl (fun w' hw=>⟨?_,hw.isBelow⟩);exact q4B
def Pr.ok (x:Pr):Bool:=inB x.a 0 511&&(inB x.b 0 511&&(decide (x.a<x.b)&&(inB x.off (-1) 1&&eU x.lo x.hi)))
def Ld.ok (x:Ld):Bool:=inB x.to 0 511&&(inB x.fr 0 511&&(decide (¬x.to=x.fr)&&(inB x.wt 1 1073741824&&eU x.lo x.hi)))
def Cp.ok (x:Cp):Bool:=inB x.st 0 511&&(inB x.mx 0 1099511627776&&eU x.lo x.hi)
def Pr.cmp (x y:Pr):Int:=mh [dN x.a y.a,dN x.b y.b,dN x.off y.off,dN x.lo y.lo,dN x.hi y.hi]
def Ld.cmp (x y:Ld):Int:=mh [dN x.to y.to,dN x.fr y.fr,dN x.wt y.wt,dN x.lo y.lo,dN x.hi y.hi]
def Cp.cmp (x y:Cp):Int:=mh [dN x.st y.st,dN x.mx y.mx,dN x.lo y.lo,dN x.hi y.hi]
theorem zhV (x:Pr)(w:World):Calls Tryz.prog 131 #[.agg (Pr.cells x).toArray] w fun e w'=>e= .returned (.bool x.ok)∧Below w.heap.size w w':=by
 refine dv (M:=fun _=>False) (hs:=[]) Tryz.func131 rfl rfl rfl (Hp.refl _ _) ?_;simp only [Pr.cells];refine dk ?_; (refine cM (Wt.none) rfl rfl (dC) ?_;rintro _ _ ⟨g1,rfl,rfl⟩);refine gy ?_;refine ef ?_; (refine cM (Wt.none) rfl rfl (cL rfl rfl rfl (fun w hw=>zb8 _ _)) ?_;rintro _ _ ⟨rfl,rfl⟩);refine dd ?_;refine dm rfl rfl rfl (fun h1=>?_) (fun h1=>?_)
 ·have p1:=h1; (try simp only [cW] at p1);refine q0I ?_; (refine cM (Wt.some rfl rfl rfl h1) rfl rfl (cL rfl rfl rfl (fun w hw=>zb8 _ _)) ?_;rintro _ _ ⟨rfl,rfl⟩);refine kI ?_;refine dd ?_;refine dm rfl rfl rfl (fun h2=>?_) (fun h2=>?_)
  ·have p2:=h2; (try simp only [cW] at p2);refine mL ?_;refine mL ?_;refine mf ?_;refine q2H ?_;refine dd ?_;refine dm rfl rfl rfl (fun h3=>?_) (fun h3=>?_)
   ·have p3:=h3; (try simp only [cW] at p3);refine q0U ?_; (refine cM (Wt.some rfl rfl rfl h3) rfl rfl (cL rfl rfl rfl (fun w hw=>zdb _ _ _ _)) ?_;rintro _ _ ⟨rfl,rfl⟩);refine q3L ?_;refine dd ?_;refine dm rfl rfl rfl (fun h4=>?_) (fun h4=>?_)
    ·have p4:=h4; (try simp only [cW] at p4);refine q0V ?_;refine q0V ?_; (refine cM (Wt.some rfl rfl rfl h4) rfl rfl (cL rfl rfl rfl (fun w hw=>zeT _ _ _)) ?_;rintro _ _ ⟨rfl,rfl⟩);refine cK (eD rfl rfl h4) ?_;refine fo ?_;refine cX rfl rfl (fun w' hw=>⟨?_,hw.isBelow⟩);exact q4C
    ·have p4:=h4; (try simp only [cW] at p4);refine q2m ?_;refine fo ?_;refine cX rfl rfl (fun w' hw=>⟨?_,hw.isBelow⟩);exact q4C
   ·have p3:=h3; (try simp only [cW] at p3);refine q0q ?_;refine cK (ee rfl rfl h3) ?_;refine TL.run 8 rfl ?_;refine gb ?_;refine cX rfl rfl (fun w' hw=>⟨?_,hw.isBelow⟩);exact q4C
  ·have p2:=h2; (try simp only [cW] at p2);refine q0j ?_;refine q1V ?_;refine TL.run 13 rfl ?_;refine gb ?_;refine cX rfl rfl (fun w' hw=>⟨?_,hw.isBelow⟩);exact q4C
 ·have p1:=h1; (try simp only [cW] at p1);refine q1i ?_;refine TL.run 20 rfl ?_;refine gb ?_;refine cX rfl rfl (fun w' hw=>⟨?_,hw.isBelow⟩);exact q4C
theorem zfP (x y:Pr)(w:World):Calls Tryz.prog 133 #[.agg (Pr.cells x).toArray, .agg (Pr.cells y).toArray] w fun e w'=>e= .returned (.int .i64 (x.cmp y))∧Below w.heap.size w w':=by
 refine dv (M:=fun _=>False) (hs:=[]) Tryz.func133 rfl rfl rfl (Hp.refl _ _) ?_;simp only [Pr.cells];refine dk ?_; (refine cM (Wt.none) rfl rfl (dC) ?_;rintro _ _ ⟨g2,rfl,rfl⟩); (refine cM (Wt.none) rfl rfl (dC) ?_;rintro _ _ ⟨g3,rfl,rfl⟩);refine dd ?_;refine q1e ?_; (refine c9 rfl (Wt.none) rfl rfl (cL rfl rfl rfl (fun w hw=>kG _ _ _)) ?_;rintro _ _ ⟨rfl,rfl⟩;refine ⟨Sx,?_⟩);refine dy ?_; (refine c9 rfl (Wt.none) rfl rfl (cL rfl rfl rfl (fun w hw=>kG _ _ _)) ?_;rintro _ _ ⟨rfl,rfl⟩;refine ⟨Sx,?_⟩);refine dy ?_; (refine c9 rfl (Wt.none) rfl rfl (cL rfl rfl rfl (fun w hw=>kG _ _ _)) ?_;rintro _ _ ⟨rfl,rfl⟩;refine ⟨Sx,?_⟩);refine dy ?_; (refine c9 rfl (Wt.none) rfl rfl (cL rfl rfl rfl (fun w hw=>kG _ _ _)) ?_;rintro _ _ ⟨rfl,rfl⟩;refine ⟨Sx,?_⟩);refine dy ?_; (refine c9 rfl (Wt.none) rfl rfl (cL rfl rfl rfl (fun w hw=>kG _ _ _)) ?_;rintro _ _ ⟨rfl,rfl⟩;refine ⟨Sx,?_⟩);refine dy ?_; (refine c9 rfl (Wt.none) rfl rfl (Ew.buildSlice rfl rfl rfl a6) ?_;rintro _ _ ⟨g30,rfl,rfl⟩;refine ⟨Sx,?_⟩);refine dy ?_; (refine c9 rfl (Wt.none) rfl rfl (cL rfl rfl rfl (fun w hw=>zlc [dN x.a y.a,dN x.b y.b,dN x.off y.off,dN x.lo y.lo,dN x.hi y.hi] _ w (SlOf.lit (enc:=Ie) (size:=1) (fun _=>rfl) _ (cY.1 (hw.get (i:=0) rfl)) rfl rfl) a8)) ?_;rintro _ _ ⟨rfl,rfl⟩;refine ⟨Sx,?_⟩);refine q26 ?_;refine cX rfl rfl (fun w' hw=>⟨?_,hw.isBelow⟩)
 rfl
theorem zh4 (x:Ld)(w:World):Calls Tryz.prog 134 #[.agg (Ld.cells x).toArray] w fun e w'=>e= .returned (.bool x.ok)∧Below w.heap.size w w':=by
 refine dv (M:=fun _=>False) (hs:=[]) Tryz.func134 rfl rfl rfl (Hp.refl _ _) ?_;simp only [Ld.cells];refine dk ?_; (refine cM (Wt.none) rfl rfl (dC) ?_;rintro _ _ ⟨g1,rfl,rfl⟩);refine gy ?_;refine ef ?_; (refine cM (Wt.none) rfl rfl (cL rfl rfl rfl (fun w hw=>zb8 _ _)) ?_;rintro _ _ ⟨rfl,rfl⟩);refine dd ?_;refine dm rfl rfl rfl (fun h1=>?_) (fun h1=>?_)
 ·have p1:=h1; (try simp only [cW] at p1);refine q0I ?_; (refine cM (Wt.some rfl rfl rfl h1) rfl rfl (cL rfl rfl rfl (fun w hw=>zb8 _ _)) ?_;rintro _ _ ⟨rfl,rfl⟩);refine kI ?_;refine dd ?_;refine dm rfl rfl rfl (fun h2=>?_) (fun h2=>?_)
  ·have p2:=h2; (try simp only [cW] at p2);refine mL ?_;refine mL ?_;refine mf ?_;refine q2H ?_;refine dd ?_;refine dm rfl rfl rfl (fun h3=>?_) (fun h3=>?_)
   ·have p3:=h3; (try simp only [cW] at p3);refine q0U ?_; (refine cM (Wt.some rfl rfl rfl h3) rfl rfl (cL rfl rfl rfl (fun w hw=>zdb _ _ _ _)) ?_;rintro _ _ ⟨rfl,rfl⟩);refine q3L ?_;refine dd ?_;refine dm rfl rfl rfl (fun h4=>?_) (fun h4=>?_)
    ·have p4:=h4; (try simp only [cW] at p4);refine q0V ?_;refine q0V ?_; (refine cM (Wt.some rfl rfl rfl h4) rfl rfl (cL rfl rfl rfl (fun w hw=>zeT _ _ _)) ?_;rintro _ _ ⟨rfl,rfl⟩);refine cK (eD rfl rfl h4) ?_;refine fo ?_;refine cX rfl rfl (fun w' hw=>⟨?_,hw.isBelow⟩);exact q4D
    ·have p4:=h4; (try simp only [cW] at p4);refine q2m ?_;refine fo ?_;refine cX rfl rfl (fun w' hw=>⟨?_,hw.isBelow⟩);exact q4D
   ·have p3:=h3; (try simp only [cW] at p3);refine q0q ?_;refine cK (ee rfl rfl h3) ?_;refine TL.run 8 rfl ?_;refine gb ?_;refine cX rfl rfl (fun w' hw=>⟨?_,hw.isBelow⟩);exact q4D
  ·have p2:=h2; (try simp only [cW] at p2);refine q0j ?_;refine q1V ?_;refine TL.run 13 rfl ?_;refine gb ?_;refine cX rfl rfl (fun w' hw=>⟨?_,hw.isBelow⟩);exact q4D
 ·have p1:=h1; (try simp only [cW] at p1);refine q1i ?_;refine TL.run 20 rfl ?_;refine gb ?_;refine cX rfl rfl (fun w' hw=>⟨?_,hw.isBelow⟩);exact q4D
theorem zfW (x y:Ld)(w:World):Calls Tryz.prog 136 #[.agg (Ld.cells x).toArray, .agg (Ld.cells y).toArray] w fun e w'=>e= .returned (.int .i64 (x.cmp y))∧Below w.heap.size w w':=by
 refine dv (M:=fun _=>False) (hs:=[]) Tryz.func136 rfl rfl rfl (Hp.refl _ _) ?_;simp only [Ld.cells];refine dk ?_; (refine cM (Wt.none) rfl rfl (dC) ?_;rintro _ _ ⟨g2,rfl,rfl⟩); (refine cM (Wt.none) rfl rfl (dC) ?_;rintro _ _ ⟨g3,rfl,rfl⟩);refine dd ?_;refine q1e ?_; (refine c9 rfl (Wt.none) rfl rfl (cL rfl rfl rfl (fun w hw=>kG _ _ _)) ?_;rintro _ _ ⟨rfl,rfl⟩;refine ⟨Sx,?_⟩);refine dy ?_; (refine c9 rfl (Wt.none) rfl rfl (cL rfl rfl rfl (fun w hw=>kG _ _ _)) ?_;rintro _ _ ⟨rfl,rfl⟩;refine ⟨Sx,?_⟩);refine dy ?_; (refine c9 rfl (Wt.none) rfl rfl (cL rfl rfl rfl (fun w hw=>kG _ _ _)) ?_;rintro _ _ ⟨rfl,rfl⟩;refine ⟨Sx,?_⟩);refine dy ?_; (refine c9 rfl (Wt.none) rfl rfl (cL rfl rfl rfl (fun w hw=>kG _ _ _)) ?_;rintro _ _ ⟨rfl,rfl⟩;refine ⟨Sx,?_⟩);refine dy ?_; (refine c9 rfl (Wt.none) rfl rfl (cL rfl rfl rfl (fun w hw=>kG _ _ _)) ?_;rintro _ _ ⟨rfl,rfl⟩;refine ⟨Sx,?_⟩);refine dy ?_; (refine c9 rfl (Wt.none) rfl rfl (Ew.buildSlice rfl rfl rfl a6) ?_;rintro _ _ ⟨g30,rfl,rfl⟩;refine ⟨Sx,?_⟩);refine dy ?_; (refine c9 rfl (Wt.none) rfl rfl (cL rfl rfl rfl (fun w hw=>zlc [dN x.to y.to,dN x.fr y.fr,dN x.wt y.wt,dN x.lo y.lo,dN x.hi y.hi] _ w (SlOf.lit (enc:=Ie) (size:=1) (fun _=>rfl) _ (cY.1 (hw.get (i:=0) rfl)) rfl rfl) a8)) ?_;rintro _ _ ⟨rfl,rfl⟩;refine ⟨Sx,?_⟩);refine q26 ?_;refine cX rfl rfl (fun w' hw=>⟨?_,hw.isBelow⟩)
 rfl
theorem zju (x:Cp)(w:World):Calls Tryz.prog 137 #[.agg (Cp.cells x).toArray] w fun e w'=>e= .returned (.bool x.ok)∧Below w.heap.size w w':=by
 refine dv (M:=fun _=>False) (hs:=[]) Tryz.func137 rfl rfl rfl (Hp.refl _ _) ?_;simp only [Cp.cells];refine dk ?_; (refine cM (Wt.none) rfl rfl (dC) ?_;rintro _ _ ⟨g1,rfl,rfl⟩);refine gy ?_;refine ef ?_; (refine cM (Wt.none) rfl rfl (cL rfl rfl rfl (fun w hw=>zb8 _ _)) ?_;rintro _ _ ⟨rfl,rfl⟩);refine dd ?_;refine dm rfl rfl rfl (fun h1=>?_) (fun h1=>?_)
 ·have p1:=h1; (try simp only [cW] at p1);refine q0I ?_; (refine cM (Wt.some rfl rfl rfl h1) rfl rfl (cL rfl rfl rfl (fun w hw=>zdb _ _ _ _)) ?_;rintro _ _ ⟨rfl,rfl⟩);refine kI ?_;refine dd ?_;refine dm rfl rfl rfl (fun h2=>?_) (fun h2=>?_)
  ·have p2:=h2; (try simp only [cW] at p2);refine mL ?_;refine mL ?_; (refine cM (Wt.some rfl rfl rfl h2) rfl rfl (cL rfl rfl rfl (fun w hw=>zeT _ _ _)) ?_;rintro _ _ ⟨rfl,rfl⟩);refine q2H ?_;refine fo ?_;refine cX rfl rfl (fun w' hw=>⟨?_,hw.isBelow⟩);exact q4N
  ·have p2:=h2; (try simp only [cW] at p2);refine q0j ?_;refine q1V ?_;refine fo ?_;refine cX rfl rfl (fun w' hw=>⟨?_,hw.isBelow⟩);exact q4N
 ·have p1:=h1; (try simp only [cW] at p1);refine q1i ?_;refine TL.run 8 rfl ?_;refine gb ?_;refine cX rfl rfl (fun w' hw=>⟨?_,hw.isBelow⟩);exact q4N
theorem zgC (x y:Cp)(w:World):Calls Tryz.prog 139 #[.agg (Cp.cells x).toArray, .agg (Cp.cells y).toArray] w fun e w'=>e= .returned (.int .i64 (x.cmp y))∧Below w.heap.size w w':=by
 refine dv (M:=fun _=>False) (hs:=[]) Tryz.func139 rfl rfl rfl (Hp.refl _ _) ?_;simp only [Cp.cells];refine dk ?_; (refine cM (Wt.none) rfl rfl (dC) ?_;rintro _ _ ⟨g2,rfl,rfl⟩); (refine cM (Wt.none) rfl rfl (dC) ?_;rintro _ _ ⟨g3,rfl,rfl⟩);refine kU ?_;refine dI (sN 0 4 (sN 5 4 (sN 10 4 (sN 15 4 (.eff 4 (.eff 9 (.eff 14 (.eff 19 (.eff 20 (.eff 21 (.still 22 .done))))))))))) _ a7 (List.Sublist.refl _) ?_;refine q0E ?_;refine fT ?_;refine cP rfl (c7 1) ?_;refine q39 ?_; (refine c9 rfl (Wt.none) rfl rfl (cL rfl rfl rfl (fun w hw=>kG _ _ _)) ?_;rintro _ _ ⟨rfl,rfl⟩;refine ⟨Sx,?_⟩);refine dy ?_; (refine c9 rfl (Wt.none) rfl rfl (cL rfl rfl rfl (fun w hw=>kG _ _ _)) ?_;rintro _ _ ⟨rfl,rfl⟩;refine ⟨Sx,?_⟩);refine dy ?_; (refine c9 rfl (Wt.none) rfl rfl (cL rfl rfl rfl (fun w hw=>kG _ _ _)) ?_;rintro _ _ ⟨rfl,rfl⟩;refine ⟨Sx,?_⟩);refine dy ?_; (refine c9 rfl (Wt.none) rfl rfl (cL rfl rfl rfl (fun w hw=>kG _ _ _)) ?_;rintro _ _ ⟨rfl,rfl⟩;refine ⟨Sx,?_⟩);refine dy ?_; (refine c9 rfl (Wt.none) rfl rfl (Ew.buildSlice rfl rfl rfl a6) ?_;rintro _ _ ⟨g25,rfl,rfl⟩;refine ⟨Sx,?_⟩);refine dy ?_; (refine c9 rfl (Wt.none) rfl rfl (cL rfl rfl rfl (fun w hw=>zlc [dN x.st y.st,dN x.mx y.mx,dN x.lo y.lo,dN x.hi y.hi] _ w (SlOf.lit (enc:=Ie) (size:=1) (fun _=>rfl) _ (cY.1 (hw.get (i:=0) rfl)) rfl rfl) a8)) ?_;rintro _ _ ⟨rfl,rfl⟩;refine ⟨Sx,?_⟩);refine q26 ?_;refine cX rfl rfl (fun w' hw=>⟨?_,hw.isBelow⟩)
 rfl
theorem Cs.later {w w':World}(hb:Below w.heap.size w w'){g p:Nat}{l:List Value}(h:Cs w g p l):Cs w' g p l:=h.kept (gv hb) (fun h=>h)
def Dx.ok (d:Dx):Bool:=inB d.st 0 511&&(fL (fun c=>inB c 2 51) d.chs&&ft dN d.chs)
def Pb.rulesOk (P:Pb):Bool:=decide ((P.ps.length:Int)≤4096)&&(fL Pr.ok P.ps&&(ft Pr.cmp P.ps&&(decide ((P.ls.length:Int)≤1024)&&(fL Ld.ok P.ls&&(ft Ld.cmp P.ls&&(decide ((P.cs.length:Int)≤1024)&&(fL Cp.ok P.cs&&ft Cp.cmp P.cs)))))))
abbrev Ws:=List (BitVec 64)
abbrev Ws.cells (ws:Ws):List Value:=ws.map fun b=>U b
def ff:Ws:=List.replicate 8 0#64
def dQ (ws:Ws)(i:Nat):Ws:=ws.set (i / 64) (cI ws (i / 64) ||| 1#64 <<< (i % 64))
def eB (ws:Ws)(i:Nat):Bool:=(cI ws (i / 64)).getLsbD (i % 64)
def jt (ws:Ws)(i:Int):Bool:=inB i 0 511&&eB ws i.toNat
def lR (l:List Int):Ws:=l.foldl (fun s i=>dQ s i.toNat) ff
theorem lm {ws:Ws}{i:Nat}:(dQ ws i).length=ws.length:=by simp [dQ]
theorem kT (l:List Int):(lR l).length=8:=by
 have:∀(l:List Int) (s:Ws),(l.foldl (fun s i=>dQ s i.toNat) s).length=s.length:=by
  intro l
  induction l with
  |nil=>intro s;rfl
  |cons x r ih=>intro s;simp only [List.foldl_cons,ih,lm]
 exact this l ff
theorem zkg {l:List Int}{k:Nat}(h:k<l.length):lR (l.take (k+1))=dQ (lR (l.take k)) (cI l k).toNat:=by
 unfold lR;rw [List.take_succ_eq_append_getElem h,dS h,List.foldl_append];rfl
theorem Ws.get {ws:Ws}{i p:Nat}(h:i<ws.length)(hp:p=i):ws.cells[p]?=some (U (cI ws i)):=by
 subst hp;simp [cI,h]
theorem Ws.put {ws:Ws}{i p:Nat}{b:BitVec 64}(hp:p=i):ws.cells.set p (U b)=Ws.cells (ws.set i b):=by
 subst hp;simp [List.map_set]
theorem zhP (a:BitVec 64)(j:Nat):decide (((((a >>> j) &&& 1#64).toNat:Nat):Int)=1)=a.getLsbD j:=by
 rw [BitVec.toNat_and,BitVec.toNat_ushiftRight]
 show decide ((((a.toNat >>> j &&& 1):Nat):Int)=1)=a.toNat.testBit j
 rw [Nat.and_one_is_mod,Nat.testBit,Nat.and_comm,Nat.and_one_is_mod];rcases Nat.mod_two_eq_zero_or_one (a.toNat >>> j) with h|h <;> rw [h] <;> rfl
theorem zfZ {ws:Ws}{i j:Nat}(hl:ws.length=8)(hi:i<512)(hj:j<512):eB (dQ ws i) j=(eB ws j||decide (i=j)):=by
 unfold eB dQ cI;simp only [List.getD_eq_getElem?_getD];by_cases h:i / 64=j / 64
 ·rw [h,List.getElem?_set_self a5];simp only [Option.getD_some,BitVec.getLsbD_or,BitVec.getLsbD_shiftLeft];by_cases h2:i=j
  ·subst h2;have hm:i % 64<64:=Nat.mod_lt _ a6;simp [hm]
  ·(have hm:¬i % 64=j % 64:=by omega);rw [decide_eq_false h2,Bool.or_false]
   have:(decide (j % 64<64)&& !decide (j % 64<i % 64)&&(1#64).getLsbD (j % 64 - i % 64))=false:=by
    by_cases h3:j % 64<i % 64
    ·simp [h3]
    ·rw [show (1#64).getLsbD (j % 64 - i % 64)=false from by rw [BitVec.getLsbD_one];simp;omega];simp
   rw [this,Bool.or_false]
 ·rw [List.getElem?_set_ne h,decide_eq_false (by intro hh;subst hh;exact h rfl),Bool.or_false]
theorem zdS (j:Nat):eB ff j=false:=by
 unfold eB ff cI;rw [List.getD_eq_getElem?_getD,List.getElem?_replicate]
 split
 ·simp
 ·exact BitVec.getLsbD_zero
theorem ziS (l:List Int)(hl:∀x∈l,0≤x∧x≤511)(j:Int):jt (lR l) j=true↔j∈l:=by
 have key:∀(l:List Int) (s:Ws),s.length=8→(∀x∈l,0≤x∧x≤511)→∀j:Nat,j<512→(eB (l.foldl (fun s i=>dQ s i.toNat) s) j=true↔eB s j=true∨(j:Int)∈l):=by
  intro l
  induction l with
  |nil=>intro s _ _ j _;simp
  |cons x r ih=>
   intro s hs hx j hj;have h1:=hx x a8;rw [List.foldl_cons,ih _ (by rw [lm,hs]) (fun y hy=>hx y (by simp [hy])) j hj,zfZ hs a5 hj];simp only [Bool.or_eq_true,decide_eq_true_eq,List.mem_cons];constructor
   ·rintro ((h|h)|h)
    ·exact .inl h
    ·exact .inr (.inl a5)
    ·exact .inr (.inr h)
   ·rintro (h|h|h)
    ·exact .inl (.inl h)
    ·exact .inl (.inr a5)
    ·exact .inr h
 unfold jt inB;by_cases h:0≤j∧j≤511
 ·rw [decide_eq_true h.1,decide_eq_true h.2,Bool.and_true,Bool.true_and,show eB (lR l) j.toNat=true↔_ from key l ff (by rfl) hl j.toNat a5,zdS,Int.toNat_of_nonneg h.1];simp
 ·constructor
  ·intro hh;simp only [Bool.and_eq_true,decide_eq_true_eq] at hh;exact absurd hh.1 h
  ·intro hm;exact absurd (hl j hm) h
def Pb.has (P:Pb)(i:Int):Bool:=jt (lR (P.ds.map (·.st))) i
def Pb.ok (P:Pb):Bool:=fL Dx.ok P.ds&&(P.rulesOk&&(ft (fun a b=>dN a.st b.st) P.ds&&(fL (fun x:Pr=>P.has x.a&&P.has x.b) P.ps&&(fL (fun x:Ld=>P.has x.to&&P.has x.fr) P.ls&&fL (fun x:Cp=>P.has x.st) P.cs))))
theorem zeY {α:Type}[Inhabited α]{q:α→Bool}{xs:List α}:fL q xs=true↔∀k,k<xs.length→q (cI xs k)=true:=by
 unfold fL;rw [List.all_eq_true];simp only [List.mem_range]
theorem ed {α:Type}[Inhabited α]{q:α→Bool}{xs:List α}:fL q xs=true↔∀x∈xs,q x=true:=by
 rw [zeY];constructor
 ·intro h x hx;obtain ⟨k,hk,rfl⟩:=List.mem_iff_getElem.1 hx;rw [←dS hk];exact h k hk
 ·intro h k hk;exact h _ (iE hk)
theorem ks {α:Type}[Inhabited α]{c:α→α→Int}{xs:List α}:ft c xs=true↔∀k,k+1<xs.length→c (cI xs k) (cI xs (k+1))<0:=by
 unfold ft;rw [List.all_eq_true];simp only [List.mem_range];constructor
 ·intro h k hk;have:=h (k+1) hk;simp at this;omega
 ·intro h k hk
  cases k with
  |zero=>rfl
  |succ k=>have:=h k hk;simp;omega
theorem kg {a b:Int}:dN a b<0↔a<b:=by unfold dN;split <;> (try split) <;> omega
theorem zlj {α:Type}[Inhabited α]{f:α→Int}{xs:List α}(hi:ft (fun a b=>dN (f a) (f b)) xs=true)(h0:∀x∈xs,0≤f x):∀k,k<xs.length→(k:Int)≤f (cI xs k)
 |0,h=>h0 _ (iE h)
 |k+1,h=>by
  have h1:=zlj hi h0 k a5;have h2:=kg.1 (ks.1 hi k h);omega
theorem zlf {xs:List Dx}(hi:ft (fun a b:Dx=>dN a.st b.st) xs=true)(hr:fL Dx.ok xs=true):xs.length≤512:=by
 have hst:∀x∈xs,0≤x.st∧x.st≤511:=fun x hx=>by
  have:=ed.1 hr x hx;simp only [Dx.ok,inB,Bool.and_eq_true,decide_eq_true_eq] at this;exact this.1
 rcases Nat.lt_or_ge 512 xs.length with h|h
 ·have h1:=zlj (f:=Dx.st) hi (fun x hx=>(hst x hx).1) 512 h;have h2:=hst _ (iE h);omega
 ·exact h
theorem zkr (c:Int)(w:World):Calls Tryz.prog 130 #[.int .i64 c] w fun e w'=>e= .returned (.bool (inB c 2 51))∧Below w.heap.size w w':=by
 refine dv (M:=fun _=>False) (hs:=[]) Tryz.func130 rfl rfl rfl (Hp.refl _ _) ?_;refine f7 ?_;refine jW ?_; (refine cM (Wt.none) rfl rfl (cL rfl rfl rfl (fun w hw=>zdb _ _ _ _)) ?_;rintro _ _ ⟨rfl,rfl⟩);refine fo ?_;refine cX rfl rfl (fun w' hw=>⟨?_,hw.isBelow⟩)
 rfl
theorem zgO (d:Dx)(w:World)(h:zgE w d.v d.chs)(hl:d.chs.length≤9223372036854775807):Calls Tryz.prog 104 #[.agg (Dx.cells d).toArray] w fun e w'=>e= .returned (.bool d.ok)∧Below w.heap.size w w':=by
 haveI:=h.one;refine dv (M:=fun _=>False) (hs:=[]) Tryz.func104 rfl rfl rfl (Hp.refl _ _) ?_;simp only [Dx.cells];refine dk ?_; (refine cM (Wt.none) rfl rfl (dC) ?_;rintro _ _ ⟨g1,rfl,rfl⟩);refine gy ?_;refine gy ?_;refine ef ?_; (refine cM (Wt.none) rfl rfl (cL rfl rfl rfl (fun w hw=>zb8 _ _)) ?_;rintro _ _ ⟨rfl,rfl⟩);refine dd ?_;refine dm rfl rfl rfl (fun h1=>?_) (fun h1=>?_)
 ·have p1:=h1; (try simp only [cW] at p1);refine q0I ?_;refine jF ?_; (refine cM (Wt.some rfl rfl rfl h1) rfl rfl (cL rfl rfl rfl (fun w hw=>zmC (q:=fun c=>inB c 2 51) d.chs _ _ #[] w (h.kept hw) (fun k hk w1 hb=>zkr _ w1) hl)) ?_;rintro _ _ ⟨rfl,rfl⟩);refine kI ?_;refine dd ?_;refine dm rfl rfl rfl (fun h2=>?_) (fun h2=>?_)
  ·have p2:=h2; (try simp only [cW] at p2);refine mL ?_; (refine cM (Wt.some rfl rfl rfl h2) rfl rfl (cL rfl rfl rfl (fun w hw=>zhn (c:=dN) d.chs _ _ w (h.kept hw) (fun x y w1=>kG x y w1) hl)) ?_;rintro _ _ ⟨rfl,rfl⟩);refine q2H ?_;refine fo ?_;refine cX rfl rfl (fun w' hw=>⟨?_,hw.isBelow⟩);exact q4O
  ·have p2:=h2; (try simp only [cW] at p2);refine q0j ?_;refine q4f ?_;refine fo ?_;refine cX rfl rfl (fun w' hw=>⟨?_,hw.isBelow⟩);exact q4O
 ·have p1:=h1; (try simp only [cW] at p1);refine jR ?_;refine jR ?_;refine q21 ?_;refine TL.run 6 rfl ?_;refine gb ?_;refine cX rfl rfl (fun w' hw=>⟨?_,hw.isBelow⟩);exact q4O
theorem zhO (x y:Dx)(hx:OneC x.v)(hy:OneC y.v)(w:World):Calls Tryz.prog 106 #[.agg (Dx.cells x).toArray, .agg (Dx.cells y).toArray] w fun e w'=>e= .returned (.int .i64 (dN x.st y.st))∧Below w.heap.size w w':=by
 refine dv (M:=fun _=>False) (hs:=[]) Tryz.func106 rfl rfl rfl (Hp.refl _ _) ?_;simp only [Dx.cells];refine dk ?_; (refine cM (Wt.none) rfl rfl (dC) ?_;rintro _ _ ⟨g2,rfl,rfl⟩); (refine cM (Wt.none) rfl rfl (dC) ?_;rintro _ _ ⟨g3,rfl,rfl⟩);refine gy ?_;refine lM ?_;refine ef ?_; (refine cM (Wt.none) rfl rfl (cL rfl rfl rfl (fun w hw=>kG _ _ _)) ?_;rintro _ _ ⟨rfl,rfl⟩);refine fo ?_;refine cX rfl rfl (fun w' hw=>⟨?_,hw.isBelow⟩)
 rfl
theorem zgU (P:Pb)(vp vl vc:Value)(w:World)(h:RulesAt w vp vl vc P):Calls Tryz.prog 105 #[.agg [vp,vl,vc].toArray] w fun e w'=>e= .returned (.bool P.rulesOk)∧Below w.heap.size w w':=by
 obtain ⟨A1,cap1,rfl, -⟩:=h.ps.op;obtain ⟨A2,cap2,rfl, -⟩:=h.ls.op;obtain ⟨A3,cap3,rfl, -⟩:=h.cs.op;refine dv (M:=fun _=>False) (hs:=[]) Tryz.func105 rfl rfl rfl (Hp.refl _ _) ?_;refine dk ?_; (refine cM (Wt.none) rfl rfl (dC) ?_;rintro _ _ ⟨g1,rfl,rfl⟩);refine gy ?_;refine ef ?_;refine q4g ?_;refine eh ?_;refine dm rfl rfl rfl (fun h1=>?_) (fun h1=>?_)
 ·have p1:=h1; (try simp only [cW] at p1);refine q0I ?_; (refine cM (Wt.some rfl rfl rfl h1) rfl rfl (cL rfl rfl rfl (fun w hw=>zlb (q:=Pr.ok) P.ps _ 131 #[] w (h.ps.kept hw) (fun k hk w1 hb=>zhV _ w1) h.hps)) ?_;rintro _ _ ⟨rfl,rfl⟩);refine kI ?_;refine dd ?_;refine dm rfl rfl rfl (fun h2=>?_) (fun h2=>?_)
  ·have p2:=h2; (try simp only [cW] at p2);refine mL ?_; (refine cM (Wt.some rfl rfl rfl h2) rfl rfl (cL rfl rfl rfl (fun w hw=>ziN (c:=Pr.cmp) P.ps _ 133 w (h.ps.kept hw) (fun x y w1=>zfP x y w1) h.hps)) ?_;rintro _ _ ⟨rfl,rfl⟩);refine q2H ?_;refine dd ?_;refine dm rfl rfl rfl (fun h3=>?_) (fun h3=>?_)
   ·have p3:=h3; (try simp only [cW] at p3);refine q0U ?_;refine cZ (Wt.some rfl rfl rfl h3) rfl rfl (gz rfl rfl) ?_;refine q1T ?_;refine q3L ?_;refine dd ?_;refine dm rfl rfl rfl (fun h4=>?_) (fun h4=>?_)
    ·have p4:=h4; (try simp only [cW] at p4);refine q0V ?_; (refine cM (Wt.some rfl rfl rfl h4) rfl rfl (cL rfl rfl rfl (fun w hw=>zlA (q:=Ld.ok) P.ls _ 134 #[] w (h.ls.kept hw) (fun k hk w1 hb=>zh4 _ w1) h.hls)) ?_;rintro _ _ ⟨rfl,rfl⟩);refine cK (eD rfl rfl h4) ?_;refine dd ?_;refine dm rfl rfl rfl (fun h5=>?_) (fun h5=>?_)
     ·have p5:=h5; (try simp only [cW] at p5);refine cZ (Wt.some rfl rfl rfl h5) rfl rfl (Yv.fieldAddr) ?_;refine cZ (Wt.some rfl rfl rfl h5) rfl rfl (c7 0) ?_; (refine cM (Wt.some rfl rfl rfl h5) rfl rfl (cL rfl rfl rfl (fun w hw=>ziH (c:=Ld.cmp) P.ls _ 136 w (h.ls.kept hw) (fun x y w1=>zfW x y w1) h.hls)) ?_;rintro _ _ ⟨rfl,rfl⟩);refine cK (eD rfl rfl h5) ?_;refine dd ?_;refine dm rfl rfl rfl (fun h6=>?_) (fun h6=>?_)
      ·have p6:=h6; (try simp only [cW] at p6);refine cZ (Wt.some rfl rfl rfl h6) rfl rfl (Yv.fieldAddr) ?_;refine cZ (Wt.some rfl rfl rfl h6) rfl rfl (c7 0) ?_;refine cZ (Wt.some rfl rfl rfl h6) rfl rfl (gz rfl rfl) ?_;refine cZ (Wt.some rfl rfl rfl h6) rfl rfl (dU) ?_;refine cK (eD rfl rfl h6) ?_;refine dd ?_;refine dm rfl rfl rfl (fun h7=>?_) (fun h7=>?_)
       ·have p7:=h7; (try simp only [cW] at p7);refine q32 ?_; (refine cM (Wt.some rfl rfl rfl h7) rfl rfl (cL rfl rfl rfl (fun w hw=>zl0 (q:=Cp.ok) P.cs _ 137 #[] w (h.cs.kept hw) (fun k hk w1 hb=>zju _ w1) h.hcs)) ?_;rintro _ _ ⟨rfl,rfl⟩);refine cK (eD rfl rfl h7) ?_;refine dd ?_;refine dm rfl rfl rfl (fun h8=>?_) (fun h8=>?_)
        ·have p8:=h8; (try simp only [cW] at p8);refine q33 ?_; (refine cM (Wt.some rfl rfl rfl h8) rfl rfl (cL rfl rfl rfl (fun w hw=>zh1 (c:=Cp.cmp) P.cs _ 139 w (h.cs.kept hw) (fun x y w1=>zgC x y w1) h.hcs)) ?_;rintro _ _ ⟨rfl,rfl⟩);refine cK (eD rfl rfl h8) ?_;refine fo ?_;refine cX rfl rfl (fun w' hw=>⟨?_,hw.isBelow⟩);exact q4n
        ·have p8:=h8; (try simp only [cW] at p8);refine q1g ?_;refine cK (ee rfl rfl h8) ?_;refine fo ?_;refine cX rfl rfl (fun w' hw=>⟨?_,hw.isBelow⟩);exact q4n
       ·have p7:=h7; (try simp only [cW] at p7);refine q1I ?_;refine TL.off (Wt.not rfl rfl rfl h7) rfl rfl ?_;refine cK (ee rfl rfl h7) ?_;refine TL.run 6 rfl ?_;refine gb ?_;refine cX rfl rfl (fun w' hw=>⟨?_,hw.isBelow⟩);exact q4n
      ·have p6:=h6; (try simp only [cW] at p6);refine q06 ?_;refine q06 ?_;refine cK (ee rfl rfl h6) ?_;refine TL.run 11 rfl ?_;refine gb ?_;refine cX rfl rfl (fun w' hw=>⟨?_,hw.isBelow⟩);exact q4n
     ·have p5:=h5; (try simp only [cW] at p5);refine q1J ?_;refine TL.off (Wt.not rfl rfl rfl h5) rfl rfl ?_;refine cK (ee rfl rfl h5) ?_;refine TL.run 17 rfl ?_;refine gb ?_;refine cX rfl rfl (fun w' hw=>⟨?_,hw.isBelow⟩);exact q4n
    ·have p4:=h4; (try simp only [cW] at p4);refine q0p ?_;refine cK (ee rfl rfl h4) ?_;refine TL.run 22 rfl ?_;refine gb ?_;refine cX rfl rfl (fun w' hw=>⟨?_,hw.isBelow⟩);exact q4n
   ·have p3:=h3; (try simp only [cW] at p3);refine q3i ?_;refine TL.run 27 rfl ?_;refine gb ?_;refine cX rfl rfl (fun w' hw=>⟨?_,hw.isBelow⟩);exact q4n
  ·have p2:=h2; (try simp only [cW] at p2);refine q0j ?_;refine q4f ?_;refine TL.run 33 rfl ?_;refine gb ?_;refine cX rfl rfl (fun w' hw=>⟨?_,hw.isBelow⟩);exact q4n
 ·have p1:=h1; (try simp only [cW] at p1);refine q1i ?_;refine TL.run 38 rfl ?_;refine gb ?_;refine cX rfl rfl (fun w' hw=>⟨?_,hw.isBelow⟩);exact q4n
theorem zeS (i:Int)(w:World):Calls Tryz.prog 78 #[.int .i64 i] w fun e w'=>e= .returned (.bool (inB i 0 511))∧Below w.heap.size w w':=by
 refine dv (M:=fun _=>False) (hs:=[]) Tryz.func78 rfl rfl rfl (Hp.refl _ _) ?_;refine dk ?_;refine TL.run 1 rfl ?_;refine dV ?_;refine TL.run 3 rfl ?_;refine dm rfl rfl rfl (fun h1=>?_) (fun h1=>?_)
 ·have p1:=h1; (try simp only [cW] at p1);refine cZ (Wt.some rfl rfl rfl h1) rfl rfl (dU rfl) ?_;refine cZ (Wt.some rfl rfl rfl h1) rfl rfl (dU rfl) ?_;refine cK (eD rfl rfl h1 rfl) ?_;refine TL.run 1 rfl ?_;refine c4 (T.ret ?_);refine cX rfl rfl (fun w' hw=>⟨?_,hw.isBelow⟩);refine j5 ?_;simp only [inB, *,Bool.not_true,Bool.not_false,Bool.or_false,Bool.false_or,Bool.or_true,Bool.true_or,Bool.and_false,Bool.false_and,Bool.true_and,Bool.and_true,Bool.or_self,Bool.and_self,Bool.not_not,decide_true,decide_false,not_true_eq_false,not_false_eq_true,cond_true,cond_false]; (try exact decide_eq_decide.2 (by omega))
 ·have p1:=h1; (try simp only [cW] at p1);refine TL.off (Wt.not rfl rfl rfl h1) rfl rfl ?_;refine TL.off (Wt.not rfl rfl rfl h1) rfl rfl ?_;refine cK (ee rfl rfl h1 rfl) ?_;refine TL.run 1 rfl ?_;refine c4 (T.ret ?_);refine cX rfl rfl (fun w' hw=>⟨?_,hw.isBelow⟩);refine j5 ?_;simp only [inB, *,Bool.not_true,Bool.not_false,Bool.or_false,Bool.false_or,Bool.or_true,Bool.true_or,Bool.and_false,Bool.false_and,Bool.true_and,Bool.and_true,Bool.or_self,Bool.and_self,Bool.not_not,decide_true,decide_false,not_true_eq_false,not_false_eq_true,cond_true,cond_false]; (try exact decide_eq_decide.2 (by omega))
theorem zgp (ws:Ws)(hws:ws.length=8)(i:Int)(w:World):Calls Tryz.prog 43 #[.agg ws.cells.toArray, .int .i64 i] w fun e w'=>e= .returned (.bool (jt ws i))∧Below w.heap.size w w':=by
 refine dv (M:=fun _=>False) (hs:=[]) Tryz.func43 rfl rfl rfl (Hp.refl _ _) ?_;refine dk ?_; (refine cM (Wt.none) rfl rfl (dC) ?_;rintro _ _ ⟨g2,rfl,rfl⟩);refine ln ?_; (refine cM (Wt.none) rfl rfl (cL rfl rfl rfl (fun w hw=>zeS _ _)) ?_;rintro _ _ ⟨rfl,rfl⟩);refine dd ?_;refine dm rfl rfl rfl (fun h1=>?_) (fun h1=>?_)
 ·have p1:=h1; (try simp only [cW] at p1); (try simp only [inB,Bool.and_eq_true,decide_eq_true_eq] at p1); (try have hld:=Ws.get (ws:=ws) (i:=i.toNat / 64) (p:=0+0+i.toNat / 64*1) a5 a5);refine jF ?_;refine cZ (Wt.some rfl rfl rfl h1) rfl rfl (jQ rfl rfl rfl a5) ?_;refine cZ (Wt.some rfl rfl rfl h1) rfl rfl (Yv.fieldAddr) ?_;refine cZ (Wt.some rfl rfl rfl h1) rfl rfl (dW rfl rfl rfl (show i / 64=((i.toNat / 64:Nat):Int) from by omega) a5) ?_;refine cZ (Wt.some rfl rfl rfl h1) rfl rfl (c7 0 rfl rfl rfl hld) ?_;refine jF ?_;refine cZ (Wt.some rfl rfl rfl h1) rfl rfl (jc rfl rfl rfl a5) ?_;refine cZ (Wt.some rfl rfl rfl h1) rfl rfl (fR (i.toNat % 64) rfl rfl rfl a5 a5) ?_;refine cZ (Wt.some rfl rfl rfl h1) rfl rfl (fU (b:=1#64)) ?_;refine jF ?_;refine kI ?_;refine fo ?_;refine cX rfl rfl (fun w' hw=>⟨?_,hw.isBelow⟩);exact q4W
 ·have p1:=h1; (try simp only [cW] at p1); (try simp only [inB,Bool.and_eq_true,decide_eq_true_eq] at p1); (try have hld:=Ws.get (ws:=ws) (i:=i.toNat / 64) (p:=0+0+i.toNat / 64*1) a5 a5);refine jR ?_;refine jR ?_;refine jR ?_;refine jR ?_;refine jR ?_;refine q21 ?_;refine fo ?_;refine cX rfl rfl (fun w' hw=>⟨?_,hw.isBelow⟩);exact q4W
theorem zoz (l:List Int)(v:Value)(w:World)(h:zgE w v l)(hl:l.length≤9223372036854775807)(hr:∀x∈l,0≤x∧x≤511):Calls Tryz.prog 41 #[v] w fun e w'=>e= .returned (.tuple #[.agg (Ws.cells (lR l)).toArray, .int .i64 0])∧Below w.heap.size w w':=by
 obtain ⟨A,cap,rfl,hsl⟩:=h.op;refine dv (M:=fun _=>False) (hs:=[]) Tryz.func41 rfl rfl rfl (Hp.refl _ _) ?_;refine dk ?_; (refine cM (Wt.none) rfl rfl (Ew.alloc) ?_;rintro _ _ ⟨g2,rfl,rfl⟩);refine gy ?_; (refine cM (Wt.none) rfl rfl (Ew.alloc) ?_;rintro _ _ ⟨g4,rfl,rfl⟩);refine iS ?_;refine dd ?_;refine jE ?_;refine T.loop (ι:=Nat) (fun k=>[(2, .pointer (some ⟨g2,0,none⟩)),(4, .pointer (some ⟨g4,0,none⟩)),(7, .slice A l.length cap),(8, .int .i64 (l.length:Int)),(9, .int .i64 (k:Int))]) (fun k=>[.row g4 83 (Ws.cells (lR (l.take k))), .row g2 83 (Ws.cells ff)]) (fun k=>k≤l.length) (fun k=>l.length - k) 0 ?_ ?_ ?_ ?_
 ·omega
 ·exact (by repeat (first|exact Sub.nil|refine Sub.cons rfl ?_))
 ·exact Sx
 ·intro k hphi;have hlen:=kT (l.take k); (have hsl8:(Ws.cells (lR (l.take k))).length=8:=by rw [List.length_map,hlen]);refine eO ?_;refine T.cond rfl (fun h1=>?_) (fun h1=>?_)
  ·have p1:=h1; (try simp only [cW] at p1);obtain ⟨g,off,rfl,hc⟩:=hsl a5;have hk:=hc k a5;simp only [Ie] at hk;have hr1:=hr _ (iE (xs:=l) (k:=k) a5);have hld:=Ws.get (ws:=lR (l.take k)) (i:=(cI l k).toNat / 64) (p:=0+0+(cI l k).toNat / 64*1) a5 a5;refine fv ?_;refine q18 ?_;refine mX ?_; (refine cM (Wt.none) rfl rfl (cL rfl rfl rfl (fun w hw=>zeS _ _)) ?_;rintro _ _ ⟨rfl,rfl⟩);refine dD ?_;refine ii rfl (by rw [inB,decide_eq_true hr1.1,decide_eq_true hr1.2];rfl) ?_;refine mj ?_;refine dI (sN 0 4 (sN 5 3 (.still 9 (.eff 4 (.still 8 (.still 10 (.eff 11 .done))))))) [.row g2 83 (Ws.cells ff)] a7 Sx ?_;refine fe ?_;refine cP rfl (jQ rfl rfl rfl a5) ?_;refine fT ?_;refine cP rfl (dW rfl rfl rfl (show (cI l k) / 64=(((cI l k).toNat / 64:Nat):Int) from by omega) a5) ?_;refine fe ?_;refine cP rfl (jc rfl rfl rfl a5) ?_;refine cP rfl (gu (a:=1#64) ((cI l k).toNat % 64) rfl rfl rfl a5 a5) ?_;refine lk ?_;refine eA rfl (Wt.none) rfl rfl (c7 0 rfl rfl rfl hld) Sx ?_;refine cP rfl (iF) ?_;refine cP rfl (dW rfl rfl rfl (show (cI l k) / 64=(((cI l k).toNat / 64:Nat):Int) from by omega) a5) ?_;refine dy ?_; (refine dF rfl (Wt.none) rfl (gV 0 (Ws.cells (dQ (lR (l.take k)) (cI l k).toNat)) rfl rfl rfl rfl (by rw [List.length_map,hlen];omega) (Ws.put a5)) ?_;rintro _ _ ⟨rfl,rfl⟩;refine ⟨Sx,?_⟩);refine q1x ?_;exact K.next (k+1) a5 a5 (by repeat (first|exact Sub.nil|refine Sub.cons rfl ?_)) (by rw [zkg a5];exact Sx)
  ·have p1:=h1; (try simp only [cW] at p1);refine q01 ?_;refine cK (d5 0 rfl rfl rfl hsl8) ?_; (refine dH (Wt.none) rfl (du 1 rfl rfl rfl rfl (by rw [List.length_map,kT]) (by rw [List.length_map,kT];rfl)) ?_;rintro _ _ ⟨rfl,rfl⟩);refine fo ?_;exact gX 1 rfl rfl rfl rfl (by rw [List.length_map,kT]) (fun w' hw=>⟨by rw [List.take_of_length_le a5],hw.isBelow⟩)
def fO (f:Nat→Value)(z:Value)(n k:Nat):List Value:=(List.range k).map f++List.replicate (n - k) z
theorem ze2 {f:Nat→Value}{z:Value}{n k:Nat}(h:k≤n):(fO f z n k).length=n:=by simp [fO];omega
theorem zfc {f:Nat→Value}{z:Value}{n k p:Nat}(h:k<n)(hp:p=k):(fO f z n k).set p (f k)=fO f z n (k+1):=by
 subst hp;unfold fO;rw [List.set_append_right _ _ a8,show n - p=(n - (p+1))+1 by omega,List.replicate_succ,List.range_succ,List.map_append];simp
theorem ze7 (z:Value)(n:Nat):(madeCells [z].toArray (n*1)).toList=fO (fun _=>z) z n 0:=by
 apply List.ext_getElem?;intro i;by_cases h:i<n
 ·simp [fO,madeCells,List.getElem?_replicate,Nat.mod_one,h]
 ·simp [fO,madeCells,List.getElem?_replicate,h]
theorem zik {α:Type}[Inhabited α]{xs:List α}{f:Nat→Value}{z:Value}(g:α→Int)(hf:∀j,f j= .int .i64 (g (cI xs j))){k:Nat}(hk:k=xs.length):fO f z xs.length k=(xs.map g).flatMap Ie:=by
 subst hk;unfold fO;apply List.ext_getElem?;intro i
 have e:(xs.map g).flatMap Ie=(xs.map g).map (fun z=>Value.int .i64 z):=by
  have:∀l:List Int,l.flatMap Ie=l.map (fun z=>Value.int .i64 z):=by
   intro l
   induction l with
   |nil=>rfl
   |cons x r ih=>simp [List.flatMap_cons,Ie,ih]
  exact this _
 rw [e];simp only [Nat.sub_self,List.replicate_zero,List.append_nil,List.getElem?_map,List.getElem?_range];by_cases h:i<xs.length
 ·simp [h,hf,cI]
 ·simp [h]
theorem zjd (P:Pb)(vd vp vl vc:Value)(w:World)(h:ProbAt w vd vp vl vc P)(hn:P.ds.length≤512)(hr:∀d∈P.ds,0≤d.st∧d.st≤511):Calls Tryz.prog 109 #[.agg [vd,vp,vl,vc].toArray] w fun e w'=>e= .returned (.agg (Ws.cells (lR (P.ds.map (·.st)))).toArray)∧Below w.heap.size w w':=by
 obtain ⟨A,cap,rfl,hsl⟩:=h.ds.sl.op;obtain ⟨A1,cap1,rfl, -⟩:=h.ru.ps.op;obtain ⟨A2,cap2,rfl, -⟩:=h.ru.ls.op;obtain ⟨A3,cap3,rfl, -⟩:=h.ru.cs.op;refine dv (M:=fun _=>False) (hs:=[]) Tryz.func109 rfl rfl rfl (Hp.refl _ _) ?_;refine dk ?_; (refine cM (Wt.none) rfl rfl (dC) ?_;rintro _ _ ⟨g1,rfl,rfl⟩); (refine cM (Wt.none) rfl rfl (Ew.alloc) ?_;rintro _ _ ⟨g2,rfl,rfl⟩);refine dV ?_;refine lM ?_;refine q4g ?_; (refine cM (Wt.none) rfl rfl (Ew.makeSlice rfl rfl rfl rfl rfl a5 a5) ?_;rintro _ _ ⟨g11,rfl,rfl⟩);refine dD ?_;refine T.cut (gs:=[(2, .pointer (some ⟨g2,0,none⟩)),(3,(.slice (some ⟨g11,0,none⟩) P.ds.length P.ds.length))]) (hs':=[.sl (.slice (some ⟨g11,0,none⟩) P.ds.length P.ds.length) 3 1 P.ds.length ((P.ds.map (·.st)).flatMap Ie), .row g2 83 (Ws.cells ff)]) ?_ ?_
 ·skip;refine T.seq ?_;rw [ze7];refine eS ?_;refine mZ ?_;refine jE ?_;refine T.loop (ι:=Nat) (fun k=>[(2, .pointer (some ⟨g2,0,none⟩)),(3,(.slice (some ⟨g11,0,none⟩) P.ds.length P.ds.length)),(13, .slice A P.ds.length cap),(14, .int .i64 (P.ds.length:Int)),(15, .int .i64 (k:Int))]) (fun k=>[.sl (.slice (some ⟨g11,0,none⟩) P.ds.length P.ds.length) 3 1 P.ds.length (fO (fun j=> .int .i64 (cI P.ds j).st) (.int .i64 0) P.ds.length k), .row g2 83 (Ws.cells ff)]) (fun k=>k≤P.ds.length) (fun k=>P.ds.length - k) 0 ?_ ?_ ?_ ?_
  ·omega
  ·exact (by repeat (first|exact Sub.nil|refine Sub.cons rfl ?_))
  ·exact Sx
  ·intro k hphi;refine eO ?_;refine T.cond rfl (fun h1=>?_) (fun h1=>?_)
   ·have p1:=h1; (try simp only [cW] at p1);obtain ⟨g,off,rfl,hc⟩:=hsl a5;have hk:=hc k a5;haveI:=(h.ds.at (k:=k) a5).one;simp only [Dx.cells] at hk;refine fv ?_;refine dd ?_;refine lC ?_; (refine cM (Wt.none) rfl rfl (Ew.alloc) ?_;rintro _ _ ⟨g5,rfl,rfl⟩);refine dd ?_; (refine dH (Wt.none) rfl (du 0) ?_;rintro _ _ ⟨rfl,rfl⟩);refine c4 (T.region ?_);refine eh ?_;refine ef ?_;refine q0z ?_; (refine dH (Wt.none) rfl (fg 1 (fO (fun j=> .int .i64 (cI P.ds j).st) (.int .i64 0) P.ds.length (k+1)) rfl rfl rfl rfl (by rw [ze2 a5];omega) (zfc a5 a5)) ?_;rintro _ _ ⟨rfl,rfl⟩);refine ke ?_;exact K.next (k+1) a5 a5 (by repeat (first|exact Sub.nil|refine Sub.cons rfl ?_)) Sx
   ·have p1:=h1; (try simp only [cW] at p1);refine eF ?_;exact K.at (by repeat (first|exact Sub.nil|refine Sub.cons rfl ?_)) (by rw [zik (fun d:Dx=>d.st) (fun _=>rfl) (show k=P.ds.length by omega)];exact Sx)
 ·skip;refine f7 ?_; (refine cM (Wt.none) rfl rfl (cL rfl rfl rfl (fun w hw=>zoz (P.ds.map (·.st)) _ w (kN (enc:=Ie) (fun _=>rfl) hw 0 rfl a8) cF (by intro x hx;obtain ⟨d,hd,rfl⟩:=List.mem_map.1 hx;exact hr d hd))) ?_;rintro _ _ ⟨rfl,rfl⟩);refine eM ?_; (refine cM (Wt.none) rfl rfl (Ew.alloc) ?_;rintro _ _ ⟨g6,rfl,rfl⟩); (refine dH (Wt.none) rfl (du 0 rfl rfl rfl rfl (by rw [List.length_map,kT]) (by rw [List.length_map,kT];rfl)) ?_;rintro _ _ ⟨rfl,rfl⟩);refine gy ?_;refine cK (d5 0 rfl rfl rfl (by rw [List.length_map,kT])) ?_; (refine dH (Wt.none) rfl (du 2 rfl rfl rfl rfl (by rw [List.length_map,kT]) (by rw [List.length_map,List.length_map,kT];rfl)) ?_;rintro _ _ ⟨rfl,rfl⟩);refine gb ?_;exact lh 2 rfl rfl rfl (by rw [List.length_map,kT]) (fun w' hw=>⟨rfl,hw.isBelow⟩)
theorem zi3 (x:Pr)(ws:Ws)(hws:ws.length=8)(p:Nat)(w:World)(hp:Cs w p 0 ws.cells):Calls Tryz.prog 111 #[.agg (Pr.cells x).toArray, .pointer (some ⟨p,0,none⟩)] w fun e w'=>e= .returned (.bool (jt ws x.a&&jt ws x.b))∧Below w.heap.size w w':=by
 refine dv (M:=fun _=>False) (hs:=[]) Tryz.func111 rfl rfl rfl (Hp.refl _ _) ?_;simp only [Pr.cells];refine dk ?_; (refine cM (Wt.none) rfl rfl (dC) ?_;rintro _ _ ⟨g2,rfl,rfl⟩);refine q3d ?_; (refine cM (Wt.none) rfl rfl (cL rfl rfl rfl (fun w hw=>zgp ws hws _ w)) ?_;rintro _ _ ⟨rfl,rfl⟩);refine dd ?_;refine dm rfl rfl rfl (fun h1=>?_) (fun h1=>?_)
 ·have p1:=h1; (try simp only [cW] at p1);refine cZ (Wt.some rfl rfl rfl h1) rfl rfl (gR rfl rfl hp (by rw [List.length_map,hws]) (fun h=>h)) ?_;refine q0I ?_; (refine cM (Wt.some rfl rfl rfl h1) rfl rfl (cL rfl rfl rfl (fun w hw=>zgp ws hws _ w)) ?_;rintro _ _ ⟨rfl,rfl⟩);refine kI ?_;refine fo ?_;refine cX rfl rfl (fun w' hw=>⟨?_,hw.isBelow⟩);exact q4E
 ·have p1:=h1; (try simp only [cW] at p1);refine jR ?_;refine jR ?_;refine q21 ?_;refine fo ?_;refine cX rfl rfl (fun w' hw=>⟨?_,hw.isBelow⟩);exact q4E
theorem zjs (x:Ld)(ws:Ws)(hws:ws.length=8)(p:Nat)(w:World)(hp:Cs w p 0 ws.cells):Calls Tryz.prog 113 #[.agg (Ld.cells x).toArray, .pointer (some ⟨p,0,none⟩)] w fun e w'=>e= .returned (.bool (jt ws x.to&&jt ws x.fr))∧Below w.heap.size w w':=by
 refine dv (M:=fun _=>False) (hs:=[]) Tryz.func113 rfl rfl rfl (Hp.refl _ _) ?_;simp only [Ld.cells];refine dk ?_; (refine cM (Wt.none) rfl rfl (dC) ?_;rintro _ _ ⟨g2,rfl,rfl⟩);refine q3d ?_; (refine cM (Wt.none) rfl rfl (cL rfl rfl rfl (fun w hw=>zgp ws hws _ w)) ?_;rintro _ _ ⟨rfl,rfl⟩);refine dd ?_;refine dm rfl rfl rfl (fun h1=>?_) (fun h1=>?_)
 ·have p1:=h1; (try simp only [cW] at p1);refine cZ (Wt.some rfl rfl rfl h1) rfl rfl (gR rfl rfl hp (by rw [List.length_map,hws]) (fun h=>h)) ?_;refine q0I ?_; (refine cM (Wt.some rfl rfl rfl h1) rfl rfl (cL rfl rfl rfl (fun w hw=>zgp ws hws _ w)) ?_;rintro _ _ ⟨rfl,rfl⟩);refine kI ?_;refine fo ?_;refine cX rfl rfl (fun w' hw=>⟨?_,hw.isBelow⟩);exact q4E
 ·have p1:=h1; (try simp only [cW] at p1);refine jR ?_;refine jR ?_;refine q21 ?_;refine fo ?_;refine cX rfl rfl (fun w' hw=>⟨?_,hw.isBelow⟩);exact q4E
theorem zi9 (x:Cp)(ws:Ws)(hws:ws.length=8)(p:Nat)(w:World)(hp:Cs w p 0 ws.cells):Calls Tryz.prog 115 #[.agg (Cp.cells x).toArray, .pointer (some ⟨p,0,none⟩)] w fun e w'=>e= .returned (.bool (jt ws x.st))∧Below w.heap.size w w':=by
 refine dv (M:=fun _=>False) (hs:=[]) Tryz.func115 rfl rfl rfl (Hp.refl _ _) ?_;simp only [Cp.cells];refine dk ?_; (refine cM (Wt.none) rfl rfl (dC) ?_;rintro _ _ ⟨g2,rfl,rfl⟩);refine q3d ?_; (refine cM (Wt.none) rfl rfl (cL rfl rfl rfl (fun w hw=>zgp ws hws _ w)) ?_;rintro _ _ ⟨rfl,rfl⟩);refine fo ?_;refine cX rfl rfl (fun w' hw=>⟨?_,hw.isBelow⟩);exact q4E
theorem zgw (P:Pb)(vd vp vl vc:Value)(w:World)(h:ProbAt w vd vp vl vc P):Calls Tryz.prog 72 #[.agg [vd,vp,vl,vc].toArray] w fun e w'=>e= .returned (.bool P.ok)∧Below w.heap.size w w':=by
 obtain ⟨A,cap,rfl,hsl⟩:=h.ds.sl.op;obtain ⟨A1,cap1,rfl, -⟩:=h.ru.ps.op;obtain ⟨A2,cap2,rfl, -⟩:=h.ru.ls.op;obtain ⟨A3,cap3,rfl, -⟩:=h.ru.cs.op;refine dv (M:=fun _=>False) (hs:=[]) Tryz.func72 rfl rfl rfl (Hp.refl _ _) ?_;refine dk ?_; (refine cM (Wt.none) rfl rfl (dC) ?_;rintro _ _ ⟨g1,rfl,rfl⟩);refine jl ?_;refine ef ?_; (refine cM (Wt.none) rfl rfl (cL rfl rfl rfl (fun w hw=>zmJ (q:=Dx.ok) P.ds _ 104 #[] w (h.ds.sl.kept hw) (fun k hk=>(h.ds.at hk).one) (fun k hk w1 hb=>zgO _ w1 (((h.ds.at hk).kept hw).kept (gv hb)) (h.hch _ (iE hk))) h.hds)) ?_;rintro _ _ ⟨rfl,rfl⟩);refine eh ?_;refine dm rfl rfl rfl (fun h1=>?_) (fun h1=>?_)
 ·have p1:=h1; (try simp only [cW] at p1);refine jR ?_;refine jR ?_;refine kI ?_;refine me ?_;refine ik ?_;refine cX rfl rfl (fun w' hw=>⟨?_,hw.isBelow⟩);exact q4q
 ·have p1:=h1; (try simp only [cW] at p1);refine cZ (Wt.some rfl rfl rfl h1) rfl rfl (Yv.fieldAddr) ?_;refine cZ (Wt.some rfl rfl rfl h1) rfl rfl (mN 0 (m:=[.slice A1 P.ps.length cap1, .slice A2 P.ls.length cap2, .slice A3 P.cs.length cap3]) rfl rfl rfl rfl rfl) ?_; (refine cM (Wt.some rfl rfl rfl h1) rfl rfl (cL rfl rfl rfl (fun w hw=>zgU P _ _ _ w (h.ru.kept hw))) ?_;rintro _ _ ⟨rfl,rfl⟩);refine jF ?_;refine q21 ?_;refine c4 ?_;refine T.cond rfl (fun h2=>?_) (fun h2=>?_)
  ·have p2:=h2; (try simp only [cW] at p2);refine ik ?_;refine cX rfl rfl (fun w' hw=>⟨?_,hw.isBelow⟩);exact q4q
  ·have p2:=h2; (try simp only [cW] at p2);refine iD ?_;refine jl ?_;refine ef ?_;refine dd ?_; (refine cM (Wt.none) rfl rfl (cL rfl rfl rfl (fun w hw=>zhN (c:=fun a b=>dN a.st b.st) P.ds _ 106 w (h.ds.sl.kept hw) (fun k hk=>(h.ds.at hk).one) (fun x y hx hy w1=>zhO x y hx hy w1) h.hds)) ?_;rintro _ _ ⟨rfl,rfl⟩);refine dD ?_;refine T.cond rfl (fun h3=>?_) (fun h3=>?_)
   ·have p3:=h3; (try simp only [cW] at p3);refine ik ?_;refine cX rfl rfl (fun w' hw=>⟨?_,hw.isBelow⟩);exact q4q
   ·have p3:=h3; (try simp only [cW] at p3);refine iD ?_;refine ij ?_; (have hall:fL Dx.ok P.ds=true:=by assumption); (have hinc:ft (fun a b:Dx=>dN a.st b.st) P.ds=true:=by assumption); (have hst:∀d∈P.ds,0≤d.st∧d.st≤511:=fun d hd=>by have:=ed.1 hall d hd;simp only [Dx.ok,inB,Bool.and_eq_true,decide_eq_true_eq] at this;exact this.1); (refine cM (Wt.none) rfl rfl (cL rfl rfl rfl (fun w hw=>zjd P _ _ _ _ w (h.kept hw) (zlf hinc hall) hst)) ?_;rintro _ _ ⟨rfl,rfl⟩); (refine cM (Wt.none) rfl rfl (Ew.alloc) ?_;rintro _ _ ⟨g4,rfl,rfl⟩); (refine dH (Wt.none) rfl (du 0 rfl rfl rfl rfl (by rw [List.length_map,kT]) (by rw [List.length_map,kT];rfl)) ?_;rintro _ _ ⟨rfl,rfl⟩);refine dV ?_;refine fj ?_;refine lM ?_;refine dd ?_; (refine cM (Wt.none) rfl rfl (cL rfl rfl rfl (fun w hw=>zlb (q:=fun x:Pr=>P.has x.a&&P.has x.b) P.ps _ 111 #[.pointer (some ⟨g4,0,none⟩)] w (h.ru.ps.kept hw) (fun k hk w1 hb=>zi3 _ _ (kT _) _ w1 (Cs.later hb (fb (cY.1 (hw.get (i:=0) rfl)) cE))) h.ru.hps)) ?_;rintro _ _ ⟨rfl,rfl⟩);refine dd ?_;refine dm rfl rfl rfl (fun h4=>?_) (fun h4=>?_)
    ·have p4:=h4; (try simp only [cW] at p4);refine cZ (Wt.some rfl rfl rfl h4) rfl rfl (Yv.fieldAddr) ?_;refine cZ (Wt.some rfl rfl rfl h4) rfl rfl (Yv.fieldAddr) ?_;refine cZ (Wt.some rfl rfl rfl h4) rfl rfl (c7 1) ?_;refine cZ (Wt.some rfl rfl rfl h4) rfl rfl (dU) ?_; (refine cM (Wt.some rfl rfl rfl h4) rfl rfl (cL rfl rfl rfl (fun w hw=>zlA (q:=fun x:Ld=>P.has x.to&&P.has x.fr) P.ls _ 113 #[.pointer (some ⟨g4,0,none⟩)] w (h.ru.ls.kept hw) (fun k hk w1 hb=>zjs _ _ (kT _) _ w1 (Cs.later hb (fb (cY.1 (hw.get (i:=0) rfl)) cE))) h.ru.hls)) ?_;rintro _ _ ⟨rfl,rfl⟩);refine cK (eD rfl rfl h4) ?_;refine dd ?_;refine dm rfl rfl rfl (fun h5=>?_) (fun h5=>?_)
     ·have p5:=h5; (try simp only [cW] at p5);refine cZ (Wt.some rfl rfl rfl h5) rfl rfl (Yv.fieldAddr) ?_;refine cZ (Wt.some rfl rfl rfl h5) rfl rfl (Yv.fieldAddr) ?_;refine cZ (Wt.some rfl rfl rfl h5) rfl rfl (c7 1) ?_;refine cZ (Wt.some rfl rfl rfl h5) rfl rfl (dU) ?_; (refine cM (Wt.some rfl rfl rfl h5) rfl rfl (cL rfl rfl rfl (fun w hw=>zl0 (q:=fun x:Cp=>P.has x.st) P.cs _ 115 #[.pointer (some ⟨g4,0,none⟩)] w (h.ru.cs.kept hw) (fun k hk w1 hb=>zi9 _ _ (kT _) _ w1 (Cs.later hb (fb (cY.1 (hw.get (i:=0) rfl)) cE))) h.ru.hcs)) ?_;rintro _ _ ⟨rfl,rfl⟩);refine cK (eD rfl rfl h5) ?_;refine fo ?_;refine cX rfl rfl (fun w' hw=>⟨?_,hw.isBelow⟩);exact q4q
     ·have p5:=h5; (try simp only [cW] at p5);refine q1J ?_;refine q1J ?_;refine TL.off (Wt.not rfl rfl rfl h5) rfl rfl ?_;refine cK (ee rfl rfl h5) ?_;refine fo ?_;refine cX rfl rfl (fun w' hw=>⟨?_,hw.isBelow⟩);exact q4q
    ·have p4:=h4; (try simp only [cW] at p4);refine q2m ?_;refine TL.run 8 rfl ?_;refine gb ?_;refine cX rfl rfl (fun w' hw=>⟨?_,hw.isBelow⟩);exact q4q
def jD (l:List Int):BitVec 64:=l.foldl (fun m c=>m ||| 1#64 <<< c.toNat) 0#64
theorem zi0 {l:List Int}{k:Nat}(h:k<l.length):jD (l.take (k+1))=(jD (l.take k) ||| 1#64 <<< (cI l k).toNat):=by
 unfold jD;rw [List.take_succ_eq_append_getElem h,dS h,List.foldl_append];rfl
def pop1 (a:BitVec 64):BitVec 64:=((a >>> 1) &&& 6148914691236517205#64)+(a &&& 6148914691236517205#64)
def pop2 (a:BitVec 64):BitVec 64:=((a >>> 2) &&& 3689348814741910323#64)+(a &&& 3689348814741910323#64)
def pop3 (a:BitVec 64):BitVec 64:=((a >>> 4)+a) &&& 1085102592571150095#64
def pop4 (k:Nat)(a:BitVec 64):BitVec 64:=a+(a >>> k)
def zk1 (a:BitVec 64):Nat:=(pop4 32 (pop4 16 (pop4 8 (pop3 (pop2 (pop1 a))))) &&& 127#64).toNat
theorem zjH (a:BitVec 64):zk1 a≤127:=by
 unfold zk1;rw [BitVec.toNat_and];exact Nat.and_le_right
theorem zkb (b:BitVec 64):BitVec.ofInt 64 (IntKind.i64.wrap (b.toNat:Int))=b:=by
 apply BitVec.eq_of_toNat_eq;rw [BitVec.toNat_ofInt,IntKind.wrap_i64];have:=b.isLt;omega
section
variable {P:Program}{n:Nat}{B D:World}{M:Nat→Prop}{fs:dR}{hs:HS}{o:Oper}{v:Value}
theorem Yv.cp {x:Operand}{a:BitVec 64}(ho:o.op= .convert 80 3 x)(hx:ev fs x=some (U a)):Yv Tryz.prog n B M fs hs o (.int .i64 (IntKind.i64.wrap (a.toNat:Int))):=fun f w ha _=>by
 (have hr:(convert 80 3 (U a)).run Tryz.prog w= .ok (.int .i64 (IntKind.i64.wrap (a.toNat:Int))) w:=by kernel_rfl);unfold execOp;simp only [ho,ha.ev hx];rw [Sem.run_bind,hr]
 rfl
theorem Yv.cc {x:Operand}{t u:TypeId}{a:BitVec 64}(ho:o.op= .binOp .and t x (.const (.int .i64 127)) u)(hx:ev fs x=some (.int .i64 (IntKind.i64.wrap (a.toNat:Int)))):Yv P n B M fs hs o (.int .i64 ((a &&& 127#64).toNat:Int)):=fun f w ha _=>by
 have hr:(binOp .and t (.int .i64 (IntKind.i64.wrap (a.toNat:Int))) (.int .i64 127)).run P w= .ok (.int .i64 ((a &&& 127#64).toNat:Int)) w:=by
  have e:(binOp .and t (.int .i64 (IntKind.i64.wrap (a.toNat:Int))) (.int .i64 127)).run P w= .ok (.int .i64 (IntKind.i64.wrap ((BitVec.ofInt 64 (IntKind.i64.wrap (a.toNat:Int)) &&& BitVec.ofInt 64 127).toNat:Int))) w:=rfl; (have hle:(a &&& 127#64).toNat≤127:=by rw [BitVec.toNat_and];exact Nat.and_le_right);rw [e,zkb,show BitVec.ofInt 64 127=127#64 from rfl,IntWalk.i64_in _ ⟨by omega,by omega⟩]
 unfold execOp;simp only [ho,ha.ev hx,ha.ev (x:= .const (.int .i64 127)) rfl];rw [Sem.run_bind,Sem.run_bind,show (eqGuard .and t x (.const (.int .i64 127)) (.int .i64 (IntKind.i64.wrap (a.toNat:Int))) (.int .i64 127)).run P w= .ok () w from rfl];simp only [Result.andThen,hr]
 rfl
end
theorem zmm (a:BitVec 64)(w:World):Calls Tryz.prog 176 #[U a] w fun e w'=>e= .returned (.int .i64 (zk1 a:Int))∧Below w.heap.size w w':=by
 refine dv (M:=fun _=>False) (hs:=[]) Tryz.func176 rfl rfl rfl (Hp.refl _ _) ?_;refine f7 ?_;refine jW ?_;refine cK (fR 1 rfl rfl rfl rfl a6) ?_;refine cK (fU (b:=6148914691236517205#64)) ?_;refine dd ?_;refine cK (fU (b:=6148914691236517205#64)) ?_;refine cK (jz) ?_;refine ln ?_;refine cK (fR 2 rfl rfl rfl rfl a6) ?_;refine cK (fU (b:=3689348814741910323#64)) ?_;refine dd ?_;refine cK (fU (b:=3689348814741910323#64)) ?_;refine cK (jz) ?_;refine ln ?_;refine cK (fR 4 rfl rfl rfl rfl a6) ?_;refine dd ?_;refine cK (jz) ?_;refine cK (fU (b:=1085102592571150095#64)) ?_;refine gy ?_;refine eh ?_;refine cK (fR 8 rfl rfl rfl rfl a6) ?_;refine cK (jz) ?_;refine gy ?_;refine eh ?_;refine cK (fR 16 rfl rfl rfl rfl a6) ?_;refine cK (jz) ?_;refine gy ?_;refine eh ?_;refine cK (fR 32 rfl rfl rfl rfl a6) ?_;refine cK (jz) ?_;refine ln ?_;refine cK (Yv.cp rfl rfl) ?_;refine cK (Yv.cc rfl rfl) ?_;refine fo ?_;refine cX rfl rfl (fun w' hw=>⟨?_,hw.isBelow⟩)
 rfl
theorem zmX (a:BitVec 64)(ha:a≠0#64)(w:World)(ht:Tab w):Calls Tryz.prog 175 #[U a] w fun e w'=>e= .returned (.int .i64 (ctz a:Int))∧Below w.heap.size w w':=by
 obtain ⟨hi,htab⟩:=zol ha;have hcell:=ht _ hi;rw [htab] at hcell;have hlt:=ziK ha;refine dv (M:=fun _=>False) (hs:=[]) Tryz.func175 rfl rfl rfl (Hp.refl _ _) ?_;refine f7 ?_;refine iS ?_;refine jo ?_;refine ii rfl (by rw [znJ];exact decide_eq_false ha) ?_;refine iD ?_;refine eh ?_;refine cK (Yv.cy rfl rfl) ?_;refine cK (fU) ?_;refine cK (Yv.cx (b:=285870213051353865#64) rfl rfl rfl) ?_;refine cK (fR 58 rfl rfl rfl rfl a6) ?_;refine cK (dW rfl rfl rfl rfl a5) ?_;refine cK (dO rfl rfl (by rw [show ∀x:Nat,0+x*1=x from fun x=>by omega];exact hcell) (fun h=>h)) ?_;refine cK (Yv.cm rfl rfl (by first|exact IntWalk.i64_in _ a5|exact IntWalk.u64_in _ a5|exact IntWalk.u8_in _ a5)) ?_;refine fo ?_;refine cX rfl rfl (fun w' hw=>⟨?_,hw.isBelow⟩)
 rfl
theorem zmr (l:List Int)(v:Value)(w:World)(h:zgE w v l)(hl:l.length≤9223372036854775807)(hr:∀x∈l,2≤x∧x≤51):Calls Tryz.prog 142 #[v] w fun e w'=>e= .returned (U (jD l))∧Below w.heap.size w w':=by
 obtain ⟨A,cap,rfl,hsl⟩:=h.op;refine dv (M:=fun _=>False) (hs:=[]) Tryz.func142 rfl rfl rfl (Hp.refl _ _) ?_;refine q3K ?_;refine mX ?_;refine jE ?_;refine T.loop (ι:=Nat) (fun k=>[(3,U (jD (l.take k))),(6, .slice A l.length cap),(7, .int .i64 (l.length:Int)),(8, .int .i64 (k:Int))]) (fun k=>[]) (fun k=>k≤l.length) (fun k=>l.length - k) 0 ?_ ?_ ?_ ?_
 ·omega
 ·exact (by repeat (first|exact Sub.nil|refine Sub.cons rfl ?_))
 ·exact Sx
 ·intro k hphi;refine eO ?_;refine T.cond rfl (fun h1=>?_) (fun h1=>?_)
  ·have p1:=h1; (try simp only [cW] at p1);obtain ⟨g,off,rfl,hc⟩:=hsl a5;have hk:=hc k a5;simp only [Ie] at hk;have hr1:=hr _ (iE (xs:=l) (k:=k) a5);refine fv ?_;refine q18 ?_;refine dd ?_;refine c4 (T.region ?_);refine eh ?_;refine cK (gu (a:=1#64) (cI l k).toNat rfl rfl rfl a5 a5) ?_;refine q3D ?_;exact K.next (k+1) a5 a5 (by rw [zi0 a5];exact (by repeat (first|exact Sub.nil|refine Sub.cons rfl ?_))) Sx
  ·have p1:=h1; (try simp only [cW] at p1);refine q01 ?_;refine j3 ?_;exact cX rfl rfl (fun w' hw=>⟨by rw [List.take_of_length_le a5],hw.isBelow⟩)
end Go.Proofs.YtogbggmckmnlfaaGreatDoor
