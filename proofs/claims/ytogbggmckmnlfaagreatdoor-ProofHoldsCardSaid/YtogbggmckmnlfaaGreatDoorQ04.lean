/- A B C D: shortened and put together by squeeze.py. -/
import Derived.Test.YtogbggmckmnlfaaGreatDoorQ03
set_option maxRecDepth 100000
set_option maxHeartbeats 4000000
set_option linter.unusedVariables false
set_option linter.unusedSectionVars false
set_option linter.unusedSimpArgs false
namespace Go.Proofs.YtogbggmckmnlfaaGreatDoor
open Go.RowKit
def inB (n a b:Int):Bool:=decide (a≤n)&&decide (n≤b)
def ft (lo hi:Int):Bool:=decide (2≤lo)&&(decide (lo≤hi)&&decide (hi≤51))
def Ie (z:Int):List Value:=[.int .i64 z]
abbrev zhf (w:World)(v:Value)(l:List Int):Prop:=SlOf w v Ie 1 l
structure Dx where
 st:Int
 v:Value
 chs:List Int
instance:Inhabited Dx:=⟨⟨0, .slice none 0 0,[]⟩⟩
def Dx.cells (d:Dx):List Value:=[.int .i64 d.st,d.v]
structure Pr where
 a:Int
 b:Int
 off:Int
 lo:Int
 hi:Int
deriving DecidableEq,Inhabited
def Pr.cells (x:Pr):List Value:=[.int .i64 x.a, .int .i64 x.b, .int .i64 x.off, .int .i64 x.lo, .int .i64 x.hi]
structure Ld where
 to:Int
 fr:Int
 wt:Int
 lo:Int
 hi:Int
deriving DecidableEq,Inhabited
def Ld.cells (x:Ld):List Value:=[.int .i64 x.to, .int .i64 x.fr, .int .i64 x.wt, .int .i64 x.lo, .int .i64 x.hi]
structure Cp where
 st:Int
 mx:Int
 lo:Int
 hi:Int
deriving DecidableEq,Inhabited
def Cp.cells (x:Cp):List Value:=[.int .i64 x.st, .int .i64 x.mx, .int .i64 x.lo, .int .i64 x.hi]
structure Ch where
 st:Int
 ch:Int
deriving DecidableEq,Inhabited
def Ch.cells (x:Ch):List Value:=[.int .i64 x.st, .int .i64 x.ch]
abbrev PrsAt (w:World)(v:Value)(l:List Pr):Prop:=SlOf w v Pr.cells 5 l
abbrev LdsAt (w:World)(v:Value)(l:List Ld):Prop:=SlOf w v Ld.cells 5 l
abbrev CpsAt (w:World)(v:Value)(l:List Cp):Prop:=SlOf w v Cp.cells 4 l
structure DomsAt (w:World) (v:Value) (l:List Dx):Prop where
 sl:SlOf w v Dx.cells 2 l
 each:∀d∈l,zhf w d.v d.chs
theorem SlOf.one {α:Type}{w:World}{v:Value}{enc:α→List Value}{size:Nat}{xs:List α}(h:SlOf w v enc size xs):OneC v:=by
 obtain ⟨A,cap,rfl,_⟩:=h;exact inferInstance
theorem i6 {α:Type}[Inhabited α]{xs:List α}{k:Nat}(h:k<xs.length):cK xs k∈xs:=by rw [dQ h];exact List.getElem_mem _
theorem DomsAt.at {w:World}{v:Value}{l:List Dx}(h:DomsAt w v l){k:Nat}(hk:k<l.length):zhf w (cK l k).v (cK l k).chs:=h.each _ (i6 hk)
theorem DomsAt.kept {B w:World}{hs:HS}{v:Value}{l:List Dx}(hw:Hp B (fun _=>False) hs w)(h:DomsAt B v l):DomsAt w v l:=⟨h.sl.kept hw,fun d hd=>(h.each d hd).kept hw⟩
structure Pb where
 ds:List Dx
 ps:List Pr
 ls:List Ld
 cs:List Cp
structure RulesAt (w:World) (vp vl vc:Value) (P:Pb):Prop where
 ps:PrsAt w vp P.ps
 ls:LdsAt w vl P.ls
 cs:CpsAt w vc P.cs
 hps:P.ps.length≤9223372036854775807
 hls:P.ls.length≤9223372036854775807
 hcs:P.cs.length≤9223372036854775807
structure ProbAt (w:World) (vd vp vl vc:Value) (P:Pb):Prop where
 ds:DomsAt w vd P.ds
 ru:RulesAt w vp vl vc P
 hds:P.ds.length≤9223372036854775807
 hch:∀d∈P.ds,d.chs.length≤9223372036854775807
theorem RulesAt.kept {B w:World}{hs:HS}{vp vl vc:Value}{P:Pb}(hw:Hp B (fun _=>False) hs w)(h:RulesAt B vp vl vc P):RulesAt w vp vl vc P:=⟨h.ps.kept hw,h.ls.kept hw,h.cs.kept hw,h.hps,h.hls,h.hcs⟩
theorem ProbAt.kept {B w:World}{hs:HS}{vd vp vl vc:Value}{P:Pb}(hw:Hp B (fun _=>False) hs w)(h:ProbAt B vd vp vl vc P):ProbAt w vd vp vl vc P:=⟨h.ds.kept hw,h.ru.kept hw,h.hds,h.hch⟩
def dR (a b:Int):Int:=if a<b then -1 else if b<a then 1 else 0
def fR {α:Type}[Inhabited α](c:α→α→Int)(xs:List α):Bool:=(List.range xs.length).all fun k=>decide (k=0)|| !decide (0≤c (cK xs (k - 1)) (cK xs k))
def gk {α:Type}[Inhabited α](q:α→Bool)(xs:List α):Bool:=(List.range xs.length).all fun k=>q (cK xs k)
def m2:List Int→Int
 | []=>0
 |x :: r=>if x=0 then m2 r else x
theorem zkU {l:List Int}{k:Nat}(h:k<l.length):m2 (l.drop k)=if cK l k=0 then m2 (l.drop (k+1)) else cK l k:=by
 rw [List.drop_eq_getElem_cons h,dQ h];rfl
theorem zdt (n a b:Int)(w:World):Calls Tryz.prog 80 #[.int .i64 n, .int .i64 a, .int .i64 b] w fun e w'=>e= .returned (.bool (inB n a b))∧Below w.heap.size w w':=by
 refine dv (M:=fun _=>False) (hs:=[]) Tryz.func80 rfl rfl rfl (Hp.refl _ _) ?_;refine q3T ?_;refine lC ?_;refine du rfl rfl rfl (fun h1=>?_) (fun h1=>?_)
 ·have p1:=h1; (try simp only [cY] at p1);refine kh ?_;refine kh ?_;refine kh ?_;refine lx ?_;refine fO ?_;refine cZ rfl rfl (fun w' hw=>⟨?_,hw.isBelow⟩);exact q47
 ·have p1:=h1; (try simp only [cY] at p1);refine q1o ?_;refine fO ?_;refine cZ rfl rfl (fun w' hw=>⟨?_,hw.isBelow⟩);exact q47
theorem zcn (n:Int)(w:World):Calls Tryz.prog 79 #[.int .i64 n] w fun e w'=>e= .returned (.bool (inB n 0 511))∧Below w.heap.size w w':=by
 refine dv (M:=fun _=>False) (hs:=[]) Tryz.func79 rfl rfl rfl (Hp.refl _ _) ?_;refine gu ?_;refine j9 ?_; (refine cO (Wt.none) rfl rfl (cN rfl rfl rfl (fun w hw=>zdt _ _ _ _)) ?_;rintro _ _ ⟨rfl,rfl⟩);refine fO ?_;refine cZ rfl rfl (fun w' hw=>⟨?_,hw.isBelow⟩)
 rfl
theorem zfe (lo hi:Int)(w:World):Calls Tryz.prog 151 #[.int .i64 lo, .int .i64 hi] w fun e w'=>e= .returned (.bool (ft lo hi))∧Below w.heap.size w w':=by
 refine dv (M:=fun _=>False) (hs:=[]) Tryz.func151 rfl rfl rfl (Hp.refl _ _) ?_;refine q3T ?_;refine eR ?_;refine du rfl rfl rfl (fun h1=>?_) (fun h1=>?_)
 ·have p1:=h1; (try simp only [cY] at p1);refine kh ?_;refine kh ?_;refine kh ?_;refine lx ?_;refine df ?_;refine du rfl rfl rfl (fun h2=>?_) (fun h2=>?_)
  ·have p2:=h2; (try simp only [cY] at p2);refine m9 ?_;refine m9 ?_;refine q2O ?_;refine fO ?_;refine cZ rfl rfl (fun w' hw=>⟨?_,hw.isBelow⟩);exact q4W
  ·have p2:=h2; (try simp only [cY] at p2);refine q1X ?_;refine fO ?_;refine cZ rfl rfl (fun w' hw=>⟨?_,hw.isBelow⟩);exact q4W
 ·have p1:=h1; (try simp only [cY] at p1);refine q1o ?_;refine TL.run 5 rfl ?_;refine gH ?_;refine cZ rfl rfl (fun w' hw=>⟨?_,hw.isBelow⟩);exact q4W
theorem zjv (n:Int)(w:World):Calls Tryz.prog 140 #[.int .i64 n] w fun e w'=>e= .returned (.bool false)∧Below w.heap.size w w':=by
 refine dv (M:=fun _=>False) (hs:=[]) Tryz.func140 rfl rfl rfl (Hp.refl _ _) ?_;refine q3T ?_;refine lC ?_;refine gH ?_;refine cZ rfl rfl (fun w' hw=>⟨?_,hw.isBelow⟩);exact kr a8
theorem lr (a b:Int)(w:World):Calls Tryz.prog 107 #[.int .i64 a, .int .i64 b] w fun e w'=>e= .returned (.int .i64 (dR a b))∧Below w.heap.size w w':=by
 refine dv (M:=fun _=>False) (hs:=[]) Tryz.func107 rfl rfl rfl (Hp.refl _ _) ?_;refine gu ?_;refine j9 ?_; (refine cO (Wt.none) rfl rfl (cN rfl rfl rfl (fun w hw=>zjv _ _)) ?_;rintro _ _ ⟨rfl,rfl⟩);refine li ?_; (refine cO (Wt.none) rfl rfl (cN rfl rfl rfl (fun w hw=>zjv _ _)) ?_;rintro _ _ ⟨rfl,rfl⟩);refine jN ?_;refine dB ?_;refine iP rfl rfl ?_;refine ka ?_;refine dB ?_;refine iP rfl rfl ?_;refine ka ?_;refine eR ?_;refine db ?_;refine T.cond rfl (fun h1=>?_) (fun h1=>?_)
 ·have p1:=h1; (try simp only [cY] at p1);refine iN ?_;refine cZ rfl rfl (fun w' hw=>⟨?_,hw.isBelow⟩);exact q4X
 ·have p1:=h1; (try simp only [cY] at p1);refine ka ?_;refine eR ?_;refine db ?_;refine T.cond rfl (fun h2=>?_) (fun h2=>?_)
  ·have p2:=h2; (try simp only [cY] at p2);refine iN ?_;refine cZ rfl rfl (fun w' hw=>⟨?_,hw.isBelow⟩);exact q4X
  ·have p2:=h2; (try simp only [cY] at p2);refine i7 ?_;refine fO ?_;refine cZ rfl rfl (fun w' hw=>⟨?_,hw.isBelow⟩);exact q4X
theorem zlD (l:List Int)(v:Value)(w:World)(h:zhf w v l)(hl:l.length≤9223372036854775807):Calls Tryz.prog 152 #[v] w fun e w'=>e= .returned (.int .i64 (m2 l))∧Below w.heap.size w w':=by
 obtain ⟨A,cap,rfl,hsl⟩:=h.op;refine dv (M:=fun _=>False) (hs:=[]) Tryz.func152 rfl rfl rfl (Hp.refl _ _) ?_;refine q3T ?_;refine no ?_;refine ki ?_;refine T.loop (ι:=Nat) (fun k=>[(3, .int .i64 0),(6, .slice A l.length cap),(7, .int .i64 (l.length:Int)),(8, .int .i64 (k:Int))]) (fun k=>[]) (fun k=>k≤l.length∧m2 (l.drop k)=m2 l) (fun k=>l.length - k) 0 ?_ ?_ ?_ ?_
 ·exact ⟨by omega,rfl⟩
 ·exact (by repeat (first|exact Sub.nil|refine Sub.cons rfl ?_))
 ·exact Sx
 ·intro k hphi;obtain ⟨hkl,hor⟩:=hphi;refine fh ?_;refine T.cond rfl (fun h1=>?_) (fun h1=>?_)
  ·have p1:=h1; (try simp only [cY] at p1);obtain ⟨g,off,rfl,hc⟩:=hsl a5;have hk:=hc k a5;simp only [Ie] at hk;refine fS ?_;refine q2b ?_;refine ig ?_;refine eR ?_;refine db ?_;refine T.cond rfl (fun h2=>?_) (fun h2=>?_)
   ·have p2:=h2; (try simp only [cY] at p2);refine jO ?_;refine q0x ?_;refine cZ rfl rfl (fun w' hw=>⟨?_,hw.isBelow⟩);exact zc9 (by rw [zkU a5,if_neg b8] at hor;exact hor)
   ·have p2:=h2; (try simp only [cY] at p2);refine iE ?_;exact K.next (k+1) ⟨by omega,by rw [zkU a5,if_pos b8] at hor;exact hor⟩ a5 (by repeat (first|exact Sub.nil|refine Sub.cons rfl ?_)) Sx
  ·have p1:=h1; (try simp only [cY] at p1);refine q04 ?_;refine kv ?_;refine cZ rfl rfl (fun w' hw=>⟨?_,hw.isBelow⟩);exact zc9 (by rw [List.drop_eq_nil_of_le a5] at hor;exact hor)
theorem znP {q:Dx→Bool}(xs:List Dx)(v:Value)(f:FuncId)(caps:Array Value)(w:World)(h:SlOf w v Dx.cells 2 xs)(ho1:∀k,k<xs.length→OneC (cK xs k).v)[hE:Enters Tryz.prog f](hC:∀k,k<xs.length→∀w',Below w.heap.size w w'→Calls Tryz.prog f (.agg (Dx.cells (cK xs k)).toArray :: caps.toList).toArray w' fun e w''=>e= .returned (.bool (q (cK xs k)))∧Below w'.heap.size w' w'')(hl:xs.length≤9223372036854775807):Calls Tryz.prog 103 #[v, .func (.func f) #[] caps] w fun e w'=>e= .returned (.bool (gk q xs))∧Below w.heap.size w w':=by
 obtain ⟨A,cap,rfl,hsl⟩:=h.op;refine dv (M:=fun _=>False) (hs:=[]) Tryz.func103 rfl rfl rfl (Hp.refl _ _) ?_;refine ju ?_;refine ki ?_;refine T.loop (ι:=Nat) (fun k=>[(1, .func (.func f) #[] caps),(7, .slice A xs.length cap),(8, .int .i64 (xs.length:Int)),(9, .int .i64 (k:Int))]) (fun k=>[]) (fun k=>k≤xs.length∧∀j,j<k→q (cK xs j)=true) (fun k=>xs.length - k) 0 ?_ ?_ ?_ ?_
 ·exact q4I
 ·exact (by repeat (first|exact Sub.nil|refine Sub.cons rfl ?_))
 ·exact Sx
 ·intro k hphi;obtain ⟨hkl,hall⟩:=hphi;refine fh ?_;refine T.cond rfl (fun h1=>?_) (fun h1=>?_)
  ·have p1:=h1; (try simp only [cY] at p1);obtain ⟨g,off,rfl,hc⟩:=hsl a5;have hk:=hc k a5;haveI:=ho1 k a5;simp only [Dx.cells] at hk;refine fS ?_;refine mc ?_; (refine cO (Wt.none) rfl rfl (Ew.alloc) ?_;rintro _ _ ⟨g6,rfl,rfl⟩); (refine dN (Wt.none) rfl (dx 0) ?_;rintro _ _ ⟨rfl,rfl⟩);refine j9 ?_;refine iv ?_; (refine cO (Wt.none) rfl rfl (kK rfl rfl rfl (fun w hw=>hC k a5 w hw.isBelow)) ?_;rintro _ _ ⟨rfl,rfl⟩);refine dB ?_;refine T.cond rfl (fun h2=>?_) (fun h2=>?_)
   ·have p2:=h2; (try simp only [cY] at p2);refine i2 ?_;refine cZ rfl rfl (fun w' hw=>⟨?_,hw.isBelow⟩);exact q4J
   ·have p2:=h2; (try simp only [cY] at p2);refine iE ?_;exact K.next (k+1) ⟨by omega,zei hall (by simpa using p2)⟩ a5 (by repeat (first|exact Sub.nil|refine Sub.cons rfl ?_)) Sx
  ·have p1:=h1; (try simp only [cY] at p1);refine q4f ?_;refine cZ rfl rfl (fun w' hw=>⟨?_,hw.isBelow⟩);exact q4K
theorem zh3 {c:Dx→Dx→Int}(xs:List Dx)(v:Value)(f:FuncId)(w:World)(h:SlOf w v Dx.cells 2 xs)(ho1:∀k,k<xs.length→OneC (cK xs k).v)[hE:Enters Tryz.prog f](hC:∀x y:Dx,OneC x.v→OneC y.v→∀w':World,Calls Tryz.prog f #[.agg (Dx.cells (x)).toArray, .agg (Dx.cells (y)).toArray] w' fun e w''=>e= .returned (.int .i64 (c x y))∧Below w'.heap.size w' w'')(hl:xs.length≤9223372036854775807):Calls Tryz.prog 108 #[v, .func (.func f) #[] #[]] w fun e w'=>e= .returned (.bool (fR c xs))∧Below w.heap.size w w':=by
 obtain ⟨A,cap,rfl,hsl⟩:=h.op;refine dv (M:=fun _=>False) (hs:=[]) Tryz.func108 rfl rfl rfl (Hp.refl _ _) ?_;refine ju ?_;refine db (T.block ?_);refine T.loop (ι:=Nat) (fun k=>[(0, .slice A xs.length cap),(1, .func (.func f) #[] #[]),(5, .int .i64 (k:Int))]) (fun k=>[]) (fun k=>1≤k∧∀j,j<k→j<xs.length→(decide (j=0)|| !decide (0≤c (cK xs (j - 1)) (cK xs j)))=true) (fun k=>xs.length - k) 1 ?_ ?_ ?_ ?_
 ·exact q4L
 ·exact (by repeat (first|exact Sub.nil|refine Sub.cons rfl ?_))
 ·exact Sx
 ·intro k hphi;obtain ⟨hk0,hall⟩:=hphi;refine kn ?_;refine mJ ?_;refine dB ?_;refine T.cond rfl (fun h1=>?_) (fun h1=>?_)
  ·have p1:=h1; (try simp only [cY] at p1);obtain ⟨g,off,rfl,hc⟩:=hsl a5;have hk:=hc k a5;have hk1:=hc (k - 1) a5;have o1:=ho1 k a5;have o2:=ho1 (k - 1) a5;simp only [Dx.cells] at hk hk1;refine q0t ?_; (refine dd rfl (Wt.none) rfl rfl (cN rfl rfl rfl (fun w hw=>hC (cK xs (k - 1)) (cK xs k) o2 o1 w)) ?_;rintro _ _ ⟨rfl,rfl⟩;refine ⟨Sx,?_⟩);refine kG ?_;refine T.cond rfl (fun h2=>?_) (fun h2=>?_)
   ·have p2:=h2; (try simp only [cY] at p2);refine i2 ?_;refine cZ rfl rfl (fun w' hw=>⟨?_,hw.isBelow⟩);exact q4M
   ·have p2:=h2; (try simp only [cY] at p2);refine gY ?_;exact K.next (k+1) ⟨by omega,fun j hj hjl=>by rcases Nat.lt_or_ge j k with hh|hh;exact hall j hh hjl;rw [show j=k from by omega,decide_eq_false a5];simpa using p2⟩ a5 (by repeat (first|exact Sub.nil|refine Sub.cons rfl ?_)) Sx
  ·have p1:=h1; (try simp only [cY] at p1);refine q4f ?_;refine cZ rfl rfl (fun w' hw=>⟨?_,hw.isBelow⟩);exact q4N
theorem zmH {q:Pr→Bool}(xs:List Pr)(v:Value)(f:FuncId)(caps:Array Value)(w:World)(h:SlOf w v Pr.cells 5 xs)[hE:Enters Tryz.prog f](hC:∀k,k<xs.length→∀w',Below w.heap.size w w'→Calls Tryz.prog f (.agg (Pr.cells (cK xs k)).toArray :: caps.toList).toArray w' fun e w''=>e= .returned (.bool (q (cK xs k)))∧Below w'.heap.size w' w'')(hl:xs.length≤9223372036854775807):Calls Tryz.prog 110 #[v, .func (.func f) #[] caps] w fun e w'=>e= .returned (.bool (gk q xs))∧Below w.heap.size w w':=by
 obtain ⟨A,cap,rfl,hsl⟩:=h.op;refine dv (M:=fun _=>False) (hs:=[]) Tryz.func110 rfl rfl rfl (Hp.refl _ _) ?_;refine ju ?_;refine ki ?_;refine T.loop (ι:=Nat) (fun k=>[(1, .func (.func f) #[] caps),(7, .slice A xs.length cap),(8, .int .i64 (xs.length:Int)),(9, .int .i64 (k:Int))]) (fun k=>[]) (fun k=>k≤xs.length∧∀j,j<k→q (cK xs j)=true) (fun k=>xs.length - k) 0 ?_ ?_ ?_ ?_
 ·exact q4I
 ·exact (by repeat (first|exact Sub.nil|refine Sub.cons rfl ?_))
 ·exact Sx
 ·intro k hphi;obtain ⟨hkl,hall⟩:=hphi;refine fh ?_;refine T.cond rfl (fun h1=>?_) (fun h1=>?_)
  ·have p1:=h1; (try simp only [cY] at p1);obtain ⟨g,off,rfl,hc⟩:=hsl a5;have hk:=hc k a5;simp only [Pr.cells] at hk;refine fS ?_;refine mc ?_; (refine cO (Wt.none) rfl rfl (Ew.alloc) ?_;rintro _ _ ⟨g6,rfl,rfl⟩); (refine dN (Wt.none) rfl (dx 0) ?_;rintro _ _ ⟨rfl,rfl⟩);refine j9 ?_;refine iv ?_; (refine cO (Wt.none) rfl rfl (kK rfl rfl rfl (fun w hw=>hC k a5 w hw.isBelow)) ?_;rintro _ _ ⟨rfl,rfl⟩);refine dB ?_;refine T.cond rfl (fun h2=>?_) (fun h2=>?_)
   ·have p2:=h2; (try simp only [cY] at p2);refine i2 ?_;refine cZ rfl rfl (fun w' hw=>⟨?_,hw.isBelow⟩);exact q4J
   ·have p2:=h2; (try simp only [cY] at p2);refine iE ?_;exact K.next (k+1) ⟨by omega,zei hall (by simpa using p2)⟩ a5 (by repeat (first|exact Sub.nil|refine Sub.cons rfl ?_)) Sx
  ·have p1:=h1; (try simp only [cY] at p1);refine q4f ?_;refine cZ rfl rfl (fun w' hw=>⟨?_,hw.isBelow⟩);exact q4K
theorem zjr {c:Pr→Pr→Int}(xs:List Pr)(v:Value)(f:FuncId)(w:World)(h:SlOf w v Pr.cells 5 xs)[hE:Enters Tryz.prog f](hC:∀x y:Pr,∀w':World,Calls Tryz.prog f #[.agg (Pr.cells (x)).toArray, .agg (Pr.cells (y)).toArray] w' fun e w''=>e= .returned (.int .i64 (c x y))∧Below w'.heap.size w' w'')(hl:xs.length≤9223372036854775807):Calls Tryz.prog 132 #[v, .func (.func f) #[] #[]] w fun e w'=>e= .returned (.bool (fR c xs))∧Below w.heap.size w w':=by
 obtain ⟨A,cap,rfl,hsl⟩:=h.op;refine dv (M:=fun _=>False) (hs:=[]) Tryz.func132 rfl rfl rfl (Hp.refl _ _) ?_;refine ju ?_;refine db (T.block ?_);refine T.loop (ι:=Nat) (fun k=>[(0, .slice A xs.length cap),(1, .func (.func f) #[] #[]),(5, .int .i64 (k:Int))]) (fun k=>[]) (fun k=>1≤k∧∀j,j<k→j<xs.length→(decide (j=0)|| !decide (0≤c (cK xs (j - 1)) (cK xs j)))=true) (fun k=>xs.length - k) 1 ?_ ?_ ?_ ?_
 ·exact q4L
 ·exact (by repeat (first|exact Sub.nil|refine Sub.cons rfl ?_))
 ·exact Sx
 ·intro k hphi;obtain ⟨hk0,hall⟩:=hphi;refine kn ?_;refine mJ ?_;refine dB ?_;refine T.cond rfl (fun h1=>?_) (fun h1=>?_)
  ·have p1:=h1; (try simp only [cY] at p1);obtain ⟨g,off,rfl,hc⟩:=hsl a5;have hk:=hc k a5;have hk1:=hc (k - 1) a5;simp only [Pr.cells] at hk hk1;refine q0t ?_; (refine dd rfl (Wt.none) rfl rfl (cN rfl rfl rfl (fun w hw=>hC (cK xs (k - 1)) (cK xs k) w)) ?_;rintro _ _ ⟨rfl,rfl⟩;refine ⟨Sx,?_⟩);refine kG ?_;refine T.cond rfl (fun h2=>?_) (fun h2=>?_)
   ·have p2:=h2; (try simp only [cY] at p2);refine i2 ?_;refine cZ rfl rfl (fun w' hw=>⟨?_,hw.isBelow⟩);exact q4M
   ·have p2:=h2; (try simp only [cY] at p2);refine gY ?_;exact K.next (k+1) ⟨by omega,fun j hj hjl=>by rcases Nat.lt_or_ge j k with hh|hh;exact hall j hh hjl;rw [show j=k from by omega,decide_eq_false a5];simpa using p2⟩ a5 (by repeat (first|exact Sub.nil|refine Sub.cons rfl ?_)) Sx
  ·have p1:=h1; (try simp only [cY] at p1);refine q4f ?_;refine cZ rfl rfl (fun w' hw=>⟨?_,hw.isBelow⟩);exact q4N
theorem zl9 {q:Ld→Bool}(xs:List Ld)(v:Value)(f:FuncId)(caps:Array Value)(w:World)(h:SlOf w v Ld.cells 5 xs)[hE:Enters Tryz.prog f](hC:∀k,k<xs.length→∀w',Below w.heap.size w w'→Calls Tryz.prog f (.agg (Ld.cells (cK xs k)).toArray :: caps.toList).toArray w' fun e w''=>e= .returned (.bool (q (cK xs k)))∧Below w'.heap.size w' w'')(hl:xs.length≤9223372036854775807):Calls Tryz.prog 112 #[v, .func (.func f) #[] caps] w fun e w'=>e= .returned (.bool (gk q xs))∧Below w.heap.size w w':=by
 obtain ⟨A,cap,rfl,hsl⟩:=h.op;refine dv (M:=fun _=>False) (hs:=[]) Tryz.func112 rfl rfl rfl (Hp.refl _ _) ?_;refine ju ?_;refine ki ?_;refine T.loop (ι:=Nat) (fun k=>[(1, .func (.func f) #[] caps),(7, .slice A xs.length cap),(8, .int .i64 (xs.length:Int)),(9, .int .i64 (k:Int))]) (fun k=>[]) (fun k=>k≤xs.length∧∀j,j<k→q (cK xs j)=true) (fun k=>xs.length - k) 0 ?_ ?_ ?_ ?_
 ·exact q4I
 ·exact (by repeat (first|exact Sub.nil|refine Sub.cons rfl ?_))
 ·exact Sx
 ·intro k hphi;obtain ⟨hkl,hall⟩:=hphi;refine fh ?_;refine T.cond rfl (fun h1=>?_) (fun h1=>?_)
  ·have p1:=h1; (try simp only [cY] at p1);obtain ⟨g,off,rfl,hc⟩:=hsl a5;have hk:=hc k a5;simp only [Ld.cells] at hk;refine fS ?_;refine mc ?_; (refine cO (Wt.none) rfl rfl (Ew.alloc) ?_;rintro _ _ ⟨g6,rfl,rfl⟩); (refine dN (Wt.none) rfl (dx 0) ?_;rintro _ _ ⟨rfl,rfl⟩);refine j9 ?_;refine iv ?_; (refine cO (Wt.none) rfl rfl (kK rfl rfl rfl (fun w hw=>hC k a5 w hw.isBelow)) ?_;rintro _ _ ⟨rfl,rfl⟩);refine dB ?_;refine T.cond rfl (fun h2=>?_) (fun h2=>?_)
   ·have p2:=h2; (try simp only [cY] at p2);refine i2 ?_;refine cZ rfl rfl (fun w' hw=>⟨?_,hw.isBelow⟩);exact q4J
   ·have p2:=h2; (try simp only [cY] at p2);refine iE ?_;exact K.next (k+1) ⟨by omega,zei hall (by simpa using p2)⟩ a5 (by repeat (first|exact Sub.nil|refine Sub.cons rfl ?_)) Sx
  ·have p1:=h1; (try simp only [cY] at p1);refine q4f ?_;refine cZ rfl rfl (fun w' hw=>⟨?_,hw.isBelow⟩);exact q4K
theorem zi0 {c:Ld→Ld→Int}(xs:List Ld)(v:Value)(f:FuncId)(w:World)(h:SlOf w v Ld.cells 5 xs)[hE:Enters Tryz.prog f](hC:∀x y:Ld,∀w':World,Calls Tryz.prog f #[.agg (Ld.cells (x)).toArray, .agg (Ld.cells (y)).toArray] w' fun e w''=>e= .returned (.int .i64 (c x y))∧Below w'.heap.size w' w'')(hl:xs.length≤9223372036854775807):Calls Tryz.prog 135 #[v, .func (.func f) #[] #[]] w fun e w'=>e= .returned (.bool (fR c xs))∧Below w.heap.size w w':=by
 obtain ⟨A,cap,rfl,hsl⟩:=h.op;refine dv (M:=fun _=>False) (hs:=[]) Tryz.func135 rfl rfl rfl (Hp.refl _ _) ?_;refine ju ?_;refine db (T.block ?_);refine T.loop (ι:=Nat) (fun k=>[(0, .slice A xs.length cap),(1, .func (.func f) #[] #[]),(5, .int .i64 (k:Int))]) (fun k=>[]) (fun k=>1≤k∧∀j,j<k→j<xs.length→(decide (j=0)|| !decide (0≤c (cK xs (j - 1)) (cK xs j)))=true) (fun k=>xs.length - k) 1 ?_ ?_ ?_ ?_
 ·exact q4L
 ·exact (by repeat (first|exact Sub.nil|refine Sub.cons rfl ?_))
 ·exact Sx
 ·intro k hphi;obtain ⟨hk0,hall⟩:=hphi;refine kn ?_;refine mJ ?_;refine dB ?_;refine T.cond rfl (fun h1=>?_) (fun h1=>?_)
  ·have p1:=h1; (try simp only [cY] at p1);obtain ⟨g,off,rfl,hc⟩:=hsl a5;have hk:=hc k a5;have hk1:=hc (k - 1) a5;simp only [Ld.cells] at hk hk1;refine q0t ?_; (refine dd rfl (Wt.none) rfl rfl (cN rfl rfl rfl (fun w hw=>hC (cK xs (k - 1)) (cK xs k) w)) ?_;rintro _ _ ⟨rfl,rfl⟩;refine ⟨Sx,?_⟩);refine kG ?_;refine T.cond rfl (fun h2=>?_) (fun h2=>?_)
   ·have p2:=h2; (try simp only [cY] at p2);refine i2 ?_;refine cZ rfl rfl (fun w' hw=>⟨?_,hw.isBelow⟩);exact q4M
   ·have p2:=h2; (try simp only [cY] at p2);refine gY ?_;exact K.next (k+1) ⟨by omega,fun j hj hjl=>by rcases Nat.lt_or_ge j k with hh|hh;exact hall j hh hjl;rw [show j=k from by omega,decide_eq_false a5];simpa using p2⟩ a5 (by repeat (first|exact Sub.nil|refine Sub.cons rfl ?_)) Sx
  ·have p1:=h1; (try simp only [cY] at p1);refine q4f ?_;refine cZ rfl rfl (fun w' hw=>⟨?_,hw.isBelow⟩);exact q4N
theorem zlN {q:Cp→Bool}(xs:List Cp)(v:Value)(f:FuncId)(caps:Array Value)(w:World)(h:SlOf w v Cp.cells 4 xs)[hE:Enters Tryz.prog f](hC:∀k,k<xs.length→∀w',Below w.heap.size w w'→Calls Tryz.prog f (.agg (Cp.cells (cK xs k)).toArray :: caps.toList).toArray w' fun e w''=>e= .returned (.bool (q (cK xs k)))∧Below w'.heap.size w' w'')(hl:xs.length≤9223372036854775807):Calls Tryz.prog 114 #[v, .func (.func f) #[] caps] w fun e w'=>e= .returned (.bool (gk q xs))∧Below w.heap.size w w':=by
 obtain ⟨A,cap,rfl,hsl⟩:=h.op;refine dv (M:=fun _=>False) (hs:=[]) Tryz.func114 rfl rfl rfl (Hp.refl _ _) ?_;refine ju ?_;refine ki ?_;refine T.loop (ι:=Nat) (fun k=>[(1, .func (.func f) #[] caps),(7, .slice A xs.length cap),(8, .int .i64 (xs.length:Int)),(9, .int .i64 (k:Int))]) (fun k=>[]) (fun k=>k≤xs.length∧∀j,j<k→q (cK xs j)=true) (fun k=>xs.length - k) 0 ?_ ?_ ?_ ?_
 ·exact q4I
 ·exact (by repeat (first|exact Sub.nil|refine Sub.cons rfl ?_))
 ·exact Sx
 ·intro k hphi;obtain ⟨hkl,hall⟩:=hphi;refine fh ?_;refine T.cond rfl (fun h1=>?_) (fun h1=>?_)
  ·have p1:=h1; (try simp only [cY] at p1);obtain ⟨g,off,rfl,hc⟩:=hsl a5;have hk:=hc k a5;simp only [Cp.cells] at hk;refine fS ?_;refine mc ?_; (refine cO (Wt.none) rfl rfl (Ew.alloc) ?_;rintro _ _ ⟨g6,rfl,rfl⟩); (refine dN (Wt.none) rfl (dx 0) ?_;rintro _ _ ⟨rfl,rfl⟩);refine j9 ?_;refine iv ?_; (refine cO (Wt.none) rfl rfl (kK rfl rfl rfl (fun w hw=>hC k a5 w hw.isBelow)) ?_;rintro _ _ ⟨rfl,rfl⟩);refine dB ?_;refine T.cond rfl (fun h2=>?_) (fun h2=>?_)
   ·have p2:=h2; (try simp only [cY] at p2);refine i2 ?_;refine cZ rfl rfl (fun w' hw=>⟨?_,hw.isBelow⟩);exact q4J
   ·have p2:=h2; (try simp only [cY] at p2);refine iE ?_;exact K.next (k+1) ⟨by omega,zei hall (by simpa using p2)⟩ a5 (by repeat (first|exact Sub.nil|refine Sub.cons rfl ?_)) Sx
  ·have p1:=h1; (try simp only [cY] at p1);refine q4f ?_;refine cZ rfl rfl (fun w' hw=>⟨?_,hw.isBelow⟩);exact q4K
theorem zjj {c:Cp→Cp→Int}(xs:List Cp)(v:Value)(f:FuncId)(w:World)(h:SlOf w v Cp.cells 4 xs)[hE:Enters Tryz.prog f](hC:∀x y:Cp,∀w':World,Calls Tryz.prog f #[.agg (Cp.cells (x)).toArray, .agg (Cp.cells (y)).toArray] w' fun e w''=>e= .returned (.int .i64 (c x y))∧Below w'.heap.size w' w'')(hl:xs.length≤9223372036854775807):Calls Tryz.prog 138 #[v, .func (.func f) #[] #[]] w fun e w'=>e= .returned (.bool (fR c xs))∧Below w.heap.size w w':=by
 obtain ⟨A,cap,rfl,hsl⟩:=h.op;refine dv (M:=fun _=>False) (hs:=[]) Tryz.func138 rfl rfl rfl (Hp.refl _ _) ?_;refine ju ?_;refine db (T.block ?_);refine T.loop (ι:=Nat) (fun k=>[(0, .slice A xs.length cap),(1, .func (.func f) #[] #[]),(5, .int .i64 (k:Int))]) (fun k=>[]) (fun k=>1≤k∧∀j,j<k→j<xs.length→(decide (j=0)|| !decide (0≤c (cK xs (j - 1)) (cK xs j)))=true) (fun k=>xs.length - k) 1 ?_ ?_ ?_ ?_
 ·exact q4L
 ·exact (by repeat (first|exact Sub.nil|refine Sub.cons rfl ?_))
 ·exact Sx
 ·intro k hphi;obtain ⟨hk0,hall⟩:=hphi;refine kn ?_;refine mJ ?_;refine dB ?_;refine T.cond rfl (fun h1=>?_) (fun h1=>?_)
  ·have p1:=h1; (try simp only [cY] at p1);obtain ⟨g,off,rfl,hc⟩:=hsl a5;have hk:=hc k a5;have hk1:=hc (k - 1) a5;simp only [Cp.cells] at hk hk1;refine q0t ?_; (refine dd rfl (Wt.none) rfl rfl (cN rfl rfl rfl (fun w hw=>hC (cK xs (k - 1)) (cK xs k) w)) ?_;rintro _ _ ⟨rfl,rfl⟩;refine ⟨Sx,?_⟩);refine kG ?_;refine T.cond rfl (fun h2=>?_) (fun h2=>?_)
   ·have p2:=h2; (try simp only [cY] at p2);refine i2 ?_;refine cZ rfl rfl (fun w' hw=>⟨?_,hw.isBelow⟩);exact q4M
   ·have p2:=h2; (try simp only [cY] at p2);refine gY ?_;exact K.next (k+1) ⟨by omega,fun j hj hjl=>by rcases Nat.lt_or_ge j k with hh|hh;exact hall j hh hjl;rw [show j=k from by omega,decide_eq_false a5];simpa using p2⟩ a5 (by repeat (first|exact Sub.nil|refine Sub.cons rfl ?_)) Sx
  ·have p1:=h1; (try simp only [cY] at p1);refine q4f ?_;refine cZ rfl rfl (fun w' hw=>⟨?_,hw.isBelow⟩);exact q4N
theorem znO {q:Int→Bool}(xs:List Int)(v:Value)(f:FuncId)(caps:Array Value)(w:World)(h:SlOf w v Ie 1 xs)[hE:Enters Tryz.prog f](hC:∀k,k<xs.length→∀w',Below w.heap.size w w'→Calls Tryz.prog f (.int .i64 (cK xs k) :: caps.toList).toArray w' fun e w''=>e= .returned (.bool (q (cK xs k)))∧Below w'.heap.size w' w'')(hl:xs.length≤9223372036854775807):Calls Tryz.prog 122 #[v, .func (.func f) #[] caps] w fun e w'=>e= .returned (.bool (gk q xs))∧Below w.heap.size w w':=by
 obtain ⟨A,cap,rfl,hsl⟩:=h.op;refine dv (M:=fun _=>False) (hs:=[]) Tryz.func122 rfl rfl rfl (Hp.refl _ _) ?_;refine ju ?_;refine ki ?_;refine T.loop (ι:=Nat) (fun k=>[(1, .func (.func f) #[] caps),(7, .slice A xs.length cap),(8, .int .i64 (xs.length:Int)),(9, .int .i64 (k:Int))]) (fun k=>[]) (fun k=>k≤xs.length∧∀j,j<k→q (cK xs j)=true) (fun k=>xs.length - k) 0 ?_ ?_ ?_ ?_
 ·exact q4I
 ·exact (by repeat (first|exact Sub.nil|refine Sub.cons rfl ?_))
 ·exact Sx
 ·intro k hphi;obtain ⟨hkl,hall⟩:=hphi;refine fh ?_;refine T.cond rfl (fun h1=>?_) (fun h1=>?_)
  ·have p1:=h1; (try simp only [cY] at p1);obtain ⟨g,off,rfl,hc⟩:=hsl a5;have hk:=hc k a5;simp only [Ie] at hk;refine fS ?_;refine q2b ?_;refine ig ?_;refine eg ?_; (refine cO (Wt.none) rfl rfl (kK rfl rfl rfl (fun w hw=>hC k a5 w hw.isBelow)) ?_;rintro _ _ ⟨rfl,rfl⟩);refine dB ?_;refine T.cond rfl (fun h2=>?_) (fun h2=>?_)
   ·have p2:=h2; (try simp only [cY] at p2);refine i2 ?_;refine cZ rfl rfl (fun w' hw=>⟨?_,hw.isBelow⟩);exact q4J
   ·have p2:=h2; (try simp only [cY] at p2);refine iE ?_;exact K.next (k+1) ⟨by omega,zei hall (by simpa using p2)⟩ a5 (by repeat (first|exact Sub.nil|refine Sub.cons rfl ?_)) Sx
  ·have p1:=h1; (try simp only [cY] at p1);refine q4f ?_;refine cZ rfl rfl (fun w' hw=>⟨?_,hw.isBelow⟩);exact q4K
theorem zh5 {c:Int→Int→Int}(xs:List Int)(v:Value)(f:FuncId)(w:World)(h:SlOf w v Ie 1 xs)[hE:Enters Tryz.prog f](hC:∀x y:Int,∀w':World,Calls Tryz.prog f #[.int .i64 (x), .int .i64 (y)] w' fun e w''=>e= .returned (.int .i64 (c x y))∧Below w'.heap.size w' w'')(hl:xs.length≤9223372036854775807):Calls Tryz.prog 123 #[v, .func (.func f) #[] #[]] w fun e w'=>e= .returned (.bool (fR c xs))∧Below w.heap.size w w':=by
 obtain ⟨A,cap,rfl,hsl⟩:=h.op;refine dv (M:=fun _=>False) (hs:=[]) Tryz.func123 rfl rfl rfl (Hp.refl _ _) ?_;refine ju ?_;refine db (T.block ?_);refine T.loop (ι:=Nat) (fun k=>[(0, .slice A xs.length cap),(1, .func (.func f) #[] #[]),(5, .int .i64 (k:Int))]) (fun k=>[]) (fun k=>1≤k∧∀j,j<k→j<xs.length→(decide (j=0)|| !decide (0≤c (cK xs (j - 1)) (cK xs j)))=true) (fun k=>xs.length - k) 1 ?_ ?_ ?_ ?_
 ·exact q4L
 ·exact (by repeat (first|exact Sub.nil|refine Sub.cons rfl ?_))
 ·exact Sx
 ·intro k hphi;obtain ⟨hk0,hall⟩:=hphi;refine kn ?_;refine mJ ?_;refine dB ?_;refine T.cond rfl (fun h1=>?_) (fun h1=>?_)
  ·have p1:=h1; (try simp only [cY] at p1);obtain ⟨g,off,rfl,hc⟩:=hsl a5;have hk:=hc k a5;have hk1:=hc (k - 1) a5;simp only [Ie] at hk hk1;refine jQ ?_;refine q26 ?_;refine q1a ?_;refine cT rfl (gU rfl rfl rfl (show (k:Int) - 1=((k - 1:Nat):Int) from by omega) a5) ?_;refine cT rfl (ed (j:=0) rfl rfl hk1 rfl rfl (fun h=>h)) ?_;refine gQ ?_;refine q2W ?_;refine cT rfl (ed (j:=0) rfl rfl hk rfl rfl (fun h=>h)) ?_;refine dD ?_; (refine dd rfl (Wt.none) rfl rfl (cN rfl rfl rfl (fun w hw=>hC (cK xs (k - 1)) (cK xs k) w)) ?_;rintro _ _ ⟨rfl,rfl⟩;refine ⟨Sx,?_⟩);refine kG ?_;refine T.cond rfl (fun h2=>?_) (fun h2=>?_)
   ·have p2:=h2; (try simp only [cY] at p2);refine i2 ?_;refine cZ rfl rfl (fun w' hw=>⟨?_,hw.isBelow⟩);exact q4M
   ·have p2:=h2; (try simp only [cY] at p2);refine gY ?_;exact K.next (k+1) ⟨by omega,fun j hj hjl=>by rcases Nat.lt_or_ge j k with hh|hh;exact hall j hh hjl;rw [show j=k from by omega,decide_eq_false a5];simpa using p2⟩ a5 (by repeat (first|exact Sub.nil|refine Sub.cons rfl ?_)) Sx
  ·have p1:=h1; (try simp only [cY] at p1);refine q4f ?_;refine cZ rfl rfl (fun w' hw=>⟨?_,hw.isBelow⟩);exact q4N
def Pr.ok (x:Pr):Bool:=inB x.a 0 511&&(inB x.b 0 511&&(decide (x.a<x.b)&&(inB x.off (-1) 1&&ft x.lo x.hi)))
def Ld.ok (x:Ld):Bool:=inB x.to 0 511&&(inB x.fr 0 511&&(decide (¬x.to=x.fr)&&(inB x.wt 1 1073741824&&ft x.lo x.hi)))
def Cp.ok (x:Cp):Bool:=inB x.st 0 511&&(inB x.mx 0 1099511627776&&ft x.lo x.hi)
def Pr.cmp (x y:Pr):Int:=m2 [dR x.a y.a,dR x.b y.b,dR x.off y.off,dR x.lo y.lo,dR x.hi y.hi]
def Ld.cmp (x y:Ld):Int:=m2 [dR x.to y.to,dR x.fr y.fr,dR x.wt y.wt,dR x.lo y.lo,dR x.hi y.hi]
def Cp.cmp (x y:Cp):Int:=m2 [dR x.st y.st,dR x.mx y.mx,dR x.lo y.lo,dR x.hi y.hi]
theorem zjc (x:Pr)(w:World):Calls Tryz.prog 131 #[.agg (Pr.cells x).toArray] w fun e w'=>e= .returned (.bool x.ok)∧Below w.heap.size w w':=by
 refine dv (M:=fun _=>False) (hs:=[]) Tryz.func131 rfl rfl rfl (Hp.refl _ _) ?_;simp only [Pr.cells];refine dq ?_; (refine cO (Wt.none) rfl rfl (dI) ?_;rintro _ _ ⟨g1,rfl,rfl⟩);refine ig ?_;refine ei ?_; (refine cO (Wt.none) rfl rfl (cN rfl rfl rfl (fun w hw=>zcn _ _)) ?_;rintro _ _ ⟨rfl,rfl⟩);refine df ?_;refine du rfl rfl rfl (fun h1=>?_) (fun h1=>?_)
 ·have p1:=h1; (try simp only [cY] at p1);refine q0G ?_; (refine cO (Wt.some rfl rfl rfl h1) rfl rfl (cN rfl rfl rfl (fun w hw=>zcn _ _)) ?_;rintro _ _ ⟨rfl,rfl⟩);refine lx ?_;refine df ?_;refine du rfl rfl rfl (fun h2=>?_) (fun h2=>?_)
  ·have p2:=h2; (try simp only [cY] at p2);refine nq ?_;refine nq ?_;refine m9 ?_;refine q2O ?_;refine df ?_;refine du rfl rfl rfl (fun h3=>?_) (fun h3=>?_)
   ·have p3:=h3; (try simp only [cY] at p3);refine q0U ?_; (refine cO (Wt.some rfl rfl rfl h3) rfl rfl (cN rfl rfl rfl (fun w hw=>zdt _ _ _ _)) ?_;rintro _ _ ⟨rfl,rfl⟩);refine q3U ?_;refine df ?_;refine du rfl rfl rfl (fun h4=>?_) (fun h4=>?_)
    ·have p4:=h4; (try simp only [cY] at p4);refine q0V ?_;refine q0V ?_; (refine cO (Wt.some rfl rfl rfl h4) rfl rfl (cN rfl rfl rfl (fun w hw=>zfe _ _ _)) ?_;rintro _ _ ⟨rfl,rfl⟩);refine cM (eT rfl rfl h4) ?_;refine fO ?_;refine cZ rfl rfl (fun w' hw=>⟨?_,hw.isBelow⟩);exact q4O
    ·have p4:=h4; (try simp only [cY] at p4);refine q2r ?_;refine fO ?_;refine cZ rfl rfl (fun w' hw=>⟨?_,hw.isBelow⟩);exact q4O
   ·have p3:=h3; (try simp only [cY] at p3);refine q0r ?_;refine cM (eu rfl rfl h3) ?_;refine TL.run 8 rfl ?_;refine gH ?_;refine cZ rfl rfl (fun w' hw=>⟨?_,hw.isBelow⟩);exact q4O
  ·have p2:=h2; (try simp only [cY] at p2);refine q0k ?_;refine q1X ?_;refine TL.run 13 rfl ?_;refine gH ?_;refine cZ rfl rfl (fun w' hw=>⟨?_,hw.isBelow⟩);exact q4O
 ·have p1:=h1; (try simp only [cY] at p1);refine q1o ?_;refine TL.run 20 rfl ?_;refine gH ?_;refine cZ rfl rfl (fun w' hw=>⟨?_,hw.isBelow⟩);exact q4O
theorem zgm (x y:Pr)(w:World):Calls Tryz.prog 133 #[.agg (Pr.cells x).toArray, .agg (Pr.cells y).toArray] w fun e w'=>e= .returned (.int .i64 (x.cmp y))∧Below w.heap.size w w':=by
 refine dv (M:=fun _=>False) (hs:=[]) Tryz.func133 rfl rfl rfl (Hp.refl _ _) ?_;simp only [Pr.cells];refine dq ?_; (refine cO (Wt.none) rfl rfl (dI) ?_;rintro _ _ ⟨g2,rfl,rfl⟩); (refine cO (Wt.none) rfl rfl (dI) ?_;rintro _ _ ⟨g3,rfl,rfl⟩);refine df ?_;refine q1h ?_; (refine dd rfl (Wt.none) rfl rfl (cN rfl rfl rfl (fun w hw=>lr _ _ _)) ?_;rintro _ _ ⟨rfl,rfl⟩;refine ⟨Sx,?_⟩);refine dD ?_; (refine dd rfl (Wt.none) rfl rfl (cN rfl rfl rfl (fun w hw=>lr _ _ _)) ?_;rintro _ _ ⟨rfl,rfl⟩;refine ⟨Sx,?_⟩);refine dD ?_; (refine dd rfl (Wt.none) rfl rfl (cN rfl rfl rfl (fun w hw=>lr _ _ _)) ?_;rintro _ _ ⟨rfl,rfl⟩;refine ⟨Sx,?_⟩);refine dD ?_; (refine dd rfl (Wt.none) rfl rfl (cN rfl rfl rfl (fun w hw=>lr _ _ _)) ?_;rintro _ _ ⟨rfl,rfl⟩;refine ⟨Sx,?_⟩);refine dD ?_; (refine dd rfl (Wt.none) rfl rfl (cN rfl rfl rfl (fun w hw=>lr _ _ _)) ?_;rintro _ _ ⟨rfl,rfl⟩;refine ⟨Sx,?_⟩);refine dD ?_; (refine dd rfl (Wt.none) rfl rfl (Ew.buildSlice rfl rfl rfl a6) ?_;rintro _ _ ⟨g30,rfl,rfl⟩;refine ⟨Sx,?_⟩);refine dD ?_; (refine dd rfl (Wt.none) rfl rfl (cN rfl rfl rfl (fun w hw=>zlD [dR x.a y.a,dR x.b y.b,dR x.off y.off,dR x.lo y.lo,dR x.hi y.hi] _ w (SlOf.lit (enc:=Ie) (size:=1) (fun _=>rfl) _ (c4.1 (hw.get (i:=0) rfl)) rfl rfl) a8)) ?_;rintro _ _ ⟨rfl,rfl⟩;refine ⟨Sx,?_⟩);refine q4q ?_;refine cZ rfl rfl (fun w' hw=>⟨?_,hw.isBelow⟩)
 rfl
theorem ziY (x:Ld)(w:World):Calls Tryz.prog 134 #[.agg (Ld.cells x).toArray] w fun e w'=>e= .returned (.bool x.ok)∧Below w.heap.size w w':=by
 refine dv (M:=fun _=>False) (hs:=[]) Tryz.func134 rfl rfl rfl (Hp.refl _ _) ?_;simp only [Ld.cells];refine dq ?_; (refine cO (Wt.none) rfl rfl (dI) ?_;rintro _ _ ⟨g1,rfl,rfl⟩);refine ig ?_;refine ei ?_; (refine cO (Wt.none) rfl rfl (cN rfl rfl rfl (fun w hw=>zcn _ _)) ?_;rintro _ _ ⟨rfl,rfl⟩);refine df ?_;refine du rfl rfl rfl (fun h1=>?_) (fun h1=>?_)
 ·have p1:=h1; (try simp only [cY] at p1);refine q0G ?_; (refine cO (Wt.some rfl rfl rfl h1) rfl rfl (cN rfl rfl rfl (fun w hw=>zcn _ _)) ?_;rintro _ _ ⟨rfl,rfl⟩);refine lx ?_;refine df ?_;refine du rfl rfl rfl (fun h2=>?_) (fun h2=>?_)
  ·have p2:=h2; (try simp only [cY] at p2);refine nq ?_;refine nq ?_;refine m9 ?_;refine q2O ?_;refine df ?_;refine du rfl rfl rfl (fun h3=>?_) (fun h3=>?_)
   ·have p3:=h3; (try simp only [cY] at p3);refine q0U ?_; (refine cO (Wt.some rfl rfl rfl h3) rfl rfl (cN rfl rfl rfl (fun w hw=>zdt _ _ _ _)) ?_;rintro _ _ ⟨rfl,rfl⟩);refine q3U ?_;refine df ?_;refine du rfl rfl rfl (fun h4=>?_) (fun h4=>?_)
    ·have p4:=h4; (try simp only [cY] at p4);refine q0V ?_;refine q0V ?_; (refine cO (Wt.some rfl rfl rfl h4) rfl rfl (cN rfl rfl rfl (fun w hw=>zfe _ _ _)) ?_;rintro _ _ ⟨rfl,rfl⟩);refine cM (eT rfl rfl h4) ?_;refine fO ?_;refine cZ rfl rfl (fun w' hw=>⟨?_,hw.isBelow⟩);exact q4P
    ·have p4:=h4; (try simp only [cY] at p4);refine q2r ?_;refine fO ?_;refine cZ rfl rfl (fun w' hw=>⟨?_,hw.isBelow⟩);exact q4P
   ·have p3:=h3; (try simp only [cY] at p3);refine q0r ?_;refine cM (eu rfl rfl h3) ?_;refine TL.run 8 rfl ?_;refine gH ?_;refine cZ rfl rfl (fun w' hw=>⟨?_,hw.isBelow⟩);exact q4P
  ·have p2:=h2; (try simp only [cY] at p2);refine q0k ?_;refine q1X ?_;refine TL.run 13 rfl ?_;refine gH ?_;refine cZ rfl rfl (fun w' hw=>⟨?_,hw.isBelow⟩);exact q4P
 ·have p1:=h1; (try simp only [cY] at p1);refine q1o ?_;refine TL.run 20 rfl ?_;refine gH ?_;refine cZ rfl rfl (fun w' hw=>⟨?_,hw.isBelow⟩);exact q4P
theorem zgt (x y:Ld)(w:World):Calls Tryz.prog 136 #[.agg (Ld.cells x).toArray, .agg (Ld.cells y).toArray] w fun e w'=>e= .returned (.int .i64 (x.cmp y))∧Below w.heap.size w w':=by
 refine dv (M:=fun _=>False) (hs:=[]) Tryz.func136 rfl rfl rfl (Hp.refl _ _) ?_;simp only [Ld.cells];refine dq ?_; (refine cO (Wt.none) rfl rfl (dI) ?_;rintro _ _ ⟨g2,rfl,rfl⟩); (refine cO (Wt.none) rfl rfl (dI) ?_;rintro _ _ ⟨g3,rfl,rfl⟩);refine df ?_;refine q1h ?_; (refine dd rfl (Wt.none) rfl rfl (cN rfl rfl rfl (fun w hw=>lr _ _ _)) ?_;rintro _ _ ⟨rfl,rfl⟩;refine ⟨Sx,?_⟩);refine dD ?_; (refine dd rfl (Wt.none) rfl rfl (cN rfl rfl rfl (fun w hw=>lr _ _ _)) ?_;rintro _ _ ⟨rfl,rfl⟩;refine ⟨Sx,?_⟩);refine dD ?_; (refine dd rfl (Wt.none) rfl rfl (cN rfl rfl rfl (fun w hw=>lr _ _ _)) ?_;rintro _ _ ⟨rfl,rfl⟩;refine ⟨Sx,?_⟩);refine dD ?_; (refine dd rfl (Wt.none) rfl rfl (cN rfl rfl rfl (fun w hw=>lr _ _ _)) ?_;rintro _ _ ⟨rfl,rfl⟩;refine ⟨Sx,?_⟩);refine dD ?_; (refine dd rfl (Wt.none) rfl rfl (cN rfl rfl rfl (fun w hw=>lr _ _ _)) ?_;rintro _ _ ⟨rfl,rfl⟩;refine ⟨Sx,?_⟩);refine dD ?_; (refine dd rfl (Wt.none) rfl rfl (Ew.buildSlice rfl rfl rfl a6) ?_;rintro _ _ ⟨g30,rfl,rfl⟩;refine ⟨Sx,?_⟩);refine dD ?_; (refine dd rfl (Wt.none) rfl rfl (cN rfl rfl rfl (fun w hw=>zlD [dR x.to y.to,dR x.fr y.fr,dR x.wt y.wt,dR x.lo y.lo,dR x.hi y.hi] _ w (SlOf.lit (enc:=Ie) (size:=1) (fun _=>rfl) _ (c4.1 (hw.get (i:=0) rfl)) rfl rfl) a8)) ?_;rintro _ _ ⟨rfl,rfl⟩;refine ⟨Sx,?_⟩);refine q4q ?_;refine cZ rfl rfl (fun w' hw=>⟨?_,hw.isBelow⟩)
 rfl
theorem zj4 (x:Cp)(w:World):Calls Tryz.prog 137 #[.agg (Cp.cells x).toArray] w fun e w'=>e= .returned (.bool x.ok)∧Below w.heap.size w w':=by
 refine dv (M:=fun _=>False) (hs:=[]) Tryz.func137 rfl rfl rfl (Hp.refl _ _) ?_;simp only [Cp.cells];refine dq ?_; (refine cO (Wt.none) rfl rfl (dI) ?_;rintro _ _ ⟨g1,rfl,rfl⟩);refine ig ?_;refine ei ?_; (refine cO (Wt.none) rfl rfl (cN rfl rfl rfl (fun w hw=>zcn _ _)) ?_;rintro _ _ ⟨rfl,rfl⟩);refine df ?_;refine du rfl rfl rfl (fun h1=>?_) (fun h1=>?_)
 ·have p1:=h1; (try simp only [cY] at p1);refine q0G ?_; (refine cO (Wt.some rfl rfl rfl h1) rfl rfl (cN rfl rfl rfl (fun w hw=>zdt _ _ _ _)) ?_;rintro _ _ ⟨rfl,rfl⟩);refine lx ?_;refine df ?_;refine du rfl rfl rfl (fun h2=>?_) (fun h2=>?_)
  ·have p2:=h2; (try simp only [cY] at p2);refine nq ?_;refine nq ?_; (refine cO (Wt.some rfl rfl rfl h2) rfl rfl (cN rfl rfl rfl (fun w hw=>zfe _ _ _)) ?_;rintro _ _ ⟨rfl,rfl⟩);refine q2O ?_;refine fO ?_;refine cZ rfl rfl (fun w' hw=>⟨?_,hw.isBelow⟩);exact q4Y
  ·have p2:=h2; (try simp only [cY] at p2);refine q0k ?_;refine q1X ?_;refine fO ?_;refine cZ rfl rfl (fun w' hw=>⟨?_,hw.isBelow⟩);exact q4Y
 ·have p1:=h1; (try simp only [cY] at p1);refine q1o ?_;refine TL.run 8 rfl ?_;refine gH ?_;refine cZ rfl rfl (fun w' hw=>⟨?_,hw.isBelow⟩);exact q4Y
theorem zg7 (x y:Cp)(w:World):Calls Tryz.prog 139 #[.agg (Cp.cells x).toArray, .agg (Cp.cells y).toArray] w fun e w'=>e= .returned (.int .i64 (x.cmp y))∧Below w.heap.size w w':=by
 refine dv (M:=fun _=>False) (hs:=[]) Tryz.func139 rfl rfl rfl (Hp.refl _ _) ?_;simp only [Cp.cells];refine dq ?_; (refine cO (Wt.none) rfl rfl (dI) ?_;rintro _ _ ⟨g2,rfl,rfl⟩); (refine cO (Wt.none) rfl rfl (dI) ?_;rintro _ _ ⟨g3,rfl,rfl⟩);refine kq ?_;refine dM (sN 0 4 (sN 5 4 (sN 10 4 (sN 15 4 (.eff 4 (.eff 9 (.eff 14 (.eff 19 (.eff 20 (.eff 21 (.still 22 .done))))))))))) _ a7 (List.Sublist.refl _) ?_;refine q0C ?_;refine gr ?_;refine cT rfl (c9 1) ?_;refine mW ?_; (refine dd rfl (Wt.none) rfl rfl (cN rfl rfl rfl (fun w hw=>lr _ _ _)) ?_;rintro _ _ ⟨rfl,rfl⟩;refine ⟨Sx,?_⟩);refine dD ?_; (refine dd rfl (Wt.none) rfl rfl (cN rfl rfl rfl (fun w hw=>lr _ _ _)) ?_;rintro _ _ ⟨rfl,rfl⟩;refine ⟨Sx,?_⟩);refine dD ?_; (refine dd rfl (Wt.none) rfl rfl (cN rfl rfl rfl (fun w hw=>lr _ _ _)) ?_;rintro _ _ ⟨rfl,rfl⟩;refine ⟨Sx,?_⟩);refine dD ?_; (refine dd rfl (Wt.none) rfl rfl (cN rfl rfl rfl (fun w hw=>lr _ _ _)) ?_;rintro _ _ ⟨rfl,rfl⟩;refine ⟨Sx,?_⟩);refine dD ?_; (refine dd rfl (Wt.none) rfl rfl (Ew.buildSlice rfl rfl rfl a6) ?_;rintro _ _ ⟨g25,rfl,rfl⟩;refine ⟨Sx,?_⟩);refine dD ?_; (refine dd rfl (Wt.none) rfl rfl (cN rfl rfl rfl (fun w hw=>zlD [dR x.st y.st,dR x.mx y.mx,dR x.lo y.lo,dR x.hi y.hi] _ w (SlOf.lit (enc:=Ie) (size:=1) (fun _=>rfl) _ (c4.1 (hw.get (i:=0) rfl)) rfl rfl) a8)) ?_;rintro _ _ ⟨rfl,rfl⟩;refine ⟨Sx,?_⟩);refine q4q ?_;refine cZ rfl rfl (fun w' hw=>⟨?_,hw.isBelow⟩)
 rfl
theorem Cs.later {w w':World}(hb:Below w.heap.size w w'){g p:Nat}{l:List Value}(h:Cs w g p l):Cs w' g p l:=h.kept (iq hb) (fun h=>h)
def Dx.ok (d:Dx):Bool:=inB d.st 0 511&&(gk (fun c=>inB c 2 51) d.chs&&fR dR d.chs)
def Pb.rulesOk (P:Pb):Bool:=decide ((P.ps.length:Int)≤4096)&&(gk Pr.ok P.ps&&(fR Pr.cmp P.ps&&(decide ((P.ls.length:Int)≤1024)&&(gk Ld.ok P.ls&&(fR Ld.cmp P.ls&&(decide ((P.cs.length:Int)≤1024)&&(gk Cp.ok P.cs&&fR Cp.cmp P.cs)))))))
abbrev Ws:=List (BitVec 64)
abbrev Ws.cells (ws:Ws):List Value:=ws.map fun b=>U b
def fL:Ws:=List.replicate 8 0#64
def dX (ws:Ws)(i:Nat):Ws:=ws.set (i / 64) (cK ws (i / 64) ||| 1#64 <<< (i % 64))
def eO (ws:Ws)(i:Nat):Bool:=(cK ws (i / 64)).getLsbD (i % 64)
def jU (ws:Ws)(i:Int):Bool:=inB i 0 511&&eO ws i.toNat
def mE (l:List Int):Ws:=l.foldl (fun s i=>dX s i.toNat) fL
theorem lY {ws:Ws}{i:Nat}:(dX ws i).length=ws.length:=by simp [dX]
theorem lX (l:List Int):(mE l).length=8:=by
 have:∀(l:List Int) (s:Ws),(l.foldl (fun s i=>dX s i.toNat) s).length=s.length:=by
  intro l
  induction l with
  |nil=>intro s;rfl
  |cons x r ih=>intro s;simp only [List.foldl_cons,ih,lY]
 exact this l fL
theorem zkX {l:List Int}{k:Nat}(h:k<l.length):mE (l.take (k+1))=dX (mE (l.take k)) (cK l k).toNat:=by
 unfold mE;rw [List.take_succ_eq_append_getElem h,dQ h,List.foldl_append];rfl
theorem Ws.get {ws:Ws}{i p:Nat}(h:i<ws.length)(hp:p=i):ws.cells[p]?=some (U (cK ws i)):=by
 subst hp;simp [cK,h]
theorem Ws.put {ws:Ws}{i p:Nat}{b:BitVec 64}(hp:p=i):ws.cells.set p (U b)=Ws.cells (ws.set i b):=by
 subst hp;simp [List.map_set]
theorem zjh (a:BitVec 64)(j:Nat):decide (((((a >>> j) &&& 1#64).toNat:Nat):Int)=1)=a.getLsbD j:=by
 rw [BitVec.toNat_and,BitVec.toNat_ushiftRight]
 show decide ((((a.toNat >>> j &&& 1):Nat):Int)=1)=a.toNat.testBit j
 rw [Nat.and_one_is_mod,Nat.testBit,Nat.and_comm,Nat.and_one_is_mod];rcases Nat.mod_two_eq_zero_or_one (a.toNat >>> j) with h|h <;> rw [h] <;> rfl
theorem zgA {ws:Ws}{i j:Nat}(hl:ws.length=8)(hi:i<512)(hj:j<512):eO (dX ws i) j=(eO ws j||decide (i=j)):=by
 unfold eO dX cK;simp only [List.getD_eq_getElem?_getD];by_cases h:i / 64=j / 64
 ·rw [h,List.getElem?_set_self a5];simp only [Option.getD_some,BitVec.getLsbD_or,BitVec.getLsbD_shiftLeft];by_cases h2:i=j
  ·subst h2;have hm:i % 64<64:=Nat.mod_lt _ a6;simp [hm]
  ·(have hm:¬i % 64=j % 64:=by omega);rw [decide_eq_false h2,Bool.or_false]
   have:(decide (j % 64<64)&& !decide (j % 64<i % 64)&&(1#64).getLsbD (j % 64 - i % 64))=false:=by
    by_cases h3:j % 64<i % 64
    ·simp [h3]
    ·rw [show (1#64).getLsbD (j % 64 - i % 64)=false from by rw [BitVec.getLsbD_one];simp;omega];simp
   rw [this,Bool.or_false]
 ·rw [List.getElem?_set_ne h,decide_eq_false (by intro hh;subst hh;exact h rfl),Bool.or_false]
theorem zdY (j:Nat):eO fL j=false:=by
 unfold eO fL cK;rw [List.getD_eq_getElem?_getD,List.getElem?_replicate]
 split
 ·simp
 ·exact BitVec.getLsbD_zero
theorem ziZ (l:List Int)(hl:∀x∈l,0≤x∧x≤511)(j:Int):jU (mE l) j=true↔j∈l:=by
 have key:∀(l:List Int) (s:Ws),s.length=8→(∀x∈l,0≤x∧x≤511)→∀j:Nat,j<512→(eO (l.foldl (fun s i=>dX s i.toNat) s) j=true↔eO s j=true∨(j:Int)∈l):=by
  intro l
  induction l with
  |nil=>intro s _ _ j _;simp
  |cons x r ih=>
   intro s hs hx j hj;have h1:=hx x a8;rw [List.foldl_cons,ih _ (by rw [lY,hs]) (fun y hy=>hx y (by simp [hy])) j hj,zgA hs a5 hj];simp only [Bool.or_eq_true,decide_eq_true_eq,List.mem_cons];constructor
   ·rintro ((h|h)|h)
    ·exact .inl h
    ·exact .inr (.inl a5)
    ·exact .inr (.inr h)
   ·rintro (h|h|h)
    ·exact .inl (.inl h)
    ·exact .inl (.inr a5)
    ·exact .inr h
 unfold jU inB;by_cases h:0≤j∧j≤511
 ·rw [decide_eq_true h.1,decide_eq_true h.2,Bool.and_true,Bool.true_and,show eO (mE l) j.toNat=true↔_ from key l fL (by rfl) hl j.toNat a5,zdY,Int.toNat_of_nonneg h.1];simp
 ·constructor
  ·intro hh;simp only [Bool.and_eq_true,decide_eq_true_eq] at hh;exact absurd hh.1 h
  ·intro hm;exact absurd (hl j hm) h
def Pb.has (P:Pb)(i:Int):Bool:=jU (mE (P.ds.map (·.st))) i
def Pb.ok (P:Pb):Bool:=gk Dx.ok P.ds&&(P.rulesOk&&(fR (fun a b=>dR a.st b.st) P.ds&&(gk (fun x:Pr=>P.has x.a&&P.has x.b) P.ps&&(gk (fun x:Ld=>P.has x.to&&P.has x.fr) P.ls&&gk (fun x:Cp=>P.has x.st) P.cs))))
theorem zfu {α:Type}[Inhabited α]{q:α→Bool}{xs:List α}:gk q xs=true↔∀k,k<xs.length→q (cK xs k)=true:=by
 unfold gk;rw [List.all_eq_true];simp only [List.mem_range]
theorem ex {α:Type}[Inhabited α]{q:α→Bool}{xs:List α}:gk q xs=true↔∀x∈xs,q x=true:=by
 rw [zfu];constructor
 ·intro h x hx;obtain ⟨k,hk,rfl⟩:=List.mem_iff_getElem.1 hx;rw [←dQ hk];exact h k hk
 ·intro h k hk;exact h _ (i6 hk)
theorem kU {α:Type}[Inhabited α]{c:α→α→Int}{xs:List α}:fR c xs=true↔∀k,k+1<xs.length→c (cK xs k) (cK xs (k+1))<0:=by
 unfold fR;rw [List.all_eq_true];simp only [List.mem_range];constructor
 ·intro h k hk;have:=h (k+1) hk;simp at this;omega
 ·intro h k hk
  cases k with
  |zero=>rfl
  |succ k=>have:=h k hk;simp;omega
theorem kP {a b:Int}:dR a b<0↔a<b:=by unfold dR;split <;> (try split) <;> omega
theorem zmb {α:Type}[Inhabited α]{f:α→Int}{xs:List α}(hi:fR (fun a b=>dR (f a) (f b)) xs=true)(h0:∀x∈xs,0≤f x):∀k,k<xs.length→(k:Int)≤f (cK xs k)
 |0,h=>h0 _ (i6 h)
 |k+1,h=>by
  have h1:=zmb hi h0 k a5;have h2:=kP.1 (kU.1 hi k h);omega
theorem zmn {xs:List Dx}(hi:fR (fun a b:Dx=>dR a.st b.st) xs=true)(hr:gk Dx.ok xs=true):xs.length≤512:=by
 have hst:∀x∈xs,0≤x.st∧x.st≤511:=fun x hx=>by
  have:=ex.1 hr x hx;simp only [Dx.ok,inB,Bool.and_eq_true,decide_eq_true_eq] at this;exact this.1
 rcases Nat.lt_or_ge 512 xs.length with h|h
 ·have h1:=zmb (f:=Dx.st) hi (fun x hx=>(hst x hx).1) 512 h;have h2:=hst _ (i6 h);omega
 ·exact h
theorem zlm (c:Int)(w:World):Calls Tryz.prog 130 #[.int .i64 c] w fun e w'=>e= .returned (.bool (inB c 2 51))∧Below w.heap.size w w':=by
 refine dv (M:=fun _=>False) (hs:=[]) Tryz.func130 rfl rfl rfl (Hp.refl _ _) ?_;refine gu ?_;refine j9 ?_; (refine cO (Wt.none) rfl rfl (cN rfl rfl rfl (fun w hw=>zdt _ _ _ _)) ?_;rintro _ _ ⟨rfl,rfl⟩);refine fO ?_;refine cZ rfl rfl (fun w' hw=>⟨?_,hw.isBelow⟩)
 rfl
theorem zhx (d:Dx)(w:World)(h:zhf w d.v d.chs)(hl:d.chs.length≤9223372036854775807):Calls Tryz.prog 104 #[.agg (Dx.cells d).toArray] w fun e w'=>e= .returned (.bool d.ok)∧Below w.heap.size w w':=by
 haveI:=h.one;refine dv (M:=fun _=>False) (hs:=[]) Tryz.func104 rfl rfl rfl (Hp.refl _ _) ?_;simp only [Dx.cells];refine dq ?_; (refine cO (Wt.none) rfl rfl (dI) ?_;rintro _ _ ⟨g1,rfl,rfl⟩);refine ig ?_;refine ig ?_;refine ei ?_; (refine cO (Wt.none) rfl rfl (cN rfl rfl rfl (fun w hw=>zcn _ _)) ?_;rintro _ _ ⟨rfl,rfl⟩);refine df ?_;refine du rfl rfl rfl (fun h1=>?_) (fun h1=>?_)
 ·have p1:=h1; (try simp only [cY] at p1);refine q0G ?_;refine kh ?_; (refine cO (Wt.some rfl rfl rfl h1) rfl rfl (cN rfl rfl rfl (fun w hw=>znO (q:=fun c=>inB c 2 51) d.chs _ _ #[] w (h.kept hw) (fun k hk w1 hb=>zlm _ w1) hl)) ?_;rintro _ _ ⟨rfl,rfl⟩);refine lx ?_;refine df ?_;refine du rfl rfl rfl (fun h2=>?_) (fun h2=>?_)
  ·have p2:=h2; (try simp only [cY] at p2);refine nq ?_; (refine cO (Wt.some rfl rfl rfl h2) rfl rfl (cN rfl rfl rfl (fun w hw=>zh5 (c:=dR) d.chs _ _ w (h.kept hw) (fun x y w1=>lr x y w1) hl)) ?_;rintro _ _ ⟨rfl,rfl⟩);refine q2O ?_;refine fO ?_;refine cZ rfl rfl (fun w' hw=>⟨?_,hw.isBelow⟩);exact q4Z
  ·have p2:=h2; (try simp only [cY] at p2);refine q0k ?_;refine q4o ?_;refine fO ?_;refine cZ rfl rfl (fun w' hw=>⟨?_,hw.isBelow⟩);exact q4Z
 ·have p1:=h1; (try simp only [cY] at p1);refine ku ?_;refine ku ?_;refine q27 ?_;refine TL.run 6 rfl ?_;refine gH ?_;refine cZ rfl rfl (fun w' hw=>⟨?_,hw.isBelow⟩);exact q4Z
theorem ziu (x y:Dx)(hx:OneC x.v)(hy:OneC y.v)(w:World):Calls Tryz.prog 106 #[.agg (Dx.cells x).toArray, .agg (Dx.cells y).toArray] w fun e w'=>e= .returned (.int .i64 (dR x.st y.st))∧Below w.heap.size w w':=by
 refine dv (M:=fun _=>False) (hs:=[]) Tryz.func106 rfl rfl rfl (Hp.refl _ _) ?_;simp only [Dx.cells];refine dq ?_; (refine cO (Wt.none) rfl rfl (dI) ?_;rintro _ _ ⟨g2,rfl,rfl⟩); (refine cO (Wt.none) rfl rfl (dI) ?_;rintro _ _ ⟨g3,rfl,rfl⟩);refine ig ?_;refine jZ ?_;refine ei ?_; (refine cO (Wt.none) rfl rfl (cN rfl rfl rfl (fun w hw=>lr _ _ _)) ?_;rintro _ _ ⟨rfl,rfl⟩);refine fO ?_;refine cZ rfl rfl (fun w' hw=>⟨?_,hw.isBelow⟩)
 rfl
theorem zhr (P:Pb)(vp vl vc:Value)(w:World)(h:RulesAt w vp vl vc P):Calls Tryz.prog 105 #[.agg [vp,vl,vc].toArray] w fun e w'=>e= .returned (.bool P.rulesOk)∧Below w.heap.size w w':=by
 obtain ⟨A1,cap1,rfl, -⟩:=h.ps.op;obtain ⟨A2,cap2,rfl, -⟩:=h.ls.op;obtain ⟨A3,cap3,rfl, -⟩:=h.cs.op;refine dv (M:=fun _=>False) (hs:=[]) Tryz.func105 rfl rfl rfl (Hp.refl _ _) ?_;refine dq ?_; (refine cO (Wt.none) rfl rfl (dI) ?_;rintro _ _ ⟨g1,rfl,rfl⟩);refine ig ?_;refine ei ?_;refine mJ ?_;refine eg ?_;refine du rfl rfl rfl (fun h1=>?_) (fun h1=>?_)
 ·have p1:=h1; (try simp only [cY] at p1);refine q0G ?_; (refine cO (Wt.some rfl rfl rfl h1) rfl rfl (cN rfl rfl rfl (fun w hw=>zmH (q:=Pr.ok) P.ps _ 131 #[] w (h.ps.kept hw) (fun k hk w1 hb=>zjc _ w1) h.hps)) ?_;rintro _ _ ⟨rfl,rfl⟩);refine lx ?_;refine df ?_;refine du rfl rfl rfl (fun h2=>?_) (fun h2=>?_)
  ·have p2:=h2; (try simp only [cY] at p2);refine nq ?_; (refine cO (Wt.some rfl rfl rfl h2) rfl rfl (cN rfl rfl rfl (fun w hw=>zjr (c:=Pr.cmp) P.ps _ 133 w (h.ps.kept hw) (fun x y w1=>zgm x y w1) h.hps)) ?_;rintro _ _ ⟨rfl,rfl⟩);refine q2O ?_;refine df ?_;refine du rfl rfl rfl (fun h3=>?_) (fun h3=>?_)
   ·have p3:=h3; (try simp only [cY] at p3);refine q0U ?_;refine c7 (Wt.some rfl rfl rfl h3) rfl rfl (iJ rfl rfl) ?_;refine q1V ?_;refine q3U ?_;refine df ?_;refine du rfl rfl rfl (fun h4=>?_) (fun h4=>?_)
    ·have p4:=h4; (try simp only [cY] at p4);refine q0V ?_; (refine cO (Wt.some rfl rfl rfl h4) rfl rfl (cN rfl rfl rfl (fun w hw=>zl9 (q:=Ld.ok) P.ls _ 134 #[] w (h.ls.kept hw) (fun k hk w1 hb=>ziY _ w1) h.hls)) ?_;rintro _ _ ⟨rfl,rfl⟩);refine cM (eT rfl rfl h4) ?_;refine df ?_;refine du rfl rfl rfl (fun h5=>?_) (fun h5=>?_)
     ·have p5:=h5; (try simp only [cY] at p5);refine c7 (Wt.some rfl rfl rfl h5) rfl rfl (Yv.fieldAddr) ?_;refine c7 (Wt.some rfl rfl rfl h5) rfl rfl (c9 0) ?_; (refine cO (Wt.some rfl rfl rfl h5) rfl rfl (cN rfl rfl rfl (fun w hw=>zi0 (c:=Ld.cmp) P.ls _ 136 w (h.ls.kept hw) (fun x y w1=>zgt x y w1) h.hls)) ?_;rintro _ _ ⟨rfl,rfl⟩);refine cM (eT rfl rfl h5) ?_;refine df ?_;refine du rfl rfl rfl (fun h6=>?_) (fun h6=>?_)
      ·have p6:=h6; (try simp only [cY] at p6);refine c7 (Wt.some rfl rfl rfl h6) rfl rfl (Yv.fieldAddr) ?_;refine c7 (Wt.some rfl rfl rfl h6) rfl rfl (c9 0) ?_;refine c7 (Wt.some rfl rfl rfl h6) rfl rfl (iJ rfl rfl) ?_;refine c7 (Wt.some rfl rfl rfl h6) rfl rfl (d5) ?_;refine cM (eT rfl rfl h6) ?_;refine df ?_;refine du rfl rfl rfl (fun h7=>?_) (fun h7=>?_)
       ·have p7:=h7; (try simp only [cY] at p7);refine q35 ?_; (refine cO (Wt.some rfl rfl rfl h7) rfl rfl (cN rfl rfl rfl (fun w hw=>zlN (q:=Cp.ok) P.cs _ 137 #[] w (h.cs.kept hw) (fun k hk w1 hb=>zj4 _ w1) h.hcs)) ?_;rintro _ _ ⟨rfl,rfl⟩);refine cM (eT rfl rfl h7) ?_;refine df ?_;refine du rfl rfl rfl (fun h8=>?_) (fun h8=>?_)
        ·have p8:=h8; (try simp only [cY] at p8);refine q36 ?_; (refine cO (Wt.some rfl rfl rfl h8) rfl rfl (cN rfl rfl rfl (fun w hw=>zjj (c:=Cp.cmp) P.cs _ 139 w (h.cs.kept hw) (fun x y w1=>zg7 x y w1) h.hcs)) ?_;rintro _ _ ⟨rfl,rfl⟩);refine cM (eT rfl rfl h8) ?_;refine fO ?_;refine cZ rfl rfl (fun w' hw=>⟨?_,hw.isBelow⟩);exact q4z
        ·have p8:=h8; (try simp only [cY] at p8);refine q1m ?_;refine cM (eu rfl rfl h8) ?_;refine fO ?_;refine cZ rfl rfl (fun w' hw=>⟨?_,hw.isBelow⟩);exact q4z
       ·have p7:=h7; (try simp only [cY] at p7);refine q1M ?_;refine TL.off (Wt.not rfl rfl rfl h7) rfl rfl ?_;refine cM (eu rfl rfl h7) ?_;refine TL.run 6 rfl ?_;refine gH ?_;refine cZ rfl rfl (fun w' hw=>⟨?_,hw.isBelow⟩);exact q4z
      ·have p6:=h6; (try simp only [cY] at p6);refine q08 ?_;refine q08 ?_;refine cM (eu rfl rfl h6) ?_;refine TL.run 11 rfl ?_;refine gH ?_;refine cZ rfl rfl (fun w' hw=>⟨?_,hw.isBelow⟩);exact q4z
     ·have p5:=h5; (try simp only [cY] at p5);refine q1N ?_;refine TL.off (Wt.not rfl rfl rfl h5) rfl rfl ?_;refine cM (eu rfl rfl h5) ?_;refine TL.run 17 rfl ?_;refine gH ?_;refine cZ rfl rfl (fun w' hw=>⟨?_,hw.isBelow⟩);exact q4z
    ·have p4:=h4; (try simp only [cY] at p4);refine q0q ?_;refine cM (eu rfl rfl h4) ?_;refine TL.run 22 rfl ?_;refine gH ?_;refine cZ rfl rfl (fun w' hw=>⟨?_,hw.isBelow⟩);exact q4z
   ·have p3:=h3; (try simp only [cY] at p3);refine q3p ?_;refine TL.run 27 rfl ?_;refine gH ?_;refine cZ rfl rfl (fun w' hw=>⟨?_,hw.isBelow⟩);exact q4z
  ·have p2:=h2; (try simp only [cY] at p2);refine q0k ?_;refine q4o ?_;refine TL.run 33 rfl ?_;refine gH ?_;refine cZ rfl rfl (fun w' hw=>⟨?_,hw.isBelow⟩);exact q4z
 ·have p1:=h1; (try simp only [cY] at p1);refine q1o ?_;refine TL.run 38 rfl ?_;refine gH ?_;refine cZ rfl rfl (fun w' hw=>⟨?_,hw.isBelow⟩);exact q4z
theorem zfc (i:Int)(w:World):Calls Tryz.prog 78 #[.int .i64 i] w fun e w'=>e= .returned (.bool (inB i 0 511))∧Below w.heap.size w w':=by
 refine dv (M:=fun _=>False) (hs:=[]) Tryz.func78 rfl rfl rfl (Hp.refl _ _) ?_;refine dq ?_;refine TL.run 1 rfl ?_;refine d8 ?_;refine TL.run 3 rfl ?_;refine du rfl rfl rfl (fun h1=>?_) (fun h1=>?_)
 ·have p1:=h1; (try simp only [cY] at p1);refine c7 (Wt.some rfl rfl rfl h1) rfl rfl (d5 rfl) ?_;refine c7 (Wt.some rfl rfl rfl h1) rfl rfl (d5 rfl) ?_;refine cM (eT rfl rfl h1 rfl) ?_;refine TL.run 1 rfl ?_;refine db (T.ret ?_);refine cZ rfl rfl (fun w' hw=>⟨?_,hw.isBelow⟩);refine kr ?_;simp only [inB, *,Bool.not_true,Bool.not_false,Bool.or_false,Bool.false_or,Bool.or_true,Bool.true_or,Bool.and_false,Bool.false_and,Bool.true_and,Bool.and_true,Bool.or_self,Bool.and_self,Bool.not_not,decide_true,decide_false,not_true_eq_false,not_false_eq_true,cond_true,cond_false]; (try exact decide_eq_decide.2 (by omega))
 ·have p1:=h1; (try simp only [cY] at p1);refine TL.off (Wt.not rfl rfl rfl h1) rfl rfl ?_;refine TL.off (Wt.not rfl rfl rfl h1) rfl rfl ?_;refine cM (eu rfl rfl h1 rfl) ?_;refine TL.run 1 rfl ?_;refine db (T.ret ?_);refine cZ rfl rfl (fun w' hw=>⟨?_,hw.isBelow⟩);refine kr ?_;simp only [inB, *,Bool.not_true,Bool.not_false,Bool.or_false,Bool.false_or,Bool.or_true,Bool.true_or,Bool.and_false,Bool.false_and,Bool.true_and,Bool.and_true,Bool.or_self,Bool.and_self,Bool.not_not,decide_true,decide_false,not_true_eq_false,not_false_eq_true,cond_true,cond_false]; (try exact decide_eq_decide.2 (by omega))
theorem zgY (ws:Ws)(hws:ws.length=8)(i:Int)(w:World):Calls Tryz.prog 43 #[.agg ws.cells.toArray, .int .i64 i] w fun e w'=>e= .returned (.bool (jU ws i))∧Below w.heap.size w w':=by
 refine dv (M:=fun _=>False) (hs:=[]) Tryz.func43 rfl rfl rfl (Hp.refl _ _) ?_;refine dq ?_; (refine cO (Wt.none) rfl rfl (dI) ?_;rintro _ _ ⟨g2,rfl,rfl⟩);refine li ?_; (refine cO (Wt.none) rfl rfl (cN rfl rfl rfl (fun w hw=>zfc _ _)) ?_;rintro _ _ ⟨rfl,rfl⟩);refine df ?_;refine du rfl rfl rfl (fun h1=>?_) (fun h1=>?_)
 ·have p1:=h1; (try simp only [cY] at p1); (try simp only [inB,Bool.and_eq_true,decide_eq_true_eq] at p1); (try have hld:=Ws.get (ws:=ws) (i:=i.toNat / 64) (p:=0+0+i.toNat / 64*1) a5 a5);refine kh ?_;refine c7 (Wt.some rfl rfl rfl h1) rfl rfl (ke rfl rfl rfl a5) ?_;refine c7 (Wt.some rfl rfl rfl h1) rfl rfl (Yv.fieldAddr) ?_;refine c7 (Wt.some rfl rfl rfl h1) rfl rfl (d9 rfl rfl rfl (show i / 64=((i.toNat / 64:Nat):Int) from by omega) a5) ?_;refine c7 (Wt.some rfl rfl rfl h1) rfl rfl (c9 0 rfl rfl rfl hld) ?_;refine kh ?_;refine c7 (Wt.some rfl rfl rfl h1) rfl rfl (jC rfl rfl rfl a5) ?_;refine c7 (Wt.some rfl rfl rfl h1) rfl rfl (gn (i.toNat % 64) rfl rfl rfl a5 a5) ?_;refine c7 (Wt.some rfl rfl rfl h1) rfl rfl (gE (b:=1#64)) ?_;refine kh ?_;refine lx ?_;refine fO ?_;refine cZ rfl rfl (fun w' hw=>⟨?_,hw.isBelow⟩);exact q48
 ·have p1:=h1; (try simp only [cY] at p1); (try simp only [inB,Bool.and_eq_true,decide_eq_true_eq] at p1); (try have hld:=Ws.get (ws:=ws) (i:=i.toNat / 64) (p:=0+0+i.toNat / 64*1) a5 a5);refine ku ?_;refine ku ?_;refine ku ?_;refine ku ?_;refine ku ?_;refine q27 ?_;refine fO ?_;refine cZ rfl rfl (fun w' hw=>⟨?_,hw.isBelow⟩);exact q48
theorem zpY (l:List Int)(v:Value)(w:World)(h:zhf w v l)(hl:l.length≤9223372036854775807)(hr:∀x∈l,0≤x∧x≤511):Calls Tryz.prog 41 #[v] w fun e w'=>e= .returned (.tuple #[.agg (Ws.cells (mE l)).toArray, .int .i64 0])∧Below w.heap.size w w':=by
 obtain ⟨A,cap,rfl,hsl⟩:=h.op;refine dv (M:=fun _=>False) (hs:=[]) Tryz.func41 rfl rfl rfl (Hp.refl _ _) ?_;refine dq ?_; (refine cO (Wt.none) rfl rfl (Ew.alloc) ?_;rintro _ _ ⟨g2,rfl,rfl⟩);refine ig ?_; (refine cO (Wt.none) rfl rfl (Ew.alloc) ?_;rintro _ _ ⟨g4,rfl,rfl⟩);refine i5 ?_;refine df ?_;refine ki ?_;refine T.loop (ι:=Nat) (fun k=>[(2, .pointer (some ⟨g2,0,none⟩)),(4, .pointer (some ⟨g4,0,none⟩)),(7, .slice A l.length cap),(8, .int .i64 (l.length:Int)),(9, .int .i64 (k:Int))]) (fun k=>[.row g4 83 (Ws.cells (mE (l.take k))), .row g2 83 (Ws.cells fL)]) (fun k=>k≤l.length) (fun k=>l.length - k) 0 ?_ ?_ ?_ ?_
 ·omega
 ·exact (by repeat (first|exact Sub.nil|refine Sub.cons rfl ?_))
 ·exact Sx
 ·intro k hphi;have hlen:=lX (l.take k); (have hsl8:(Ws.cells (mE (l.take k))).length=8:=by rw [List.length_map,hlen]);refine fh ?_;refine T.cond rfl (fun h1=>?_) (fun h1=>?_)
  ·have p1:=h1; (try simp only [cY] at p1);obtain ⟨g,off,rfl,hc⟩:=hsl a5;have hk:=hc k a5;simp only [Ie] at hk;have hr1:=hr _ (i6 (xs:=l) (k:=k) a5);have hld:=Ws.get (ws:=mE (l.take k)) (i:=(cK l k).toNat / 64) (p:=0+0+(cK l k).toNat / 64*1) a5 a5;refine fS ?_;refine q2b ?_;refine no ?_; (refine cO (Wt.none) rfl rfl (cN rfl rfl rfl (fun w hw=>zfc _ _)) ?_;rintro _ _ ⟨rfl,rfl⟩);refine dB ?_;refine iP rfl (by rw [inB,decide_eq_true hr1.1,decide_eq_true hr1.2];rfl) ?_;refine mP ?_;refine dM (sN 0 4 (sN 5 3 (.still 9 (.eff 4 (.still 8 (.still 10 (.eff 11 .done))))))) [.row g2 83 (Ws.cells fL)] a7 Sx ?_;refine fF ?_;refine cT rfl (ke rfl rfl rfl a5) ?_;refine gr ?_;refine cT rfl (d9 rfl rfl rfl (show (cK l k) / 64=(((cK l k).toNat / 64:Nat):Int) from by omega) a5) ?_;refine fF ?_;refine cT rfl (jC rfl rfl rfl a5) ?_;refine cT rfl (im (a:=1#64) ((cK l k).toNat % 64) rfl rfl rfl a5 a5) ?_;refine lB ?_;refine eQ rfl (Wt.none) rfl rfl (c9 0 rfl rfl rfl hld) Sx ?_;refine cT rfl (jf) ?_;refine cT rfl (d9 rfl rfl rfl (show (cK l k) / 64=(((cK l k).toNat / 64:Nat):Int) from by omega) a5) ?_;refine dD ?_; (refine dL rfl (Wt.none) rfl (iI 0 (Ws.cells (dX (mE (l.take k)) (cK l k).toNat)) rfl rfl rfl rfl (by rw [List.length_map,hlen];omega) (Ws.put a5)) ?_;rintro _ _ ⟨rfl,rfl⟩;refine ⟨Sx,?_⟩);refine q1z ?_;exact K.next (k+1) a5 a5 (by repeat (first|exact Sub.nil|refine Sub.cons rfl ?_)) (by rw [zkX a5];exact Sx)
  ·have p1:=h1; (try simp only [cY] at p1);refine q04 ?_;refine cM (d7 0 rfl rfl rfl hsl8) ?_; (refine dN (Wt.none) rfl (dx 1 rfl rfl rfl rfl (by rw [List.length_map,lX]) (by rw [List.length_map,lX];rfl)) ?_;rintro _ _ ⟨rfl,rfl⟩);refine fO ?_;exact iT 1 rfl rfl rfl rfl (by rw [List.length_map,lX]) (fun w' hw=>⟨by rw [List.take_of_length_le a5],hw.isBelow⟩)
def ga (f:Nat→Value)(z:Value)(n k:Nat):List Value:=(List.range k).map f++List.replicate (n - k) z
theorem zfq {f:Nat→Value}{z:Value}{n k:Nat}(h:k≤n):(ga f z n k).length=n:=by simp [ga];omega
theorem zfo {f:Nat→Value}{z:Value}{n k p:Nat}(h:k<n)(hp:p=k):(ga f z n k).set p (f k)=ga f z n (k+1):=by
 subst hp;unfold ga;rw [List.set_append_right _ _ a8,show n - p=(n - (p+1))+1 by omega,List.replicate_succ,List.range_succ,List.map_append];simp
theorem zfn (z:Value)(n:Nat):(madeCells [z].toArray (n*1)).toList=ga (fun _=>z) z n 0:=by
 apply List.ext_getElem?;intro i;by_cases h:i<n
 ·simp [ga,madeCells,List.getElem?_replicate,Nat.mod_one,h]
 ·simp [ga,madeCells,List.getElem?_replicate,h]
theorem zi3 {α:Type}[Inhabited α]{xs:List α}{f:Nat→Value}{z:Value}(g:α→Int)(hf:∀j,f j= .int .i64 (g (cK xs j))){k:Nat}(hk:k=xs.length):ga f z xs.length k=(xs.map g).flatMap Ie:=by
 subst hk;unfold ga;apply List.ext_getElem?;intro i
 have e:(xs.map g).flatMap Ie=(xs.map g).map (fun z=>Value.int .i64 z):=by
  have:∀l:List Int,l.flatMap Ie=l.map (fun z=>Value.int .i64 z):=by
   intro l
   induction l with
   |nil=>rfl
   |cons x r ih=>simp [List.flatMap_cons,Ie,ih]
  exact this _
 rw [e];simp only [Nat.sub_self,List.replicate_zero,List.append_nil,List.getElem?_map,List.getElem?_range];by_cases h:i<xs.length
 ·simp [h,hf,cK]
 ·simp [h]
theorem zj8 (P:Pb)(vd vp vl vc:Value)(w:World)(h:ProbAt w vd vp vl vc P)(hn:P.ds.length≤512)(hr:∀d∈P.ds,0≤d.st∧d.st≤511):Calls Tryz.prog 109 #[.agg [vd,vp,vl,vc].toArray] w fun e w'=>e= .returned (.agg (Ws.cells (mE (P.ds.map (·.st)))).toArray)∧Below w.heap.size w w':=by
 obtain ⟨A,cap,rfl,hsl⟩:=h.ds.sl.op;obtain ⟨A1,cap1,rfl, -⟩:=h.ru.ps.op;obtain ⟨A2,cap2,rfl, -⟩:=h.ru.ls.op;obtain ⟨A3,cap3,rfl, -⟩:=h.ru.cs.op;refine dv (M:=fun _=>False) (hs:=[]) Tryz.func109 rfl rfl rfl (Hp.refl _ _) ?_;refine dq ?_; (refine cO (Wt.none) rfl rfl (dI) ?_;rintro _ _ ⟨g1,rfl,rfl⟩); (refine cO (Wt.none) rfl rfl (Ew.alloc) ?_;rintro _ _ ⟨g2,rfl,rfl⟩);refine d8 ?_;refine jZ ?_;refine mJ ?_; (refine cO (Wt.none) rfl rfl (Ew.makeSlice rfl rfl rfl rfl rfl a5 a5) ?_;rintro _ _ ⟨g11,rfl,rfl⟩);refine dB ?_;refine T.cut (gs:=[(2, .pointer (some ⟨g2,0,none⟩)),(3,(.slice (some ⟨g11,0,none⟩) P.ds.length P.ds.length))]) (hs':=[.sl (.slice (some ⟨g11,0,none⟩) P.ds.length P.ds.length) 3 1 P.ds.length ((P.ds.map (·.st)).flatMap Ie), .row g2 83 (Ws.cells fL)]) ?_ ?_
 ·skip;refine T.seq ?_;rw [zfn];refine fN ?_;refine mR ?_;refine ki ?_;refine T.loop (ι:=Nat) (fun k=>[(2, .pointer (some ⟨g2,0,none⟩)),(3,(.slice (some ⟨g11,0,none⟩) P.ds.length P.ds.length)),(13, .slice A P.ds.length cap),(14, .int .i64 (P.ds.length:Int)),(15, .int .i64 (k:Int))]) (fun k=>[.sl (.slice (some ⟨g11,0,none⟩) P.ds.length P.ds.length) 3 1 P.ds.length (ga (fun j=> .int .i64 (cK P.ds j).st) (.int .i64 0) P.ds.length k), .row g2 83 (Ws.cells fL)]) (fun k=>k≤P.ds.length) (fun k=>P.ds.length - k) 0 ?_ ?_ ?_ ?_
  ·omega
  ·exact (by repeat (first|exact Sub.nil|refine Sub.cons rfl ?_))
  ·exact Sx
  ·intro k hphi;refine fh ?_;refine T.cond rfl (fun h1=>?_) (fun h1=>?_)
   ·have p1:=h1; (try simp only [cY] at p1);obtain ⟨g,off,rfl,hc⟩:=hsl a5;have hk:=hc k a5;haveI:=(h.ds.at (k:=k) a5).one;simp only [Dx.cells] at hk;refine q4k ?_;refine mc ?_; (refine cO (Wt.none) rfl rfl (Ew.alloc) ?_;rintro _ _ ⟨g5,rfl,rfl⟩);refine df ?_; (refine dN (Wt.none) rfl (dx 0) ?_;rintro _ _ ⟨rfl,rfl⟩);refine db (T.region ?_);refine eg ?_;refine ei ?_;refine q0A ?_; (refine dN (Wt.none) rfl (fI 1 (ga (fun j=> .int .i64 (cK P.ds j).st) (.int .i64 0) P.ds.length (k+1)) rfl rfl rfl rfl (by rw [zfq a5];omega) (zfo a5 a5)) ?_;rintro _ _ ⟨rfl,rfl⟩);refine kA ?_;exact K.next (k+1) a5 a5 (by repeat (first|exact Sub.nil|refine Sub.cons rfl ?_)) Sx
   ·have p1:=h1; (try simp only [cY] at p1);refine eE ?_;exact K.at (by repeat (first|exact Sub.nil|refine Sub.cons rfl ?_)) (by rw [zi3 (fun d:Dx=>d.st) (fun _=>rfl) (show k=P.ds.length by omega)];exact Sx)
 ·skip;refine gu ?_; (refine cO (Wt.none) rfl rfl (cN rfl rfl rfl (fun w hw=>zpY (P.ds.map (·.st)) _ w (lN (enc:=Ie) (fun _=>rfl) hw 0 rfl a8) cH (by intro x hx;obtain ⟨d,hd,rfl⟩:=List.mem_map.1 hx;exact hr d hd))) ?_;rintro _ _ ⟨rfl,rfl⟩);refine eR ?_; (refine cO (Wt.none) rfl rfl (Ew.alloc) ?_;rintro _ _ ⟨g6,rfl,rfl⟩); (refine dN (Wt.none) rfl (dx 0 rfl rfl rfl rfl (by rw [List.length_map,lX]) (by rw [List.length_map,lX];rfl)) ?_;rintro _ _ ⟨rfl,rfl⟩);refine ig ?_;refine cM (d7 0 rfl rfl rfl (by rw [List.length_map,lX])) ?_; (refine dN (Wt.none) rfl (dx 2 rfl rfl rfl rfl (by rw [List.length_map,lX]) (by rw [List.length_map,List.length_map,lX];rfl)) ?_;rintro _ _ ⟨rfl,rfl⟩);refine gH ?_;exact lR 2 rfl rfl rfl (by rw [List.length_map,lX]) (fun w' hw=>⟨rfl,hw.isBelow⟩)
theorem zkb (x:Pr)(ws:Ws)(hws:ws.length=8)(p:Nat)(w:World)(hp:Cs w p 0 ws.cells):Calls Tryz.prog 111 #[.agg (Pr.cells x).toArray, .pointer (some ⟨p,0,none⟩)] w fun e w'=>e= .returned (.bool (jU ws x.a&&jU ws x.b))∧Below w.heap.size w w':=by
 refine dv (M:=fun _=>False) (hs:=[]) Tryz.func111 rfl rfl rfl (Hp.refl _ _) ?_;simp only [Pr.cells];refine dq ?_; (refine cO (Wt.none) rfl rfl (dI) ?_;rintro _ _ ⟨g2,rfl,rfl⟩);refine q3k ?_; (refine cO (Wt.none) rfl rfl (cN rfl rfl rfl (fun w hw=>zgY ws hws _ w)) ?_;rintro _ _ ⟨rfl,rfl⟩);refine df ?_;refine du rfl rfl rfl (fun h1=>?_) (fun h1=>?_)
 ·have p1:=h1; (try simp only [cY] at p1);refine c7 (Wt.some rfl rfl rfl h1) rfl rfl (iH rfl rfl hp (by rw [List.length_map,hws]) (fun h=>h)) ?_;refine q0G ?_; (refine cO (Wt.some rfl rfl rfl h1) rfl rfl (cN rfl rfl rfl (fun w hw=>zgY ws hws _ w)) ?_;rintro _ _ ⟨rfl,rfl⟩);refine lx ?_;refine fO ?_;refine cZ rfl rfl (fun w' hw=>⟨?_,hw.isBelow⟩);exact q4Q
 ·have p1:=h1; (try simp only [cY] at p1);refine ku ?_;refine ku ?_;refine q27 ?_;refine fO ?_;refine cZ rfl rfl (fun w' hw=>⟨?_,hw.isBelow⟩);exact q4Q
theorem zjV (x:Ld)(ws:Ws)(hws:ws.length=8)(p:Nat)(w:World)(hp:Cs w p 0 ws.cells):Calls Tryz.prog 113 #[.agg (Ld.cells x).toArray, .pointer (some ⟨p,0,none⟩)] w fun e w'=>e= .returned (.bool (jU ws x.to&&jU ws x.fr))∧Below w.heap.size w w':=by
 refine dv (M:=fun _=>False) (hs:=[]) Tryz.func113 rfl rfl rfl (Hp.refl _ _) ?_;simp only [Ld.cells];refine dq ?_; (refine cO (Wt.none) rfl rfl (dI) ?_;rintro _ _ ⟨g2,rfl,rfl⟩);refine q3k ?_; (refine cO (Wt.none) rfl rfl (cN rfl rfl rfl (fun w hw=>zgY ws hws _ w)) ?_;rintro _ _ ⟨rfl,rfl⟩);refine df ?_;refine du rfl rfl rfl (fun h1=>?_) (fun h1=>?_)
 ·have p1:=h1; (try simp only [cY] at p1);refine c7 (Wt.some rfl rfl rfl h1) rfl rfl (iH rfl rfl hp (by rw [List.length_map,hws]) (fun h=>h)) ?_;refine q0G ?_; (refine cO (Wt.some rfl rfl rfl h1) rfl rfl (cN rfl rfl rfl (fun w hw=>zgY ws hws _ w)) ?_;rintro _ _ ⟨rfl,rfl⟩);refine lx ?_;refine fO ?_;refine cZ rfl rfl (fun w' hw=>⟨?_,hw.isBelow⟩);exact q4Q
 ·have p1:=h1; (try simp only [cY] at p1);refine ku ?_;refine ku ?_;refine q27 ?_;refine fO ?_;refine cZ rfl rfl (fun w' hw=>⟨?_,hw.isBelow⟩);exact q4Q
theorem zkj (x:Cp)(ws:Ws)(hws:ws.length=8)(p:Nat)(w:World)(hp:Cs w p 0 ws.cells):Calls Tryz.prog 115 #[.agg (Cp.cells x).toArray, .pointer (some ⟨p,0,none⟩)] w fun e w'=>e= .returned (.bool (jU ws x.st))∧Below w.heap.size w w':=by
 refine dv (M:=fun _=>False) (hs:=[]) Tryz.func115 rfl rfl rfl (Hp.refl _ _) ?_;simp only [Cp.cells];refine dq ?_; (refine cO (Wt.none) rfl rfl (dI) ?_;rintro _ _ ⟨g2,rfl,rfl⟩);refine q3k ?_; (refine cO (Wt.none) rfl rfl (cN rfl rfl rfl (fun w hw=>zgY ws hws _ w)) ?_;rintro _ _ ⟨rfl,rfl⟩);refine fO ?_;refine cZ rfl rfl (fun w' hw=>⟨?_,hw.isBelow⟩);exact q4Q
theorem zg8 (P:Pb)(vd vp vl vc:Value)(w:World)(h:ProbAt w vd vp vl vc P):Calls Tryz.prog 72 #[.agg [vd,vp,vl,vc].toArray] w fun e w'=>e= .returned (.bool P.ok)∧Below w.heap.size w w':=by
 obtain ⟨A,cap,rfl,hsl⟩:=h.ds.sl.op;obtain ⟨A1,cap1,rfl, -⟩:=h.ru.ps.op;obtain ⟨A2,cap2,rfl, -⟩:=h.ru.ls.op;obtain ⟨A3,cap3,rfl, -⟩:=h.ru.cs.op;refine dv (M:=fun _=>False) (hs:=[]) Tryz.func72 rfl rfl rfl (Hp.refl _ _) ?_;refine dq ?_; (refine cO (Wt.none) rfl rfl (dI) ?_;rintro _ _ ⟨g1,rfl,rfl⟩);refine jN ?_;refine ei ?_; (refine cO (Wt.none) rfl rfl (cN rfl rfl rfl (fun w hw=>znP (q:=Dx.ok) P.ds _ 104 #[] w (h.ds.sl.kept hw) (fun k hk=>(h.ds.at hk).one) (fun k hk w1 hb=>zhx _ w1 (((h.ds.at hk).kept hw).kept (iq hb)) (h.hch _ (i6 hk))) h.hds)) ?_;rintro _ _ ⟨rfl,rfl⟩);refine eg ?_;refine du rfl rfl rfl (fun h1=>?_) (fun h1=>?_)
 ·have p1:=h1; (try simp only [cY] at p1);refine ku ?_;refine ku ?_;refine lx ?_;refine mU ?_;refine iN ?_;refine cZ rfl rfl (fun w' hw=>⟨?_,hw.isBelow⟩);exact q4F
 ·have p1:=h1; (try simp only [cY] at p1);refine c7 (Wt.some rfl rfl rfl h1) rfl rfl (Yv.fieldAddr) ?_;refine c7 (Wt.some rfl rfl rfl h1) rfl rfl (ny 0 (m:=[.slice A1 P.ps.length cap1, .slice A2 P.ls.length cap2, .slice A3 P.cs.length cap3]) rfl rfl rfl rfl rfl) ?_; (refine cO (Wt.some rfl rfl rfl h1) rfl rfl (cN rfl rfl rfl (fun w hw=>zhr P _ _ _ w (h.ru.kept hw))) ?_;rintro _ _ ⟨rfl,rfl⟩);refine kh ?_;refine q27 ?_;refine db ?_;refine T.cond rfl (fun h2=>?_) (fun h2=>?_)
  ·have p2:=h2; (try simp only [cY] at p2);refine iN ?_;refine cZ rfl rfl (fun w' hw=>⟨?_,hw.isBelow⟩);exact q4F
  ·have p2:=h2; (try simp only [cY] at p2);refine i7 ?_;refine jN ?_;refine q4e ?_; (refine cO (Wt.none) rfl rfl (cN rfl rfl rfl (fun w hw=>zh3 (c:=fun a b=>dR a.st b.st) P.ds _ 106 w (h.ds.sl.kept hw) (fun k hk=>(h.ds.at hk).one) (fun x y hx hy w1=>ziu x y hx hy w1) h.hds)) ?_;rintro _ _ ⟨rfl,rfl⟩);refine dB ?_;refine T.cond rfl (fun h3=>?_) (fun h3=>?_)
   ·have p3:=h3; (try simp only [cY] at p3);refine iN ?_;refine cZ rfl rfl (fun w' hw=>⟨?_,hw.isBelow⟩);exact q4F
   ·have p3:=h3; (try simp only [cY] at p3);refine i7 ?_;refine iv ?_; (have hall:gk Dx.ok P.ds=true:=by assumption); (have hinc:fR (fun a b:Dx=>dR a.st b.st) P.ds=true:=by assumption); (have hst:∀d∈P.ds,0≤d.st∧d.st≤511:=fun d hd=>by have:=ex.1 hall d hd;simp only [Dx.ok,inB,Bool.and_eq_true,decide_eq_true_eq] at this;exact this.1); (refine cO (Wt.none) rfl rfl (cN rfl rfl rfl (fun w hw=>zj8 P _ _ _ _ w (h.kept hw) (zmn hinc hall) hst)) ?_;rintro _ _ ⟨rfl,rfl⟩); (refine cO (Wt.none) rfl rfl (Ew.alloc) ?_;rintro _ _ ⟨g4,rfl,rfl⟩); (refine dN (Wt.none) rfl (dx 0 rfl rfl rfl rfl (by rw [List.length_map,lX]) (by rw [List.length_map,lX];rfl)) ?_;rintro _ _ ⟨rfl,rfl⟩);refine d8 ?_;refine fC ?_;refine jZ ?_;refine df ?_; (refine cO (Wt.none) rfl rfl (cN rfl rfl rfl (fun w hw=>zmH (q:=fun x:Pr=>P.has x.a&&P.has x.b) P.ps _ 111 #[.pointer (some ⟨g4,0,none⟩)] w (h.ru.ps.kept hw) (fun k hk w1 hb=>zkb _ _ (lX _) _ w1 (Cs.later hb (fE (c4.1 (hw.get (i:=0) rfl)) cG))) h.ru.hps)) ?_;rintro _ _ ⟨rfl,rfl⟩);refine df ?_;refine du rfl rfl rfl (fun h4=>?_) (fun h4=>?_)
    ·have p4:=h4; (try simp only [cY] at p4);refine c7 (Wt.some rfl rfl rfl h4) rfl rfl (Yv.fieldAddr) ?_;refine c7 (Wt.some rfl rfl rfl h4) rfl rfl (Yv.fieldAddr) ?_;refine c7 (Wt.some rfl rfl rfl h4) rfl rfl (c9 1) ?_;refine c7 (Wt.some rfl rfl rfl h4) rfl rfl (d5) ?_; (refine cO (Wt.some rfl rfl rfl h4) rfl rfl (cN rfl rfl rfl (fun w hw=>zl9 (q:=fun x:Ld=>P.has x.to&&P.has x.fr) P.ls _ 113 #[.pointer (some ⟨g4,0,none⟩)] w (h.ru.ls.kept hw) (fun k hk w1 hb=>zjV _ _ (lX _) _ w1 (Cs.later hb (fE (c4.1 (hw.get (i:=0) rfl)) cG))) h.ru.hls)) ?_;rintro _ _ ⟨rfl,rfl⟩);refine cM (eT rfl rfl h4) ?_;refine df ?_;refine du rfl rfl rfl (fun h5=>?_) (fun h5=>?_)
     ·have p5:=h5; (try simp only [cY] at p5);refine c7 (Wt.some rfl rfl rfl h5) rfl rfl (Yv.fieldAddr) ?_;refine c7 (Wt.some rfl rfl rfl h5) rfl rfl (Yv.fieldAddr) ?_;refine c7 (Wt.some rfl rfl rfl h5) rfl rfl (c9 1) ?_;refine c7 (Wt.some rfl rfl rfl h5) rfl rfl (d5) ?_; (refine cO (Wt.some rfl rfl rfl h5) rfl rfl (cN rfl rfl rfl (fun w hw=>zlN (q:=fun x:Cp=>P.has x.st) P.cs _ 115 #[.pointer (some ⟨g4,0,none⟩)] w (h.ru.cs.kept hw) (fun k hk w1 hb=>zkj _ _ (lX _) _ w1 (Cs.later hb (fE (c4.1 (hw.get (i:=0) rfl)) cG))) h.ru.hcs)) ?_;rintro _ _ ⟨rfl,rfl⟩);refine cM (eT rfl rfl h5) ?_;refine fO ?_;refine cZ rfl rfl (fun w' hw=>⟨?_,hw.isBelow⟩);exact q4F
     ·have p5:=h5; (try simp only [cY] at p5);refine q1N ?_;refine q1N ?_;refine TL.off (Wt.not rfl rfl rfl h5) rfl rfl ?_;refine cM (eu rfl rfl h5) ?_;refine fO ?_;refine cZ rfl rfl (fun w' hw=>⟨?_,hw.isBelow⟩);exact q4F
    ·have p4:=h4; (try simp only [cY] at p4);refine q2r ?_;refine TL.run 8 rfl ?_;refine gH ?_;refine cZ rfl rfl (fun w' hw=>⟨?_,hw.isBelow⟩);exact q4F
def jY (l:List Int):BitVec 64:=l.foldl (fun m c=>m ||| 1#64 <<< c.toNat) 0#64
theorem zjX {l:List Int}{k:Nat}(h:k<l.length):jY (l.take (k+1))=(jY (l.take k) ||| 1#64 <<< (cK l k).toNat):=by
 unfold jY;rw [List.take_succ_eq_append_getElem h,dQ h,List.foldl_append];rfl
def pop1 (a:BitVec 64):BitVec 64:=((a >>> 1) &&& 6148914691236517205#64)+(a &&& 6148914691236517205#64)
def pop2 (a:BitVec 64):BitVec 64:=((a >>> 2) &&& 3689348814741910323#64)+(a &&& 3689348814741910323#64)
def pop3 (a:BitVec 64):BitVec 64:=((a >>> 4)+a) &&& 1085102592571150095#64
def pop4 (k:Nat)(a:BitVec 64):BitVec 64:=a+(a >>> k)
def zmG (a:BitVec 64):Nat:=(pop4 32 (pop4 16 (pop4 8 (pop3 (pop2 (pop1 a))))) &&& 127#64).toNat
theorem zkA (a:BitVec 64):zmG a≤127:=by
 unfold zmG;rw [BitVec.toNat_and];exact Nat.and_le_right
theorem zlr (b:BitVec 64):BitVec.ofInt 64 (IntKind.i64.wrap (b.toNat:Int))=b:=by
 apply BitVec.eq_of_toNat_eq;rw [BitVec.toNat_ofInt,IntKind.wrap_i64];have:=b.isLt;omega
section
variable {P:Program}{n:Nat}{B D:World}{M:Nat→Prop}{fs:dY}{hs:HS}{o:Oper}{v:Value}
theorem Yv.cq {x:Operand}{a:BitVec 64}(ho:o.op= .convert 80 3 x)(hx:ev fs x=some (U a)):Yv Tryz.prog n B M fs hs o (.int .i64 (IntKind.i64.wrap (a.toNat:Int))):=fun f w ha _=>by
 (have hr:(convert 80 3 (U a)).run Tryz.prog w= .ok (.int .i64 (IntKind.i64.wrap (a.toNat:Int))) w:=by kernel_rfl);unfold execOp;simp only [ho,ha.ev hx];rw [Sem.run_bind,hr]
 rfl
theorem Yv.cc {x:Operand}{t u:TypeId}{a:BitVec 64}(ho:o.op= .binOp .and t x (.const (.int .i64 127)) u)(hx:ev fs x=some (.int .i64 (IntKind.i64.wrap (a.toNat:Int)))):Yv P n B M fs hs o (.int .i64 ((a &&& 127#64).toNat:Int)):=fun f w ha _=>by
 have hr:(binOp .and t (.int .i64 (IntKind.i64.wrap (a.toNat:Int))) (.int .i64 127)).run P w= .ok (.int .i64 ((a &&& 127#64).toNat:Int)) w:=by
  have e:(binOp .and t (.int .i64 (IntKind.i64.wrap (a.toNat:Int))) (.int .i64 127)).run P w= .ok (.int .i64 (IntKind.i64.wrap ((BitVec.ofInt 64 (IntKind.i64.wrap (a.toNat:Int)) &&& BitVec.ofInt 64 127).toNat:Int))) w:=rfl; (have hle:(a &&& 127#64).toNat≤127:=by rw [BitVec.toNat_and];exact Nat.and_le_right);rw [e,zlr,show BitVec.ofInt 64 127=127#64 from rfl,IntWalk.i64_in _ ⟨by omega,by omega⟩]
 unfold execOp;simp only [ho,ha.ev hx,ha.ev (x:= .const (.int .i64 127)) rfl];rw [Sem.run_bind,Sem.run_bind,show (eqGuard .and t x (.const (.int .i64 127)) (.int .i64 (IntKind.i64.wrap (a.toNat:Int))) (.int .i64 127)).run P w= .ok () w from rfl];simp only [Result.andThen,hr]
 rfl
end
theorem zny (a:BitVec 64)(w:World):Calls Tryz.prog 176 #[U a] w fun e w'=>e= .returned (.int .i64 (zmG a:Int))∧Below w.heap.size w w':=by
 refine dv (M:=fun _=>False) (hs:=[]) Tryz.func176 rfl rfl rfl (Hp.refl _ _) ?_;refine gu ?_;refine j9 ?_;refine cM (gn 1 rfl rfl rfl rfl a6) ?_;refine cM (gE (b:=6148914691236517205#64)) ?_;refine df ?_;refine cM (gE (b:=6148914691236517205#64)) ?_;refine cM (j3) ?_;refine li ?_;refine cM (gn 2 rfl rfl rfl rfl a6) ?_;refine cM (gE (b:=3689348814741910323#64)) ?_;refine df ?_;refine cM (gE (b:=3689348814741910323#64)) ?_;refine cM (j3) ?_;refine li ?_;refine cM (gn 4 rfl rfl rfl rfl a6) ?_;refine df ?_;refine cM (j3) ?_;refine cM (gE (b:=1085102592571150095#64)) ?_;refine ig ?_;refine eg ?_;refine cM (gn 8 rfl rfl rfl rfl a6) ?_;refine cM (j3) ?_;refine ig ?_;refine eg ?_;refine cM (gn 16 rfl rfl rfl rfl a6) ?_;refine cM (j3) ?_;refine ig ?_;refine eg ?_;refine cM (gn 32 rfl rfl rfl rfl a6) ?_;refine cM (j3) ?_;refine li ?_;refine cM (Yv.cq rfl rfl) ?_;refine cM (Yv.cc rfl rfl) ?_;refine fO ?_;refine cZ rfl rfl (fun w' hw=>⟨?_,hw.isBelow⟩)
 rfl
theorem zn4 (a:BitVec 64)(ha:a≠0#64)(w:World)(ht:Tab w):Calls Tryz.prog 175 #[U a] w fun e w'=>e= .returned (.int .i64 (ctz a:Int))∧Below w.heap.size w w':=by
 obtain ⟨hi,htab⟩:=zpB ha;have hcell:=ht _ hi;rw [htab] at hcell;have hlt:=ziE ha;refine dv (M:=fun _=>False) (hs:=[]) Tryz.func175 rfl rfl rfl (Hp.refl _ _) ?_;refine gu ?_;refine i5 ?_;refine jB ?_;refine iP rfl (by rw [zok];exact decide_eq_false ha) ?_;refine i7 ?_;refine eg ?_;refine cM (Yv.cy rfl rfl) ?_;refine cM (gE) ?_;refine cM (Yv.cx (b:=285870213051353865#64) rfl rfl rfl) ?_;refine cM (gn 58 rfl rfl rfl rfl a6) ?_;refine cM (d9 rfl rfl rfl rfl a5) ?_;refine cM (dV rfl rfl (by rw [show ∀x:Nat,0+x*1=x from fun x=>by omega];exact hcell) (fun h=>h)) ?_;refine cM (Yv.cm rfl rfl (by first|exact IntWalk.i64_in _ a5|exact IntWalk.u64_in _ a5|exact IntWalk.u8_in _ a5)) ?_;refine fO ?_;refine cZ rfl rfl (fun w' hw=>⟨?_,hw.isBelow⟩)
 rfl
theorem zno (l:List Int)(v:Value)(w:World)(h:zhf w v l)(hl:l.length≤9223372036854775807)(hr:∀x∈l,2≤x∧x≤51):Calls Tryz.prog 142 #[v] w fun e w'=>e= .returned (U (jY l))∧Below w.heap.size w w':=by
 obtain ⟨A,cap,rfl,hsl⟩:=h.op;refine dv (M:=fun _=>False) (hs:=[]) Tryz.func142 rfl rfl rfl (Hp.refl _ _) ?_;refine q3T ?_;refine no ?_;refine ki ?_;refine T.loop (ι:=Nat) (fun k=>[(3,U (jY (l.take k))),(6, .slice A l.length cap),(7, .int .i64 (l.length:Int)),(8, .int .i64 (k:Int))]) (fun k=>[]) (fun k=>k≤l.length) (fun k=>l.length - k) 0 ?_ ?_ ?_ ?_
 ·omega
 ·exact (by repeat (first|exact Sub.nil|refine Sub.cons rfl ?_))
 ·exact Sx
 ·intro k hphi;refine fh ?_;refine T.cond rfl (fun h1=>?_) (fun h1=>?_)
  ·have p1:=h1; (try simp only [cY] at p1);obtain ⟨g,off,rfl,hc⟩:=hsl a5;have hk:=hc k a5;simp only [Ie] at hk;have hr1:=hr _ (i6 (xs:=l) (k:=k) a5);refine fS ?_;refine q2b ?_;refine df ?_;refine db (T.region ?_);refine eg ?_;refine cM (im (a:=1#64) (cK l k).toNat rfl rfl rfl a5 a5) ?_;refine q3M ?_;exact K.next (k+1) a5 a5 (by rw [zjX a5];exact (by repeat (first|exact Sub.nil|refine Sub.cons rfl ?_))) Sx
  ·have p1:=h1; (try simp only [cY] at p1);refine q04 ?_;refine kv ?_;exact cZ rfl rfl (fun w' hw=>⟨by rw [List.take_of_length_le a5],hw.isBelow⟩)
end Go.Proofs.YtogbggmckmnlfaaGreatDoor
