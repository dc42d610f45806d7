/- A B C D: shortened and put together by squeeze.py. -/
import Derived.Test.YtgoeeefoinkepaaGreatDoorQ03
set_option maxRecDepth 100000
set_option maxHeartbeats 4000000
set_option linter.unusedVariables false
set_option linter.unusedSectionVars false
set_option linter.unusedSimpArgs false
namespace Go.Proofs.YtgoeeefoinkepaaGreatDoor
open Go.RowKit
def inB (n a b:Int):Bool:=decide (a≤n)&&decide (n≤b)
def eY (lo hi:Int):Bool:=decide (2≤lo)&&(decide (lo≤hi)&&decide (hi≤51))
def Ie (z:Int):List Value:=[.int .i64 z]
abbrev zgn (w:World)(v:Value)(l:List Int):Prop:=SlOf w v Ie 1 l
structure Dx where
 st:Int
 v:Value
 chs:List Int
instance:Inhabited Dx:=⟨⟨0, .slice none 0 0,[]⟩⟩
def Dx.cells (d:Dx):List Value:=[.int .i64 d.st,d.v]
structure Pr where
 a:Int
 b:Int
 off:Int
 lo:Int
 hi:Int
deriving DecidableEq,Inhabited
def Pr.cells (x:Pr):List Value:=[.int .i64 x.a, .int .i64 x.b, .int .i64 x.off, .int .i64 x.lo, .int .i64 x.hi]
structure Ld where
 to:Int
 fr:Int
 wt:Int
 lo:Int
 hi:Int
deriving DecidableEq,Inhabited
def Ld.cells (x:Ld):List Value:=[.int .i64 x.to, .int .i64 x.fr, .int .i64 x.wt, .int .i64 x.lo, .int .i64 x.hi]
structure Cp where
 st:Int
 mx:Int
 lo:Int
 hi:Int
deriving DecidableEq,Inhabited
def Cp.cells (x:Cp):List Value:=[.int .i64 x.st, .int .i64 x.mx, .int .i64 x.lo, .int .i64 x.hi]
structure Ch where
 st:Int
 ch:Int
deriving DecidableEq,Inhabited
def Ch.cells (x:Ch):List Value:=[.int .i64 x.st, .int .i64 x.ch]
abbrev PrsAt (w:World)(v:Value)(l:List Pr):Prop:=SlOf w v Pr.cells 5 l
abbrev LdsAt (w:World)(v:Value)(l:List Ld):Prop:=SlOf w v Ld.cells 5 l
abbrev CpsAt (w:World)(v:Value)(l:List Cp):Prop:=SlOf w v Cp.cells 4 l
structure DomsAt (w:World) (v:Value) (l:List Dx):Prop where
 sl:SlOf w v Dx.cells 2 l
 each:∀d∈l,zgn w d.v d.chs
theorem SlOf.one {α:Type}{w:World}{v:Value}{enc:α→List Value}{size:Nat}{xs:List α}(h:SlOf w v enc size xs):OneC v:=by
 obtain ⟨A,cap,rfl,_⟩:=h;exact inferInstance
theorem iR {α:Type}[Inhabited α]{xs:List α}{k:Nat}(h:k<xs.length):cH xs k∈xs:=by rw [d4 h];exact List.getElem_mem _
theorem DomsAt.at {w:World}{v:Value}{l:List Dx}(h:DomsAt w v l){k:Nat}(hk:k<l.length):zgn w (cH l k).v (cH l k).chs:=h.each _ (iR hk)
theorem DomsAt.kept {B w:World}{hs:HS}{v:Value}{l:List Dx}(hw:Hp B (fun _=>False) hs w)(h:DomsAt B v l):DomsAt w v l:=⟨h.sl.kept hw,fun d hd=>(h.each d hd).kept hw⟩
structure Pb where
 ds:List Dx
 ps:List Pr
 ls:List Ld
 cs:List Cp
structure RulesAt (w:World) (vp vl vc:Value) (P:Pb):Prop where
 ps:PrsAt w vp P.ps
 ls:LdsAt w vl P.ls
 cs:CpsAt w vc P.cs
 hps:P.ps.length≤9223372036854775807
 hls:P.ls.length≤9223372036854775807
 hcs:P.cs.length≤9223372036854775807
structure ProbAt (w:World) (vd vp vl vc:Value) (P:Pb):Prop where
 ds:DomsAt w vd P.ds
 ru:RulesAt w vp vl vc P
 hds:P.ds.length≤9223372036854775807
 hch:∀d∈P.ds,d.chs.length≤9223372036854775807
theorem RulesAt.kept {B w:World}{hs:HS}{vp vl vc:Value}{P:Pb}(hw:Hp B (fun _=>False) hs w)(h:RulesAt B vp vl vc P):RulesAt w vp vl vc P:=⟨h.ps.kept hw,h.ls.kept hw,h.cs.kept hw,h.hps,h.hls,h.hcs⟩
theorem ProbAt.kept {B w:World}{hs:HS}{vd vp vl vc:Value}{P:Pb}(hw:Hp B (fun _=>False) hs w)(h:ProbAt B vd vp vl vc P):ProbAt w vd vp vl vc P:=⟨h.ds.kept hw,h.ru.kept hw,h.hds,h.hch⟩
def dC (a b:Int):Int:=if a<b then -1 else if b<a then 1 else 0
def fg {α:Type}[Inhabited α](c:α→α→Int)(xs:List α):Bool:=(List.range xs.length).all fun k=>decide (k=0)|| !decide (0≤c (cH xs (k - 1)) (cH xs k))
def fm {α:Type}[Inhabited α](q:α→Bool)(xs:List α):Bool:=(List.range xs.length).all fun k=>q (cH xs k)
def kg:List Int→Int
 | []=>0
 |x :: r=>if x=0 then kg r else x
theorem zjX {l:List Int}{k:Nat}(h:k<l.length):kg (l.drop k)=if cH l k=0 then kg (l.drop (k+1)) else cH l k:=by
 rw [List.drop_eq_getElem_cons h,d4 h];rfl
theorem zc6 (n a b:Int)(w:World):Calls Tryz.prog 60 #[.int .i64 n, .int .i64 a, .int .i64 b] w fun e w'=>e= .returned (.bool (inB n a b))∧Below w.heap.size w w':=by
 refine dB (M:=fun _=>False) (hs:=[]) Tryz.func60 rfl rfl rfl (Hp.refl _ _) ?_;refine ic ?_;refine dq ?_;refine TL.run 4 rfl ?_;refine dp rfl rfl rfl (fun h1=>?_) (fun h1=>?_)
 ·have p1:=h1; (try simp only [cT] at p1);refine jT ?_;refine jT ?_;refine jT ?_;refine kH ?_;refine fB ?_;refine cU rfl rfl (fun w' hw=>⟨?_,hw.isBelow⟩);exact q4y
 ·have p1:=h1; (try simp only [cT] at p1);refine q1i ?_;refine fB ?_;refine cU rfl rfl (fun w' hw=>⟨?_,hw.isBelow⟩);exact q4y
theorem zb4 (n:Int)(w:World):Calls Tryz.prog 59 #[.int .i64 n] w fun e w'=>e= .returned (.bool (inB n 0 511))∧Below w.heap.size w w':=by
 refine dB (M:=fun _=>False) (hs:=[]) Tryz.func59 rfl rfl rfl (Hp.refl _ _) ?_;refine l5 ?_; (refine cM (Wt.none) rfl rfl (cL rfl rfl rfl (fun w hw=>zc6 _ _ _ _)) ?_;rintro _ _ ⟨rfl,rfl⟩);refine fB ?_;refine cU rfl rfl (fun w' hw=>⟨?_,hw.isBelow⟩)
 rfl
theorem zeA (lo hi:Int)(w:World):Calls Tryz.prog 110 #[.int .i64 lo, .int .i64 hi] w fun e w'=>e= .returned (.bool (eY lo hi))∧Below w.heap.size w w':=by
 refine dB (M:=fun _=>False) (hs:=[]) Tryz.func110 rfl rfl rfl (Hp.refl _ _) ?_;refine ic ?_;refine dq ?_;refine fb ?_;refine dp rfl rfl rfl (fun h1=>?_) (fun h1=>?_)
 ·have p1:=h1; (try simp only [cT] at p1);refine jT ?_;refine jT ?_;refine jT ?_;refine kH ?_;refine dc ?_;refine dp rfl rfl rfl (fun h2=>?_) (fun h2=>?_)
  ·have p2:=h2; (try simp only [cT] at p2);refine mp ?_;refine mp ?_;refine q2E ?_;refine fB ?_;refine cU rfl rfl (fun w' hw=>⟨?_,hw.isBelow⟩);exact q4m
  ·have p2:=h2; (try simp only [cT] at p2);refine q1M ?_;refine fB ?_;refine cU rfl rfl (fun w' hw=>⟨?_,hw.isBelow⟩);exact q4m
 ·have p1:=h1; (try simp only [cT] at p1);refine q1i ?_;refine TL.run 5 rfl ?_;refine gM ?_;refine cU rfl rfl (fun w' hw=>⟨?_,hw.isBelow⟩);exact q4m
theorem zhW (n:Int)(w:World):Calls Tryz.prog 90 #[.int .i64 n] w fun e w'=>e= .returned (.bool false)∧Below w.heap.size w w':=by
 refine dB (M:=fun _=>False) (hs:=[]) Tryz.func90 rfl rfl rfl (Hp.refl _ _) ?_;refine ic ?_;refine dq ?_;refine TL.run 4 rfl ?_;refine gM ?_;refine cU rfl rfl (fun w' hw=>⟨?_,hw.isBelow⟩);exact j0 b2
theorem kI (a b:Int)(w:World):Calls Tryz.prog 49 #[.int .i64 a, .int .i64 b] w fun e w'=>e= .returned (.int .i64 (dC a b))∧Below w.heap.size w w':=by
 refine dB (M:=fun _=>False) (hs:=[]) Tryz.func49 rfl rfl rfl (Hp.refl _ _) ?_;refine l5 ?_; (refine cM (Wt.none) rfl rfl (cL rfl rfl rfl (fun w hw=>zhW _ _)) ?_;rintro _ _ ⟨rfl,rfl⟩);refine mZ ?_; (refine cM (Wt.none) rfl rfl (cL rfl rfl rfl (fun w hw=>zhW _ _)) ?_;rintro _ _ ⟨rfl,rfl⟩);refine jD ?_;refine dR ?_;refine iq rfl rfl ?_;refine kh ?_;refine dR ?_;refine iq rfl rfl ?_;refine kh ?_;refine fb ?_;refine cR ?_;refine T.cond rfl (fun h1=>?_) (fun h1=>?_)
 ·have p1:=h1; (try simp only [cT] at p1);refine ja ?_;refine cU rfl rfl (fun w' hw=>⟨?_,hw.isBelow⟩);exact q4n
 ·have p1:=h1; (try simp only [cT] at p1);refine kh ?_;refine fb ?_;refine cR ?_;refine T.cond rfl (fun h2=>?_) (fun h2=>?_)
  ·have p2:=h2; (try simp only [cT] at p2);refine ja ?_;refine cU rfl rfl (fun w' hw=>⟨?_,hw.isBelow⟩);exact q4n
  ·have p2:=h2; (try simp only [cT] at p2);refine i1 ?_;refine fB ?_;refine cU rfl rfl (fun w' hw=>⟨?_,hw.isBelow⟩);exact q4n
theorem zkJ (l:List Int)(v:Value)(w:World)(h:zgn w v l)(hl:l.length≤9223372036854775807):Calls Tryz.prog 111 #[v] w fun e w'=>e= .returned (.int .i64 (kg l))∧Below w.heap.size w w':=by
 obtain ⟨A,cap,rfl,hsl⟩:=h.op;refine dB (M:=fun _=>False) (hs:=[]) Tryz.func111 rfl rfl rfl (Hp.refl _ _) ?_;refine l5 ?_;refine ij ?_;refine dc ?_;refine jz ?_;refine T.loop (ι:=Nat) (fun k=>[(3, .int .i64 0),(6, .slice A l.length cap),(7, .int .i64 (l.length:Int)),(8, .int .i64 (k:Int))]) (fun k=>[]) (fun k=>k≤l.length∧kg (l.drop k)=kg l) (fun k=>l.length - k) 0 ?_ ?_ ?_ ?_
 ·exact ⟨by omega,rfl⟩
 ·exact (by repeat (first|exact Sub.nil|refine Sub.cons rfl ?_))
 ·exact Sx
 ·intro k hphi;obtain ⟨hkl,hor⟩:=hphi;refine fk ?_;refine T.cond rfl (fun h1=>?_) (fun h1=>?_)
  ·have p1:=h1; (try simp only [cT] at p1);obtain ⟨g,off,rfl,hc⟩:=hsl a6;have hk:=hc k a6;simp only [Ie] at hk;refine fT ?_;refine q1H ?_;refine gN ?_;refine fb ?_;refine cR ?_;refine T.cond rfl (fun h2=>?_) (fun h2=>?_)
   ·have p2:=h2; (try simp only [cT] at p2);refine i4 ?_;refine mN ?_;refine cU rfl rfl (fun w' hw=>⟨?_,hw.isBelow⟩);exact zcP (by rw [zjX a6,if_neg cB] at hor;exact hor)
   ·have p2:=h2; (try simp only [cT] at p2);refine iK ?_;exact K.next (k+1) ⟨by omega,by rw [zjX a6,if_pos cB] at hor;exact hor⟩ a6 (by repeat (first|exact Sub.nil|refine Sub.cons rfl ?_)) Sx
  ·have p1:=h1; (try simp only [cT] at p1);refine mh ?_;refine jE ?_;refine cU rfl rfl (fun w' hw=>⟨?_,hw.isBelow⟩);exact zcP (by rw [List.drop_eq_nil_of_le a6] at hor;exact hor)
theorem zmz {q:Dx→Bool}(xs:List Dx)(v:Value)(f:FuncId)(caps:Array Value)(w:World)(h:SlOf w v Dx.cells 2 xs)(ho1:∀k,k<xs.length→OneC (cH xs k).v)[hE:Enters Tryz.prog f](hC:∀k,k<xs.length→∀w',Below w.heap.size w w'→Calls Tryz.prog f (.agg (Dx.cells (cH xs k)).toArray :: caps.toList).toArray w' fun e w''=>e= .returned (.bool (q (cH xs k)))∧Below w'.heap.size w' w'')(hl:xs.length≤9223372036854775807):Calls Tryz.prog 45 #[v, .func (.func f) #[] caps] w fun e w'=>e= .returned (.bool (fm q xs))∧Below w.heap.size w w':=by
 obtain ⟨A,cap,rfl,hsl⟩:=h.op;refine dB (M:=fun _=>False) (hs:=[]) Tryz.func45 rfl rfl rfl (Hp.refl _ _) ?_;refine jB ?_;refine jz ?_;refine T.loop (ι:=Nat) (fun k=>[(1, .func (.func f) #[] caps),(7, .slice A xs.length cap),(8, .int .i64 (xs.length:Int)),(9, .int .i64 (k:Int))]) (fun k=>[]) (fun k=>k≤xs.length∧∀j,j<k→q (cH xs j)=true) (fun k=>xs.length - k) 0 ?_ ?_ ?_ ?_
 ·exact q38
 ·exact (by repeat (first|exact Sub.nil|refine Sub.cons rfl ?_))
 ·exact Sx
 ·intro k hphi;obtain ⟨hkl,hall⟩:=hphi;refine fk ?_;refine T.cond rfl (fun h1=>?_) (fun h1=>?_)
  ·have p1:=h1; (try simp only [cT] at p1);obtain ⟨g,off,rfl,hc⟩:=hsl a6;have hk:=hc k a6;haveI:=ho1 k a6;simp only [Dx.cells] at hk;refine fT ?_;refine lK ?_; (refine cM (Wt.none) rfl rfl (Ew.alloc) ?_;rintro _ _ ⟨g6,rfl,rfl⟩); (refine dJ (Wt.none) rfl (dG 0) ?_;rintro _ _ ⟨rfl,rfl⟩);refine dq ?_;refine dc ?_;refine jd ?_; (refine cM (Wt.none) rfl rfl (kw rfl rfl rfl (fun w hw=>hC k a6 w hw.isBelow)) ?_;rintro _ _ ⟨rfl,rfl⟩);refine dR ?_;refine T.cond rfl (fun h2=>?_) (fun h2=>?_)
   ·have p2:=h2; (try simp only [cT] at p2);refine jc ?_;refine cU rfl rfl (fun w' hw=>⟨?_,hw.isBelow⟩);exact q39
   ·have p2:=h2; (try simp only [cT] at p2);refine iK ?_;exact K.next (k+1) ⟨by omega,zdY hall (by simpa using p2)⟩ a6 (by repeat (first|exact Sub.nil|refine Sub.cons rfl ?_)) Sx
  ·have p1:=h1; (try simp only [cT] at p1);refine q3N ?_;refine cU rfl rfl (fun w' hw=>⟨?_,hw.isBelow⟩);exact q4a
theorem zhi {c:Dx→Dx→Int}(xs:List Dx)(v:Value)(f:FuncId)(w:World)(h:SlOf w v Dx.cells 2 xs)(ho1:∀k,k<xs.length→OneC (cH xs k).v)[hE:Enters Tryz.prog f](hC:∀x y:Dx,OneC x.v→OneC y.v→∀w':World,Calls Tryz.prog f #[.agg (Dx.cells (x)).toArray, .agg (Dx.cells (y)).toArray] w' fun e w''=>e= .returned (.int .i64 (c x y))∧Below w'.heap.size w' w'')(hl:xs.length≤9223372036854775807):Calls Tryz.prog 50 #[v, .func (.func f) #[] #[]] w fun e w'=>e= .returned (.bool (fg c xs))∧Below w.heap.size w w':=by
 obtain ⟨A,cap,rfl,hsl⟩:=h.op;refine dB (M:=fun _=>False) (hs:=[]) Tryz.func50 rfl rfl rfl (Hp.refl _ _) ?_;refine jB ?_;refine cR (T.block ?_);refine T.loop (ι:=Nat) (fun k=>[(0, .slice A xs.length cap),(1, .func (.func f) #[] #[]),(5, .int .i64 (k:Int))]) (fun k=>[]) (fun k=>1≤k∧∀j,j<k→j<xs.length→(decide (j=0)|| !decide (0≤c (cH xs (j - 1)) (cH xs j)))=true) (fun k=>xs.length - k) 1 ?_ ?_ ?_ ?_
 ·exact q4b
 ·exact (by repeat (first|exact Sub.nil|refine Sub.cons rfl ?_))
 ·exact Sx
 ·intro k hphi;obtain ⟨hk0,hall⟩:=hphi;refine q2x ?_;refine T.cond rfl (fun h1=>?_) (fun h1=>?_)
  ·have p1:=h1; (try simp only [cT] at p1);obtain ⟨g,off,rfl,hc⟩:=hsl a6;have hk:=hc k a6;have hk1:=hc (k - 1) a6;have o1:=ho1 k a6;have o2:=ho1 (k - 1) a6;simp only [Dx.cells] at hk hk1;refine q0r ?_; (refine cZ rfl (Wt.none) rfl rfl (cL rfl rfl rfl (fun w hw=>hC (cH xs (k - 1)) (cH xs k) o2 o1 w)) ?_;rintro _ _ ⟨rfl,rfl⟩;refine ⟨Sx,?_⟩);refine kM ?_;refine T.cond rfl (fun h2=>?_) (fun h2=>?_)
   ·have p2:=h2; (try simp only [cT] at p2);refine jc ?_;refine cU rfl rfl (fun w' hw=>⟨?_,hw.isBelow⟩);exact q4c
   ·have p2:=h2; (try simp only [cT] at p2);refine iS ?_;exact K.next (k+1) ⟨by omega,fun j hj hjl=>by rcases Nat.lt_or_ge j k with hh|hh;exact hall j hh hjl;rw [show j=k from by omega,decide_eq_false a6];simpa using p2⟩ a6 (by repeat (first|exact Sub.nil|refine Sub.cons rfl ?_)) Sx
  ·have p1:=h1; (try simp only [cT] at p1);refine q3N ?_;refine cU rfl rfl (fun w' hw=>⟨?_,hw.isBelow⟩);exact q4d
theorem zkX {q:Pr→Bool}(xs:List Pr)(v:Value)(f:FuncId)(caps:Array Value)(w:World)(h:SlOf w v Pr.cells 5 xs)[hE:Enters Tryz.prog f](hC:∀k,k<xs.length→∀w',Below w.heap.size w w'→Calls Tryz.prog f (.agg (Pr.cells (cH xs k)).toArray :: caps.toList).toArray w' fun e w''=>e= .returned (.bool (q (cH xs k)))∧Below w'.heap.size w' w'')(hl:xs.length≤9223372036854775807):Calls Tryz.prog 52 #[v, .func (.func f) #[] caps] w fun e w'=>e= .returned (.bool (fm q xs))∧Below w.heap.size w w':=by
 obtain ⟨A,cap,rfl,hsl⟩:=h.op;refine dB (M:=fun _=>False) (hs:=[]) Tryz.func52 rfl rfl rfl (Hp.refl _ _) ?_;refine jB ?_;refine jz ?_;refine T.loop (ι:=Nat) (fun k=>[(1, .func (.func f) #[] caps),(7, .slice A xs.length cap),(8, .int .i64 (xs.length:Int)),(9, .int .i64 (k:Int))]) (fun k=>[]) (fun k=>k≤xs.length∧∀j,j<k→q (cH xs j)=true) (fun k=>xs.length - k) 0 ?_ ?_ ?_ ?_
 ·exact q38
 ·exact (by repeat (first|exact Sub.nil|refine Sub.cons rfl ?_))
 ·exact Sx
 ·intro k hphi;obtain ⟨hkl,hall⟩:=hphi;refine fk ?_;refine T.cond rfl (fun h1=>?_) (fun h1=>?_)
  ·have p1:=h1; (try simp only [cT] at p1);obtain ⟨g,off,rfl,hc⟩:=hsl a6;have hk:=hc k a6;simp only [Pr.cells] at hk;refine fT ?_;refine lK ?_; (refine cM (Wt.none) rfl rfl (Ew.alloc) ?_;rintro _ _ ⟨g6,rfl,rfl⟩); (refine dJ (Wt.none) rfl (dG 0) ?_;rintro _ _ ⟨rfl,rfl⟩);refine dq ?_;refine dc ?_;refine jd ?_; (refine cM (Wt.none) rfl rfl (kw rfl rfl rfl (fun w hw=>hC k a6 w hw.isBelow)) ?_;rintro _ _ ⟨rfl,rfl⟩);refine dR ?_;refine T.cond rfl (fun h2=>?_) (fun h2=>?_)
   ·have p2:=h2; (try simp only [cT] at p2);refine jc ?_;refine cU rfl rfl (fun w' hw=>⟨?_,hw.isBelow⟩);exact q39
   ·have p2:=h2; (try simp only [cT] at p2);refine iK ?_;exact K.next (k+1) ⟨by omega,zdY hall (by simpa using p2)⟩ a6 (by repeat (first|exact Sub.nil|refine Sub.cons rfl ?_)) Sx
  ·have p1:=h1; (try simp only [cT] at p1);refine q3N ?_;refine cU rfl rfl (fun w' hw=>⟨?_,hw.isBelow⟩);exact q4a
theorem ziE {c:Pr→Pr→Int}(xs:List Pr)(v:Value)(f:FuncId)(w:World)(h:SlOf w v Pr.cells 5 xs)[hE:Enters Tryz.prog f](hC:∀x y:Pr,∀w':World,Calls Tryz.prog f #[.agg (Pr.cells (x)).toArray, .agg (Pr.cells (y)).toArray] w' fun e w''=>e= .returned (.int .i64 (c x y))∧Below w'.heap.size w' w'')(hl:xs.length≤9223372036854775807):Calls Tryz.prog 82 #[v, .func (.func f) #[] #[]] w fun e w'=>e= .returned (.bool (fg c xs))∧Below w.heap.size w w':=by
 obtain ⟨A,cap,rfl,hsl⟩:=h.op;refine dB (M:=fun _=>False) (hs:=[]) Tryz.func82 rfl rfl rfl (Hp.refl _ _) ?_;refine jB ?_;refine cR (T.block ?_);refine T.loop (ι:=Nat) (fun k=>[(0, .slice A xs.length cap),(1, .func (.func f) #[] #[]),(5, .int .i64 (k:Int))]) (fun k=>[]) (fun k=>1≤k∧∀j,j<k→j<xs.length→(decide (j=0)|| !decide (0≤c (cH xs (j - 1)) (cH xs j)))=true) (fun k=>xs.length - k) 1 ?_ ?_ ?_ ?_
 ·exact q4b
 ·exact (by repeat (first|exact Sub.nil|refine Sub.cons rfl ?_))
 ·exact Sx
 ·intro k hphi;obtain ⟨hk0,hall⟩:=hphi;refine q2x ?_;refine T.cond rfl (fun h1=>?_) (fun h1=>?_)
  ·have p1:=h1; (try simp only [cT] at p1);obtain ⟨g,off,rfl,hc⟩:=hsl a6;have hk:=hc k a6;have hk1:=hc (k - 1) a6;simp only [Pr.cells] at hk hk1;refine q0r ?_; (refine cZ rfl (Wt.none) rfl rfl (cL rfl rfl rfl (fun w hw=>hC (cH xs (k - 1)) (cH xs k) w)) ?_;rintro _ _ ⟨rfl,rfl⟩;refine ⟨Sx,?_⟩);refine kM ?_;refine T.cond rfl (fun h2=>?_) (fun h2=>?_)
   ·have p2:=h2; (try simp only [cT] at p2);refine jc ?_;refine cU rfl rfl (fun w' hw=>⟨?_,hw.isBelow⟩);exact q4c
   ·have p2:=h2; (try simp only [cT] at p2);refine iS ?_;exact K.next (k+1) ⟨by omega,fun j hj hjl=>by rcases Nat.lt_or_ge j k with hh|hh;exact hall j hh hjl;rw [show j=k from by omega,decide_eq_false a6];simpa using p2⟩ a6 (by repeat (first|exact Sub.nil|refine Sub.cons rfl ?_)) Sx
  ·have p1:=h1; (try simp only [cT] at p1);refine q3N ?_;refine cU rfl rfl (fun w' hw=>⟨?_,hw.isBelow⟩);exact q4d
theorem zkN {q:Ld→Bool}(xs:List Ld)(v:Value)(f:FuncId)(caps:Array Value)(w:World)(h:SlOf w v Ld.cells 5 xs)[hE:Enters Tryz.prog f](hC:∀k,k<xs.length→∀w',Below w.heap.size w w'→Calls Tryz.prog f (.agg (Ld.cells (cH xs k)).toArray :: caps.toList).toArray w' fun e w''=>e= .returned (.bool (q (cH xs k)))∧Below w'.heap.size w' w'')(hl:xs.length≤9223372036854775807):Calls Tryz.prog 55 #[v, .func (.func f) #[] caps] w fun e w'=>e= .returned (.bool (fm q xs))∧Below w.heap.size w w':=by
 obtain ⟨A,cap,rfl,hsl⟩:=h.op;refine dB (M:=fun _=>False) (hs:=[]) Tryz.func55 rfl rfl rfl (Hp.refl _ _) ?_;refine jB ?_;refine jz ?_;refine T.loop (ι:=Nat) (fun k=>[(1, .func (.func f) #[] caps),(7, .slice A xs.length cap),(8, .int .i64 (xs.length:Int)),(9, .int .i64 (k:Int))]) (fun k=>[]) (fun k=>k≤xs.length∧∀j,j<k→q (cH xs j)=true) (fun k=>xs.length - k) 0 ?_ ?_ ?_ ?_
 ·exact q38
 ·exact (by repeat (first|exact Sub.nil|refine Sub.cons rfl ?_))
 ·exact Sx
 ·intro k hphi;obtain ⟨hkl,hall⟩:=hphi;refine fk ?_;refine T.cond rfl (fun h1=>?_) (fun h1=>?_)
  ·have p1:=h1; (try simp only [cT] at p1);obtain ⟨g,off,rfl,hc⟩:=hsl a6;have hk:=hc k a6;simp only [Ld.cells] at hk;refine fT ?_;refine lK ?_; (refine cM (Wt.none) rfl rfl (Ew.alloc) ?_;rintro _ _ ⟨g6,rfl,rfl⟩); (refine dJ (Wt.none) rfl (dG 0) ?_;rintro _ _ ⟨rfl,rfl⟩);refine dq ?_;refine dc ?_;refine jd ?_; (refine cM (Wt.none) rfl rfl (kw rfl rfl rfl (fun w hw=>hC k a6 w hw.isBelow)) ?_;rintro _ _ ⟨rfl,rfl⟩);refine dR ?_;refine T.cond rfl (fun h2=>?_) (fun h2=>?_)
   ·have p2:=h2; (try simp only [cT] at p2);refine jc ?_;refine cU rfl rfl (fun w' hw=>⟨?_,hw.isBelow⟩);exact q39
   ·have p2:=h2; (try simp only [cT] at p2);refine iK ?_;exact K.next (k+1) ⟨by omega,zdY hall (by simpa using p2)⟩ a6 (by repeat (first|exact Sub.nil|refine Sub.cons rfl ?_)) Sx
  ·have p1:=h1; (try simp only [cT] at p1);refine q3N ?_;refine cU rfl rfl (fun w' hw=>⟨?_,hw.isBelow⟩);exact q4a
theorem zim {c:Ld→Ld→Int}(xs:List Ld)(v:Value)(f:FuncId)(w:World)(h:SlOf w v Ld.cells 5 xs)[hE:Enters Tryz.prog f](hC:∀x y:Ld,∀w':World,Calls Tryz.prog f #[.agg (Ld.cells (x)).toArray, .agg (Ld.cells (y)).toArray] w' fun e w''=>e= .returned (.int .i64 (c x y))∧Below w'.heap.size w' w'')(hl:xs.length≤9223372036854775807):Calls Tryz.prog 85 #[v, .func (.func f) #[] #[]] w fun e w'=>e= .returned (.bool (fg c xs))∧Below w.heap.size w w':=by
 obtain ⟨A,cap,rfl,hsl⟩:=h.op;refine dB (M:=fun _=>False) (hs:=[]) Tryz.func85 rfl rfl rfl (Hp.refl _ _) ?_;refine jB ?_;refine cR (T.block ?_);refine T.loop (ι:=Nat) (fun k=>[(0, .slice A xs.length cap),(1, .func (.func f) #[] #[]),(5, .int .i64 (k:Int))]) (fun k=>[]) (fun k=>1≤k∧∀j,j<k→j<xs.length→(decide (j=0)|| !decide (0≤c (cH xs (j - 1)) (cH xs j)))=true) (fun k=>xs.length - k) 1 ?_ ?_ ?_ ?_
 ·exact q4b
 ·exact (by repeat (first|exact Sub.nil|refine Sub.cons rfl ?_))
 ·exact Sx
 ·intro k hphi;obtain ⟨hk0,hall⟩:=hphi;refine q2x ?_;refine T.cond rfl (fun h1=>?_) (fun h1=>?_)
  ·have p1:=h1; (try simp only [cT] at p1);obtain ⟨g,off,rfl,hc⟩:=hsl a6;have hk:=hc k a6;have hk1:=hc (k - 1) a6;simp only [Ld.cells] at hk hk1;refine q0r ?_; (refine cZ rfl (Wt.none) rfl rfl (cL rfl rfl rfl (fun w hw=>hC (cH xs (k - 1)) (cH xs k) w)) ?_;rintro _ _ ⟨rfl,rfl⟩;refine ⟨Sx,?_⟩);refine kM ?_;refine T.cond rfl (fun h2=>?_) (fun h2=>?_)
   ·have p2:=h2; (try simp only [cT] at p2);refine jc ?_;refine cU rfl rfl (fun w' hw=>⟨?_,hw.isBelow⟩);exact q4c
   ·have p2:=h2; (try simp only [cT] at p2);refine iS ?_;exact K.next (k+1) ⟨by omega,fun j hj hjl=>by rcases Nat.lt_or_ge j k with hh|hh;exact hall j hh hjl;rw [show j=k from by omega,decide_eq_false a6];simpa using p2⟩ a6 (by repeat (first|exact Sub.nil|refine Sub.cons rfl ?_)) Sx
  ·have p1:=h1; (try simp only [cT] at p1);refine q3N ?_;refine cU rfl rfl (fun w' hw=>⟨?_,hw.isBelow⟩);exact q4d
theorem zlU {q:Cp→Bool}(xs:List Cp)(v:Value)(f:FuncId)(caps:Array Value)(w:World)(h:SlOf w v Cp.cells 4 xs)[hE:Enters Tryz.prog f](hC:∀k,k<xs.length→∀w',Below w.heap.size w w'→Calls Tryz.prog f (.agg (Cp.cells (cH xs k)).toArray :: caps.toList).toArray w' fun e w''=>e= .returned (.bool (q (cH xs k)))∧Below w'.heap.size w' w'')(hl:xs.length≤9223372036854775807):Calls Tryz.prog 57 #[v, .func (.func f) #[] caps] w fun e w'=>e= .returned (.bool (fm q xs))∧Below w.heap.size w w':=by
 obtain ⟨A,cap,rfl,hsl⟩:=h.op;refine dB (M:=fun _=>False) (hs:=[]) Tryz.func57 rfl rfl rfl (Hp.refl _ _) ?_;refine jB ?_;refine jz ?_;refine T.loop (ι:=Nat) (fun k=>[(1, .func (.func f) #[] caps),(7, .slice A xs.length cap),(8, .int .i64 (xs.length:Int)),(9, .int .i64 (k:Int))]) (fun k=>[]) (fun k=>k≤xs.length∧∀j,j<k→q (cH xs j)=true) (fun k=>xs.length - k) 0 ?_ ?_ ?_ ?_
 ·exact q38
 ·exact (by repeat (first|exact Sub.nil|refine Sub.cons rfl ?_))
 ·exact Sx
 ·intro k hphi;obtain ⟨hkl,hall⟩:=hphi;refine fk ?_;refine T.cond rfl (fun h1=>?_) (fun h1=>?_)
  ·have p1:=h1; (try simp only [cT] at p1);obtain ⟨g,off,rfl,hc⟩:=hsl a6;have hk:=hc k a6;simp only [Cp.cells] at hk;refine fT ?_;refine lK ?_; (refine cM (Wt.none) rfl rfl (Ew.alloc) ?_;rintro _ _ ⟨g6,rfl,rfl⟩); (refine dJ (Wt.none) rfl (dG 0) ?_;rintro _ _ ⟨rfl,rfl⟩);refine dq ?_;refine dc ?_;refine jd ?_; (refine cM (Wt.none) rfl rfl (kw rfl rfl rfl (fun w hw=>hC k a6 w hw.isBelow)) ?_;rintro _ _ ⟨rfl,rfl⟩);refine dR ?_;refine T.cond rfl (fun h2=>?_) (fun h2=>?_)
   ·have p2:=h2; (try simp only [cT] at p2);refine jc ?_;refine cU rfl rfl (fun w' hw=>⟨?_,hw.isBelow⟩);exact q39
   ·have p2:=h2; (try simp only [cT] at p2);refine iK ?_;exact K.next (k+1) ⟨by omega,zdY hall (by simpa using p2)⟩ a6 (by repeat (first|exact Sub.nil|refine Sub.cons rfl ?_)) Sx
  ·have p1:=h1; (try simp only [cT] at p1);refine q3N ?_;refine cU rfl rfl (fun w' hw=>⟨?_,hw.isBelow⟩);exact q4a
theorem zid {c:Cp→Cp→Int}(xs:List Cp)(v:Value)(f:FuncId)(w:World)(h:SlOf w v Cp.cells 4 xs)[hE:Enters Tryz.prog f](hC:∀x y:Cp,∀w':World,Calls Tryz.prog f #[.agg (Cp.cells (x)).toArray, .agg (Cp.cells (y)).toArray] w' fun e w''=>e= .returned (.int .i64 (c x y))∧Below w'.heap.size w' w'')(hl:xs.length≤9223372036854775807):Calls Tryz.prog 88 #[v, .func (.func f) #[] #[]] w fun e w'=>e= .returned (.bool (fg c xs))∧Below w.heap.size w w':=by
 obtain ⟨A,cap,rfl,hsl⟩:=h.op;refine dB (M:=fun _=>False) (hs:=[]) Tryz.func88 rfl rfl rfl (Hp.refl _ _) ?_;refine jB ?_;refine cR (T.block ?_);refine T.loop (ι:=Nat) (fun k=>[(0, .slice A xs.length cap),(1, .func (.func f) #[] #[]),(5, .int .i64 (k:Int))]) (fun k=>[]) (fun k=>1≤k∧∀j,j<k→j<xs.length→(decide (j=0)|| !decide (0≤c (cH xs (j - 1)) (cH xs j)))=true) (fun k=>xs.length - k) 1 ?_ ?_ ?_ ?_
 ·exact q4b
 ·exact (by repeat (first|exact Sub.nil|refine Sub.cons rfl ?_))
 ·exact Sx
 ·intro k hphi;obtain ⟨hk0,hall⟩:=hphi;refine q2x ?_;refine T.cond rfl (fun h1=>?_) (fun h1=>?_)
  ·have p1:=h1; (try simp only [cT] at p1);obtain ⟨g,off,rfl,hc⟩:=hsl a6;have hk:=hc k a6;have hk1:=hc (k - 1) a6;simp only [Cp.cells] at hk hk1;refine q0r ?_; (refine cZ rfl (Wt.none) rfl rfl (cL rfl rfl rfl (fun w hw=>hC (cH xs (k - 1)) (cH xs k) w)) ?_;rintro _ _ ⟨rfl,rfl⟩;refine ⟨Sx,?_⟩);refine kM ?_;refine T.cond rfl (fun h2=>?_) (fun h2=>?_)
   ·have p2:=h2; (try simp only [cT] at p2);refine jc ?_;refine cU rfl rfl (fun w' hw=>⟨?_,hw.isBelow⟩);exact q4c
   ·have p2:=h2; (try simp only [cT] at p2);refine iS ?_;exact K.next (k+1) ⟨by omega,fun j hj hjl=>by rcases Nat.lt_or_ge j k with hh|hh;exact hall j hh hjl;rw [show j=k from by omega,decide_eq_false a6];simpa using p2⟩ a6 (by repeat (first|exact Sub.nil|refine Sub.cons rfl ?_)) Sx
  ·have p1:=h1; (try simp only [cT] at p1);refine q3N ?_;refine cU rfl rfl (fun w' hw=>⟨?_,hw.isBelow⟩);exact q4d
theorem zmE {q:Int→Bool}(xs:List Int)(v:Value)(f:FuncId)(caps:Array Value)(w:World)(h:SlOf w v Ie 1 xs)[hE:Enters Tryz.prog f](hC:∀k,k<xs.length→∀w',Below w.heap.size w w'→Calls Tryz.prog f (.int .i64 (cH xs k) :: caps.toList).toArray w' fun e w''=>e= .returned (.bool (q (cH xs k)))∧Below w'.heap.size w' w'')(hl:xs.length≤9223372036854775807):Calls Tryz.prog 79 #[v, .func (.func f) #[] caps] w fun e w'=>e= .returned (.bool (fm q xs))∧Below w.heap.size w w':=by
 obtain ⟨A,cap,rfl,hsl⟩:=h.op;refine dB (M:=fun _=>False) (hs:=[]) Tryz.func79 rfl rfl rfl (Hp.refl _ _) ?_;refine jB ?_;refine jz ?_;refine T.loop (ι:=Nat) (fun k=>[(1, .func (.func f) #[] caps),(7, .slice A xs.length cap),(8, .int .i64 (xs.length:Int)),(9, .int .i64 (k:Int))]) (fun k=>[]) (fun k=>k≤xs.length∧∀j,j<k→q (cH xs j)=true) (fun k=>xs.length - k) 0 ?_ ?_ ?_ ?_
 ·exact q38
 ·exact (by repeat (first|exact Sub.nil|refine Sub.cons rfl ?_))
 ·exact Sx
 ·intro k hphi;obtain ⟨hkl,hall⟩:=hphi;refine fk ?_;refine T.cond rfl (fun h1=>?_) (fun h1=>?_)
  ·have p1:=h1; (try simp only [cT] at p1);obtain ⟨g,off,rfl,hc⟩:=hsl a6;have hk:=hc k a6;simp only [Ie] at hk;refine fT ?_;refine q1H ?_;refine gN ?_;refine ec ?_; (refine cM (Wt.none) rfl rfl (kw rfl rfl rfl (fun w hw=>hC k a6 w hw.isBelow)) ?_;rintro _ _ ⟨rfl,rfl⟩);refine dR ?_;refine T.cond rfl (fun h2=>?_) (fun h2=>?_)
   ·have p2:=h2; (try simp only [cT] at p2);refine jc ?_;refine cU rfl rfl (fun w' hw=>⟨?_,hw.isBelow⟩);exact q39
   ·have p2:=h2; (try simp only [cT] at p2);refine iK ?_;exact K.next (k+1) ⟨by omega,zdY hall (by simpa using p2)⟩ a6 (by repeat (first|exact Sub.nil|refine Sub.cons rfl ?_)) Sx
  ·have p1:=h1; (try simp only [cT] at p1);refine q3N ?_;refine cU rfl rfl (fun w' hw=>⟨?_,hw.isBelow⟩);exact q4a
theorem zhC {c:Int→Int→Int}(xs:List Int)(v:Value)(f:FuncId)(w:World)(h:SlOf w v Ie 1 xs)[hE:Enters Tryz.prog f](hC:∀x y:Int,∀w':World,Calls Tryz.prog f #[.int .i64 (x), .int .i64 (y)] w' fun e w''=>e= .returned (.int .i64 (c x y))∧Below w'.heap.size w' w'')(hl:xs.length≤9223372036854775807):Calls Tryz.prog 80 #[v, .func (.func f) #[] #[]] w fun e w'=>e= .returned (.bool (fg c xs))∧Below w.heap.size w w':=by
 obtain ⟨A,cap,rfl,hsl⟩:=h.op;refine dB (M:=fun _=>False) (hs:=[]) Tryz.func80 rfl rfl rfl (Hp.refl _ _) ?_;refine jB ?_;refine cR (T.block ?_);refine T.loop (ι:=Nat) (fun k=>[(0, .slice A xs.length cap),(1, .func (.func f) #[] #[]),(5, .int .i64 (k:Int))]) (fun k=>[]) (fun k=>1≤k∧∀j,j<k→j<xs.length→(decide (j=0)|| !decide (0≤c (cH xs (j - 1)) (cH xs j)))=true) (fun k=>xs.length - k) 1 ?_ ?_ ?_ ?_
 ·exact q4b
 ·exact (by repeat (first|exact Sub.nil|refine Sub.cons rfl ?_))
 ·exact Sx
 ·intro k hphi;obtain ⟨hk0,hall⟩:=hphi;refine q2x ?_;refine T.cond rfl (fun h1=>?_) (fun h1=>?_)
  ·have p1:=h1; (try simp only [cT] at p1);obtain ⟨g,off,rfl,hc⟩:=hsl a6;have hk:=hc k a6;have hk1:=hc (k - 1) a6;simp only [Ie] at hk hk1;refine lA ?_;refine q2W ?_;refine fU ?_;refine mq ?_;refine cN rfl (gm rfl rfl rfl (show (k:Int) - 1=((k - 1:Nat):Int) from by omega) a6) ?_;refine cN rfl (dW (j:=0) rfl rfl hk1 rfl rfl (fun h=>h)) ?_;refine gE ?_;refine q2f ?_;refine cN rfl (dW (j:=0) rfl rfl hk rfl rfl (fun h=>h)) ?_;refine dx ?_; (refine cZ rfl (Wt.none) rfl rfl (cL rfl rfl rfl (fun w hw=>hC (cH xs (k - 1)) (cH xs k) w)) ?_;rintro _ _ ⟨rfl,rfl⟩;refine ⟨Sx,?_⟩);refine kM ?_;refine T.cond rfl (fun h2=>?_) (fun h2=>?_)
   ·have p2:=h2; (try simp only [cT] at p2);refine jc ?_;refine cU rfl rfl (fun w' hw=>⟨?_,hw.isBelow⟩);exact q4c
   ·have p2:=h2; (try simp only [cT] at p2);refine iS ?_;exact K.next (k+1) ⟨by omega,fun j hj hjl=>by rcases Nat.lt_or_ge j k with hh|hh;exact hall j hh hjl;rw [show j=k from by omega,decide_eq_false a6];simpa using p2⟩ a6 (by repeat (first|exact Sub.nil|refine Sub.cons rfl ?_)) Sx
  ·have p1:=h1; (try simp only [cT] at p1);refine q3N ?_;refine cU rfl rfl (fun w' hw=>⟨?_,hw.isBelow⟩);exact q4d
def Pr.ok (x:Pr):Bool:=inB x.a 0 511&&(inB x.b 0 511&&(decide (x.a<x.b)&&(inB x.off (-1) 1&&eY x.lo x.hi)))
def Ld.ok (x:Ld):Bool:=inB x.to 0 511&&(inB x.fr 0 511&&(decide (¬x.to=x.fr)&&(inB x.wt 1 1073741824&&eY x.lo x.hi)))
def Cp.ok (x:Cp):Bool:=inB x.st 0 511&&(inB x.mx 0 1099511627776&&eY x.lo x.hi)
def Pr.cmp (x y:Pr):Int:=kg [dC x.a y.a,dC x.b y.b,dC x.off y.off,dC x.lo y.lo,dC x.hi y.hi]
def Ld.cmp (x y:Ld):Int:=kg [dC x.to y.to,dC x.fr y.fr,dC x.wt y.wt,dC x.lo y.lo,dC x.hi y.hi]
def Cp.cmp (x y:Cp):Int:=kg [dC x.st y.st,dC x.mx y.mx,dC x.lo y.lo,dC x.hi y.hi]
theorem ziD (x:Pr)(w:World):Calls Tryz.prog 81 #[.agg (Pr.cells x).toArray] w fun e w'=>e= .returned (.bool x.ok)∧Below w.heap.size w w':=by
 refine dB (M:=fun _=>False) (hs:=[]) Tryz.func81 rfl rfl rfl (Hp.refl _ _) ?_;simp only [Pr.cells];refine dd ?_; (refine cM (Wt.none) rfl rfl (dv) ?_;rintro _ _ ⟨g1,rfl,rfl⟩);refine gN ?_;refine em ?_; (refine cM (Wt.none) rfl rfl (cL rfl rfl rfl (fun w hw=>zb4 _ _)) ?_;rintro _ _ ⟨rfl,rfl⟩);refine dc ?_;refine dp rfl rfl rfl (fun h1=>?_) (fun h1=>?_)
 ·have p1:=h1; (try simp only [cT] at p1);refine q0I ?_; (refine cM (Wt.some rfl rfl rfl h1) rfl rfl (cL rfl rfl rfl (fun w hw=>zb4 _ _)) ?_;rintro _ _ ⟨rfl,rfl⟩);refine kH ?_;refine dc ?_;refine dp rfl rfl rfl (fun h2=>?_) (fun h2=>?_)
  ·have p2:=h2; (try simp only [cT] at p2);refine mw ?_;refine mw ?_;refine mp ?_;refine q2E ?_;refine dc ?_;refine dp rfl rfl rfl (fun h3=>?_) (fun h3=>?_)
   ·have p3:=h3; (try simp only [cT] at p3);refine q0O ?_; (refine cM (Wt.some rfl rfl rfl h3) rfl rfl (cL rfl rfl rfl (fun w hw=>zc6 _ _ _ _)) ?_;rintro _ _ ⟨rfl,rfl⟩);refine q3u ?_;refine dc ?_;refine dp rfl rfl rfl (fun h4=>?_) (fun h4=>?_)
    ·have p4:=h4; (try simp only [cT] at p4);refine q0P ?_;refine q0P ?_; (refine cM (Wt.some rfl rfl rfl h4) rfl rfl (cL rfl rfl rfl (fun w hw=>zeA _ _ _)) ?_;rintro _ _ ⟨rfl,rfl⟩);refine cK (eC rfl rfl h4) ?_;refine fB ?_;refine cU rfl rfl (fun w' hw=>⟨?_,hw.isBelow⟩);exact q4e
    ·have p4:=h4; (try simp only [cT] at p4);refine q2j ?_;refine fB ?_;refine cU rfl rfl (fun w' hw=>⟨?_,hw.isBelow⟩);exact q4e
   ·have p3:=h3; (try simp only [cT] at p3);refine q0q ?_;refine cK (ef rfl rfl h3) ?_;refine TL.run 8 rfl ?_;refine gM ?_;refine cU rfl rfl (fun w' hw=>⟨?_,hw.isBelow⟩);exact q4e
  ·have p2:=h2; (try simp only [cT] at p2);refine q0j ?_;refine q1M ?_;refine TL.run 13 rfl ?_;refine gM ?_;refine cU rfl rfl (fun w' hw=>⟨?_,hw.isBelow⟩);exact q4e
 ·have p1:=h1; (try simp only [cT] at p1);refine q1i ?_;refine TL.run 20 rfl ?_;refine gM ?_;refine cU rfl rfl (fun w' hw=>⟨?_,hw.isBelow⟩);exact q4e
theorem zfF (x y:Pr)(w:World):Calls Tryz.prog 83 #[.agg (Pr.cells x).toArray, .agg (Pr.cells y).toArray] w fun e w'=>e= .returned (.int .i64 (x.cmp y))∧Below w.heap.size w w':=by
 refine dB (M:=fun _=>False) (hs:=[]) Tryz.func83 rfl rfl rfl (Hp.refl _ _) ?_;simp only [Pr.cells];refine dd ?_; (refine cM (Wt.none) rfl rfl (dv) ?_;rintro _ _ ⟨g2,rfl,rfl⟩); (refine cM (Wt.none) rfl rfl (dv) ?_;rintro _ _ ⟨g3,rfl,rfl⟩);refine q1k ?_;refine dx ?_; (refine cZ rfl (Wt.none) rfl rfl (cL rfl rfl rfl (fun w hw=>kI _ _ _)) ?_;rintro _ _ ⟨rfl,rfl⟩;refine ⟨Sx,?_⟩);refine dx ?_; (refine cZ rfl (Wt.none) rfl rfl (cL rfl rfl rfl (fun w hw=>kI _ _ _)) ?_;rintro _ _ ⟨rfl,rfl⟩;refine ⟨Sx,?_⟩);refine dx ?_; (refine cZ rfl (Wt.none) rfl rfl (cL rfl rfl rfl (fun w hw=>kI _ _ _)) ?_;rintro _ _ ⟨rfl,rfl⟩;refine ⟨Sx,?_⟩);refine dx ?_; (refine cZ rfl (Wt.none) rfl rfl (cL rfl rfl rfl (fun w hw=>kI _ _ _)) ?_;rintro _ _ ⟨rfl,rfl⟩;refine ⟨Sx,?_⟩);refine dx ?_; (refine cZ rfl (Wt.none) rfl rfl (cL rfl rfl rfl (fun w hw=>kI _ _ _)) ?_;rintro _ _ ⟨rfl,rfl⟩;refine ⟨Sx,?_⟩);refine dx ?_; (refine cZ rfl (Wt.none) rfl rfl (Ew.buildSlice rfl rfl rfl a7) ?_;rintro _ _ ⟨g30,rfl,rfl⟩;refine ⟨Sx,?_⟩);refine dx ?_; (refine cZ rfl (Wt.none) rfl rfl (cL rfl rfl rfl (fun w hw=>zkJ [dC x.a y.a,dC x.b y.b,dC x.off y.off,dC x.lo y.lo,dC x.hi y.hi] _ w (SlOf.lit (enc:=Ie) (size:=1) (fun _=>rfl) _ (cV.1 (hw.get (i:=0) rfl)) rfl rfl) b2)) ?_;rintro _ _ ⟨rfl,rfl⟩;refine ⟨Sx,?_⟩);refine q3V ?_;refine cU rfl rfl (fun w' hw=>⟨?_,hw.isBelow⟩)
 rfl
theorem zh9 (x:Ld)(w:World):Calls Tryz.prog 84 #[.agg (Ld.cells x).toArray] w fun e w'=>e= .returned (.bool x.ok)∧Below w.heap.size w w':=by
 refine dB (M:=fun _=>False) (hs:=[]) Tryz.func84 rfl rfl rfl (Hp.refl _ _) ?_;simp only [Ld.cells];refine dd ?_; (refine cM (Wt.none) rfl rfl (dv) ?_;rintro _ _ ⟨g1,rfl,rfl⟩);refine gN ?_;refine em ?_; (refine cM (Wt.none) rfl rfl (cL rfl rfl rfl (fun w hw=>zb4 _ _)) ?_;rintro _ _ ⟨rfl,rfl⟩);refine dc ?_;refine dp rfl rfl rfl (fun h1=>?_) (fun h1=>?_)
 ·have p1:=h1; (try simp only [cT] at p1);refine q0I ?_; (refine cM (Wt.some rfl rfl rfl h1) rfl rfl (cL rfl rfl rfl (fun w hw=>zb4 _ _)) ?_;rintro _ _ ⟨rfl,rfl⟩);refine kH ?_;refine dc ?_;refine dp rfl rfl rfl (fun h2=>?_) (fun h2=>?_)
  ·have p2:=h2; (try simp only [cT] at p2);refine mw ?_;refine mw ?_;refine mp ?_;refine q2E ?_;refine dc ?_;refine dp rfl rfl rfl (fun h3=>?_) (fun h3=>?_)
   ·have p3:=h3; (try simp only [cT] at p3);refine q0O ?_; (refine cM (Wt.some rfl rfl rfl h3) rfl rfl (cL rfl rfl rfl (fun w hw=>zc6 _ _ _ _)) ?_;rintro _ _ ⟨rfl,rfl⟩);refine q3u ?_;refine dc ?_;refine dp rfl rfl rfl (fun h4=>?_) (fun h4=>?_)
    ·have p4:=h4; (try simp only [cT] at p4);refine q0P ?_;refine q0P ?_; (refine cM (Wt.some rfl rfl rfl h4) rfl rfl (cL rfl rfl rfl (fun w hw=>zeA _ _ _)) ?_;rintro _ _ ⟨rfl,rfl⟩);refine cK (eC rfl rfl h4) ?_;refine fB ?_;refine cU rfl rfl (fun w' hw=>⟨?_,hw.isBelow⟩);exact q4f
    ·have p4:=h4; (try simp only [cT] at p4);refine q2j ?_;refine fB ?_;refine cU rfl rfl (fun w' hw=>⟨?_,hw.isBelow⟩);exact q4f
   ·have p3:=h3; (try simp only [cT] at p3);refine q0q ?_;refine cK (ef rfl rfl h3) ?_;refine TL.run 8 rfl ?_;refine gM ?_;refine cU rfl rfl (fun w' hw=>⟨?_,hw.isBelow⟩);exact q4f
  ·have p2:=h2; (try simp only [cT] at p2);refine q0j ?_;refine q1M ?_;refine TL.run 13 rfl ?_;refine gM ?_;refine cU rfl rfl (fun w' hw=>⟨?_,hw.isBelow⟩);exact q4f
 ·have p1:=h1; (try simp only [cT] at p1);refine q1i ?_;refine TL.run 20 rfl ?_;refine gM ?_;refine cU rfl rfl (fun w' hw=>⟨?_,hw.isBelow⟩);exact q4f
theorem zfG (x y:Ld)(w:World):Calls Tryz.prog 86 #[.agg (Ld.cells x).toArray, .agg (Ld.cells y).toArray] w fun e w'=>e= .returned (.int .i64 (x.cmp y))∧Below w.heap.size w w':=by
 refine dB (M:=fun _=>False) (hs:=[]) Tryz.func86 rfl rfl rfl (Hp.refl _ _) ?_;simp only [Ld.cells];refine dd ?_; (refine cM (Wt.none) rfl rfl (dv) ?_;rintro _ _ ⟨g2,rfl,rfl⟩); (refine cM (Wt.none) rfl rfl (dv) ?_;rintro _ _ ⟨g3,rfl,rfl⟩);refine q1k ?_;refine dx ?_; (refine cZ rfl (Wt.none) rfl rfl (cL rfl rfl rfl (fun w hw=>kI _ _ _)) ?_;rintro _ _ ⟨rfl,rfl⟩;refine ⟨Sx,?_⟩);refine dx ?_; (refine cZ rfl (Wt.none) rfl rfl (cL rfl rfl rfl (fun w hw=>kI _ _ _)) ?_;rintro _ _ ⟨rfl,rfl⟩;refine ⟨Sx,?_⟩);refine dx ?_; (refine cZ rfl (Wt.none) rfl rfl (cL rfl rfl rfl (fun w hw=>kI _ _ _)) ?_;rintro _ _ ⟨rfl,rfl⟩;refine ⟨Sx,?_⟩);refine dx ?_; (refine cZ rfl (Wt.none) rfl rfl (cL rfl rfl rfl (fun w hw=>kI _ _ _)) ?_;rintro _ _ ⟨rfl,rfl⟩;refine ⟨Sx,?_⟩);refine dx ?_; (refine cZ rfl (Wt.none) rfl rfl (cL rfl rfl rfl (fun w hw=>kI _ _ _)) ?_;rintro _ _ ⟨rfl,rfl⟩;refine ⟨Sx,?_⟩);refine dx ?_; (refine cZ rfl (Wt.none) rfl rfl (Ew.buildSlice rfl rfl rfl a7) ?_;rintro _ _ ⟨g30,rfl,rfl⟩;refine ⟨Sx,?_⟩);refine dx ?_; (refine cZ rfl (Wt.none) rfl rfl (cL rfl rfl rfl (fun w hw=>zkJ [dC x.to y.to,dC x.fr y.fr,dC x.wt y.wt,dC x.lo y.lo,dC x.hi y.hi] _ w (SlOf.lit (enc:=Ie) (size:=1) (fun _=>rfl) _ (cV.1 (hw.get (i:=0) rfl)) rfl rfl) b2)) ?_;rintro _ _ ⟨rfl,rfl⟩;refine ⟨Sx,?_⟩);refine q3V ?_;refine cU rfl rfl (fun w' hw=>⟨?_,hw.isBelow⟩)
 rfl
theorem zjc (x:Cp)(w:World):Calls Tryz.prog 87 #[.agg (Cp.cells x).toArray] w fun e w'=>e= .returned (.bool x.ok)∧Below w.heap.size w w':=by
 refine dB (M:=fun _=>False) (hs:=[]) Tryz.func87 rfl rfl rfl (Hp.refl _ _) ?_;simp only [Cp.cells];refine dd ?_; (refine cM (Wt.none) rfl rfl (dv) ?_;rintro _ _ ⟨g1,rfl,rfl⟩);refine gN ?_;refine em ?_; (refine cM (Wt.none) rfl rfl (cL rfl rfl rfl (fun w hw=>zb4 _ _)) ?_;rintro _ _ ⟨rfl,rfl⟩);refine dc ?_;refine dp rfl rfl rfl (fun h1=>?_) (fun h1=>?_)
 ·have p1:=h1; (try simp only [cT] at p1);refine q0I ?_; (refine cM (Wt.some rfl rfl rfl h1) rfl rfl (cL rfl rfl rfl (fun w hw=>zc6 _ _ _ _)) ?_;rintro _ _ ⟨rfl,rfl⟩);refine kH ?_;refine dc ?_;refine dp rfl rfl rfl (fun h2=>?_) (fun h2=>?_)
  ·have p2:=h2; (try simp only [cT] at p2);refine mw ?_;refine mw ?_; (refine cM (Wt.some rfl rfl rfl h2) rfl rfl (cL rfl rfl rfl (fun w hw=>zeA _ _ _)) ?_;rintro _ _ ⟨rfl,rfl⟩);refine q2E ?_;refine fB ?_;refine cU rfl rfl (fun w' hw=>⟨?_,hw.isBelow⟩);exact q4o
  ·have p2:=h2; (try simp only [cT] at p2);refine q0j ?_;refine q1M ?_;refine fB ?_;refine cU rfl rfl (fun w' hw=>⟨?_,hw.isBelow⟩);exact q4o
 ·have p1:=h1; (try simp only [cT] at p1);refine q1i ?_;refine TL.run 8 rfl ?_;refine gM ?_;refine cU rfl rfl (fun w' hw=>⟨?_,hw.isBelow⟩);exact q4o
theorem zf4 (x y:Cp)(w:World):Calls Tryz.prog 89 #[.agg (Cp.cells x).toArray, .agg (Cp.cells y).toArray] w fun e w'=>e= .returned (.int .i64 (x.cmp y))∧Below w.heap.size w w':=by
 refine dB (M:=fun _=>False) (hs:=[]) Tryz.func89 rfl rfl rfl (Hp.refl _ _) ?_;simp only [Cp.cells];refine dd ?_; (refine cM (Wt.none) rfl rfl (dv) ?_;rintro _ _ ⟨g2,rfl,rfl⟩); (refine cM (Wt.none) rfl rfl (dv) ?_;rintro _ _ ⟨g3,rfl,rfl⟩);refine j6 ?_;refine dF (sN 0 4 (sN 5 4 (sN 10 4 (sN 15 4 (.eff 4 (.eff 9 (.eff 14 (.eff 19 (.eff 20 (.eff 21 (.still 22 .done))))))))))) _ a8 (List.Sublist.refl _) ?_;refine q0z ?_;refine gu ?_;refine cN rfl (cX 1) ?_;refine lR ?_; (refine cZ rfl (Wt.none) rfl rfl (cL rfl rfl rfl (fun w hw=>kI _ _ _)) ?_;rintro _ _ ⟨rfl,rfl⟩;refine ⟨Sx,?_⟩);refine dx ?_; (refine cZ rfl (Wt.none) rfl rfl (cL rfl rfl rfl (fun w hw=>kI _ _ _)) ?_;rintro _ _ ⟨rfl,rfl⟩;refine ⟨Sx,?_⟩);refine dx ?_; (refine cZ rfl (Wt.none) rfl rfl (cL rfl rfl rfl (fun w hw=>kI _ _ _)) ?_;rintro _ _ ⟨rfl,rfl⟩;refine ⟨Sx,?_⟩);refine dx ?_; (refine cZ rfl (Wt.none) rfl rfl (cL rfl rfl rfl (fun w hw=>kI _ _ _)) ?_;rintro _ _ ⟨rfl,rfl⟩;refine ⟨Sx,?_⟩);refine dx ?_; (refine cZ rfl (Wt.none) rfl rfl (Ew.buildSlice rfl rfl rfl a7) ?_;rintro _ _ ⟨g25,rfl,rfl⟩;refine ⟨Sx,?_⟩);refine dx ?_; (refine cZ rfl (Wt.none) rfl rfl (cL rfl rfl rfl (fun w hw=>zkJ [dC x.st y.st,dC x.mx y.mx,dC x.lo y.lo,dC x.hi y.hi] _ w (SlOf.lit (enc:=Ie) (size:=1) (fun _=>rfl) _ (cV.1 (hw.get (i:=0) rfl)) rfl rfl) b2)) ?_;rintro _ _ ⟨rfl,rfl⟩;refine ⟨Sx,?_⟩);refine q3V ?_;refine cU rfl rfl (fun w' hw=>⟨?_,hw.isBelow⟩)
 rfl
theorem Cs.later {w w':World}(hb:Below w.heap.size w w'){g p:Nat}{l:List Value}(h:Cs w g p l):Cs w' g p l:=h.kept (gW hb) (fun h=>h)
def Dx.ok (d:Dx):Bool:=inB d.st 0 511&&(fm (fun c=>inB c 2 51) d.chs&&fg dC d.chs)
def Pb.rulesOk (P:Pb):Bool:=decide ((P.ps.length:Int)≤4096)&&(fm Pr.ok P.ps&&(fg Pr.cmp P.ps&&(decide ((P.ls.length:Int)≤1024)&&(fm Ld.ok P.ls&&(fg Ld.cmp P.ls&&(decide ((P.cs.length:Int)≤1024)&&(fm Cp.ok P.cs&&fg Cp.cmp P.cs)))))))
abbrev Ws:=List (BitVec 64)
abbrev Ws.cells (ws:Ws):List Value:=ws.map fun b=>U b
def fj:Ws:=List.replicate 8 0#64
def dT (ws:Ws)(i:Nat):Ws:=ws.set (i / 64) (cH ws (i / 64) ||| 1#64 <<< (i % 64))
def eA (ws:Ws)(i:Nat):Bool:=(cH ws (i / 64)).getLsbD (i % 64)
def jJ (ws:Ws)(i:Int):Bool:=inB i 0 511&&eA ws i.toNat
def lT (l:List Int):Ws:=l.foldl (fun s i=>dT s i.toNat) fj
theorem lc {ws:Ws}{i:Nat}:(dT ws i).length=ws.length:=by simp [dT]
theorem kZ (l:List Int):(lT l).length=8:=by
 have:∀(l:List Int) (s:Ws),(l.foldl (fun s i=>dT s i.toNat) s).length=s.length:=by
  intro l
  induction l with
  |nil=>intro s;rfl
  |cons x r ih=>intro s;simp only [List.foldl_cons,ih,lc]
 exact this l fj
theorem zkf {l:List Int}{k:Nat}(h:k<l.length):lT (l.take (k+1))=dT (lT (l.take k)) (cH l k).toNat:=by
 unfold lT;rw [List.take_succ_eq_append_getElem h,d4 h,List.foldl_append];rfl
theorem Ws.get {ws:Ws}{i p:Nat}(h:i<ws.length)(hp:p=i):ws.cells[p]?=some (U (cH ws i)):=by
 subst hp;simp [cH,h]
theorem Ws.put {ws:Ws}{i p:Nat}{b:BitVec 64}(hp:p=i):ws.cells.set p (U b)=Ws.cells (ws.set i b):=by
 subst hp;simp [List.map_set]
theorem ziI (a:BitVec 64)(j:Nat):decide (((((a >>> j) &&& 1#64).toNat:Nat):Int)=1)=a.getLsbD j:=by
 rw [BitVec.toNat_and,BitVec.toNat_ushiftRight]
 show decide ((((a.toNat >>> j &&& 1):Nat):Int)=1)=a.toNat.testBit j
 rw [Nat.and_one_is_mod,Nat.testBit,Nat.and_comm,Nat.and_one_is_mod];rcases Nat.mod_two_eq_zero_or_one (a.toNat >>> j) with h|h <;> rw [h] <;> rfl
theorem zfY {ws:Ws}{i j:Nat}(hl:ws.length=8)(hi:i<512)(hj:j<512):eA (dT ws i) j=(eA ws j||decide (i=j)):=by
 unfold eA dT cH;simp only [List.getD_eq_getElem?_getD];by_cases h:i / 64=j / 64
 ·rw [h,List.getElem?_set_self a6];simp only [Option.getD_some,BitVec.getLsbD_or,BitVec.getLsbD_shiftLeft];by_cases h2:i=j
  ·subst h2;have hm:i % 64<64:=Nat.mod_lt _ a7;simp [hm]
  ·(have hm:¬i % 64=j % 64:=by omega);rw [decide_eq_false h2,Bool.or_false]
   have:(decide (j % 64<64)&& !decide (j % 64<i % 64)&&(1#64).getLsbD (j % 64 - i % 64))=false:=by
    by_cases h3:j % 64<i % 64
    ·simp [h3]
    ·rw [show (1#64).getLsbD (j % 64 - i % 64)=false from by rw [BitVec.getLsbD_one];simp;omega];simp
   rw [this,Bool.or_false]
 ·rw [List.getElem?_set_ne h,decide_eq_false (by intro hh;subst hh;exact h rfl),Bool.or_false]
theorem zdL (j:Nat):eA fj j=false:=by
 unfold eA fj cH;rw [List.getD_eq_getElem?_getD,List.getElem?_replicate]
 split
 ·simp
 ·exact BitVec.getLsbD_zero
theorem zhO (l:List Int)(hl:∀x∈l,0≤x∧x≤511)(j:Int):jJ (lT l) j=true↔j∈l:=by
 have key:∀(l:List Int) (s:Ws),s.length=8→(∀x∈l,0≤x∧x≤511)→∀j:Nat,j<512→(eA (l.foldl (fun s i=>dT s i.toNat) s) j=true↔eA s j=true∨(j:Int)∈l):=by
  intro l
  induction l with
  |nil=>intro s _ _ j _;simp
  |cons x r ih=>
   intro s hs hx j hj;have h1:=hx x b2;rw [List.foldl_cons,ih _ (by rw [lc,hs]) (fun y hy=>hx y (by simp [hy])) j hj,zfY hs a6 hj];simp only [Bool.or_eq_true,decide_eq_true_eq,List.mem_cons];constructor
   ·rintro ((h|h)|h)
    ·exact .inl h
    ·exact .inr (.inl a6)
    ·exact .inr (.inr h)
   ·rintro (h|h|h)
    ·exact .inl (.inl h)
    ·exact .inl (.inr a6)
    ·exact .inr h
 unfold jJ inB;by_cases h:0≤j∧j≤511
 ·rw [decide_eq_true h.1,decide_eq_true h.2,Bool.and_true,Bool.true_and,show eA (lT l) j.toNat=true↔_ from key l fj (by rfl) hl j.toNat a6,zdL,Int.toNat_of_nonneg h.1];simp
 ·constructor
  ·intro hh;simp only [Bool.and_eq_true,decide_eq_true_eq] at hh;exact absurd hh.1 h
  ·intro hm;exact absurd (hl j hm) h
def Pb.has (P:Pb)(i:Int):Bool:=jJ (lT (P.ds.map (·.st))) i
def Pb.ok (P:Pb):Bool:=fm Dx.ok P.ds&&(P.rulesOk&&(fg (fun a b=>dC a.st b.st) P.ds&&(fm (fun x:Pr=>P.has x.a&&P.has x.b) P.ps&&(fm (fun x:Ld=>P.has x.to&&P.has x.fr) P.ls&&fm (fun x:Cp=>P.has x.st) P.cs))))
theorem zem {α:Type}[Inhabited α]{q:α→Bool}{xs:List α}:fm q xs=true↔∀k,k<xs.length→q (cH xs k)=true:=by
 unfold fm;rw [List.all_eq_true];simp only [List.mem_range]
theorem dX {α:Type}[Inhabited α]{q:α→Bool}{xs:List α}:fm q xs=true↔∀x∈xs,q x=true:=by
 rw [zem];constructor
 ·intro h x hx;obtain ⟨k,hk,rfl⟩:=List.mem_iff_getElem.1 hx;rw [←d4 hk];exact h k hk
 ·intro h k hk;exact h _ (iR hk)
theorem gT {α:Type}[Inhabited α]{c:α→α→Int}{xs:List α}:fg c xs=true↔∀k,k+1<xs.length→c (cH xs k) (cH xs (k+1))<0:=by
 unfold fg;rw [List.all_eq_true];simp only [List.mem_range];constructor
 ·intro h k hk;have:=h (k+1) hk;simp at this;omega
 ·intro h k hk
  cases k with
  |zero=>rfl
  |succ k=>have:=h k hk;simp;omega
theorem kD {a b:Int}:dC a b<0↔a<b:=by unfold dC;split <;> (try split) <;> omega
theorem zk1 {α:Type}[Inhabited α]{f:α→Int}{xs:List α}(hi:fg (fun a b=>dC (f a) (f b)) xs=true)(h0:∀x∈xs,0≤f x):∀k,k<xs.length→(k:Int)≤f (cH xs k)
 |0,h=>h0 _ (iR h)
 |k+1,h=>by
  have h1:=zk1 hi h0 k a6;have h2:=kD.1 (gT.1 hi k h);omega
theorem zlf {xs:List Dx}(hi:fg (fun a b:Dx=>dC a.st b.st) xs=true)(hr:fm Dx.ok xs=true):xs.length≤512:=by
 have hst:∀x∈xs,0≤x.st∧x.st≤511:=fun x hx=>by
  have:=dX.1 hr x hx;simp only [Dx.ok,inB,Bool.and_eq_true,decide_eq_true_eq] at this;exact this.1
 rcases Nat.lt_or_ge 512 xs.length with h|h
 ·have h1:=zk1 (f:=Dx.st) hi (fun x hx=>(hst x hx).1) 512 h;have h2:=hst _ (iR h);omega
 ·exact h
theorem zkz (c:Int)(w:World):Calls Tryz.prog 78 #[.int .i64 c] w fun e w'=>e= .returned (.bool (inB c 2 51))∧Below w.heap.size w w':=by
 refine dB (M:=fun _=>False) (hs:=[]) Tryz.func78 rfl rfl rfl (Hp.refl _ _) ?_;refine l5 ?_; (refine cM (Wt.none) rfl rfl (cL rfl rfl rfl (fun w hw=>zc6 _ _ _ _)) ?_;rintro _ _ ⟨rfl,rfl⟩);refine fB ?_;refine cU rfl rfl (fun w' hw=>⟨?_,hw.isBelow⟩)
 rfl
theorem zgD (d:Dx)(w:World)(h:zgn w d.v d.chs)(hl:d.chs.length≤9223372036854775807):Calls Tryz.prog 46 #[.agg (Dx.cells d).toArray] w fun e w'=>e= .returned (.bool d.ok)∧Below w.heap.size w w':=by
 haveI:=h.one;refine dB (M:=fun _=>False) (hs:=[]) Tryz.func46 rfl rfl rfl (Hp.refl _ _) ?_;simp only [Dx.cells];refine dd ?_; (refine cM (Wt.none) rfl rfl (dv) ?_;rintro _ _ ⟨g1,rfl,rfl⟩);refine gN ?_;refine gN ?_;refine em ?_; (refine cM (Wt.none) rfl rfl (cL rfl rfl rfl (fun w hw=>zb4 _ _)) ?_;rintro _ _ ⟨rfl,rfl⟩);refine dc ?_;refine dp rfl rfl rfl (fun h1=>?_) (fun h1=>?_)
 ·have p1:=h1; (try simp only [cT] at p1);refine q0I ?_;refine jT ?_; (refine cM (Wt.some rfl rfl rfl h1) rfl rfl (cL rfl rfl rfl (fun w hw=>zmE (q:=fun c=>inB c 2 51) d.chs _ _ #[] w (h.kept hw) (fun k hk w1 hb=>zkz _ w1) hl)) ?_;rintro _ _ ⟨rfl,rfl⟩);refine kH ?_;refine dc ?_;refine dp rfl rfl rfl (fun h2=>?_) (fun h2=>?_)
  ·have p2:=h2; (try simp only [cT] at p2);refine mw ?_; (refine cM (Wt.some rfl rfl rfl h2) rfl rfl (cL rfl rfl rfl (fun w hw=>zhC (c:=dC) d.chs _ _ w (h.kept hw) (fun x y w1=>kI x y w1) hl)) ?_;rintro _ _ ⟨rfl,rfl⟩);refine q2E ?_;refine fB ?_;refine cU rfl rfl (fun w' hw=>⟨?_,hw.isBelow⟩);exact q4p
  ·have p2:=h2; (try simp only [cT] at p2);refine q0j ?_;refine q3T ?_;refine fB ?_;refine cU rfl rfl (fun w' hw=>⟨?_,hw.isBelow⟩);exact q4p
 ·have p1:=h1; (try simp only [cT] at p1);refine kb ?_;refine kb ?_;refine q2Q ?_;refine TL.run 6 rfl ?_;refine gM ?_;refine cU rfl rfl (fun w' hw=>⟨?_,hw.isBelow⟩);exact q4p
theorem zhu (x y:Dx)(hx:OneC x.v)(hy:OneC y.v)(w:World):Calls Tryz.prog 48 #[.agg (Dx.cells x).toArray, .agg (Dx.cells y).toArray] w fun e w'=>e= .returned (.int .i64 (dC x.st y.st))∧Below w.heap.size w w':=by
 refine dB (M:=fun _=>False) (hs:=[]) Tryz.func48 rfl rfl rfl (Hp.refl _ _) ?_;simp only [Dx.cells];refine dd ?_; (refine cM (Wt.none) rfl rfl (dv) ?_;rintro _ _ ⟨g2,rfl,rfl⟩); (refine cM (Wt.none) rfl rfl (dv) ?_;rintro _ _ ⟨g3,rfl,rfl⟩);refine gN ?_;refine kS ?_;refine em ?_; (refine cM (Wt.none) rfl rfl (cL rfl rfl rfl (fun w hw=>kI _ _ _)) ?_;rintro _ _ ⟨rfl,rfl⟩);refine fB ?_;refine cU rfl rfl (fun w' hw=>⟨?_,hw.isBelow⟩)
 rfl
theorem zgI (P:Pb)(vp vl vc:Value)(w:World)(h:RulesAt w vp vl vc P):Calls Tryz.prog 47 #[.agg [vp,vl,vc].toArray] w fun e w'=>e= .returned (.bool P.rulesOk)∧Below w.heap.size w w':=by
 obtain ⟨A1,cap1,rfl, -⟩:=h.ps.op;obtain ⟨A2,cap2,rfl, -⟩:=h.ls.op;obtain ⟨A3,cap3,rfl, -⟩:=h.cs.op;refine dB (M:=fun _=>False) (hs:=[]) Tryz.func47 rfl rfl rfl (Hp.refl _ _) ?_;refine dd ?_; (refine cM (Wt.none) rfl rfl (dv) ?_;rintro _ _ ⟨g1,rfl,rfl⟩);refine gN ?_;refine em ?_;refine q3B ?_;refine ec ?_;refine dp rfl rfl rfl (fun h1=>?_) (fun h1=>?_)
 ·have p1:=h1; (try simp only [cT] at p1);refine q0I ?_; (refine cM (Wt.some rfl rfl rfl h1) rfl rfl (cL rfl rfl rfl (fun w hw=>zkX (q:=Pr.ok) P.ps _ 81 #[] w (h.ps.kept hw) (fun k hk w1 hb=>ziD _ w1) h.hps)) ?_;rintro _ _ ⟨rfl,rfl⟩);refine kH ?_;refine dc ?_;refine dp rfl rfl rfl (fun h2=>?_) (fun h2=>?_)
  ·have p2:=h2; (try simp only [cT] at p2);refine mw ?_; (refine cM (Wt.some rfl rfl rfl h2) rfl rfl (cL rfl rfl rfl (fun w hw=>ziE (c:=Pr.cmp) P.ps _ 83 w (h.ps.kept hw) (fun x y w1=>zfF x y w1) h.hps)) ?_;rintro _ _ ⟨rfl,rfl⟩);refine q2E ?_;refine dc ?_;refine dp rfl rfl rfl (fun h3=>?_) (fun h3=>?_)
   ·have p3:=h3; (try simp only [cT] at p3);refine q0O ?_;refine cW (Wt.some rfl rfl rfl h3) rfl rfl (gV rfl rfl) ?_;refine q1K ?_;refine q3u ?_;refine dc ?_;refine dp rfl rfl rfl (fun h4=>?_) (fun h4=>?_)
    ·have p4:=h4; (try simp only [cT] at p4);refine q0P ?_; (refine cM (Wt.some rfl rfl rfl h4) rfl rfl (cL rfl rfl rfl (fun w hw=>zkN (q:=Ld.ok) P.ls _ 84 #[] w (h.ls.kept hw) (fun k hk w1 hb=>zh9 _ w1) h.hls)) ?_;rintro _ _ ⟨rfl,rfl⟩);refine cK (eC rfl rfl h4) ?_;refine dc ?_;refine dp rfl rfl rfl (fun h5=>?_) (fun h5=>?_)
     ·have p5:=h5; (try simp only [cT] at p5);refine cW (Wt.some rfl rfl rfl h5) rfl rfl (Yv.fieldAddr) ?_;refine cW (Wt.some rfl rfl rfl h5) rfl rfl (cX 0) ?_; (refine cM (Wt.some rfl rfl rfl h5) rfl rfl (cL rfl rfl rfl (fun w hw=>zim (c:=Ld.cmp) P.ls _ 86 w (h.ls.kept hw) (fun x y w1=>zfG x y w1) h.hls)) ?_;rintro _ _ ⟨rfl,rfl⟩);refine cK (eC rfl rfl h5) ?_;refine dc ?_;refine dp rfl rfl rfl (fun h6=>?_) (fun h6=>?_)
      ·have p6:=h6; (try simp only [cT] at p6);refine cW (Wt.some rfl rfl rfl h6) rfl rfl (Yv.fieldAddr) ?_;refine cW (Wt.some rfl rfl rfl h6) rfl rfl (cX 0) ?_;refine cW (Wt.some rfl rfl rfl h6) rfl rfl (gV rfl rfl) ?_;refine cW (Wt.some rfl rfl rfl h6) rfl rfl (dY) ?_;refine cK (eC rfl rfl h6) ?_;refine dc ?_;refine dp rfl rfl rfl (fun h7=>?_) (fun h7=>?_)
       ·have p7:=h7; (try simp only [cT] at p7);refine q3D ?_; (refine cM (Wt.some rfl rfl rfl h7) rfl rfl (cL rfl rfl rfl (fun w hw=>zlU (q:=Cp.ok) P.cs _ 87 #[] w (h.cs.kept hw) (fun k hk w1 hb=>zjc _ w1) h.hcs)) ?_;rintro _ _ ⟨rfl,rfl⟩);refine cK (eC rfl rfl h7) ?_;refine dc ?_;refine dp rfl rfl rfl (fun h8=>?_) (fun h8=>?_)
        ·have p8:=h8; (try simp only [cT] at p8);refine q3F ?_; (refine cM (Wt.some rfl rfl rfl h8) rfl rfl (cL rfl rfl rfl (fun w hw=>zid (c:=Cp.cmp) P.cs _ 89 w (h.cs.kept hw) (fun x y w1=>zf4 x y w1) h.hcs)) ?_;rintro _ _ ⟨rfl,rfl⟩);refine cK (eC rfl rfl h8) ?_;refine fB ?_;refine cU rfl rfl (fun w' hw=>⟨?_,hw.isBelow⟩);exact q31
        ·have p8:=h8; (try simp only [cT] at p8);refine q1h ?_;refine cK (ef rfl rfl h8) ?_;refine fB ?_;refine cU rfl rfl (fun w' hw=>⟨?_,hw.isBelow⟩);exact q31
       ·have p7:=h7; (try simp only [cT] at p7);refine q1A ?_;refine TL.off (Wt.not rfl rfl rfl h7) rfl rfl ?_;refine cK (ef rfl rfl h7) ?_;refine TL.run 6 rfl ?_;refine gM ?_;refine cU rfl rfl (fun w' hw=>⟨?_,hw.isBelow⟩);exact q31
      ·have p6:=h6; (try simp only [cT] at p6);refine q0Z ?_;refine q0Z ?_;refine cK (ef rfl rfl h6) ?_;refine TL.run 11 rfl ?_;refine gM ?_;refine cU rfl rfl (fun w' hw=>⟨?_,hw.isBelow⟩);exact q31
     ·have p5:=h5; (try simp only [cT] at p5);refine q1B ?_;refine TL.off (Wt.not rfl rfl rfl h5) rfl rfl ?_;refine cK (ef rfl rfl h5) ?_;refine TL.run 17 rfl ?_;refine gM ?_;refine cU rfl rfl (fun w' hw=>⟨?_,hw.isBelow⟩);exact q31
    ·have p4:=h4; (try simp only [cT] at p4);refine q0p ?_;refine cK (ef rfl rfl h4) ?_;refine TL.run 22 rfl ?_;refine gM ?_;refine cU rfl rfl (fun w' hw=>⟨?_,hw.isBelow⟩);exact q31
   ·have p3:=h3; (try simp only [cT] at p3);refine q21 ?_;refine TL.run 27 rfl ?_;refine gM ?_;refine cU rfl rfl (fun w' hw=>⟨?_,hw.isBelow⟩);exact q31
  ·have p2:=h2; (try simp only [cT] at p2);refine q0j ?_;refine q3T ?_;refine TL.run 33 rfl ?_;refine gM ?_;refine cU rfl rfl (fun w' hw=>⟨?_,hw.isBelow⟩);exact q31
 ·have p1:=h1; (try simp only [cT] at p1);refine q1i ?_;refine TL.run 38 rfl ?_;refine gM ?_;refine cU rfl rfl (fun w' hw=>⟨?_,hw.isBelow⟩);exact q31
theorem zeF (i:Int)(w:World):Calls Tryz.prog 92 #[.int .i64 i] w fun e w'=>e= .returned (.bool (inB i 0 511))∧Below w.heap.size w w':=by
 refine dB (M:=fun _=>False) (hs:=[]) Tryz.func92 rfl rfl rfl (Hp.refl _ _) ?_;refine dd ?_;refine TL.run 1 rfl ?_;refine dq ?_;refine TL.run 3 rfl ?_;refine dp rfl rfl rfl (fun h1=>?_) (fun h1=>?_)
 ·have p1:=h1; (try simp only [cT] at p1);refine cW (Wt.some rfl rfl rfl h1) rfl rfl (dY rfl) ?_;refine cW (Wt.some rfl rfl rfl h1) rfl rfl (dY rfl) ?_;refine cK (eC rfl rfl h1 rfl) ?_;refine TL.run 1 rfl ?_;refine cR (T.ret ?_);refine cU rfl rfl (fun w' hw=>⟨?_,hw.isBelow⟩);refine j0 ?_;simp only [inB, *,Bool.not_true,Bool.not_false,Bool.or_false,Bool.false_or,Bool.or_true,Bool.true_or,Bool.and_false,Bool.false_and,Bool.true_and,Bool.and_true,Bool.or_self,Bool.and_self,Bool.not_not,decide_true,decide_false,not_true_eq_false,not_false_eq_true,cond_true,cond_false]; (try exact decide_eq_decide.2 (by omega))
 ·have p1:=h1; (try simp only [cT] at p1);refine TL.off (Wt.not rfl rfl rfl h1) rfl rfl ?_;refine TL.off (Wt.not rfl rfl rfl h1) rfl rfl ?_;refine cK (ef rfl rfl h1 rfl) ?_;refine TL.run 1 rfl ?_;refine cR (T.ret ?_);refine cU rfl rfl (fun w' hw=>⟨?_,hw.isBelow⟩);refine j0 ?_;simp only [inB, *,Bool.not_true,Bool.not_false,Bool.or_false,Bool.false_or,Bool.or_true,Bool.true_or,Bool.and_false,Bool.false_and,Bool.true_and,Bool.and_true,Bool.or_self,Bool.and_self,Bool.not_not,decide_true,decide_false,not_true_eq_false,not_false_eq_true,cond_true,cond_false]; (try exact decide_eq_decide.2 (by omega))
theorem zga (ws:Ws)(hws:ws.length=8)(i:Int)(w:World):Calls Tryz.prog 54 #[.agg ws.cells.toArray, .int .i64 i] w fun e w'=>e= .returned (.bool (jJ ws i))∧Below w.heap.size w w':=by
 refine dB (M:=fun _=>False) (hs:=[]) Tryz.func54 rfl rfl rfl (Hp.refl _ _) ?_;refine dd ?_; (refine cM (Wt.none) rfl rfl (dv) ?_;rintro _ _ ⟨g2,rfl,rfl⟩);refine mZ ?_; (refine cM (Wt.none) rfl rfl (cL rfl rfl rfl (fun w hw=>zeF _ _)) ?_;rintro _ _ ⟨rfl,rfl⟩);refine dc ?_;refine dp rfl rfl rfl (fun h1=>?_) (fun h1=>?_)
 ·have p1:=h1; (try simp only [cT] at p1); (try simp only [inB,Bool.and_eq_true,decide_eq_true_eq] at p1); (try have hld:=Ws.get (ws:=ws) (i:=i.toNat / 64) (p:=0+0+i.toNat / 64*1) a6 a6);refine jT ?_;refine cW (Wt.some rfl rfl rfl h1) rfl rfl (ly rfl rfl rfl a6) ?_;refine cW (Wt.some rfl rfl rfl h1) rfl rfl (Yv.fieldAddr) ?_;refine cW (Wt.some rfl rfl rfl h1) rfl rfl (ed rfl rfl rfl (show i / 64=((i.toNat / 64:Nat):Int) from by omega) a6) ?_;refine cW (Wt.some rfl rfl rfl h1) rfl rfl (cX 0 rfl rfl rfl hld) ?_;refine jT ?_;refine cW (Wt.some rfl rfl rfl h1) rfl rfl (kq rfl rfl rfl a6) ?_;refine cW (Wt.some rfl rfl rfl h1) rfl rfl (gz (i.toNat % 64) rfl rfl rfl a6 a6) ?_;refine cW (Wt.some rfl rfl rfl h1) rfl rfl (f9 (b:=1#64)) ?_;refine jT ?_;refine kH ?_;refine fB ?_;refine cU rfl rfl (fun w' hw=>⟨?_,hw.isBelow⟩);exact q4z
 ·have p1:=h1; (try simp only [cT] at p1); (try simp only [inB,Bool.and_eq_true,decide_eq_true_eq] at p1); (try have hld:=Ws.get (ws:=ws) (i:=i.toNat / 64) (p:=0+0+i.toNat / 64*1) a6 a6);refine kb ?_;refine kb ?_;refine kb ?_;refine kb ?_;refine kb ?_;refine q2Q ?_;refine fB ?_;refine cU rfl rfl (fun w' hw=>⟨?_,hw.isBelow⟩);exact q4z
theorem zoH (l:List Int)(v:Value)(w:World)(h:zgn w v l)(hl:l.length≤9223372036854775807)(hr:∀x∈l,0≤x∧x≤511):Calls Tryz.prog 91 #[v] w fun e w'=>e= .returned (.tuple #[.agg (Ws.cells (lT l)).toArray, .int .i64 0])∧Below w.heap.size w w':=by
 obtain ⟨A,cap,rfl,hsl⟩:=h.op;refine dB (M:=fun _=>False) (hs:=[]) Tryz.func91 rfl rfl rfl (Hp.refl _ _) ?_;refine dd ?_; (refine cM (Wt.none) rfl rfl (Ew.alloc) ?_;rintro _ _ ⟨g2,rfl,rfl⟩);refine gN ?_; (refine cM (Wt.none) rfl rfl (Ew.alloc) ?_;rintro _ _ ⟨g4,rfl,rfl⟩);refine ij ?_;refine dc ?_;refine jz ?_;refine T.loop (ι:=Nat) (fun k=>[(2, .pointer (some ⟨g2,0,none⟩)),(4, .pointer (some ⟨g4,0,none⟩)),(7, .slice A l.length cap),(8, .int .i64 (l.length:Int)),(9, .int .i64 (k:Int))]) (fun k=>[.row g4 101 (Ws.cells (lT (l.take k))), .row g2 101 (Ws.cells fj)]) (fun k=>k≤l.length) (fun k=>l.length - k) 0 ?_ ?_ ?_ ?_
 ·omega
 ·exact (by repeat (first|exact Sub.nil|refine Sub.cons rfl ?_))
 ·exact Sx
 ·intro k hphi;have hlen:=kZ (l.take k); (have hsl8:(Ws.cells (lT (l.take k))).length=8:=by rw [List.length_map,hlen]);refine fk ?_;refine T.cond rfl (fun h1=>?_) (fun h1=>?_)
  ·have p1:=h1; (try simp only [cT] at p1);obtain ⟨g,off,rfl,hc⟩:=hsl a6;have hk:=hc k a6;simp only [Ie] at hk;have hr1:=hr _ (iR (xs:=l) (k:=k) a6);have hld:=Ws.get (ws:=lT (l.take k)) (i:=(cH l k).toNat / 64) (p:=0+0+(cH l k).toNat / 64*1) a6 a6;refine fT ?_;refine q1H ?_;refine jD ?_;refine dc ?_; (refine cM (Wt.none) rfl rfl (cL rfl rfl rfl (fun w hw=>zeF _ _)) ?_;rintro _ _ ⟨rfl,rfl⟩);refine dR ?_;refine iq rfl (by rw [inB,decide_eq_true hr1.1,decide_eq_true hr1.2];rfl) ?_;refine T.skip (K.seq ?_);refine dF (sN 0 4 (sN 5 3 (.still 9 (.eff 4 (.still 8 (.still 10 (.eff 11 .done))))))) [.row g2 101 (Ws.cells fj)] a8 Sx ?_;refine eR ?_;refine cN rfl (ly rfl rfl rfl a6) ?_;refine gu ?_;refine cN rfl (ed rfl rfl rfl (show (cH l k) / 64=(((cH l k).toNat / 64:Nat):Int) from by omega) a6) ?_;refine eR ?_;refine cN rfl (kq rfl rfl rfl a6) ?_;refine cN rfl (it (a:=1#64) ((cH l k).toNat % 64) rfl rfl rfl a6 a6) ?_;refine mI ?_;refine ez rfl (Wt.none) rfl rfl (cX 0 rfl rfl rfl hld) Sx ?_;refine cN rfl (jl) ?_;refine cN rfl (ed rfl rfl rfl (show (cH l k) / 64=(((cH l k).toNat / 64:Nat):Int) from by omega) a6) ?_;refine dx ?_; (refine dD rfl (Wt.none) rfl (iL 0 (Ws.cells (dT (lT (l.take k)) (cH l k).toNat)) rfl rfl rfl rfl (by rw [List.length_map,hlen];omega) (Ws.put a6)) ?_;rintro _ _ ⟨rfl,rfl⟩;refine ⟨Sx,?_⟩);refine q1W ?_;exact K.next (k+1) a6 a6 (by repeat (first|exact Sub.nil|refine Sub.cons rfl ?_)) (by rw [zkf a6];exact Sx)
  ·have p1:=h1; (try simp only [cT] at p1);refine mh ?_;refine cK (fx 0 rfl rfl rfl hsl8) ?_; (refine dJ (Wt.none) rfl (dG 1 rfl rfl rfl rfl (by rw [List.length_map,kZ]) (by rw [List.length_map,kZ];rfl)) ?_;rintro _ _ ⟨rfl,rfl⟩);refine fB ?_;exact jH 1 rfl rfl rfl rfl (by rw [List.length_map,kZ]) (fun w' hw=>⟨by rw [List.take_of_length_le a6],hw.isBelow⟩)
def fG (f:Nat→Value)(z:Value)(n k:Nat):List Value:=(List.range k).map f++List.replicate (n - k) z
theorem zeS {f:Nat→Value}{z:Value}{n k:Nat}(h:k≤n):(fG f z n k).length=n:=by simp [fG];omega
theorem ze6 {f:Nat→Value}{z:Value}{n k p:Nat}(h:k<n)(hp:p=k):(fG f z n k).set p (f k)=fG f z n (k+1):=by
 subst hp;unfold fG;rw [List.set_append_right _ _ b2,show n - p=(n - (p+1))+1 by omega,List.replicate_succ,List.range_succ,List.map_append];simp
theorem ze5 (z:Value)(n:Nat):(madeCells [z].toArray (n*1)).toList=fG (fun _=>z) z n 0:=by
 apply List.ext_getElem?;intro i;by_cases h:i<n
 ·simp [fG,madeCells,List.getElem?_replicate,Nat.mod_one,h]
 ·simp [fG,madeCells,List.getElem?_replicate,h]
theorem ziq {α:Type}[Inhabited α]{xs:List α}{f:Nat→Value}{z:Value}(g:α→Int)(hf:∀j,f j= .int .i64 (g (cH xs j))){k:Nat}(hk:k=xs.length):fG f z xs.length k=(xs.map g).flatMap Ie:=by
 subst hk;unfold fG;apply List.ext_getElem?;intro i
 have e:(xs.map g).flatMap Ie=(xs.map g).map (fun z=>Value.int .i64 z):=by
  have:∀l:List Int,l.flatMap Ie=l.map (fun z=>Value.int .i64 z):=by
   intro l
   induction l with
   |nil=>rfl
   |cons x r ih=>simp [List.flatMap_cons,Ie,ih]
  exact this _
 rw [e];simp only [Nat.sub_self,List.replicate_zero,List.append_nil,List.getElem?_map,List.getElem?_range];by_cases h:i<xs.length
 ·simp [h,hf,cH]
 ·simp [h]
theorem zi9 (P:Pb)(vd vp vl vc:Value)(w:World)(h:ProbAt w vd vp vl vc P)(hn:P.ds.length≤512)(hr:∀d∈P.ds,0≤d.st∧d.st≤511):Calls Tryz.prog 51 #[.agg [vd,vp,vl,vc].toArray] w fun e w'=>e= .returned (.agg (Ws.cells (lT (P.ds.map (·.st)))).toArray)∧Below w.heap.size w w':=by
 obtain ⟨A,cap,rfl,hsl⟩:=h.ds.sl.op;obtain ⟨A1,cap1,rfl, -⟩:=h.ru.ps.op;obtain ⟨A2,cap2,rfl, -⟩:=h.ru.ls.op;obtain ⟨A3,cap3,rfl, -⟩:=h.ru.cs.op;refine dB (M:=fun _=>False) (hs:=[]) Tryz.func51 rfl rfl rfl (Hp.refl _ _) ?_;refine dd ?_; (refine cM (Wt.none) rfl rfl (dv) ?_;rintro _ _ ⟨g1,rfl,rfl⟩); (refine cM (Wt.none) rfl rfl (Ew.alloc) ?_;rintro _ _ ⟨g2,rfl,rfl⟩);refine dq ?_;refine kS ?_;refine q3B ?_; (refine cM (Wt.none) rfl rfl (Ew.makeSlice rfl rfl rfl rfl rfl a6 a6) ?_;rintro _ _ ⟨g11,rfl,rfl⟩);refine dR ?_;refine T.cut (gs:=[(2, .pointer (some ⟨g2,0,none⟩)),(3,(.slice (some ⟨g11,0,none⟩) P.ds.length P.ds.length))]) (hs':=[.sl (.slice (some ⟨g11,0,none⟩) P.ds.length P.ds.length) 3 1 P.ds.length ((P.ds.map (·.st)).flatMap Ie), .row g2 101 (Ws.cells fj)]) ?_ ?_
 ·skip;refine T.seq ?_;rw [ze5];refine fN ?_;refine q18 ?_;refine jz ?_;refine T.loop (ι:=Nat) (fun k=>[(2, .pointer (some ⟨g2,0,none⟩)),(3,(.slice (some ⟨g11,0,none⟩) P.ds.length P.ds.length)),(13, .slice A P.ds.length cap),(14, .int .i64 (P.ds.length:Int)),(15, .int .i64 (k:Int))]) (fun k=>[.sl (.slice (some ⟨g11,0,none⟩) P.ds.length P.ds.length) 3 1 P.ds.length (fG (fun j=> .int .i64 (cH P.ds j).st) (.int .i64 0) P.ds.length k), .row g2 101 (Ws.cells fj)]) (fun k=>k≤P.ds.length) (fun k=>P.ds.length - k) 0 ?_ ?_ ?_ ?_
  ·omega
  ·exact (by repeat (first|exact Sub.nil|refine Sub.cons rfl ?_))
  ·exact Sx
  ·intro k hphi;refine fk ?_;refine T.cond rfl (fun h1=>?_) (fun h1=>?_)
   ·have p1:=h1; (try simp only [cT] at p1);obtain ⟨g,off,rfl,hc⟩:=hsl a6;have hk:=hc k a6;haveI:=(h.ds.at (k:=k) a6).one;simp only [Dx.cells] at hk;refine fT ?_;refine dc ?_;refine lK ?_; (refine cM (Wt.none) rfl rfl (Ew.alloc) ?_;rintro _ _ ⟨g5,rfl,rfl⟩);refine dc ?_; (refine dJ (Wt.none) rfl (dG 0) ?_;rintro _ _ ⟨rfl,rfl⟩);refine cR (T.region ?_);refine ec ?_;refine em ?_;refine q0x ?_; (refine dJ (Wt.none) rfl (fh 1 (fG (fun j=> .int .i64 (cH P.ds j).st) (.int .i64 0) P.ds.length (k+1)) rfl rfl rfl rfl (by rw [zeS a6];omega) (ze6 a6 a6)) ?_;rintro _ _ ⟨rfl,rfl⟩);refine lN ?_;exact K.next (k+1) a6 a6 (by repeat (first|exact Sub.nil|refine Sub.cons rfl ?_)) Sx
   ·have p1:=h1; (try simp only [cT] at p1);refine fu ?_;exact K.at (by repeat (first|exact Sub.nil|refine Sub.cons rfl ?_)) (by rw [ziq (fun d:Dx=>d.st) (fun _=>rfl) (show k=P.ds.length by omega)];exact Sx)
 ·skip;refine ic ?_; (refine cM (Wt.none) rfl rfl (cL rfl rfl rfl (fun w hw=>zoH (P.ds.map (·.st)) _ w (kQ (enc:=Ie) (fun _=>rfl) hw 0 rfl b2) cE (by intro x hx;obtain ⟨d,hd,rfl⟩:=List.mem_map.1 hx;exact hr d hd))) ?_;rintro _ _ ⟨rfl,rfl⟩);refine fb ?_; (refine cM (Wt.none) rfl rfl (Ew.alloc) ?_;rintro _ _ ⟨g6,rfl,rfl⟩); (refine dJ (Wt.none) rfl (dG 0 rfl rfl rfl rfl (by rw [List.length_map,kZ]) (by rw [List.length_map,kZ];rfl)) ?_;rintro _ _ ⟨rfl,rfl⟩);refine gN ?_;refine cK (fx 0 rfl rfl rfl (by rw [List.length_map,kZ])) ?_; (refine dJ (Wt.none) rfl (dG 2 rfl rfl rfl rfl (by rw [List.length_map,kZ]) (by rw [List.length_map,List.length_map,kZ];rfl)) ?_;rintro _ _ ⟨rfl,rfl⟩);refine gM ?_;exact mG 2 rfl rfl rfl (by rw [List.length_map,kZ]) (fun w' hw=>⟨rfl,hw.isBelow⟩)
theorem zi6 (x:Pr)(ws:Ws)(hws:ws.length=8)(p:Nat)(w:World)(hp:Cs w p 0 ws.cells):Calls Tryz.prog 53 #[.agg (Pr.cells x).toArray, .pointer (some ⟨p,0,none⟩)] w fun e w'=>e= .returned (.bool (jJ ws x.a&&jJ ws x.b))∧Below w.heap.size w w':=by
 refine dB (M:=fun _=>False) (hs:=[]) Tryz.func53 rfl rfl rfl (Hp.refl _ _) ?_;simp only [Pr.cells];refine dd ?_; (refine cM (Wt.none) rfl rfl (dv) ?_;rintro _ _ ⟨g2,rfl,rfl⟩);refine q2X ?_; (refine cM (Wt.none) rfl rfl (cL rfl rfl rfl (fun w hw=>zga ws hws _ w)) ?_;rintro _ _ ⟨rfl,rfl⟩);refine dc ?_;refine dp rfl rfl rfl (fun h1=>?_) (fun h1=>?_)
 ·have p1:=h1; (try simp only [cT] at p1);refine cW (Wt.some rfl rfl rfl h1) rfl rfl (iv rfl rfl hp (by rw [List.length_map,hws]) (fun h=>h)) ?_;refine q0I ?_; (refine cM (Wt.some rfl rfl rfl h1) rfl rfl (cL rfl rfl rfl (fun w hw=>zga ws hws _ w)) ?_;rintro _ _ ⟨rfl,rfl⟩);refine kH ?_;refine fB ?_;refine cU rfl rfl (fun w' hw=>⟨?_,hw.isBelow⟩);exact q4g
 ·have p1:=h1; (try simp only [cT] at p1);refine kb ?_;refine kb ?_;refine q2Q ?_;refine fB ?_;refine cU rfl rfl (fun w' hw=>⟨?_,hw.isBelow⟩);exact q4g
theorem ziW (x:Ld)(ws:Ws)(hws:ws.length=8)(p:Nat)(w:World)(hp:Cs w p 0 ws.cells):Calls Tryz.prog 56 #[.agg (Ld.cells x).toArray, .pointer (some ⟨p,0,none⟩)] w fun e w'=>e= .returned (.bool (jJ ws x.to&&jJ ws x.fr))∧Below w.heap.size w w':=by
 refine dB (M:=fun _=>False) (hs:=[]) Tryz.func56 rfl rfl rfl (Hp.refl _ _) ?_;simp only [Ld.cells];refine dd ?_; (refine cM (Wt.none) rfl rfl (dv) ?_;rintro _ _ ⟨g2,rfl,rfl⟩);refine q2X ?_; (refine cM (Wt.none) rfl rfl (cL rfl rfl rfl (fun w hw=>zga ws hws _ w)) ?_;rintro _ _ ⟨rfl,rfl⟩);refine dc ?_;refine dp rfl rfl rfl (fun h1=>?_) (fun h1=>?_)
 ·have p1:=h1; (try simp only [cT] at p1);refine cW (Wt.some rfl rfl rfl h1) rfl rfl (iv rfl rfl hp (by rw [List.length_map,hws]) (fun h=>h)) ?_;refine q0I ?_; (refine cM (Wt.some rfl rfl rfl h1) rfl rfl (cL rfl rfl rfl (fun w hw=>zga ws hws _ w)) ?_;rintro _ _ ⟨rfl,rfl⟩);refine kH ?_;refine fB ?_;refine cU rfl rfl (fun w' hw=>⟨?_,hw.isBelow⟩);exact q4g
 ·have p1:=h1; (try simp only [cT] at p1);refine kb ?_;refine kb ?_;refine q2Q ?_;refine fB ?_;refine cU rfl rfl (fun w' hw=>⟨?_,hw.isBelow⟩);exact q4g
theorem zjn (x:Cp)(ws:Ws)(hws:ws.length=8)(p:Nat)(w:World)(hp:Cs w p 0 ws.cells):Calls Tryz.prog 58 #[.agg (Cp.cells x).toArray, .pointer (some ⟨p,0,none⟩)] w fun e w'=>e= .returned (.bool (jJ ws x.st))∧Below w.heap.size w w':=by
 refine dB (M:=fun _=>False) (hs:=[]) Tryz.func58 rfl rfl rfl (Hp.refl _ _) ?_;simp only [Cp.cells];refine dd ?_; (refine cM (Wt.none) rfl rfl (dv) ?_;rintro _ _ ⟨g2,rfl,rfl⟩);refine q2X ?_; (refine cM (Wt.none) rfl rfl (cL rfl rfl rfl (fun w hw=>zga ws hws _ w)) ?_;rintro _ _ ⟨rfl,rfl⟩);refine fB ?_;refine cU rfl rfl (fun w' hw=>⟨?_,hw.isBelow⟩);exact q4g
theorem zf6 (P:Pb)(vd vp vl vc:Value)(w:World)(h:ProbAt w vd vp vl vc P):Calls Tryz.prog 25 #[.agg [vd,vp,vl,vc].toArray] w fun e w'=>e= .returned (.bool P.ok)∧Below w.heap.size w w':=by
 obtain ⟨A,cap,rfl,hsl⟩:=h.ds.sl.op;obtain ⟨A1,cap1,rfl, -⟩:=h.ru.ps.op;obtain ⟨A2,cap2,rfl, -⟩:=h.ru.ls.op;obtain ⟨A3,cap3,rfl, -⟩:=h.ru.cs.op;refine dB (M:=fun _=>False) (hs:=[]) Tryz.func25 rfl rfl rfl (Hp.refl _ _) ?_;refine dd ?_; (refine cM (Wt.none) rfl rfl (dv) ?_;rintro _ _ ⟨g1,rfl,rfl⟩);refine jD ?_;refine em ?_; (refine cM (Wt.none) rfl rfl (cL rfl rfl rfl (fun w hw=>zmz (q:=Dx.ok) P.ds _ 46 #[] w (h.ds.sl.kept hw) (fun k hk=>(h.ds.at hk).one) (fun k hk w1 hb=>zgD _ w1 (((h.ds.at hk).kept hw).kept (gW hb)) (h.hch _ (iR hk))) h.hds)) ?_;rintro _ _ ⟨rfl,rfl⟩);refine ec ?_;refine dp rfl rfl rfl (fun h1=>?_) (fun h1=>?_)
 ·have p1:=h1; (try simp only [cT] at p1);refine kb ?_;refine kb ?_;refine kH ?_;refine mi ?_;refine ja ?_;refine cU rfl rfl (fun w' hw=>⟨?_,hw.isBelow⟩);exact q33
 ·have p1:=h1; (try simp only [cT] at p1);refine cW (Wt.some rfl rfl rfl h1) rfl rfl (Yv.fieldAddr) ?_;refine cW (Wt.some rfl rfl rfl h1) rfl rfl (mU 0 (m:=[.slice A1 P.ps.length cap1, .slice A2 P.ls.length cap2, .slice A3 P.cs.length cap3]) rfl rfl rfl rfl rfl) ?_; (refine cM (Wt.some rfl rfl rfl h1) rfl rfl (cL rfl rfl rfl (fun w hw=>zgI P _ _ _ w (h.ru.kept hw))) ?_;rintro _ _ ⟨rfl,rfl⟩);refine jT ?_;refine q2Q ?_;refine cR ?_;refine T.cond rfl (fun h2=>?_) (fun h2=>?_)
  ·have p2:=h2; (try simp only [cT] at p2);refine ja ?_;refine cU rfl rfl (fun w' hw=>⟨?_,hw.isBelow⟩);exact q33
  ·have p2:=h2; (try simp only [cT] at p2);refine i1 ?_;refine jD ?_;refine em ?_;refine dc ?_; (refine cM (Wt.none) rfl rfl (cL rfl rfl rfl (fun w hw=>zhi (c:=fun a b=>dC a.st b.st) P.ds _ 48 w (h.ds.sl.kept hw) (fun k hk=>(h.ds.at hk).one) (fun x y hx hy w1=>zhu x y hx hy w1) h.hds)) ?_;rintro _ _ ⟨rfl,rfl⟩);refine dR ?_;refine T.cond rfl (fun h3=>?_) (fun h3=>?_)
   ·have p3:=h3; (try simp only [cT] at p3);refine ja ?_;refine cU rfl rfl (fun w' hw=>⟨?_,hw.isBelow⟩);exact q33
   ·have p3:=h3; (try simp only [cT] at p3);refine i1 ?_;refine jd ?_; (have hall:fm Dx.ok P.ds=true:=by assumption); (have hinc:fg (fun a b:Dx=>dC a.st b.st) P.ds=true:=by assumption); (have hst:∀d∈P.ds,0≤d.st∧d.st≤511:=fun d hd=>by have:=dX.1 hall d hd;simp only [Dx.ok,inB,Bool.and_eq_true,decide_eq_true_eq] at this;exact this.1); (refine cM (Wt.none) rfl rfl (cL rfl rfl rfl (fun w hw=>zi9 P _ _ _ _ w (h.kept hw) (zlf hinc hall) hst)) ?_;rintro _ _ ⟨rfl,rfl⟩); (refine cM (Wt.none) rfl rfl (Ew.alloc) ?_;rintro _ _ ⟨g4,rfl,rfl⟩); (refine dJ (Wt.none) rfl (dG 0 rfl rfl rfl rfl (by rw [List.length_map,kZ]) (by rw [List.length_map,kZ];rfl)) ?_;rintro _ _ ⟨rfl,rfl⟩);refine dq ?_;refine ft ?_;refine kS ?_;refine dc ?_; (refine cM (Wt.none) rfl rfl (cL rfl rfl rfl (fun w hw=>zkX (q:=fun x:Pr=>P.has x.a&&P.has x.b) P.ps _ 53 #[.pointer (some ⟨g4,0,none⟩)] w (h.ru.ps.kept hw) (fun k hk w1 hb=>zi6 _ _ (kZ _) _ w1 (Cs.later hb (eL (cV.1 (hw.get (i:=0) rfl)) cD))) h.ru.hps)) ?_;rintro _ _ ⟨rfl,rfl⟩);refine dc ?_;refine dp rfl rfl rfl (fun h4=>?_) (fun h4=>?_)
    ·have p4:=h4; (try simp only [cT] at p4);refine cW (Wt.some rfl rfl rfl h4) rfl rfl (Yv.fieldAddr) ?_;refine cW (Wt.some rfl rfl rfl h4) rfl rfl (Yv.fieldAddr) ?_;refine cW (Wt.some rfl rfl rfl h4) rfl rfl (cX 1) ?_;refine cW (Wt.some rfl rfl rfl h4) rfl rfl (dY) ?_; (refine cM (Wt.some rfl rfl rfl h4) rfl rfl (cL rfl rfl rfl (fun w hw=>zkN (q:=fun x:Ld=>P.has x.to&&P.has x.fr) P.ls _ 56 #[.pointer (some ⟨g4,0,none⟩)] w (h.ru.ls.kept hw) (fun k hk w1 hb=>ziW _ _ (kZ _) _ w1 (Cs.later hb (eL (cV.1 (hw.get (i:=0) rfl)) cD))) h.ru.hls)) ?_;rintro _ _ ⟨rfl,rfl⟩);refine cK (eC rfl rfl h4) ?_;refine dc ?_;refine dp rfl rfl rfl (fun h5=>?_) (fun h5=>?_)
     ·have p5:=h5; (try simp only [cT] at p5);refine cW (Wt.some rfl rfl rfl h5) rfl rfl (Yv.fieldAddr) ?_;refine cW (Wt.some rfl rfl rfl h5) rfl rfl (Yv.fieldAddr) ?_;refine cW (Wt.some rfl rfl rfl h5) rfl rfl (cX 1) ?_;refine cW (Wt.some rfl rfl rfl h5) rfl rfl (dY) ?_; (refine cM (Wt.some rfl rfl rfl h5) rfl rfl (cL rfl rfl rfl (fun w hw=>zlU (q:=fun x:Cp=>P.has x.st) P.cs _ 58 #[.pointer (some ⟨g4,0,none⟩)] w (h.ru.cs.kept hw) (fun k hk w1 hb=>zjn _ _ (kZ _) _ w1 (Cs.later hb (eL (cV.1 (hw.get (i:=0) rfl)) cD))) h.ru.hcs)) ?_;rintro _ _ ⟨rfl,rfl⟩);refine cK (eC rfl rfl h5) ?_;refine fB ?_;refine cU rfl rfl (fun w' hw=>⟨?_,hw.isBelow⟩);exact q33
     ·have p5:=h5; (try simp only [cT] at p5);refine q1B ?_;refine q1B ?_;refine TL.off (Wt.not rfl rfl rfl h5) rfl rfl ?_;refine cK (ef rfl rfl h5) ?_;refine fB ?_;refine cU rfl rfl (fun w' hw=>⟨?_,hw.isBelow⟩);exact q33
    ·have p4:=h4; (try simp only [cT] at p4);refine q2j ?_;refine TL.run 8 rfl ?_;refine gM ?_;refine cU rfl rfl (fun w' hw=>⟨?_,hw.isBelow⟩);exact q33
def jQ (l:List Int):BitVec 64:=l.foldl (fun m c=>m ||| 1#64 <<< c.toNat) 0#64
theorem zja {l:List Int}{k:Nat}(h:k<l.length):jQ (l.take (k+1))=(jQ (l.take k) ||| 1#64 <<< (cH l k).toNat):=by
 unfold jQ;rw [List.take_succ_eq_append_getElem h,d4 h,List.foldl_append];rfl
def pop1 (a:BitVec 64):BitVec 64:=((a >>> 1) &&& 6148914691236517205#64)+(a &&& 6148914691236517205#64)
def pop2 (a:BitVec 64):BitVec 64:=((a >>> 2) &&& 3689348814741910323#64)+(a &&& 3689348814741910323#64)
def pop3 (a:BitVec 64):BitVec 64:=((a >>> 4)+a) &&& 1085102592571150095#64
def pop4 (k:Nat)(a:BitVec 64):BitVec 64:=a+(a >>> k)
def zkW (a:BitVec 64):Nat:=(pop4 32 (pop4 16 (pop4 8 (pop3 (pop2 (pop1 a))))) &&& 127#64).toNat
theorem zjU (a:BitVec 64):zkW a≤127:=by
 unfold zkW;rw [BitVec.toNat_and];exact Nat.and_le_right
theorem zkA (b:BitVec 64):BitVec.ofInt 64 (IntKind.i64.wrap (b.toNat:Int))=b:=by
 apply BitVec.eq_of_toNat_eq;rw [BitVec.toNat_ofInt,IntKind.wrap_i64];have:=b.isLt;omega
section
variable {P:Program}{n:Nat}{B D:World}{M:Nat→Prop}{fs:dV}{hs:HS}{o:Oper}{v:Value}
theorem Yv.co {x:Operand}{a:BitVec 64}(ho:o.op= .convert 98 3 x)(hx:ev fs x=some (U a)):Yv Tryz.prog n B M fs hs o (.int .i64 (IntKind.i64.wrap (a.toNat:Int))):=fun f w ha _=>by
 (have hr:(convert 98 3 (U a)).run Tryz.prog w= .ok (.int .i64 (IntKind.i64.wrap (a.toNat:Int))) w:=by kernel_rfl);unfold execOp;simp only [ho,ha.ev hx];rw [Sem.run_bind,hr]
 rfl
theorem Yv.cc {x:Operand}{t u:TypeId}{a:BitVec 64}(ho:o.op= .binOp .and t x (.const (.int .i64 127)) u)(hx:ev fs x=some (.int .i64 (IntKind.i64.wrap (a.toNat:Int)))):Yv P n B M fs hs o (.int .i64 ((a &&& 127#64).toNat:Int)):=fun f w ha _=>by
 have hr:(binOp .and t (.int .i64 (IntKind.i64.wrap (a.toNat:Int))) (.int .i64 127)).run P w= .ok (.int .i64 ((a &&& 127#64).toNat:Int)) w:=by
  have e:(binOp .and t (.int .i64 (IntKind.i64.wrap (a.toNat:Int))) (.int .i64 127)).run P w= .ok (.int .i64 (IntKind.i64.wrap ((BitVec.ofInt 64 (IntKind.i64.wrap (a.toNat:Int)) &&& BitVec.ofInt 64 127).toNat:Int))) w:=rfl; (have hle:(a &&& 127#64).toNat≤127:=by rw [BitVec.toNat_and];exact Nat.and_le_right);rw [e,zkA,show BitVec.ofInt 64 127=127#64 from rfl,IntWalk.i64_in _ ⟨by omega,by omega⟩]
 unfold execOp;simp only [ho,ha.ev hx,ha.ev (x:= .const (.int .i64 127)) rfl];rw [Sem.run_bind,Sem.run_bind,show (eqGuard .and t x (.const (.int .i64 127)) (.int .i64 (IntKind.i64.wrap (a.toNat:Int))) (.int .i64 127)).run P w= .ok () w from rfl];simp only [Result.andThen,hr]
 rfl
end
theorem zmT (a:BitVec 64)(w:World):Calls Tryz.prog 157 #[U a] w fun e w'=>e= .returned (.int .i64 (zkW a:Int))∧Below w.heap.size w w':=by
 refine dB (M:=fun _=>False) (hs:=[]) Tryz.func157 rfl rfl rfl (Hp.refl _ _) ?_;refine l5 ?_;refine cK (gz 1 rfl rfl rfl rfl a7) ?_;refine cK (f9 (b:=6148914691236517205#64)) ?_;refine dc ?_;refine cK (f9 (b:=6148914691236517205#64)) ?_;refine cK (jY) ?_;refine mZ ?_;refine cK (gz 2 rfl rfl rfl rfl a7) ?_;refine cK (f9 (b:=3689348814741910323#64)) ?_;refine dc ?_;refine cK (f9 (b:=3689348814741910323#64)) ?_;refine cK (jY) ?_;refine mZ ?_;refine cK (gz 4 rfl rfl rfl rfl a7) ?_;refine dc ?_;refine cK (jY) ?_;refine cK (f9 (b:=1085102592571150095#64)) ?_;refine gN ?_;refine ec ?_;refine cK (gz 8 rfl rfl rfl rfl a7) ?_;refine cK (jY) ?_;refine gN ?_;refine ec ?_;refine cK (gz 16 rfl rfl rfl rfl a7) ?_;refine cK (jY) ?_;refine gN ?_;refine ec ?_;refine cK (gz 32 rfl rfl rfl rfl a7) ?_;refine cK (jY) ?_;refine mZ ?_;refine cK (Yv.co rfl rfl) ?_;refine cK (Yv.cc rfl rfl) ?_;refine fB ?_;refine cU rfl rfl (fun w' hw=>⟨?_,hw.isBelow⟩)
 rfl
theorem zlD (a:BitVec 64)(ha:a≠0#64)(w:World)(ht:Tab w):Calls Tryz.prog 141 #[U a] w fun e w'=>e= .returned (.int .i64 (ctz a:Int))∧Below w.heap.size w w':=by
 obtain ⟨hi,htab⟩:=zoQ ha;have hcell:=ht _ hi;rw [htab] at hcell;have hlt:=zgJ ha;refine dB (M:=fun _=>False) (hs:=[]) Tryz.func141 rfl rfl rfl (Hp.refl _ _) ?_;refine ic ?_;refine ij ?_;refine ji ?_;refine iq rfl (by rw [znO];exact decide_eq_false ha) ?_;refine i1 ?_;refine ec ?_;refine cK (Yv.cv rfl rfl) ?_;refine cK (f9) ?_;refine cK (Yv.cu (b:=285870213051353865#64) rfl rfl rfl) ?_;refine cK (gz 58 rfl rfl rfl rfl a7) ?_;refine cK (ed rfl rfl rfl rfl a6) ?_;refine cK (dM rfl rfl (by rw [show ∀x:Nat,0+x*1=x from fun x=>by omega];exact hcell) (fun h=>h)) ?_;refine cK (Yv.cm rfl rfl (by first|exact IntWalk.i64_in _ a6|exact IntWalk.u64_in _ a6|exact IntWalk.u8_in _ a6)) ?_;refine fB ?_;refine cU rfl rfl (fun w' hw=>⟨?_,hw.isBelow⟩)
 rfl
theorem zmy (l:List Int)(v:Value)(w:World)(h:zgn w v l)(hl:l.length≤9223372036854775807)(hr:∀x∈l,2≤x∧x≤51):Calls Tryz.prog 94 #[v] w fun e w'=>e= .returned (U (jQ l))∧Below w.heap.size w w':=by
 obtain ⟨A,cap,rfl,hsl⟩:=h.op;refine dB (M:=fun _=>False) (hs:=[]) Tryz.func94 rfl rfl rfl (Hp.refl _ _) ?_;refine l5 ?_;refine ij ?_;refine dc ?_;refine jz ?_;refine T.loop (ι:=Nat) (fun k=>[(3,U (jQ (l.take k))),(6, .slice A l.length cap),(7, .int .i64 (l.length:Int)),(8, .int .i64 (k:Int))]) (fun k=>[]) (fun k=>k≤l.length) (fun k=>l.length - k) 0 ?_ ?_ ?_ ?_
 ·omega
 ·exact (by repeat (first|exact Sub.nil|refine Sub.cons rfl ?_))
 ·exact Sx
 ·intro k hphi;refine fk ?_;refine T.cond rfl (fun h1=>?_) (fun h1=>?_)
  ·have p1:=h1; (try simp only [cT] at p1);obtain ⟨g,off,rfl,hc⟩:=hsl a6;have hk:=hc k a6;simp only [Ie] at hk;have hr1:=hr _ (iR (xs:=l) (k:=k) a6);refine fT ?_;refine q1H ?_;refine dc ?_;refine cR (T.region ?_);refine ec ?_;refine cK (it (a:=1#64) (cH l k).toNat rfl rfl rfl a6 a6) ?_;refine q3o ?_;exact K.next (k+1) a6 a6 (by rw [zja a6];exact (by repeat (first|exact Sub.nil|refine Sub.cons rfl ?_))) Sx
  ·have p1:=h1; (try simp only [cT] at p1);refine mh ?_;refine jE ?_;exact cU rfl rfl (fun w' hw=>⟨by rw [List.take_of_length_le a6],hw.isBelow⟩)
end Go.Proofs.YtgoeeefoinkepaaGreatDoor
