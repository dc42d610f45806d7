/- C D E F G G2 H1: shortened and put together by squeeze.py. -/
import Derived.Test.YtogbggmckmnlfaaGreatDoorQ04
set_option maxRecDepth 100000
set_option maxHeartbeats 4000000
set_option linter.unusedVariables false
set_option linter.unusedSectionVars false
set_option linter.unusedSimpArgs false
namespace Go.Proofs.YtogbggmckmnlfaaGreatDoor
open Go.RowKit
theorem b8 {p:Prop}(h:p:=by rw [List.length_map,lw]):p:=h
def fR (f:Nat→Value)(z:Value)(n k:Nat):List Value:=(List.range k).map f++List.replicate (n - k) z
theorem zfx {f:Nat→Value}{z:Value}{n k:Nat}(h:k≤n):(fR f z n k).length=n:=by simp [fR];omega
theorem zfr {f:Nat→Value}{z:Value}{n k p:Nat}(h:k<n)(hp:p=k):(fR f z n k).set p (f k)=fR f z n (k+1):=by
 subst hp;unfold fR;rw [List.set_append_right _ _ a9,show n - p=(n - (p+1))+1 by omega,List.replicate_succ,List.range_succ,List.map_append];simp
theorem zfi (z:Value)(n:Nat):(madeCells [z].toArray (n*1)).toList=fR (fun _=>z) z n 0:=by
 apply List.ext_getElem?;intro i;by_cases h:i<n
 ·simp [fR,madeCells,List.getElem?_replicate,Nat.mod_one,h]
 ·simp [fR,madeCells,List.getElem?_replicate,h]
theorem ziG {α:Type}[Inhabited α]{xs:List α}{f:Nat→Value}{z:Value}(g:α→Int)(hf:∀j,f j= .int .i64 (g (cJ xs j))){k:Nat}(hk:k=xs.length):fR f z xs.length k=(xs.map g).flatMap Ie:=by
 subst hk;unfold fR;apply List.ext_getElem?;intro i
 have e:(xs.map g).flatMap Ie=(xs.map g).map (fun z=>Value.int .i64 z):=by
  have:∀l:List Int,l.flatMap Ie=l.map (fun z=>Value.int .i64 z):=by
   intro l
   induction l with
   |nil=>rfl
   |cons x r ih=>simp [List.flatMap_cons,Ie,ih]
  exact this _
 rw [e];simp only [Nat.sub_self,List.replicate_zero,List.append_nil,List.getElem?_map,List.getElem?_range];by_cases h:i<xs.length
 ·simp [h,hf,cJ]
 ·simp [h]
theorem zj0 (P:Pb)(vd vp vl vc:Value)(w:World)(h:ProbAt w vd vp vl vc P)(hn:P.ds.length≤512)(hr:∀d∈P.ds,0≤d.st∧d.st≤511):Calls Tryz.prog 109 #[.agg [vd,vp,vl,vc].toArray] w fun e w'=>e= .returned (.agg (Ws.cells (mr (P.ds.map (·.st)))).toArray)∧Below w.heap.size w w':=by
 obtain ⟨A,cap,rfl,hsl⟩:=h.ds.sl.op;obtain ⟨A1,cap1,rfl, -⟩:=h.ru.ps.op;obtain ⟨A2,cap2,rfl, -⟩:=h.ru.ls.op;obtain ⟨A3,cap3,rfl, -⟩:=h.ru.cs.op;refine dt (M:=fun _=>False) (hs:=[]) Tryz.func109 rfl rfl rfl (Hp.refl _ _) ?_;refine dh ?_; (refine cN (Wt.none) rfl rfl (dJ) ?_;rintro _ _ ⟨g1,rfl,rfl⟩); (refine cN (Wt.none) rfl rfl (Ew.alloc) ?_;rintro _ _ ⟨g2,rfl,rfl⟩);refine dX ?_;refine la ?_;refine mn ?_; (refine cN (Wt.none) rfl rfl (Ew.makeSlice rfl rfl rfl rfl rfl a5 a5) ?_;rintro _ _ ⟨g11,rfl,rfl⟩);refine dA ?_;refine T.cut (gs:=[(2, .pointer (some ⟨g2,0,none⟩)),(3,(.slice (some ⟨g11,0,none⟩) P.ds.length P.ds.length))]) (hs':=[.sl (.slice (some ⟨g11,0,none⟩) P.ds.length P.ds.length) 3 1 P.ds.length ((P.ds.map (·.st)).flatMap Ie), .row g2 83 (Ws.cells fx)]) ?_ ?_
 ·skip;refine T.seq ?_;rw [zfi];refine fP ?_;refine nn ?_;refine j4 ?_;refine T.loop (ι:=Nat) (fun k=>[(2, .pointer (some ⟨g2,0,none⟩)),(3,(.slice (some ⟨g11,0,none⟩) P.ds.length P.ds.length)),(13, .slice A P.ds.length cap),(14, .int .i64 (P.ds.length:Int)),(15, .int .i64 (k:Int))]) (fun k=>[.sl (.slice (some ⟨g11,0,none⟩) P.ds.length P.ds.length) 3 1 P.ds.length (fR (fun j=> .int .i64 (cJ P.ds j).st) (.int .i64 0) P.ds.length k), .row g2 83 (Ws.cells fx)]) (fun k=>k≤P.ds.length) (fun k=>P.ds.length - k) 0 ?_ ?_ ?_ ?_
  ·omega
  ·exact (by repeat (first|exact Sub.nil|refine Sub.cons rfl ?_))
  ·exact Sx
  ·intro k hphi;refine fb ?_;refine T.cond rfl (fun h1=>?_) (fun h1=>?_)
   ·have p1:=h1; (try simp only [cX] at p1);obtain ⟨g,off,rfl,hc⟩:=hsl a5;have hk:=hc k a5;haveI:=(h.ds.at (k:=k) a5).one;simp only [Dx.cells] at hk;refine q4I ?_;refine me ?_; (refine cN (Wt.none) rfl rfl (Ew.alloc) ?_;rintro _ _ ⟨g5,rfl,rfl⟩);refine di ?_; (refine dP (Wt.none) rfl (dI 0) ?_;rintro _ _ ⟨rfl,rfl⟩);refine db (T.region ?_);refine d8 ?_;refine ef ?_;refine mq ?_; (refine dP (Wt.none) rfl (fy 1 (fR (fun j=> .int .i64 (cJ P.ds j).st) (.int .i64 0) P.ds.length (k+1)) rfl rfl rfl rfl (by rw [zfx a5];omega) (zfr a5 a5)) ?_;rintro _ _ ⟨rfl,rfl⟩);refine kz ?_;exact K.next (k+1) a5 a5 (by repeat (first|exact Sub.nil|refine Sub.cons rfl ?_)) Sx
   ·have p1:=h1; (try simp only [cX] at p1);refine eC ?_;exact K.at (by repeat (first|exact Sub.nil|refine Sub.cons rfl ?_)) (by rw [ziG (fun d:Dx=>d.st) (fun _=>rfl) (show k=P.ds.length by omega)];exact Sx)
 ·skip;refine gy ?_; (refine cN (Wt.none) rfl rfl (cM rfl rfl rfl (fun w hw=>zpj (P.ds.map (·.st)) _ w (lx (enc:=Ie) (fun _=>rfl) hw 0 rfl a9) cG (by intro x hx;obtain ⟨d,hd,rfl⟩:=List.mem_map.1 hx;exact hr d hd))) ?_;rintro _ _ ⟨rfl,rfl⟩);refine eB ?_; (refine cN (Wt.none) rfl rfl (Ew.alloc) ?_;rintro _ _ ⟨g6,rfl,rfl⟩); (refine dP (Wt.none) rfl (dI 0 rfl rfl rfl rfl b8 (by rw [List.length_map,lw];rfl)) ?_;rintro _ _ ⟨rfl,rfl⟩);refine gF ?_;refine cL (dO 0 rfl rfl rfl b8) ?_; (refine dP (Wt.none) rfl (dI 2 rfl rfl rfl rfl b8 (by rw [List.length_map,List.length_map,lw];rfl)) ?_;rintro _ _ ⟨rfl,rfl⟩);refine fW ?_;exact kP 2 rfl rfl rfl b8 (fun w' hw=>⟨rfl,hw.isBelow⟩)
theorem zj5 (x:Pr)(ws:Ws)(hws:ws.length=8)(p:Nat)(w:World)(hp:Cs w p 0 ws.cells):Calls Tryz.prog 111 #[.agg (Pr.cells x).toArray, .pointer (some ⟨p,0,none⟩)] w fun e w'=>e= .returned (.bool (jU ws x.a&&jU ws x.b))∧Below w.heap.size w w':=by
 refine dt (M:=fun _=>False) (hs:=[]) Tryz.func111 rfl rfl rfl (Hp.refl _ _) ?_;simp only [Pr.cells];refine dh ?_; (refine cN (Wt.none) rfl rfl (dJ) ?_;rintro _ _ ⟨g2,rfl,rfl⟩);refine q3D ?_; (refine cN (Wt.none) rfl rfl (cM rfl rfl rfl (fun w hw=>zgT ws hws _ w)) ?_;rintro _ _ ⟨rfl,rfl⟩);refine di ?_;refine du rfl rfl rfl (fun h1=>?_) (fun h1=>?_)
 ·have p1:=h1; (try simp only [cX] at p1);refine da (Wt.some rfl rfl rfl h1) rfl rfl (iE rfl rfl hp (by rw [List.length_map,hws]) (fun h=>h)) ?_;refine q0N ?_; (refine cN (Wt.some rfl rfl rfl h1) rfl rfl (cM rfl rfl rfl (fun w hw=>zgT ws hws _ w)) ?_;rintro _ _ ⟨rfl,rfl⟩);refine lq ?_;refine fw ?_;refine c4 rfl rfl (fun w' hw=>⟨?_,hw.isBelow⟩);exact q5g
 ·have p1:=h1; (try simp only [cX] at p1);refine kw ?_;refine kw ?_;refine q3p ?_;refine fw ?_;refine c4 rfl rfl (fun w' hw=>⟨?_,hw.isBelow⟩);exact q5g
theorem zjC (x:Ld)(ws:Ws)(hws:ws.length=8)(p:Nat)(w:World)(hp:Cs w p 0 ws.cells):Calls Tryz.prog 113 #[.agg (Ld.cells x).toArray, .pointer (some ⟨p,0,none⟩)] w fun e w'=>e= .returned (.bool (jU ws x.to&&jU ws x.fr))∧Below w.heap.size w w':=by
 refine dt (M:=fun _=>False) (hs:=[]) Tryz.func113 rfl rfl rfl (Hp.refl _ _) ?_;simp only [Ld.cells];refine dh ?_; (refine cN (Wt.none) rfl rfl (dJ) ?_;rintro _ _ ⟨g2,rfl,rfl⟩);refine q3D ?_; (refine cN (Wt.none) rfl rfl (cM rfl rfl rfl (fun w hw=>zgT ws hws _ w)) ?_;rintro _ _ ⟨rfl,rfl⟩);refine di ?_;refine du rfl rfl rfl (fun h1=>?_) (fun h1=>?_)
 ·have p1:=h1; (try simp only [cX] at p1);refine da (Wt.some rfl rfl rfl h1) rfl rfl (iE rfl rfl hp (by rw [List.length_map,hws]) (fun h=>h)) ?_;refine q0N ?_; (refine cN (Wt.some rfl rfl rfl h1) rfl rfl (cM rfl rfl rfl (fun w hw=>zgT ws hws _ w)) ?_;rintro _ _ ⟨rfl,rfl⟩);refine lq ?_;refine fw ?_;refine c4 rfl rfl (fun w' hw=>⟨?_,hw.isBelow⟩);exact q5g
 ·have p1:=h1; (try simp only [cX] at p1);refine kw ?_;refine kw ?_;refine q3p ?_;refine fw ?_;refine c4 rfl rfl (fun w' hw=>⟨?_,hw.isBelow⟩);exact q5g
theorem zjZ (x:Cp)(ws:Ws)(hws:ws.length=8)(p:Nat)(w:World)(hp:Cs w p 0 ws.cells):Calls Tryz.prog 115 #[.agg (Cp.cells x).toArray, .pointer (some ⟨p,0,none⟩)] w fun e w'=>e= .returned (.bool (jU ws x.st))∧Below w.heap.size w w':=by
 refine dt (M:=fun _=>False) (hs:=[]) Tryz.func115 rfl rfl rfl (Hp.refl _ _) ?_;simp only [Cp.cells];refine dh ?_; (refine cN (Wt.none) rfl rfl (dJ) ?_;rintro _ _ ⟨g2,rfl,rfl⟩);refine q3D ?_; (refine cN (Wt.none) rfl rfl (cM rfl rfl rfl (fun w hw=>zgT ws hws _ w)) ?_;rintro _ _ ⟨rfl,rfl⟩);refine fw ?_;refine c4 rfl rfl (fun w' hw=>⟨?_,hw.isBelow⟩);exact q5g
theorem zg0 (P:Pb)(vd vp vl vc:Value)(w:World)(h:ProbAt w vd vp vl vc P):Calls Tryz.prog 72 #[.agg [vd,vp,vl,vc].toArray] w fun e w'=>e= .returned (.bool P.ok)∧Below w.heap.size w w':=by
 obtain ⟨A,cap,rfl,hsl⟩:=h.ds.sl.op;obtain ⟨A1,cap1,rfl, -⟩:=h.ru.ps.op;obtain ⟨A2,cap2,rfl, -⟩:=h.ru.ls.op;obtain ⟨A3,cap3,rfl, -⟩:=h.ru.cs.op;refine dt (M:=fun _=>False) (hs:=[]) Tryz.func72 rfl rfl rfl (Hp.refl _ _) ?_;refine dh ?_; (refine cN (Wt.none) rfl rfl (dJ) ?_;rintro _ _ ⟨g1,rfl,rfl⟩);refine kv ?_;refine ef ?_; (refine cN (Wt.none) rfl rfl (cM rfl rfl rfl (fun w hw=>znp (q:=Dx.ok) P.ds _ 104 #[] w (h.ds.sl.kept hw) (fun k hk=>(h.ds.at hk).one) (fun k hk w1 hb=>zhr _ w1 (((h.ds.at hk).kept hw).kept (gX hb)) (h.hch _ (iY hk))) h.hds)) ?_;rintro _ _ ⟨rfl,rfl⟩);refine d8 ?_;refine du rfl rfl rfl (fun h1=>?_) (fun h1=>?_)
 ·have p1:=h1; (try simp only [cX] at p1);refine kw ?_;refine kw ?_;refine lq ?_;refine mF ?_;refine iw ?_;refine c4 rfl rfl (fun w' hw=>⟨?_,hw.isBelow⟩);exact q44
 ·have p1:=h1; (try simp only [cX] at p1);refine da (Wt.some rfl rfl rfl h1) rfl rfl (Yv.fieldAddr) ?_;refine da (Wt.some rfl rfl rfl h1) rfl rfl (nG 0 (m:=[.slice A1 P.ps.length cap1, .slice A2 P.ls.length cap2, .slice A3 P.cs.length cap3]) rfl rfl rfl rfl rfl) ?_; (refine cN (Wt.some rfl rfl rfl h1) rfl rfl (cM rfl rfl rfl (fun w hw=>zhs P _ _ _ w (h.ru.kept hw))) ?_;rintro _ _ ⟨rfl,rfl⟩);refine jY ?_;refine q3p ?_;refine db ?_;refine T.cond rfl (fun h2=>?_) (fun h2=>?_)
  ·have p2:=h2; (try simp only [cX] at p2);refine iw ?_;refine c4 rfl rfl (fun w' hw=>⟨?_,hw.isBelow⟩);exact q44
  ·have p2:=h2; (try simp only [cX] at p2);refine iO ?_;refine kv ?_;refine i2 ?_; (refine cN (Wt.none) rfl rfl (cM rfl rfl rfl (fun w hw=>zh9 (c:=fun a b=>dT a.st b.st) P.ds _ 106 w (h.ds.sl.kept hw) (fun k hk=>(h.ds.at hk).one) (fun x y hx hy w1=>zim x y hx hy w1) h.hds)) ?_;rintro _ _ ⟨rfl,rfl⟩);refine dA ?_;refine T.cond rfl (fun h3=>?_) (fun h3=>?_)
   ·have p3:=h3; (try simp only [cX] at p3);refine iw ?_;refine c4 rfl rfl (fun w' hw=>⟨?_,hw.isBelow⟩);exact q44
   ·have p3:=h3; (try simp only [cX] at p3);refine iO ?_;refine ik ?_; (have hall:fU Dx.ok P.ds=true:=by assumption); (have hinc:fG (fun a b:Dx=>dT a.st b.st) P.ds=true:=by assumption); (have hst:∀d∈P.ds,0≤d.st∧d.st≤511:=fun d hd=>by have:=em.1 hall d hd;simp only [Dx.ok,inB,Bool.and_eq_true,decide_eq_true_eq] at this;exact this.1); (refine cN (Wt.none) rfl rfl (cM rfl rfl rfl (fun w hw=>zj0 P _ _ _ _ w (h.kept hw) (zmL hinc hall) hst)) ?_;rintro _ _ ⟨rfl,rfl⟩); (refine cN (Wt.none) rfl rfl (Ew.alloc) ?_;rintro _ _ ⟨g4,rfl,rfl⟩); (refine dP (Wt.none) rfl (dI 0 rfl rfl rfl rfl b8 (by rw [List.length_map,lw];rfl)) ?_;rintro _ _ ⟨rfl,rfl⟩);refine dX ?_;refine fc ?_;refine la ?_;refine di ?_; (refine cN (Wt.none) rfl rfl (cM rfl rfl rfl (fun w hw=>zlw (q:=fun x:Pr=>P.has x.a&&P.has x.b) P.ps _ 111 #[.pointer (some ⟨g4,0,none⟩)] w (h.ru.ps.kept hw) (fun k hk w1 hb=>zj5 _ _ (lw _) _ w1 (Cs.later hb (ft (c7.1 (hw.get (i:=0) rfl)) cF))) h.ru.hps)) ?_;rintro _ _ ⟨rfl,rfl⟩);refine di ?_;refine du rfl rfl rfl (fun h4=>?_) (fun h4=>?_)
    ·have p4:=h4; (try simp only [cX] at p4);refine da (Wt.some rfl rfl rfl h4) rfl rfl (Yv.fieldAddr) ?_;refine da (Wt.some rfl rfl rfl h4) rfl rfl (Yv.fieldAddr) ?_;refine da (Wt.some rfl rfl rfl h4) rfl rfl (dc 1) ?_;refine da (Wt.some rfl rfl rfl h4) rfl rfl (d6) ?_; (refine cN (Wt.some rfl rfl rfl h4) rfl rfl (cM rfl rfl rfl (fun w hw=>zmw (q:=fun x:Ld=>P.has x.to&&P.has x.fr) P.ls _ 113 #[.pointer (some ⟨g4,0,none⟩)] w (h.ru.ls.kept hw) (fun k hk w1 hb=>zjC _ _ (lw _) _ w1 (Cs.later hb (ft (c7.1 (hw.get (i:=0) rfl)) cF))) h.ru.hls)) ?_;rintro _ _ ⟨rfl,rfl⟩);refine cL (eV rfl rfl h4) ?_;refine di ?_;refine du rfl rfl rfl (fun h5=>?_) (fun h5=>?_)
     ·have p5:=h5; (try simp only [cX] at p5);refine da (Wt.some rfl rfl rfl h5) rfl rfl (Yv.fieldAddr) ?_;refine da (Wt.some rfl rfl rfl h5) rfl rfl (Yv.fieldAddr) ?_;refine da (Wt.some rfl rfl rfl h5) rfl rfl (dc 1) ?_;refine da (Wt.some rfl rfl rfl h5) rfl rfl (d6) ?_; (refine cN (Wt.some rfl rfl rfl h5) rfl rfl (cM rfl rfl rfl (fun w hw=>zll (q:=fun x:Cp=>P.has x.st) P.cs _ 115 #[.pointer (some ⟨g4,0,none⟩)] w (h.ru.cs.kept hw) (fun k hk w1 hb=>zjZ _ _ (lw _) _ w1 (Cs.later hb (ft (c7.1 (hw.get (i:=0) rfl)) cF))) h.ru.hcs)) ?_;rintro _ _ ⟨rfl,rfl⟩);refine cL (eV rfl rfl h5) ?_;refine fw ?_;refine c4 rfl rfl (fun w' hw=>⟨?_,hw.isBelow⟩);exact q44
     ·have p5:=h5; (try simp only [cX] at p5);refine q1W ?_;refine q1W ?_;refine TL.off (Wt.not rfl rfl rfl h5) rfl rfl ?_;refine cL (ek rfl rfl h5) ?_;refine fw ?_;refine c4 rfl rfl (fun w' hw=>⟨?_,hw.isBelow⟩);exact q44
    ·have p4:=h4; (try simp only [cX] at p4);refine q2H ?_;refine TL.run 8 rfl ?_;refine fW ?_;refine c4 rfl rfl (fun w' hw=>⟨?_,hw.isBelow⟩);exact q44
def j0 (l:List Int):BitVec 64:=l.foldl (fun m c=>m ||| 1#64 <<< c.toNat) 0#64
theorem zj1 {l:List Int}{k:Nat}(h:k<l.length):j0 (l.take (k+1))=(j0 (l.take k) ||| 1#64 <<< (cJ l k).toNat):=by
 unfold j0;rw [List.take_succ_eq_append_getElem h,dV h,List.foldl_append];rfl
def pop1 (a:BitVec 64):BitVec 64:=((a >>> 1) &&& 6148914691236517205#64)+(a &&& 6148914691236517205#64)
def pop2 (a:BitVec 64):BitVec 64:=((a >>> 2) &&& 3689348814741910323#64)+(a &&& 3689348814741910323#64)
def pop3 (a:BitVec 64):BitVec 64:=((a >>> 4)+a) &&& 1085102592571150095#64
def pop4 (k:Nat)(a:BitVec 64):BitVec 64:=a+(a >>> k)
def zlH (a:BitVec 64):Nat:=(pop4 32 (pop4 16 (pop4 8 (pop3 (pop2 (pop1 a))))) &&& 127#64).toNat
theorem zko (a:BitVec 64):zlH a≤127:=by
 unfold zlH;rw [BitVec.toNat_and];exact Nat.and_le_right
theorem zlb (b:BitVec 64):BitVec.ofInt 64 (IntKind.i64.wrap (b.toNat:Int))=b:=by
 apply BitVec.eq_of_toNat_eq;rw [BitVec.toNat_ofInt,IntKind.wrap_i64];have:=b.isLt;omega
section
variable {P:Program}{n:Nat}{B D:World}{M:Nat→Prop}{fs:d4}{hs:HS}{o:Oper}{v:Value}
theorem Yv.cp {x:Operand}{a:BitVec 64}(ho:o.op= .convert 80 3 x)(hx:ev fs x=some (U a)):Yv Tryz.prog n B M fs hs o (.int .i64 (IntKind.i64.wrap (a.toNat:Int))):=fun f w ha _=>by
 (have hr:(convert 80 3 (U a)).run Tryz.prog w= .ok (.int .i64 (IntKind.i64.wrap (a.toNat:Int))) w:=by kernel_rfl);unfold execOp;simp only [ho,ha.ev hx];rw [Sem.run_bind,hr]
 rfl
theorem Yv.cd {x:Operand}{t u:TypeId}{a:BitVec 64}(ho:o.op= .binOp .and t x (.const (.int .i64 127)) u)(hx:ev fs x=some (.int .i64 (IntKind.i64.wrap (a.toNat:Int)))):Yv P n B M fs hs o (.int .i64 ((a &&& 127#64).toNat:Int)):=fun f w ha _=>by
 have hr:(binOp .and t (.int .i64 (IntKind.i64.wrap (a.toNat:Int))) (.int .i64 127)).run P w= .ok (.int .i64 ((a &&& 127#64).toNat:Int)) w:=by
  have e:(binOp .and t (.int .i64 (IntKind.i64.wrap (a.toNat:Int))) (.int .i64 127)).run P w= .ok (.int .i64 (IntKind.i64.wrap ((BitVec.ofInt 64 (IntKind.i64.wrap (a.toNat:Int)) &&& BitVec.ofInt 64 127).toNat:Int))) w:=rfl; (have hle:(a &&& 127#64).toNat≤127:=by rw [BitVec.toNat_and];exact Nat.and_le_right);rw [e,zlb,show BitVec.ofInt 64 127=127#64 from rfl,IntWalk.i64_in _ ⟨by omega,by omega⟩]
 unfold execOp;simp only [ho,ha.ev hx,ha.ev (x:= .const (.int .i64 127)) rfl];rw [Sem.run_bind,Sem.run_bind,show (eqGuard .and t x (.const (.int .i64 127)) (.int .i64 (IntKind.i64.wrap (a.toNat:Int))) (.int .i64 127)).run P w= .ok () w from rfl];simp only [Result.andThen,hr]
 rfl
end
theorem zmU (a:BitVec 64)(w:World):Calls Tryz.prog 176 #[U a] w fun e w'=>e= .returned (.int .i64 (zlH a:Int))∧Below w.heap.size w w':=by
 refine dt (M:=fun _=>False) (hs:=[]) Tryz.func176 rfl rfl rfl (Hp.refl _ _) ?_;refine q4G ?_;refine cL (fZ 1 rfl rfl rfl rfl a6) ?_;refine cL (gj (b:=6148914691236517205#64)) ?_;refine di ?_;refine cL (gj (b:=6148914691236517205#64)) ?_;refine cL (j1) ?_;refine lO ?_;refine cL (fZ 2 rfl rfl rfl rfl a6) ?_;refine cL (gj (b:=3689348814741910323#64)) ?_;refine di ?_;refine cL (gj (b:=3689348814741910323#64)) ?_;refine cL (j1) ?_;refine lO ?_;refine cL (fZ 4 rfl rfl rfl rfl a6) ?_;refine di ?_;refine cL (j1) ?_;refine cL (gj (b:=1085102592571150095#64)) ?_;refine gF ?_;refine d8 ?_;refine cL (fZ 8 rfl rfl rfl rfl a6) ?_;refine cL (j1) ?_;refine gF ?_;refine d8 ?_;refine cL (fZ 16 rfl rfl rfl rfl a6) ?_;refine cL (j1) ?_;refine gF ?_;refine d8 ?_;refine cL (fZ 32 rfl rfl rfl rfl a6) ?_;refine cL (j1) ?_;refine lO ?_;refine cL (Yv.cp rfl rfl) ?_;refine cL (Yv.cd rfl rfl) ?_;refine fw ?_;refine c4 rfl rfl (fun w' hw=>⟨?_,hw.isBelow⟩)
 rfl
theorem znJ (a:BitVec 64)(ha:a≠0#64)(w:World)(ht:Tab w):Calls Tryz.prog 175 #[U a] w fun e w'=>e= .returned (.int .i64 (ctz a:Int))∧Below w.heap.size w w':=by
 obtain ⟨hi,htab⟩:=zpm ha;have hcell:=ht _ hi;rw [htab] at hcell;have hlt:=ziJ ha;refine dt (M:=fun _=>False) (hs:=[]) Tryz.func175 rfl rfl rfl (Hp.refl _ _) ?_;refine gy ?_;refine jq ?_;refine jE ?_;refine iK rfl (by rw [znX];exact decide_eq_false ha) ?_;refine iO ?_;refine d8 ?_;refine cL (Yv.cy rfl rfl) ?_;refine cL (gj) ?_;refine cL (Yv.cx (b:=285870213051353865#64) rfl rfl rfl) ?_;refine cL (fZ 58 rfl rfl rfl rfl a6) ?_;refine cL (ec rfl rfl rfl rfl a5) ?_;refine cL (dY rfl rfl (by rw [show ∀x:Nat,0+x*1=x from fun x=>by omega];exact hcell) (fun h=>h)) ?_;refine cL (Yv.cm rfl rfl (by first|exact IntWalk.i64_in _ a5|exact IntWalk.u64_in _ a5|exact IntWalk.u8_in _ a5)) ?_;refine fw ?_;refine c4 rfl rfl (fun w' hw=>⟨?_,hw.isBelow⟩)
 rfl
theorem zna (l:List Int)(v:Value)(w:World)(h:zgL w v l)(hl:l.length≤9223372036854775807)(hr:∀x∈l,2≤x∧x≤51):Calls Tryz.prog 142 #[v] w fun e w'=>e= .returned (U (j0 l))∧Below w.heap.size w w':=by
 obtain ⟨A,cap,rfl,hsl⟩:=h.op;refine dt (M:=fun _=>False) (hs:=[]) Tryz.func142 rfl rfl rfl (Hp.refl _ _) ?_;refine mE ?_;refine nH ?_;refine j4 ?_;refine T.loop (ι:=Nat) (fun k=>[(3,U (j0 (l.take k))),(6, .slice A l.length cap),(7, .int .i64 (l.length:Int)),(8, .int .i64 (k:Int))]) (fun k=>[]) (fun k=>k≤l.length) (fun k=>l.length - k) 0 ?_ ?_ ?_ ?_
 ·omega
 ·exact (by repeat (first|exact Sub.nil|refine Sub.cons rfl ?_))
 ·exact Sx
 ·intro k hphi;refine fb ?_;refine T.cond rfl (fun h1=>?_) (fun h1=>?_)
  ·have p1:=h1; (try simp only [cX] at p1);obtain ⟨g,off,rfl,hc⟩:=hsl a5;have hk:=hc k a5;simp only [Ie] at hk;have hr1:=hr _ (iY (xs:=l) (k:=k) a5);refine fh ?_;refine q2q ?_;refine di ?_;refine db (T.region ?_);refine d8 ?_;refine cL (gU (a:=1#64) (cJ l k).toNat rfl rfl rfl a5 a5) ?_;refine q4e ?_;exact K.next (k+1) a5 a5 (by rw [zj1 a5];exact (by repeat (first|exact Sub.nil|refine Sub.cons rfl ?_))) Sx
  ·have p1:=h1; (try simp only [cX] at p1);refine q1a ?_;refine jT ?_;exact c4 rfl rfl (fun w' hw=>⟨by rw [List.take_of_length_le a5],hw.isBelow⟩)
def kG (ws:Ws)(k:Nat):Nat:=((ws.take k).map zlH).sum
theorem zjr {ws:Ws}{k:Nat}(h:k<ws.length):kG ws (k+1)=kG ws k+zlH (cJ ws k):=by
 unfold kG;rw [List.take_succ_eq_append_getElem h,dV h,List.map_append,List.sum_append];simp
theorem zka (ws:Ws):∀k,kG ws k≤127*k
 |0=>by simp [kG]
 |k+1=>by
  have:=zka ws k;rcases Nat.lt_or_ge k ws.length with h|h
  ·rw [zjr h];have:=zko (cJ ws k);omega
  ·unfold kG at *;rw [List.take_of_length_le a5] at *;omega
@[irreducible] def fi (ws:Ws) (i:Nat):List Nat:=(List.range' i (512 - i)).filter (eP ws)
abbrev fk (ws:Ws):List Nat:=fi ws 0
def ziA:List Nat→Int
 | []=> -1
 |x :: _=>(x:Int)
theorem zg9 {ws:Ws}{i:Nat}(h:∀j,i≤j→j<512→eP ws j=false):fi ws i=[]:=by
 unfold fi;rw [List.filter_eq_nil_iff];intro j hj;obtain ⟨h1,h2⟩:=List.mem_range'_1.1 hj;rw [h j h1 a5];simp
theorem ziO {ws:Ws}{i r:Nat}(hi:i≤r)(hr:r<512)(hb:eP ws r=true)(h:∀j,i≤j→j<r→eP ws j=false):fi ws i=r :: fi ws (r+1):=by
 unfold fi
 have e:List.range' i (512 - i)=List.range' i (r - i)++(r :: List.range' (r+1) (512 - (r+1))):=by
  rw [show r :: List.range' (r+1) (512 - (r+1))=List.range' r (512 - r) from by rw [show 512 - r=(512 - (r+1))+1 by omega,List.range'_succ]];have:=List.range'_append (s:=i) (m:=r - i) (n:=512 - r) (step:=1);rw [Nat.one_mul,show i+(r - i)=r by omega,show r - i+(512 - r)=512 - i by omega] at this;exact this.symm
 rw [e,List.filter_append,List.filter_cons_of_pos (by simpa using hb)]
 have:(List.range' i (r - i)).filter (eP ws)=[]:=by
  rw [List.filter_eq_nil_iff];intro j hj;obtain ⟨h1,h2⟩:=List.mem_range'_1.1 hj;rw [h j h1 a5];simp
 rw [this];rfl
theorem fS {ws:Ws}{i j:Nat}:j∈fi ws i↔i≤j∧j<512∧eP ws j=true:=by
 unfold fi;rw [List.mem_filter,List.mem_range'_1];constructor
 ·rintro ⟨⟨h1,h2⟩,h3⟩;exact ⟨h1,by omega,h3⟩
 ·rintro ⟨h1,h2,h3⟩;exact ⟨⟨h1,by omega⟩,h3⟩
theorem zmn {ws:Ws}{i h:Nat}{t:List Nat}(e:fi ws i=h :: t):i≤h∧h<512∧t=fi ws (h+1):=by
 have hm:=fS.1 (show h∈fi ws i by rw [e];simp)
 have hs:fi ws i=h :: fi ws (h+1):=ziO hm.1 hm.2.1 hm.2.2 (fun j h1 h2=>by
  cases hb:eP ws j with
  |false=>rfl
  |true=>
   have hj:j∈fi ws i:=fS.2 ⟨h1,by omega,hb⟩; (have hsort:(fi ws i).Pairwise (· < ·):=by unfold fi;exact List.Pairwise.filter _ List.pairwise_lt_range');rw [e] at hj hsort;rcases List.mem_cons.1 hj with hj|hj
   ·omega
   ·have:=(List.pairwise_cons.1 hsort).1 j hj;omega)
 rw [e] at hs;exact ⟨hm.1,hm.2.1,(List.cons.inj hs).2⟩
theorem zgD (ws:Ws)(i:Nat):(fi ws i).length≤512:=by
 unfold fi;have:=List.length_filter_le (eP ws) (List.range' i (512 - i));rw [List.length_range'] at this;omega
theorem zoi (a:BitVec 64)(k j:Nat)(hj:j<64):((a >>> k) <<< k).getLsbD j=(a.getLsbD j&&decide (k≤j)):=by
 rw [BitVec.getLsbD_shiftLeft,BitVec.getLsbD_ushiftRight];by_cases h:j<k
 ·simp [h]
 ·rw [show k+(j - k)=j by omega];simp [hj,h];intro _;omega
structure NxInv (ws:Ws) (i at':Nat) (b:BitVec 64):Prop where
 lt:at'<8
 ge:i<64* (at'+1)
 bit:∀j,j<64→b.getLsbD j=(eP ws (64*at'+j)&&decide (i≤64*at'+j))
 none:∀j,i≤j→j<64*at'→eP ws j=false
theorem NxInv.start {ws:Ws}{i:Nat}(hi:i<512):NxInv ws i (i / 64) ((cJ ws (i / 64) >>> (i % 64)) <<< (i % 64)) where
 lt:=by omega
 ge:=by omega
 bit j hj:=by
  rw [zoi _ _ _ hj];unfold eP;rw [show (64* (i / 64)+j) / 64=i / 64 by omega,show (64* (i / 64)+j) % 64=j by omega]
  congr 1
  exact decide_eq_decide.2 a5
 none j h1 h2:=by omega
theorem NxInv.next {ws:Ws}{i a:Nat}(h:NxInv ws i a 0#64)(ha:a+1<8):NxInv ws i (a+1) (cJ ws (a+1)) where
 lt:=ha
 ge:=by have:=h.ge;omega
 bit j hj:=by
  have:=h.ge;unfold eP;rw [show (64* (a+1)+j) / 64=a+1 by omega,show (64* (a+1)+j) % 64=j by omega,decide_eq_true a5,Bool.and_true]
 none j h1 h2:=by
  rcases Nat.lt_or_ge j (64*a) with hj|hj
  ·exact h.none j h1 hj
  ·have:=h.bit (j - 64*a) a5;rw [show 64*a+(j - 64*a)=j by omega,decide_eq_true h1,Bool.and_true,BitVec.getLsbD_zero] at this;exact this.symm
theorem NxInv.found {ws:Ws}{i a:Nat}{b:BitVec 64}(h:NxInv ws i a b)(hb:b≠0#64):fi ws i=(64*a+ctz b) :: fi ws (64*a+ctz b+1):=by
 have hc:=ziJ hb;have h1:=(zgF hb 0).1;rw [h.bit _ hc] at h1;simp only [Bool.and_eq_true,decide_eq_true_eq] at h1;have:=h.lt;refine ziO h1.2 a5 h1.1 (fun j hi hj=>?_);rcases Nat.lt_or_ge j (64*a) with hj2|hj2
 ·exact h.none j hi hj2
 ·have h2:=(zgF hb (j - 64*a)).2 a5;rw [h.bit _ a5,show 64*a+(j - 64*a)=j by omega,decide_eq_true hi,Bool.and_true] at h2;exact h2
theorem NxInv.over {ws:Ws}{i a:Nat}(h:NxInv ws i a 0#64)(ha:a+1=8):fi ws i=[]:=zg9 fun j h1 h2=>by
 rcases Nat.lt_or_ge j (64*a) with hj2|hj2
 ·exact h.none j h1 hj2
 ·have h3:=h.bit (j - 64*a) a5;rw [show 64*a+(j - 64*a)=j by omega,decide_eq_true h1,Bool.and_true,BitVec.getLsbD_zero] at h3;exact h3.symm
theorem ziv (ws:Ws):∀(k i:Nat),k<(fi ws i).length→fi ws (cJ (fi ws i) k+1)=(fi ws i).drop (k+1)
 |k,i,hk=>by
  cases e:fi ws i with
  |nil=>rw [e] at hk;simp at hk
  |cons h t=>
   obtain ⟨h1,h2,h3⟩:=zmn e
   cases k with
   |zero=>simp [cJ,h3]
   |succ k=>
    rw [e] at hk;subst h3;have:=ziv ws k (h+1) (by simpa using hk);simpa [cJ] using this
theorem zhH {xs:List Nat}{k:Nat}(h:k<xs.length):ziA (xs.drop k)=((cJ xs k:Nat):Int):=by
 rw [List.drop_eq_getElem_cons h,dV h];rfl
theorem zlG {xs:List Nat}{k:Nat}(h:ziA (xs.drop k)<0):xs.length≤k:=by
 rcases Nat.lt_or_ge k xs.length with hk|hk
 ·rw [zhH hk] at h;omega
 ·exact hk
theorem zlO {xs:List Nat}{k:Nat}(h:0≤ziA (xs.drop k)):k<xs.length:=by
 rcases Nat.lt_or_ge k xs.length with hk|hk
 ·exact hk
 ·rw [List.drop_eq_nil_of_le hk] at h;simp [ziA] at h
theorem zom {α:Type}[Inhabited α]{xs:List α}{k:Nat}(h:k<xs.length):xs[k]?=some (cJ xs k):=by rw [dV h];exact List.getElem?_eq_getElem h
theorem zoL {α:Type}[Inhabited α]{xs:List α}{k:Nat}{x:α}(h:xs[k]?=some x):k<xs.length∧x=cJ xs k:=by
 obtain ⟨h1,h2⟩:=List.getElem?_eq_some_iff.1 h;exact ⟨h1,by rw [dV h1,h2]⟩
def jr (l:List Nat):List Value:=l.map fun j:Nat=> .int .i64 (j:Int)
theorem zmE {l:List Nat}{k:Nat}(h:k<l.length):jr (l.take (k+1))=jr (l.take k)++[.int .i64 ((cJ l k:Nat):Int)]:=by
 unfold jr;rw [List.take_succ_eq_append_getElem h,dV h,List.map_append];rfl
@[irreducible] def dC (m:BitVec 64):List Nat:=(List.range' 0 64).filter m.getLsbD
theorem zn5 (ws:Ws)(hws:ws.length=8)(w:World):Calls Tryz.prog 165 #[.agg ws.cells.toArray] w fun e w'=>e= .returned (.int .i64 (kG ws 8:Int))∧Below w.heap.size w w':=by
 refine dt (M:=fun _=>False) (hs:=[]) Tryz.func165 rfl rfl rfl (Hp.refl _ _) ?_;refine dh ?_; (refine cN (Wt.none) rfl rfl (dJ) ?_;rintro _ _ ⟨g1,rfl,rfl⟩);refine gF ?_;refine kv ?_;refine fc ?_;refine q29 ?_;refine di ?_;refine db (T.block ?_);refine T.loop (ι:=Nat) (fun k=>[(3, .int .i64 (kG ws k:Int)),(7, .agg ws.cells.toArray),(8, .int .i64 (k:Int))]) (fun k=>[]) (fun k=>k≤8) (fun k=>8 - k) 0 ?_ ?_ ?_ ?_
 ·omega
 ·exact (by repeat (first|exact Sub.nil|refine Sub.cons rfl ?_))
 ·exact Sx
 ·intro k hphi;have hle:=zka ws k;refine fb ?_;refine T.cond rfl (fun h1=>?_) (fun h1=>?_)
  ·have p1:=h1; (try simp only [cX] at p1);have hld:=Ws.get (ws:=ws) (i:=k) (p:=k) a5 rfl;have hp8:=zko (cJ ws k);refine fh ?_;refine cL (m8 rfl rfl rfl rfl a5 hld) ?_;refine di ?_;refine db (T.region ?_);refine d8 ?_; (refine cN (Wt.none) rfl rfl (cM rfl rfl rfl (fun w hw=>zmU _ w)) ?_;rintro _ _ ⟨rfl,rfl⟩);refine q0d ?_;refine di ?_;refine kz ?_;exact K.next (k+1) a5 a5 (by repeat (first|exact Sub.nil|refine Sub.cons rfl ?_|(refine ex rfl (by rw [zjr a5];omega) ?_))) Sx
  ·have p1:=h1; (try simp only [cX] at p1);refine q1a ?_;refine jT ?_;exact c4 rfl rfl (fun w' hw=>⟨zdj (by rw [show k=8 by omega]),hw.isBelow⟩)
theorem zoq (ws:Ws)(hws:ws.length=8)(i:Nat)(hi:i<512)(w:World):Calls Tryz.prog 168 #[.agg ws.cells.toArray, .int .i64 (i:Int)] w fun e w'=>e= .returned (.tuple #[.agg (Ws.cells (d3 ws i)).toArray, .int .i64 0])∧Below w.heap.size w w':=by
 have hld:=Ws.get (ws:=ws) (i:=i / 64) (p:=0+0+i / 64*1) a5 a5;refine dt (M:=fun _=>False) (hs:=[]) Tryz.func168 rfl rfl rfl (Hp.refl _ _) ?_;refine dh ?_; (refine cN (Wt.none) rfl rfl (dJ) ?_;rintro _ _ ⟨g2,rfl,rfl⟩); (refine cN (Wt.none) rfl rfl (Ew.alloc) ?_;rintro _ _ ⟨g4,rfl,rfl⟩);refine nH ?_; (refine cN (Wt.none) rfl rfl (cM rfl rfl rfl (fun w hw=>ze8 _ _)) ?_;rintro _ _ ⟨rfl,rfl⟩);refine dA ?_;refine iK rfl (by rw [inB,decide_eq_true (show (0:Int)≤(i:Int) by omega),decide_eq_true (show (i:Int)≤511 by omega)];rfl) ?_;refine jh ?_;refine dD (sN 0 4 (sN 5 3 (.still 9 (.eff 4 (.still 8 (.still 10 (.eff 11 .done))))))) [.row g4 83 (Ws.cells fx)] a7 Sx ?_;refine fK ?_;refine cQ rfl (j5 rfl rfl rfl a5) ?_;refine fH ?_;refine cQ rfl (ec rfl rfl rfl (show (i:Int) / 64=((i / 64:Nat):Int) from by omega) a5) ?_;refine fK ?_;refine cQ rfl (jC rfl rfl rfl a5) ?_;refine cQ rfl (gU (a:=1#64) (i % 64) rfl rfl rfl a5 a5) ?_;refine lC ?_;refine eT rfl (Wt.none) rfl rfl (dc 1 rfl rfl rfl hld) Sx ?_;refine cQ rfl (i8) ?_;refine cQ rfl (ec rfl rfl rfl (show (i:Int) / 64=((i / 64:Nat):Int) from by omega) a5) ?_;refine dy ?_; (refine dL rfl (Wt.none) rfl (iA 1 (Ws.cells (d3 ws i)) rfl rfl rfl rfl (by rw [List.length_map,hws];omega) (Ws.put a5)) ?_;rintro _ _ ⟨rfl,rfl⟩;refine ⟨Sx,?_⟩);refine gh ?_;refine K.seq (dh ?_);refine cL (dO 1 rfl rfl rfl (by rw [List.length_map,lz,hws])) ?_; (refine dP (Wt.none) rfl (dI 0 rfl rfl rfl rfl (by rw [List.length_map,lz,hws]) (by rw [List.length_map,lz,hws];rfl)) ?_;rintro _ _ ⟨rfl,rfl⟩);refine fw ?_;exact gZ 0 rfl rfl rfl rfl (by rw [List.length_map,lz,hws]) (fun w' hw=>⟨rfl,hw.isBelow⟩)
theorem zki (ws:Ws)(hws:ws.length=8)(i:Nat)(z:Int)(hz:z=(i:Int))(w:World)(ht:Tab w):Calls Tryz.prog 179 #[.agg ws.cells.toArray, .int .i64 z] w fun e w'=>e= .returned (.int .i64 (ziA (fi ws i)))∧Below w.heap.size w w':=by
 subst hz;refine dt (M:=fun _=>False) (hs:=[]) Tryz.func179 rfl rfl rfl (Hp.refl _ _) ?_;refine dh ?_; (refine cN (Wt.none) rfl rfl (dJ) ?_;rintro _ _ ⟨g2,rfl,rfl⟩);refine kv ?_;refine jE ?_;refine iK rfl (decide_eq_false a5) ?_;refine lW ?_;refine jE ?_;refine T.cond rfl (fun h1=>?_) (fun h1=>?_)
 ·have p1:=h1; (try simp only [cX] at p1);refine iw ?_;exact c4 rfl rfl (fun w' hw=>⟨zdj (by rw [zg9 (fun j h1 h2=>by omega)];rfl),hw.isBelow⟩)
 ·have p1:=h1; (try simp only [cX] at p1);have hld:=Ws.get (ws:=ws) (i:=i / 64) (p:=0+0+i / 64*1) a5 a5;refine iO ?_;refine di ?_;refine cL (j5 rfl rfl rfl a5) ?_;refine lO ?_;refine fc ?_;refine cL (ec rfl rfl rfl (show (i:Int) / 64=((i / 64:Nat):Int) from by omega) a5) ?_;refine cL (dc 0 rfl rfl rfl hld) ?_;refine di ?_;refine cL (jC rfl rfl rfl a5) ?_;refine cL (fZ (i % 64) rfl rfl rfl a5 a5) ?_;refine di ?_;refine cL (jC rfl rfl rfl a5) ?_;refine cL (gU (i % 64) rfl rfl rfl a5 a5) ?_;refine di ?_;refine db (T.seq (T.block ?_));refine T.loop (ι:=Nat×BitVec 64) (fun x=>[(2, .pointer (some ⟨g2,0,none⟩)),(5, .int .i64 (x.1:Int)),(6,U x.2)]) (fun x=>[.row g2 83 ws.cells]) (fun x=>NxInv ws i x.1 x.2) (fun x=>8 - x.1) (i / 64,(cJ ws (i / 64) >>> (i % 64)) <<< (i % 64)) ?_ ?_ ?_ ?_
  ·exact NxInv.start a5
  ·exact (by repeat (first|exact Sub.nil|refine Sub.cons rfl ?_|(refine ex rfl a5 ?_)))
  ·exact Sx
  ·intro x hphi;obtain ⟨a,b⟩:=x;dsimp only at hphi ⊢;have hlt0:=hphi.lt;refine iC ?_;refine db ?_;refine T.cond rfl (fun h2=>?_) (fun h2=>?_)
   ·have p2:=h2; (try simp only [cX] at p2); (have hb0:b=0#64:=by rw [znX] at h2;exact of_decide_eq_true h2);subst hb0;refine T.skip (K.seq (T.block (dh ?_)));refine di ?_;refine q0d ?_;refine kv ?_;refine jE ?_;refine T.cond rfl (fun h3=>?_) (fun h3=>?_)
    ·have p3:=h3; (try simp only [cX] at p3);refine gy ?_;refine db (T.ret (ee (fB (ee (fB (ee ?_))))));exact c4 rfl rfl (fun w' hw=>⟨zdj (by rw [hphi.over a5];rfl),hw.isBelow⟩)
    ·have p3:=h3; (try simp only [cX] at p3);have hlt8:=hphi.lt;have hld:=Ws.get (ws:=ws) (i:=a+1) (p:=0+0+(a+1) *1) a5 a5;refine T.skip (K.seq (T.region ?_));refine di ?_;refine fc ?_;refine cL (ec rfl rfl rfl (show (a:Int)+1=((a+1:Nat):Int) from by omega) a5) ?_;refine cL (dc 0 rfl rfl rfl hld) ?_;refine di ?_;refine TL.nil (gT ?_);exact K.next (a+1,cJ ws (a+1)) (hphi.next a5) (by show 8 - (a+1)<8 - a;omega) (by repeat (first|exact Sub.nil|refine Sub.cons rfl ?_|(refine ex rfl a5 ?_))) Sx
   ·have p2:=h2; (try simp only [cX] at p2); (have hb0:b≠0#64:=by rw [znX] at h2;exact of_decide_eq_false h2);have hcz:=ziJ hb0;have hlt8:=hphi.lt;refine q1a ?_;refine di ?_;refine cL (Yv.cu rfl rfl rfl a5) ?_;refine di ?_; (refine cN (Wt.none) rfl rfl (cM rfl rfl rfl (fun w hw=>znJ b hb0 w (ht.keptF hw))) ?_;rintro _ _ ⟨rfl,rfl⟩);refine q0d ?_;refine fw ?_;exact c4 rfl rfl (fun w' hw=>⟨zdj (by rw [hphi.found hb0];simp only [ziA];omega),hw.isBelow⟩)
theorem zn8 (ws:Ws)(hws:ws.length=8)(w:World)(ht:Tab w):Calls Tryz.prog 178 #[.agg ws.cells.toArray] w fun e w'=>e= .returned (.int .i64 (ziA (fk ws)))∧Below w.heap.size w w':=by
 refine dt (M:=fun _=>False) (hs:=[]) Tryz.func178 rfl rfl rfl (Hp.refl _ _) ?_;refine dh ?_; (refine cN (Wt.none) rfl rfl (dJ) ?_;rintro _ _ ⟨g1,rfl,rfl⟩);refine gF ?_;refine q29 ?_; (refine cN (Wt.none) rfl rfl (cM rfl rfl rfl (fun w hw=>zki ws hws 0 0 rfl w (ht.keptF hw))) ?_;rintro _ _ ⟨rfl,rfl⟩);refine fw ?_;refine c4 rfl rfl (fun w' hw=>⟨?_,hw.isBelow⟩)
 rfl
theorem zoB (ws:Ws)(hws:ws.length=8)(w:World):Calls Tryz.prog 166 #[.agg ws.cells.toArray] w fun e w'=>∃x:Nat,True∧e= .returned (.func (.func 177) #[] #[.pointer (some ⟨x,0,none⟩)])∧Hp w (fun _=>False) [.row x 83 ws.cells] w':=by
 refine dt (M:=fun _=>False) (hs:=[]) Tryz.func166 rfl rfl rfl (Hp.refl _ _) ?_;refine dh ?_; (refine cN (Wt.none) rfl rfl (dJ) ?_;rintro _ _ ⟨g1,rfl,rfl⟩);refine gF ?_;refine jT ?_;exact c4 rfl rfl (fun w' hw=>⟨g1,trivial,rfl,hw⟩)
theorem zmZ (ws:Ws)(hws:ws.length=8)(p:Nat)(B:World)(M:Nat→Prop)(ht:Tab B)(hM0:¬M 0):IterAt Tryz.prog 177 [.pointer (some ⟨p,0,none⟩)] (fun j:Nat=>[.int .i64 (j:Int)]) (fk ws) [.row p 83 ws.cells] B M:=by
 intro G Z l W g0 hy hG0 hW;refine zkI (B:=B) (M:=M) Tryz.func177 rfl rfl rfl hW ?_;refine dh ?_;refine q29 ?_; (refine cN (Wt.none) rfl rfl (cM rfl rfl rfl (fun w hw=>zn8 ws hws w (ht.kept hw hM0))) ?_;rintro _ _ ⟨rfl,rfl⟩);refine di ?_;refine db (T.block ?_);refine T.loop (ι:=Nat×HS) (fun x=>[(0, .func (.yield l) #[] #[]),(1, .pointer (some ⟨p,0,none⟩)),(3, .int .i64 (ziA ((fk ws).drop x.1)))]) (fun x=>[.row p 83 ws.cells]++x.2) (fun x=>x.1≤(fk ws).length∧G x.1 x.2) (fun x=>(fk ws).length - x.1) (0,g0) ?_ ?_ ?_ ?_
 ·exact ⟨by simp,hG0⟩
 ·exact (by repeat (first|exact Sub.nil|refine Sub.cons rfl ?_))
 ·exact eh
 ·intro x hphi;obtain ⟨k,g⟩:=x;dsimp only at hphi ⊢;obtain ⟨hkn,hG⟩:=hphi;refine iC ?_;refine db ?_;refine T.cond rfl (fun h1=>?_) (fun h1=>?_)
  ·have p1:=h1; (try simp only [cX] at p1);have hk:=zlO p1;have h512:cJ (fk ws) k<512:=(fS.1 (iY hk)).2.1;rw [zhH hk];refine fh ?_;refine d8 ?_;refine TL.bY (Wt.none) rfl rfl rfl rfl rfl hy (zom hk) hG (enc:=fun j:Nat=>[.int .i64 (j:Int)]) (x:=cJ (fk ws) k) (i:=k) ?_ ?_
   ·intro g' hG';refine dA ?_;refine iK rfl rfl ?_;refine q0p ?_;refine q29 ?_;refine di ?_;refine q0d ?_; (refine cN (Wt.none) rfl rfl (cM rfl rfl rfl (fun w hw=>zki ws hws (cJ (fk ws) k+1) _ a5 w (ht.kept hw hM0))) ?_;rintro _ _ ⟨rfl,rfl⟩);refine di ?_;refine eW ?_;exact K.next (k+1,g') ⟨by dsimp only;omega,hG'⟩ (by dsimp only;omega) (by rw [←ziv ws k 0 hk];exact (by repeat (first|exact Sub.nil|refine Sub.cons rfl ?_))) (List.Sublist.refl _)
   ·intro z hZ;refine dA ?_;refine mD rfl rfl ?_;refine T.ret (fB (ee (ee (fB ?_))));exact K.cj rfl (fun w' hw hkp=>⟨⟨_,rfl⟩,hkp, .inr ⟨z,hZ,hw⟩⟩)
  ·have p1:=h1; (try simp only [cX] at p1);have hk:=zlG p1;refine eC ?_;exact K.ck rfl (fun w' hw hkp=>⟨⟨_,rfl⟩,hkp, .inl ⟨g,by rw [show (fk ws).length=k from by omega];exact hG,hw⟩⟩)
theorem zkH (ws:Ws)(hws:ws.length=8)(w:World)(ht:Tab w):Calls Tryz.prog 156 #[.agg ws.cells.toArray] w fun e w'=>∃v:Value,True∧e= .returned v∧Hp w (fun _=>False) [.sl v 3 1 (fk ws).length (jr (fk ws))] w':=by
 have hsl8:=zka ws 8;have hml:=zgD ws 0;refine dt (M:=fun _=>False) (hs:=[]) Tryz.func156 rfl rfl rfl (Hp.refl _ _) ?_;refine dh ?_; (refine cN (Wt.none) rfl rfl (dJ) ?_;rintro _ _ ⟨g1,rfl,rfl⟩);refine gF ?_;refine q29 ?_; (refine cN (Wt.none) rfl rfl (cM rfl rfl rfl (fun w hw=>zn5 ws hws w)) ?_;rintro _ _ ⟨rfl,rfl⟩); (refine cN (Wt.none) rfl rfl (Ew.bH rfl rfl rfl rfl a5 a5) ?_;rintro _ _ ⟨g7,rfl,rfl⟩); (refine cN (Wt.none) rfl rfl (Ew.alloc) ?_;rintro _ _ ⟨g3,rfl,rfl⟩); (refine dP (Wt.none) rfl (eo 0 rfl rfl rfl rfl a6) ?_;rintro _ _ ⟨rfl,rfl⟩);refine jq ?_;refine cL (dO 2 rfl rfl rfl (by rw [List.length_map,hws])) ?_; (refine cN (Wt.none) rfl rfl (jy rfl rfl rfl (fun w hw=>zoB ws hws _)) ?_;rintro _ _ ⟨b9, -,rfl,rfl⟩);refine fI ?_;refine db (T.block ?_);refine T.bG (α:=Nat) ((fun j:Nat=>[.int .i64 (j:Int)])) (fk ws) ([.row b9 83 ws.cells]) (fun i g=>∃v,g=[.row g3 30 [v], .sl v 3 1 i (jr ((fk ws).take i))]) (fun _ _=>False) (fun x=>[(3, .pointer (some ⟨g3,0,none⟩)),(4, .int .i64 (x:Int))]) (_) (⟨_,rfl⟩) rfl (zmZ ws hws b9 _ _ ht (fun h=>h)) a6 (fun _=>rfl) (by exact Sx) ?_ ?_ ?_ ?_
 ·intro l i x X D g hx;refine gM ?_;refine eW ?_;exact K.at (by repeat (first|exact Sub.nil|refine Sub.cons rfl ?_)) (List.Sublist.refl _)
 ·intro l i x X D g hx hG;obtain ⟨v,rfl⟩:=hG;obtain ⟨hi,rfl⟩:=zoL hx;have hi2:i<(fi ws 0).length:=hi;refine fI ?_;refine T.block (T.region ?_);refine cL (dc 1) ?_;refine di ?_; (refine cN (Wt.none) rfl rfl (Ew.buildSlice rfl rfl rfl a6) ?_;rintro _ _ ⟨g13,rfl,rfl⟩); (refine cN (Wt.none) rfl rfl (Ew.append 3 0 rfl rfl rfl rfl rfl rfl a5 a5) ?_;rintro v14 _ ⟨hv14,rfl⟩); (refine dP (Wt.none) rfl (eo 2 rfl rfl rfl rfl b5) ?_;rintro _ _ ⟨rfl,rfl⟩);refine TL.nil (gT ?_);exact K.round _ ⟨_,rfl,v14,rfl⟩ (by rw [zmE hi];exact Sx)
 ·intro g hG;obtain ⟨v,rfl⟩:=hG;refine fI ?_;rw [List.take_length];refine gT (K.seq (dh ?_));refine cL (dc 1) ?_;refine fw ?_;exact c4 rfl rfl (fun w' hw=>⟨_,trivial,rfl,hw.sub Sx⟩)
 ·intro c y hz;exact hz.elim
theorem lM {w:World}{v:Value}{e:TypeId}{size k:Nat}{l:List Value}(h:(Ent.sl v e size k l).ok w):OneC v:=by
 rcases (cY.1 h).2 with ⟨rfl,_⟩|⟨g,cap,cur,rfl,_⟩ <;> exact inferInstance
structure Tb where
 st:List Int
 ix:Nat→Int
 total:Int
 vps:List Value
 ps:Nat→List Pr
 vcs:List Value
 cs:Nat→List Cp
 vin:List Value
 inn:Nat→List Ld
 vout:List Value
 out:Nat→List Ld
abbrev Tb.n (T:Tb):Nat:=T.st.length
structure Lists {α:Type} (w:World) (p:Addr) (enc:α→List Value) (size:Nat) (vs:List Value) (n:Nat) (f:Nat→List α):Prop where
 at':∃v,w.cell? p=some v∧SlOf w v (fun u=>[u]) 1 vs
 len:vs.length=n
 each:∀i,i<n→SlOf w (cJ vs i) enc size (f i)
structure TablesAt (w:World) (tp:Nat) (T:Tb):Prop where
 st:∃v,w.cell? ⟨tp,0,none⟩=some v∧zgL w v T.st
 ix:∀j,j<512→w.cell? ⟨tp,1+j,none⟩=some (.int .i64 (T.ix j))
 total:w.cell? ⟨tp,513,none⟩=some (.int .i64 T.total)
 ps:Lists w ⟨tp,514,none⟩ Pr.cells 5 T.vps T.n T.ps
 cs:Lists w ⟨tp,515,none⟩ Cp.cells 4 T.vcs T.n T.cs
 inn:Lists w ⟨tp,516,none⟩ Ld.cells 5 T.vin T.n T.inn
 out:Lists w ⟨tp,517,none⟩ Ld.cells 5 T.vout T.n T.out
structure Tb.Ok (T:Tb):Prop where
 n:T.n≤512
 ps:∀i,i<T.n→(T.ps i).length≤4096∧∀x∈T.ps i,0≤x.a∧x.a<T.n∧0≤x.b∧x.b<T.n∧ -1≤x.off∧x.off≤1∧2≤x.lo∧x.lo≤x.hi∧x.hi≤51∧(x.a=i∨x.b=i)
 cs:∀i,i<T.n→(T.cs i).length≤1024∧∀x∈T.cs i,0≤x.mx∧x.mx≤1099511627776∧2≤x.lo∧x.lo≤x.hi∧x.hi≤51
 inn:∀i,i<T.n→(T.inn i).length≤1024∧∀x∈T.inn i,x.to=i∧0≤x.fr∧x.fr<T.n∧1≤x.wt∧x.wt≤1073741824∧2≤x.lo∧x.lo≤x.hi∧x.hi≤51
 psS:∀i,i<T.n→∀x∈T.ps i,x.a≠x.b∧x∈T.ps x.a.toNat∧x∈T.ps x.b.toNat
 innS:∀i,i<T.n→∀x∈T.inn i,x.to≠x.fr∧x∈T.out x.fr.toNat
 outS:∀i,i<T.n→∀x∈T.out i,x.to≠x.fr∧x∈T.inn x.to.toNat
 out:∀i,i<T.n→(T.out i).length≤1024∧∀x∈T.out i,x.fr=i∧0≤x.to∧x.to<T.n∧1≤x.wt∧x.wt≤1073741824∧2≤x.lo∧x.lo≤x.hi∧x.hi≤51
def jJ (w:World)(g:Nat):Prop:=∃cs t p,w.heap[g]?=some (.cells cs t p)
def Fz (w0 w:World):Prop:=∀g,jJ w0 g→w.heap[g]?=w0.heap[g]?
theorem zeQ {w:World}{p:Addr}{v:Value}(h:w.cell? p=some v):jJ w p.block:=by
 unfold World.cell? at h
 split at h
 ·rename_i hh;exact ⟨_,_,_,hh⟩
 ·cases h
theorem Fz.cell {w w':World}(hb:Fz w w'){p:Addr}{v:Value}(h:w.cell? p=some v):w'.cell? p=some v:=(World.cell?_of_block (w:=w) (hb _ (zeQ h))).trans h
theorem Fz.cs {w w':World}(hb:Fz w w'){g p:Nat}{l:List Value}(h:Cs w g p l):Cs w' g p l:=fun j hj=>by
 have:=h j hj;rw [List.getElem?_eq_getElem hj] at this ⊢;exact hb.cell this
theorem i1 {w:World}{g p:Nat}{l:List Value}(h:Cs w g p l)(hl:0<l.length):jJ w g:=by
 have:=h 0 hl;rw [List.getElem?_eq_getElem hl] at this;exact zeQ this
theorem Fz.sl {α:Type}{w w':World}(hb:Fz w w'){v:Value}{enc:α→List Value}{size:Nat}{xs:List α}(h:SlOf w v enc size xs):SlOf w' v enc size xs:=by
 obtain ⟨A,cap,rfl,hc⟩:=h;refine ⟨A,cap,rfl,fun hp=>?_⟩;obtain ⟨g,off,rfl,hcs⟩:=hc hp;exact ⟨g,off,rfl,fun i hi=>hb.cs (hcs i hi)⟩
theorem gW {w w':World}(hb:Below w.heap.size w w'):Fz w w':=fun g ⟨cs,t,p,h⟩=>hb.block g (Array.getElem?_eq_some_iff.1 h).1
theorem Fz.hp {w0 w w':World}{M:Nat→Prop}{hs:HS}(h:Fz w0 w)(hw:Hp w M hs w')(h0:∀g,M g→¬jJ w0 g):Fz w0 w':=fun g hg=>by
 have h1:=h g hg;obtain ⟨cs,t,p,e⟩:=hg;rw [←h1];refine hw.base g ?_ (fun hm=>h0 g hm ⟨cs,t,p,e⟩);rw [e] at h1;exact (Array.getElem?_eq_some_iff.1 h1).1
theorem Lists.later {α:Type}{w w':World}(hb:Fz w w'){p:Addr}{enc:α→List Value}{size:Nat}{vs:List Value}{n:Nat}{f:Nat→List α}(h:Lists w p enc size vs n f):Lists w' p enc size vs n f:=
 ⟨by obtain ⟨v,h1,h2⟩:=h.at';exact ⟨v,hb.cell h1,hb.sl h2⟩,h.len,fun i hi=>hb.sl (h.each i hi)⟩
theorem TablesAt.later {w w':World}(hb:Fz w w'){tp:Nat}{T:Tb}(h:TablesAt w tp T):TablesAt w' tp T:=
 ⟨by obtain ⟨v,h1,h2⟩:=h.st;exact ⟨v,hb.cell h1,hb.sl h2⟩,fun j hj=>hb.cell (h.ix j hj),hb.cell h.total,h.ps.later hb,h.cs.later hb,h.inn.later hb,h.out.later hb⟩
def Le (b:BitVec 64):List Value:=[U b]
structure StateAt (w:World) (sp:Nat) (T:Tb) (L:Ws) (c:Bool):Prop where
 tab:Tab w
 tb:∃tp,w.cell? ⟨sp,0,none⟩=some (.pointer (some ⟨tp,0,none⟩))∧TablesAt w tp T
 left:∃v,w.cell? ⟨sp,1,none⟩=some v∧SlOf w v Le 1 L
 len:L.length=T.n
 con:w.cell? ⟨sp,2,none⟩=some (.bool c)
theorem StateAt.later {w w':World}(hb:Below w.heap.size w w'){sp:Nat}{T:Tb}{L:Ws}{c:Bool}(h:StateAt w sp T L c):StateAt w' sp T L c:=
 have hf:=gW hb
 ⟨h.tab.keptF (gX hb),by obtain ⟨tp,h1,h2⟩:=h.tb;exact ⟨tp,hf.cell h1,h2.later hf⟩,by obtain ⟨v,h1,h2⟩:=h.left;exact ⟨v,hf.cell h1,hf.sl h2⟩,h.len,hf.cell h.con⟩
theorem StateAt.kept {B w:World}{hs:HS}{sp:Nat}{T:Tb}{L:Ws}{c:Bool}(hw:Hp B (fun _=>False) hs w)(h:StateAt B sp T L c):StateAt w sp T L c:=h.later ⟨hw.os,hw.tape,hw.output,hw.size,fun k hk=>hw.base k hk (fun h=>h)⟩
def ja (b:BitVec 64):Nat:=if b≠0#64∧b &&& (b - 1#64)=0#64 then ctz b else 0
def only (L:Ws)(i:Nat):Nat:=ja (cJ L i)
theorem zmW (b:BitVec 64):ja b<64:=by
 unfold ja;split
 ·rename_i h;exact ziJ h.1
 ·decide
theorem zio (L:Ws)(i:Nat):only L i<64:=zmW _
def mN (L:Ws)(i:Nat)(g:BitVec 64)(x:Pr):BitVec 64:=
 if x.a=(i:Int) then
  if (only L x.b.toNat:Int)≠0∧x.lo≤(only L x.b.toNat:Int) - x.off∧(only L x.b.toNat:Int) - x.off≤x.hi then g ||| 1#64 <<< ((only L x.b.toNat:Int) - x.off).toNat else g
 else if x.lo≤(only L x.a.toNat:Int)∧(only L x.a.toNat:Int)≤x.hi then g ||| 1#64 <<< ((only L x.a.toNat:Int)+x.off).toNat else g
def mu (T:Tb)(L:Ws)(i:Nat):BitVec 64:=(T.ps i).foldl (mN L i) 0#64
theorem ju {α β:Type}[Inhabited α](f:β→α→β)(z:β){l:List α}{k:Nat}(h:k<l.length):(l.take (k+1)).foldl f z=f ((l.take k).foldl f z) (cJ l k):=by
 rw [List.take_succ_eq_append_getElem h,dV h,List.foldl_append];rfl
theorem zni {b:BitVec 64}(h1:¬(b.toNat:Int)=0)(h2:((b &&& (b - 1#64)).toNat:Int)=0):ja b=ctz b:=by
 unfold ja;rw [if_pos ⟨by rintro rfl;exact h1 rfl,BitVec.eq_of_toNat_eq (by show _=0;omega)⟩]
theorem zou {b:BitVec 64}(h2:¬((b &&& (b - 1#64)).toNat:Int)=0):ja b=0:=by
 unfold ja;rw [if_neg (fun h=>h2 (by rw [h.2];rfl))]
theorem zm1 {b:BitVec 64}(h1:(b.toNat:Int)=0):ja b=0:=by
 unfold ja;rw [if_neg (fun h=>h.1 (BitVec.eq_of_toNat_eq (by show _=0;omega)))]
theorem zdO (sp:Nat)(Y:Tb)(L:Ws)(c:Bool)(i:Nat)(z:Int)(hz:z=(i:Int))(hi:i<Y.n)(w:World)(h:StateAt w sp Y L c):Calls Tryz.prog 164 #[.pointer (some ⟨sp,0,none⟩), .int .i64 z] w fun e w'=>e= .returned (.int .i64 (only L i:Int))∧Below w.heap.size w w':=by
 subst hz;obtain ⟨tp,hsp0,hT⟩:=h.tb;obtain ⟨vL,hsp1,hL⟩:=h.left;obtain ⟨AL,fM,rfl,hLs⟩:=hL.op;have hLn:=h.len;obtain ⟨gL,oL,rfl,hc⟩:=hLs a5;have hk:=hc i a5;simp only [Le] at hk;refine dt (M:=fun _=>False) (hs:=[]) Tryz.func164 rfl rfl rfl (Hp.refl _ _) ?_;refine gy ?_;refine jq ?_;refine d8 ?_;refine fc ?_;refine cL (dY rfl rfl cD (fun h=>h)) ?_;refine di ?_;refine q2q ?_;refine gF ?_;refine eB ?_;refine du rfl rfl rfl (fun h1=>?_) (fun h1=>?_)
 ·have p1:=h1; (try simp only [cX] at p1);refine jY ?_;refine jY ?_;refine da (Wt.some rfl rfl rfl h1) rfl rfl (Yv.cw (b:=1#64) rfl rfl rfl) ?_;refine da (Wt.some rfl rfl rfl h1) rfl rfl (gj) ?_;refine jY ?_;refine lq ?_;refine db ?_;refine T.cond rfl (fun h2=>?_) (fun h2=>?_)
  ·have p2:=h2; (try simp only [cX] at p2); (have hne:cJ L i≠0#64:=by intro hh;rw [hh] at p1;exact p1 rfl);refine gy ?_; (refine cN (Wt.none) rfl rfl (cM rfl rfl rfl (fun w hw=>znJ _ hne w (h.tab.keptF hw))) ?_;rintro _ _ ⟨rfl,rfl⟩);refine di ?_;refine kh ?_;exact c4 rfl rfl (fun w' hw=>⟨zdj (by rw [only,zni p1 p2]),hw.isBelow⟩)
  ·have p2:=h2; (try simp only [cX] at p2);refine iO ?_;refine fw ?_;exact c4 rfl rfl (fun w' hw=>⟨zdj (by rw [only,zou p2];rfl),hw.isBelow⟩)
 ·have p1:=h1; (try simp only [cX] at p1);refine kw ?_;refine q1v ?_;refine nD ?_;refine iO ?_;refine fw ?_;exact c4 rfl rfl (fun w' hw=>⟨zdj (by rw [only,zm1 p1];rfl),hw.isBelow⟩)
theorem zjJ (sp:Nat)(Y:Tb)(L:Ws)(c:Bool)(i:Nat)(z:Int)(hz:z=(i:Int))(hi:i<Y.n)(w:World)(h:StateAt w sp Y L c)(hok:Y.Ok):Calls Tryz.prog 153 #[.pointer (some ⟨sp,0,none⟩), .int .i64 z] w fun e w'=>e= .returned (U (mu Y L i))∧Below w.heap.size w w':=by
 subst hz;obtain ⟨tp,hsp0,hT⟩:=h.tb;obtain ⟨vL,hsp1,hL⟩:=h.left;obtain ⟨AL,fM,rfl,hLs⟩:=hL.op;have hLn:=h.len;obtain ⟨vP,hP0,hP⟩:=hT.ps.at';obtain ⟨AP,capP,rfl,hPs⟩:=hP.op;have hPn:=hT.ps.len;obtain ⟨gP,oP,rfl,hPc⟩:=hPs a5;rw [hPn] at hP0;have hPi:=hPc i (by rw [hPn];exact hi);obtain ⟨BP,cpP,hvP,hslP⟩:=(hT.ps.each i hi).op;simp only [hvP] at hPi;obtain ⟨hlen,hrng⟩:=hok.ps i hi;have hn512:=hok.n;refine dt (M:=fun _=>False) (hs:=[]) Tryz.func153 rfl rfl rfl (Hp.refl _ _) ?_;refine mE ?_;refine kv ?_;refine d8 ?_;refine q16 ?_;refine cL (dY rfl rfl hP0 (fun h=>h)) ?_;refine mZ ?_;refine cL (d9 (j:=0) rfl rfl hPi rfl rfl (fun h=>h)) ?_;refine j4 ?_;refine T.loop (ι:=Nat) (fun k=>[(0, .pointer (some ⟨sp,0,none⟩)),(1, .int .i64 (i:Int)),(5,U (((Y.ps i).take k).foldl (mN L i) 0#64)),(19, .slice BP (Y.ps i).length cpP),(20, .int .i64 ((Y.ps i).length:Int)),(21, .int .i64 (k:Int))]) (fun k=>[]) (fun k=>k≤(Y.ps i).length) (fun k=>(Y.ps i).length - k) 0 ?_ ?_ ?_ ?_
 ·omega
 ·exact (by repeat (first|exact Sub.nil|refine Sub.cons rfl ?_))
 ·exact Sx
 ·intro k hphi;refine fb ?_;refine T.cond rfl (fun h1=>?_) (fun h1=>?_)
  ·have p1:=h1; (try simp only [cX] at p1);obtain ⟨g,off,rfl,hc⟩:=hslP a5;have hk:=hc k a5;simp only [Pr.cells] at hk;have hr:=hrng _ (iY (xs:=Y.ps i) (k:=k) a5);have oa:=zio L (cJ (Y.ps i) k).a.toNat;have ob:=zio L (cJ (Y.ps i) k).b.toNat;refine fh ?_;refine me ?_; (refine cN (Wt.none) rfl rfl (Ew.alloc) ?_;rintro _ _ ⟨g7,rfl,rfl⟩); (refine dP (Wt.none) rfl (dI 0) ?_;rintro _ _ ⟨rfl,rfl⟩);refine dX ?_;refine ef ?_;refine jE ?_;refine T.cond rfl (fun h2=>?_) (fun h2=>?_)
   ·have p2:=h2; (try simp only [cX] at p2);refine gy ?_;refine ef ?_; (refine cN (Wt.none) rfl rfl (cM rfl rfl rfl (fun w hw=>zdO sp Y L c (cJ (Y.ps i) k).b.toNat _ a5 a5 w (h.kept hw))) ?_;rintro _ _ ⟨rfl,rfl⟩);refine gF ?_;refine eB ?_;refine du rfl rfl rfl (fun h3=>?_) (fun h3=>?_)
    ·have p3:=h3; (try simp only [cX] at p3);refine q0Z ?_;refine q15 ?_;refine q0Z ?_;refine da (Wt.some rfl rfl rfl h3) rfl rfl (kU rfl rfl rfl a5) ?_;refine q15 ?_;refine q4h ?_;refine di ?_;refine du rfl rfl rfl (fun h4=>?_) (fun h4=>?_)
     ·have p4:=h4; (try simp only [cX] at p4);refine da (Wt.some rfl rfl rfl h4) rfl rfl (d6) ?_;refine q00 ?_;refine da (Wt.some rfl rfl rfl h4) rfl rfl (kU rfl rfl rfl a5) ?_;refine q00 ?_;refine da (Wt.some rfl rfl rfl h4) rfl rfl (d6) ?_;refine cL (eV rfl rfl h4) ?_;refine db ?_;refine T.cond rfl (fun h5=>?_) (fun h5=>?_)
      ·have p5:=h5; (try simp only [cX] at p5);refine iW ?_;refine ef ?_;refine nh ?_;refine cL (gU (a:=1#64) ((only L (cJ (Y.ps i) k).b.toNat:Int) - (cJ (Y.ps i) k).off).toNat rfl rfl rfl a5 a5) ?_;refine q4e ?_;exact K.next (k+1) a5 a5 (by rw [ju _ _ a5,mN,if_pos p2,if_pos ⟨p3,p4,p5⟩];exact (by repeat (first|exact Sub.nil|refine Sub.cons rfl ?_))) Sx
      ·have p5:=h5; (try simp only [cX] at p5);refine iz ?_;exact K.next (k+1) a5 a5 (by rw [ju _ _ a5,mN,if_pos p2,if_neg (fun hh=>absurd hh.2.2 a5)];exact (by repeat (first|exact Sub.nil|refine Sub.cons rfl ?_))) Sx
     ·have p4:=h4; (try simp only [cX] at p4);refine q0v ?_;refine q0v ?_;refine TL.off (Wt.not rfl rfl rfl h4) rfl rfl ?_;refine cL (ek rfl rfl h4) ?_;refine nD ?_;refine iz ?_;exact K.next (k+1) a5 a5 (by rw [ju _ _ a5,mN,if_pos p2,if_neg (fun hh=>absurd hh.2.1 a5)];exact (by repeat (first|exact Sub.nil|refine Sub.cons rfl ?_))) Sx
    ·have p3:=h3; (try simp only [cX] at p3);refine q0w ?_;refine q3O ?_;refine TL.run 9 rfl ?_;refine nD ?_;refine iz ?_;exact K.next (k+1) a5 a5 (by rw [ju _ _ a5,mN,if_pos p2,if_neg (fun hh=>hh.1 p3)];exact (by repeat (first|exact Sub.nil|refine Sub.cons rfl ?_))) Sx
   ·have p2:=h2; (try simp only [cX] at p2);refine gy ?_;refine ef ?_; (refine cN (Wt.none) rfl rfl (cM rfl rfl rfl (fun w hw=>zdO sp Y L c (cJ (Y.ps i) k).a.toNat _ a5 a5 w (h.kept hw))) ?_;rintro _ _ ⟨rfl,rfl⟩);refine gF ?_;refine ef ?_;refine eB ?_;refine du rfl rfl rfl (fun h6=>?_) (fun h6=>?_)
    ·have p6:=h6; (try simp only [cX] at p6);refine q2y ?_;refine db ?_;refine T.cond rfl (fun h7=>?_) (fun h7=>?_)
     ·have p7:=h7; (try simp only [cX] at p7);refine iW ?_;refine ef ?_;refine q0d ?_;refine cL (gU (a:=1#64) ((only L (cJ (Y.ps i) k).a.toNat:Int)+(cJ (Y.ps i) k).off).toNat rfl rfl rfl a5 a5) ?_;refine q4e ?_;exact K.next (k+1) a5 a5 (by rw [ju _ _ a5,mN,if_neg p2,if_pos ⟨p6,p7⟩];exact (by repeat (first|exact Sub.nil|refine Sub.cons rfl ?_))) Sx
     ·have p7:=h7; (try simp only [cX] at p7);refine iz ?_;exact K.next (k+1) a5 a5 (by rw [ju _ _ a5,mN,if_neg p2,if_neg (fun hh=>absurd hh.2 a5)];exact (by repeat (first|exact Sub.nil|refine Sub.cons rfl ?_))) Sx
    ·have p6:=h6; (try simp only [cX] at p6);refine q1f ?_;refine q1f ?_;refine cL (ek rfl rfl h6) ?_;refine nD ?_;refine iz ?_;exact K.next (k+1) a5 a5 (by rw [ju _ _ a5,mN,if_neg p2,if_neg (fun hh=>absurd hh.1 a5)];exact (by repeat (first|exact Sub.nil|refine Sub.cons rfl ?_))) Sx
  ·have p1:=h1; (try simp only [cX] at p1);refine q1a ?_;refine jT ?_;exact c4 rfl rfl (fun w' hw=>⟨by rw [mu,List.take_of_length_le a5],hw.isBelow⟩)
def mj (f:Nat→Int):List Value:=(List.range 52).map fun d=> .int .i64 (f d)
theorem zkb (f:Nat→Int):(mj f).length=52:=by simp [mj]
theorem zgQ {f:Nat→Int}{d p:Nat}(hp:p=d)(hd:d<52):(mj f)[p]?=some (.int .i64 (f d)):=by subst hp;simp [mj,hd]
theorem zjY {f f':Nat→Int}{d p:Nat}{v:Int}(hp:p=d)(hd:d<52)(h1:f' d=v)(h2:∀e,e≠d→f' e=f e):(mj f).set p (.int .i64 v)=mj f':=by
 subst hp h1;apply List.ext_getElem?;intro e;unfold mj;by_cases he:e=p
 ·subst he;rw [List.getElem?_set_self (by simpa using hd)];simp [hd]
 ·rw [List.getElem?_set_ne (fun h=>he h.symm)];simp only [List.getElem?_map,List.getElem?_range];by_cases h52:e<52
  ·simp [h52,h2 e he]
  ·simp [h52]
def j2 (L:Ws)(f:Nat→Int)(x:Ld):Nat→Int:=fun d=>if x.lo≤(only L x.fr.toNat:Int)∧(only L x.fr.toNat:Int)≤x.hi∧only L x.fr.toNat=d then f d+x.wt else f d
def iG (L:Ws)(l:List Ld):Nat→Int:=l.foldl (j2 L) (fun _=>0)
theorem zmk (L:Ws):∀(l:List Ld),(∀x∈l,1≤x.wt∧x.wt≤1073741824)→∀(f:Nat→Int) (b:Int),(∀d,0≤f d∧f d≤b)→∀d,0≤l.foldl (j2 L) f d∧l.foldl (j2 L) f d≤b+1073741824* (l.length:Int)
 | [],_,f,b,hf,d=>by simpa using hf d
 |x :: r,hx,f,b,hf,d=>by
  have h1:=hx x a9
  have:=zmk L r (fun y hy=>hx y (by simp [hy])) (j2 L f x) (b+1073741824) (fun e=>by
   have:=hf e
   unfold j2;split <;> omega) d
  simp only [List.foldl_cons,List.length_cons];omega
def zja (f:Nat→Int)(mx:Int)(g:BitVec 64)(d:Nat):BitVec 64:=if mx<f d then g ||| 1#64 <<< d else g
def ze4 (f:Nat→Int)(g:BitVec 64)(x:Cp):BitVec 64:=(List.range' x.lo.toNat (x.hi.toNat+1 - x.lo.toNat)).foldl (zja f x.mx) g
def kX (Y:Tb)(L:Ws)(i:Nat):BitVec 64:=(Y.cs i).foldl (ze4 (iG L (Y.inn i))) 0#64
theorem zfE {L:Ws}{l:List Ld}{k:Nat}(h:k<l.length):iG L (l.take (k+1))=j2 L (iG L (l.take k)) (cJ l k):=ju _ _ h
theorem zoN {L:Ws}{l:List Ld}(hl:l.length≤1024)(hw:∀x∈l,1≤x.wt∧x.wt≤1073741824)(k d:Nat):0≤iG L (l.take k) d∧iG L (l.take k) d≤1099511627776:=by
 have:=zmk L (l.take k) (fun x hx=>hw x (List.mem_of_mem_take hx)) (fun _=>0) 0 (fun _=>⟨by simp,by simp⟩) d; (have hk:(l.take k).length≤1024:=by rw [List.length_take];omega);unfold iG;omega
def ka (L:Ws)(i d:Nat)(s:Int)(x:Ld):Int:=if (x.lo≤(d:Int)∧(d:Int)≤x.hi)∧(x.fr=(i:Int)∨only L x.fr.toNat=d) then s+x.wt else s
theorem znI (L:Ws)(i d:Nat):∀(l:List Ld),(∀x∈l,1≤x.wt∧x.wt≤1073741824)→∀(s:Int),0≤s→0≤l.foldl (ka L i d) s∧l.foldl (ka L i d) s≤s+1073741824* (l.length:Int)
 | [],_,s,h=>by simp;exact h
 |x :: r,hx,s,h=>by
  have h1:=hx x a9; (have hs:0≤ka L i d s x∧ka L i d s x≤s+1073741824:=by unfold ka;split <;> omega);have:=znI L i d r (fun y hy=>hx y (by simp [hy])) (ka L i d s x) hs.1;simp only [List.foldl_cons,List.length_cons];omega
def j7 (L:Ws)(i d:Nat)(l:List Ld):Int:=l.foldl (ka L i d) 0
theorem zo4 {L:Ws}{l:List Ld}{i d:Nat}(hl:l.length≤1024)(hw:∀x∈l,1≤x.wt∧x.wt≤1073741824)(k:Nat):0≤j7 L i d (l.take k)∧j7 L i d (l.take k)≤1099511627776:=by
 have:=znI L i d (l.take k) (fun x hx=>hw x (List.mem_of_mem_take hx)) 0 (Int.le_refl _); (have hk:(l.take k).length≤1024:=by rw [List.length_take];omega);unfold j7;omega
def zes (lost:Int)(d:Nat)(g:BitVec 64)(x:Cp):BitVec 64:=if (x.lo≤(d:Int)∧(d:Int)≤x.hi)∧x.mx<lost then g ||| 1#64 <<< d else g
def lN (Y:Tb)(L:Ws)(i:Nat)(g:BitVec 64)(x:Ld):BitVec 64:=
 if ((only L x.to.toNat:Int)<x.lo∨x.hi<(only L x.to.toNat:Int))∨g.getLsbD (only L x.to.toNat)=true then g
 else (Y.cs x.to.toNat).foldl (zes (j7 L i (only L x.to.toNat) (Y.inn x.to.toNat)) (only L x.to.toNat)) g
def mi (Y:Tb)(L:Ws)(i:Nat):BitVec 64:=(Y.out i).foldl (lN Y L i) 0#64
theorem zkR (sp:Nat)(Y:Tb)(L:Ws)(c:Bool)(i:Nat)(z:Int)(hz:z=(i:Int))(hi:i<Y.n)(w:World)(h:StateAt w sp Y L c)(hok:Y.Ok):Calls Tryz.prog 154 #[.pointer (some ⟨sp,0,none⟩), .int .i64 z] w fun e w'=>e= .returned (U (kX Y L i))∧Below w.heap.size w w':=by
 subst hz;obtain ⟨tp,hsp0,hT⟩:=h.tb;obtain ⟨vL,hsp1,hL⟩:=h.left;obtain ⟨AL,fM,rfl,hLs⟩:=hL.op;have hLn:=h.len;obtain ⟨vC,hC0,hC⟩:=hT.cs.at';obtain ⟨AC,capC,rfl,hCs⟩:=hC.op;have hCn:=hT.cs.len;obtain ⟨gC,oC,rfl,hCc⟩:=hCs a5;rw [hCn] at hC0;have hCi:=hCc i (by rw [hCn];exact hi);obtain ⟨BC,cpC,hvC,hslC⟩:=(hT.cs.each i hi).op;simp only [hvC] at hCi;obtain ⟨vI,hI0,hI⟩:=hT.inn.at';obtain ⟨AI,capI,rfl,hIs⟩:=hI.op;have hIn:=hT.inn.len;obtain ⟨gI,oI,rfl,hIc⟩:=hIs a5;rw [hIn] at hI0;have hIi:=hIc i (by rw [hIn];exact hi);obtain ⟨BI,cpI,hvI,hslI⟩:=(hT.inn.each i hi).op;simp only [hvI] at hIi;obtain ⟨hlenC,hrngC⟩:=hok.cs i hi;obtain ⟨hlen,hrng⟩:=hok.inn i hi;have hn512:=hok.n; (have hwt:∀x∈Y.inn i,1≤x.wt∧x.wt≤1073741824:=fun x hx=>by have:=hrng x hx;omega);refine dt (M:=fun _=>False) (hs:=[]) Tryz.func154 rfl rfl rfl (Hp.refl _ _) ?_;refine q3F ?_;refine mn ?_;refine dA ?_;refine T.cond rfl (fun h1=>?_) (fun h1=>?_)
 ·have p1:=h1; (try simp only [cX] at p1);refine iw ?_;exact c4 rfl rfl (fun w' hw=>⟨by rw [kX,List.eq_nil_of_length_eq_zero (show (Y.cs i).length=0 by omega)];rfl,hw.isBelow⟩)
 ·have p1:=h1; (try simp only [cX] at p1);refine iO ?_; (refine cN (Wt.none) rfl rfl (Ew.alloc) ?_;rintro _ _ ⟨g5,rfl,rfl⟩);refine db ?_;refine T.cut (gs:=[(0, .pointer (some ⟨sp,0,none⟩)),(1, .int .i64 (i:Int)),(5, .pointer (some ⟨g5,0,none⟩))]) (hs':=[.row g5 227 (mj (iG L (Y.inn i)))]) ?_ ?_
  ·skip;refine jg ?_;refine q16 ?_;refine cL (dY rfl rfl hI0 (fun h=>h)) ?_;refine mZ ?_;refine cL (d9 (j:=0) rfl rfl hIi rfl rfl (fun h=>h)) ?_;refine j4 ?_;refine T.loop (ι:=Nat) (fun k=>[(0, .pointer (some ⟨sp,0,none⟩)),(1, .int .i64 (i:Int)),(5, .pointer (some ⟨g5,0,none⟩)),(34, .slice BI (Y.inn i).length cpI),(35, .int .i64 ((Y.inn i).length:Int)),(36, .int .i64 (k:Int))]) (fun k=>[.row g5 227 (mj (iG L ((Y.inn i).take k)))]) (fun k=>k≤(Y.inn i).length) (fun k=>(Y.inn i).length - k) 0 ?_ ?_ ?_ ?_
   ·omega
   ·exact (by repeat (first|exact Sub.nil|refine Sub.cons rfl ?_))
   ·exact Sx
   ·intro k hphi;refine fb ?_;refine T.cond rfl (fun h2=>?_) (fun h2=>?_)
    ·have p2:=h2; (try simp only [cX] at p2);obtain ⟨g,off,rfl,hc⟩:=hslI a5;have hk:=hc k a5;simp only [Ld.cells] at hk;have hr:=hrng _ (iY (xs:=Y.inn i) (k:=k) a5);have oa:=zio L (cJ (Y.inn i) k).fr.toNat;refine fh ?_;refine me ?_; (refine cN (Wt.none) rfl rfl (Ew.alloc) ?_;rintro _ _ ⟨g7,rfl,rfl⟩); (refine dP (Wt.none) rfl (dI 0) ?_;rintro _ _ ⟨rfl,rfl⟩);refine m7 ?_;refine ef ?_; (refine cN (Wt.none) rfl rfl (cM rfl rfl rfl (fun w hw=>zdO sp Y L c (cJ (Y.inn i) k).fr.toNat _ a5 a5 w (h.kept hw))) ?_;rintro _ _ ⟨rfl,rfl⟩);refine gF ?_;refine ef ?_;refine eB ?_;refine du rfl rfl rfl (fun h3=>?_) (fun h3=>?_)
     ·have p3:=h3; (try simp only [cX] at p3);refine q15 ?_;refine q0Z ?_;refine q15 ?_;refine q4h ?_;refine db ?_;refine T.cond rfl (fun h4=>?_) (fun h4=>?_)
      ·have p4:=h4; (try simp only [cX] at p4);have hld:=zgQ (f:=iG L ((Y.inn i).take k)) (d:=only L (cJ (Y.inn i) k).fr.toNat) (p:=0+only L (cJ (Y.inn i) k).fr.toNat*1) a5 a5;have hbd:=zoN (L:=L) hlen hwt k (only L (cJ (Y.inn i) k).fr.toNat);refine dD (sN 0 2 (sN 3 2 (.eff 2 (sN 5 2 (.eff 7 .done))))) (List.eraseIdx _ 1) a7 (List.eraseIdx_sublist _ _) ?_;refine fK ?_;refine cQ rfl (ec rfl rfl rfl rfl a5) ?_;refine m0 ?_;refine eT rfl (Wt.none) rfl rfl (dc 1 rfl rfl rfl hld) Sx ?_;refine cQ rfl (l6 rfl rfl rfl a5) ?_;refine cQ rfl (ec rfl rfl rfl rfl a5) ?_;refine dy ?_; (refine dL rfl (Wt.none) rfl (iA 1 (mj (iG L ((Y.inn i).take (k+1)))) rfl rfl rfl rfl (by rw [zkb];omega) (zjY (d:=only L (cJ (Y.inn i) k).fr.toNat) a5 a5 (by rw [zfE a5,j2,if_pos ⟨by omega,by omega,rfl⟩]) (fun e he=>by rw [zfE a5,j2,if_neg (fun hh=>he hh.2.2.symm)]))) ?_;rintro _ _ ⟨rfl,rfl⟩;refine ⟨Sx,?_⟩);refine q1J ?_;exact K.next (k+1) a5 a5 (by repeat (first|exact Sub.nil|refine Sub.cons rfl ?_)) Sx
      ·have p4:=h4; (try simp only [cX] at p4);refine iz ?_;exact K.next (k+1) a5 a5 (by repeat (first|exact Sub.nil|refine Sub.cons rfl ?_)) (by rw [zfE a5,show j2 L (iG L ((Y.inn i).take k)) (cJ (Y.inn i) k)=iG L ((Y.inn i).take k) from funext fun d=>by unfold j2;exact if_neg (fun hh=>absurd hh.2.1 a5)];exact Sx)
     ·have p3:=h3; (try simp only [cX] at p3);refine q3O ?_;refine nD ?_;refine iz ?_;exact K.next (k+1) a5 a5 (by repeat (first|exact Sub.nil|refine Sub.cons rfl ?_)) (by rw [zfE a5,show j2 L (iG L ((Y.inn i).take k)) (cJ (Y.inn i) k)=iG L ((Y.inn i).take k) from funext fun d=>by unfold j2;exact if_neg (fun hh=>absurd hh.1 a5)];exact Sx)
    ·have p2:=h2; (try simp only [cX] at p2);refine eC ?_;exact K.at (by repeat (first|exact Sub.nil|refine Sub.cons rfl ?_)) (by rw [show (Y.inn i).take k=Y.inn i from List.take_of_length_le a5];exact Sx)
  ·skip;refine q3F ?_;refine j4 ?_;refine T.loop (ι:=Nat) (fun k=>[(0, .pointer (some ⟨sp,0,none⟩)),(1, .int .i64 (i:Int)),(5, .pointer (some ⟨g5,0,none⟩)),(9,U (((Y.cs i).take k).foldl (ze4 (iG L (Y.inn i))) 0#64)),(71, .slice BC (Y.cs i).length cpC),(72, .int .i64 ((Y.cs i).length:Int)),(73, .int .i64 (k:Int))]) (fun k=>[.row g5 227 (mj (iG L (Y.inn i)))]) (fun k=>k≤(Y.cs i).length) (fun k=>(Y.cs i).length - k) 0 ?_ ?_ ?_ ?_
   ·omega
   ·exact (by repeat (first|exact Sub.nil|refine Sub.cons rfl ?_))
   ·exact Sx
   ·intro k hphi;refine fb ?_;refine T.cond rfl (fun h5=>?_) (fun h5=>?_)
    ·have p5:=h5; (try simp only [cX] at p5);obtain ⟨g,off,rfl,hc⟩:=hslC a5;have hk:=hc k a5;simp only [Cp.cells] at hk;have hr:=hrngC _ (iY (xs:=Y.cs i) (k:=k) a5);refine mR ?_;refine T.cut (gs:=[(0, .pointer (some ⟨sp,0,none⟩)),(1, .int .i64 (i:Int)),(5, .pointer (some ⟨g5,0,none⟩)),(9,U (((Y.cs i).take (k+1)).foldl (ze4 (iG L (Y.inn i))) 0#64)),(71, .slice (some ⟨g,off,none⟩) (Y.cs i).length cpC),(72, .int .i64 ((Y.cs i).length:Int)),(73, .int .i64 (k:Int))]) (hs':=[.row g5 227 (mj (iG L (Y.inn i)))]) ?_ ?_
     ·skip;refine T.block (dh ?_);refine me ?_; (refine cN (Wt.none) rfl rfl (Ew.alloc) ?_;rintro _ _ ⟨g11,rfl,rfl⟩); (refine dP (Wt.none) rfl (dI 0) ?_;rintro _ _ ⟨rfl,rfl⟩);refine dX ?_;refine i2 ?_;refine db (T.block ?_);refine T.loop (ι:=Nat) (fun j=>[(0, .pointer (some ⟨sp,0,none⟩)),(1, .int .i64 (i:Int)),(5, .pointer (some ⟨g5,0,none⟩)),(9,U ((List.range' (cJ (Y.cs i) k).lo.toNat j).foldl (zja (iG L (Y.inn i)) (cJ (Y.cs i) k).mx) (((Y.cs i).take k).foldl (ze4 (iG L (Y.inn i))) 0#64))),(11, .pointer (some ⟨g11,0,none⟩)),(12, .int .i64 ((cJ (Y.cs i) k).lo+(j:Int))),(71, .slice (some ⟨g,off,none⟩) (Y.cs i).length cpC),(72, .int .i64 ((Y.cs i).length:Int)),(73, .int .i64 (k:Int))]) (fun j=>[.row g11 104 [.int .i64 (cJ (Y.cs i) k).st, .int .i64 (cJ (Y.cs i) k).mx, .int .i64 (cJ (Y.cs i) k).lo, .int .i64 (cJ (Y.cs i) k).hi], .row g5 227 (mj (iG L (Y.inn i)))]) (fun j=>(cJ (Y.cs i) k).lo+(j:Int)≤(cJ (Y.cs i) k).hi+1) (fun j=>((cJ (Y.cs i) k).hi+1 - (cJ (Y.cs i) k).lo).toNat - j) 0 ?_ ?_ ?_ ?_
      ·omega
      ·exact (by repeat (first|exact Sub.nil|refine Sub.cons rfl ?_|(refine ex rfl a5 ?_)))
      ·exact Sx
      ·intro j hphi;refine jz ?_;refine ef ?_;refine dA ?_;refine T.cond rfl (fun h6=>?_) (fun h6=>?_)
       ·have p6:=h6; (try simp only [cX] at p6);have hld:=zgQ (f:=iG L (Y.inn i)) (d:=(cJ (Y.cs i) k).lo.toNat+j) (p:=0+((cJ (Y.cs i) k).lo.toNat+j) *1) a5 a5;refine je ?_;refine dD (sN 0 5 (.still 5 .done)) _ a7 (List.Sublist.refl _) ?_;refine fK ?_;refine cQ rfl (ec rfl rfl rfl (show (_:Int)=(((cJ (Y.cs i) k).lo.toNat+j:Nat):Int) from by omega) a5) ?_;refine cQ rfl (dc 1 rfl rfl rfl hld) ?_;refine fQ ?_;refine kg ?_;refine T.cond rfl (fun h7=>?_) (fun h7=>?_)
        ·have p7:=h7; (try simp only [cX] at p7);refine iW ?_;refine cL (gU (a:=1#64) ((cJ (Y.cs i) k).lo.toNat+j) rfl rfl rfl a5 a5) ?_;refine cL (i8) ?_;refine di ?_;refine q4o ?_;exact K.next (j+1) a5 a5 (by rw [List.range'_1_concat,List.foldl_append];simp only [List.foldl_cons,List.foldl_nil];rw [zja,if_pos a5];repeat (first|exact Sub.nil|refine Sub.cons rfl ?_|(refine ex rfl a5 ?_))) Sx
        ·have p7:=h7; (try simp only [cX] at p7);refine ga ?_;exact K.next (j+1) a5 a5 (by rw [List.range'_1_concat,List.foldl_append];simp only [List.foldl_cons,List.foldl_nil];rw [zja,if_neg a5];repeat (first|exact Sub.nil|refine Sub.cons rfl ?_|(refine ex rfl a5 ?_))) Sx
       ·have p6:=h6; (try simp only [cX] at p6);refine q36 ?_;exact K.at (by rw [ju _ _ a5,ze4,show (cJ (Y.cs i) k).hi.toNat+1 - (cJ (Y.cs i) k).lo.toNat=j by omega];exact (by repeat (first|exact Sub.nil|refine Sub.cons rfl ?_))) Sx
     ·skip;refine fP ?_;refine jH ?_;exact K.next (k+1) a5 a5 (by repeat (first|exact Sub.nil|refine Sub.cons rfl ?_)) Sx
    ·have p5:=h5; (try simp only [cX] at p5);refine q1a ?_;refine jT ?_;exact c4 rfl rfl (fun w' hw=>⟨by rw [kX,List.take_of_length_le a5],hw.isBelow⟩)
theorem zfK {L:Ws}{i d:Nat}{l:List Ld}{k:Nat}(h:k<l.length):j7 L i d (l.take (k+1))=ka L i d (j7 L i d (l.take k)) (cJ l k):=ju _ _ h
theorem zjD (sp:Nat)(Y:Tb)(L:Ws)(c:Bool)(i:Nat)(z:Int)(hz:z=(i:Int))(hi:i<Y.n)(w:World)(h:StateAt w sp Y L c)(hok:Y.Ok):Calls Tryz.prog 155 #[.pointer (some ⟨sp,0,none⟩), .int .i64 z] w fun e w'=>e= .returned (U (mi Y L i))∧Below w.heap.size w w':=by
 subst hz;obtain ⟨tp,hsp0,hT⟩:=h.tb;obtain ⟨vL,hsp1,hL⟩:=h.left;obtain ⟨AL,fM,rfl,hLs⟩:=hL.op;have hLn:=h.len;obtain ⟨vO,hO0,hO⟩:=hT.out.at';obtain ⟨AO,capO,rfl,hOs⟩:=hO.op;have hOn:=hT.out.len;obtain ⟨gO,oO,rfl,hOc⟩:=hOs a5;rw [hOn] at hO0;have hOi:=hOc i (by rw [hOn];exact hi);obtain ⟨BO,cpO,hvO,hslO⟩:=(hT.out.each i hi).op;simp only [hvO] at hOi;obtain ⟨vI,hI0,hI⟩:=hT.inn.at';obtain ⟨AI,capI,rfl,hIs⟩:=hI.op;have hIn:=hT.inn.len;obtain ⟨gI,oI,rfl,hIc⟩:=hIs a5;rw [hIn] at hI0;obtain ⟨vC,hC0,hC⟩:=hT.cs.at';obtain ⟨AC,capC,rfl,hCs⟩:=hC.op;have hCn:=hT.cs.len;obtain ⟨gC,oC,rfl,hCc⟩:=hCs a5;rw [hCn] at hC0;obtain ⟨hlen,hrng⟩:=hok.out i hi;have hn512:=hok.n;refine dt (M:=fun _=>False) (hs:=[]) Tryz.func155 rfl rfl rfl (Hp.refl _ _) ?_;refine mE ?_;refine kv ?_;refine d8 ?_;refine q16 ?_;refine cL (dY rfl rfl hO0 (fun h=>h)) ?_;refine mZ ?_;refine cL (d9 (j:=0) rfl rfl hOi rfl rfl (fun h=>h)) ?_;refine j4 ?_;refine T.loop (ι:=Nat) (fun k=>[(0, .pointer (some ⟨sp,0,none⟩)),(1, .int .i64 (i:Int)),(23, .slice BO (Y.out i).length cpO),(24, .int .i64 ((Y.out i).length:Int)),(25, .int .i64 (k:Int)),(5,U (((Y.out i).take k).foldl (lN Y L i) 0#64))]) (fun k=>[]) (fun k=>k≤(Y.out i).length) (fun k=>(Y.out i).length - k) 0 ?_ ?_ ?_ ?_
 ·omega
 ·exact (by repeat (first|exact Sub.nil|refine Sub.cons rfl ?_))
 ·exact Sx
 ·intro k hphi;refine fb ?_;refine T.cond rfl (fun h1=>?_) (fun h1=>?_)
  ·have p1:=h1; (try simp only [cX] at p1);obtain ⟨g,off,rfl,hc⟩:=hslO a5;have hk:=hc k a5;simp only [Ld.cells] at hk;have hr:=hrng _ (iY (xs:=Y.out i) (k:=k) a5);have oa:=zio L (cJ (Y.out i) k).to.toNat; (have htn:(cJ (Y.out i) k).to.toNat<Y.n:=by omega);obtain ⟨hlenI,hrngI⟩:=hok.inn _ htn;obtain ⟨hlenC,hrngC⟩:=hok.cs _ htn; (have hwt:∀x∈Y.inn (cJ (Y.out i) k).to.toNat,1≤x.wt∧x.wt≤1073741824:=fun x hx=>by have:=hrngI x hx;omega);have hIi:=hIc (cJ (Y.out i) k).to.toNat (by rw [hIn];exact htn);obtain ⟨BI,cpI,hvI,hslI⟩:=(hT.inn.each (cJ (Y.out i) k).to.toNat htn).op;simp only [hvI] at hIi;have hCi:=hCc (cJ (Y.out i) k).to.toNat (by rw [hCn];exact htn);obtain ⟨BC,cpC,hvC,hslC⟩:=(hT.cs.each (cJ (Y.out i) k).to.toNat htn).op;simp only [hvC] at hCi;refine mR ?_;refine T.cut (gs:=[(0, .pointer (some ⟨sp,0,none⟩)),(1, .int .i64 (i:Int)),(23, .slice (some ⟨g,off,none⟩) (Y.out i).length cpO),(24, .int .i64 ((Y.out i).length:Int)),(25, .int .i64 (k:Int)),(5,U (((Y.out i).take (k+1)).foldl (lN Y L i) 0#64))]) (hs':=[]) ?_ ?_
   ·skip;refine T.block (dh ?_);refine me ?_; (refine cN (Wt.none) rfl rfl (Ew.alloc) ?_;rintro _ _ ⟨g7,rfl,rfl⟩); (refine dP (Wt.none) rfl (dI 0) ?_;rintro _ _ ⟨rfl,rfl⟩);refine m7 ?_;refine ef ?_; (refine cN (Wt.none) rfl rfl (cM rfl rfl rfl (fun w hw=>zdO sp Y L c ((cJ (Y.out i) k).to.toNat) _ a5 a5 w (h.kept hw))) ?_;rintro _ _ ⟨rfl,rfl⟩);refine nH ?_;refine ef ?_;refine d8 ?_;refine du rfl rfl rfl (fun h2=>?_) (fun h2=>?_)
    ·have p2:=h2; (try simp only [cX] at p2);refine q0l ?_;refine TL.off (Wt.not rfl rfl rfl h2) rfl rfl ?_;refine q26 ?_;refine TL.run 7 rfl ?_;refine mF ?_;refine T.exit (gg (jt ?_)); (refine K.at ?_ Sx;rw [ju _ _ a5,lN,if_pos (.inl a5)];exact (by repeat (first|exact Sub.nil|refine Sub.cons rfl ?_)))
    ·have p2:=h2; (try simp only [cX] at p2);refine mG ?_;refine ny ?_;refine mG ?_;refine q4N ?_;refine di ?_;refine du rfl rfl rfl (fun h3=>?_) (fun h3=>?_)
     ·have p3:=h3; (try simp only [cX] at p3);refine q0w ?_;refine TL.off (Wt.not rfl rfl rfl h3) rfl rfl ?_;refine TL.off (Wt.not rfl rfl rfl h3) rfl rfl ?_;refine q4h ?_;refine mF ?_;refine T.exit (gg (jt ?_)); (refine K.at ?_ Sx;rw [ju _ _ a5,lN,if_pos (.inl a5)];exact (by repeat (first|exact Sub.nil|refine Sub.cons rfl ?_)))
     ·have p3:=h3; (try simp only [cX] at p3);refine q15 ?_;refine q15 ?_;refine da (Wt.some rfl rfl rfl h3) rfl rfl (fZ (only L (cJ (Y.out i) k).to.toNat) rfl rfl rfl rfl a5) ?_;refine da (Wt.some rfl rfl rfl h3) rfl rfl (gj (b:=1#64)) ?_;refine q15 ?_;refine cL (ek rfl rfl h3) ?_;refine db ?_;refine T.cond rfl (fun h4=>?_) (fun h4=>?_)
      ·have p4:=h4; (try simp only [cX] at p4); (have hbit:((((Y.out i).take k).foldl (lN Y L i) 0#64)).getLsbD (only L (cJ (Y.out i) k).to.toNat)=true:=by rw [←ziT];exact decide_eq_true cD);refine T.exit (gg (jt ?_)); (have hb:=hbit;refine K.at ?_ Sx;rw [ju _ _ a5,lN,if_pos (.inr hb)];exact (by repeat (first|exact Sub.nil|refine Sub.cons rfl ?_)))
      ·have p4:=h4; (try simp only [cX] at p4); (have hno:¬(((only L (cJ (Y.out i) k).to.toNat:Int)<(cJ (Y.out i) k).lo∨(cJ (Y.out i) k).hi<(only L (cJ (Y.out i) k).to.toNat:Int))∨((((Y.out i).take k).foldl (lN Y L i) 0#64)).getLsbD (only L (cJ (Y.out i) k).to.toNat)=true):=by rintro ((hh|hh)|hh);omega;omega;rw [←ziT] at hh;exact absurd (of_decide_eq_true hh) cD);refine iO ?_;refine dA ?_;refine T.cut (gs:=[(0, .pointer (some ⟨sp,0,none⟩)),(1, .int .i64 (i:Int)),(23, .slice (some ⟨g,off,none⟩) (Y.out i).length cpO),(24, .int .i64 ((Y.out i).length:Int)),(25, .int .i64 (k:Int)),(7, .pointer (some ⟨g7,0,none⟩)),(8, .int .i64 (only L (cJ (Y.out i) k).to.toNat:Int)),(5,U (((Y.out i).take k).foldl (lN Y L i) 0#64)),(9, .int .i64 (j7 L i (only L (cJ (Y.out i) k).to.toNat) (Y.inn (cJ (Y.out i) k).to.toNat)))]) (hs':=[.row g7 102 [.int .i64 (cJ (Y.out i) k).to, .int .i64 (cJ (Y.out i) k).fr, .int .i64 (cJ (Y.out i) k).wt, .int .i64 (cJ (Y.out i) k).lo, .int .i64 (cJ (Y.out i) k).hi]]) ?_ ?_
       ·skip;refine T.seq ?_;refine q1p ?_;refine jO ?_;refine cQ rfl (dY rfl rfl hsp0 (fun h=>h)) ?_;refine fK ?_;refine fH ?_;refine cQ rfl (dY rfl rfl hI0 (fun h=>h)) ?_;refine q2K ?_;refine cQ rfl (d9 (j:=0) rfl rfl hIi rfl rfl (fun h=>h)) ?_;refine q4L ?_;refine T.loop (ι:=Nat) (fun j=>[(0, .pointer (some ⟨sp,0,none⟩)),(1, .int .i64 (i:Int)),(23, .slice (some ⟨g,off,none⟩) (Y.out i).length cpO),(24, .int .i64 ((Y.out i).length:Int)),(25, .int .i64 (k:Int)),(7, .pointer (some ⟨g7,0,none⟩)),(8, .int .i64 (only L (cJ (Y.out i) k).to.toNat:Int)),(5,U (((Y.out i).take k).foldl (lN Y L i) 0#64)),(9, .int .i64 (j7 L i (only L (cJ (Y.out i) k).to.toNat) ((Y.inn (cJ (Y.out i) k).to.toNat).take j))),(60, .slice BI (Y.inn (cJ (Y.out i) k).to.toNat).length cpI),(61, .int .i64 ((Y.inn (cJ (Y.out i) k).to.toNat).length:Int)),(62, .int .i64 (j:Int))]) (fun j=>[.row g7 102 [.int .i64 (cJ (Y.out i) k).to, .int .i64 (cJ (Y.out i) k).fr, .int .i64 (cJ (Y.out i) k).wt, .int .i64 (cJ (Y.out i) k).lo, .int .i64 (cJ (Y.out i) k).hi]]) (fun j=>j≤(Y.inn (cJ (Y.out i) k).to.toNat).length) (fun j=>(Y.inn (cJ (Y.out i) k).to.toNat).length - j) 0 ?_ ?_ ?_ ?_
        ·omega
        ·exact (by repeat (first|exact Sub.nil|refine Sub.cons rfl ?_))
        ·exact Sx
        ·intro j hphi;refine fb ?_;refine T.cond rfl (fun h5=>?_) (fun h5=>?_)
         ·have p5:=h5; (try simp only [cX] at p5);obtain ⟨gi,offi,rfl,hci⟩:=hslI a5;have hj:=hci j a5;simp only [Ld.cells] at hj;have hri:=hrngI _ (iY (xs:=Y.inn (cJ (Y.out i) k).to.toNat) (k:=j) a5);have hbd:=zo4 (L:=L) (i:=i) (d:=only L (cJ (Y.out i) k).to.toNat) hlenI hwt j;refine fh ?_;refine mq ?_;refine cL (iE rfl rfl hj rfl (fun h=>h)) ?_; (refine cN (Wt.none) rfl rfl (Ew.alloc) ?_;rintro _ _ ⟨g11,rfl,rfl⟩); (refine dP (Wt.none) rfl (dI 0) ?_;rintro _ _ ⟨rfl,rfl⟩);refine dX ?_;refine ef ?_;refine eB ?_;refine du rfl rfl rfl (fun h6=>?_) (fun h6=>?_)
          ·have p6:=h6; (try simp only [cX] at p6);refine q2y ?_;refine di ?_;refine du rfl rfl rfl (fun h7=>?_) (fun h7=>?_)
           ·have p7:=h7; (try simp only [cX] at p7);refine q4z ?_;refine da (Wt.some rfl rfl rfl h7) rfl rfl (d6) ?_;refine da (Wt.some rfl rfl rfl h7) rfl rfl (d6) ?_;refine da (Wt.some rfl rfl rfl h7) rfl rfl (d6) ?_;refine du rfl rfl rfl (fun h8=>?_) (fun h8=>?_)
            ·have p8:=h8; (try simp only [cX] at p8);refine q1u ?_;refine q1u ?_;refine da (Wt.some rfl rfl rfl h7) rfl rfl (eV rfl rfl h8) ?_;refine cL (eV rfl rfl h7) ?_;refine mF ?_;refine gM ?_;refine ef ?_;refine q0d ?_;refine di ?_;refine kz ?_;exact K.next (j+1) a5 a5 (by rw [zfK a5,ka];split <;> first|(exfalso;omega)|exact (by repeat (first|exact Sub.nil|refine Sub.cons rfl ?_))) Sx
            ·have p8:=h8; (try simp only [cX] at p8);refine da (Wt.some rfl rfl rfl h8) rfl rfl (d6) ?_;refine q4A ?_; (refine cN (Wt.some rfl rfl rfl h8) rfl rfl (cM rfl rfl rfl (fun w hw=>zdO sp Y L c (cJ (Y.inn (cJ (Y.out i) k).to.toNat) j).fr.toNat _ a5 a5 w (h.kept hw))) ?_;rintro _ _ ⟨rfl,rfl⟩);refine da (Wt.some rfl rfl rfl h8) rfl rfl (d6) ?_;refine da (Wt.some rfl rfl rfl h8) rfl rfl (d6) ?_;refine da (Wt.some rfl rfl rfl h7) rfl rfl (ek rfl rfl h8) ?_;refine cL (eV rfl rfl h7) ?_;refine db ?_;refine T.cond rfl (fun h9=>?_) (fun h9=>?_)
             ·have p9:=h9; (try simp only [cX] at p9);refine gM ?_;refine ef ?_;refine q0d ?_;refine di ?_;refine kz ?_;exact K.next (j+1) a5 a5 (by rw [zfK a5,ka];split <;> first|(exfalso;omega)|exact (by repeat (first|exact Sub.nil|refine Sub.cons rfl ?_))) Sx
             ·have p9:=h9; (try simp only [cX] at p9);refine iz ?_;exact K.next (j+1) a5 a5 (by rw [zfK a5,ka];split <;> first|(exfalso;omega)|exact (by repeat (first|exact Sub.nil|refine Sub.cons rfl ?_))) Sx
           ·have p7:=h7; (try simp only [cX] at p7);refine q1V ?_;refine q1V ?_;refine TL.off (Wt.not rfl rfl rfl h7) rfl rfl ?_;refine q0T ?_;refine q0T ?_;refine TL.off (Wt.not rfl rfl rfl h7) rfl rfl ?_;refine cL (ek rfl rfl h7) ?_;refine nD ?_;refine iz ?_;exact K.next (j+1) a5 a5 (by rw [zfK a5,ka];split <;> first|(exfalso;omega)|exact (by repeat (first|exact Sub.nil|refine Sub.cons rfl ?_))) Sx
          ·have p6:=h6; (try simp only [cX] at p6);refine q1f ?_;refine q1f ?_;refine cL (ek rfl rfl h6) ?_;refine TL.run 6 rfl ?_;refine q0T ?_;refine q0T ?_;refine jE ?_;refine iK rfl rfl ?_;refine iz ?_;exact K.next (j+1) a5 a5 (by rw [zfK a5,ka];split <;> first|(exfalso;omega)|exact (by repeat (first|exact Sub.nil|refine Sub.cons rfl ?_))) Sx
         ·have p5:=h5; (try simp only [cX] at p5);refine eC ?_;exact K.at (by rw [show (Y.inn (cJ (Y.out i) k).to.toNat).take j=Y.inn (cJ (Y.out i) k).to.toNat from List.take_of_length_le a5] at *;exact (by repeat (first|exact Sub.nil|refine Sub.cons rfl ?_))) Sx
       ·skip;refine T.seq ?_;refine q1p ?_;refine jO ?_;refine cQ rfl (dY rfl rfl hsp0 (fun h=>h)) ?_;refine fK ?_;refine fH ?_;refine cQ rfl (dY rfl rfl hC0 (fun h=>h)) ?_;refine q2K ?_;refine cQ rfl (d9 (j:=0) rfl rfl hCi rfl rfl (fun h=>h)) ?_;refine q4L ?_;refine T.loop (ι:=Nat) (fun j=>[(0, .pointer (some ⟨sp,0,none⟩)),(1, .int .i64 (i:Int)),(23, .slice (some ⟨g,off,none⟩) (Y.out i).length cpO),(24, .int .i64 ((Y.out i).length:Int)),(25, .int .i64 (k:Int)),(7, .pointer (some ⟨g7,0,none⟩)),(8, .int .i64 (only L (cJ (Y.out i) k).to.toNat:Int)),(9, .int .i64 (j7 L i (only L (cJ (Y.out i) k).to.toNat) (Y.inn (cJ (Y.out i) k).to.toNat))),(5,U (((Y.cs (cJ (Y.out i) k).to.toNat).take j).foldl (zes (j7 L i (only L (cJ (Y.out i) k).to.toNat) (Y.inn (cJ (Y.out i) k).to.toNat)) (only L (cJ (Y.out i) k).to.toNat)) (((Y.out i).take k).foldl (lN Y L i) 0#64))),(105, .slice BC (Y.cs (cJ (Y.out i) k).to.toNat).length cpC),(106, .int .i64 ((Y.cs (cJ (Y.out i) k).to.toNat).length:Int)),(107, .int .i64 (j:Int))]) (fun j=>[.row g7 102 [.int .i64 (cJ (Y.out i) k).to, .int .i64 (cJ (Y.out i) k).fr, .int .i64 (cJ (Y.out i) k).wt, .int .i64 (cJ (Y.out i) k).lo, .int .i64 (cJ (Y.out i) k).hi]]) (fun j=>j≤(Y.cs (cJ (Y.out i) k).to.toNat).length) (fun j=>(Y.cs (cJ (Y.out i) k).to.toNat).length - j) 0 ?_ ?_ ?_ ?_
        ·omega
        ·exact (by repeat (first|exact Sub.nil|refine Sub.cons rfl ?_))
        ·exact Sx
        ·intro j hphi;refine fb ?_;refine T.cond rfl (fun h10=>?_) (fun h10=>?_)
         ·have p10:=h10; (try simp only [cX] at p10);obtain ⟨gc,offc,rfl,hcc⟩:=hslC a5;have hj:=hcc j a5;simp only [Cp.cells] at hj;refine fh ?_;refine mq ?_;refine cL (iE rfl rfl hj rfl (fun h=>h)) ?_; (refine cN (Wt.none) rfl rfl (Ew.alloc) ?_;rintro _ _ ⟨g13,rfl,rfl⟩); (refine dP (Wt.none) rfl (dI 0) ?_;rintro _ _ ⟨rfl,rfl⟩);refine dX ?_;refine ef ?_;refine eB ?_;refine du rfl rfl rfl (fun h11=>?_) (fun h11=>?_)
          ·have p11:=h11; (try simp only [cX] at p11);refine da (Wt.some rfl rfl rfl h11) rfl rfl (d6) ?_;refine da (Wt.some rfl rfl rfl h11) rfl rfl (Yv.fieldAddr) ?_;refine da (Wt.some rfl rfl rfl h11) rfl rfl (dc 0) ?_;refine da (Wt.some rfl rfl rfl h11) rfl rfl (d6) ?_;refine cL (eV rfl rfl h11) ?_;refine di ?_;refine du rfl rfl rfl (fun h12=>?_) (fun h12=>?_)
           ·have p12:=h12; (try simp only [cX] at p12);refine da (Wt.some rfl rfl rfl h12) rfl rfl (d6) ?_;refine da (Wt.some rfl rfl rfl h12) rfl rfl (Yv.fieldAddr) ?_;refine da (Wt.some rfl rfl rfl h12) rfl rfl (dc 0) ?_;refine da (Wt.some rfl rfl rfl h12) rfl rfl (d6) ?_;refine cL (eV rfl rfl h12) ?_;refine db ?_;refine T.cond rfl (fun h13=>?_) (fun h13=>?_)
            ·have p13:=h13; (try simp only [cX] at p13);refine iW ?_;refine cL (gU (a:=1#64) (only L (cJ (Y.out i) k).to.toNat) rfl rfl rfl rfl a5) ?_;refine q4e ?_;exact K.next (j+1) a5 a5 (by rw [ju _ _ a5,zes];split <;> first|(exfalso;omega)|exact (by repeat (first|exact Sub.nil|refine Sub.cons rfl ?_))) Sx
            ·have p13:=h13; (try simp only [cX] at p13);refine iz ?_;exact K.next (j+1) a5 a5 (by rw [ju _ _ a5,zes];split <;> first|(exfalso;omega)|exact (by repeat (first|exact Sub.nil|refine Sub.cons rfl ?_))) Sx
           ·have p12:=h12; (try simp only [cX] at p12);refine q3Q ?_;refine q3Q ?_;refine cL (ek rfl rfl h12) ?_;refine nD ?_;refine iz ?_;exact K.next (j+1) a5 a5 (by rw [ju _ _ a5,zes];split <;> first|(exfalso;omega)|exact (by repeat (first|exact Sub.nil|refine Sub.cons rfl ?_))) Sx
          ·have p11:=h11; (try simp only [cX] at p11);refine q3R ?_;refine q3R ?_;refine cL (ek rfl rfl h11) ?_;refine TL.run 6 rfl ?_;refine nD ?_;refine iz ?_;exact K.next (j+1) a5 a5 (by rw [ju _ _ a5,zes];split <;> first|(exfalso;omega)|exact (by repeat (first|exact Sub.nil|refine Sub.cons rfl ?_))) Sx
         ·have p10:=h10; (try simp only [cX] at p10);refine q36 ?_; (have hn:=hno;have e:(Y.cs (cJ (Y.out i) k).to.toNat).take j=Y.cs (cJ (Y.out i) k).to.toNat:=List.take_of_length_le a5;refine K.at ?_ Sx;rw [ju _ _ a5,lN,if_neg hn,e];exact (by repeat (first|exact Sub.nil|refine Sub.cons rfl ?_)))
   ·skip;refine fP ?_;refine jH ?_;exact K.next (k+1) a5 a5 (by repeat (first|exact Sub.nil|refine Sub.cons rfl ?_)) Sx
  ·have p1:=h1; (try simp only [cX] at p1);refine q1a ?_;refine jT ?_;exact c4 rfl rfl (fun w' hw=>⟨by rw [mi,List.take_of_length_le a5],hw.isBelow⟩)
structure GL where
 b:Nat
 c:Nat
structure StF (w0 w:World) (sp:Nat) (gl:GL) (tp:Nat) (Y:Tb) (L:Ws) (c:Bool):Prop where
 tb:TablesAt w0 tp Y
 fr:Fz w0 w
 c0:w.cell? ⟨sp,0,none⟩=some (.pointer (some ⟨tp,0,none⟩))
 c1:w.cell? ⟨sp,1,none⟩=some (.slice (some ⟨gl.b,0,none⟩) L.length gl.c)
 lf:SlOf w (.slice (some ⟨gl.b,0,none⟩) L.length gl.c) Le 1 L
 len:L.length=Y.n
 c2:w.cell? ⟨sp,2,none⟩=some (.bool c)
 tab:Tab w
theorem StF.st {w0 w:World}{sp:Nat}{gl:GL}{tp:Nat}{Y:Tb}{L:Ws}{c:Bool}(h:StF w0 w sp gl tp Y L c):StateAt w sp Y L c:=
 ⟨h.tab,⟨tp,h.c0,h.tb.later h.fr⟩,⟨_,h.c1,h.lf⟩,h.len,h.c2⟩
theorem StF.kept {w0 w w':World}{M:Nat→Prop}{hs:HS}{sp:Nat}{gl:GL}{tp:Nat}{Y:Tb}{L:Ws}{c:Bool}(h:StF w0 w sp gl tp Y L c)(hw:Hp w M hs w')(h0:∀g,M g→¬jJ w0 g)(h1:¬M sp)(h2:¬M gl.b)(h3:¬M 0):StF w0 w' sp gl tp Y L c:=
 ⟨h.tb,Fz.hp h.fr hw h0,hw.cellB h.c0 h1,hw.cellB h.c1 h1,h.lf.keptM hw (fun g hg=>by simp [Value.ownBlock] at hg;subst hg;exact h2),h.len,hw.cellB h.c2 h1,h.tab.kept hw h3⟩
def ki (Y:Tb)(L:Ws)(i:Nat)(ws:Ws):Ws:=
 if (only L i:Int)=0 then ws else
  (Y.out i).foldl (fun s x=>if (only L x.to.toNat:Int)=0 then d3 s x.to.toNat else (Y.inn x.to.toNat).foldl (fun s o=>d3 s o.fr.toNat) (d3 s x.to.toNat))
   ((Y.inn i).foldl (fun s x=>d3 s x.fr.toNat) ((Y.ps i).foldl (fun s x=>d3 s (x.a+x.b - (i:Int)).toNat) ws))
theorem zgt {α:Type}(f:Ws→α→Ws)(hf:∀s x,(f s x).length=s.length):∀(l:List α) (s:Ws),(l.foldl f s).length=s.length
 | [],_=>rfl
 |x :: r,s=>by rw [List.foldl_cons,zgt f hf r,hf]
theorem zdG (l:List Ld)(s:Ws):(l.foldl (fun s x=>d3 s x.fr.toNat) s).length=s.length:=zgt _ (fun _ _=>lz) l s
theorem zdC (i:Int)(l:List Pr)(s:Ws):(l.foldl (fun s x=>d3 s (x.a+x.b - (i:Int)).toNat) s).length=s.length:=zgt _ (fun _ _=>lz) l s
def ml (Y:Tb)(L:Ws)(s:Ws)(x:Ld):Ws:=if (only L x.to.toNat:Int)=0 then d3 s x.to.toNat else (Y.inn x.to.toNat).foldl (fun s o=>d3 s o.fr.toNat) (d3 s x.to.toNat)
theorem zg4 {Y:Tb}{L s:Ws}{x:Ld}:(ml Y L s x).length=s.length:=by
 unfold ml;split
 ·exact lz
 ·rw [zdG,lz]
theorem zfV (Y:Tb)(L:Ws)(l:List Ld)(s:Ws):(l.foldl (ml Y L) s).length=s.length:=zgt _ (fun _ _=>zg4) l s
theorem zfL (Y:Tb)(L:Ws)(i:Nat)(ws:Ws):(ki Y L i ws).length=ws.length:=by
 unfold ki;split
 ·rfl
 ·exact (zfV Y L _ _).trans ((zdG _ _).trans (zdC _ _ _))
theorem zfs (ws:Ws)(hws:ws.length=8)(j:Nat)(hj:j<512)(z:Int)(hz:z=(j:Int))(p q:Nat)(w:World)(hq:w.cell? ⟨q,0,none⟩=some (.pointer (some ⟨p,0,none⟩)))(hqp:q≠p)(hp:(Ent.row p 83 ws.cells).ok w):Calls Tryz.prog 167 #[.int .i64 z, .pointer (some ⟨q,0,none⟩)] w fun e w'=>∃y:Unit,True∧e= .returned (.tuple #[])∧Hp w (Ent.row p 83 ws.cells).fp [.row p 83 (Ws.cells (d3 ws j))] w':=by
 subst hz;refine dt (M:=(Ent.row p 83 ws.cells).fp) (hs:=[Ent.row p 83 ws.cells]) Tryz.func167 rfl rfl rfl (Hp.start hp) ?_;refine dD (sN 0 3 (.still 4 (.eff 3 (.eff 5 (sN 6 4 (.eff 10 .done)))))) [] a7 Sx ?_;refine cQ rfl (dY rfl rfl hq (fun hh=>hqp (cT.1 hh))) ?_;refine cQ rfl (dY rfl rfl hq (fun hh=>hqp (cT.1 hh))) ?_;refine gV ?_;refine dy ?_;refine eT rfl (Wt.none) rfl rfl (dO 0 rfl rfl rfl (by rw [List.length_map,hws])) Sx ?_;refine dy ?_; (refine de rfl (Wt.none) rfl rfl (cM rfl rfl rfl (fun w hw=>zoq ws hws j hj w)) ?_;rintro _ _ ⟨rfl,rfl⟩;refine ⟨Sx,?_⟩);refine TS.run 4 rfl ?_;refine dy ?_; (refine dL rfl (Wt.none) rfl (dI 0 rfl rfl rfl rfl (by rw [List.length_map,lz,hws]) (by rw [List.length_map,List.length_map,lz])) ?_;rintro _ _ ⟨rfl,rfl⟩;refine ⟨Sx,?_⟩);refine gh ?_;exact mC rfl (fun w' hw=>⟨(),trivial,rfl,hw⟩)
theorem zjz (w0:World)(sp:Nat)(gl:GL)(tp p:Nat)(Y:Tb)(L:Ws)(c:Bool)(ws:Ws)(hws:ws.length=8)(i:Nat)(z:Int)(hz:z=(i:Int))(hi:i<Y.n)(w:World)(h:StF w0 w sp gl tp Y L c)(hok:Y.Ok)(hpN:¬jJ w0 p)(hp0:p≠0)(hsp:sp≠p)(hgl:gl.b≠p)(hp:(Ent.row p 83 ws.cells).ok w):Calls Tryz.prog 157 #[.pointer (some ⟨sp,0,none⟩), .int .i64 z, .pointer (some ⟨p,0,none⟩)] w fun e w'=>∃y:Unit,True∧e= .returned (.tuple #[])∧Hp w (Ent.row p 83 ws.cells).fp [.row p 83 (Ws.cells (ki Y L i ws))] w':=by
 subst hz;obtain ⟨hTb,hfr,hsp0,hsp1,hlf,hLn,hsp2,htab⟩:=id h;have hT:=hTb;have hn512:=hok.n;obtain ⟨hlenP,hrngP⟩:=hok.ps i hi;obtain ⟨hlenI,hrngI⟩:=hok.inn i hi;obtain ⟨hlenO,hrngO⟩:=hok.out i hi;obtain ⟨vP,hP0,hP⟩:=hT.ps.at';obtain ⟨AP,capP,rfl,hPs⟩:=hP.op;have hPn:=hT.ps.len;obtain ⟨gP,oP,rfl,hPc⟩:=hPs a5;rw [hPn] at hP0;have hPi:=hPc i (by rw [hPn];exact hi);obtain ⟨BP,cpP,hvP,hslP⟩:=(hT.ps.each i hi).op;simp only [hvP] at hPi;obtain ⟨vI,hI0,hI⟩:=hT.inn.at';obtain ⟨AI,capI,rfl,hIs⟩:=hI.op;have hIn:=hT.inn.len;obtain ⟨gI,oI,rfl,hIc⟩:=hIs a5;rw [hIn] at hI0;have hIi:=hIc i (by rw [hIn];exact hi);obtain ⟨BI,cpI,hvI,hslI⟩:=(hT.inn.each i hi).op;simp only [hvI] at hIi;obtain ⟨vO,hO0,hO⟩:=hT.out.at';obtain ⟨AO,capO,rfl,hOs⟩:=hO.op;have hOn:=hT.out.len;obtain ⟨gO,oO,rfl,hOc⟩:=hOs a5;rw [hOn] at hO0;have hOi:=hOc i (by rw [hOn];exact hi);obtain ⟨BO,cpO,hvO,hslO⟩:=(hT.out.each i hi).op;simp only [hvO] at hOi;have hkeep:∀hs w',Hp w (Ent.row p 83 ws.cells).fp hs w'→StateAt w' sp Y L c:=fun hs w' hw=>(h.kept hw (fun g hg=>by rw [cT.1 hg];exact hpN) (fun hg=>hsp (cT.1 hg)) (fun hg=>hgl (cT.1 hg)) (fun hg=>hp0 (cT.1 hg).symm)).st;refine dt (M:=(Ent.row p 83 ws.cells).fp) (hs:=[Ent.row p 83 ws.cells]) Tryz.func157 rfl rfl rfl (Hp.start hp) ?_;refine dh ?_; (refine cN (Wt.none) rfl rfl (Ew.box rfl rfl) ?_;rintro _ _ ⟨g5,rfl,rfl⟩);refine jq ?_;refine d8 ?_; (refine cN (Wt.none) rfl rfl (cM rfl rfl rfl (fun w hw=>zdO sp Y L c i _ rfl hi w (hkeep _ _ hw))) ?_;rintro _ _ ⟨rfl,rfl⟩);refine dA ?_;refine T.cond rfl (fun h1=>?_) (fun h1=>?_)
 ·have p1:=h1; (try simp only [cX] at p1);refine T.ret (ee ?_);exact K.bS rfl (fun w' hw=>⟨(),trivial,rfl,by rw [ki,if_pos p1];exact hw.sub Sx⟩)
 ·have p1:=h1; (try simp only [cX] at p1);refine iO ?_;refine jE ?_;refine T.cut (gs:=[(0, .pointer (some ⟨sp,0,none⟩)),(1, .int .i64 (i:Int)),(6, .func (.func 167) #[] #[.pointer (some ⟨g5,0,none⟩)])]) (hs':=[.row g5 220 [.pointer (some ⟨p,0,none⟩)], .row p 83 (Ws.cells ((Y.ps i).foldl (fun s x=>d3 s (x.a+x.b - (i:Int)).toNat) ws))]) ?_ ?_
  ·skip;refine q3a ?_;refine cL (dY rfl rfl (hfr.cell hP0) (fun hh=>hpN (by have:=zeQ hP0;rw [←cT.1 hh];exact this))) ?_;refine mZ ?_;refine cL (d9 (j:=0) rfl rfl (Fz.cs hfr hPi) rfl rfl (fun hh=>hpN (by have:=i1 hPi a9;rw [←cT.1 hh];exact this))) ?_;refine j4 ?_;refine T.loop (ι:=Nat) (fun k=>[(0, .pointer (some ⟨sp,0,none⟩)),(1, .int .i64 (i:Int)),(6, .func (.func 167) #[] #[.pointer (some ⟨g5,0,none⟩)]),(29, .slice BP (Y.ps i).length cpP),(30, .int .i64 ((Y.ps i).length:Int)),(31, .int .i64 (k:Int))]) (fun k=>[.row g5 220 [.pointer (some ⟨p,0,none⟩)], .row p 83 (Ws.cells (((Y.ps i).take k).foldl (fun s x=>d3 s (x.a+x.b - (i:Int)).toNat) ws))]) (fun k=>k≤(Y.ps i).length) (fun k=>(Y.ps i).length - k) 0 ?_ ?_ ?_ ?_
   ·omega
   ·exact (by repeat (first|exact Sub.nil|refine Sub.cons rfl ?_))
   ·exact Sx
   ·intro k hphi;refine fb ?_;refine T.cond rfl (fun h2=>?_) (fun h2=>?_)
    ·have p2:=h2; (try simp only [cX] at p2);obtain ⟨ghk,offhk,rfl,hc⟩:=hslP a5;have hk:=hc k a5;simp only [Pr.cells] at hk;have hrhk:=hrngP _ (iY (xs:=Y.ps i) (k:=k) a5);refine fh ?_;refine q2N ?_; (refine cN (Wt.none) rfl rfl (Ew.alloc) ?_;rintro _ _ ⟨g8,rfl,rfl⟩); (refine dP (Wt.none) rfl (dI 0) ?_;rintro _ _ ⟨rfl,rfl⟩);refine db (T.region ?_);refine di ?_;refine ef ?_;refine ef ?_;refine q0d ?_;refine di ?_;refine nh ?_; (refine cN (Wt.none) rfl rfl (lR 2 rfl rfl rfl rfl (fun w hw=>zfs (((Y.ps i).take k).foldl (fun s x=>d3 s (x.a+x.b - (i:Int)).toNat) ws) (by rw [zdC,hws]) ((cJ (Y.ps i) k).a+(cJ (Y.ps i) k).b - (i:Int)).toNat a5 _ a5 p g5 w (jP (c7.1 (hw.get (i:=1) rfl)) 0) (fun hh=>hw.ne (i:=1) (j:=2) a5 rfl rfl (g:=g5) (cT.2 rfl) (cT.2 hh)) (hw.get (i:=2) rfl))) ?_;rintro _ _ ⟨-, -,rfl,rfl⟩);refine kz ?_;exact K.next (k+1) a5 a5 (by repeat (first|exact Sub.nil|refine Sub.cons rfl ?_)) (by rw [ju _ _ a5];exact Sx)
    ·have p2:=h2; (try simp only [cX] at p2);refine eC ?_;exact K.at (by repeat (first|exact Sub.nil|refine Sub.cons rfl ?_)) (by rw [show (Y.ps i).take k=Y.ps i from List.take_of_length_le a5];exact Sx)
  ·skip;refine T.cut (gs:=[(0, .pointer (some ⟨sp,0,none⟩)),(1, .int .i64 (i:Int)),(6, .func (.func 167) #[] #[.pointer (some ⟨g5,0,none⟩)])]) (hs':=[.row g5 220 [.pointer (some ⟨p,0,none⟩)], .row p 83 (Ws.cells ((Y.inn i).foldl (fun s x=>d3 s x.fr.toNat) ((Y.ps i).foldl (fun s x=>d3 s (x.a+x.b - (i:Int)).toNat) ws)))]) ?_ ?_
   ·skip;refine q3a ?_;refine cL (dY rfl rfl (hfr.cell hI0) (fun hh=>hpN (by have:=zeQ hI0;rw [←cT.1 hh];exact this))) ?_;refine mZ ?_;refine cL (d9 (j:=0) rfl rfl (Fz.cs hfr hIi) rfl rfl (fun hh=>hpN (by have:=i1 hIi a9;rw [←cT.1 hh];exact this))) ?_;refine j4 ?_;refine T.loop (ι:=Nat) (fun k=>[(0, .pointer (some ⟨sp,0,none⟩)),(1, .int .i64 (i:Int)),(6, .func (.func 167) #[] #[.pointer (some ⟨g5,0,none⟩)]),(54, .slice BI (Y.inn i).length cpI),(55, .int .i64 ((Y.inn i).length:Int)),(56, .int .i64 (k:Int))]) (fun k=>[.row g5 220 [.pointer (some ⟨p,0,none⟩)], .row p 83 (Ws.cells (((Y.inn i).take k).foldl (fun s x=>d3 s x.fr.toNat) ((Y.ps i).foldl (fun s x=>d3 s (x.a+x.b - (i:Int)).toNat) ws)))]) (fun k=>k≤(Y.inn i).length) (fun k=>(Y.inn i).length - k) 0 ?_ ?_ ?_ ?_
    ·omega
    ·exact (by repeat (first|exact Sub.nil|refine Sub.cons rfl ?_))
    ·exact Sx
    ·intro k hphi;refine fb ?_;refine T.cond rfl (fun h3=>?_) (fun h3=>?_)
     ·have p3:=h3; (try simp only [cX] at p3);obtain ⟨ghk,offhk,rfl,hc⟩:=hslI a5;have hk:=hc k a5;simp only [Ld.cells] at hk;have hrhk:=hrngI _ (iY (xs:=Y.inn i) (k:=k) a5);refine fh ?_;refine q2N ?_; (refine cN (Wt.none) rfl rfl (Ew.alloc) ?_;rintro _ _ ⟨g10,rfl,rfl⟩); (refine dP (Wt.none) rfl (dI 0) ?_;rintro _ _ ⟨rfl,rfl⟩);refine db (T.region ?_);refine di ?_;refine ef ?_; (refine cN (Wt.none) rfl rfl (lR 2 rfl rfl rfl rfl (fun w hw=>zfs (((Y.inn i).take k).foldl (fun s x=>d3 s x.fr.toNat) ((Y.ps i).foldl (fun s x=>d3 s (x.a+x.b - (i:Int)).toNat) ws)) (by rw [zdG,zdC,hws]) (cJ (Y.inn i) k).fr.toNat a5 _ a5 p g5 w (jP (c7.1 (hw.get (i:=1) rfl)) 0) (fun hh=>hw.ne (i:=1) (j:=2) a5 rfl rfl (g:=g5) (cT.2 rfl) (cT.2 hh)) (hw.get (i:=2) rfl))) ?_;rintro _ _ ⟨-, -,rfl,rfl⟩);refine kz ?_;exact K.next (k+1) a5 a5 (by repeat (first|exact Sub.nil|refine Sub.cons rfl ?_)) (by rw [ju _ _ a5];exact Sx)
     ·have p3:=h3; (try simp only [cX] at p3);refine eC ?_;exact K.at (by repeat (first|exact Sub.nil|refine Sub.cons rfl ?_)) (by rw [show (Y.inn i).take k=Y.inn i from List.take_of_length_le a5];exact Sx)
   ·skip;refine q3a ?_;refine cL (dY rfl rfl (hfr.cell hO0) (fun hh=>hpN (by have:=zeQ hO0;rw [←cT.1 hh];exact this))) ?_;refine mZ ?_;refine cL (d9 (j:=0) rfl rfl (Fz.cs hfr hOi) rfl rfl (fun hh=>hpN (by have:=i1 hOi a9;rw [←cT.1 hh];exact this))) ?_;refine j4 ?_;refine T.loop (ι:=Nat) (fun k=>[(0, .pointer (some ⟨sp,0,none⟩)),(1, .int .i64 (i:Int)),(6, .func (.func 167) #[] #[.pointer (some ⟨g5,0,none⟩)]),(74, .slice BO (Y.out i).length cpO),(75, .int .i64 ((Y.out i).length:Int)),(76, .int .i64 (k:Int))]) (fun k=>[.row g5 220 [.pointer (some ⟨p,0,none⟩)], .row p 83 (Ws.cells (((Y.out i).take k).foldl (ml Y L) ((Y.inn i).foldl (fun s x=>d3 s x.fr.toNat) ((Y.ps i).foldl (fun s x=>d3 s (x.a+x.b - (i:Int)).toNat) ws))))]) (fun k=>k≤(Y.out i).length) (fun k=>(Y.out i).length - k) 0 ?_ ?_ ?_ ?_
    ·omega
    ·exact (by repeat (first|exact Sub.nil|refine Sub.cons rfl ?_))
    ·exact Sx
    ·intro k hphi;refine fb ?_;refine T.cond rfl (fun h4=>?_) (fun h4=>?_)
     ·have p4:=h4; (try simp only [cX] at p4);obtain ⟨ghk,offhk,rfl,hc⟩:=hslO a5;have hk:=hc k a5;simp only [Ld.cells] at hk;have hrhk:=hrngO _ (iY (xs:=Y.out i) (k:=k) a5); (have htn:(cJ (Y.out i) k).to.toNat<Y.n:=by omega);obtain ⟨hlenI2,hrngI2⟩:=hok.inn _ htn;have hIi2:=hIc (cJ (Y.out i) k).to.toNat (by rw [hIn];exact htn);obtain ⟨BI2,cpI2,hvI2,hslI2⟩:=(hT.inn.each (cJ (Y.out i) k).to.toNat htn).op;simp only [hvI2] at hIi2;refine mR ?_;refine T.cut (gs:=[(0, .pointer (some ⟨sp,0,none⟩)),(1, .int .i64 (i:Int)),(6, .func (.func 167) #[] #[.pointer (some ⟨g5,0,none⟩)]),(74, .slice (some ⟨ghk,offhk,none⟩) (Y.out i).length cpO),(75, .int .i64 ((Y.out i).length:Int)),(76, .int .i64 (k:Int))]) (hs':=[.row g5 220 [.pointer (some ⟨p,0,none⟩)], .row p 83 (Ws.cells (((Y.out i).take (k+1)).foldl (ml Y L) ((Y.inn i).foldl (fun s x=>d3 s x.fr.toNat) ((Y.ps i).foldl (fun s x=>d3 s (x.a+x.b - (i:Int)).toNat) ws))))]) ?_ ?_
      ·skip;refine T.block (dh ?_);refine q2N ?_; (refine cN (Wt.none) rfl rfl (Ew.alloc) ?_;rintro _ _ ⟨g12,rfl,rfl⟩); (refine dP (Wt.none) rfl (dI 0) ?_;rintro _ _ ⟨rfl,rfl⟩);refine m7 ?_;refine ef ?_; (refine cN (Wt.none) rfl rfl (lR 2 rfl rfl rfl rfl (fun w hw=>zfs (((Y.out i).take k).foldl (ml Y L) ((Y.inn i).foldl (fun s x=>d3 s x.fr.toNat) ((Y.ps i).foldl (fun s x=>d3 s (x.a+x.b - (i:Int)).toNat) ws))) (by rw [zfV,zdG,zdC,hws]) (cJ (Y.out i) k).to.toNat a5 _ a5 p g5 w (jP (c7.1 (hw.get (i:=1) rfl)) 0) (fun hh=>hw.ne (i:=1) (j:=2) a5 rfl rfl (g:=g5) (cT.2 rfl) (cT.2 hh)) (hw.get (i:=2) rfl))) ?_;rintro _ _ ⟨-, -,rfl,rfl⟩);refine m7 ?_;refine ef ?_; (refine cN (Wt.none) rfl rfl (cM rfl rfl rfl (fun w hw=>zdO sp Y L c ((cJ (Y.out i) k).to.toNat) _ a5 a5 w (hkeep _ _ hw))) ?_;rintro _ _ ⟨rfl,rfl⟩);refine dA ?_;refine T.cond rfl (fun h5=>?_) (fun h5=>?_)
       ·have p5:=h5; (try simp only [cX] at p5); (have hno:¬(only L ((cJ (Y.out i) k).to.toNat):Int)=0:=by assumption);refine T.seq ?_;refine q1p ?_;refine jO ?_;refine cQ rfl (dY rfl rfl hsp0 (fun hh=>hsp (cT.1 hh))) ?_;refine fK ?_;refine fH ?_;refine cQ rfl (dY rfl rfl (hfr.cell hI0) (fun hh=>hpN (by have:=zeQ hI0;rw [←cT.1 hh];exact this))) ?_;refine q2K ?_;refine cQ rfl (d9 (j:=0) rfl rfl (Fz.cs hfr hIi2) rfl rfl (fun hh=>hpN (by have:=i1 hIi2 a9;rw [←cT.1 hh];exact this))) ?_;refine q4L ?_;refine T.loop (ι:=Nat) (fun j=>[(0, .pointer (some ⟨sp,0,none⟩)),(1, .int .i64 (i:Int)),(6, .func (.func 167) #[] #[.pointer (some ⟨g5,0,none⟩)]),(74, .slice (some ⟨ghk,offhk,none⟩) (Y.out i).length cpO),(75, .int .i64 ((Y.out i).length:Int)),(76, .int .i64 (k:Int)),(99, .slice BI2 (Y.inn (cJ (Y.out i) k).to.toNat).length cpI2),(100, .int .i64 ((Y.inn (cJ (Y.out i) k).to.toNat).length:Int)),(101, .int .i64 (j:Int))]) (fun j=>[.row g5 220 [.pointer (some ⟨p,0,none⟩)], .row p 83 (Ws.cells (((Y.inn (cJ (Y.out i) k).to.toNat).take j).foldl (fun s o=>d3 s o.fr.toNat) (d3 (((Y.out i).take k).foldl (ml Y L) ((Y.inn i).foldl (fun s x=>d3 s x.fr.toNat) ((Y.ps i).foldl (fun s x=>d3 s (x.a+x.b - (i:Int)).toNat) ws))) (cJ (Y.out i) k).to.toNat)))]) (fun j=>j≤(Y.inn (cJ (Y.out i) k).to.toNat).length) (fun j=>(Y.inn (cJ (Y.out i) k).to.toNat).length - j) 0 ?_ ?_ ?_ ?_
        ·omega
        ·exact (by repeat (first|exact Sub.nil|refine Sub.cons rfl ?_))
        ·exact Sx
        ·intro j hphi;refine fb ?_;refine T.cond rfl (fun h6=>?_) (fun h6=>?_)
         ·have p6:=h6; (try simp only [cX] at p6);obtain ⟨ghj,offhj,rfl,hcj⟩:=hslI2 a5;have hj:=hcj j a5;simp only [Ld.cells] at hj;have hrhj:=hrngI2 _ (iY (xs:=Y.inn (cJ (Y.out i) k).to.toNat) (k:=j) a5);refine fh ?_;refine mq ?_;refine cL (iE rfl rfl (Fz.cs hfr hj) rfl (fun hh=>hpN (by have:=i1 hj a9;rw [←cT.1 hh];exact this))) ?_; (refine cN (Wt.none) rfl rfl (Ew.alloc) ?_;rintro _ _ ⟨g14,rfl,rfl⟩); (refine dP (Wt.none) rfl (dI 0) ?_;rintro _ _ ⟨rfl,rfl⟩);refine db (T.region ?_);refine di ?_;refine ef ?_; (refine cN (Wt.none) rfl rfl (lR 2 rfl rfl rfl rfl (fun w hw=>zfs (((Y.inn (cJ (Y.out i) k).to.toNat).take j).foldl (fun s o=>d3 s o.fr.toNat) (d3 (((Y.out i).take k).foldl (ml Y L) ((Y.inn i).foldl (fun s x=>d3 s x.fr.toNat) ((Y.ps i).foldl (fun s x=>d3 s (x.a+x.b - (i:Int)).toNat) ws))) (cJ (Y.out i) k).to.toNat)) (by rw [zdG,lz,zfV,zdG,zdC,hws]) (cJ (Y.inn (cJ (Y.out i) k).to.toNat) j).fr.toNat a5 _ a5 p g5 w (jP (c7.1 (hw.get (i:=1) rfl)) 0) (fun hh=>hw.ne (i:=1) (j:=2) a5 rfl rfl (g:=g5) (cT.2 rfl) (cT.2 hh)) (hw.get (i:=2) rfl))) ?_;rintro _ _ ⟨-, -,rfl,rfl⟩);refine kz ?_;exact K.next (j+1) a5 a5 (by repeat (first|exact Sub.nil|refine Sub.cons rfl ?_)) (by rw [ju _ _ a5];exact Sx)
         ·have p6:=h6; (try simp only [cX] at p6);refine q36 ?_; (have hy:=hno;refine K.at (by repeat (first|exact Sub.nil|refine Sub.cons rfl ?_)) ?_;rw [ju _ _ a5,ml,if_neg hy,show (Y.inn (cJ (Y.out i) k).to.toNat).take j=Y.inn (cJ (Y.out i) k).to.toNat from List.take_of_length_le a5];exact Sx)
       ·have p5:=h5; (try simp only [cX] at p5); (have hyes:(only L ((cJ (Y.out i) k).to.toNat):Int)=0:=by assumption);refine T.skip (gT ?_); (have hy:=hyes;refine K.at (by repeat (first|exact Sub.nil|refine Sub.cons rfl ?_)) ?_;rw [ju _ _ a5,ml,if_pos hy];exact Sx)
      ·skip;refine fP ?_;refine jH ?_;exact K.next (k+1) a5 a5 (by repeat (first|exact Sub.nil|refine Sub.cons rfl ?_)) Sx
     ·have p4:=h4; (try simp only [cX] at p4);refine eC ?_;exact mC rfl (fun w' hw=>⟨(),trivial,rfl,by rw [ki,if_neg p1];rw [show (Y.out i).take k=Y.out i from List.take_of_length_le a5] at hw;exact hw.sub Sx⟩)
end Go.Proofs.YtogbggmckmnlfaaGreatDoor
