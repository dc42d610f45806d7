/- C D E F G G2 H1: shortened and put together by squeeze.py. -/
import Derived.Test.YtogbggmckmnlfaaGreatDoorQ03
set_option maxRecDepth 100000
set_option maxHeartbeats 4000000
set_option linter.unusedVariables false
set_option linter.unusedSectionVars false
set_option linter.unusedSimpArgs false
namespace Go.Proofs.YtogbggmckmnlfaaGreatDoor
open Go.RowKit
theorem b5 {p:Prop}(h:p:=by rw [List.length_map,kv]):p:=h
def fm (f:Nat→Value)(z:Value)(n k:Nat):List Value:=(List.range k).map f++List.replicate (n - k) z
theorem zeR {f:Nat→Value}{z:Value}{n k:Nat}(h:k≤n):(fm f z n k).length=n:=by simp [fm];omega
theorem zeA {f:Nat→Value}{z:Value}{n k p:Nat}(h:k<n)(hp:p=k):(fm f z n k).set p (f k)=fm f z n (k+1):=by
 subst hp;unfold fm;rw [List.set_append_right _ _ a7,show n - p=(n - (p+1))+1 by omega,List.replicate_succ,List.range_succ,List.map_append];simp
theorem zeC (z:Value)(n:Nat):(madeCells [z].toArray (n*1)).toList=fm (fun _=>z) z n 0:=by
 apply List.ext_getElem?;intro i;by_cases h:i<n
 ·simp [fm,madeCells,List.getElem?_replicate,Nat.mod_one,h]
 ·simp [fm,madeCells,List.getElem?_replicate,h]
theorem zhw {α:Type}[Inhabited α]{xs:List α}{f:Nat→Value}{z:Value}(g:α→Int)(hf:∀j,f j= .int .i64 (g (cH xs j))){k:Nat}(hk:k=xs.length):fm f z xs.length k=(xs.map g).flatMap Ie:=by
 subst hk;unfold fm;apply List.ext_getElem?;intro i
 have e:(xs.map g).flatMap Ie=(xs.map g).map (fun z=>Value.int .i64 z):=by
  have:∀l:List Int,l.flatMap Ie=l.map (fun z=>Value.int .i64 z):=by
   intro l
   induction l with
   |nil=>rfl
   |cons x r ih=>simp [List.flatMap_cons,Ie,ih]
  exact this _
 rw [e];simp only [Nat.sub_self,List.replicate_zero,List.append_nil,List.getElem?_map,List.getElem?_range];by_cases h:i<xs.length
 ·simp [h,hf,cH]
 ·simp [h]
theorem zh6 (P:Pb)(vd vp vl vc:Value)(w:World)(h:ProbAt w vd vp vl vc P)(hn:P.ds.length≤512)(hr:∀d∈P.ds,0≤d.st∧d.st≤511):Calls Tryz.prog 109 #[.agg [vd,vp,vl,vc].toArray] w fun e w'=>e= .returned (.agg (Ws.cells (ln (P.ds.map (·.st)))).toArray)∧Below w.heap.size w w':=by
 obtain ⟨A,cap,rfl,hsl⟩:=h.ds.sl.op;obtain ⟨A1,cap1,rfl, -⟩:=h.ru.ps.op;obtain ⟨A2,cap2,rfl, -⟩:=h.ru.ls.op;obtain ⟨A3,cap3,rfl, -⟩:=h.ru.cs.op;refine dq (M:=fun _=>False) (hs:=[]) Tryz.func109 rfl rfl rfl (Hp.refl _ _) ?_;refine de ?_; (refine cK (Wt.none) rfl rfl (dv) ?_;rintro _ _ ⟨g1,rfl,rfl⟩); (refine cK (Wt.none) rfl rfl (Ew.alloc) ?_;rintro _ _ ⟨g2,rfl,rfl⟩);refine dG ?_;refine kX ?_;refine q3Y ?_; (refine cK (Wt.none) rfl rfl (Ew.makeSlice rfl rfl rfl rfl rfl a5 a5) ?_;rintro _ _ ⟨g11,rfl,rfl⟩);refine dP ?_;refine T.cut (gs:=[(2, .pointer (some ⟨g2,0,none⟩)),(3,(.slice (some ⟨g11,0,none⟩) P.ds.length P.ds.length))]) (hs':=[.sl (.slice (some ⟨g11,0,none⟩) P.ds.length P.ds.length) 3 1 P.ds.length ((P.ds.map (·.st)).flatMap Ie), .row g2 83 (Ws.cells e9)]) ?_ ?_
 ·skip;refine T.seq ?_;rw [zeC];refine ed ?_;refine kO ?_;refine jj ?_;refine T.loop (ι:=Nat) (fun k=>[(2, .pointer (some ⟨g2,0,none⟩)),(3,(.slice (some ⟨g11,0,none⟩) P.ds.length P.ds.length)),(13, .slice A P.ds.length cap),(14, .int .i64 (P.ds.length:Int)),(15, .int .i64 (k:Int))]) (fun k=>[.sl (.slice (some ⟨g11,0,none⟩) P.ds.length P.ds.length) 3 1 P.ds.length (fm (fun j=> .int .i64 (cH P.ds j).st) (.int .i64 0) P.ds.length k), .row g2 83 (Ws.cells e9)]) (fun k=>k≤P.ds.length) (fun k=>P.ds.length - k) 0 ?_ ?_ ?_ ?_
  ·omega
  ·exact (by repeat (first|exact Sub.nil|refine Sub.cons rfl ?_))
  ·exact Sx
  ·intro k hphi;refine ei ?_;refine T.cond rfl (fun h1=>?_) (fun h1=>?_)
   ·have p1:=h1; (try simp only [cV] at p1);obtain ⟨g,off,rfl,hc⟩:=hsl a5;have hk:=hc k a5;haveI:=(h.ds.at (k:=k) a5).one;simp only [Dx.cells] at hk;refine fq ?_;refine dd ?_;refine lc ?_; (refine cK (Wt.none) rfl rfl (Ew.alloc) ?_;rintro _ _ ⟨g5,rfl,rfl⟩);refine dd ?_; (refine dB (Wt.none) rfl (dr 0) ?_;rintro _ _ ⟨rfl,rfl⟩);refine TL.ns (T.region ?_);refine d5 ?_;refine eu ?_;refine q0v ?_; (refine dB (Wt.none) rfl (fb 1 (fm (fun j=> .int .i64 (cH P.ds j).st) (.int .i64 0) P.ds.length (k+1)) rfl rfl rfl rfl (by rw [zeR a5];omega) (zeA a5 a5)) ?_;rintro _ _ ⟨rfl,rfl⟩);refine kC ?_;exact K.next (k+1) a5 a5 (by repeat (first|exact Sub.nil|refine Sub.cons rfl ?_)) Sx
   ·have p1:=h1; (try simp only [cV] at p1);refine ff ?_;exact K.at (by repeat (first|exact Sub.nil|refine Sub.cons rfl ?_)) (by rw [zhw (fun d:Dx=>d.st) (fun _=>rfl) (show k=P.ds.length by omega)];exact Sx)
 ·skip;refine gy ?_; (refine cK (Wt.none) rfl rfl (cL rfl rfl rfl (fun w hw=>zm7 (P.ds.map (·.st)) _ w (kw (enc:=Ie) (fun _=>rfl) hw 0 rfl a7) b8 (by intro x hx;obtain ⟨d,hd,rfl⟩:=List.mem_map.1 hx;exact hr d hd))) ?_;rintro _ _ ⟨rfl,rfl⟩);refine eM ?_; (refine cK (Wt.none) rfl rfl (Ew.alloc) ?_;rintro _ _ ⟨g6,rfl,rfl⟩); (refine dB (Wt.none) rfl (dr 0 rfl rfl rfl rfl b5 (by rw [List.length_map,kv];rfl)) ?_;rintro _ _ ⟨rfl,rfl⟩);refine f9 ?_;refine cI (dJ 0 rfl rfl rfl b5) ?_; (refine dB (Wt.none) rfl (dr 2 rfl rfl rfl rfl b5 (by rw [List.length_map,List.length_map,kv];rfl)) ?_;rintro _ _ ⟨rfl,rfl⟩);refine fJ ?_;exact j1 2 rfl rfl rfl b5 (fun w' hw=>⟨rfl,hw.isBelow⟩)
theorem ziw (x:Pr)(ws:Ws)(hws:ws.length=8)(p:Nat)(w:World)(hp:Cs w p 0 ws.cells):Calls Tryz.prog 111 #[.agg (Pr.cells x).toArray, .pointer (some ⟨p,0,none⟩)] w fun e w'=>e= .returned (.bool (je ws x.a&&je ws x.b))∧Below w.heap.size w w':=by
 refine dq (M:=fun _=>False) (hs:=[]) Tryz.func111 rfl rfl rfl (Hp.refl _ _) ?_;simp only [Pr.cells];refine de ?_; (refine cK (Wt.none) rfl rfl (dv) ?_;rintro _ _ ⟨g2,rfl,rfl⟩);refine q2W ?_; (refine cK (Wt.none) rfl rfl (cL rfl rfl rfl (fun w hw=>zfF ws hws _ w)) ?_;rintro _ _ ⟨rfl,rfl⟩);refine dd ?_;refine dk rfl rfl rfl (fun h1=>?_) (fun h1=>?_)
 ·have p1:=h1; (try simp only [cV] at p1);refine cY (Wt.some rfl rfl rfl h1) rfl rfl (gH rfl rfl hp (by rw [List.length_map,hws]) (fun h=>h)) ?_;refine q0I ?_; (refine cK (Wt.some rfl rfl rfl h1) rfl rfl (cL rfl rfl rfl (fun w hw=>zfF ws hws _ w)) ?_;rintro _ _ ⟨rfl,rfl⟩);refine kd ?_;refine eU ?_;refine cU rfl rfl (fun w' hw=>⟨?_,hw.isBelow⟩);exact q4l
 ·have p1:=h1; (try simp only [cV] at p1);refine jN ?_;refine jN ?_;refine q2J ?_;refine eU ?_;refine cU rfl rfl (fun w' hw=>⟨?_,hw.isBelow⟩);exact q4l
theorem zik (x:Ld)(ws:Ws)(hws:ws.length=8)(p:Nat)(w:World)(hp:Cs w p 0 ws.cells):Calls Tryz.prog 113 #[.agg (Ld.cells x).toArray, .pointer (some ⟨p,0,none⟩)] w fun e w'=>e= .returned (.bool (je ws x.to&&je ws x.fr))∧Below w.heap.size w w':=by
 refine dq (M:=fun _=>False) (hs:=[]) Tryz.func113 rfl rfl rfl (Hp.refl _ _) ?_;simp only [Ld.cells];refine de ?_; (refine cK (Wt.none) rfl rfl (dv) ?_;rintro _ _ ⟨g2,rfl,rfl⟩);refine q2W ?_; (refine cK (Wt.none) rfl rfl (cL rfl rfl rfl (fun w hw=>zfF ws hws _ w)) ?_;rintro _ _ ⟨rfl,rfl⟩);refine dd ?_;refine dk rfl rfl rfl (fun h1=>?_) (fun h1=>?_)
 ·have p1:=h1; (try simp only [cV] at p1);refine cY (Wt.some rfl rfl rfl h1) rfl rfl (gH rfl rfl hp (by rw [List.length_map,hws]) (fun h=>h)) ?_;refine q0I ?_; (refine cK (Wt.some rfl rfl rfl h1) rfl rfl (cL rfl rfl rfl (fun w hw=>zfF ws hws _ w)) ?_;rintro _ _ ⟨rfl,rfl⟩);refine kd ?_;refine eU ?_;refine cU rfl rfl (fun w' hw=>⟨?_,hw.isBelow⟩);exact q4l
 ·have p1:=h1; (try simp only [cV] at p1);refine jN ?_;refine jN ?_;refine q2J ?_;refine eU ?_;refine cU rfl rfl (fun w' hw=>⟨?_,hw.isBelow⟩);exact q4l
theorem zia (x:Cp)(ws:Ws)(hws:ws.length=8)(p:Nat)(w:World)(hp:Cs w p 0 ws.cells):Calls Tryz.prog 115 #[.agg (Cp.cells x).toArray, .pointer (some ⟨p,0,none⟩)] w fun e w'=>e= .returned (.bool (je ws x.st))∧Below w.heap.size w w':=by
 refine dq (M:=fun _=>False) (hs:=[]) Tryz.func115 rfl rfl rfl (Hp.refl _ _) ?_;simp only [Cp.cells];refine de ?_; (refine cK (Wt.none) rfl rfl (dv) ?_;rintro _ _ ⟨g2,rfl,rfl⟩);refine q2W ?_; (refine cK (Wt.none) rfl rfl (cL rfl rfl rfl (fun w hw=>zfF ws hws _ w)) ?_;rintro _ _ ⟨rfl,rfl⟩);refine eU ?_;refine cU rfl rfl (fun w' hw=>⟨?_,hw.isBelow⟩);exact q4l
theorem zfN (P:Pb)(vd vp vl vc:Value)(w:World)(h:ProbAt w vd vp vl vc P):Calls Tryz.prog 72 #[.agg [vd,vp,vl,vc].toArray] w fun e w'=>e= .returned (.bool P.ok)∧Below w.heap.size w w':=by
 obtain ⟨A,cap,rfl,hsl⟩:=h.ds.sl.op;obtain ⟨A1,cap1,rfl, -⟩:=h.ru.ps.op;obtain ⟨A2,cap2,rfl, -⟩:=h.ru.ls.op;obtain ⟨A3,cap3,rfl, -⟩:=h.ru.cs.op;refine dq (M:=fun _=>False) (hs:=[]) Tryz.func72 rfl rfl rfl (Hp.refl _ _) ?_;refine de ?_; (refine cK (Wt.none) rfl rfl (dv) ?_;rintro _ _ ⟨g1,rfl,rfl⟩);refine jd ?_;refine eu ?_; (refine cK (Wt.none) rfl rfl (cL rfl rfl rfl (fun w hw=>zk4 (q:=Dx.ok) P.ds _ 104 #[] w (h.ds.sl.kept hw) (fun k hk=>(h.ds.at hk).one) (fun k hk w1 hb=>zgj _ w1 (((h.ds.at hk).kept hw).kept (gj hb)) (h.hch _ (iD hk))) h.hds)) ?_;rintro _ _ ⟨rfl,rfl⟩);refine d5 ?_;refine dk rfl rfl rfl (fun h1=>?_) (fun h1=>?_)
 ·have p1:=h1; (try simp only [cV] at p1);refine jN ?_;refine jN ?_;refine kd ?_;refine lE ?_;refine gF ?_;refine cU rfl rfl (fun w' hw=>⟨?_,hw.isBelow⟩);exact q4b
 ·have p1:=h1; (try simp only [cV] at p1);refine cY (Wt.some rfl rfl rfl h1) rfl rfl (Yv.fieldAddr) ?_;refine cY (Wt.some rfl rfl rfl h1) rfl rfl (Yv.bO 0 (m:=[.slice A1 P.ps.length cap1, .slice A2 P.ls.length cap2, .slice A3 P.cs.length cap3]) rfl rfl rfl rfl rfl) ?_; (refine cK (Wt.some rfl rfl rfl h1) rfl rfl (cL rfl rfl rfl (fun w hw=>zgk P _ _ _ w (h.ru.kept hw))) ?_;rintro _ _ ⟨rfl,rfl⟩);refine jC ?_;refine q2J ?_;refine TL.ns ?_;refine T.cond rfl (fun h2=>?_) (fun h2=>?_)
  ·have p2:=h2; (try simp only [cV] at p2);refine gF ?_;refine cU rfl rfl (fun w' hw=>⟨?_,hw.isBelow⟩);exact q4b
  ·have p2:=h2; (try simp only [cV] at p2);refine gV ?_;refine jd ?_;refine eu ?_;refine dd ?_; (refine cK (Wt.none) rfl rfl (cL rfl rfl rfl (fun w hw=>zgQ (c:=fun a b=>dV a.st b.st) P.ds _ 106 w (h.ds.sl.kept hw) (fun k hk=>(h.ds.at hk).one) (fun x y hx hy w1=>zg1 x y hx hy w1) h.hds)) ?_;rintro _ _ ⟨rfl,rfl⟩);refine dP ?_;refine T.cond rfl (fun h3=>?_) (fun h3=>?_)
   ·have p3:=h3; (try simp only [cV] at p3);refine gF ?_;refine cU rfl rfl (fun w' hw=>⟨?_,hw.isBelow⟩);exact q4b
   ·have p3:=h3; (try simp only [cV] at p3);refine gV ?_;refine gY ?_; (have hall:fF Dx.ok P.ds=true:=by assumption); (have hinc:fG (fun a b:Dx=>dV a.st b.st) P.ds=true:=by assumption); (have hst:∀d∈P.ds,0≤d.st∧d.st≤511:=fun d hd=>by have:=ec.1 hall d hd;simp only [Dx.ok,inB,Bool.and_eq_true,decide_eq_true_eq] at this;exact this.1); (refine cK (Wt.none) rfl rfl (cL rfl rfl rfl (fun w hw=>zh6 P _ _ _ _ w (h.kept hw) (zj4 hinc hall) hst)) ?_;rintro _ _ ⟨rfl,rfl⟩); (refine cK (Wt.none) rfl rfl (Ew.alloc) ?_;rintro _ _ ⟨g4,rfl,rfl⟩); (refine dB (Wt.none) rfl (dr 0 rfl rfl rfl rfl b5 (by rw [List.length_map,kv];rfl)) ?_;rintro _ _ ⟨rfl,rfl⟩);refine dG ?_;refine eZ ?_;refine kX ?_;refine dd ?_; (refine cK (Wt.none) rfl rfl (cL rfl rfl rfl (fun w hw=>zj3 (q:=fun x:Pr=>P.has x.a&&P.has x.b) P.ps _ 111 #[.pointer (some ⟨g4,0,none⟩)] w (h.ru.ps.kept hw) (fun k hk w1 hb=>ziw _ _ (kv _) _ w1 (Cs.later hb (eW (cW.1 (hw.get (i:=0) rfl)) cE))) h.ru.hps)) ?_;rintro _ _ ⟨rfl,rfl⟩);refine dd ?_;refine dk rfl rfl rfl (fun h4=>?_) (fun h4=>?_)
    ·have p4:=h4; (try simp only [cV] at p4);refine cY (Wt.some rfl rfl rfl h4) rfl rfl (Yv.fieldAddr) ?_;refine cY (Wt.some rfl rfl rfl h4) rfl rfl (Yv.fieldAddr) ?_;refine cY (Wt.some rfl rfl rfl h4) rfl rfl (cS 1) ?_;refine cY (Wt.some rfl rfl rfl h4) rfl rfl (dU) ?_; (refine cK (Wt.some rfl rfl rfl h4) rfl rfl (cL rfl rfl rfl (fun w hw=>zkq (q:=fun x:Ld=>P.has x.to&&P.has x.fr) P.ls _ 113 #[.pointer (some ⟨g4,0,none⟩)] w (h.ru.ls.kept hw) (fun k hk w1 hb=>zik _ _ (kv _) _ w1 (Cs.later hb (eW (cW.1 (hw.get (i:=0) rfl)) cE))) h.ru.hls)) ?_;rintro _ _ ⟨rfl,rfl⟩);refine cI (ez rfl rfl h4) ?_;refine dd ?_;refine dk rfl rfl rfl (fun h5=>?_) (fun h5=>?_)
     ·have p5:=h5; (try simp only [cV] at p5);refine cY (Wt.some rfl rfl rfl h5) rfl rfl (Yv.fieldAddr) ?_;refine cY (Wt.some rfl rfl rfl h5) rfl rfl (Yv.fieldAddr) ?_;refine cY (Wt.some rfl rfl rfl h5) rfl rfl (cS 1) ?_;refine cY (Wt.some rfl rfl rfl h5) rfl rfl (dU) ?_; (refine cK (Wt.some rfl rfl rfl h5) rfl rfl (cL rfl rfl rfl (fun w hw=>zkF (q:=fun x:Cp=>P.has x.st) P.cs _ 115 #[.pointer (some ⟨g4,0,none⟩)] w (h.ru.cs.kept hw) (fun k hk w1 hb=>zia _ _ (kv _) _ w1 (Cs.later hb (eW (cW.1 (hw.get (i:=0) rfl)) cE))) h.ru.hcs)) ?_;rintro _ _ ⟨rfl,rfl⟩);refine cI (ez rfl rfl h5) ?_;refine eU ?_;refine cU rfl rfl (fun w' hw=>⟨?_,hw.isBelow⟩);exact q4b
     ·have p5:=h5; (try simp only [cV] at p5);refine q1C ?_;refine q1C ?_;refine TL.off (Wt.not rfl rfl rfl h5) rfl rfl ?_;refine cI (d9 rfl rfl h5) ?_;refine eU ?_;refine cU rfl rfl (fun w' hw=>⟨?_,hw.isBelow⟩);exact q4b
    ·have p4:=h4; (try simp only [cV] at p4);refine q15 ?_;refine TL.run 8 rfl ?_;refine fJ ?_;refine cU rfl rfl (fun w' hw=>⟨?_,hw.isBelow⟩);exact q4b
def jt (l:List Int):BitVec 64:=l.foldl (fun m c=>m ||| 1#64 <<< c.toNat) 0#64
theorem ziv {l:List Int}{k:Nat}(h:k<l.length):jt (l.take (k+1))=(jt (l.take k) ||| 1#64 <<< (cH l k).toNat):=by
 unfold jt;rw [List.take_succ_eq_append_getElem h,dW h,List.foldl_append];rfl
def pop1 (a:BitVec 64):BitVec 64:=((a >>> 1) &&& 6148914691236517205#64)+(a &&& 6148914691236517205#64)
def pop2 (a:BitVec 64):BitVec 64:=((a >>> 2) &&& 3689348814741910323#64)+(a &&& 3689348814741910323#64)
def pop3 (a:BitVec 64):BitVec 64:=((a >>> 4)+a) &&& 1085102592571150095#64
def pop4 (k:Nat)(a:BitVec 64):BitVec 64:=a+(a >>> k)
def zkN (a:BitVec 64):Nat:=(pop4 32 (pop4 16 (pop4 8 (pop3 (pop2 (pop1 a))))) &&& 127#64).toNat
theorem ziM (a:BitVec 64):zkN a≤127:=by
 unfold zkN;rw [BitVec.toNat_and];exact Nat.and_le_right
theorem zjt (b:BitVec 64):BitVec.ofInt 64 (IntKind.i64.wrap (b.toNat:Int))=b:=by
 apply BitVec.eq_of_toNat_eq;rw [BitVec.toNat_ofInt,IntKind.wrap_i64];have:=b.isLt;omega
section
variable {P:Program}{n:Nat}{B D:World}{M:Nat→Prop}{fs:dH}{hs:HS}{o:Oper}{v:Value}
theorem Yv.cq {x:Operand}{a:BitVec 64}(ho:o.op= .convert 80 3 x)(hx:ev fs x=some (U a)):Yv Tryz.prog n B M fs hs o (.int .i64 (IntKind.i64.wrap (a.toNat:Int))):=fun f w ha _=>by
 (have hr:(convert 80 3 (U a)).run Tryz.prog w= .ok (.int .i64 (IntKind.i64.wrap (a.toNat:Int))) w:=by kernel_rfl);unfold execOp;simp only [ho,ha.ev hx];rw [Sem.run_bind,hr]
 rfl
theorem lu {x:Operand}{t u:TypeId}{a:BitVec 64}(ho:o.op= .binOp .and t x (.const (.int .i64 127)) u)(hx:ev fs x=some (.int .i64 (IntKind.i64.wrap (a.toNat:Int)))):Yv P n B M fs hs o (.int .i64 ((a &&& 127#64).toNat:Int)):=fun f w ha _=>by
 have hr:(binOp .and t (.int .i64 (IntKind.i64.wrap (a.toNat:Int))) (.int .i64 127)).run P w= .ok (.int .i64 ((a &&& 127#64).toNat:Int)) w:=by
  have e:(binOp .and t (.int .i64 (IntKind.i64.wrap (a.toNat:Int))) (.int .i64 127)).run P w= .ok (.int .i64 (IntKind.i64.wrap ((BitVec.ofInt 64 (IntKind.i64.wrap (a.toNat:Int)) &&& BitVec.ofInt 64 127).toNat:Int))) w:=rfl; (have hle:(a &&& 127#64).toNat≤127:=by rw [BitVec.toNat_and];exact Nat.and_le_right);rw [e,zjt,show BitVec.ofInt 64 127=127#64 from rfl,IntWalk.i64_in _ ⟨by omega,by omega⟩]
 unfold execOp;simp only [ho,ha.ev hx,ha.ev (x:= .const (.int .i64 127)) rfl];rw [Sem.run_bind,Sem.run_bind,show (eqGuard .and t x (.const (.int .i64 127)) (.int .i64 (IntKind.i64.wrap (a.toNat:Int))) (.int .i64 127)).run P w= .ok () w from rfl];simp only [Result.andThen,hr]
 rfl
end
theorem zkY (a:BitVec 64)(w:World):Calls Tryz.prog 176 #[U a] w fun e w'=>e= .returned (.int .i64 (zkN a:Int))∧Below w.heap.size w w':=by
 refine dq (M:=fun _=>False) (hs:=[]) Tryz.func176 rfl rfl rfl (Hp.refl _ _) ?_;refine mh ?_;refine cI (fD 1 rfl rfl rfl rfl a6) ?_;refine cI (fL (b:=6148914691236517205#64)) ?_;refine dd ?_;refine cI (fL (b:=6148914691236517205#64)) ?_;refine cI (jw) ?_;refine kn ?_;refine cI (fD 2 rfl rfl rfl rfl a6) ?_;refine cI (fL (b:=3689348814741910323#64)) ?_;refine dd ?_;refine cI (fL (b:=3689348814741910323#64)) ?_;refine cI (jw) ?_;refine kn ?_;refine cI (fD 4 rfl rfl rfl rfl a6) ?_;refine dd ?_;refine cI (jw) ?_;refine cI (fL (b:=1085102592571150095#64)) ?_;refine f9 ?_;refine d5 ?_;refine cI (fD 8 rfl rfl rfl rfl a6) ?_;refine cI (jw) ?_;refine f9 ?_;refine d5 ?_;refine cI (fD 16 rfl rfl rfl rfl a6) ?_;refine cI (jw) ?_;refine f9 ?_;refine d5 ?_;refine cI (fD 32 rfl rfl rfl rfl a6) ?_;refine cI (jw) ?_;refine kn ?_;refine cI (Yv.cq rfl rfl) ?_;refine cI (lu rfl rfl) ?_;refine eU ?_;refine cU rfl rfl (fun w' hw=>⟨?_,hw.isBelow⟩)
 rfl
theorem zlN (a:BitVec 64)(ha:a≠0#64)(w:World)(ht:Tab w):Calls Tryz.prog 175 #[U a] w fun e w'=>e= .returned (.int .i64 (ctz a:Int))∧Below w.heap.size w w':=by
 obtain ⟨hi,htab⟩:=znn ha;have hcell:=ht _ hi;rw [htab] at hcell;have hlt:=zhu ha;refine dq (M:=fun _=>False) (hs:=[]) Tryz.func175 rfl rfl rfl (Hp.refl _ _) ?_;refine gy ?_;refine gX ?_;refine iK ?_;refine ii rfl (by rw [zmb];exact decide_eq_false ha) ?_;refine gV ?_;refine d5 ?_;refine cI (Yv.cw rfl rfl) ?_;refine cI (fL) ?_;refine cI (Yv.cv (b:=285870213051353865#64) rfl rfl rfl) ?_;refine cI (fD 58 rfl rfl rfl rfl a6) ?_;refine cI (dX rfl rfl rfl rfl a5) ?_;refine cI (dI rfl rfl (by rw [show ∀x:Nat,0+x*1=x from fun x=>by omega];exact hcell) (fun h=>h)) ?_;refine cI (Yv.co rfl rfl (by first|exact IntWalk.i64_in _ a5|exact IntWalk.u64_in _ a5|exact IntWalk.u8_in _ a5)) ?_;refine eU ?_;refine cU rfl rfl (fun w' hw=>⟨?_,hw.isBelow⟩)
 rfl
theorem zkZ (l:List Int)(v:Value)(w:World)(h:zfQ w v l)(hl:l.length≤9223372036854775807)(hr:∀x∈l,2≤x∧x≤51):Calls Tryz.prog 142 #[v] w fun e w'=>e= .returned (U (jt l))∧Below w.heap.size w w':=by
 obtain ⟨A,cap,rfl,hsl⟩:=h.op;refine dq (M:=fun _=>False) (hs:=[]) Tryz.func142 rfl rfl rfl (Hp.refl _ _) ?_;refine lr ?_;refine kL ?_;refine jj ?_;refine T.loop (ι:=Nat) (fun k=>[(3,U (jt (l.take k))),(6, .slice A l.length cap),(7, .int .i64 (l.length:Int)),(8, .int .i64 (k:Int))]) (fun k=>[]) (fun k=>k≤l.length) (fun k=>l.length - k) 0 ?_ ?_ ?_ ?_
 ·omega
 ·exact (by repeat (first|exact Sub.nil|refine Sub.cons rfl ?_))
 ·exact Sx
 ·intro k hphi;refine ei ?_;refine T.cond rfl (fun h1=>?_) (fun h1=>?_)
  ·have p1:=h1; (try simp only [cV] at p1);obtain ⟨g,off,rfl,hc⟩:=hsl a5;have hk:=hc k a5;simp only [Ie] at hk;have hr1:=hr _ (iD (xs:=l) (k:=k) a5);refine fq ?_;refine q1V ?_;refine dd ?_;refine TL.ns (T.region ?_);refine d5 ?_;refine cI (fW (a:=1#64) (cH l k).toNat rfl rfl rfl a5 a5) ?_;refine cI (fH) ?_;refine lA ?_;exact K.next (k+1) a5 a5 (by rw [ziv a5];exact (by repeat (first|exact Sub.nil|refine Sub.cons rfl ?_))) Sx
  ·have p1:=h1; (try simp only [cV] at p1);refine q0Y ?_;refine ji ?_;exact cU rfl rfl (fun w' hw=>⟨by rw [List.take_of_length_le a5],hw.isBelow⟩)
def j6 (ws:Ws)(k:Nat):Nat:=((ws.take k).map zkN).sum
theorem zhj {ws:Ws}{k:Nat}(h:k<ws.length):j6 ws (k+1)=j6 ws k+zkN (cH ws k):=by
 unfold j6;rw [List.take_succ_eq_append_getElem h,dW h,List.map_append,List.sum_append];simp
theorem zic (ws:Ws):∀k,j6 ws k≤127*k
 |0=>by simp [j6]
 |k+1=>by
  have:=zic ws k;rcases Nat.lt_or_ge k ws.length with h|h
  ·rw [zhj h];have:=ziM (cH ws k);omega
  ·unfold j6 at *;rw [List.take_of_length_le a5] at *;omega
@[irreducible] def eR (ws:Ws) (i:Nat):List Nat:=(List.range' i (512 - i)).filter (et ws)
abbrev eT (ws:Ws):List Nat:=eR ws 0
def zhg:List Nat→Int
 | []=> -1
 |x :: _=>(x:Int)
theorem zfW {ws:Ws}{i:Nat}(h:∀j,i≤j→j<512→et ws j=false):eR ws i=[]:=by
 unfold eR;rw [List.filter_eq_nil_iff];intro j hj;obtain ⟨h1,h2⟩:=List.mem_range'_1.1 hj;rw [h j h1 a5];simp
theorem zhN {ws:Ws}{i r:Nat}(hi:i≤r)(hr:r<512)(hb:et ws r=true)(h:∀j,i≤j→j<r→et ws j=false):eR ws i=r :: eR ws (r+1):=by
 unfold eR
 have e:List.range' i (512 - i)=List.range' i (r - i)++(r :: List.range' (r+1) (512 - (r+1))):=by
  rw [show r :: List.range' (r+1) (512 - (r+1))=List.range' r (512 - r) from by rw [show 512 - r=(512 - (r+1))+1 by omega,List.range'_succ]];have:=List.range'_append (s:=i) (m:=r - i) (n:=512 - r) (step:=1);rw [Nat.one_mul,show i+(r - i)=r by omega,show r - i+(512 - r)=512 - i by omega] at this;exact this.symm
 rw [e,List.filter_append,List.filter_cons_of_pos (by simpa using hb)]
 have:(List.range' i (r - i)).filter (et ws)=[]:=by
  rw [List.filter_eq_nil_iff];intro j hj;obtain ⟨h1,h2⟩:=List.mem_range'_1.1 hj;rw [h j h1 a5];simp
 rw [this];rfl
theorem fj {ws:Ws}{i j:Nat}:j∈eR ws i↔i≤j∧j<512∧et ws j=true:=by
 unfold eR;rw [List.mem_filter,List.mem_range'_1];constructor
 ·rintro ⟨⟨h1,h2⟩,h3⟩;exact ⟨h1,by omega,h3⟩
 ·rintro ⟨h1,h2,h3⟩;exact ⟨⟨h1,by omega⟩,h3⟩
theorem zj1 {ws:Ws}{i h:Nat}{t:List Nat}(e:eR ws i=h :: t):i≤h∧h<512∧t=eR ws (h+1):=by
 have hm:=fj.1 (show h∈eR ws i by rw [e];simp)
 have hs:eR ws i=h :: eR ws (h+1):=zhN hm.1 hm.2.1 hm.2.2 (fun j h1 h2=>by
  cases hb:et ws j with
  |false=>rfl
  |true=>
   have hj:j∈eR ws i:=fj.2 ⟨h1,by omega,hb⟩; (have hsort:(eR ws i).Pairwise (· < ·):=by unfold eR;exact List.Pairwise.filter _ List.pairwise_lt_range');rw [e] at hj hsort;rcases List.mem_cons.1 hj with hj|hj
   ·omega
   ·have:=(List.pairwise_cons.1 hsort).1 j hj;omega)
 rw [e] at hs;exact ⟨hm.1,hm.2.1,(List.cons.inj hs).2⟩
theorem zfw (ws:Ws)(i:Nat):(eR ws i).length≤512:=by
 unfold eR;have:=List.length_filter_le (et ws) (List.range' i (512 - i));rw [List.length_range'] at this;omega
theorem zmt (a:BitVec 64)(k j:Nat)(hj:j<64):((a >>> k) <<< k).getLsbD j=(a.getLsbD j&&decide (k≤j)):=by
 rw [BitVec.getLsbD_shiftLeft,BitVec.getLsbD_ushiftRight];by_cases h:j<k
 ·simp [h]
 ·rw [show k+(j - k)=j by omega];simp [hj,h];intro _;omega
structure NxInv (ws:Ws) (i at':Nat) (b:BitVec 64):Prop where
 lt:at'<8
 ge:i<64* (at'+1)
 bit:∀j,j<64→b.getLsbD j=(et ws (64*at'+j)&&decide (i≤64*at'+j))
 none:∀j,i≤j→j<64*at'→et ws j=false
theorem NxInv.start {ws:Ws}{i:Nat}(hi:i<512):NxInv ws i (i / 64) ((cH ws (i / 64) >>> (i % 64)) <<< (i % 64)) where
 lt:=by omega
 ge:=by omega
 bit j hj:=by
  rw [zmt _ _ _ hj];unfold et;rw [show (64* (i / 64)+j) / 64=i / 64 by omega,show (64* (i / 64)+j) % 64=j by omega]
  congr 1
  exact decide_eq_decide.2 a5
 none j h1 h2:=by omega
theorem NxInv.next {ws:Ws}{i a:Nat}(h:NxInv ws i a 0#64)(ha:a+1<8):NxInv ws i (a+1) (cH ws (a+1)) where
 lt:=ha
 ge:=by have:=h.ge;omega
 bit j hj:=by
  have:=h.ge;unfold et;rw [show (64* (a+1)+j) / 64=a+1 by omega,show (64* (a+1)+j) % 64=j by omega,decide_eq_true a5,Bool.and_true]
 none j h1 h2:=by
  rcases Nat.lt_or_ge j (64*a) with hj|hj
  ·exact h.none j h1 hj
  ·have:=h.bit (j - 64*a) a5;rw [show 64*a+(j - 64*a)=j by omega,decide_eq_true h1,Bool.and_true,BitVec.getLsbD_zero] at this;exact this.symm
theorem NxInv.found {ws:Ws}{i a:Nat}{b:BitVec 64}(h:NxInv ws i a b)(hb:b≠0#64):eR ws i=(64*a+ctz b) :: eR ws (64*a+ctz b+1):=by
 have hc:=zhu hb;have h1:=(zf8 hb 0).1;rw [h.bit _ hc] at h1;simp only [Bool.and_eq_true,decide_eq_true_eq] at h1;have:=h.lt;refine zhN h1.2 a5 h1.1 (fun j hi hj=>?_);rcases Nat.lt_or_ge j (64*a) with hj2|hj2
 ·exact h.none j hi hj2
 ·have h2:=(zf8 hb (j - 64*a)).2 a5;rw [h.bit _ a5,show 64*a+(j - 64*a)=j by omega,decide_eq_true hi,Bool.and_true] at h2;exact h2
theorem NxInv.over {ws:Ws}{i a:Nat}(h:NxInv ws i a 0#64)(ha:a+1=8):eR ws i=[]:=zfW fun j h1 h2=>by
 rcases Nat.lt_or_ge j (64*a) with hj2|hj2
 ·exact h.none j h1 hj2
 ·have h3:=h.bit (j - 64*a) a5;rw [show 64*a+(j - 64*a)=j by omega,decide_eq_true h1,Bool.and_true,BitVec.getLsbD_zero] at h3;exact h3.symm
theorem zhY (ws:Ws):∀(k i:Nat),k<(eR ws i).length→eR ws (cH (eR ws i) k+1)=(eR ws i).drop (k+1)
 |k,i,hk=>by
  cases e:eR ws i with
  |nil=>rw [e] at hk;simp at hk
  |cons h t=>
   obtain ⟨h1,h2,h3⟩:=zj1 e
   cases k with
   |zero=>simp [cH,h3]
   |succ k=>
    rw [e] at hk;subst h3;have:=zhY ws k (h+1) (by simpa using hk);simpa [cH] using this
theorem zgt {xs:List Nat}{k:Nat}(h:k<xs.length):zhg (xs.drop k)=((cH xs k:Nat):Int):=by
 rw [List.drop_eq_getElem_cons h,dW h];rfl
theorem zjA {xs:List Nat}{k:Nat}(h:zhg (xs.drop k)<0):xs.length≤k:=by
 rcases Nat.lt_or_ge k xs.length with hk|hk
 ·rw [zgt hk] at h;omega
 ·exact hk
theorem zjK {xs:List Nat}{k:Nat}(h:0≤zhg (xs.drop k)):k<xs.length:=by
 rcases Nat.lt_or_ge k xs.length with hk|hk
 ·exact hk
 ·rw [List.drop_eq_nil_of_le hk] at h;simp [zhg] at h
theorem zmB {α:Type}[Inhabited α]{xs:List α}{k:Nat}(h:k<xs.length):xs[k]?=some (cH xs k):=by rw [dW h];exact List.getElem?_eq_getElem h
theorem zl8 {α:Type}[Inhabited α]{xs:List α}{k:Nat}{x:α}(h:xs[k]?=some x):k<xs.length∧x=cH xs k:=by
 obtain ⟨h1,h2⟩:=List.getElem?_eq_some_iff.1 h;exact ⟨h1,by rw [dW h1,h2]⟩
def i0 (l:List Nat):List Value:=l.map fun j:Nat=> .int .i64 (j:Int)
theorem zkn {l:List Nat}{k:Nat}(h:k<l.length):i0 (l.take (k+1))=i0 (l.take k)++[.int .i64 ((cH l k:Nat):Int)]:=by
 unfold i0;rw [List.take_succ_eq_append_getElem h,dW h,List.map_append];rfl
@[irreducible] def dt (m:BitVec 64):List Nat:=(List.range' 0 64).filter m.getLsbD
theorem zmq (ws:Ws)(hws:ws.length=8)(w:World):Calls Tryz.prog 165 #[.agg ws.cells.toArray] w fun e w'=>e= .returned (.int .i64 (j6 ws 8:Int))∧Below w.heap.size w w':=by
 refine dq (M:=fun _=>False) (hs:=[]) Tryz.func165 rfl rfl rfl (Hp.refl _ _) ?_;refine de ?_; (refine cK (Wt.none) rfl rfl (dv) ?_;rintro _ _ ⟨g1,rfl,rfl⟩);refine f9 ?_;refine jd ?_;refine eZ ?_;refine q2v ?_;refine dd ?_;refine TL.ns (T.block ?_);refine T.loop (ι:=Nat) (fun k=>[(3, .int .i64 (j6 ws k:Int)),(7, .agg ws.cells.toArray),(8, .int .i64 (k:Int))]) (fun k=>[]) (fun k=>k≤8) (fun k=>8 - k) 0 ?_ ?_ ?_ ?_
 ·omega
 ·exact (by repeat (first|exact Sub.nil|refine Sub.cons rfl ?_))
 ·exact Sx
 ·intro k hphi;have hle:=zic ws k;refine ei ?_;refine T.cond rfl (fun h1=>?_) (fun h1=>?_)
  ·have p1:=h1; (try simp only [cV] at p1);have hld:=Ws.get (ws:=ws) (i:=k) (p:=k) a5 rfl;have hp8:=ziM (cH ws k);refine fq ?_;refine cI (mf rfl rfl rfl rfl a5 hld) ?_;refine dd ?_;refine TL.ns (T.region ?_);refine d5 ?_; (refine cK (Wt.none) rfl rfl (cL rfl rfl rfl (fun w hw=>zkY _ w)) ?_;rintro _ _ ⟨rfl,rfl⟩);refine ly ?_;refine lA ?_;exact K.next (k+1) a5 a5 (by repeat (first|exact Sub.nil|refine Sub.cons rfl ?_|(refine eH rfl (by rw [zhj a5];omega) ?_))) Sx
  ·have p1:=h1; (try simp only [cV] at p1);refine q0Y ?_;refine ji ?_;exact cU rfl rfl (fun w' hw=>⟨zcF (by rw [show k=8 by omega]),hw.isBelow⟩)
theorem zmv (ws:Ws)(hws:ws.length=8)(i:Nat)(hi:i<512)(w:World):Calls Tryz.prog 168 #[.agg ws.cells.toArray, .int .i64 (i:Int)] w fun e w'=>e= .returned (.tuple #[.agg (Ws.cells (dR ws i)).toArray, .int .i64 0])∧Below w.heap.size w w':=by
 have hld:=Ws.get (ws:=ws) (i:=i / 64) (p:=0+0+i / 64*1) a5 a5;refine dq (M:=fun _=>False) (hs:=[]) Tryz.func168 rfl rfl rfl (Hp.refl _ _) ?_;refine de ?_; (refine cK (Wt.none) rfl rfl (dv) ?_;rintro _ _ ⟨g2,rfl,rfl⟩); (refine cK (Wt.none) rfl rfl (Ew.alloc) ?_;rintro _ _ ⟨g4,rfl,rfl⟩);refine kL ?_; (refine cK (Wt.none) rfl rfl (cL rfl rfl rfl (fun w hw=>zen _ _)) ?_;rintro _ _ ⟨rfl,rfl⟩);refine dP ?_;refine ii rfl (by rw [inB,decide_eq_true (show (0:Int)≤(i:Int) by omega),decide_eq_true (show (i:Int)≤511 by omega)];rfl) ?_;refine iR ?_;refine dT (sN 0 4 (sN 5 3 (.still 9 (.eff 4 (.still 8 (.still 10 (.eff 11 .done))))))) [.row g4 83 (Ws.cells e9)] a8 Sx ?_;refine gR ?_;refine cR rfl (jm rfl rfl rfl a5) ?_;refine iq ?_;refine cR rfl (dX rfl rfl rfl (show (i:Int) / 64=((i / 64:Nat):Int) from by omega) a5) ?_;refine gR ?_;refine cR rfl (i8 rfl rfl rfl a5) ?_;refine cR rfl (fW (a:=1#64) (i % 64) rfl rfl rfl a5 a5) ?_;refine jc ?_;refine ep rfl (Wt.none) rfl rfl (cS 1 rfl rfl rfl hld) Sx ?_;refine cR rfl (fH) ?_;refine cR rfl (dX rfl rfl rfl (show (i:Int) / 64=((i / 64:Nat):Int) from by omega) a5) ?_;refine dF ?_; (refine dx rfl (Wt.none) rfl (gJ 1 (Ws.cells (dR ws i)) rfl rfl rfl rfl (by rw [List.length_map,hws];omega) (Ws.put a5)) ?_;rintro _ _ ⟨rfl,rfl⟩;refine ⟨Sx,?_⟩);refine TS.done ?_;refine K.seq (de ?_);refine cI (dJ 1 rfl rfl rfl (by rw [List.length_map,kz,hws])) ?_; (refine dB (Wt.none) rfl (dr 0 rfl rfl rfl rfl (by rw [List.length_map,kz,hws]) (by rw [List.length_map,kz,hws];rfl)) ?_;rintro _ _ ⟨rfl,rfl⟩);refine eU ?_;exact gz 0 rfl rfl rfl rfl (by rw [List.length_map,kz,hws]) (fun w' hw=>⟨rfl,hw.isBelow⟩)
theorem ziS (ws:Ws)(hws:ws.length=8)(i:Nat)(z:Int)(hz:z=(i:Int))(w:World)(ht:Tab w):Calls Tryz.prog 179 #[.agg ws.cells.toArray, .int .i64 z] w fun e w'=>e= .returned (.int .i64 (zhg (eR ws i)))∧Below w.heap.size w w':=by
 subst hz;refine dq (M:=fun _=>False) (hs:=[]) Tryz.func179 rfl rfl rfl (Hp.refl _ _) ?_;refine de ?_; (refine cK (Wt.none) rfl rfl (dv) ?_;rintro _ _ ⟨g2,rfl,rfl⟩);refine jd ?_;refine iK ?_;refine ii rfl (decide_eq_false a5) ?_;refine jR ?_;refine iK ?_;refine T.cond rfl (fun h1=>?_) (fun h1=>?_)
 ·have p1:=h1; (try simp only [cV] at p1);refine gF ?_;exact cU rfl rfl (fun w' hw=>⟨zcF (by rw [zfW (fun j h1 h2=>by omega)];rfl),hw.isBelow⟩)
 ·have p1:=h1; (try simp only [cV] at p1);have hld:=Ws.get (ws:=ws) (i:=i / 64) (p:=0+0+i / 64*1) a5 a5;refine gV ?_;refine dd ?_;refine cI (jm rfl rfl rfl a5) ?_;refine kn ?_;refine eZ ?_;refine cI (dX rfl rfl rfl (show (i:Int) / 64=((i / 64:Nat):Int) from by omega) a5) ?_;refine cI (cS 0 rfl rfl rfl hld) ?_;refine dd ?_;refine cI (i8 rfl rfl rfl a5) ?_;refine cI (fD (i % 64) rfl rfl rfl a5 a5) ?_;refine dd ?_;refine cI (i8 rfl rfl rfl a5) ?_;refine cI (fW (i % 64) rfl rfl rfl a5 a5) ?_;refine dd ?_;refine TL.ns (T.seq (T.block ?_));refine T.loop (ι:=Nat×BitVec 64) (fun x=>[(2, .pointer (some ⟨g2,0,none⟩)),(5, .int .i64 (x.1:Int)),(6,U x.2)]) (fun x=>[.row g2 83 ws.cells]) (fun x=>NxInv ws i x.1 x.2) (fun x=>8 - x.1) (i / 64,(cH ws (i / 64) >>> (i % 64)) <<< (i % 64)) ?_ ?_ ?_ ?_
  ·exact NxInv.start a5
  ·exact (by repeat (first|exact Sub.nil|refine Sub.cons rfl ?_|(refine eH rfl a5 ?_)))
  ·exact Sx
  ·intro x hphi;obtain ⟨a,b⟩:=x;dsimp only at hphi ⊢;have hlt0:=hphi.lt;refine iJ ?_;refine iK ?_;refine T.cond rfl (fun h2=>?_) (fun h2=>?_)
   ·have p2:=h2; (try simp only [cV] at p2); (have hb0:b=0#64:=by rw [zmb] at h2;exact of_decide_eq_true h2);subst hb0;refine T.skip (K.seq (T.block (de ?_)));refine dd ?_;refine ly ?_;refine jd ?_;refine iK ?_;refine T.cond rfl (fun h3=>?_) (fun h3=>?_)
    ·have p3:=h3; (try simp only [cV] at p3);refine gy ?_;refine TL.ns (T.ret (cQ (fy (cQ (fy (cQ ?_))))));exact cU rfl rfl (fun w' hw=>⟨zcF (by rw [hphi.over a5];rfl),hw.isBelow⟩)
    ·have p3:=h3; (try simp only [cV] at p3);have hlt8:=hphi.lt;have hld:=Ws.get (ws:=ws) (i:=a+1) (p:=0+0+(a+1) *1) a5 a5;refine T.skip (K.seq (T.region ?_));refine dd ?_;refine eZ ?_;refine cI (dX rfl rfl rfl (show (a:Int)+1=((a+1:Nat):Int) from by omega) a5) ?_;refine cI (cS 0 rfl rfl rfl hld) ?_;refine dd ?_;refine TL.nil (fh ?_);exact K.next (a+1,cH ws (a+1)) (hphi.next a5) (by show 8 - (a+1)<8 - a;omega) (by repeat (first|exact Sub.nil|refine Sub.cons rfl ?_|(refine eH rfl a5 ?_))) Sx
   ·have p2:=h2; (try simp only [cV] at p2); (have hb0:b≠0#64:=by rw [zmb] at h2;exact of_decide_eq_false h2);have hcz:=zhu hb0;have hlt8:=hphi.lt;refine q0Y ?_;refine dd ?_;refine cI (Yv.ck rfl rfl rfl a5) ?_;refine dd ?_; (refine cK (Wt.none) rfl rfl (cL rfl rfl rfl (fun w hw=>zlN b hb0 w (ht.keptF hw))) ?_;rintro _ _ ⟨rfl,rfl⟩);refine ly ?_;refine eU ?_;exact cU rfl rfl (fun w' hw=>⟨zcF (by rw [hphi.found hb0];simp only [zhg];omega),hw.isBelow⟩)
theorem zmL (ws:Ws)(hws:ws.length=8)(w:World)(ht:Tab w):Calls Tryz.prog 178 #[.agg ws.cells.toArray] w fun e w'=>e= .returned (.int .i64 (zhg (eT ws)))∧Below w.heap.size w w':=by
 refine dq (M:=fun _=>False) (hs:=[]) Tryz.func178 rfl rfl rfl (Hp.refl _ _) ?_;refine de ?_; (refine cK (Wt.none) rfl rfl (dv) ?_;rintro _ _ ⟨g1,rfl,rfl⟩);refine f9 ?_;refine q2v ?_; (refine cK (Wt.none) rfl rfl (cL rfl rfl rfl (fun w hw=>ziS ws hws 0 0 rfl w (ht.keptF hw))) ?_;rintro _ _ ⟨rfl,rfl⟩);refine eU ?_;refine cU rfl rfl (fun w' hw=>⟨?_,hw.isBelow⟩)
 rfl
theorem zlY (ws:Ws)(hws:ws.length=8)(w:World):Calls Tryz.prog 166 #[.agg ws.cells.toArray] w fun e w'=>∃x:Nat,True∧e= .returned (.func (.func 177) #[] #[.pointer (some ⟨x,0,none⟩)])∧Hp w (fun _=>False) [.row x 83 ws.cells] w':=by
 refine dq (M:=fun _=>False) (hs:=[]) Tryz.func166 rfl rfl rfl (Hp.refl _ _) ?_;refine de ?_; (refine cK (Wt.none) rfl rfl (dv) ?_;rintro _ _ ⟨g1,rfl,rfl⟩);refine f9 ?_;refine ji ?_;exact cU rfl rfl (fun w' hw=>⟨g1,trivial,rfl,hw⟩)
theorem zk0 (ws:Ws)(hws:ws.length=8)(p:Nat)(B:World)(M:Nat→Prop)(ht:Tab B)(hM0:¬M 0):IterAt Tryz.prog 177 [.pointer (some ⟨p,0,none⟩)] (fun j:Nat=>[.int .i64 (j:Int)]) (eT ws) [.row p 83 ws.cells] B M:=by
 intro G Z l W g0 hy hG0 hW;refine zja (B:=B) (M:=M) Tryz.func177 rfl rfl rfl hW ?_;refine de ?_;refine q2v ?_; (refine cK (Wt.none) rfl rfl (cL rfl rfl rfl (fun w hw=>zmL ws hws w (ht.kept hw hM0))) ?_;rintro _ _ ⟨rfl,rfl⟩);refine dd ?_;refine TL.ns (T.block ?_);refine T.loop (ι:=Nat×HS) (fun x=>[(0, .func (.yield l) #[] #[]),(1, .pointer (some ⟨p,0,none⟩)),(3, .int .i64 (zhg ((eT ws).drop x.1)))]) (fun x=>[.row p 83 ws.cells]++x.2) (fun x=>x.1≤(eT ws).length∧G x.1 x.2) (fun x=>(eT ws).length - x.1) (0,g0) ?_ ?_ ?_ ?_
 ·exact ⟨by simp,hG0⟩
 ·exact (by repeat (first|exact Sub.nil|refine Sub.cons rfl ?_))
 ·exact fv
 ·intro x hphi;obtain ⟨k,g⟩:=x;dsimp only at hphi ⊢;obtain ⟨hkn,hG⟩:=hphi;refine iJ ?_;refine iK ?_;refine T.cond rfl (fun h1=>?_) (fun h1=>?_)
  ·have p1:=h1; (try simp only [cV] at p1);have hk:=zjK p1;have h512:cH (eT ws) k<512:=(fj.1 (iD hk)).2.1;rw [zgt hk];refine fq ?_;refine d5 ?_;refine TL.ce (Wt.none) rfl rfl rfl rfl rfl hy (zmB hk) hG (enc:=fun j:Nat=>[.int .i64 (j:Int)]) (x:=cH (eT ws) k) (i:=k) ?_ ?_
   ·intro g' hG';refine dP ?_;refine ii rfl rfl ?_;refine T.skip (fh (K.seq (T.region ?_)));refine q2v ?_;refine dd ?_;refine ly ?_; (refine cK (Wt.none) rfl rfl (cL rfl rfl rfl (fun w hw=>ziS ws hws (cH (eT ws) k+1) _ a5 w (ht.kept hw hM0))) ?_;rintro _ _ ⟨rfl,rfl⟩);refine dd ?_;refine TL.nil ?_;exact K.next (k+1,g') ⟨by dsimp only;omega,hG'⟩ (by dsimp only;omega) (by rw [←zhY ws k 0 hk];exact (by repeat (first|exact Sub.nil|refine Sub.cons rfl ?_))) (List.Sublist.refl _)
   ·intro z hZ;refine dP ?_;refine ll rfl rfl ?_;refine T.ret (fy (cQ (cQ (fy ?_))));exact K.cm rfl (fun w' hw hkp=>⟨⟨_,rfl⟩,hkp, .inr ⟨z,hZ,hw⟩⟩)
  ·have p1:=h1; (try simp only [cV] at p1);have hk:=zjA p1;refine ff ?_;exact K.cn rfl (fun w' hw hkp=>⟨⟨_,rfl⟩,hkp, .inl ⟨g,by rw [show (eT ws).length=k from by omega];exact hG,hw⟩⟩)
theorem ziG (ws:Ws)(hws:ws.length=8)(w:World)(ht:Tab w):Calls Tryz.prog 156 #[.agg ws.cells.toArray] w fun e w'=>∃v:Value,True∧e= .returned v∧Hp w (fun _=>False) [.sl v 3 1 (eT ws).length (i0 (eT ws))] w':=by
 have hsl8:=zic ws 8;have hml:=zfw ws 0;refine dq (M:=fun _=>False) (hs:=[]) Tryz.func156 rfl rfl rfl (Hp.refl _ _) ?_;refine de ?_; (refine cK (Wt.none) rfl rfl (dv) ?_;rintro _ _ ⟨g1,rfl,rfl⟩);refine f9 ?_;refine q2v ?_; (refine cK (Wt.none) rfl rfl (cL rfl rfl rfl (fun w hw=>zmq ws hws w)) ?_;rintro _ _ ⟨rfl,rfl⟩); (refine cK (Wt.none) rfl rfl (Ew.bJ rfl rfl rfl rfl a5 a5) ?_;rintro _ _ ⟨g7,rfl,rfl⟩); (refine cK (Wt.none) rfl rfl (Ew.alloc) ?_;rintro _ _ ⟨g3,rfl,rfl⟩); (refine dB (Wt.none) rfl (dC 0 rfl rfl rfl rfl a6) ?_;rintro _ _ ⟨rfl,rfl⟩);refine gX ?_;refine cI (dJ 2 rfl rfl rfl (by rw [List.length_map,hws])) ?_; (refine cK (Wt.none) rfl rfl (iT rfl rfl rfl (fun w hw=>zlY ws hws _)) ?_;rintro _ _ ⟨b9, -,rfl,rfl⟩);refine em ?_;refine TL.ns (T.block ?_);refine T.bI (α:=Nat) ((fun j:Nat=>[.int .i64 (j:Int)])) (eT ws) ([.row b9 83 ws.cells]) (fun i g=>∃v,g=[.row g3 30 [v], .sl v 3 1 i (i0 ((eT ws).take i))]) (fun _ _=>False) (fun x=>[(3, .pointer (some ⟨g3,0,none⟩)),(4, .int .i64 (x:Int))]) (_) (⟨_,rfl⟩) rfl (zk0 ws hws b9 _ _ ht (fun h=>h)) a6 (fun _=>rfl) (by exact Sx) ?_ ?_ ?_ ?_
 ·intro l i x X D g hx;refine fo ?_;refine TL.nil ?_;exact K.at (by repeat (first|exact Sub.nil|refine Sub.cons rfl ?_)) (List.Sublist.refl _)
 ·intro l i x X D g hx hG;obtain ⟨v,rfl⟩:=hG;obtain ⟨hi,rfl⟩:=zl8 hx;have hi2:i<(eR ws 0).length:=hi;refine em ?_;refine T.block (T.region ?_);refine cI (cS 1) ?_;refine dd ?_; (refine cK (Wt.none) rfl rfl (Ew.buildSlice rfl rfl rfl a6) ?_;rintro _ _ ⟨g13,rfl,rfl⟩); (refine cK (Wt.none) rfl rfl (Ew.append 3 0 rfl rfl rfl rfl rfl rfl a5 a5) ?_;rintro v14 _ ⟨hv14,rfl⟩); (refine dB (Wt.none) rfl (dC 2 rfl rfl rfl rfl b4) ?_;rintro _ _ ⟨rfl,rfl⟩);refine TL.nil (fh ?_);exact K.round _ ⟨_,rfl,v14,rfl⟩ (by rw [zkn hi];exact Sx)
 ·intro g hG;obtain ⟨v,rfl⟩:=hG;refine em ?_;rw [List.take_length];refine fh (K.seq (de ?_));refine cI (cS 1) ?_;refine eU ?_;exact cU rfl rfl (fun w' hw=>⟨_,trivial,rfl,hw.sub Sx⟩)
 ·intro c y hz;exact hz.elim
theorem gN {w:World}{v:Value}{e:TypeId}{size k:Nat}{l:List Value}(h:(Ent.sl v e size k l).ok w):OneC v:=by
 rcases (cT.1 h).2 with ⟨rfl,_⟩|⟨g,cap,cur,rfl,_⟩ <;> exact inferInstance
structure Tb where
 st:List Int
 ix:Nat→Int
 total:Int
 vps:List Value
 ps:Nat→List Pr
 vcs:List Value
 cs:Nat→List Cp
 vin:List Value
 inn:Nat→List Ld
 vout:List Value
 out:Nat→List Ld
abbrev Tb.n (T:Tb):Nat:=T.st.length
structure Lists {α:Type} (w:World) (p:Addr) (enc:α→List Value) (size:Nat) (vs:List Value) (n:Nat) (f:Nat→List α):Prop where
 at':∃v,w.cell? p=some v∧SlOf w v (fun u=>[u]) 1 vs
 len:vs.length=n
 each:∀i,i<n→SlOf w (cH vs i) enc size (f i)
structure TablesAt (w:World) (tp:Nat) (T:Tb):Prop where
 st:∃v,w.cell? ⟨tp,0,none⟩=some v∧zfQ w v T.st
 ix:∀j,j<512→w.cell? ⟨tp,1+j,none⟩=some (.int .i64 (T.ix j))
 total:w.cell? ⟨tp,513,none⟩=some (.int .i64 T.total)
 ps:Lists w ⟨tp,514,none⟩ Pr.cells 5 T.vps T.n T.ps
 cs:Lists w ⟨tp,515,none⟩ Cp.cells 4 T.vcs T.n T.cs
 inn:Lists w ⟨tp,516,none⟩ Ld.cells 5 T.vin T.n T.inn
 out:Lists w ⟨tp,517,none⟩ Ld.cells 5 T.vout T.n T.out
structure Tb.Ok (T:Tb):Prop where
 n:T.n≤512
 ps:∀i,i<T.n→(T.ps i).length≤4096∧∀x∈T.ps i,0≤x.a∧x.a<T.n∧0≤x.b∧x.b<T.n∧ -1≤x.off∧x.off≤1∧2≤x.lo∧x.lo≤x.hi∧x.hi≤51∧(x.a=i∨x.b=i)
 cs:∀i,i<T.n→(T.cs i).length≤1024∧∀x∈T.cs i,0≤x.mx∧x.mx≤1099511627776∧2≤x.lo∧x.lo≤x.hi∧x.hi≤51
 inn:∀i,i<T.n→(T.inn i).length≤1024∧∀x∈T.inn i,x.to=i∧0≤x.fr∧x.fr<T.n∧1≤x.wt∧x.wt≤1073741824∧2≤x.lo∧x.lo≤x.hi∧x.hi≤51
 psS:∀i,i<T.n→∀x∈T.ps i,x.a≠x.b∧x∈T.ps x.a.toNat∧x∈T.ps x.b.toNat
 innS:∀i,i<T.n→∀x∈T.inn i,x.to≠x.fr∧x∈T.out x.fr.toNat
 outS:∀i,i<T.n→∀x∈T.out i,x.to≠x.fr∧x∈T.inn x.to.toNat
 out:∀i,i<T.n→(T.out i).length≤1024∧∀x∈T.out i,x.fr=i∧0≤x.to∧x.to<T.n∧1≤x.wt∧x.wt≤1073741824∧2≤x.lo∧x.lo≤x.hi∧x.hi≤51
def i9 (w:World)(g:Nat):Prop:=∃cs t p,w.heap[g]?=some (.cells cs t p)
def Fz (w0 w:World):Prop:=∀g,i9 w0 g→w.heap[g]?=w0.heap[g]?
theorem zd7 {w:World}{p:Addr}{v:Value}(h:w.cell? p=some v):i9 w p.block:=by
 unfold World.cell? at h
 split at h
 ·rename_i hh;exact ⟨_,_,_,hh⟩
 ·cases h
theorem Fz.cell {w w':World}(hb:Fz w w'){p:Addr}{v:Value}(h:w.cell? p=some v):w'.cell? p=some v:=(World.cell?_of_block (w:=w) (hb _ (zd7 h))).trans h
theorem Fz.cs {w w':World}(hb:Fz w w'){g p:Nat}{l:List Value}(h:Cs w g p l):Cs w' g p l:=fun j hj=>by
 have:=h j hj;rw [List.getElem?_eq_getElem hj] at this ⊢;exact hb.cell this
theorem ir {w:World}{g p:Nat}{l:List Value}(h:Cs w g p l)(hl:0<l.length):i9 w g:=by
 have:=h 0 hl;rw [List.getElem?_eq_getElem hl] at this;exact zd7 this
theorem Fz.sl {α:Type}{w w':World}(hb:Fz w w'){v:Value}{enc:α→List Value}{size:Nat}{xs:List α}(h:SlOf w v enc size xs):SlOf w' v enc size xs:=by
 obtain ⟨A,cap,rfl,hc⟩:=h;refine ⟨A,cap,rfl,fun hp=>?_⟩;obtain ⟨g,off,rfl,hcs⟩:=hc hp;exact ⟨g,off,rfl,fun i hi=>hb.cs (hcs i hi)⟩
theorem gk {w w':World}(hb:Below w.heap.size w w'):Fz w w':=fun g ⟨cs,t,p,h⟩=>hb.block g (Array.getElem?_eq_some_iff.1 h).1
theorem Fz.hp {w0 w w':World}{M:Nat→Prop}{hs:HS}(h:Fz w0 w)(hw:Hp w M hs w')(h0:∀g,M g→¬i9 w0 g):Fz w0 w':=fun g hg=>by
 have h1:=h g hg;obtain ⟨cs,t,p,e⟩:=hg;rw [←h1];refine hw.base g ?_ (fun hm=>h0 g hm ⟨cs,t,p,e⟩);rw [e] at h1;exact (Array.getElem?_eq_some_iff.1 h1).1
theorem Lists.later {α:Type}{w w':World}(hb:Fz w w'){p:Addr}{enc:α→List Value}{size:Nat}{vs:List Value}{n:Nat}{f:Nat→List α}(h:Lists w p enc size vs n f):Lists w' p enc size vs n f:=
 ⟨by obtain ⟨v,h1,h2⟩:=h.at';exact ⟨v,hb.cell h1,hb.sl h2⟩,h.len,fun i hi=>hb.sl (h.each i hi)⟩
theorem TablesAt.later {w w':World}(hb:Fz w w'){tp:Nat}{T:Tb}(h:TablesAt w tp T):TablesAt w' tp T:=
 ⟨by obtain ⟨v,h1,h2⟩:=h.st;exact ⟨v,hb.cell h1,hb.sl h2⟩,fun j hj=>hb.cell (h.ix j hj),hb.cell h.total,h.ps.later hb,h.cs.later hb,h.inn.later hb,h.out.later hb⟩
def Le (b:BitVec 64):List Value:=[U b]
structure StateAt (w:World) (sp:Nat) (T:Tb) (L:Ws) (c:Bool):Prop where
 tab:Tab w
 tb:∃tp,w.cell? ⟨sp,0,none⟩=some (.pointer (some ⟨tp,0,none⟩))∧TablesAt w tp T
 left:∃v,w.cell? ⟨sp,1,none⟩=some v∧SlOf w v Le 1 L
 len:L.length=T.n
 con:w.cell? ⟨sp,2,none⟩=some (.bool c)
theorem StateAt.later {w w':World}(hb:Below w.heap.size w w'){sp:Nat}{T:Tb}{L:Ws}{c:Bool}(h:StateAt w sp T L c):StateAt w' sp T L c:=
 have hf:=gk hb
 ⟨h.tab.keptF (gj hb),by obtain ⟨tp,h1,h2⟩:=h.tb;exact ⟨tp,hf.cell h1,h2.later hf⟩,by obtain ⟨v,h1,h2⟩:=h.left;exact ⟨v,hf.cell h1,hf.sl h2⟩,h.len,hf.cell h.con⟩
theorem StateAt.kept {B w:World}{hs:HS}{sp:Nat}{T:Tb}{L:Ws}{c:Bool}(hw:Hp B (fun _=>False) hs w)(h:StateAt B sp T L c):StateAt w sp T L c:=h.later ⟨hw.os,hw.tape,hw.output,hw.size,fun k hk=>hw.base k hk (fun h=>h)⟩
def iy (b:BitVec 64):Nat:=if b≠0#64∧b &&& (b - 1#64)=0#64 then ctz b else 0
def only (L:Ws)(i:Nat):Nat:=iy (cH L i)
theorem zk6 (b:BitVec 64):iy b<64:=by
 unfold iy;split
 ·rename_i h;exact zhu h.1
 ·decide
theorem zgV (L:Ws)(i:Nat):only L i<64:=zk6 _
def lD (L:Ws)(i:Nat)(g:BitVec 64)(x:Pr):BitVec 64:=
 if x.a=(i:Int) then
  if (only L x.b.toNat:Int)≠0∧x.lo≤(only L x.b.toNat:Int) - x.off∧(only L x.b.toNat:Int) - x.off≤x.hi then g ||| 1#64 <<< ((only L x.b.toNat:Int) - x.off).toNat else g
 else if x.lo≤(only L x.a.toNat:Int)∧(only L x.a.toNat:Int)≤x.hi then g ||| 1#64 <<< ((only L x.a.toNat:Int)+x.off).toNat else g
def li (T:Tb)(L:Ws)(i:Nat):BitVec 64:=(T.ps i).foldl (lD L i) 0#64
theorem iV {α β:Type}[Inhabited α](f:β→α→β)(z:β){l:List α}{k:Nat}(h:k<l.length):(l.take (k+1)).foldl f z=f ((l.take k).foldl f z) (cH l k):=by
 rw [List.take_succ_eq_append_getElem h,dW h,List.foldl_append];rfl
theorem zk9 {b:BitVec 64}(h1:¬(b.toNat:Int)=0)(h2:((b &&& (b - 1#64)).toNat:Int)=0):iy b=ctz b:=by
 unfold iy;rw [if_pos ⟨by rintro rfl;exact h1 rfl,BitVec.eq_of_toNat_eq (by show _=0;omega)⟩]
theorem zmA {b:BitVec 64}(h2:¬((b &&& (b - 1#64)).toNat:Int)=0):iy b=0:=by
 unfold iy;rw [if_neg (fun h=>h2 (by rw [h.2];rfl))]
theorem zkR {b:BitVec 64}(h1:(b.toNat:Int)=0):iy b=0:=by
 unfold iy;rw [if_neg (fun h=>h.1 (BitVec.eq_of_toNat_eq (by show _=0;omega)))]
theorem zde (sp:Nat)(Y:Tb)(L:Ws)(c:Bool)(i:Nat)(z:Int)(hz:z=(i:Int))(hi:i<Y.n)(w:World)(h:StateAt w sp Y L c):Calls Tryz.prog 164 #[.pointer (some ⟨sp,0,none⟩), .int .i64 z] w fun e w'=>e= .returned (.int .i64 (only L i:Int))∧Below w.heap.size w w':=by
 subst hz;obtain ⟨tp,hsp0,hT⟩:=h.tb;obtain ⟨vL,hsp1,hL⟩:=h.left;obtain ⟨AL,gD,rfl,hLs⟩:=hL.op;have hLn:=h.len;obtain ⟨gL,oL,rfl,hc⟩:=hLs a5;have hk:=hc i a5;simp only [Le] at hk;refine dq (M:=fun _=>False) (hs:=[]) Tryz.func164 rfl rfl rfl (Hp.refl _ _) ?_;refine gy ?_;refine gX ?_;refine d5 ?_;refine eZ ?_;refine cI (dI rfl rfl b6 (fun h=>h)) ?_;refine dd ?_;refine q1V ?_;refine f9 ?_;refine eM ?_;refine dk rfl rfl rfl (fun h1=>?_) (fun h1=>?_)
 ·have p1:=h1; (try simp only [cV] at p1);refine jC ?_;refine jC ?_;refine cY (Wt.some rfl rfl rfl h1) rfl rfl (Yv.cu (b:=1#64) rfl rfl rfl) ?_;refine cY (Wt.some rfl rfl rfl h1) rfl rfl (fL) ?_;refine jC ?_;refine kd ?_;refine TL.ns ?_;refine T.cond rfl (fun h2=>?_) (fun h2=>?_)
  ·have p2:=h2; (try simp only [cV] at p2); (have hne:cH L i≠0#64:=by intro hh;rw [hh] at p1;exact p1 rfl);refine gy ?_; (refine cK (Wt.none) rfl rfl (cL rfl rfl rfl (fun w hw=>zlN _ hne w (h.tab.keptF hw))) ?_;rintro _ _ ⟨rfl,rfl⟩);refine dd ?_;refine jK ?_;exact cU rfl rfl (fun w' hw=>⟨zcF (by rw [only,zk9 p1 p2]),hw.isBelow⟩)
  ·have p2:=h2; (try simp only [cV] at p2);refine gV ?_;refine eU ?_;exact cU rfl rfl (fun w' hw=>⟨zcF (by rw [only,zmA p2];rfl),hw.isBelow⟩)
 ·have p1:=h1; (try simp only [cV] at p1);refine jN ?_;refine q1j ?_;refine lH ?_;refine gV ?_;refine eU ?_;exact cU rfl rfl (fun w' hw=>⟨zcF (by rw [only,zkR p1];rfl),hw.isBelow⟩)
theorem zio (sp:Nat)(Y:Tb)(L:Ws)(c:Bool)(i:Nat)(z:Int)(hz:z=(i:Int))(hi:i<Y.n)(w:World)(h:StateAt w sp Y L c)(hok:Y.Ok):Calls Tryz.prog 153 #[.pointer (some ⟨sp,0,none⟩), .int .i64 z] w fun e w'=>e= .returned (U (li Y L i))∧Below w.heap.size w w':=by
 subst hz;obtain ⟨tp,hsp0,hT⟩:=h.tb;obtain ⟨vL,hsp1,hL⟩:=h.left;obtain ⟨AL,gD,rfl,hLs⟩:=hL.op;have hLn:=h.len;obtain ⟨vP,hP0,hP⟩:=hT.ps.at';obtain ⟨AP,capP,rfl,hPs⟩:=hP.op;have hPn:=hT.ps.len;obtain ⟨gP,oP,rfl,hPc⟩:=hPs a5;rw [hPn] at hP0;have hPi:=hPc i (by rw [hPn];exact hi);obtain ⟨BP,cpP,hvP,hslP⟩:=(hT.ps.each i hi).op;simp only [hvP] at hPi;obtain ⟨hlen,hrng⟩:=hok.ps i hi;have hn512:=hok.n;refine dq (M:=fun _=>False) (hs:=[]) Tryz.func153 rfl rfl rfl (Hp.refl _ _) ?_;refine lr ?_;refine jd ?_;refine d5 ?_;refine q1I ?_;refine cI (dI rfl rfl hP0 (fun h=>h)) ?_;refine kY ?_;refine cI (dY (j:=0) rfl rfl hPi rfl rfl (fun h=>h)) ?_;refine jj ?_;refine T.loop (ι:=Nat) (fun k=>[(0, .pointer (some ⟨sp,0,none⟩)),(1, .int .i64 (i:Int)),(5,U (((Y.ps i).take k).foldl (lD L i) 0#64)),(19, .slice BP (Y.ps i).length cpP),(20, .int .i64 ((Y.ps i).length:Int)),(21, .int .i64 (k:Int))]) (fun k=>[]) (fun k=>k≤(Y.ps i).length) (fun k=>(Y.ps i).length - k) 0 ?_ ?_ ?_ ?_
 ·omega
 ·exact (by repeat (first|exact Sub.nil|refine Sub.cons rfl ?_))
 ·exact Sx
 ·intro k hphi;refine ei ?_;refine T.cond rfl (fun h1=>?_) (fun h1=>?_)
  ·have p1:=h1; (try simp only [cV] at p1);obtain ⟨g,off,rfl,hc⟩:=hslP a5;have hk:=hc k a5;simp only [Pr.cells] at hk;have hr:=hrng _ (iD (xs:=Y.ps i) (k:=k) a5);have oa:=zgV L (cH (Y.ps i) k).a.toNat;have ob:=zgV L (cH (Y.ps i) k).b.toNat;refine fq ?_;refine lc ?_; (refine cK (Wt.none) rfl rfl (Ew.alloc) ?_;rintro _ _ ⟨g7,rfl,rfl⟩); (refine dB (Wt.none) rfl (dr 0) ?_;rintro _ _ ⟨rfl,rfl⟩);refine dG ?_;refine eu ?_;refine iK ?_;refine T.cond rfl (fun h2=>?_) (fun h2=>?_)
   ·have p2:=h2; (try simp only [cV] at p2);refine gy ?_;refine eu ?_; (refine cK (Wt.none) rfl rfl (cL rfl rfl rfl (fun w hw=>zde sp Y L c (cH (Y.ps i) k).b.toNat _ a5 a5 w (h.kept hw))) ?_;rintro _ _ ⟨rfl,rfl⟩);refine f9 ?_;refine eM ?_;refine dk rfl rfl rfl (fun h3=>?_) (fun h3=>?_)
    ·have p3:=h3; (try simp only [cV] at p3);refine q0P ?_;refine q1H ?_;refine q0P ?_;refine cY (Wt.some rfl rfl rfl h3) rfl rfl (j9 rfl rfl rfl a5) ?_;refine q1H ?_;refine q3r ?_;refine dd ?_;refine dk rfl rfl rfl (fun h4=>?_) (fun h4=>?_)
     ·have p4:=h4; (try simp only [cV] at p4);refine cY (Wt.some rfl rfl rfl h4) rfl rfl (dU) ?_;refine q0S ?_;refine cY (Wt.some rfl rfl rfl h4) rfl rfl (j9 rfl rfl rfl a5) ?_;refine q0S ?_;refine cY (Wt.some rfl rfl rfl h4) rfl rfl (dU) ?_;refine cI (ez rfl rfl h4) ?_;refine TL.ns ?_;refine T.cond rfl (fun h5=>?_) (fun h5=>?_)
      ·have p5:=h5; (try simp only [cV] at p5);refine gQ ?_;refine eu ?_;refine q2c ?_;refine cI (fW (a:=1#64) ((only L (cH (Y.ps i) k).b.toNat:Int) - (cH (Y.ps i) k).off).toNat rfl rfl rfl a5 a5) ?_;refine cI (fH) ?_;refine lA ?_;exact K.next (k+1) a5 a5 (by rw [iV _ _ a5,lD,if_pos p2,if_pos ⟨p3,p4,p5⟩];exact (by repeat (first|exact Sub.nil|refine Sub.cons rfl ?_))) Sx
      ·have p5:=h5; (try simp only [cV] at p5);refine gB ?_;exact K.next (k+1) a5 a5 (by rw [iV _ _ a5,lD,if_pos p2,if_neg (fun hh=>absurd hh.2.2 a5)];exact (by repeat (first|exact Sub.nil|refine Sub.cons rfl ?_))) Sx
     ·have p4:=h4; (try simp only [cV] at p4);refine q0l ?_;refine q0l ?_;refine TL.off (Wt.not rfl rfl rfl h4) rfl rfl ?_;refine cI (d9 rfl rfl h4) ?_;refine lH ?_;refine gB ?_;exact K.next (k+1) a5 a5 (by rw [iV _ _ a5,lD,if_pos p2,if_neg (fun hh=>absurd hh.2.1 a5)];exact (by repeat (first|exact Sub.nil|refine Sub.cons rfl ?_))) Sx
    ·have p3:=h3; (try simp only [cV] at p3);refine q0n ?_;refine q27 ?_;refine TL.run 9 rfl ?_;refine lH ?_;refine gB ?_;exact K.next (k+1) a5 a5 (by rw [iV _ _ a5,lD,if_pos p2,if_neg (fun hh=>hh.1 p3)];exact (by repeat (first|exact Sub.nil|refine Sub.cons rfl ?_))) Sx
   ·have p2:=h2; (try simp only [cV] at p2);refine gy ?_;refine eu ?_; (refine cK (Wt.none) rfl rfl (cL rfl rfl rfl (fun w hw=>zde sp Y L c (cH (Y.ps i) k).a.toNat _ a5 a5 w (h.kept hw))) ?_;rintro _ _ ⟨rfl,rfl⟩);refine f9 ?_;refine eu ?_;refine eM ?_;refine dk rfl rfl rfl (fun h6=>?_) (fun h6=>?_)
    ·have p6:=h6; (try simp only [cV] at p6);refine q1Z ?_;refine TL.ns ?_;refine T.cond rfl (fun h7=>?_) (fun h7=>?_)
     ·have p7:=h7; (try simp only [cV] at p7);refine gQ ?_;refine eu ?_;refine ly ?_;refine cI (fW (a:=1#64) ((only L (cH (Y.ps i) k).a.toNat:Int)+(cH (Y.ps i) k).off).toNat rfl rfl rfl a5 a5) ?_;refine cI (fH) ?_;refine lA ?_;exact K.next (k+1) a5 a5 (by rw [iV _ _ a5,lD,if_neg p2,if_pos ⟨p6,p7⟩];exact (by repeat (first|exact Sub.nil|refine Sub.cons rfl ?_))) Sx
     ·have p7:=h7; (try simp only [cV] at p7);refine gB ?_;exact K.next (k+1) a5 a5 (by rw [iV _ _ a5,lD,if_neg p2,if_neg (fun hh=>absurd hh.2 a5)];exact (by repeat (first|exact Sub.nil|refine Sub.cons rfl ?_))) Sx
    ·have p6:=h6; (try simp only [cV] at p6);refine q00 ?_;refine q00 ?_;refine cI (d9 rfl rfl h6) ?_;refine lH ?_;refine gB ?_;exact K.next (k+1) a5 a5 (by rw [iV _ _ a5,lD,if_neg p2,if_neg (fun hh=>absurd hh.1 a5)];exact (by repeat (first|exact Sub.nil|refine Sub.cons rfl ?_))) Sx
  ·have p1:=h1; (try simp only [cV] at p1);refine q0Y ?_;refine ji ?_;exact cU rfl rfl (fun w' hw=>⟨by rw [li,List.take_of_length_le a5],hw.isBelow⟩)
def lx (f:Nat→Int):List Value:=(List.range 52).map fun d=> .int .i64 (f d)
theorem zh7 (f:Nat→Int):(lx f).length=52:=by simp [lx]
theorem zfZ {f:Nat→Int}{d p:Nat}(hp:p=d)(hd:d<52):(lx f)[p]?=some (.int .i64 (f d)):=by subst hp;simp [lx,hd]
theorem zij {f f':Nat→Int}{d p:Nat}{v:Int}(hp:p=d)(hd:d<52)(h1:f' d=v)(h2:∀e,e≠d→f' e=f e):(lx f).set p (.int .i64 v)=lx f':=by
 subst hp h1;apply List.ext_getElem?;intro e;unfold lx;by_cases he:e=p
 ·subst he;rw [List.getElem?_set_self (by simpa using hd)];simp [hd]
 ·rw [List.getElem?_set_ne (fun h=>he h.symm)];simp only [List.getElem?_map,List.getElem?_range];by_cases h52:e<52
  ·simp [h52,h2 e he]
  ·simp [h52]
def jA (L:Ws)(f:Nat→Int)(x:Ld):Nat→Int:=fun d=>if x.lo≤(only L x.fr.toNat:Int)∧(only L x.fr.toNat:Int)≤x.hi∧only L x.fr.toNat=d then f d+x.wt else f d
def gK (L:Ws)(l:List Ld):Nat→Int:=l.foldl (jA L) (fun _=>0)
theorem zjP (L:Ws):∀(l:List Ld),(∀x∈l,1≤x.wt∧x.wt≤1073741824)→∀(f:Nat→Int) (b:Int),(∀d,0≤f d∧f d≤b)→∀d,0≤l.foldl (jA L) f d∧l.foldl (jA L) f d≤b+1073741824* (l.length:Int)
 | [],_,f,b,hf,d=>by simpa using hf d
 |x :: r,hx,f,b,hf,d=>by
  have h1:=hx x a7
  have:=zjP L r (fun y hy=>hx y (by simp [hy])) (jA L f x) (b+1073741824) (fun e=>by
   have:=hf e
   unfold jA;split <;> omega) d
  simp only [List.foldl_cons,List.length_cons];omega
def zhe (f:Nat→Int)(mx:Int)(g:BitVec 64)(d:Nat):BitVec 64:=if mx<f d then g ||| 1#64 <<< d else g
def zet (f:Nat→Int)(g:BitVec 64)(x:Cp):BitVec 64:=(List.range' x.lo.toNat (x.hi.toNat+1 - x.lo.toNat)).foldl (zhe f x.mx) g
def kj (Y:Tb)(L:Ws)(i:Nat):BitVec 64:=(Y.cs i).foldl (zet (gK L (Y.inn i))) 0#64
theorem zeK {L:Ws}{l:List Ld}{k:Nat}(h:k<l.length):gK L (l.take (k+1))=jA L (gK L (l.take k)) (cH l k):=iV _ _ h
theorem zmd {L:Ws}{l:List Ld}(hl:l.length≤1024)(hw:∀x∈l,1≤x.wt∧x.wt≤1073741824)(k d:Nat):0≤gK L (l.take k) d∧gK L (l.take k) d≤1099511627776:=by
 have:=zjP L (l.take k) (fun x hx=>hw x (List.mem_of_mem_take hx)) (fun _=>0) 0 (fun _=>⟨by simp,by simp⟩) d; (have hk:(l.take k).length≤1024:=by rw [List.length_take];omega);unfold gK;omega
def jx (L:Ws)(i d:Nat)(s:Int)(x:Ld):Int:=if (x.lo≤(d:Int)∧(d:Int)≤x.hi)∧(x.fr=(i:Int)∨only L x.fr.toNat=d) then s+x.wt else s
theorem zlL (L:Ws)(i d:Nat):∀(l:List Ld),(∀x∈l,1≤x.wt∧x.wt≤1073741824)→∀(s:Int),0≤s→0≤l.foldl (jx L i d) s∧l.foldl (jx L i d) s≤s+1073741824* (l.length:Int)
 | [],_,s,h=>by simp;exact h
 |x :: r,hx,s,h=>by
  have h1:=hx x a7; (have hs:0≤jx L i d s x∧jx L i d s x≤s+1073741824:=by unfold jx;split <;> omega);have:=zlL L i d r (fun y hy=>hx y (by simp [hy])) (jx L i d s x) hs.1;simp only [List.foldl_cons,List.length_cons];omega
def jn (L:Ws)(i d:Nat)(l:List Ld):Int:=l.foldl (jx L i d) 0
theorem znp {L:Ws}{l:List Ld}{i d:Nat}(hl:l.length≤1024)(hw:∀x∈l,1≤x.wt∧x.wt≤1073741824)(k:Nat):0≤jn L i d (l.take k)∧jn L i d (l.take k)≤1099511627776:=by
 have:=zlL L i d (l.take k) (fun x hx=>hw x (List.mem_of_mem_take hx)) 0 (Int.le_refl _); (have hk:(l.take k).length≤1024:=by rw [List.length_take];omega);unfold jn;omega
def zd2 (lost:Int)(d:Nat)(g:BitVec 64)(x:Cp):BitVec 64:=if (x.lo≤(d:Int)∧(d:Int)≤x.hi)∧x.mx<lost then g ||| 1#64 <<< d else g
def kE (Y:Tb)(L:Ws)(i:Nat)(g:BitVec 64)(x:Ld):BitVec 64:=
 if ((only L x.to.toNat:Int)<x.lo∨x.hi<(only L x.to.toNat:Int))∨g.getLsbD (only L x.to.toNat)=true then g
 else (Y.cs x.to.toNat).foldl (zd2 (jn L i (only L x.to.toNat) (Y.inn x.to.toNat)) (only L x.to.toNat)) g
def lz (Y:Tb)(L:Ws)(i:Nat):BitVec 64:=(Y.out i).foldl (kE Y L i) 0#64
theorem zjn (sp:Nat)(Y:Tb)(L:Ws)(c:Bool)(i:Nat)(z:Int)(hz:z=(i:Int))(hi:i<Y.n)(w:World)(h:StateAt w sp Y L c)(hok:Y.Ok):Calls Tryz.prog 154 #[.pointer (some ⟨sp,0,none⟩), .int .i64 z] w fun e w'=>e= .returned (U (kj Y L i))∧Below w.heap.size w w':=by
 subst hz;obtain ⟨tp,hsp0,hT⟩:=h.tb;obtain ⟨vL,hsp1,hL⟩:=h.left;obtain ⟨AL,gD,rfl,hLs⟩:=hL.op;have hLn:=h.len;obtain ⟨vC,hC0,hC⟩:=hT.cs.at';obtain ⟨AC,capC,rfl,hCs⟩:=hC.op;have hCn:=hT.cs.len;obtain ⟨gC,oC,rfl,hCc⟩:=hCs a5;rw [hCn] at hC0;have hCi:=hCc i (by rw [hCn];exact hi);obtain ⟨BC,cpC,hvC,hslC⟩:=(hT.cs.each i hi).op;simp only [hvC] at hCi;obtain ⟨vI,hI0,hI⟩:=hT.inn.at';obtain ⟨AI,capI,rfl,hIs⟩:=hI.op;have hIn:=hT.inn.len;obtain ⟨gI,oI,rfl,hIc⟩:=hIs a5;rw [hIn] at hI0;have hIi:=hIc i (by rw [hIn];exact hi);obtain ⟨BI,cpI,hvI,hslI⟩:=(hT.inn.each i hi).op;simp only [hvI] at hIi;obtain ⟨hlenC,hrngC⟩:=hok.cs i hi;obtain ⟨hlen,hrng⟩:=hok.inn i hi;have hn512:=hok.n; (have hwt:∀x∈Y.inn i,1≤x.wt∧x.wt≤1073741824:=fun x hx=>by have:=hrng x hx;omega);refine dq (M:=fun _=>False) (hs:=[]) Tryz.func154 rfl rfl rfl (Hp.refl _ _) ?_;refine q3d ?_;refine q3Y ?_;refine dP ?_;refine T.cond rfl (fun h1=>?_) (fun h1=>?_)
 ·have p1:=h1; (try simp only [cV] at p1);refine gF ?_;exact cU rfl rfl (fun w' hw=>⟨by rw [kj,List.eq_nil_of_length_eq_zero (show (Y.cs i).length=0 by omega)];rfl,hw.isBelow⟩)
 ·have p1:=h1; (try simp only [cV] at p1);refine gV ?_; (refine cK (Wt.none) rfl rfl (Ew.alloc) ?_;rintro _ _ ⟨g5,rfl,rfl⟩);refine TL.ns ?_;refine T.cut (gs:=[(0, .pointer (some ⟨sp,0,none⟩)),(1, .int .i64 (i:Int)),(5, .pointer (some ⟨g5,0,none⟩))]) (hs':=[.row g5 227 (lx (gK L (Y.inn i)))]) ?_ ?_
  ·skip;refine iA ?_;refine q1I ?_;refine cI (dI rfl rfl hI0 (fun h=>h)) ?_;refine kY ?_;refine cI (dY (j:=0) rfl rfl hIi rfl rfl (fun h=>h)) ?_;refine jj ?_;refine T.loop (ι:=Nat) (fun k=>[(0, .pointer (some ⟨sp,0,none⟩)),(1, .int .i64 (i:Int)),(5, .pointer (some ⟨g5,0,none⟩)),(34, .slice BI (Y.inn i).length cpI),(35, .int .i64 ((Y.inn i).length:Int)),(36, .int .i64 (k:Int))]) (fun k=>[.row g5 227 (lx (gK L ((Y.inn i).take k)))]) (fun k=>k≤(Y.inn i).length) (fun k=>(Y.inn i).length - k) 0 ?_ ?_ ?_ ?_
   ·omega
   ·exact (by repeat (first|exact Sub.nil|refine Sub.cons rfl ?_))
   ·exact Sx
   ·intro k hphi;refine ei ?_;refine T.cond rfl (fun h2=>?_) (fun h2=>?_)
    ·have p2:=h2; (try simp only [cV] at p2);obtain ⟨g,off,rfl,hc⟩:=hslI a5;have hk:=hc k a5;simp only [Ld.cells] at hk;have hr:=hrng _ (iD (xs:=Y.inn i) (k:=k) a5);have oa:=zgV L (cH (Y.inn i) k).fr.toNat;refine fq ?_;refine lc ?_; (refine cK (Wt.none) rfl rfl (Ew.alloc) ?_;rintro _ _ ⟨g7,rfl,rfl⟩); (refine dB (Wt.none) rfl (dr 0) ?_;rintro _ _ ⟨rfl,rfl⟩);refine lm ?_;refine eu ?_; (refine cK (Wt.none) rfl rfl (cL rfl rfl rfl (fun w hw=>zde sp Y L c (cH (Y.inn i) k).fr.toNat _ a5 a5 w (h.kept hw))) ?_;rintro _ _ ⟨rfl,rfl⟩);refine f9 ?_;refine eu ?_;refine eM ?_;refine dk rfl rfl rfl (fun h3=>?_) (fun h3=>?_)
     ·have p3:=h3; (try simp only [cV] at p3);refine q1H ?_;refine q0P ?_;refine q1H ?_;refine q3r ?_;refine TL.ns ?_;refine T.cond rfl (fun h4=>?_) (fun h4=>?_)
      ·have p4:=h4; (try simp only [cV] at p4);have hld:=zfZ (f:=gK L ((Y.inn i).take k)) (d:=only L (cH (Y.inn i) k).fr.toNat) (p:=0+only L (cH (Y.inn i) k).fr.toNat*1) a5 a5;have hbd:=zmd (L:=L) hlen hwt k (only L (cH (Y.inn i) k).fr.toNat);refine dT (sN 0 2 (sN 3 2 (.eff 2 (sN 5 2 (.eff 7 .done))))) (List.eraseIdx _ 1) a8 (List.eraseIdx_sublist _ _) ?_;refine gR ?_;refine cR rfl (dX rfl rfl rfl rfl a5) ?_;refine fY ?_;refine dF ?_;refine ep rfl (Wt.none) rfl rfl (cS 1 rfl rfl rfl hld) Sx ?_;refine cR rfl (kJ rfl rfl rfl a5) ?_;refine cR rfl (dX rfl rfl rfl rfl a5) ?_;refine dF ?_; (refine dx rfl (Wt.none) rfl (gJ 1 (lx (gK L ((Y.inn i).take (k+1)))) rfl rfl rfl rfl (by rw [zh7];omega) (zij (d:=only L (cH (Y.inn i) k).fr.toNat) a5 a5 (by rw [zeK a5,jA,if_pos ⟨by omega,by omega,rfl⟩]) (fun e he=>by rw [zeK a5,jA,if_neg (fun hh=>he hh.2.2.symm)]))) ?_;rintro _ _ ⟨rfl,rfl⟩;refine ⟨Sx,?_⟩);refine q1s ?_;exact K.next (k+1) a5 a5 (by repeat (first|exact Sub.nil|refine Sub.cons rfl ?_)) Sx
      ·have p4:=h4; (try simp only [cV] at p4);refine gB ?_;exact K.next (k+1) a5 a5 (by repeat (first|exact Sub.nil|refine Sub.cons rfl ?_)) (by rw [zeK a5,show jA L (gK L ((Y.inn i).take k)) (cH (Y.inn i) k)=gK L ((Y.inn i).take k) from funext fun d=>by unfold jA;exact if_neg (fun hh=>absurd hh.2.1 a5)];exact Sx)
     ·have p3:=h3; (try simp only [cV] at p3);refine q27 ?_;refine lH ?_;refine gB ?_;exact K.next (k+1) a5 a5 (by repeat (first|exact Sub.nil|refine Sub.cons rfl ?_)) (by rw [zeK a5,show jA L (gK L ((Y.inn i).take k)) (cH (Y.inn i) k)=gK L ((Y.inn i).take k) from funext fun d=>by unfold jA;exact if_neg (fun hh=>absurd hh.1 a5)];exact Sx)
    ·have p2:=h2; (try simp only [cV] at p2);refine ff ?_;exact K.at (by repeat (first|exact Sub.nil|refine Sub.cons rfl ?_)) (by rw [show (Y.inn i).take k=Y.inn i from List.take_of_length_le a5];exact Sx)
  ·skip;refine q3d ?_;refine jj ?_;refine T.loop (ι:=Nat) (fun k=>[(0, .pointer (some ⟨sp,0,none⟩)),(1, .int .i64 (i:Int)),(5, .pointer (some ⟨g5,0,none⟩)),(9,U (((Y.cs i).take k).foldl (zet (gK L (Y.inn i))) 0#64)),(71, .slice BC (Y.cs i).length cpC),(72, .int .i64 ((Y.cs i).length:Int)),(73, .int .i64 (k:Int))]) (fun k=>[.row g5 227 (lx (gK L (Y.inn i)))]) (fun k=>k≤(Y.cs i).length) (fun k=>(Y.cs i).length - k) 0 ?_ ?_ ?_ ?_
   ·omega
   ·exact (by repeat (first|exact Sub.nil|refine Sub.cons rfl ?_))
   ·exact Sx
   ·intro k hphi;refine ei ?_;refine T.cond rfl (fun h5=>?_) (fun h5=>?_)
    ·have p5:=h5; (try simp only [cV] at p5);obtain ⟨g,off,rfl,hc⟩:=hslC a5;have hk:=hc k a5;simp only [Cp.cells] at hk;have hr:=hrngC _ (iD (xs:=Y.cs i) (k:=k) a5);refine kl ?_;refine T.cut (gs:=[(0, .pointer (some ⟨sp,0,none⟩)),(1, .int .i64 (i:Int)),(5, .pointer (some ⟨g5,0,none⟩)),(9,U (((Y.cs i).take (k+1)).foldl (zet (gK L (Y.inn i))) 0#64)),(71, .slice (some ⟨g,off,none⟩) (Y.cs i).length cpC),(72, .int .i64 ((Y.cs i).length:Int)),(73, .int .i64 (k:Int))]) (hs':=[.row g5 227 (lx (gK L (Y.inn i)))]) ?_ ?_
     ·skip;refine T.block (de ?_);refine lc ?_; (refine cK (Wt.none) rfl rfl (Ew.alloc) ?_;rintro _ _ ⟨g11,rfl,rfl⟩); (refine dB (Wt.none) rfl (dr 0) ?_;rintro _ _ ⟨rfl,rfl⟩);refine dG ?_;refine eu ?_;refine dd ?_;refine TL.ns (T.block ?_);refine T.loop (ι:=Nat) (fun j=>[(0, .pointer (some ⟨sp,0,none⟩)),(1, .int .i64 (i:Int)),(5, .pointer (some ⟨g5,0,none⟩)),(9,U ((List.range' (cH (Y.cs i) k).lo.toNat j).foldl (zhe (gK L (Y.inn i)) (cH (Y.cs i) k).mx) (((Y.cs i).take k).foldl (zet (gK L (Y.inn i))) 0#64))),(11, .pointer (some ⟨g11,0,none⟩)),(12, .int .i64 ((cH (Y.cs i) k).lo+(j:Int))),(71, .slice (some ⟨g,off,none⟩) (Y.cs i).length cpC),(72, .int .i64 ((Y.cs i).length:Int)),(73, .int .i64 (k:Int))]) (fun j=>[.row g11 104 [.int .i64 (cH (Y.cs i) k).st, .int .i64 (cH (Y.cs i) k).mx, .int .i64 (cH (Y.cs i) k).lo, .int .i64 (cH (Y.cs i) k).hi], .row g5 227 (lx (gK L (Y.inn i)))]) (fun j=>(cH (Y.cs i) k).lo+(j:Int)≤(cH (Y.cs i) k).hi+1) (fun j=>((cH (Y.cs i) k).hi+1 - (cH (Y.cs i) k).lo).toNat - j) 0 ?_ ?_ ?_ ?_
      ·omega
      ·exact (by repeat (first|exact Sub.nil|refine Sub.cons rfl ?_|(refine eH rfl a5 ?_)))
      ·exact Sx
      ·intro j hphi;refine iJ ?_;refine dd ?_;refine eu ?_;refine dP ?_;refine T.cond rfl (fun h6=>?_) (fun h6=>?_)
       ·have p6:=h6; (try simp only [cV] at p6);have hld:=zfZ (f:=gK L (Y.inn i)) (d:=(cH (Y.cs i) k).lo.toNat+j) (p:=0+((cH (Y.cs i) k).lo.toNat+j) *1) a5 a5;refine q1S ?_;refine dT (sN 0 5 (.still 5 .done)) _ a8 (List.Sublist.refl _) ?_;refine gR ?_;refine cR rfl (dX rfl rfl rfl (show (_:Int)=(((cH (Y.cs i) k).lo.toNat+j:Nat):Int) from by omega) a5) ?_;refine cR rfl (cS 1 rfl rfl rfl hld) ?_;refine fY ?_;refine ky ?_;refine T.cond rfl (fun h7=>?_) (fun h7=>?_)
        ·have p7:=h7; (try simp only [cV] at p7);refine gQ ?_;refine cI (fW (a:=1#64) ((cH (Y.cs i) k).lo.toNat+j) rfl rfl rfl a5 a5) ?_;refine cI (fH) ?_;refine dd ?_;refine q3K ?_;refine jS ?_;exact K.next (j+1) a5 a5 (by rw [List.range'_1_concat,List.foldl_append];simp only [List.foldl_cons,List.foldl_nil];rw [zhe,if_pos a5];repeat (first|exact Sub.nil|refine Sub.cons rfl ?_|(refine eH rfl a5 ?_))) Sx
        ·have p7:=h7; (try simp only [cV] at p7);refine q1m ?_;exact K.next (j+1) a5 a5 (by rw [List.range'_1_concat,List.foldl_append];simp only [List.foldl_cons,List.foldl_nil];rw [zhe,if_neg a5];repeat (first|exact Sub.nil|refine Sub.cons rfl ?_|(refine eH rfl a5 ?_))) Sx
       ·have p6:=h6; (try simp only [cV] at p6);refine T.exit (fg (fg (it (fh ?_))));exact K.at (by rw [iV _ _ a5,zet,show (cH (Y.cs i) k).hi.toNat+1 - (cH (Y.cs i) k).lo.toNat=j by omega];exact (by repeat (first|exact Sub.nil|refine Sub.cons rfl ?_))) Sx
     ·skip;refine ed ?_;refine jS ?_;exact K.next (k+1) a5 a5 (by repeat (first|exact Sub.nil|refine Sub.cons rfl ?_)) Sx
    ·have p5:=h5; (try simp only [cV] at p5);refine q0Y ?_;refine ji ?_;exact cU rfl rfl (fun w' hw=>⟨by rw [kj,List.take_of_length_le a5],hw.isBelow⟩)
theorem zeO {L:Ws}{i d:Nat}{l:List Ld}{k:Nat}(h:k<l.length):jn L i d (l.take (k+1))=jx L i d (jn L i d (l.take k)) (cH l k):=iV _ _ h
theorem ziu (sp:Nat)(Y:Tb)(L:Ws)(c:Bool)(i:Nat)(z:Int)(hz:z=(i:Int))(hi:i<Y.n)(w:World)(h:StateAt w sp Y L c)(hok:Y.Ok):Calls Tryz.prog 155 #[.pointer (some ⟨sp,0,none⟩), .int .i64 z] w fun e w'=>e= .returned (U (lz Y L i))∧Below w.heap.size w w':=by
 subst hz;obtain ⟨tp,hsp0,hT⟩:=h.tb;obtain ⟨vL,hsp1,hL⟩:=h.left;obtain ⟨AL,gD,rfl,hLs⟩:=hL.op;have hLn:=h.len;obtain ⟨vO,hO0,hO⟩:=hT.out.at';obtain ⟨AO,capO,rfl,hOs⟩:=hO.op;have hOn:=hT.out.len;obtain ⟨gO,oO,rfl,hOc⟩:=hOs a5;rw [hOn] at hO0;have hOi:=hOc i (by rw [hOn];exact hi);obtain ⟨BO,cpO,hvO,hslO⟩:=(hT.out.each i hi).op;simp only [hvO] at hOi;obtain ⟨vI,hI0,hI⟩:=hT.inn.at';obtain ⟨AI,capI,rfl,hIs⟩:=hI.op;have hIn:=hT.inn.len;obtain ⟨gI,oI,rfl,hIc⟩:=hIs a5;rw [hIn] at hI0;obtain ⟨vC,hC0,hC⟩:=hT.cs.at';obtain ⟨AC,capC,rfl,hCs⟩:=hC.op;have hCn:=hT.cs.len;obtain ⟨gC,oC,rfl,hCc⟩:=hCs a5;rw [hCn] at hC0;obtain ⟨hlen,hrng⟩:=hok.out i hi;have hn512:=hok.n;refine dq (M:=fun _=>False) (hs:=[]) Tryz.func155 rfl rfl rfl (Hp.refl _ _) ?_;refine lr ?_;refine jd ?_;refine d5 ?_;refine q1I ?_;refine cI (dI rfl rfl hO0 (fun h=>h)) ?_;refine kY ?_;refine cI (dY (j:=0) rfl rfl hOi rfl rfl (fun h=>h)) ?_;refine jj ?_;refine T.loop (ι:=Nat) (fun k=>[(0, .pointer (some ⟨sp,0,none⟩)),(1, .int .i64 (i:Int)),(23, .slice BO (Y.out i).length cpO),(24, .int .i64 ((Y.out i).length:Int)),(25, .int .i64 (k:Int)),(5,U (((Y.out i).take k).foldl (kE Y L i) 0#64))]) (fun k=>[]) (fun k=>k≤(Y.out i).length) (fun k=>(Y.out i).length - k) 0 ?_ ?_ ?_ ?_
 ·omega
 ·exact (by repeat (first|exact Sub.nil|refine Sub.cons rfl ?_))
 ·exact Sx
 ·intro k hphi;refine ei ?_;refine T.cond rfl (fun h1=>?_) (fun h1=>?_)
  ·have p1:=h1; (try simp only [cV] at p1);obtain ⟨g,off,rfl,hc⟩:=hslO a5;have hk:=hc k a5;simp only [Ld.cells] at hk;have hr:=hrng _ (iD (xs:=Y.out i) (k:=k) a5);have oa:=zgV L (cH (Y.out i) k).to.toNat; (have htn:(cH (Y.out i) k).to.toNat<Y.n:=by omega);obtain ⟨hlenI,hrngI⟩:=hok.inn _ htn;obtain ⟨hlenC,hrngC⟩:=hok.cs _ htn; (have hwt:∀x∈Y.inn (cH (Y.out i) k).to.toNat,1≤x.wt∧x.wt≤1073741824:=fun x hx=>by have:=hrngI x hx;omega);have hIi:=hIc (cH (Y.out i) k).to.toNat (by rw [hIn];exact htn);obtain ⟨BI,cpI,hvI,hslI⟩:=(hT.inn.each (cH (Y.out i) k).to.toNat htn).op;simp only [hvI] at hIi;have hCi:=hCc (cH (Y.out i) k).to.toNat (by rw [hCn];exact htn);obtain ⟨BC,cpC,hvC,hslC⟩:=(hT.cs.each (cH (Y.out i) k).to.toNat htn).op;simp only [hvC] at hCi;refine kl ?_;refine T.cut (gs:=[(0, .pointer (some ⟨sp,0,none⟩)),(1, .int .i64 (i:Int)),(23, .slice (some ⟨g,off,none⟩) (Y.out i).length cpO),(24, .int .i64 ((Y.out i).length:Int)),(25, .int .i64 (k:Int)),(5,U (((Y.out i).take (k+1)).foldl (kE Y L i) 0#64))]) (hs':=[]) ?_ ?_
   ·skip;refine T.block (de ?_);refine lc ?_; (refine cK (Wt.none) rfl rfl (Ew.alloc) ?_;rintro _ _ ⟨g7,rfl,rfl⟩); (refine dB (Wt.none) rfl (dr 0) ?_;rintro _ _ ⟨rfl,rfl⟩);refine lm ?_;refine eu ?_; (refine cK (Wt.none) rfl rfl (cL rfl rfl rfl (fun w hw=>zde sp Y L c ((cH (Y.out i) k).to.toNat) _ a5 a5 w (h.kept hw))) ?_;rintro _ _ ⟨rfl,rfl⟩);refine kL ?_;refine eu ?_;refine d5 ?_;refine dk rfl rfl rfl (fun h2=>?_) (fun h2=>?_)
    ·have p2:=h2; (try simp only [cV] at p2);refine q0i ?_;refine TL.off (Wt.not rfl rfl rfl h2) rfl rfl ?_;refine q2s ?_;refine TL.run 7 rfl ?_;refine lE ?_;refine T.exit (fg (it ?_)); (refine K.at ?_ Sx;rw [iV _ _ a5,kE,if_pos (.inl a5)];exact (by repeat (first|exact Sub.nil|refine Sub.cons rfl ?_)))
    ·have p2:=h2; (try simp only [cV] at p2);refine lB ?_;refine mb ?_;refine lB ?_;refine q3V ?_;refine dd ?_;refine dk rfl rfl rfl (fun h3=>?_) (fun h3=>?_)
     ·have p3:=h3; (try simp only [cV] at p3);refine q0n ?_;refine TL.off (Wt.not rfl rfl rfl h3) rfl rfl ?_;refine TL.off (Wt.not rfl rfl rfl h3) rfl rfl ?_;refine q3r ?_;refine lE ?_;refine T.exit (fg (it ?_)); (refine K.at ?_ Sx;rw [iV _ _ a5,kE,if_pos (.inl a5)];exact (by repeat (first|exact Sub.nil|refine Sub.cons rfl ?_)))
     ·have p3:=h3; (try simp only [cV] at p3);refine q1H ?_;refine q1H ?_;refine cY (Wt.some rfl rfl rfl h3) rfl rfl (fD (only L (cH (Y.out i) k).to.toNat) rfl rfl rfl rfl a5) ?_;refine cY (Wt.some rfl rfl rfl h3) rfl rfl (fL (b:=1#64)) ?_;refine q1H ?_;refine cI (d9 rfl rfl h3) ?_;refine TL.ns ?_;refine T.cond rfl (fun h4=>?_) (fun h4=>?_)
      ·have p4:=h4; (try simp only [cV] at p4); (have hbit:((((Y.out i).take k).foldl (kE Y L i) 0#64)).getLsbD (only L (cH (Y.out i) k).to.toNat)=true:=by rw [←zhJ];exact decide_eq_true b6);refine T.exit (fg (it ?_)); (have hb:=hbit;refine K.at ?_ Sx;rw [iV _ _ a5,kE,if_pos (.inr hb)];exact (by repeat (first|exact Sub.nil|refine Sub.cons rfl ?_)))
      ·have p4:=h4; (try simp only [cV] at p4); (have hno:¬(((only L (cH (Y.out i) k).to.toNat:Int)<(cH (Y.out i) k).lo∨(cH (Y.out i) k).hi<(only L (cH (Y.out i) k).to.toNat:Int))∨((((Y.out i).take k).foldl (kE Y L i) 0#64)).getLsbD (only L (cH (Y.out i) k).to.toNat)=true):=by rintro ((hh|hh)|hh);omega;omega;rw [←zhJ] at hh;exact absurd (of_decide_eq_true hh) b6);refine gV ?_;refine dP ?_;refine T.cut (gs:=[(0, .pointer (some ⟨sp,0,none⟩)),(1, .int .i64 (i:Int)),(23, .slice (some ⟨g,off,none⟩) (Y.out i).length cpO),(24, .int .i64 ((Y.out i).length:Int)),(25, .int .i64 (k:Int)),(7, .pointer (some ⟨g7,0,none⟩)),(8, .int .i64 (only L (cH (Y.out i) k).to.toNat:Int)),(5,U (((Y.out i).take k).foldl (kE Y L i) 0#64)),(9, .int .i64 (jn L i (only L (cH (Y.out i) k).to.toNat) (Y.inn (cH (Y.out i) k).to.toNat)))]) (hs':=[.row g7 102 [.int .i64 (cH (Y.out i) k).to, .int .i64 (cH (Y.out i) k).fr, .int .i64 (cH (Y.out i) k).wt, .int .i64 (cH (Y.out i) k).lo, .int .i64 (cH (Y.out i) k).hi]]) ?_ ?_
       ·skip;refine T.seq ?_;refine q1a ?_;refine i1 ?_;refine cR rfl (dI rfl rfl hsp0 (fun h=>h)) ?_;refine q3O ?_;refine cR rfl (dI rfl rfl hI0 (fun h=>h)) ?_;refine q19 ?_;refine cR rfl (dY (j:=0) rfl rfl hIi rfl rfl (fun h=>h)) ?_;refine q3T ?_;refine T.loop (ι:=Nat) (fun j=>[(0, .pointer (some ⟨sp,0,none⟩)),(1, .int .i64 (i:Int)),(23, .slice (some ⟨g,off,none⟩) (Y.out i).length cpO),(24, .int .i64 ((Y.out i).length:Int)),(25, .int .i64 (k:Int)),(7, .pointer (some ⟨g7,0,none⟩)),(8, .int .i64 (only L (cH (Y.out i) k).to.toNat:Int)),(5,U (((Y.out i).take k).foldl (kE Y L i) 0#64)),(9, .int .i64 (jn L i (only L (cH (Y.out i) k).to.toNat) ((Y.inn (cH (Y.out i) k).to.toNat).take j))),(60, .slice BI (Y.inn (cH (Y.out i) k).to.toNat).length cpI),(61, .int .i64 ((Y.inn (cH (Y.out i) k).to.toNat).length:Int)),(62, .int .i64 (j:Int))]) (fun j=>[.row g7 102 [.int .i64 (cH (Y.out i) k).to, .int .i64 (cH (Y.out i) k).fr, .int .i64 (cH (Y.out i) k).wt, .int .i64 (cH (Y.out i) k).lo, .int .i64 (cH (Y.out i) k).hi]]) (fun j=>j≤(Y.inn (cH (Y.out i) k).to.toNat).length) (fun j=>(Y.inn (cH (Y.out i) k).to.toNat).length - j) 0 ?_ ?_ ?_ ?_
        ·omega
        ·exact (by repeat (first|exact Sub.nil|refine Sub.cons rfl ?_))
        ·exact Sx
        ·intro j hphi;refine ei ?_;refine T.cond rfl (fun h5=>?_) (fun h5=>?_)
         ·have p5:=h5; (try simp only [cV] at p5);obtain ⟨gi,offi,rfl,hci⟩:=hslI a5;have hj:=hci j a5;simp only [Ld.cells] at hj;have hri:=hrngI _ (iD (xs:=Y.inn (cH (Y.out i) k).to.toNat) (k:=j) a5);have hbd:=znp (L:=L) (i:=i) (d:=only L (cH (Y.out i) k).to.toNat) hlenI hwt j;refine fq ?_;refine q0v ?_;refine cI (gH rfl rfl hj rfl (fun h=>h)) ?_; (refine cK (Wt.none) rfl rfl (Ew.alloc) ?_;rintro _ _ ⟨g11,rfl,rfl⟩); (refine dB (Wt.none) rfl (dr 0) ?_;rintro _ _ ⟨rfl,rfl⟩);refine dG ?_;refine eu ?_;refine eM ?_;refine dk rfl rfl rfl (fun h6=>?_) (fun h6=>?_)
          ·have p6:=h6; (try simp only [cV] at p6);refine q1Z ?_;refine dd ?_;refine dk rfl rfl rfl (fun h7=>?_) (fun h7=>?_)
           ·have p7:=h7; (try simp only [cV] at p7);refine q3D ?_;refine cY (Wt.some rfl rfl rfl h7) rfl rfl (dU) ?_;refine cY (Wt.some rfl rfl rfl h7) rfl rfl (dU) ?_;refine cY (Wt.some rfl rfl rfl h7) rfl rfl (dU) ?_;refine dk rfl rfl rfl (fun h8=>?_) (fun h8=>?_)
            ·have p8:=h8; (try simp only [cV] at p8);refine q1g ?_;refine q1g ?_;refine cY (Wt.some rfl rfl rfl h7) rfl rfl (ez rfl rfl h8) ?_;refine cI (ez rfl rfl h7) ?_;refine lE ?_;refine fo ?_;refine eu ?_;refine ly ?_;refine lA ?_;exact K.next (j+1) a5 a5 (by rw [zeO a5,jx];split <;> first|(exfalso;omega)|exact (by repeat (first|exact Sub.nil|refine Sub.cons rfl ?_))) Sx
            ·have p8:=h8; (try simp only [cV] at p8);refine cY (Wt.some rfl rfl rfl h8) rfl rfl (dU) ?_;refine q3F ?_; (refine cK (Wt.some rfl rfl rfl h8) rfl rfl (cL rfl rfl rfl (fun w hw=>zde sp Y L c (cH (Y.inn (cH (Y.out i) k).to.toNat) j).fr.toNat _ a5 a5 w (h.kept hw))) ?_;rintro _ _ ⟨rfl,rfl⟩);refine cY (Wt.some rfl rfl rfl h8) rfl rfl (dU) ?_;refine cY (Wt.some rfl rfl rfl h8) rfl rfl (dU) ?_;refine cY (Wt.some rfl rfl rfl h7) rfl rfl (d9 rfl rfl h8) ?_;refine cI (ez rfl rfl h7) ?_;refine TL.ns ?_;refine T.cond rfl (fun h9=>?_) (fun h9=>?_)
             ·have p9:=h9; (try simp only [cV] at p9);refine fo ?_;refine eu ?_;refine ly ?_;refine lA ?_;exact K.next (j+1) a5 a5 (by rw [zeO a5,jx];split <;> first|(exfalso;omega)|exact (by repeat (first|exact Sub.nil|refine Sub.cons rfl ?_))) Sx
             ·have p9:=h9; (try simp only [cV] at p9);refine gB ?_;exact K.next (j+1) a5 a5 (by rw [zeO a5,jx];split <;> first|(exfalso;omega)|exact (by repeat (first|exact Sub.nil|refine Sub.cons rfl ?_))) Sx
           ·have p7:=h7; (try simp only [cV] at p7);refine q1B ?_;refine q1B ?_;refine TL.off (Wt.not rfl rfl rfl h7) rfl rfl ?_;refine q0J ?_;refine q0J ?_;refine TL.off (Wt.not rfl rfl rfl h7) rfl rfl ?_;refine cI (d9 rfl rfl h7) ?_;refine lH ?_;refine gB ?_;exact K.next (j+1) a5 a5 (by rw [zeO a5,jx];split <;> first|(exfalso;omega)|exact (by repeat (first|exact Sub.nil|refine Sub.cons rfl ?_))) Sx
          ·have p6:=h6; (try simp only [cV] at p6);refine q00 ?_;refine q00 ?_;refine cI (d9 rfl rfl h6) ?_;refine TL.run 6 rfl ?_;refine q0J ?_;refine q0J ?_;refine iK ?_;refine ii rfl rfl ?_;refine gB ?_;exact K.next (j+1) a5 a5 (by rw [zeO a5,jx];split <;> first|(exfalso;omega)|exact (by repeat (first|exact Sub.nil|refine Sub.cons rfl ?_))) Sx
         ·have p5:=h5; (try simp only [cV] at p5);refine ff ?_;exact K.at (by rw [show (Y.inn (cH (Y.out i) k).to.toNat).take j=Y.inn (cH (Y.out i) k).to.toNat from List.take_of_length_le a5] at *;exact (by repeat (first|exact Sub.nil|refine Sub.cons rfl ?_))) Sx
       ·skip;refine T.seq ?_;refine q1a ?_;refine i1 ?_;refine cR rfl (dI rfl rfl hsp0 (fun h=>h)) ?_;refine q3O ?_;refine cR rfl (dI rfl rfl hC0 (fun h=>h)) ?_;refine q19 ?_;refine cR rfl (dY (j:=0) rfl rfl hCi rfl rfl (fun h=>h)) ?_;refine q3T ?_;refine T.loop (ι:=Nat) (fun j=>[(0, .pointer (some ⟨sp,0,none⟩)),(1, .int .i64 (i:Int)),(23, .slice (some ⟨g,off,none⟩) (Y.out i).length cpO),(24, .int .i64 ((Y.out i).length:Int)),(25, .int .i64 (k:Int)),(7, .pointer (some ⟨g7,0,none⟩)),(8, .int .i64 (only L (cH (Y.out i) k).to.toNat:Int)),(9, .int .i64 (jn L i (only L (cH (Y.out i) k).to.toNat) (Y.inn (cH (Y.out i) k).to.toNat))),(5,U (((Y.cs (cH (Y.out i) k).to.toNat).take j).foldl (zd2 (jn L i (only L (cH (Y.out i) k).to.toNat) (Y.inn (cH (Y.out i) k).to.toNat)) (only L (cH (Y.out i) k).to.toNat)) (((Y.out i).take k).foldl (kE Y L i) 0#64))),(105, .slice BC (Y.cs (cH (Y.out i) k).to.toNat).length cpC),(106, .int .i64 ((Y.cs (cH (Y.out i) k).to.toNat).length:Int)),(107, .int .i64 (j:Int))]) (fun j=>[.row g7 102 [.int .i64 (cH (Y.out i) k).to, .int .i64 (cH (Y.out i) k).fr, .int .i64 (cH (Y.out i) k).wt, .int .i64 (cH (Y.out i) k).lo, .int .i64 (cH (Y.out i) k).hi]]) (fun j=>j≤(Y.cs (cH (Y.out i) k).to.toNat).length) (fun j=>(Y.cs (cH (Y.out i) k).to.toNat).length - j) 0 ?_ ?_ ?_ ?_
        ·omega
        ·exact (by repeat (first|exact Sub.nil|refine Sub.cons rfl ?_))
        ·exact Sx
        ·intro j hphi;refine ei ?_;refine T.cond rfl (fun h10=>?_) (fun h10=>?_)
         ·have p10:=h10; (try simp only [cV] at p10);obtain ⟨gc,offc,rfl,hcc⟩:=hslC a5;have hj:=hcc j a5;simp only [Cp.cells] at hj;refine fq ?_;refine q0v ?_;refine cI (gH rfl rfl hj rfl (fun h=>h)) ?_; (refine cK (Wt.none) rfl rfl (Ew.alloc) ?_;rintro _ _ ⟨g13,rfl,rfl⟩); (refine dB (Wt.none) rfl (dr 0) ?_;rintro _ _ ⟨rfl,rfl⟩);refine dG ?_;refine eu ?_;refine eM ?_;refine dk rfl rfl rfl (fun h11=>?_) (fun h11=>?_)
          ·have p11:=h11; (try simp only [cV] at p11);refine cY (Wt.some rfl rfl rfl h11) rfl rfl (dU) ?_;refine cY (Wt.some rfl rfl rfl h11) rfl rfl (Yv.fieldAddr) ?_;refine cY (Wt.some rfl rfl rfl h11) rfl rfl (cS 0) ?_;refine cY (Wt.some rfl rfl rfl h11) rfl rfl (dU) ?_;refine cI (ez rfl rfl h11) ?_;refine dd ?_;refine dk rfl rfl rfl (fun h12=>?_) (fun h12=>?_)
           ·have p12:=h12; (try simp only [cV] at p12);refine cY (Wt.some rfl rfl rfl h12) rfl rfl (dU) ?_;refine cY (Wt.some rfl rfl rfl h12) rfl rfl (Yv.fieldAddr) ?_;refine cY (Wt.some rfl rfl rfl h12) rfl rfl (cS 0) ?_;refine cY (Wt.some rfl rfl rfl h12) rfl rfl (dU) ?_;refine cI (ez rfl rfl h12) ?_;refine TL.ns ?_;refine T.cond rfl (fun h13=>?_) (fun h13=>?_)
            ·have p13:=h13; (try simp only [cV] at p13);refine gQ ?_;refine cI (fW (a:=1#64) (only L (cH (Y.out i) k).to.toNat) rfl rfl rfl rfl a5) ?_;refine cI (fH) ?_;refine lA ?_;exact K.next (j+1) a5 a5 (by rw [iV _ _ a5,zd2];split <;> first|(exfalso;omega)|exact (by repeat (first|exact Sub.nil|refine Sub.cons rfl ?_))) Sx
            ·have p13:=h13; (try simp only [cV] at p13);refine gB ?_;exact K.next (j+1) a5 a5 (by rw [iV _ _ a5,zd2];split <;> first|(exfalso;omega)|exact (by repeat (first|exact Sub.nil|refine Sub.cons rfl ?_))) Sx
           ·have p12:=h12; (try simp only [cV] at p12);refine q29 ?_;refine q29 ?_;refine cI (d9 rfl rfl h12) ?_;refine lH ?_;refine gB ?_;exact K.next (j+1) a5 a5 (by rw [iV _ _ a5,zd2];split <;> first|(exfalso;omega)|exact (by repeat (first|exact Sub.nil|refine Sub.cons rfl ?_))) Sx
          ·have p11:=h11; (try simp only [cV] at p11);refine q3a ?_;refine q3a ?_;refine cI (d9 rfl rfl h11) ?_;refine TL.run 6 rfl ?_;refine lH ?_;refine gB ?_;exact K.next (j+1) a5 a5 (by rw [iV _ _ a5,zd2];split <;> first|(exfalso;omega)|exact (by repeat (first|exact Sub.nil|refine Sub.cons rfl ?_))) Sx
         ·have p10:=h10; (try simp only [cV] at p10);refine T.exit (fg (fg (it (fh ?_)))); (have hn:=hno;have e:(Y.cs (cH (Y.out i) k).to.toNat).take j=Y.cs (cH (Y.out i) k).to.toNat:=List.take_of_length_le a5;refine K.at ?_ Sx;rw [iV _ _ a5,kE,if_neg hn,e];exact (by repeat (first|exact Sub.nil|refine Sub.cons rfl ?_)))
   ·skip;refine ed ?_;refine jS ?_;exact K.next (k+1) a5 a5 (by repeat (first|exact Sub.nil|refine Sub.cons rfl ?_)) Sx
  ·have p1:=h1; (try simp only [cV] at p1);refine q0Y ?_;refine ji ?_;exact cU rfl rfl (fun w' hw=>⟨by rw [lz,List.take_of_length_le a5],hw.isBelow⟩)
structure GL where
 b:Nat
 c:Nat
structure StF (w0 w:World) (sp:Nat) (gl:GL) (tp:Nat) (Y:Tb) (L:Ws) (c:Bool):Prop where
 tb:TablesAt w0 tp Y
 fr:Fz w0 w
 c0:w.cell? ⟨sp,0,none⟩=some (.pointer (some ⟨tp,0,none⟩))
 c1:w.cell? ⟨sp,1,none⟩=some (.slice (some ⟨gl.b,0,none⟩) L.length gl.c)
 lf:SlOf w (.slice (some ⟨gl.b,0,none⟩) L.length gl.c) Le 1 L
 len:L.length=Y.n
 c2:w.cell? ⟨sp,2,none⟩=some (.bool c)
 tab:Tab w
theorem StF.st {w0 w:World}{sp:Nat}{gl:GL}{tp:Nat}{Y:Tb}{L:Ws}{c:Bool}(h:StF w0 w sp gl tp Y L c):StateAt w sp Y L c:=
 ⟨h.tab,⟨tp,h.c0,h.tb.later h.fr⟩,⟨_,h.c1,h.lf⟩,h.len,h.c2⟩
theorem StF.kept {w0 w w':World}{M:Nat→Prop}{hs:HS}{sp:Nat}{gl:GL}{tp:Nat}{Y:Tb}{L:Ws}{c:Bool}(h:StF w0 w sp gl tp Y L c)(hw:Hp w M hs w')(h0:∀g,M g→¬i9 w0 g)(h1:¬M sp)(h2:¬M gl.b)(h3:¬M 0):StF w0 w' sp gl tp Y L c:=
 ⟨h.tb,Fz.hp h.fr hw h0,hw.cellB h.c0 h1,hw.cellB h.c1 h1,h.lf.keptM hw (fun g hg=>by simp [Value.ownBlock] at hg;subst hg;exact h2),h.len,hw.cellB h.c2 h1,h.tab.kept hw h3⟩
def jH (Y:Tb)(L:Ws)(i:Nat)(ws:Ws):Ws:=
 if (only L i:Int)=0 then ws else
  (Y.out i).foldl (fun s x=>if (only L x.to.toNat:Int)=0 then dR s x.to.toNat else (Y.inn x.to.toNat).foldl (fun s o=>dR s o.fr.toNat) (dR s x.to.toNat))
   ((Y.inn i).foldl (fun s x=>dR s x.fr.toNat) ((Y.ps i).foldl (fun s x=>dR s (x.a+x.b - (i:Int)).toNat) ws))
theorem zfx {α:Type}(f:Ws→α→Ws)(hf:∀s x,(f s x).length=s.length):∀(l:List α) (s:Ws),(l.foldl f s).length=s.length
 | [],_=>rfl
 |x :: r,s=>by rw [List.foldl_cons,zfx f hf r,hf]
theorem zc2 (l:List Ld)(s:Ws):(l.foldl (fun s x=>dR s x.fr.toNat) s).length=s.length:=zfx _ (fun _ _=>kz) l s
theorem zcR (i:Int)(l:List Pr)(s:Ws):(l.foldl (fun s x=>dR s (x.a+x.b - (i:Int)).toNat) s).length=s.length:=zfx _ (fun _ _=>kz) l s
def lg (Y:Tb)(L:Ws)(s:Ws)(x:Ld):Ws:=if (only L x.to.toNat:Int)=0 then dR s x.to.toNat else (Y.inn x.to.toNat).foldl (fun s o=>dR s o.fr.toNat) (dR s x.to.toNat)
theorem zf7 {Y:Tb}{L s:Ws}{x:Ld}:(lg Y L s x).length=s.length:=by
 unfold lg;split
 ·exact kz
 ·rw [zc2,kz]
theorem zeZ (Y:Tb)(L:Ws)(l:List Ld)(s:Ws):(l.foldl (lg Y L) s).length=s.length:=zfx _ (fun _ _=>zf7) l s
theorem ze6 (Y:Tb)(L:Ws)(i:Nat)(ws:Ws):(jH Y L i ws).length=ws.length:=by
 unfold jH;split
 ·rfl
 ·exact (zeZ Y L _ _).trans ((zc2 _ _).trans (zcR _ _ _))
theorem zeS (ws:Ws)(hws:ws.length=8)(j:Nat)(hj:j<512)(z:Int)(hz:z=(j:Int))(p q:Nat)(w:World)(hq:w.cell? ⟨q,0,none⟩=some (.pointer (some ⟨p,0,none⟩)))(hqp:q≠p)(hp:(Ent.row p 83 ws.cells).ok w):Calls Tryz.prog 167 #[.int .i64 z, .pointer (some ⟨q,0,none⟩)] w fun e w'=>∃y:Unit,True∧e= .returned (.tuple #[])∧Hp w (Ent.row p 83 ws.cells).fp [.row p 83 (Ws.cells (dR ws j))] w':=by
 subst hz;refine dq (M:=(Ent.row p 83 ws.cells).fp) (hs:=[Ent.row p 83 ws.cells]) Tryz.func167 rfl rfl rfl (Hp.start hp) ?_;refine dT (sN 0 3 (.still 4 (.eff 3 (.eff 5 (sN 6 4 (.eff 10 .done)))))) [] a8 Sx ?_;refine cR rfl (dI rfl rfl hq (fun hh=>hqp (cO.1 hh))) ?_;refine cR rfl (dI rfl rfl hq (fun hh=>hqp (cO.1 hh))) ?_;refine iQ ?_;refine dF ?_;refine ep rfl (Wt.none) rfl rfl (dJ 0 rfl rfl rfl (by rw [List.length_map,hws])) Sx ?_;refine dF ?_; (refine c6 rfl (Wt.none) rfl rfl (cL rfl rfl rfl (fun w hw=>zmv ws hws j hj w)) ?_;rintro _ _ ⟨rfl,rfl⟩;refine ⟨Sx,?_⟩);refine TS.run 4 rfl ?_;refine dF ?_; (refine dx rfl (Wt.none) rfl (dr 0 rfl rfl rfl rfl (by rw [List.length_map,kz,hws]) (by rw [List.length_map,List.length_map,kz])) ?_;rintro _ _ ⟨rfl,rfl⟩;refine ⟨Sx,?_⟩);refine TS.done ?_;exact eX rfl (fun w' hw=>⟨(),trivial,rfl,hw⟩)
theorem zhR (w0:World)(sp:Nat)(gl:GL)(tp p:Nat)(Y:Tb)(L:Ws)(c:Bool)(ws:Ws)(hws:ws.length=8)(i:Nat)(z:Int)(hz:z=(i:Int))(hi:i<Y.n)(w:World)(h:StF w0 w sp gl tp Y L c)(hok:Y.Ok)(hpN:¬i9 w0 p)(hp0:p≠0)(hsp:sp≠p)(hgl:gl.b≠p)(hp:(Ent.row p 83 ws.cells).ok w):Calls Tryz.prog 157 #[.pointer (some ⟨sp,0,none⟩), .int .i64 z, .pointer (some ⟨p,0,none⟩)] w fun e w'=>∃y:Unit,True∧e= .returned (.tuple #[])∧Hp w (Ent.row p 83 ws.cells).fp [.row p 83 (Ws.cells (jH Y L i ws))] w':=by
 subst hz;obtain ⟨hTb,hfr,hsp0,hsp1,hlf,hLn,hsp2,htab⟩:=id h;have hT:=hTb;have hn512:=hok.n;obtain ⟨hlenP,hrngP⟩:=hok.ps i hi;obtain ⟨hlenI,hrngI⟩:=hok.inn i hi;obtain ⟨hlenO,hrngO⟩:=hok.out i hi;obtain ⟨vP,hP0,hP⟩:=hT.ps.at';obtain ⟨AP,capP,rfl,hPs⟩:=hP.op;have hPn:=hT.ps.len;obtain ⟨gP,oP,rfl,hPc⟩:=hPs a5;rw [hPn] at hP0;have hPi:=hPc i (by rw [hPn];exact hi);obtain ⟨BP,cpP,hvP,hslP⟩:=(hT.ps.each i hi).op;simp only [hvP] at hPi;obtain ⟨vI,hI0,hI⟩:=hT.inn.at';obtain ⟨AI,capI,rfl,hIs⟩:=hI.op;have hIn:=hT.inn.len;obtain ⟨gI,oI,rfl,hIc⟩:=hIs a5;rw [hIn] at hI0;have hIi:=hIc i (by rw [hIn];exact hi);obtain ⟨BI,cpI,hvI,hslI⟩:=(hT.inn.each i hi).op;simp only [hvI] at hIi;obtain ⟨vO,hO0,hO⟩:=hT.out.at';obtain ⟨AO,capO,rfl,hOs⟩:=hO.op;have hOn:=hT.out.len;obtain ⟨gO,oO,rfl,hOc⟩:=hOs a5;rw [hOn] at hO0;have hOi:=hOc i (by rw [hOn];exact hi);obtain ⟨BO,cpO,hvO,hslO⟩:=(hT.out.each i hi).op;simp only [hvO] at hOi;have hkeep:∀hs w',Hp w (Ent.row p 83 ws.cells).fp hs w'→StateAt w' sp Y L c:=fun hs w' hw=>(h.kept hw (fun g hg=>by rw [cO.1 hg];exact hpN) (fun hg=>hsp (cO.1 hg)) (fun hg=>hgl (cO.1 hg)) (fun hg=>hp0 (cO.1 hg).symm)).st;refine dq (M:=(Ent.row p 83 ws.cells).fp) (hs:=[Ent.row p 83 ws.cells]) Tryz.func157 rfl rfl rfl (Hp.start hp) ?_;refine de ?_; (refine cK (Wt.none) rfl rfl (Ew.box) ?_;rintro _ _ ⟨g5,rfl,rfl⟩);refine gX ?_;refine d5 ?_; (refine cK (Wt.none) rfl rfl (cL rfl rfl rfl (fun w hw=>zde sp Y L c i _ rfl hi w (hkeep _ _ hw))) ?_;rintro _ _ ⟨rfl,rfl⟩);refine dP ?_;refine T.cond rfl (fun h1=>?_) (fun h1=>?_)
 ·have p1:=h1; (try simp only [cV] at p1);refine T.ret (cQ ?_);exact iY rfl (fun w' hw=>⟨(),trivial,rfl,by rw [jH,if_pos p1];exact hw.sub Sx⟩)
 ·have p1:=h1; (try simp only [cV] at p1);refine gV ?_;refine iK ?_;refine T.cut (gs:=[(0, .pointer (some ⟨sp,0,none⟩)),(1, .int .i64 (i:Int)),(6, .func (.func 167) #[] #[.pointer (some ⟨g5,0,none⟩)])]) (hs':=[.row g5 220 [.pointer (some ⟨p,0,none⟩)], .row p 83 (Ws.cells ((Y.ps i).foldl (fun s x=>dR s (x.a+x.b - (i:Int)).toNat) ws))]) ?_ ?_
  ·skip;refine q2o ?_;refine cI (dI rfl rfl (hfr.cell hP0) (fun hh=>hpN (by have:=zd7 hP0;rw [←cO.1 hh];exact this))) ?_;refine kY ?_;refine cI (dY (j:=0) rfl rfl (Fz.cs hfr hPi) rfl rfl (fun hh=>hpN (by have:=ir hPi a7;rw [←cO.1 hh];exact this))) ?_;refine jj ?_;refine T.loop (ι:=Nat) (fun k=>[(0, .pointer (some ⟨sp,0,none⟩)),(1, .int .i64 (i:Int)),(6, .func (.func 167) #[] #[.pointer (some ⟨g5,0,none⟩)]),(29, .slice BP (Y.ps i).length cpP),(30, .int .i64 ((Y.ps i).length:Int)),(31, .int .i64 (k:Int))]) (fun k=>[.row g5 220 [.pointer (some ⟨p,0,none⟩)], .row p 83 (Ws.cells (((Y.ps i).take k).foldl (fun s x=>dR s (x.a+x.b - (i:Int)).toNat) ws))]) (fun k=>k≤(Y.ps i).length) (fun k=>(Y.ps i).length - k) 0 ?_ ?_ ?_ ?_
   ·omega
   ·exact (by repeat (first|exact Sub.nil|refine Sub.cons rfl ?_))
   ·exact Sx
   ·intro k hphi;refine ei ?_;refine T.cond rfl (fun h2=>?_) (fun h2=>?_)
    ·have p2:=h2; (try simp only [cV] at p2);obtain ⟨ghk,offhk,rfl,hc⟩:=hslP a5;have hk:=hc k a5;simp only [Pr.cells] at hk;have hrhk:=hrngP _ (iD (xs:=Y.ps i) (k:=k) a5);refine fq ?_;refine q2b ?_; (refine cK (Wt.none) rfl rfl (Ew.alloc) ?_;rintro _ _ ⟨g8,rfl,rfl⟩); (refine dB (Wt.none) rfl (dr 0) ?_;rintro _ _ ⟨rfl,rfl⟩);refine TL.ns (T.region ?_);refine dd ?_;refine eu ?_;refine eu ?_;refine ly ?_;refine dd ?_;refine q2c ?_; (refine cK (Wt.none) rfl rfl (kQ 2 rfl rfl rfl rfl (fun w hw=>zeS (((Y.ps i).take k).foldl (fun s x=>dR s (x.a+x.b - (i:Int)).toNat) ws) (by rw [zcR,hws]) ((cH (Y.ps i) k).a+(cH (Y.ps i) k).b - (i:Int)).toNat a5 _ a5 p g5 w (ja (cW.1 (hw.get (i:=1) rfl)) 0) (fun hh=>hw.ne (i:=1) (j:=2) a5 rfl rfl (g:=g5) (cO.2 rfl) (cO.2 hh)) (hw.get (i:=2) rfl))) ?_;rintro _ _ ⟨-, -,rfl,rfl⟩);refine kC ?_;exact K.next (k+1) a5 a5 (by repeat (first|exact Sub.nil|refine Sub.cons rfl ?_)) (by rw [iV _ _ a5];exact Sx)
    ·have p2:=h2; (try simp only [cV] at p2);refine ff ?_;exact K.at (by repeat (first|exact Sub.nil|refine Sub.cons rfl ?_)) (by rw [show (Y.ps i).take k=Y.ps i from List.take_of_length_le a5];exact Sx)
  ·skip;refine T.cut (gs:=[(0, .pointer (some ⟨sp,0,none⟩)),(1, .int .i64 (i:Int)),(6, .func (.func 167) #[] #[.pointer (some ⟨g5,0,none⟩)])]) (hs':=[.row g5 220 [.pointer (some ⟨p,0,none⟩)], .row p 83 (Ws.cells ((Y.inn i).foldl (fun s x=>dR s x.fr.toNat) ((Y.ps i).foldl (fun s x=>dR s (x.a+x.b - (i:Int)).toNat) ws)))]) ?_ ?_
   ·skip;refine q2o ?_;refine cI (dI rfl rfl (hfr.cell hI0) (fun hh=>hpN (by have:=zd7 hI0;rw [←cO.1 hh];exact this))) ?_;refine kY ?_;refine cI (dY (j:=0) rfl rfl (Fz.cs hfr hIi) rfl rfl (fun hh=>hpN (by have:=ir hIi a7;rw [←cO.1 hh];exact this))) ?_;refine jj ?_;refine T.loop (ι:=Nat) (fun k=>[(0, .pointer (some ⟨sp,0,none⟩)),(1, .int .i64 (i:Int)),(6, .func (.func 167) #[] #[.pointer (some ⟨g5,0,none⟩)]),(54, .slice BI (Y.inn i).length cpI),(55, .int .i64 ((Y.inn i).length:Int)),(56, .int .i64 (k:Int))]) (fun k=>[.row g5 220 [.pointer (some ⟨p,0,none⟩)], .row p 83 (Ws.cells (((Y.inn i).take k).foldl (fun s x=>dR s x.fr.toNat) ((Y.ps i).foldl (fun s x=>dR s (x.a+x.b - (i:Int)).toNat) ws)))]) (fun k=>k≤(Y.inn i).length) (fun k=>(Y.inn i).length - k) 0 ?_ ?_ ?_ ?_
    ·omega
    ·exact (by repeat (first|exact Sub.nil|refine Sub.cons rfl ?_))
    ·exact Sx
    ·intro k hphi;refine ei ?_;refine T.cond rfl (fun h3=>?_) (fun h3=>?_)
     ·have p3:=h3; (try simp only [cV] at p3);obtain ⟨ghk,offhk,rfl,hc⟩:=hslI a5;have hk:=hc k a5;simp only [Ld.cells] at hk;have hrhk:=hrngI _ (iD (xs:=Y.inn i) (k:=k) a5);refine fq ?_;refine q2b ?_; (refine cK (Wt.none) rfl rfl (Ew.alloc) ?_;rintro _ _ ⟨g10,rfl,rfl⟩); (refine dB (Wt.none) rfl (dr 0) ?_;rintro _ _ ⟨rfl,rfl⟩);refine TL.ns (T.region ?_);refine dd ?_;refine eu ?_; (refine cK (Wt.none) rfl rfl (kQ 2 rfl rfl rfl rfl (fun w hw=>zeS (((Y.inn i).take k).foldl (fun s x=>dR s x.fr.toNat) ((Y.ps i).foldl (fun s x=>dR s (x.a+x.b - (i:Int)).toNat) ws)) (by rw [zc2,zcR,hws]) (cH (Y.inn i) k).fr.toNat a5 _ a5 p g5 w (ja (cW.1 (hw.get (i:=1) rfl)) 0) (fun hh=>hw.ne (i:=1) (j:=2) a5 rfl rfl (g:=g5) (cO.2 rfl) (cO.2 hh)) (hw.get (i:=2) rfl))) ?_;rintro _ _ ⟨-, -,rfl,rfl⟩);refine kC ?_;exact K.next (k+1) a5 a5 (by repeat (first|exact Sub.nil|refine Sub.cons rfl ?_)) (by rw [iV _ _ a5];exact Sx)
     ·have p3:=h3; (try simp only [cV] at p3);refine ff ?_;exact K.at (by repeat (first|exact Sub.nil|refine Sub.cons rfl ?_)) (by rw [show (Y.inn i).take k=Y.inn i from List.take_of_length_le a5];exact Sx)
   ·skip;refine q2o ?_;refine cI (dI rfl rfl (hfr.cell hO0) (fun hh=>hpN (by have:=zd7 hO0;rw [←cO.1 hh];exact this))) ?_;refine kY ?_;refine cI (dY (j:=0) rfl rfl (Fz.cs hfr hOi) rfl rfl (fun hh=>hpN (by have:=ir hOi a7;rw [←cO.1 hh];exact this))) ?_;refine jj ?_;refine T.loop (ι:=Nat) (fun k=>[(0, .pointer (some ⟨sp,0,none⟩)),(1, .int .i64 (i:Int)),(6, .func (.func 167) #[] #[.pointer (some ⟨g5,0,none⟩)]),(74, .slice BO (Y.out i).length cpO),(75, .int .i64 ((Y.out i).length:Int)),(76, .int .i64 (k:Int))]) (fun k=>[.row g5 220 [.pointer (some ⟨p,0,none⟩)], .row p 83 (Ws.cells (((Y.out i).take k).foldl (lg Y L) ((Y.inn i).foldl (fun s x=>dR s x.fr.toNat) ((Y.ps i).foldl (fun s x=>dR s (x.a+x.b - (i:Int)).toNat) ws))))]) (fun k=>k≤(Y.out i).length) (fun k=>(Y.out i).length - k) 0 ?_ ?_ ?_ ?_
    ·omega
    ·exact (by repeat (first|exact Sub.nil|refine Sub.cons rfl ?_))
    ·exact Sx
    ·intro k hphi;refine ei ?_;refine T.cond rfl (fun h4=>?_) (fun h4=>?_)
     ·have p4:=h4; (try simp only [cV] at p4);obtain ⟨ghk,offhk,rfl,hc⟩:=hslO a5;have hk:=hc k a5;simp only [Ld.cells] at hk;have hrhk:=hrngO _ (iD (xs:=Y.out i) (k:=k) a5); (have htn:(cH (Y.out i) k).to.toNat<Y.n:=by omega);obtain ⟨hlenI2,hrngI2⟩:=hok.inn _ htn;have hIi2:=hIc (cH (Y.out i) k).to.toNat (by rw [hIn];exact htn);obtain ⟨BI2,cpI2,hvI2,hslI2⟩:=(hT.inn.each (cH (Y.out i) k).to.toNat htn).op;simp only [hvI2] at hIi2;refine kl ?_;refine T.cut (gs:=[(0, .pointer (some ⟨sp,0,none⟩)),(1, .int .i64 (i:Int)),(6, .func (.func 167) #[] #[.pointer (some ⟨g5,0,none⟩)]),(74, .slice (some ⟨ghk,offhk,none⟩) (Y.out i).length cpO),(75, .int .i64 ((Y.out i).length:Int)),(76, .int .i64 (k:Int))]) (hs':=[.row g5 220 [.pointer (some ⟨p,0,none⟩)], .row p 83 (Ws.cells (((Y.out i).take (k+1)).foldl (lg Y L) ((Y.inn i).foldl (fun s x=>dR s x.fr.toNat) ((Y.ps i).foldl (fun s x=>dR s (x.a+x.b - (i:Int)).toNat) ws))))]) ?_ ?_
      ·skip;refine T.block (de ?_);refine q2b ?_; (refine cK (Wt.none) rfl rfl (Ew.alloc) ?_;rintro _ _ ⟨g12,rfl,rfl⟩); (refine dB (Wt.none) rfl (dr 0) ?_;rintro _ _ ⟨rfl,rfl⟩);refine lm ?_;refine eu ?_; (refine cK (Wt.none) rfl rfl (kQ 2 rfl rfl rfl rfl (fun w hw=>zeS (((Y.out i).take k).foldl (lg Y L) ((Y.inn i).foldl (fun s x=>dR s x.fr.toNat) ((Y.ps i).foldl (fun s x=>dR s (x.a+x.b - (i:Int)).toNat) ws))) (by rw [zeZ,zc2,zcR,hws]) (cH (Y.out i) k).to.toNat a5 _ a5 p g5 w (ja (cW.1 (hw.get (i:=1) rfl)) 0) (fun hh=>hw.ne (i:=1) (j:=2) a5 rfl rfl (g:=g5) (cO.2 rfl) (cO.2 hh)) (hw.get (i:=2) rfl))) ?_;rintro _ _ ⟨-, -,rfl,rfl⟩);refine lm ?_;refine eu ?_; (refine cK (Wt.none) rfl rfl (cL rfl rfl rfl (fun w hw=>zde sp Y L c ((cH (Y.out i) k).to.toNat) _ a5 a5 w (hkeep _ _ hw))) ?_;rintro _ _ ⟨rfl,rfl⟩);refine dP ?_;refine T.cond rfl (fun h5=>?_) (fun h5=>?_)
       ·have p5:=h5; (try simp only [cV] at p5); (have hno:¬(only L ((cH (Y.out i) k).to.toNat):Int)=0:=by assumption);refine T.seq ?_;refine q1a ?_;refine i1 ?_;refine cR rfl (dI rfl rfl hsp0 (fun hh=>hsp (cO.1 hh))) ?_;refine q3O ?_;refine cR rfl (dI rfl rfl (hfr.cell hI0) (fun hh=>hpN (by have:=zd7 hI0;rw [←cO.1 hh];exact this))) ?_;refine q19 ?_;refine cR rfl (dY (j:=0) rfl rfl (Fz.cs hfr hIi2) rfl rfl (fun hh=>hpN (by have:=ir hIi2 a7;rw [←cO.1 hh];exact this))) ?_;refine q3T ?_;refine T.loop (ι:=Nat) (fun j=>[(0, .pointer (some ⟨sp,0,none⟩)),(1, .int .i64 (i:Int)),(6, .func (.func 167) #[] #[.pointer (some ⟨g5,0,none⟩)]),(74, .slice (some ⟨ghk,offhk,none⟩) (Y.out i).length cpO),(75, .int .i64 ((Y.out i).length:Int)),(76, .int .i64 (k:Int)),(99, .slice BI2 (Y.inn (cH (Y.out i) k).to.toNat).length cpI2),(100, .int .i64 ((Y.inn (cH (Y.out i) k).to.toNat).length:Int)),(101, .int .i64 (j:Int))]) (fun j=>[.row g5 220 [.pointer (some ⟨p,0,none⟩)], .row p 83 (Ws.cells (((Y.inn (cH (Y.out i) k).to.toNat).take j).foldl (fun s o=>dR s o.fr.toNat) (dR (((Y.out i).take k).foldl (lg Y L) ((Y.inn i).foldl (fun s x=>dR s x.fr.toNat) ((Y.ps i).foldl (fun s x=>dR s (x.a+x.b - (i:Int)).toNat) ws))) (cH (Y.out i) k).to.toNat)))]) (fun j=>j≤(Y.inn (cH (Y.out i) k).to.toNat).length) (fun j=>(Y.inn (cH (Y.out i) k).to.toNat).length - j) 0 ?_ ?_ ?_ ?_
        ·omega
        ·exact (by repeat (first|exact Sub.nil|refine Sub.cons rfl ?_))
        ·exact Sx
        ·intro j hphi;refine ei ?_;refine T.cond rfl (fun h6=>?_) (fun h6=>?_)
         ·have p6:=h6; (try simp only [cV] at p6);obtain ⟨ghj,offhj,rfl,hcj⟩:=hslI2 a5;have hj:=hcj j a5;simp only [Ld.cells] at hj;have hrhj:=hrngI2 _ (iD (xs:=Y.inn (cH (Y.out i) k).to.toNat) (k:=j) a5);refine fq ?_;refine q0v ?_;refine cI (gH rfl rfl (Fz.cs hfr hj) rfl (fun hh=>hpN (by have:=ir hj a7;rw [←cO.1 hh];exact this))) ?_; (refine cK (Wt.none) rfl rfl (Ew.alloc) ?_;rintro _ _ ⟨g14,rfl,rfl⟩); (refine dB (Wt.none) rfl (dr 0) ?_;rintro _ _ ⟨rfl,rfl⟩);refine TL.ns (T.region ?_);refine dd ?_;refine eu ?_; (refine cK (Wt.none) rfl rfl (kQ 2 rfl rfl rfl rfl (fun w hw=>zeS (((Y.inn (cH (Y.out i) k).to.toNat).take j).foldl (fun s o=>dR s o.fr.toNat) (dR (((Y.out i).take k).foldl (lg Y L) ((Y.inn i).foldl (fun s x=>dR s x.fr.toNat) ((Y.ps i).foldl (fun s x=>dR s (x.a+x.b - (i:Int)).toNat) ws))) (cH (Y.out i) k).to.toNat)) (by rw [zc2,kz,zeZ,zc2,zcR,hws]) (cH (Y.inn (cH (Y.out i) k).to.toNat) j).fr.toNat a5 _ a5 p g5 w (ja (cW.1 (hw.get (i:=1) rfl)) 0) (fun hh=>hw.ne (i:=1) (j:=2) a5 rfl rfl (g:=g5) (cO.2 rfl) (cO.2 hh)) (hw.get (i:=2) rfl))) ?_;rintro _ _ ⟨-, -,rfl,rfl⟩);refine kC ?_;exact K.next (j+1) a5 a5 (by repeat (first|exact Sub.nil|refine Sub.cons rfl ?_)) (by rw [iV _ _ a5];exact Sx)
         ·have p6:=h6; (try simp only [cV] at p6);refine T.exit (fg (fg (it (fh ?_)))); (have hy:=hno;refine K.at (by repeat (first|exact Sub.nil|refine Sub.cons rfl ?_)) ?_;rw [iV _ _ a5,lg,if_neg hy,show (Y.inn (cH (Y.out i) k).to.toNat).take j=Y.inn (cH (Y.out i) k).to.toNat from List.take_of_length_le a5];exact Sx)
       ·have p5:=h5; (try simp only [cV] at p5); (have hyes:(only L ((cH (Y.out i) k).to.toNat):Int)=0:=by assumption);refine T.skip (fh ?_); (have hy:=hyes;refine K.at (by repeat (first|exact Sub.nil|refine Sub.cons rfl ?_)) ?_;rw [iV _ _ a5,lg,if_pos hy];exact Sx)
      ·skip;refine ed ?_;refine jS ?_;exact K.next (k+1) a5 a5 (by repeat (first|exact Sub.nil|refine Sub.cons rfl ?_)) Sx
     ·have p4:=h4; (try simp only [cV] at p4);refine ff ?_;exact eX rfl (fun w' hw=>⟨(),trivial,rfl,by rw [jH,if_neg p1];rw [show (Y.out i).take k=Y.out i from List.take_of_length_le a5] at hw;exact hw.sub Sx⟩)
end Go.Proofs.YtogbggmckmnlfaaGreatDoor
