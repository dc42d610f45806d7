/- C D E F G G2: shortened and put together by squeeze.py. -/
import Derived.Test.YtgoeeefoinkepaaGreatDoorQ04
set_option maxRecDepth 100000
set_option maxHeartbeats 4000000
set_option linter.unusedVariables false
set_option linter.unusedSectionVars false
set_option linter.unusedSimpArgs false
namespace Go.Proofs.YtgoeeefoinkepaaGreatDoor
open Go.RowKit
theorem cB {p:Prop}(h:p:=by rw [List.length_map,lk]):p:=h
def fV (f:Nat→Value)(z:Value)(n k:Nat):List Value:=(List.range k).map f++List.replicate (n - k) z
theorem ze8 {f:Nat→Value}{z:Value}{n k:Nat}(h:k≤n):(fV f z n k).length=n:=by simp [fV];omega
theorem zeV {f:Nat→Value}{z:Value}{n k p:Nat}(h:k<n)(hp:p=k):(fV f z n k).set p (f k)=fV f z n (k+1):=by
 subst hp;unfold fV;rw [List.set_append_right _ _ b2,show n - p=(n - (p+1))+1 by omega,List.replicate_succ,List.range_succ,List.map_append];simp
theorem zeY (z:Value)(n:Nat):(madeCells [z].toArray (n*1)).toList=fV (fun _=>z) z n 0:=by
 apply List.ext_getElem?;intro i;by_cases h:i<n
 ·simp [fV,madeCells,List.getElem?_replicate,Nat.mod_one,h]
 ·simp [fV,madeCells,List.getElem?_replicate,h]
theorem zig {α:Type}[Inhabited α]{xs:List α}{f:Nat→Value}{z:Value}(g:α→Int)(hf:∀j,f j= .int .i64 (g (cI xs j))){k:Nat}(hk:k=xs.length):fV f z xs.length k=(xs.map g).flatMap Ie:=by
 subst hk;unfold fV;apply List.ext_getElem?;intro i
 have e:(xs.map g).flatMap Ie=(xs.map g).map (fun z=>Value.int .i64 z):=by
  have:∀l:List Int,l.flatMap Ie=l.map (fun z=>Value.int .i64 z):=by
   intro l
   induction l with
   |nil=>rfl
   |cons x r ih=>simp [List.flatMap_cons,Ie,ih]
  exact this _
 rw [e];simp only [Nat.sub_self,List.replicate_zero,List.append_nil,List.getElem?_map,List.getElem?_range];by_cases h:i<xs.length
 ·simp [h,hf,cI]
 ·simp [h]
theorem zjs (P:Pb)(vd vp vl vc:Value)(w:World)(h:ProbAt w vd vp vl vc P)(hn:P.ds.length≤512)(hr:∀d∈P.ds,0≤d.st∧d.st≤511):Calls Tryz.prog 51 #[.agg [vd,vp,vl,vc].toArray] w fun e w'=>e= .returned (.agg (Ws.cells (mj (P.ds.map (·.st)))).toArray)∧Below w.heap.size w w':=by
 obtain ⟨A,cap,rfl,hsl⟩:=h.ds.sl.op;obtain ⟨A1,cap1,rfl, -⟩:=h.ru.ps.op;obtain ⟨A2,cap2,rfl, -⟩:=h.ru.ls.op;obtain ⟨A3,cap3,rfl, -⟩:=h.ru.cs.op;refine dA (M:=fun _=>False) (hs:=[]) Tryz.func51 rfl rfl rfl (Hp.refl _ _) ?_;refine df ?_; (refine cN (Wt.none) rfl rfl (dC) ?_;rintro _ _ ⟨g1,rfl,rfl⟩); (refine cN (Wt.none) rfl rfl (Ew.alloc) ?_;rintro _ _ ⟨g2,rfl,rfl⟩);refine du ?_;refine lz ?_;refine lK ?_; (refine cN (Wt.none) rfl rfl (Ew.makeSlice rfl rfl rfl rfl rfl a6 a6) ?_;rintro _ _ ⟨g11,rfl,rfl⟩);refine dM ?_;refine T.cut (gs:=[(2, .pointer (some ⟨g2,0,none⟩)),(3,(.slice (some ⟨g11,0,none⟩) P.ds.length P.ds.length))]) (hs':=[.sl (.slice (some ⟨g11,0,none⟩) P.ds.length P.ds.length) 3 1 P.ds.length ((P.ds.map (·.st)).flatMap Ie), .row g2 101 (Ws.cells fB)]) ?_ ?_
 ·skip;refine T.seq ?_;rw [zeY];refine fi ?_;refine q2n ?_;refine jG ?_;refine T.loop (ι:=Nat) (fun k=>[(2, .pointer (some ⟨g2,0,none⟩)),(3,(.slice (some ⟨g11,0,none⟩) P.ds.length P.ds.length)),(13, .slice A P.ds.length cap),(14, .int .i64 (P.ds.length:Int)),(15, .int .i64 (k:Int))]) (fun k=>[.sl (.slice (some ⟨g11,0,none⟩) P.ds.length P.ds.length) 3 1 P.ds.length (fV (fun j=> .int .i64 (cI P.ds j).st) (.int .i64 0) P.ds.length k), .row g2 101 (Ws.cells fB)]) (fun k=>k≤P.ds.length) (fun k=>P.ds.length - k) 0 ?_ ?_ ?_ ?_
  ·omega
  ·exact (by repeat (first|exact Sub.nil|refine Sub.cons rfl ?_))
  ·exact Sx
  ·intro k hphi;refine fA ?_;refine T.cond rfl (fun h1=>?_) (fun h1=>?_)
   ·have p1:=h1; (try simp only [cT] at p1);obtain ⟨g,off,rfl,hc⟩:=hsl a6;have hk:=hc k a6;haveI:=(h.ds.at (k:=k) a6).one;simp only [Dx.cells] at hk;refine fS ?_;refine di ?_;refine lS ?_; (refine cN (Wt.none) rfl rfl (Ew.alloc) ?_;rintro _ _ ⟨g5,rfl,rfl⟩);refine di ?_; (refine dO (Wt.none) rfl (dH 0) ?_;rintro _ _ ⟨rfl,rfl⟩);refine cS (T.region ?_);refine ef ?_;refine eB ?_;refine q0y ?_; (refine dO (Wt.none) rfl (fD 1 (fV (fun j=> .int .i64 (cI P.ds j).st) (.int .i64 0) P.ds.length (k+1)) rfl rfl rfl rfl (by rw [ze8 a6];omega) (zeV a6 a6)) ?_;rintro _ _ ⟨rfl,rfl⟩);refine mu ?_;exact K.next (k+1) a6 a6 (by repeat (first|exact Sub.nil|refine Sub.cons rfl ?_)) Sx
   ·have p1:=h1; (try simp only [cT] at p1);refine fx ?_;exact K.at (by repeat (first|exact Sub.nil|refine Sub.cons rfl ?_)) (by rw [zig (fun d:Dx=>d.st) (fun _=>rfl) (show k=P.ds.length by omega)];exact Sx)
 ·skip;refine gM ?_; (refine cN (Wt.none) rfl rfl (cM rfl rfl rfl (fun w hw=>zoT (P.ds.map (·.st)) _ w (ly (enc:=Ie) (fun _=>rfl) hw 0 rfl b2) cF (by intro x hx;obtain ⟨d,hd,rfl⟩:=List.mem_map.1 hx;exact hr d hd))) ?_;rintro _ _ ⟨rfl,rfl⟩);refine ft ?_; (refine cN (Wt.none) rfl rfl (Ew.alloc) ?_;rintro _ _ ⟨g6,rfl,rfl⟩); (refine dO (Wt.none) rfl (dH 0 rfl rfl rfl rfl cB (by rw [List.length_map,lk];rfl)) ?_;rintro _ _ ⟨rfl,rfl⟩);refine gn ?_;refine cL (gA 0 rfl rfl rfl cB) ?_; (refine dO (Wt.none) rfl (dH 2 rfl rfl rfl rfl cB (by rw [List.length_map,List.length_map,lk];rfl)) ?_;rintro _ _ ⟨rfl,rfl⟩);refine gj ?_;exact nq 2 rfl rfl rfl cB (fun w' hw=>⟨rfl,hw.isBelow⟩)
theorem zjp (x:Pr)(ws:Ws)(hws:ws.length=8)(p:Nat)(w:World)(hp:Cs w p 0 ws.cells):Calls Tryz.prog 53 #[.agg (Pr.cells x).toArray, .pointer (some ⟨p,0,none⟩)] w fun e w'=>e= .returned (.bool (jL ws x.a&&jL ws x.b))∧Below w.heap.size w w':=by
 refine dA (M:=fun _=>False) (hs:=[]) Tryz.func53 rfl rfl rfl (Hp.refl _ _) ?_;simp only [Pr.cells];refine df ?_; (refine cN (Wt.none) rfl rfl (dC) ?_;rintro _ _ ⟨g2,rfl,rfl⟩);refine q3k ?_; (refine cN (Wt.none) rfl rfl (cM rfl rfl rfl (fun w hw=>zgf ws hws _ w)) ?_;rintro _ _ ⟨rfl,rfl⟩);refine di ?_;refine dv rfl rfl rfl (fun h1=>?_) (fun h1=>?_)
 ·have p1:=h1; (try simp only [cT] at p1);refine cZ (Wt.some rfl rfl rfl h1) rfl rfl (iI rfl rfl hp (by rw [List.length_map,hws]) (fun h=>h)) ?_;refine q0J ?_; (refine cN (Wt.some rfl rfl rfl h1) rfl rfl (cM rfl rfl rfl (fun w hw=>zgf ws hws _ w)) ?_;rintro _ _ ⟨rfl,rfl⟩);refine la ?_;refine fI ?_;refine cV rfl rfl (fun w' hw=>⟨?_,hw.isBelow⟩);exact q4Y
 ·have p1:=h1; (try simp only [cT] at p1);refine kl ?_;refine kl ?_;refine q28 ?_;refine fI ?_;refine cV rfl rfl (fun w' hw=>⟨?_,hw.isBelow⟩);exact q4Y
theorem zjl (x:Ld)(ws:Ws)(hws:ws.length=8)(p:Nat)(w:World)(hp:Cs w p 0 ws.cells):Calls Tryz.prog 56 #[.agg (Ld.cells x).toArray, .pointer (some ⟨p,0,none⟩)] w fun e w'=>e= .returned (.bool (jL ws x.to&&jL ws x.fr))∧Below w.heap.size w w':=by
 refine dA (M:=fun _=>False) (hs:=[]) Tryz.func56 rfl rfl rfl (Hp.refl _ _) ?_;simp only [Ld.cells];refine df ?_; (refine cN (Wt.none) rfl rfl (dC) ?_;rintro _ _ ⟨g2,rfl,rfl⟩);refine q3k ?_; (refine cN (Wt.none) rfl rfl (cM rfl rfl rfl (fun w hw=>zgf ws hws _ w)) ?_;rintro _ _ ⟨rfl,rfl⟩);refine di ?_;refine dv rfl rfl rfl (fun h1=>?_) (fun h1=>?_)
 ·have p1:=h1; (try simp only [cT] at p1);refine cZ (Wt.some rfl rfl rfl h1) rfl rfl (iI rfl rfl hp (by rw [List.length_map,hws]) (fun h=>h)) ?_;refine q0J ?_; (refine cN (Wt.some rfl rfl rfl h1) rfl rfl (cM rfl rfl rfl (fun w hw=>zgf ws hws _ w)) ?_;rintro _ _ ⟨rfl,rfl⟩);refine la ?_;refine fI ?_;refine cV rfl rfl (fun w' hw=>⟨?_,hw.isBelow⟩);exact q4Y
 ·have p1:=h1; (try simp only [cT] at p1);refine kl ?_;refine kl ?_;refine q28 ?_;refine fI ?_;refine cV rfl rfl (fun w' hw=>⟨?_,hw.isBelow⟩);exact q4Y
theorem ziZ (x:Cp)(ws:Ws)(hws:ws.length=8)(p:Nat)(w:World)(hp:Cs w p 0 ws.cells):Calls Tryz.prog 58 #[.agg (Cp.cells x).toArray, .pointer (some ⟨p,0,none⟩)] w fun e w'=>e= .returned (.bool (jL ws x.st))∧Below w.heap.size w w':=by
 refine dA (M:=fun _=>False) (hs:=[]) Tryz.func58 rfl rfl rfl (Hp.refl _ _) ?_;simp only [Cp.cells];refine df ?_; (refine cN (Wt.none) rfl rfl (dC) ?_;rintro _ _ ⟨g2,rfl,rfl⟩);refine q3k ?_; (refine cN (Wt.none) rfl rfl (cM rfl rfl rfl (fun w hw=>zgf ws hws _ w)) ?_;rintro _ _ ⟨rfl,rfl⟩);refine fI ?_;refine cV rfl rfl (fun w' hw=>⟨?_,hw.isBelow⟩);exact q4Y
theorem zgt (P:Pb)(vd vp vl vc:Value)(w:World)(h:ProbAt w vd vp vl vc P):Calls Tryz.prog 25 #[.agg [vd,vp,vl,vc].toArray] w fun e w'=>e= .returned (.bool P.ok)∧Below w.heap.size w w':=by
 obtain ⟨A,cap,rfl,hsl⟩:=h.ds.sl.op;obtain ⟨A1,cap1,rfl, -⟩:=h.ru.ps.op;obtain ⟨A2,cap2,rfl, -⟩:=h.ru.ls.op;obtain ⟨A3,cap3,rfl, -⟩:=h.ru.cs.op;refine dA (M:=fun _=>False) (hs:=[]) Tryz.func25 rfl rfl rfl (Hp.refl _ _) ?_;refine df ?_; (refine cN (Wt.none) rfl rfl (dC) ?_;rintro _ _ ⟨g1,rfl,rfl⟩);refine kA ?_;refine eB ?_; (refine cN (Wt.none) rfl rfl (cM rfl rfl rfl (fun w hw=>zmF (q:=Dx.ok) P.ds _ 46 #[] w (h.ds.sl.kept hw) (fun k hk=>(h.ds.at hk).one) (fun k hk w1 hb=>zgQ _ w1 (((h.ds.at hk).kept hw).kept (il hb)) (h.hch _ (i4 hk))) h.hds)) ?_;rintro _ _ ⟨rfl,rfl⟩);refine ef ?_;refine dv rfl rfl rfl (fun h1=>?_) (fun h1=>?_)
 ·have p1:=h1; (try simp only [cT] at p1);refine kl ?_;refine kl ?_;refine la ?_;refine mA ?_;refine jc ?_;refine cV rfl rfl (fun w' hw=>⟨?_,hw.isBelow⟩);exact q4L
 ·have p1:=h1; (try simp only [cT] at p1);refine cZ (Wt.some rfl rfl rfl h1) rfl rfl (Yv.fieldAddr) ?_;refine cZ (Wt.some rfl rfl rfl h1) rfl rfl (nk 0 (m:=[.slice A1 P.ps.length cap1, .slice A2 P.ls.length cap2, .slice A3 P.cs.length cap3]) rfl rfl rfl rfl rfl) ?_; (refine cN (Wt.some rfl rfl rfl h1) rfl rfl (cM rfl rfl rfl (fun w hw=>zgR P _ _ _ w (h.ru.kept hw))) ?_;rintro _ _ ⟨rfl,rfl⟩);refine jV ?_;refine q28 ?_;refine cS ?_;refine T.cond rfl (fun h2=>?_) (fun h2=>?_)
  ·have p2:=h2; (try simp only [cT] at p2);refine jc ?_;refine cV rfl rfl (fun w' hw=>⟨?_,hw.isBelow⟩);exact q4L
  ·have p2:=h2; (try simp only [cT] at p2);refine ja ?_;refine kA ?_;refine mQ ?_; (refine cN (Wt.none) rfl rfl (cM rfl rfl rfl (fun w hw=>zhx (c:=fun a b=>dL a.st b.st) P.ds _ 48 w (h.ds.sl.kept hw) (fun k hk=>(h.ds.at hk).one) (fun x y hx hy w1=>zhn x y hx hy w1) h.hds)) ?_;rintro _ _ ⟨rfl,rfl⟩);refine dM ?_;refine T.cond rfl (fun h3=>?_) (fun h3=>?_)
   ·have p3:=h3; (try simp only [cT] at p3);refine jc ?_;refine cV rfl rfl (fun w' hw=>⟨?_,hw.isBelow⟩);exact q4L
   ·have p3:=h3; (try simp only [cT] at p3);refine ja ?_;refine iN ?_; (have hall:fM Dx.ok P.ds=true:=by assumption); (have hinc:fy (fun a b:Dx=>dL a.st b.st) P.ds=true:=by assumption); (have hst:∀d∈P.ds,0≤d.st∧d.st≤511:=fun d hd=>by have:=d5.1 hall d hd;simp only [Dx.ok,inB,Bool.and_eq_true,decide_eq_true_eq] at this;exact this.1); (refine cN (Wt.none) rfl rfl (cM rfl rfl rfl (fun w hw=>zjs P _ _ _ _ w (h.kept hw) (zl4 hinc hall) hst)) ?_;rintro _ _ ⟨rfl,rfl⟩); (refine cN (Wt.none) rfl rfl (Ew.alloc) ?_;rintro _ _ ⟨g4,rfl,rfl⟩); (refine dO (Wt.none) rfl (dH 0 rfl rfl rfl rfl cB (by rw [List.length_map,lk];rfl)) ?_;rintro _ _ ⟨rfl,rfl⟩);refine du ?_;refine fg ?_;refine lz ?_;refine di ?_; (refine cN (Wt.none) rfl rfl (cM rfl rfl rfl (fun w hw=>zlI (q:=fun x:Pr=>P.has x.a&&P.has x.b) P.ps _ 53 #[.pointer (some ⟨g4,0,none⟩)] w (h.ru.ps.kept hw) (fun k hk w1 hb=>zjp _ _ (lk _) _ w1 (Cs.later hb (eV (cW.1 (hw.get (i:=0) rfl)) cE))) h.ru.hps)) ?_;rintro _ _ ⟨rfl,rfl⟩);refine di ?_;refine dv rfl rfl rfl (fun h4=>?_) (fun h4=>?_)
    ·have p4:=h4; (try simp only [cT] at p4);refine cZ (Wt.some rfl rfl rfl h4) rfl rfl (Yv.fieldAddr) ?_;refine cZ (Wt.some rfl rfl rfl h4) rfl rfl (Yv.fieldAddr) ?_;refine cZ (Wt.some rfl rfl rfl h4) rfl rfl (cY 1) ?_;refine cZ (Wt.some rfl rfl rfl h4) rfl rfl (d6) ?_; (refine cN (Wt.some rfl rfl rfl h4) rfl rfl (cM rfl rfl rfl (fun w hw=>zlZ (q:=fun x:Ld=>P.has x.to&&P.has x.fr) P.ls _ 56 #[.pointer (some ⟨g4,0,none⟩)] w (h.ru.ls.kept hw) (fun k hk w1 hb=>zjl _ _ (lk _) _ w1 (Cs.later hb (eV (cW.1 (hw.get (i:=0) rfl)) cE))) h.ru.hls)) ?_;rintro _ _ ⟨rfl,rfl⟩);refine cL (eJ rfl rfl h4) ?_;refine di ?_;refine dv rfl rfl rfl (fun h5=>?_) (fun h5=>?_)
     ·have p5:=h5; (try simp only [cT] at p5);refine cZ (Wt.some rfl rfl rfl h5) rfl rfl (Yv.fieldAddr) ?_;refine cZ (Wt.some rfl rfl rfl h5) rfl rfl (Yv.fieldAddr) ?_;refine cZ (Wt.some rfl rfl rfl h5) rfl rfl (cY 1) ?_;refine cZ (Wt.some rfl rfl rfl h5) rfl rfl (d6) ?_; (refine cN (Wt.some rfl rfl rfl h5) rfl rfl (cM rfl rfl rfl (fun w hw=>zlO (q:=fun x:Cp=>P.has x.st) P.cs _ 58 #[.pointer (some ⟨g4,0,none⟩)] w (h.ru.cs.kept hw) (fun k hk w1 hb=>ziZ _ _ (lk _) _ w1 (Cs.later hb (eV (cW.1 (hw.get (i:=0) rfl)) cE))) h.ru.hcs)) ?_;rintro _ _ ⟨rfl,rfl⟩);refine cL (eJ rfl rfl h5) ?_;refine fI ?_;refine cV rfl rfl (fun w' hw=>⟨?_,hw.isBelow⟩);exact q4L
     ·have p5:=h5; (try simp only [cT] at p5);refine q1L ?_;refine q1L ?_;refine TL.off (Wt.not rfl rfl rfl h5) rfl rfl ?_;refine cL (ek rfl rfl h5) ?_;refine fI ?_;refine cV rfl rfl (fun w' hw=>⟨?_,hw.isBelow⟩);exact q4L
    ·have p4:=h4; (try simp only [cT] at p4);refine q2x ?_;refine TL.run 8 rfl ?_;refine gj ?_;refine cV rfl rfl (fun w' hw=>⟨?_,hw.isBelow⟩);exact q4L
def jP (l:List Int):BitVec 64:=l.foldl (fun m c=>m ||| 1#64 <<< c.toNat) 0#64
theorem zi6 {l:List Int}{k:Nat}(h:k<l.length):jP (l.take (k+1))=(jP (l.take k) ||| 1#64 <<< (cI l k).toNat):=by
 unfold jP;rw [List.take_succ_eq_append_getElem h,d9 h,List.foldl_append];rfl
def pop1 (a:BitVec 64):BitVec 64:=((a >>> 1) &&& 6148914691236517205#64)+(a &&& 6148914691236517205#64)
def pop2 (a:BitVec 64):BitVec 64:=((a >>> 2) &&& 3689348814741910323#64)+(a &&& 3689348814741910323#64)
def pop3 (a:BitVec 64):BitVec 64:=((a >>> 4)+a) &&& 1085102592571150095#64
def pop4 (k:Nat)(a:BitVec 64):BitVec 64:=a+(a >>> k)
def zmm (a:BitVec 64):Nat:=(pop4 32 (pop4 16 (pop4 8 (pop3 (pop2 (pop1 a))))) &&& 127#64).toNat
theorem zjN (a:BitVec 64):zmm a≤127:=by
 unfold zmm;rw [BitVec.toNat_and];exact Nat.and_le_right
theorem zkS (b:BitVec 64):BitVec.ofInt 64 (IntKind.i64.wrap (b.toNat:Int))=b:=by
 apply BitVec.eq_of_toNat_eq;rw [BitVec.toNat_ofInt,IntKind.wrap_i64];have:=b.isLt;omega
section
variable {P:Program}{n:Nat}{B D:World}{M:Nat→Prop}{fs:dZ}{hs:HS}{o:Oper}{v:Value}
theorem Yv.co {x:Operand}{a:BitVec 64}(ho:o.op= .convert 98 3 x)(hx:ev fs x=some (U a)):Yv Tryz.prog n B M fs hs o (.int .i64 (IntKind.i64.wrap (a.toNat:Int))):=fun f w ha _=>by
 (have hr:(convert 98 3 (U a)).run Tryz.prog w= .ok (.int .i64 (IntKind.i64.wrap (a.toNat:Int))) w:=by kernel_rfl);unfold execOp;simp only [ho,ha.ev hx];rw [Sem.run_bind,hr]
 rfl
theorem Yv.cc {x:Operand}{t u:TypeId}{a:BitVec 64}(ho:o.op= .binOp .and t x (.const (.int .i64 127)) u)(hx:ev fs x=some (.int .i64 (IntKind.i64.wrap (a.toNat:Int)))):Yv P n B M fs hs o (.int .i64 ((a &&& 127#64).toNat:Int)):=fun f w ha _=>by
 have hr:(binOp .and t (.int .i64 (IntKind.i64.wrap (a.toNat:Int))) (.int .i64 127)).run P w= .ok (.int .i64 ((a &&& 127#64).toNat:Int)) w:=by
  have e:(binOp .and t (.int .i64 (IntKind.i64.wrap (a.toNat:Int))) (.int .i64 127)).run P w= .ok (.int .i64 (IntKind.i64.wrap ((BitVec.ofInt 64 (IntKind.i64.wrap (a.toNat:Int)) &&& BitVec.ofInt 64 127).toNat:Int))) w:=rfl; (have hle:(a &&& 127#64).toNat≤127:=by rw [BitVec.toNat_and];exact Nat.and_le_right);rw [e,zkS,show BitVec.ofInt 64 127=127#64 from rfl,IntWalk.i64_in _ ⟨by omega,by omega⟩]
 unfold execOp;simp only [ho,ha.ev hx,ha.ev (x:= .const (.int .i64 127)) rfl];rw [Sem.run_bind,Sem.run_bind,show (eqGuard .and t x (.const (.int .i64 127)) (.int .i64 (IntKind.i64.wrap (a.toNat:Int))) (.int .i64 127)).run P w= .ok () w from rfl];simp only [Result.andThen,hr]
 rfl
end
theorem zmR (a:BitVec 64)(w:World):Calls Tryz.prog 157 #[U a] w fun e w'=>e= .returned (.int .i64 (zmm a:Int))∧Below w.heap.size w w':=by
 refine dA (M:=fun _=>False) (hs:=[]) Tryz.func157 rfl rfl rfl (Hp.refl _ _) ?_;refine kZ ?_;refine cL (gW 1 rfl rfl rfl rfl a7) ?_;refine cL (gu (b:=6148914691236517205#64)) ?_;refine di ?_;refine cL (gu (b:=6148914691236517205#64)) ?_;refine q36 ?_;refine di ?_;refine cL (gW 2 rfl rfl rfl rfl a7) ?_;refine cL (gu (b:=3689348814741910323#64)) ?_;refine di ?_;refine cL (gu (b:=3689348814741910323#64)) ?_;refine q36 ?_;refine di ?_;refine cL (gW 4 rfl rfl rfl rfl a7) ?_;refine di ?_;refine cL (Yv.bx rfl rfl rfl) ?_;refine cL (gu (b:=1085102592571150095#64)) ?_;refine gn ?_;refine ef ?_;refine cL (gW 8 rfl rfl rfl rfl a7) ?_;refine q36 ?_;refine ef ?_;refine cL (gW 16 rfl rfl rfl rfl a7) ?_;refine q36 ?_;refine ef ?_;refine cL (gW 32 rfl rfl rfl rfl a7) ?_;refine q36 ?_;refine di ?_;refine cL (Yv.co rfl rfl) ?_;refine cL (Yv.cc rfl rfl) ?_;refine fI ?_;refine cV rfl rfl (fun w' hw=>⟨?_,hw.isBelow⟩)
 rfl
theorem zlS (a:BitVec 64)(ha:a≠0#64)(w:World)(ht:Tab w):Calls Tryz.prog 141 #[U a] w fun e w'=>e= .returned (.int .i64 (ctz a:Int))∧Below w.heap.size w w':=by
 obtain ⟨hi,htab⟩:=zo0 ha;have hcell:=ht _ hi;rw [htab] at hcell;have hlt:=zg1 ha;refine dA (M:=fun _=>False) (hs:=[]) Tryz.func141 rfl rfl rfl (Hp.refl _ _) ?_;refine gM ?_;refine i7 ?_;refine jm ?_;refine iy rfl (by rw [znO];exact decide_eq_false ha) ?_;refine ja ?_;refine ef ?_;refine cL (Yv.cv rfl rfl) ?_;refine cL (gu) ?_;refine cL (Yv.cu (b:=285870213051353865#64) rfl rfl rfl) ?_;refine cL (gW 58 rfl rfl rfl rfl a7) ?_;refine cL (ei rfl rfl rfl rfl a6) ?_;refine cL (dP rfl rfl (by rw [show ∀x:Nat,0+x*1=x from fun x=>by omega];exact hcell) (fun h=>h)) ?_;refine cL (Yv.cm rfl rfl (by first|exact IntWalk.i64_in _ a6|exact IntWalk.u64_in _ a6|exact IntWalk.u8_in _ a6)) ?_;refine fI ?_;refine cV rfl rfl (fun w' hw=>⟨?_,hw.isBelow⟩)
 rfl
theorem zm8 (l:List Int)(v:Value)(w:World)(h:zgF w v l)(hl:l.length≤9223372036854775807)(hr:∀x∈l,2≤x∧x≤51):Calls Tryz.prog 94 #[v] w fun e w'=>e= .returned (U (jP l))∧Below w.heap.size w w':=by
 obtain ⟨A,cap,rfl,hsl⟩:=h.op;refine dA (M:=fun _=>False) (hs:=[]) Tryz.func94 rfl rfl rfl (Hp.refl _ _) ?_;refine kZ ?_;refine i7 ?_;refine di ?_;refine jG ?_;refine T.loop (ι:=Nat) (fun k=>[(3,U (jP (l.take k))),(6, .slice A l.length cap),(7, .int .i64 (l.length:Int)),(8, .int .i64 (k:Int))]) (fun k=>[]) (fun k=>k≤l.length) (fun k=>l.length - k) 0 ?_ ?_ ?_ ?_
 ·omega
 ·exact (by repeat (first|exact Sub.nil|refine Sub.cons rfl ?_))
 ·exact Sx
 ·intro k hphi;refine fA ?_;refine T.cond rfl (fun h1=>?_) (fun h1=>?_)
  ·have p1:=h1; (try simp only [cT] at p1);obtain ⟨g,off,rfl,hc⟩:=hsl a6;have hk:=hc k a6;simp only [Ie] at hk;have hr1:=hr _ (i4 (xs:=l) (k:=k) a6);refine fS ?_;refine q1S ?_;refine di ?_;refine cS (T.region ?_);refine ef ?_;refine cL (iH (a:=1#64) (cI l k).toNat rfl rfl rfl a6 a6) ?_;refine q3T ?_;exact K.next (k+1) a6 a6 (by rw [zi6 a6];exact (by repeat (first|exact Sub.nil|refine Sub.cons rfl ?_))) Sx
  ·have p1:=h1; (try simp only [cT] at p1);refine mC ?_;refine jS ?_;exact cV rfl rfl (fun w' hw=>⟨by rw [List.take_of_length_le a6],hw.isBelow⟩)
def kH (ws:Ws)(k:Nat):Nat:=((ws.take k).map zmm).sum
theorem ziq {ws:Ws}{k:Nat}(h:k<ws.length):kH ws (k+1)=kH ws k+zmm (cI ws k):=by
 unfold kH;rw [List.take_succ_eq_append_getElem h,d9 h,List.map_append,List.sum_append];simp
theorem zi8 (ws:Ws):∀k,kH ws k≤127*k
 |0=>by simp [kH]
 |k+1=>by
  have:=zi8 ws k;rcases Nat.lt_or_ge k ws.length with h|h
  ·rw [ziq h];have:=zjN (cI ws k);omega
  ·unfold kH at *;rw [List.take_of_length_le a6] at *;omega
@[irreducible] def fm (ws:Ws) (i:Nat):List Nat:=(List.range' i (512 - i)).filter (eF ws)
abbrev fj (ws:Ws):List Nat:=fm ws 0
def zh0:List Nat→Int
 | []=> -1
 |x :: _=>(x:Int)
theorem zgH {ws:Ws}{i:Nat}(h:∀j,i≤j→j<512→eF ws j=false):fm ws i=[]:=by
 unfold fm;rw [List.filter_eq_nil_iff];intro j hj;obtain ⟨h1,h2⟩:=List.mem_range'_1.1 hj;rw [h j h1 a6];simp
theorem zii {ws:Ws}{i r:Nat}(hi:i≤r)(hr:r<512)(hb:eF ws r=true)(h:∀j,i≤j→j<r→eF ws j=false):fm ws i=r :: fm ws (r+1):=by
 unfold fm
 have e:List.range' i (512 - i)=List.range' i (r - i)++(r :: List.range' (r+1) (512 - (r+1))):=by
  rw [show r :: List.range' (r+1) (512 - (r+1))=List.range' r (512 - r) from by rw [show 512 - r=(512 - (r+1))+1 by omega,List.range'_succ]];have:=List.range'_append (s:=i) (m:=r - i) (n:=512 - r) (step:=1);rw [Nat.one_mul,show i+(r - i)=r by omega,show r - i+(512 - r)=512 - i by omega] at this;exact this.symm
 rw [e,List.filter_append,List.filter_cons_of_pos (by simpa using hb)]
 have:(List.range' i (r - i)).filter (eF ws)=[]:=by
  rw [List.filter_eq_nil_iff];intro j hj;obtain ⟨h1,h2⟩:=List.mem_range'_1.1 hj;rw [h j h1 a6];simp
 rw [this];rfl
theorem fX {ws:Ws}{i j:Nat}:j∈fm ws i↔i≤j∧j<512∧eF ws j=true:=by
 unfold fm;rw [List.mem_filter,List.mem_range'_1];constructor
 ·rintro ⟨⟨h1,h2⟩,h3⟩;exact ⟨h1,by omega,h3⟩
 ·rintro ⟨h1,h2,h3⟩;exact ⟨⟨h1,by omega⟩,h3⟩
theorem zk4 {ws:Ws}{i h:Nat}{t:List Nat}(e:fm ws i=h :: t):i≤h∧h<512∧t=fm ws (h+1):=by
 have hm:=fX.1 (show h∈fm ws i by rw [e];simp)
 have hs:fm ws i=h :: fm ws (h+1):=zii hm.1 hm.2.1 hm.2.2 (fun j h1 h2=>by
  cases hb:eF ws j with
  |false=>rfl
  |true=>
   have hj:j∈fm ws i:=fX.2 ⟨h1,by omega,hb⟩; (have hsort:(fm ws i).Pairwise (· < ·):=by unfold fm;exact List.Pairwise.filter _ List.pairwise_lt_range');rw [e] at hj hsort;rcases List.mem_cons.1 hj with hj|hj
   ·omega
   ·have:=(List.pairwise_cons.1 hsort).1 j hj;omega)
 rw [e] at hs;exact ⟨hm.1,hm.2.1,(List.cons.inj hs).2⟩
theorem zf7 (ws:Ws)(i:Nat):(fm ws i).length≤512:=by
 unfold fm;have:=List.length_filter_le (eF ws) (List.range' i (512 - i));rw [List.length_range'] at this;omega
theorem znM (a:BitVec 64)(k j:Nat)(hj:j<64):((a >>> k) <<< k).getLsbD j=(a.getLsbD j&&decide (k≤j)):=by
 rw [BitVec.getLsbD_shiftLeft,BitVec.getLsbD_ushiftRight];by_cases h:j<k
 ·simp [h]
 ·rw [show k+(j - k)=j by omega];simp [hj,h];intro _;omega
structure NxInv (ws:Ws) (i at':Nat) (b:BitVec 64):Prop where
 lt:at'<8
 ge:i<64* (at'+1)
 bit:∀j,j<64→b.getLsbD j=(eF ws (64*at'+j)&&decide (i≤64*at'+j))
 none:∀j,i≤j→j<64*at'→eF ws j=false
theorem NxInv.start {ws:Ws}{i:Nat}(hi:i<512):NxInv ws i (i / 64) ((cI ws (i / 64) >>> (i % 64)) <<< (i % 64)) where
 lt:=by omega
 ge:=by omega
 bit j hj:=by
  rw [znM _ _ _ hj];unfold eF;rw [show (64* (i / 64)+j) / 64=i / 64 by omega,show (64* (i / 64)+j) % 64=j by omega]
  congr 1
  exact decide_eq_decide.2 a6
 none j h1 h2:=by omega
theorem NxInv.next {ws:Ws}{i a:Nat}(h:NxInv ws i a 0#64)(ha:a+1<8):NxInv ws i (a+1) (cI ws (a+1)) where
 lt:=ha
 ge:=by have:=h.ge;omega
 bit j hj:=by
  have:=h.ge;unfold eF;rw [show (64* (a+1)+j) / 64=a+1 by omega,show (64* (a+1)+j) % 64=j by omega,decide_eq_true a6,Bool.and_true]
 none j h1 h2:=by
  rcases Nat.lt_or_ge j (64*a) with hj|hj
  ·exact h.none j h1 hj
  ·have:=h.bit (j - 64*a) a6;rw [show 64*a+(j - 64*a)=j by omega,decide_eq_true h1,Bool.and_true,BitVec.getLsbD_zero] at this;exact this.symm
theorem NxInv.found {ws:Ws}{i a:Nat}{b:BitVec 64}(h:NxInv ws i a b)(hb:b≠0#64):fm ws i=(64*a+ctz b) :: fm ws (64*a+ctz b+1):=by
 have hc:=zg1 hb;have h1:=(zea hb 0).1;rw [h.bit _ hc] at h1;simp only [Bool.and_eq_true,decide_eq_true_eq] at h1;have:=h.lt;refine zii h1.2 a6 h1.1 (fun j hi hj=>?_);rcases Nat.lt_or_ge j (64*a) with hj2|hj2
 ·exact h.none j hi hj2
 ·have h2:=(zea hb (j - 64*a)).2 a6;rw [h.bit _ a6,show 64*a+(j - 64*a)=j by omega,decide_eq_true hi,Bool.and_true] at h2;exact h2
theorem NxInv.over {ws:Ws}{i a:Nat}(h:NxInv ws i a 0#64)(ha:a+1=8):fm ws i=[]:=zgH fun j h1 h2=>by
 rcases Nat.lt_or_ge j (64*a) with hj2|hj2
 ·exact h.none j h1 hj2
 ·have h3:=h.bit (j - 64*a) a6;rw [show 64*a+(j - 64*a)=j by omega,decide_eq_true h1,Bool.and_true,BitVec.getLsbD_zero] at h3;exact h3.symm
theorem ziU (ws:Ws):∀(k i:Nat),k<(fm ws i).length→fm ws (cI (fm ws i) k+1)=(fm ws i).drop (k+1)
 |k,i,hk=>by
  cases e:fm ws i with
  |nil=>rw [e] at hk;simp at hk
  |cons h t=>
   obtain ⟨h1,h2,h3⟩:=zk4 e
   cases k with
   |zero=>simp [cI,h3]
   |succ k=>
    rw [e] at hk;subst h3;have:=ziU ws k (h+1) (by simpa using hk);simpa [cI] using this
theorem zhj {xs:List Nat}{k:Nat}(h:k<xs.length):zh0 (xs.drop k)=((cI xs k:Nat):Int):=by
 rw [List.drop_eq_getElem_cons h,d9 h];rfl
theorem zlF {xs:List Nat}{k:Nat}(h:zh0 (xs.drop k)<0):xs.length≤k:=by
 rcases Nat.lt_or_ge k xs.length with hk|hk
 ·rw [zhj hk] at h;omega
 ·exact hk
theorem zl5 {xs:List Nat}{k:Nat}(h:0≤zh0 (xs.drop k)):k<xs.length:=by
 rcases Nat.lt_or_ge k xs.length with hk|hk
 ·exact hk
 ·rw [List.drop_eq_nil_of_le hk] at h;simp [zh0] at h
theorem znS {α:Type}[Inhabited α]{xs:List α}{k:Nat}(h:k<xs.length):xs[k]?=some (cI xs k):=by rw [d9 h];exact List.getElem?_eq_getElem h
theorem zog {α:Type}[Inhabited α]{xs:List α}{k:Nat}{x:α}(h:xs[k]?=some x):k<xs.length∧x=cI xs k:=by
 obtain ⟨h1,h2⟩:=List.getElem?_eq_some_iff.1 h;exact ⟨h1,by rw [d9 h1,h2]⟩
def iB (l:List Nat):List Value:=l.map fun j:Nat=> .int .i64 (j:Int)
theorem zlG {l:List Nat}{k:Nat}(h:k<l.length):iB (l.take (k+1))=iB (l.take k)++[.int .i64 ((cI l k:Nat):Int)]:=by
 unfold iB;rw [List.take_succ_eq_append_getElem h,d9 h,List.map_append];rfl
theorem zlf (l:List Nat):iB l=(l.map fun j:Nat=>(j:Int)).flatMap Ie:=by
 unfold iB
 induction l with
 |nil=>rfl
 |cons x r ih=>simp_all [Ie]
@[irreducible] def de (m:BitVec 64):List Nat:=(List.range' 0 64).filter m.getLsbD
theorem zeM {m:BitVec 64}(h:m≠0#64):de m=ctz m :: de (m &&& (m - 1#64)):=by
 have hc:=zg1 h
 have e:List.range' 0 64=List.range' 0 (ctz m)++(ctz m :: List.range' (ctz m+1) (64 - (ctz m+1))):=by
  rw [show ctz m :: List.range' (ctz m+1) (64 - (ctz m+1))=List.range' (ctz m) (64 - ctz m) from by rw [show 64 - ctz m=(64 - (ctz m+1))+1 by omega,List.range'_succ]];have:=List.range'_append (s:=0) (m:=ctz m) (n:=64 - ctz m) (step:=1);rw [Nat.one_mul,Nat.zero_add,show ctz m+(64 - ctz m)=64 by omega] at this;exact this.symm
 have z:∀f:Nat→Bool,(∀j,j<ctz m→f j=false)→(List.range' 0 (ctz m)).filter f=[]:=fun f hf=>by
  rw [List.filter_eq_nil_iff];intro j hj;obtain ⟨_,h2⟩:=List.mem_range'_1.1 hj;rw [hf j a6];simp
 unfold de;rw [e,List.filter_append,List.filter_append,z _ (fun j hj=>(zea h j).2 hj),z _ (fun j hj=>by rw [zfo h,(zea h j).2 hj];rfl),List.filter_cons_of_pos (by simpa using (zea h 0).1),List.filter_cons_of_neg (by rw [zfo h];simp)];simp only [List.nil_append]
 congr 1
 apply List.filter_congr;intro j hj;obtain ⟨h1,_⟩:=List.mem_range'_1.1 hj;rw [zfo h,decide_eq_false a6];simp
theorem zky (m:BitVec 64):(de m).length≤64:=by
 unfold de;have:=List.length_filter_le m.getLsbD (List.range' 0 64);rw [List.length_range'] at this;exact this
theorem zjq:de 0#64=[]:=by
 unfold de;rw [List.filter_eq_nil_iff];intro j _;simp
theorem znI (ws:Ws)(hws:ws.length=8)(w:World):Calls Tryz.prog 133 #[.agg ws.cells.toArray] w fun e w'=>e= .returned (.int .i64 (kH ws 8:Int))∧Below w.heap.size w w':=by
 refine dA (M:=fun _=>False) (hs:=[]) Tryz.func133 rfl rfl rfl (Hp.refl _ _) ?_;refine df ?_; (refine cN (Wt.none) rfl rfl (dC) ?_;rintro _ _ ⟨g1,rfl,rfl⟩);refine gn ?_;refine kA ?_;refine fg ?_;refine q2W ?_;refine di ?_;refine cS (T.block ?_);refine T.loop (ι:=Nat) (fun k=>[(3, .int .i64 (kH ws k:Int)),(7, .agg ws.cells.toArray),(8, .int .i64 (k:Int))]) (fun k=>[]) (fun k=>k≤8) (fun k=>8 - k) 0 ?_ ?_ ?_ ?_
 ·omega
 ·exact (by repeat (first|exact Sub.nil|refine Sub.cons rfl ?_))
 ·exact Sx
 ·intro k hphi;have hle:=zi8 ws k;refine fA ?_;refine T.cond rfl (fun h1=>?_) (fun h1=>?_)
  ·have p1:=h1; (try simp only [cT] at p1);have hld:=Ws.get (ws:=ws) (i:=k) (p:=k) a6 rfl;have hp8:=zjN (cI ws k);refine fS ?_;refine cL (Yv.bO rfl rfl rfl rfl a6 hld) ?_;refine di ?_;refine cS (T.region ?_);refine ef ?_; (refine cN (Wt.none) rfl rfl (cM rfl rfl rfl (fun w hw=>zmR _ w)) ?_;rintro _ _ ⟨rfl,rfl⟩);refine q0e ?_;refine di ?_;refine mu ?_;exact K.next (k+1) a6 a6 (by repeat (first|exact Sub.nil|refine Sub.cons rfl ?_|(refine dU rfl (by rw [ziq a6];omega) ?_))) Sx
  ·have p1:=h1; (try simp only [cT] at p1);refine mC ?_;refine jS ?_;exact cV rfl rfl (fun w' hw=>⟨zc1 (by rw [show k=8 by omega]),hw.isBelow⟩)
theorem zn4 (ws:Ws)(hws:ws.length=8)(i:Nat)(hi:i<512)(w:World):Calls Tryz.prog 136 #[.agg ws.cells.toArray, .int .i64 (i:Int)] w fun e w'=>e= .returned (.tuple #[.agg (Ws.cells (dY ws i)).toArray, .int .i64 0])∧Below w.heap.size w w':=by
 have hld:=Ws.get (ws:=ws) (i:=i / 64) (p:=0+0+i / 64*1) a6 a6;refine dA (M:=fun _=>False) (hs:=[]) Tryz.func136 rfl rfl rfl (Hp.refl _ _) ?_;refine df ?_; (refine cN (Wt.none) rfl rfl (dC) ?_;rintro _ _ ⟨g2,rfl,rfl⟩); (refine cN (Wt.none) rfl rfl (Ew.alloc) ?_;rintro _ _ ⟨g4,rfl,rfl⟩);refine kA ?_;refine di ?_; (refine cN (Wt.none) rfl rfl (cM rfl rfl rfl (fun w hw=>zeL _ _)) ?_;rintro _ _ ⟨rfl,rfl⟩);refine dM ?_;refine iy rfl (by rw [inB,decide_eq_true (show (0:Int)≤(i:Int) by omega),decide_eq_true (show (i:Int)≤511 by omega)];rfl) ?_;refine ke ?_;refine dF (sN 0 4 (sN 5 3 (.still 9 (.eff 4 (.still 8 (.still 10 (.eff 11 .done))))))) [.row g4 101 (Ws.cells fB)] a8 Sx ?_;refine eY ?_;refine cO rfl (lY rfl rfl rfl a6) ?_;refine gg ?_;refine cO rfl (ei rfl rfl rfl (show (i:Int) / 64=((i / 64:Nat):Int) from by omega) a6) ?_;refine eY ?_;refine cO rfl (kF rfl rfl rfl a6) ?_;refine cO rfl (iH (a:=1#64) (i % 64) rfl rfl rfl a6 a6) ?_;refine lM ?_;refine eE rfl (Wt.none) rfl rfl (cY 1 rfl rfl rfl hld) Sx ?_;refine cO rfl (jw) ?_;refine cO rfl (ei rfl rfl rfl (show (i:Int) / 64=((i / 64:Nat):Int) from by omega) a6) ?_;refine dw ?_; (refine dJ rfl (Wt.none) rfl (iV 1 (Ws.cells (dY ws i)) rfl rfl rfl rfl (by rw [List.length_map,hws];omega) (Ws.put a6)) ?_;rintro _ _ ⟨rfl,rfl⟩;refine ⟨Sx,?_⟩);refine ij ?_;refine K.seq (df ?_);refine cL (gA 1 rfl rfl rfl (by rw [List.length_map,lx,hws])) ?_; (refine dO (Wt.none) rfl (dH 0 rfl rfl rfl rfl (by rw [List.length_map,lx,hws]) (by rw [List.length_map,lx,hws];rfl)) ?_;rintro _ _ ⟨rfl,rfl⟩);refine fI ?_;exact jO 0 rfl rfl rfl rfl (by rw [List.length_map,lx,hws]) (fun w' hw=>⟨rfl,hw.isBelow⟩)
theorem zjQ (ws:Ws)(hws:ws.length=8)(i:Nat)(z:Int)(hz:z=(i:Int))(w:World)(ht:Tab w):Calls Tryz.prog 160 #[.agg ws.cells.toArray, .int .i64 z] w fun e w'=>e= .returned (.int .i64 (zh0 (fm ws i)))∧Below w.heap.size w w':=by
 subst hz;refine dA (M:=fun _=>False) (hs:=[]) Tryz.func160 rfl rfl rfl (Hp.refl _ _) ?_;refine df ?_; (refine cN (Wt.none) rfl rfl (dC) ?_;rintro _ _ ⟨g2,rfl,rfl⟩);refine kA ?_;refine jm ?_;refine iy rfl (decide_eq_false a6) ?_;refine jT ?_;refine jm ?_;refine T.cond rfl (fun h1=>?_) (fun h1=>?_)
 ·have p1:=h1; (try simp only [cT] at p1);refine jc ?_;exact cV rfl rfl (fun w' hw=>⟨zc1 (by rw [zgH (fun j h1 h2=>by omega)];rfl),hw.isBelow⟩)
 ·have p1:=h1; (try simp only [cT] at p1);have hld:=Ws.get (ws:=ws) (i:=i / 64) (p:=0+0+i / 64*1) a6 a6;refine ja ?_;refine di ?_;refine cL (lY rfl rfl rfl a6) ?_;refine gn ?_;refine di ?_;refine fg ?_;refine cL (ei rfl rfl rfl (show (i:Int) / 64=((i / 64:Nat):Int) from by omega) a6) ?_;refine cL (cY 0 rfl rfl rfl hld) ?_;refine di ?_;refine cL (kF rfl rfl rfl a6) ?_;refine cL (gW (i % 64) rfl rfl rfl a6 a6) ?_;refine di ?_;refine cL (kF rfl rfl rfl a6) ?_;refine cL (iH (i % 64) rfl rfl rfl a6 a6) ?_;refine di ?_;refine cS (T.seq (T.block ?_));refine T.loop (ι:=Nat×BitVec 64) (fun x=>[(2, .pointer (some ⟨g2,0,none⟩)),(5, .int .i64 (x.1:Int)),(6,U x.2)]) (fun x=>[.row g2 101 ws.cells]) (fun x=>NxInv ws i x.1 x.2) (fun x=>8 - x.1) (i / 64,(cI ws (i / 64) >>> (i % 64)) <<< (i % 64)) ?_ ?_ ?_ ?_
  ·exact NxInv.start a6
  ·exact (by repeat (first|exact Sub.nil|refine Sub.cons rfl ?_|(refine dU rfl a6 ?_)))
  ·exact Sx
  ·intro x hphi;obtain ⟨a,b⟩:=x;dsimp only at hphi ⊢;have hlt0:=hphi.lt;refine iZ ?_;refine cS ?_;refine T.cond rfl (fun h2=>?_) (fun h2=>?_)
   ·have p2:=h2; (try simp only [cT] at p2); (have hb0:b=0#64:=by rw [znO] at h2;exact of_decide_eq_true h2);subst hb0;refine T.skip (K.seq (T.block (df ?_)));refine di ?_;refine q0e ?_;refine kA ?_;refine jm ?_;refine T.cond rfl (fun h3=>?_) (fun h3=>?_)
    ·have p3:=h3; (try simp only [cT] at p3);refine gM ?_;refine cS (T.ret (dV (eu (dV (eu (dV ?_))))));exact cV rfl rfl (fun w' hw=>⟨zc1 (by rw [hphi.over a6];rfl),hw.isBelow⟩)
    ·have p3:=h3; (try simp only [cT] at p3);have hlt8:=hphi.lt;have hld:=Ws.get (ws:=ws) (i:=a+1) (p:=0+0+(a+1) *1) a6 a6;refine T.skip (K.seq (T.region ?_));refine di ?_;refine fg ?_;refine cL (ei rfl rfl rfl (show (a:Int)+1=((a+1:Nat):Int) from by omega) a6) ?_;refine cL (cY 0 rfl rfl rfl hld) ?_;refine di ?_;refine TL.nil (fv ?_);exact K.next (a+1,cI ws (a+1)) (hphi.next a6) (by show 8 - (a+1)<8 - a;omega) (by repeat (first|exact Sub.nil|refine Sub.cons rfl ?_|(refine dU rfl a6 ?_))) Sx
   ·have p2:=h2; (try simp only [cT] at p2); (have hb0:b≠0#64:=by rw [znO] at h2;exact of_decide_eq_false h2);have hcz:=zg1 hb0;have hlt8:=hphi.lt;refine mC ?_;refine di ?_;refine cL (Yv.ct rfl rfl rfl a6) ?_;refine di ?_; (refine cN (Wt.none) rfl rfl (cM rfl rfl rfl (fun w hw=>zlS b hb0 w (ht.keptF hw))) ?_;rintro _ _ ⟨rfl,rfl⟩);refine q0e ?_;refine fI ?_;exact cV rfl rfl (fun w' hw=>⟨zc1 (by rw [hphi.found hb0];simp only [zh0];omega),hw.isBelow⟩)
theorem zod (ws:Ws)(hws:ws.length=8)(w:World)(ht:Tab w):Calls Tryz.prog 159 #[.agg ws.cells.toArray] w fun e w'=>e= .returned (.int .i64 (zh0 (fj ws)))∧Below w.heap.size w w':=by
 refine dA (M:=fun _=>False) (hs:=[]) Tryz.func159 rfl rfl rfl (Hp.refl _ _) ?_;refine df ?_; (refine cN (Wt.none) rfl rfl (dC) ?_;rintro _ _ ⟨g1,rfl,rfl⟩);refine gn ?_;refine q2W ?_; (refine cN (Wt.none) rfl rfl (cM rfl rfl rfl (fun w hw=>zjQ ws hws 0 0 rfl w (ht.keptF hw))) ?_;rintro _ _ ⟨rfl,rfl⟩);refine fI ?_;refine cV rfl rfl (fun w' hw=>⟨?_,hw.isBelow⟩)
 rfl
theorem zof (ws:Ws)(hws:ws.length=8)(w:World):Calls Tryz.prog 134 #[.agg ws.cells.toArray] w fun e w'=>∃x:Nat,True∧e= .returned (.func (.func 158) #[] #[.pointer (some ⟨x,0,none⟩)])∧Hp w (fun _=>False) [.row x 101 ws.cells] w':=by
 refine dA (M:=fun _=>False) (hs:=[]) Tryz.func134 rfl rfl rfl (Hp.refl _ _) ?_;refine df ?_; (refine cN (Wt.none) rfl rfl (dC) ?_;rintro _ _ ⟨g1,rfl,rfl⟩);refine gn ?_;refine jS ?_;exact cV rfl rfl (fun w' hw=>⟨g1,trivial,rfl,hw⟩)
theorem zng (ws:Ws)(hws:ws.length=8)(p:Nat)(B:World)(M:Nat→Prop)(ht:Tab B)(hM0:¬M 0):IterAt Tryz.prog 158 [.pointer (some ⟨p,0,none⟩)] (fun j:Nat=>[.int .i64 (j:Int)]) (fj ws) [.row p 101 ws.cells] B M:=by
 intro G Z l W g0 hy hG0 hW;refine zhJ (B:=B) (M:=M) Tryz.func158 rfl rfl rfl hW ?_;refine df ?_;refine q2W ?_; (refine cN (Wt.none) rfl rfl (cM rfl rfl rfl (fun w hw=>zod ws hws w (ht.kept hw hM0))) ?_;rintro _ _ ⟨rfl,rfl⟩);refine di ?_;refine cS (T.block ?_);refine T.loop (ι:=Nat×HS) (fun x=>[(0, .func (.yield l) #[] #[]),(1, .pointer (some ⟨p,0,none⟩)),(3, .int .i64 (zh0 ((fj ws).drop x.1)))]) (fun x=>[.row p 101 ws.cells]++x.2) (fun x=>x.1≤(fj ws).length∧G x.1 x.2) (fun x=>(fj ws).length - x.1) (0,g0) ?_ ?_ ?_ ?_
 ·exact ⟨by simp,hG0⟩
 ·exact (by repeat (first|exact Sub.nil|refine Sub.cons rfl ?_))
 ·exact eX
 ·intro x hphi;obtain ⟨k,g⟩:=x;dsimp only at hphi ⊢;obtain ⟨hkn,hG⟩:=hphi;refine iZ ?_;refine cS ?_;refine T.cond rfl (fun h1=>?_) (fun h1=>?_)
  ·have p1:=h1; (try simp only [cT] at p1);have hk:=zl5 p1;have h512:cI (fj ws) k<512:=(fX.1 (i4 hk)).2.1;rw [zhj hk];refine na ?_;refine TL.bW (Wt.none) rfl rfl rfl rfl rfl hy (znS hk) hG (enc:=fun j:Nat=>[.int .i64 (j:Int)]) (x:=cI (fj ws) k) (i:=k) ?_ ?_
   ·intro g' hG';refine dM ?_;refine iy rfl rfl ?_;refine q0q ?_;refine q2W ?_;refine di ?_;refine q0e ?_; (refine cN (Wt.none) rfl rfl (cM rfl rfl rfl (fun w hw=>zjQ ws hws (cI (fj ws) k+1) _ a6 w (ht.kept hw hM0))) ?_;rintro _ _ ⟨rfl,rfl⟩);refine di ?_;refine ep ?_;exact K.next (k+1,g') ⟨by dsimp only;omega,hG'⟩ (by dsimp only;omega) (by rw [←ziU ws k 0 hk];exact (by repeat (first|exact Sub.nil|refine Sub.cons rfl ?_))) (List.Sublist.refl _)
   ·intro z hZ;refine dM ?_;refine kn rfl rfl ?_;refine T.ret (eu (dV (dV (eu ?_))));exact K.bR rfl (fun w' hw hkp=>⟨⟨_,rfl⟩,hkp, .inr ⟨z,hZ,hw⟩⟩)
  ·have p1:=h1; (try simp only [cT] at p1);have hk:=zlF p1;refine fx ?_;exact K.bS rfl (fun w' hw hkp=>⟨⟨_,rfl⟩,hkp, .inl ⟨g,by rw [show (fj ws).length=k from by omega];exact hG,hw⟩⟩)
theorem zjP (ws:Ws)(hws:ws.length=8)(w:World)(ht:Tab w):Calls Tryz.prog 115 #[.agg ws.cells.toArray] w fun e w'=>∃v:Value,True∧e= .returned v∧Hp w (fun _=>False) [.sl v 3 1 (fj ws).length (iB (fj ws))] w':=by
 have hsl8:=zi8 ws 8;have hml:=zf7 ws 0;refine dA (M:=fun _=>False) (hs:=[]) Tryz.func115 rfl rfl rfl (Hp.refl _ _) ?_;refine df ?_; (refine cN (Wt.none) rfl rfl (dC) ?_;rintro _ _ ⟨g1,rfl,rfl⟩);refine gn ?_;refine q2W ?_; (refine cN (Wt.none) rfl rfl (cM rfl rfl rfl (fun w hw=>znI ws hws w)) ?_;rintro _ _ ⟨rfl,rfl⟩); (refine cN (Wt.none) rfl rfl (Ew.bF rfl rfl rfl rfl a6 a6) ?_;rintro _ _ ⟨g7,rfl,rfl⟩); (refine cN (Wt.none) rfl rfl (Ew.alloc) ?_;rintro _ _ ⟨g3,rfl,rfl⟩); (refine dO (Wt.none) rfl (ed 0 rfl rfl rfl rfl a7) ?_;rintro _ _ ⟨rfl,rfl⟩);refine i7 ?_;refine cL (gA 2 rfl rfl rfl (by rw [List.length_map,hws])) ?_; (refine cN (Wt.none) rfl rfl (iU rfl rfl rfl (fun w hw=>zof ws hws _)) ?_;rintro _ _ ⟨b9, -,rfl,rfl⟩);refine fT ?_;refine cS (T.block ?_);refine T.bE (α:=Nat) ((fun j:Nat=>[.int .i64 (j:Int)])) (fj ws) ([.row b9 101 ws.cells]) (fun i g=>∃v,g=[.row g3 57 [v], .sl v 3 1 i (iB ((fj ws).take i))]) (fun _ _=>False) (fun x=>[(3, .pointer (some ⟨g3,0,none⟩)),(4, .int .i64 (x:Int))]) (_) (⟨_,rfl⟩) rfl (zng ws hws b9 _ _ ht (fun h=>h)) a7 (fun _=>rfl) (by exact Sx) ?_ ?_ ?_ ?_
 ·intro l i x X D g hx;refine jE ?_;refine ep ?_;exact K.at (by repeat (first|exact Sub.nil|refine Sub.cons rfl ?_)) (List.Sublist.refl _)
 ·intro l i x X D g hx hG;obtain ⟨v,rfl⟩:=hG;obtain ⟨hi,rfl⟩:=zog hx;have hi2:i<(fm ws 0).length:=hi;refine fT ?_;refine T.block (T.region ?_);refine cL (cY 1) ?_;refine di ?_; (refine cN (Wt.none) rfl rfl (Ew.buildSlice rfl rfl rfl a7) ?_;rintro _ _ ⟨g13,rfl,rfl⟩); (refine cN (Wt.none) rfl rfl (Ew.append 3 0 rfl rfl rfl rfl rfl rfl a6 a6) ?_;rintro v14 _ ⟨hv14,rfl⟩); (refine dO (Wt.none) rfl (ed 2 rfl rfl rfl rfl b5) ?_;rintro _ _ ⟨rfl,rfl⟩);refine TL.nil (fv ?_);exact K.round _ ⟨_,rfl,v14,rfl⟩ (by rw [zlG hi];exact Sx)
 ·intro g hG;obtain ⟨v,rfl⟩:=hG;refine fT ?_;rw [List.take_length];refine fv (K.seq (df ?_));refine cL (cY 1) ?_;refine fI ?_;exact cV rfl rfl (fun w' hw=>⟨_,trivial,rfl,hw.sub Sx⟩)
 ·intro c y hz;exact hz.elim
theorem jN {w:World}{v:Value}{e:TypeId}{size k:Nat}{l:List Value}(h:(Ent.sl v e size k l).ok w):OneC v:=by
 rcases (cU.1 h).2 with ⟨rfl,_⟩|⟨g,cap,cur,rfl,_⟩ <;> exact inferInstance
theorem ziP (m:BitVec 64)(w:World)(ht:Tab w):Calls Tryz.prog 124 #[U m] w fun e w'=>∃v:Value,OneC v∧e= .returned v∧Hp w (fun _=>False) [.sl v 3 1 (de m).length (iB (de m))] w':=by
 have hcl:=zky m;refine dA (M:=fun _=>False) (hs:=[]) Tryz.func124 rfl rfl rfl (Hp.refl _ _) ?_;refine kZ ?_;refine cS (T.seq (T.block ?_));refine T.slNil 3 1 ?_;refine T.loop (ι:=BitVec 64×List Nat×Value) (fun x=>[(0,U x.1),(3,x.2.2)]) (fun x=>[.sl x.2.2 3 1 x.2.1.length (iB x.2.1)]) (fun x=>x.2.1++de x.1=de m) (fun x=>(de x.1).length) (m,[], .slice none 0 0) ?_ ?_ ?_ ?_
 ·rfl
 ·exact (by repeat (first|exact Sub.nil|refine Sub.cons rfl ?_))
 ·exact Sx
 ·intro x hphi;obtain ⟨b,l,v⟩:=x;dsimp only at hphi ⊢; (have hll:l.length+(de b).length=(de m).length:=by rw [←hphi,List.length_append]);refine iZ ?_;refine cS ?_;refine T.cond rfl (fun h1=>?_) (fun h1=>?_)
  ·have p1:=h1; (try simp only [cT] at p1); (have hb0:b≠0#64:=by rintro rfl;exact p1 rfl);have hst:=zeM hb0;refine T.skip (K.seq (T.seq (T.block (T.region ?_))));refine ef ?_; (refine cN (Wt.none) rfl rfl (cM rfl rfl rfl (fun w hw=>zlS b hb0 w (ht.keptF hw))) ?_;rintro _ _ ⟨rfl,rfl⟩); (refine cN (Wt.none) rfl rfl (Ew.buildSlice rfl rfl rfl a7) ?_;rintro _ _ ⟨g13,rfl,rfl⟩); (refine cN (Wt.none) rfl rfl (Ew.append 1 0 rfl rfl rfl rfl rfl rfl a6 a6) ?_;rintro v14 _ ⟨hv14,rfl⟩);refine di ?_;refine q05 ?_;refine ef ?_;refine cL (Yv.ci (b:=1#64) rfl rfl rfl) ?_;refine cL (gu) ?_;refine di ?_;refine ep ?_;exact K.next (b &&& (b - 1#64),l++[ctz b],v14) (by dsimp only;rw [List.append_assoc,List.singleton_append,←zeM hb0];exact hphi) (by dsimp only;rw [zeM hb0];simp) (by repeat (first|exact Sub.nil|refine Sub.cons rfl ?_)) (by simp only [List.length_append,List.length_singleton,iB,List.map_append,List.map_cons,List.map_nil];exact Sx)
  ·have p1:=h1; (try simp only [cT] at p1); (have hb0:b=0#64:=by refine BitVec.eq_of_toNat_eq ?_;show b.toNat=0;omega);subst hb0;rw [zjq,List.append_nil] at hphi;subst hphi;refine mC ?_;refine jS ?_;exact cV rfl rfl (fun w' hw=>⟨_,jN (hw.get (i:=0) rfl),rfl,hw.sub Sx⟩)
structure Tb where
 st:List Int
 ix:Nat→Int
 total:Int
 vps:List Value
 ps:Nat→List Pr
 vcs:List Value
 cs:Nat→List Cp
 vin:List Value
 inn:Nat→List Ld
 vout:List Value
 out:Nat→List Ld
abbrev Tb.n (T:Tb):Nat:=T.st.length
structure Lists {α:Type} (w:World) (p:Addr) (enc:α→List Value) (size:Nat) (vs:List Value) (n:Nat) (f:Nat→List α):Prop where
 at':∃v,w.cell? p=some v∧SlOf w v (fun u=>[u]) 1 vs
 len:vs.length=n
 each:∀i,i<n→SlOf w (cI vs i) enc size (f i)
structure TablesAt (w:World) (tp:Nat) (T:Tb):Prop where
 st:∃v,w.cell? ⟨tp,0,none⟩=some v∧zgF w v T.st
 ix:∀j,j<512→w.cell? ⟨tp,1+j,none⟩=some (.int .i64 (T.ix j))
 total:w.cell? ⟨tp,513,none⟩=some (.int .i64 T.total)
 ps:Lists w ⟨tp,514,none⟩ Pr.cells 5 T.vps T.n T.ps
 cs:Lists w ⟨tp,515,none⟩ Cp.cells 4 T.vcs T.n T.cs
 inn:Lists w ⟨tp,516,none⟩ Ld.cells 5 T.vin T.n T.inn
 out:Lists w ⟨tp,517,none⟩ Ld.cells 5 T.vout T.n T.out
structure Tb.Ok (T:Tb):Prop where
 n:T.n≤512
 ps:∀i,i<T.n→(T.ps i).length≤4096∧∀x∈T.ps i,0≤x.a∧x.a<T.n∧0≤x.b∧x.b<T.n∧ -1≤x.off∧x.off≤1∧2≤x.lo∧x.lo≤x.hi∧x.hi≤51∧(x.a=i∨x.b=i)
 cs:∀i,i<T.n→(T.cs i).length≤1024∧∀x∈T.cs i,0≤x.mx∧x.mx≤1099511627776∧2≤x.lo∧x.lo≤x.hi∧x.hi≤51
 inn:∀i,i<T.n→(T.inn i).length≤1024∧∀x∈T.inn i,x.to=i∧0≤x.fr∧x.fr<T.n∧1≤x.wt∧x.wt≤1073741824∧2≤x.lo∧x.lo≤x.hi∧x.hi≤51
 psS:∀i,i<T.n→∀x∈T.ps i,x.a≠x.b∧x∈T.ps x.a.toNat∧x∈T.ps x.b.toNat
 innS:∀i,i<T.n→∀x∈T.inn i,x.to≠x.fr∧x∈T.out x.fr.toNat
 outS:∀i,i<T.n→∀x∈T.out i,x.to≠x.fr∧x∈T.inn x.to.toNat
 out:∀i,i<T.n→(T.out i).length≤1024∧∀x∈T.out i,x.fr=i∧0≤x.to∧x.to<T.n∧1≤x.wt∧x.wt≤1073741824∧2≤x.lo∧x.lo≤x.hi∧x.hi≤51
def jF (w:World)(g:Nat):Prop:=∃cs t p,w.heap[g]?=some (.cells cs t p)
def Fz (w0 w:World):Prop:=∀g,jF w0 g→w.heap[g]?=w0.heap[g]?
theorem zep {w:World}{p:Addr}{v:Value}(h:w.cell? p=some v):jF w p.block:=by
 unfold World.cell? at h
 split at h
 ·rename_i hh;exact ⟨_,_,_,hh⟩
 ·cases h
theorem Fz.cell {w w':World}(hb:Fz w w'){p:Addr}{v:Value}(h:w.cell? p=some v):w'.cell? p=some v:=(World.cell?_of_block (w:=w) (hb _ (zep h))).trans h
theorem Fz.cs {w w':World}(hb:Fz w w'){g p:Nat}{l:List Value}(h:Cs w g p l):Cs w' g p l:=fun j hj=>by
 have:=h j hj;rw [List.getElem?_eq_getElem hj] at this ⊢;exact hb.cell this
theorem i6 {w:World}{g p:Nat}{l:List Value}(h:Cs w g p l)(hl:0<l.length):jF w g:=by
 have:=h 0 hl;rw [List.getElem?_eq_getElem hl] at this;exact zep this
theorem Fz.sl {α:Type}{w w':World}(hb:Fz w w'){v:Value}{enc:α→List Value}{size:Nat}{xs:List α}(h:SlOf w v enc size xs):SlOf w' v enc size xs:=by
 obtain ⟨A,cap,rfl,hc⟩:=h;refine ⟨A,cap,rfl,fun hp=>?_⟩;obtain ⟨g,off,rfl,hcs⟩:=hc hp;exact ⟨g,off,rfl,fun i hi=>hb.cs (hcs i hi)⟩
theorem ig {w w':World}(hb:Below w.heap.size w w'):Fz w w':=fun g ⟨cs,t,p,h⟩=>hb.block g (Array.getElem?_eq_some_iff.1 h).1
theorem Fz.hp {w0 w w':World}{M:Nat→Prop}{hs:HS}(h:Fz w0 w)(hw:Hp w M hs w')(h0:∀g,M g→¬jF w0 g):Fz w0 w':=fun g hg=>by
 have h1:=h g hg;obtain ⟨cs,t,p,e⟩:=hg;rw [←h1];refine hw.base g ?_ (fun hm=>h0 g hm ⟨cs,t,p,e⟩);rw [e] at h1;exact (Array.getElem?_eq_some_iff.1 h1).1
theorem Lists.later {α:Type}{w w':World}(hb:Fz w w'){p:Addr}{enc:α→List Value}{size:Nat}{vs:List Value}{n:Nat}{f:Nat→List α}(h:Lists w p enc size vs n f):Lists w' p enc size vs n f:=
 ⟨by obtain ⟨v,h1,h2⟩:=h.at';exact ⟨v,hb.cell h1,hb.sl h2⟩,h.len,fun i hi=>hb.sl (h.each i hi)⟩
theorem TablesAt.later {w w':World}(hb:Fz w w'){tp:Nat}{T:Tb}(h:TablesAt w tp T):TablesAt w' tp T:=
 ⟨by obtain ⟨v,h1,h2⟩:=h.st;exact ⟨v,hb.cell h1,hb.sl h2⟩,fun j hj=>hb.cell (h.ix j hj),hb.cell h.total,h.ps.later hb,h.cs.later hb,h.inn.later hb,h.out.later hb⟩
def Le (b:BitVec 64):List Value:=[U b]
structure StateAt (w:World) (sp:Nat) (T:Tb) (L:Ws) (c:Bool):Prop where
 tab:Tab w
 tb:∃tp,w.cell? ⟨sp,0,none⟩=some (.pointer (some ⟨tp,0,none⟩))∧TablesAt w tp T
 left:∃v,w.cell? ⟨sp,1,none⟩=some v∧SlOf w v Le 1 L
 len:L.length=T.n
 con:w.cell? ⟨sp,2,none⟩=some (.bool c)
theorem StateAt.later {w w':World}(hb:Below w.heap.size w w'){sp:Nat}{T:Tb}{L:Ws}{c:Bool}(h:StateAt w sp T L c):StateAt w' sp T L c:=
 have hf:=ig hb
 ⟨h.tab.keptF (il hb),by obtain ⟨tp,h1,h2⟩:=h.tb;exact ⟨tp,hf.cell h1,h2.later hf⟩,by obtain ⟨v,h1,h2⟩:=h.left;exact ⟨v,hf.cell h1,hf.sl h2⟩,h.len,hf.cell h.con⟩
theorem StateAt.kept {B w:World}{hs:HS}{sp:Nat}{T:Tb}{L:Ws}{c:Bool}(hw:Hp B (fun _=>False) hs w)(h:StateAt B sp T L c):StateAt w sp T L c:=h.later ⟨hw.os,hw.tape,hw.output,hw.size,fun k hk=>hw.base k hk (fun h=>h)⟩
def i8 (b:BitVec 64):Nat:=if b≠0#64∧b &&& (b - 1#64)=0#64 then ctz b else 0
def only (L:Ws)(i:Nat):Nat:=i8 (cI L i)
theorem zmZ (b:BitVec 64):i8 b<64:=by
 unfold i8;split
 ·rename_i h;exact zg1 h.1
 ·decide
theorem zhw (L:Ws)(i:Nat):only L i<64:=zmZ _
def mG (L:Ws)(i:Nat)(g:BitVec 64)(x:Pr):BitVec 64:=
 if x.a=(i:Int) then
  if (only L x.b.toNat:Int)≠0∧x.lo≤(only L x.b.toNat:Int) - x.off∧(only L x.b.toNat:Int) - x.off≤x.hi then g ||| 1#64 <<< ((only L x.b.toNat:Int) - x.off).toNat else g
 else if x.lo≤(only L x.a.toNat:Int)∧(only L x.a.toNat:Int)≤x.hi then g ||| 1#64 <<< ((only L x.a.toNat:Int)+x.off).toNat else g
def me (T:Tb)(L:Ws)(i:Nat):BitVec 64:=(T.ps i).foldl (mG L i) 0#64
theorem ju {α β:Type}[Inhabited α](f:β→α→β)(z:β){l:List α}{k:Nat}(h:k<l.length):(l.take (k+1)).foldl f z=f ((l.take k).foldl f z) (cI l k):=by
 rw [List.take_succ_eq_append_getElem h,d9 h,List.foldl_append];rfl
theorem zmV {b:BitVec 64}(h1:¬(b.toNat:Int)=0)(h2:((b &&& (b - 1#64)).toNat:Int)=0):i8 b=ctz b:=by
 unfold i8;rw [if_pos ⟨by rintro rfl;exact h1 rfl,BitVec.eq_of_toNat_eq (by show _=0;omega)⟩]
theorem znL {b:BitVec 64}(h2:¬((b &&& (b - 1#64)).toNat:Int)=0):i8 b=0:=by
 unfold i8;rw [if_neg (fun h=>h2 (by rw [h.2];rfl))]
theorem zmT {b:BitVec 64}(h1:(b.toNat:Int)=0):i8 b=0:=by
 unfold i8;rw [if_neg (fun h=>h.1 (BitVec.eq_of_toNat_eq (by show _=0;omega)))]
theorem zdp (sp:Nat)(Y:Tb)(L:Ws)(c:Bool)(i:Nat)(z:Int)(hz:z=(i:Int))(hi:i<Y.n)(w:World)(h:StateAt w sp Y L c):Calls Tryz.prog 132 #[.pointer (some ⟨sp,0,none⟩), .int .i64 z] w fun e w'=>e= .returned (.int .i64 (only L i:Int))∧Below w.heap.size w w':=by
 subst hz;obtain ⟨tp,hsp0,hT⟩:=h.tb;obtain ⟨vL,hsp1,hL⟩:=h.left;obtain ⟨AL,capL,rfl,hLs⟩:=hL.op;have hLn:=h.len;obtain ⟨gL,oL,rfl,hc⟩:=hLs a6;have hk:=hc i a6;simp only [Le] at hk;refine dA (M:=fun _=>False) (hs:=[]) Tryz.func132 rfl rfl rfl (Hp.refl _ _) ?_;refine gM ?_;refine i7 ?_;refine ef ?_;refine fg ?_;refine cL (dP rfl rfl b7 (fun h=>h)) ?_;refine di ?_;refine q1S ?_;refine gn ?_;refine ft ?_;refine dv rfl rfl rfl (fun h1=>?_) (fun h1=>?_)
 ·have p1:=h1; (try simp only [cT] at p1);refine jV ?_;refine jV ?_;refine cZ (Wt.some rfl rfl rfl h1) rfl rfl (Yv.ci (b:=1#64) rfl rfl rfl) ?_;refine cZ (Wt.some rfl rfl rfl h1) rfl rfl (gu) ?_;refine jV ?_;refine la ?_;refine cS ?_;refine T.cond rfl (fun h2=>?_) (fun h2=>?_)
  ·have p2:=h2; (try simp only [cT] at p2); (have hne:cI L i≠0#64:=by intro hh;rw [hh] at p1;exact p1 rfl);refine gM ?_; (refine cN (Wt.none) rfl rfl (cM rfl rfl rfl (fun w hw=>zlS _ hne w (h.tab.keptF hw))) ?_;rintro _ _ ⟨rfl,rfl⟩);refine di ?_;refine kX ?_;exact cV rfl rfl (fun w' hw=>⟨zc1 (by rw [only,zmV p1 p2]),hw.isBelow⟩)
  ·have p2:=h2; (try simp only [cT] at p2);refine ja ?_;refine fI ?_;exact cV rfl rfl (fun w' hw=>⟨zc1 (by rw [only,znL p2];rfl),hw.isBelow⟩)
 ·have p1:=h1; (try simp only [cT] at p1);refine kl ?_;refine q1p ?_;refine nu ?_;refine ja ?_;refine fI ?_;exact cV rfl rfl (fun w' hw=>⟨zc1 (by rw [only,zmT p1];rfl),hw.isBelow⟩)
theorem zja (sp:Nat)(Y:Tb)(L:Ws)(c:Bool)(i:Nat)(z:Int)(hz:z=(i:Int))(hi:i<Y.n)(w:World)(h:StateAt w sp Y L c)(hok:Y.Ok):Calls Tryz.prog 112 #[.pointer (some ⟨sp,0,none⟩), .int .i64 z] w fun e w'=>e= .returned (U (me Y L i))∧Below w.heap.size w w':=by
 subst hz;obtain ⟨tp,hsp0,hT⟩:=h.tb;obtain ⟨vL,hsp1,hL⟩:=h.left;obtain ⟨AL,capL,rfl,hLs⟩:=hL.op;have hLn:=h.len;obtain ⟨vP,hP0,hP⟩:=hT.ps.at';obtain ⟨AP,capP,rfl,hPs⟩:=hP.op;have hPn:=hT.ps.len;obtain ⟨gP,oP,rfl,hPc⟩:=hPs a6;rw [hPn] at hP0;have hPi:=hPc i (by rw [hPn];exact hi);obtain ⟨BP,cpP,hvP,hslP⟩:=(hT.ps.each i hi).op;simp only [hvP] at hPi;obtain ⟨hlen,hrng⟩:=hok.ps i hi;have hn512:=hok.n;refine dA (M:=fun _=>False) (hs:=[]) Tryz.func112 rfl rfl rfl (Hp.refl _ _) ?_;refine kZ ?_;refine i7 ?_;refine ef ?_;refine q1V ?_;refine cL (dP rfl rfl hP0 (fun h=>h)) ?_;refine lI ?_;refine cL (d4 (j:=0) rfl rfl hPi rfl rfl (fun h=>h)) ?_;refine jG ?_;refine T.loop (ι:=Nat) (fun k=>[(0, .pointer (some ⟨sp,0,none⟩)),(1, .int .i64 (i:Int)),(5,U (((Y.ps i).take k).foldl (mG L i) 0#64)),(19, .slice BP (Y.ps i).length cpP),(20, .int .i64 ((Y.ps i).length:Int)),(21, .int .i64 (k:Int))]) (fun k=>[]) (fun k=>k≤(Y.ps i).length) (fun k=>(Y.ps i).length - k) 0 ?_ ?_ ?_ ?_
 ·omega
 ·exact (by repeat (first|exact Sub.nil|refine Sub.cons rfl ?_))
 ·exact Sx
 ·intro k hphi;refine fA ?_;refine T.cond rfl (fun h1=>?_) (fun h1=>?_)
  ·have p1:=h1; (try simp only [cT] at p1);obtain ⟨g,off,rfl,hc⟩:=hslP a6;have hk:=hc k a6;simp only [Pr.cells] at hk;have hr:=hrng _ (i4 (xs:=Y.ps i) (k:=k) a6);have oa:=zhw L (cI (Y.ps i) k).a.toNat;have ob:=zhw L (cI (Y.ps i) k).b.toNat;refine fS ?_;refine lS ?_; (refine cN (Wt.none) rfl rfl (Ew.alloc) ?_;rintro _ _ ⟨g7,rfl,rfl⟩); (refine dO (Wt.none) rfl (dH 0) ?_;rintro _ _ ⟨rfl,rfl⟩);refine du ?_;refine eB ?_;refine jm ?_;refine T.cond rfl (fun h2=>?_) (fun h2=>?_)
   ·have p2:=h2; (try simp only [cT] at p2);refine gM ?_;refine eB ?_; (refine cN (Wt.none) rfl rfl (cM rfl rfl rfl (fun w hw=>zdp sp Y L c (cI (Y.ps i) k).b.toNat _ a6 a6 w (h.kept hw))) ?_;rintro _ _ ⟨rfl,rfl⟩);refine gn ?_;refine ft ?_;refine dv rfl rfl rfl (fun h3=>?_) (fun h3=>?_)
    ·have p3:=h3; (try simp only [cT] at p3);refine q0U ?_;refine q1U ?_;refine q0U ?_;refine cZ (Wt.some rfl rfl rfl h3) rfl rfl (kz rfl rfl rfl a6) ?_;refine q1U ?_;refine q3Z ?_;refine di ?_;refine dv rfl rfl rfl (fun h4=>?_) (fun h4=>?_)
     ·have p4:=h4; (try simp only [cT] at p4);refine cZ (Wt.some rfl rfl rfl h4) rfl rfl (d6) ?_;refine q0V ?_;refine cZ (Wt.some rfl rfl rfl h4) rfl rfl (kz rfl rfl rfl a6) ?_;refine q0V ?_;refine cZ (Wt.some rfl rfl rfl h4) rfl rfl (d6) ?_;refine cL (eJ rfl rfl h4) ?_;refine cS ?_;refine T.cond rfl (fun h5=>?_) (fun h5=>?_)
      ·have p5:=h5; (try simp only [cT] at p5);refine ji ?_;refine eB ?_;refine q2m ?_;refine cL (iH (a:=1#64) ((only L (cI (Y.ps i) k).b.toNat:Int) - (cI (Y.ps i) k).off).toNat rfl rfl rfl a6 a6) ?_;refine q3T ?_;exact K.next (k+1) a6 a6 (by rw [ju _ _ a6,mG,if_pos p2,if_pos ⟨p3,p4,p5⟩];exact (by repeat (first|exact Sub.nil|refine Sub.cons rfl ?_))) Sx
      ·have p5:=h5; (try simp only [cT] at p5);refine i3 ?_;exact K.next (k+1) a6 a6 (by rw [ju _ _ a6,mG,if_pos p2,if_neg (fun hh=>absurd hh.2.2 a6)];exact (by repeat (first|exact Sub.nil|refine Sub.cons rfl ?_))) Sx
     ·have p4:=h4; (try simp only [cT] at p4);refine q0t ?_;refine q0t ?_;refine TL.off (Wt.not rfl rfl rfl h4) rfl rfl ?_;refine cL (ek rfl rfl h4) ?_;refine nu ?_;refine i3 ?_;exact K.next (k+1) a6 a6 (by rw [ju _ _ a6,mG,if_pos p2,if_neg (fun hh=>absurd hh.2.1 a6)];exact (by repeat (first|exact Sub.nil|refine Sub.cons rfl ?_))) Sx
    ·have p3:=h3; (try simp only [cT] at p3);refine q0u ?_;refine q3q ?_;refine TL.run 9 rfl ?_;refine nu ?_;refine i3 ?_;exact K.next (k+1) a6 a6 (by rw [ju _ _ a6,mG,if_pos p2,if_neg (fun hh=>hh.1 p3)];exact (by repeat (first|exact Sub.nil|refine Sub.cons rfl ?_))) Sx
   ·have p2:=h2; (try simp only [cT] at p2);refine gM ?_;refine eB ?_; (refine cN (Wt.none) rfl rfl (cM rfl rfl rfl (fun w hw=>zdp sp Y L c (cI (Y.ps i) k).a.toNat _ a6 a6 w (h.kept hw))) ?_;rintro _ _ ⟨rfl,rfl⟩);refine gn ?_;refine lr ?_;refine dv rfl rfl rfl (fun h6=>?_) (fun h6=>?_)
    ·have p6:=h6; (try simp only [cT] at p6);refine q2h ?_;refine cS ?_;refine T.cond rfl (fun h7=>?_) (fun h7=>?_)
     ·have p7:=h7; (try simp only [cT] at p7);refine ji ?_;refine eB ?_;refine q0e ?_;refine cL (iH (a:=1#64) ((only L (cI (Y.ps i) k).a.toNat:Int)+(cI (Y.ps i) k).off).toNat rfl rfl rfl a6 a6) ?_;refine q3T ?_;exact K.next (k+1) a6 a6 (by rw [ju _ _ a6,mG,if_neg p2,if_pos ⟨p6,p7⟩];exact (by repeat (first|exact Sub.nil|refine Sub.cons rfl ?_))) Sx
     ·have p7:=h7; (try simp only [cT] at p7);refine i3 ?_;exact K.next (k+1) a6 a6 (by rw [ju _ _ a6,mG,if_neg p2,if_neg (fun hh=>absurd hh.2 a6)];exact (by repeat (first|exact Sub.nil|refine Sub.cons rfl ?_))) Sx
    ·have p6:=h6; (try simp only [cT] at p6);refine q1b ?_;refine q1b ?_;refine cL (ek rfl rfl h6) ?_;refine nu ?_;refine i3 ?_;exact K.next (k+1) a6 a6 (by rw [ju _ _ a6,mG,if_neg p2,if_neg (fun hh=>absurd hh.1 a6)];exact (by repeat (first|exact Sub.nil|refine Sub.cons rfl ?_))) Sx
  ·have p1:=h1; (try simp only [cT] at p1);refine mC ?_;refine jS ?_;exact cV rfl rfl (fun w' hw=>⟨by rw [me,List.take_of_length_le a6],hw.isBelow⟩)
def ma (f:Nat→Int):List Value:=(List.range 52).map fun d=> .int .i64 (f d)
theorem zi4 (f:Nat→Int):(ma f).length=52:=by simp [ma]
theorem zgE {f:Nat→Int}{d p:Nat}(hp:p=d)(hd:d<52):(ma f)[p]?=some (.int .i64 (f d)):=by subst hp;simp [ma,hd]
theorem zjr {f f':Nat→Int}{d p:Nat}{v:Int}(hp:p=d)(hd:d<52)(h1:f' d=v)(h2:∀e,e≠d→f' e=f e):(ma f).set p (.int .i64 v)=ma f':=by
 subst hp h1;apply List.ext_getElem?;intro e;unfold ma;by_cases he:e=p
 ·subst he;rw [List.getElem?_set_self (by simpa using hd)];simp [hd]
 ·rw [List.getElem?_set_ne (fun h=>he h.symm)];simp only [List.getElem?_map,List.getElem?_range];by_cases h52:e<52
  ·simp [h52,h2 e he]
  ·simp [h52]
def j0 (L:Ws)(f:Nat→Int)(x:Ld):Nat→Int:=fun d=>if x.lo≤(only L x.fr.toNat:Int)∧(only L x.fr.toNat:Int)≤x.hi∧only L x.fr.toNat=d then f d+x.wt else f d
def iG (L:Ws)(l:List Ld):Nat→Int:=l.foldl (j0 L) (fun _=>0)
theorem zk8 (L:Ws):∀(l:List Ld),(∀x∈l,1≤x.wt∧x.wt≤1073741824)→∀(f:Nat→Int) (b:Int),(∀d,0≤f d∧f d≤b)→∀d,0≤l.foldl (j0 L) f d∧l.foldl (j0 L) f d≤b+1073741824* (l.length:Int)
 | [],_,f,b,hf,d=>by simpa using hf d
 |x :: r,hx,f,b,hf,d=>by
  have h1:=hx x b2
  have:=zk8 L r (fun y hy=>hx y (by simp [hy])) (j0 L f x) (b+1073741824) (fun e=>by
   have:=hf e
   unfold j0;split <;> omega) d
  simp only [List.foldl_cons,List.length_cons];omega
def zhU (f:Nat→Int)(mx:Int)(g:BitVec 64)(d:Nat):BitVec 64:=if mx<f d then g ||| 1#64 <<< d else g
def zeE (f:Nat→Int)(g:BitVec 64)(x:Cp):BitVec 64:=(List.range' x.lo.toNat (x.hi.toNat+1 - x.lo.toNat)).foldl (zhU f x.mx) g
def kQ (Y:Tb)(L:Ws)(i:Nat):BitVec 64:=(Y.cs i).foldl (zeE (iG L (Y.inn i))) 0#64
theorem ze2 {L:Ws}{l:List Ld}{k:Nat}(h:k<l.length):iG L (l.take (k+1))=j0 L (iG L (l.take k)) (cI l k):=ju _ _ h
theorem znV {L:Ws}{l:List Ld}(hl:l.length≤1024)(hw:∀x∈l,1≤x.wt∧x.wt≤1073741824)(k d:Nat):0≤iG L (l.take k) d∧iG L (l.take k) d≤1099511627776:=by
 have:=zk8 L (l.take k) (fun x hx=>hw x (List.mem_of_mem_take hx)) (fun _=>0) 0 (fun _=>⟨by simp,by simp⟩) d; (have hk:(l.take k).length≤1024:=by rw [List.length_take];omega);unfold iG;omega
def j2 (L:Ws)(i d:Nat)(s:Int)(x:Ld):Int:=if (x.lo≤(d:Int)∧(d:Int)≤x.hi)∧(x.fr=(i:Int)∨only L x.fr.toNat=d) then s+x.wt else s
theorem znl (L:Ws)(i d:Nat):∀(l:List Ld),(∀x∈l,1≤x.wt∧x.wt≤1073741824)→∀(s:Int),0≤s→0≤l.foldl (j2 L i d) s∧l.foldl (j2 L i d) s≤s+1073741824* (l.length:Int)
 | [],_,s,h=>by simp;exact h
 |x :: r,hx,s,h=>by
  have h1:=hx x b2; (have hs:0≤j2 L i d s x∧j2 L i d s x≤s+1073741824:=by unfold j2;split <;> omega);have:=znl L i d r (fun y hy=>hx y (by simp [hy])) (j2 L i d s x) hs.1;simp only [List.foldl_cons,List.length_cons];omega
def jU (L:Ws)(i d:Nat)(l:List Ld):Int:=l.foldl (j2 L i d) 0
theorem zoY {L:Ws}{l:List Ld}{i d:Nat}(hl:l.length≤1024)(hw:∀x∈l,1≤x.wt∧x.wt≤1073741824)(k:Nat):0≤jU L i d (l.take k)∧jU L i d (l.take k)≤1099511627776:=by
 have:=znl L i d (l.take k) (fun x hx=>hw x (List.mem_of_mem_take hx)) 0 (Int.le_refl _); (have hk:(l.take k).length≤1024:=by rw [List.length_take];omega);unfold jU;omega
def zd5 (lost:Int)(d:Nat)(g:BitVec 64)(x:Cp):BitVec 64:=if (x.lo≤(d:Int)∧(d:Int)≤x.hi)∧x.mx<lost then g ||| 1#64 <<< d else g
def lh (Y:Tb)(L:Ws)(i:Nat)(g:BitVec 64)(x:Ld):BitVec 64:=
 if ((only L x.to.toNat:Int)<x.lo∨x.hi<(only L x.to.toNat:Int))∨g.getLsbD (only L x.to.toNat)=true then g
 else (Y.cs x.to.toNat).foldl (zd5 (jU L i (only L x.to.toNat) (Y.inn x.to.toNat)) (only L x.to.toNat)) g
def mb (Y:Tb)(L:Ws)(i:Nat):BitVec 64:=(Y.out i).foldl (lh Y L i) 0#64
theorem zkF (sp:Nat)(Y:Tb)(L:Ws)(c:Bool)(i:Nat)(z:Int)(hz:z=(i:Int))(hi:i<Y.n)(w:World)(h:StateAt w sp Y L c)(hok:Y.Ok):Calls Tryz.prog 113 #[.pointer (some ⟨sp,0,none⟩), .int .i64 z] w fun e w'=>e= .returned (U (kQ Y L i))∧Below w.heap.size w w':=by
 subst hz;obtain ⟨tp,hsp0,hT⟩:=h.tb;obtain ⟨vL,hsp1,hL⟩:=h.left;obtain ⟨AL,capL,rfl,hLs⟩:=hL.op;have hLn:=h.len;obtain ⟨vC,hC0,hC⟩:=hT.cs.at';obtain ⟨AC,capC,rfl,hCs⟩:=hC.op;have hCn:=hT.cs.len;obtain ⟨gC,oC,rfl,hCc⟩:=hCs a6;rw [hCn] at hC0;have hCi:=hCc i (by rw [hCn];exact hi);obtain ⟨BC,cpC,hvC,hslC⟩:=(hT.cs.each i hi).op;simp only [hvC] at hCi;obtain ⟨vI,hI0,hI⟩:=hT.inn.at';obtain ⟨AI,capI,rfl,hIs⟩:=hI.op;have hIn:=hT.inn.len;obtain ⟨gI,oI,rfl,hIc⟩:=hIs a6;rw [hIn] at hI0;have hIi:=hIc i (by rw [hIn];exact hi);obtain ⟨BI,cpI,hvI,hslI⟩:=(hT.inn.each i hi).op;simp only [hvI] at hIi;obtain ⟨hlenC,hrngC⟩:=hok.cs i hi;obtain ⟨hlen,hrng⟩:=hok.inn i hi;have hn512:=hok.n; (have hwt:∀x∈Y.inn i,1≤x.wt∧x.wt≤1073741824:=fun x hx=>by have:=hrng x hx;omega);refine dA (M:=fun _=>False) (hs:=[]) Tryz.func113 rfl rfl rfl (Hp.refl _ _) ?_;refine q3C ?_;refine lK ?_;refine dM ?_;refine T.cond rfl (fun h1=>?_) (fun h1=>?_)
 ·have p1:=h1; (try simp only [cT] at p1);refine jc ?_;exact cV rfl rfl (fun w' hw=>⟨by rw [kQ,List.eq_nil_of_length_eq_zero (show (Y.cs i).length=0 by omega)];rfl,hw.isBelow⟩)
 ·have p1:=h1; (try simp only [cT] at p1);refine ja ?_; (refine cN (Wt.none) rfl rfl (Ew.alloc) ?_;rintro _ _ ⟨g5,rfl,rfl⟩);refine cS ?_;refine T.cut (gs:=[(0, .pointer (some ⟨sp,0,none⟩)),(1, .int .i64 (i:Int)),(5, .pointer (some ⟨g5,0,none⟩))]) (hs':=[.row g5 190 (ma (iG L (Y.inn i)))]) ?_ ?_
  ·skip;refine iv ?_;refine q1V ?_;refine cL (dP rfl rfl hI0 (fun h=>h)) ?_;refine lI ?_;refine cL (d4 (j:=0) rfl rfl hIi rfl rfl (fun h=>h)) ?_;refine jG ?_;refine T.loop (ι:=Nat) (fun k=>[(0, .pointer (some ⟨sp,0,none⟩)),(1, .int .i64 (i:Int)),(5, .pointer (some ⟨g5,0,none⟩)),(34, .slice BI (Y.inn i).length cpI),(35, .int .i64 ((Y.inn i).length:Int)),(36, .int .i64 (k:Int))]) (fun k=>[.row g5 190 (ma (iG L ((Y.inn i).take k)))]) (fun k=>k≤(Y.inn i).length) (fun k=>(Y.inn i).length - k) 0 ?_ ?_ ?_ ?_
   ·omega
   ·exact (by repeat (first|exact Sub.nil|refine Sub.cons rfl ?_))
   ·exact Sx
   ·intro k hphi;refine fA ?_;refine T.cond rfl (fun h2=>?_) (fun h2=>?_)
    ·have p2:=h2; (try simp only [cT] at p2);obtain ⟨g,off,rfl,hc⟩:=hslI a6;have hk:=hc k a6;simp only [Ld.cells] at hk;have hr:=hrng _ (i4 (xs:=Y.inn i) (k:=k) a6);have oa:=zhw L (cI (Y.inn i) k).fr.toNat;refine fS ?_;refine lS ?_; (refine cN (Wt.none) rfl rfl (Ew.alloc) ?_;rintro _ _ ⟨g7,rfl,rfl⟩); (refine dO (Wt.none) rfl (dH 0) ?_;rintro _ _ ⟨rfl,rfl⟩);refine du ?_;refine iP ?_; (refine cN (Wt.none) rfl rfl (cM rfl rfl rfl (fun w hw=>zdp sp Y L c (cI (Y.inn i) k).fr.toNat _ a6 a6 w (h.kept hw))) ?_;rintro _ _ ⟨rfl,rfl⟩);refine gn ?_;refine lr ?_;refine dv rfl rfl rfl (fun h3=>?_) (fun h3=>?_)
     ·have p3:=h3; (try simp only [cT] at p3);refine q1U ?_;refine q0U ?_;refine q1U ?_;refine q3Z ?_;refine cS ?_;refine T.cond rfl (fun h4=>?_) (fun h4=>?_)
      ·have p4:=h4; (try simp only [cT] at p4);have hld:=zgE (f:=iG L ((Y.inn i).take k)) (d:=only L (cI (Y.inn i) k).fr.toNat) (p:=0+only L (cI (Y.inn i) k).fr.toNat*1) a6 a6;have hbd:=znV (L:=L) hlen hwt k (only L (cI (Y.inn i) k).fr.toNat);refine dF (sN 0 2 (sN 3 2 (.eff 2 (sN 5 2 (.eff 7 .done))))) (List.eraseIdx _ 1) a8 (List.eraseIdx_sublist _ _) ?_;refine eY ?_;refine cO rfl (ei rfl rfl rfl rfl a6) ?_;refine lR ?_;refine eE rfl (Wt.none) rfl rfl (cY 1 rfl rfl rfl hld) Sx ?_;refine cO rfl (lV rfl rfl rfl a6) ?_;refine cO rfl (ei rfl rfl rfl rfl a6) ?_;refine dw ?_; (refine dJ rfl (Wt.none) rfl (iV 1 (ma (iG L ((Y.inn i).take (k+1)))) rfl rfl rfl rfl (by rw [zi4];omega) (zjr (d:=only L (cI (Y.inn i) k).fr.toNat) a6 a6 (by rw [ze2 a6,j0,if_pos ⟨by omega,by omega,rfl⟩]) (fun e he=>by rw [ze2 a6,j0,if_neg (fun hh=>he hh.2.2.symm)]))) ?_;rintro _ _ ⟨rfl,rfl⟩;refine ⟨Sx,?_⟩);refine q2c ?_;exact K.next (k+1) a6 a6 (by repeat (first|exact Sub.nil|refine Sub.cons rfl ?_)) Sx
      ·have p4:=h4; (try simp only [cT] at p4);refine i3 ?_;exact K.next (k+1) a6 a6 (by repeat (first|exact Sub.nil|refine Sub.cons rfl ?_)) (by rw [ze2 a6,show j0 L (iG L ((Y.inn i).take k)) (cI (Y.inn i) k)=iG L ((Y.inn i).take k) from funext fun d=>by unfold j0;exact if_neg (fun hh=>absurd hh.2.1 a6)];exact Sx)
     ·have p3:=h3; (try simp only [cT] at p3);refine q3q ?_;refine nu ?_;refine i3 ?_;exact K.next (k+1) a6 a6 (by repeat (first|exact Sub.nil|refine Sub.cons rfl ?_)) (by rw [ze2 a6,show j0 L (iG L ((Y.inn i).take k)) (cI (Y.inn i) k)=iG L ((Y.inn i).take k) from funext fun d=>by unfold j0;exact if_neg (fun hh=>absurd hh.1 a6)];exact Sx)
    ·have p2:=h2; (try simp only [cT] at p2);refine fx ?_;exact K.at (by repeat (first|exact Sub.nil|refine Sub.cons rfl ?_)) (by rw [show (Y.inn i).take k=Y.inn i from List.take_of_length_le a6];exact Sx)
  ·skip;refine q3C ?_;refine jG ?_;refine T.loop (ι:=Nat) (fun k=>[(0, .pointer (some ⟨sp,0,none⟩)),(1, .int .i64 (i:Int)),(5, .pointer (some ⟨g5,0,none⟩)),(9,U (((Y.cs i).take k).foldl (zeE (iG L (Y.inn i))) 0#64)),(71, .slice BC (Y.cs i).length cpC),(72, .int .i64 ((Y.cs i).length:Int)),(73, .int .i64 (k:Int))]) (fun k=>[.row g5 190 (ma (iG L (Y.inn i)))]) (fun k=>k≤(Y.cs i).length) (fun k=>(Y.cs i).length - k) 0 ?_ ?_ ?_ ?_
   ·omega
   ·exact (by repeat (first|exact Sub.nil|refine Sub.cons rfl ?_))
   ·exact Sx
   ·intro k hphi;refine fA ?_;refine T.cond rfl (fun h5=>?_) (fun h5=>?_)
    ·have p5:=h5; (try simp only [cT] at p5);obtain ⟨g,off,rfl,hc⟩:=hslC a6;have hk:=hc k a6;simp only [Cp.cells] at hk;have hr:=hrngC _ (i4 (xs:=Y.cs i) (k:=k) a6);refine T.skip (K.seq ?_);refine T.cut (gs:=[(0, .pointer (some ⟨sp,0,none⟩)),(1, .int .i64 (i:Int)),(5, .pointer (some ⟨g5,0,none⟩)),(9,U (((Y.cs i).take (k+1)).foldl (zeE (iG L (Y.inn i))) 0#64)),(71, .slice (some ⟨g,off,none⟩) (Y.cs i).length cpC),(72, .int .i64 ((Y.cs i).length:Int)),(73, .int .i64 (k:Int))]) (hs':=[.row g5 190 (ma (iG L (Y.inn i)))]) ?_ ?_
     ·skip;refine T.block (df ?_);refine lS ?_; (refine cN (Wt.none) rfl rfl (Ew.alloc) ?_;rintro _ _ ⟨g11,rfl,rfl⟩); (refine dO (Wt.none) rfl (dH 0) ?_;rintro _ _ ⟨rfl,rfl⟩);refine du ?_;refine mQ ?_;refine cS (T.block ?_);refine T.loop (ι:=Nat) (fun j=>[(0, .pointer (some ⟨sp,0,none⟩)),(1, .int .i64 (i:Int)),(5, .pointer (some ⟨g5,0,none⟩)),(9,U ((List.range' (cI (Y.cs i) k).lo.toNat j).foldl (zhU (iG L (Y.inn i)) (cI (Y.cs i) k).mx) (((Y.cs i).take k).foldl (zeE (iG L (Y.inn i))) 0#64))),(11, .pointer (some ⟨g11,0,none⟩)),(12, .int .i64 ((cI (Y.cs i) k).lo+(j:Int))),(71, .slice (some ⟨g,off,none⟩) (Y.cs i).length cpC),(72, .int .i64 ((Y.cs i).length:Int)),(73, .int .i64 (k:Int))]) (fun j=>[.row g11 73 [.int .i64 (cI (Y.cs i) k).st, .int .i64 (cI (Y.cs i) k).mx, .int .i64 (cI (Y.cs i) k).lo, .int .i64 (cI (Y.cs i) k).hi], .row g5 190 (ma (iG L (Y.inn i)))]) (fun j=>(cI (Y.cs i) k).lo+(j:Int)≤(cI (Y.cs i) k).hi+1) (fun j=>((cI (Y.cs i) k).hi+1 - (cI (Y.cs i) k).lo).toNat - j) 0 ?_ ?_ ?_ ?_
      ·omega
      ·exact (by repeat (first|exact Sub.nil|refine Sub.cons rfl ?_|(refine dU rfl a6 ?_)))
      ·exact Sx
      ·intro j hphi;refine q3K ?_;refine dM ?_;refine T.cond rfl (fun h6=>?_) (fun h6=>?_)
       ·have p6:=h6; (try simp only [cT] at p6);have hld:=zgE (f:=iG L (Y.inn i)) (d:=(cI (Y.cs i) k).lo.toNat+j) (p:=0+((cI (Y.cs i) k).lo.toNat+j) *1) a6 a6;refine kB ?_;refine dF (sN 0 5 (.still 5 .done)) _ a8 (List.Sublist.refl _) ?_;refine eY ?_;refine cO rfl (ei rfl rfl rfl (show (_:Int)=(((cI (Y.cs i) k).lo.toNat+j:Nat):Int) from by omega) a6) ?_;refine cO rfl (cY 1 rfl rfl rfl hld) ?_;refine gm ?_;refine kx ?_;refine T.cond rfl (fun h7=>?_) (fun h7=>?_)
        ·have p7:=h7; (try simp only [cT] at p7);refine ji ?_;refine cL (iH (a:=1#64) ((cI (Y.cs i) k).lo.toNat+j) rfl rfl rfl a6 a6) ?_;refine cL (jw) ?_;refine di ?_;refine q38 ?_;exact K.next (j+1) a6 a6 (by rw [List.range'_1_concat,List.foldl_append];simp only [List.foldl_cons,List.foldl_nil];rw [zhU,if_pos a6];repeat (first|exact Sub.nil|refine Sub.cons rfl ?_|(refine dU rfl a6 ?_))) Sx
        ·have p7:=h7; (try simp only [cT] at p7);refine gY ?_;exact K.next (j+1) a6 a6 (by rw [List.range'_1_concat,List.foldl_append];simp only [List.foldl_cons,List.foldl_nil];rw [zhU,if_neg a6];repeat (first|exact Sub.nil|refine Sub.cons rfl ?_|(refine dU rfl a6 ?_))) Sx
       ·have p6:=h6; (try simp only [cT] at p6);refine q3P ?_;exact K.at (by rw [ju _ _ a6,zeE,show (cI (Y.cs i) k).hi.toNat+1 - (cI (Y.cs i) k).lo.toNat=j by omega];exact (by repeat (first|exact Sub.nil|refine Sub.cons rfl ?_))) Sx
     ·skip;refine fi ?_;refine jQ ?_;exact K.next (k+1) a6 a6 (by repeat (first|exact Sub.nil|refine Sub.cons rfl ?_)) Sx
    ·have p5:=h5; (try simp only [cT] at p5);refine mC ?_;refine jS ?_;exact cV rfl rfl (fun w' hw=>⟨by rw [kQ,List.take_of_length_le a6],hw.isBelow⟩)
theorem zfe {L:Ws}{i d:Nat}{l:List Ld}{k:Nat}(h:k<l.length):jU L i d (l.take (k+1))=j2 L i d (jU L i d (l.take k)) (cI l k):=ju _ _ h
theorem zjh (sp:Nat)(Y:Tb)(L:Ws)(c:Bool)(i:Nat)(z:Int)(hz:z=(i:Int))(hi:i<Y.n)(w:World)(h:StateAt w sp Y L c)(hok:Y.Ok):Calls Tryz.prog 114 #[.pointer (some ⟨sp,0,none⟩), .int .i64 z] w fun e w'=>e= .returned (U (mb Y L i))∧Below w.heap.size w w':=by
 subst hz;obtain ⟨tp,hsp0,hT⟩:=h.tb;obtain ⟨vL,hsp1,hL⟩:=h.left;obtain ⟨AL,capL,rfl,hLs⟩:=hL.op;have hLn:=h.len;obtain ⟨vO,hO0,hO⟩:=hT.out.at';obtain ⟨AO,capO,rfl,hOs⟩:=hO.op;have hOn:=hT.out.len;obtain ⟨gO,oO,rfl,hOc⟩:=hOs a6;rw [hOn] at hO0;have hOi:=hOc i (by rw [hOn];exact hi);obtain ⟨BO,cpO,hvO,hslO⟩:=(hT.out.each i hi).op;simp only [hvO] at hOi;obtain ⟨vI,hI0,hI⟩:=hT.inn.at';obtain ⟨AI,capI,rfl,hIs⟩:=hI.op;have hIn:=hT.inn.len;obtain ⟨gI,oI,rfl,hIc⟩:=hIs a6;rw [hIn] at hI0;obtain ⟨vC,hC0,hC⟩:=hT.cs.at';obtain ⟨AC,capC,rfl,hCs⟩:=hC.op;have hCn:=hT.cs.len;obtain ⟨gC,oC,rfl,hCc⟩:=hCs a6;rw [hCn] at hC0;obtain ⟨hlen,hrng⟩:=hok.out i hi;have hn512:=hok.n;refine dA (M:=fun _=>False) (hs:=[]) Tryz.func114 rfl rfl rfl (Hp.refl _ _) ?_;refine kZ ?_;refine i7 ?_;refine ef ?_;refine q1V ?_;refine cL (dP rfl rfl hO0 (fun h=>h)) ?_;refine lI ?_;refine cL (d4 (j:=0) rfl rfl hOi rfl rfl (fun h=>h)) ?_;refine jG ?_;refine T.loop (ι:=Nat) (fun k=>[(0, .pointer (some ⟨sp,0,none⟩)),(1, .int .i64 (i:Int)),(23, .slice BO (Y.out i).length cpO),(24, .int .i64 ((Y.out i).length:Int)),(25, .int .i64 (k:Int)),(5,U (((Y.out i).take k).foldl (lh Y L i) 0#64))]) (fun k=>[]) (fun k=>k≤(Y.out i).length) (fun k=>(Y.out i).length - k) 0 ?_ ?_ ?_ ?_
 ·omega
 ·exact (by repeat (first|exact Sub.nil|refine Sub.cons rfl ?_))
 ·exact Sx
 ·intro k hphi;refine fA ?_;refine T.cond rfl (fun h1=>?_) (fun h1=>?_)
  ·have p1:=h1; (try simp only [cT] at p1);obtain ⟨g,off,rfl,hc⟩:=hslO a6;have hk:=hc k a6;simp only [Ld.cells] at hk;have hr:=hrng _ (i4 (xs:=Y.out i) (k:=k) a6);have oa:=zhw L (cI (Y.out i) k).to.toNat; (have htn:(cI (Y.out i) k).to.toNat<Y.n:=by omega);obtain ⟨hlenI,hrngI⟩:=hok.inn _ htn;obtain ⟨hlenC,hrngC⟩:=hok.cs _ htn; (have hwt:∀x∈Y.inn (cI (Y.out i) k).to.toNat,1≤x.wt∧x.wt≤1073741824:=fun x hx=>by have:=hrngI x hx;omega);have hIi:=hIc (cI (Y.out i) k).to.toNat (by rw [hIn];exact htn);obtain ⟨BI,cpI,hvI,hslI⟩:=(hT.inn.each (cI (Y.out i) k).to.toNat htn).op;simp only [hvI] at hIi;have hCi:=hCc (cI (Y.out i) k).to.toNat (by rw [hCn];exact htn);obtain ⟨BC,cpC,hvC,hslC⟩:=(hT.cs.each (cI (Y.out i) k).to.toNat htn).op;simp only [hvC] at hCi;refine T.skip (K.seq ?_);refine T.cut (gs:=[(0, .pointer (some ⟨sp,0,none⟩)),(1, .int .i64 (i:Int)),(23, .slice (some ⟨g,off,none⟩) (Y.out i).length cpO),(24, .int .i64 ((Y.out i).length:Int)),(25, .int .i64 (k:Int)),(5,U (((Y.out i).take (k+1)).foldl (lh Y L i) 0#64))]) (hs':=[]) ?_ ?_
   ·skip;refine T.block (df ?_);refine lS ?_; (refine cN (Wt.none) rfl rfl (Ew.alloc) ?_;rintro _ _ ⟨g7,rfl,rfl⟩); (refine dO (Wt.none) rfl (dH 0) ?_;rintro _ _ ⟨rfl,rfl⟩);refine du ?_;refine iP ?_; (refine cN (Wt.none) rfl rfl (cM rfl rfl rfl (fun w hw=>zdp sp Y L c ((cI (Y.out i) k).to.toNat) _ a6 a6 w (h.kept hw))) ?_;rintro _ _ ⟨rfl,rfl⟩);refine kA ?_;refine iP ?_;refine ef ?_;refine dv rfl rfl rfl (fun h2=>?_) (fun h2=>?_)
    ·have p2:=h2; (try simp only [cT] at p2);refine q0l ?_;refine TL.off (Wt.not rfl rfl rfl h2) rfl rfl ?_;refine q2V ?_;refine TL.run 7 rfl ?_;refine mA ?_;refine T.exit (ec (fU ?_)); (refine K.at ?_ Sx;rw [ju _ _ a6,lh,if_pos (.inl a6)];exact (by repeat (first|exact Sub.nil|refine Sub.cons rfl ?_)))
    ·have p2:=h2; (try simp only [cT] at p2);refine mJ ?_;refine m0 ?_;refine mJ ?_;refine q4y ?_;refine di ?_;refine dv rfl rfl rfl (fun h3=>?_) (fun h3=>?_)
     ·have p3:=h3; (try simp only [cT] at p3);refine q0u ?_;refine TL.off (Wt.not rfl rfl rfl h3) rfl rfl ?_;refine TL.off (Wt.not rfl rfl rfl h3) rfl rfl ?_;refine q3Z ?_;refine mA ?_;refine T.exit (ec (fU ?_)); (refine K.at ?_ Sx;rw [ju _ _ a6,lh,if_pos (.inl a6)];exact (by repeat (first|exact Sub.nil|refine Sub.cons rfl ?_)))
     ·have p3:=h3; (try simp only [cT] at p3);refine q1U ?_;refine q1U ?_;refine cZ (Wt.some rfl rfl rfl h3) rfl rfl (gW (only L (cI (Y.out i) k).to.toNat) rfl rfl rfl rfl a6) ?_;refine cZ (Wt.some rfl rfl rfl h3) rfl rfl (gu (b:=1#64)) ?_;refine q1U ?_;refine cL (ek rfl rfl h3) ?_;refine cS ?_;refine T.cond rfl (fun h4=>?_) (fun h4=>?_)
      ·have p4:=h4; (try simp only [cT] at p4); (have hbit:((((Y.out i).take k).foldl (lh Y L i) 0#64)).getLsbD (only L (cI (Y.out i) k).to.toNat)=true:=by rw [←ziH];exact decide_eq_true b7);refine T.exit (ec (fU ?_)); (have hb:=hbit;refine K.at ?_ Sx;rw [ju _ _ a6,lh,if_pos (.inr hb)];exact (by repeat (first|exact Sub.nil|refine Sub.cons rfl ?_)))
      ·have p4:=h4; (try simp only [cT] at p4); (have hno:¬(((only L (cI (Y.out i) k).to.toNat:Int)<(cI (Y.out i) k).lo∨(cI (Y.out i) k).hi<(only L (cI (Y.out i) k).to.toNat:Int))∨((((Y.out i).take k).foldl (lh Y L i) 0#64)).getLsbD (only L (cI (Y.out i) k).to.toNat)=true):=by rintro ((hh|hh)|hh);omega;omega;rw [←ziH] at hh;exact absurd (of_decide_eq_true hh) b7);refine ja ?_;refine dM ?_;refine T.cut (gs:=[(0, .pointer (some ⟨sp,0,none⟩)),(1, .int .i64 (i:Int)),(23, .slice (some ⟨g,off,none⟩) (Y.out i).length cpO),(24, .int .i64 ((Y.out i).length:Int)),(25, .int .i64 (k:Int)),(7, .pointer (some ⟨g7,0,none⟩)),(8, .int .i64 (only L (cI (Y.out i) k).to.toNat:Int)),(5,U (((Y.out i).take k).foldl (lh Y L i) 0#64)),(9, .int .i64 (jU L i (only L (cI (Y.out i) k).to.toNat) (Y.inn (cI (Y.out i) k).to.toNat)))]) (hs':=[.row g7 71 [.int .i64 (cI (Y.out i) k).to, .int .i64 (cI (Y.out i) k).fr, .int .i64 (cI (Y.out i) k).wt, .int .i64 (cI (Y.out i) k).lo, .int .i64 (cI (Y.out i) k).hi]]) ?_ ?_
       ·skip;refine T.seq ?_;refine q1k ?_;refine jn ?_;refine cO rfl (dP rfl rfl hsp0 (fun h=>h)) ?_;refine nn ?_;refine cO rfl (dP rfl rfl hI0 (fun h=>h)) ?_;refine q2z ?_;refine cO rfl (d4 (j:=0) rfl rfl hIi rfl rfl (fun h=>h)) ?_;refine q4v ?_;refine T.loop (ι:=Nat) (fun j=>[(0, .pointer (some ⟨sp,0,none⟩)),(1, .int .i64 (i:Int)),(23, .slice (some ⟨g,off,none⟩) (Y.out i).length cpO),(24, .int .i64 ((Y.out i).length:Int)),(25, .int .i64 (k:Int)),(7, .pointer (some ⟨g7,0,none⟩)),(8, .int .i64 (only L (cI (Y.out i) k).to.toNat:Int)),(5,U (((Y.out i).take k).foldl (lh Y L i) 0#64)),(9, .int .i64 (jU L i (only L (cI (Y.out i) k).to.toNat) ((Y.inn (cI (Y.out i) k).to.toNat).take j))),(60, .slice BI (Y.inn (cI (Y.out i) k).to.toNat).length cpI),(61, .int .i64 ((Y.inn (cI (Y.out i) k).to.toNat).length:Int)),(62, .int .i64 (j:Int))]) (fun j=>[.row g7 71 [.int .i64 (cI (Y.out i) k).to, .int .i64 (cI (Y.out i) k).fr, .int .i64 (cI (Y.out i) k).wt, .int .i64 (cI (Y.out i) k).lo, .int .i64 (cI (Y.out i) k).hi]]) (fun j=>j≤(Y.inn (cI (Y.out i) k).to.toNat).length) (fun j=>(Y.inn (cI (Y.out i) k).to.toNat).length - j) 0 ?_ ?_ ?_ ?_
        ·omega
        ·exact (by repeat (first|exact Sub.nil|refine Sub.cons rfl ?_))
        ·exact Sx
        ·intro j hphi;refine fA ?_;refine T.cond rfl (fun h5=>?_) (fun h5=>?_)
         ·have p5:=h5; (try simp only [cT] at p5);obtain ⟨gi,offi,rfl,hci⟩:=hslI a6;have hj:=hci j a6;simp only [Ld.cells] at hj;have hri:=hrngI _ (i4 (xs:=Y.inn (cI (Y.out i) k).to.toNat) (k:=j) a6);have hbd:=zoY (L:=L) (i:=i) (d:=only L (cI (Y.out i) k).to.toNat) hlenI hwt j;refine fS ?_;refine q0y ?_;refine cL (iI rfl rfl hj rfl (fun h=>h)) ?_; (refine cN (Wt.none) rfl rfl (Ew.alloc) ?_;rintro _ _ ⟨g11,rfl,rfl⟩); (refine dO (Wt.none) rfl (dH 0) ?_;rintro _ _ ⟨rfl,rfl⟩);refine du ?_;refine lr ?_;refine dv rfl rfl rfl (fun h6=>?_) (fun h6=>?_)
          ·have p6:=h6; (try simp only [cT] at p6);refine q2h ?_;refine di ?_;refine dv rfl rfl rfl (fun h7=>?_) (fun h7=>?_)
           ·have p7:=h7; (try simp only [cT] at p7);refine q4f ?_;refine cZ (Wt.some rfl rfl rfl h7) rfl rfl (d6) ?_;refine cZ (Wt.some rfl rfl rfl h7) rfl rfl (d6) ?_;refine cZ (Wt.some rfl rfl rfl h7) rfl rfl (d6) ?_;refine dv rfl rfl rfl (fun h8=>?_) (fun h8=>?_)
            ·have p8:=h8; (try simp only [cT] at p8);refine q1o ?_;refine q1o ?_;refine cZ (Wt.some rfl rfl rfl h7) rfl rfl (eJ rfl rfl h8) ?_;refine cL (eJ rfl rfl h7) ?_;refine mA ?_;refine fi ?_;refine iP ?_;refine q0e ?_;refine di ?_;refine mu ?_;exact K.next (j+1) a6 a6 (by rw [zfe a6,j2];split <;> first|(exfalso;omega)|exact (by repeat (first|exact Sub.nil|refine Sub.cons rfl ?_))) Sx
            ·have p8:=h8; (try simp only [cT] at p8);refine cZ (Wt.some rfl rfl rfl h8) rfl rfl (d6) ?_;refine q4g ?_; (refine cN (Wt.some rfl rfl rfl h8) rfl rfl (cM rfl rfl rfl (fun w hw=>zdp sp Y L c (cI (Y.inn (cI (Y.out i) k).to.toNat) j).fr.toNat _ a6 a6 w (h.kept hw))) ?_;rintro _ _ ⟨rfl,rfl⟩);refine cZ (Wt.some rfl rfl rfl h8) rfl rfl (d6) ?_;refine cZ (Wt.some rfl rfl rfl h8) rfl rfl (d6) ?_;refine cZ (Wt.some rfl rfl rfl h7) rfl rfl (ek rfl rfl h8) ?_;refine cL (eJ rfl rfl h7) ?_;refine cS ?_;refine T.cond rfl (fun h9=>?_) (fun h9=>?_)
             ·have p9:=h9; (try simp only [cT] at p9);refine fi ?_;refine iP ?_;refine q0e ?_;refine di ?_;refine mu ?_;exact K.next (j+1) a6 a6 (by rw [zfe a6,j2];split <;> first|(exfalso;omega)|exact (by repeat (first|exact Sub.nil|refine Sub.cons rfl ?_))) Sx
             ·have p9:=h9; (try simp only [cT] at p9);refine i3 ?_;exact K.next (j+1) a6 a6 (by rw [zfe a6,j2];split <;> first|(exfalso;omega)|exact (by repeat (first|exact Sub.nil|refine Sub.cons rfl ?_))) Sx
           ·have p7:=h7; (try simp only [cT] at p7);refine q1K ?_;refine q1K ?_;refine TL.off (Wt.not rfl rfl rfl h7) rfl rfl ?_;refine q0O ?_;refine q0O ?_;refine TL.off (Wt.not rfl rfl rfl h7) rfl rfl ?_;refine cL (ek rfl rfl h7) ?_;refine nu ?_;refine i3 ?_;exact K.next (j+1) a6 a6 (by rw [zfe a6,j2];split <;> first|(exfalso;omega)|exact (by repeat (first|exact Sub.nil|refine Sub.cons rfl ?_))) Sx
          ·have p6:=h6; (try simp only [cT] at p6);refine q1b ?_;refine q1b ?_;refine cL (ek rfl rfl h6) ?_;refine TL.run 6 rfl ?_;refine q0O ?_;refine q0O ?_;refine jm ?_;refine iy rfl rfl ?_;refine i3 ?_;exact K.next (j+1) a6 a6 (by rw [zfe a6,j2];split <;> first|(exfalso;omega)|exact (by repeat (first|exact Sub.nil|refine Sub.cons rfl ?_))) Sx
         ·have p5:=h5; (try simp only [cT] at p5);refine fx ?_;exact K.at (by rw [show (Y.inn (cI (Y.out i) k).to.toNat).take j=Y.inn (cI (Y.out i) k).to.toNat from List.take_of_length_le a6] at *;exact (by repeat (first|exact Sub.nil|refine Sub.cons rfl ?_))) Sx
       ·skip;refine T.seq ?_;refine q1k ?_;refine jn ?_;refine cO rfl (dP rfl rfl hsp0 (fun h=>h)) ?_;refine nn ?_;refine cO rfl (dP rfl rfl hC0 (fun h=>h)) ?_;refine q2z ?_;refine cO rfl (d4 (j:=0) rfl rfl hCi rfl rfl (fun h=>h)) ?_;refine q4v ?_;refine T.loop (ι:=Nat) (fun j=>[(0, .pointer (some ⟨sp,0,none⟩)),(1, .int .i64 (i:Int)),(23, .slice (some ⟨g,off,none⟩) (Y.out i).length cpO),(24, .int .i64 ((Y.out i).length:Int)),(25, .int .i64 (k:Int)),(7, .pointer (some ⟨g7,0,none⟩)),(8, .int .i64 (only L (cI (Y.out i) k).to.toNat:Int)),(9, .int .i64 (jU L i (only L (cI (Y.out i) k).to.toNat) (Y.inn (cI (Y.out i) k).to.toNat))),(5,U (((Y.cs (cI (Y.out i) k).to.toNat).take j).foldl (zd5 (jU L i (only L (cI (Y.out i) k).to.toNat) (Y.inn (cI (Y.out i) k).to.toNat)) (only L (cI (Y.out i) k).to.toNat)) (((Y.out i).take k).foldl (lh Y L i) 0#64))),(105, .slice BC (Y.cs (cI (Y.out i) k).to.toNat).length cpC),(106, .int .i64 ((Y.cs (cI (Y.out i) k).to.toNat).length:Int)),(107, .int .i64 (j:Int))]) (fun j=>[.row g7 71 [.int .i64 (cI (Y.out i) k).to, .int .i64 (cI (Y.out i) k).fr, .int .i64 (cI (Y.out i) k).wt, .int .i64 (cI (Y.out i) k).lo, .int .i64 (cI (Y.out i) k).hi]]) (fun j=>j≤(Y.cs (cI (Y.out i) k).to.toNat).length) (fun j=>(Y.cs (cI (Y.out i) k).to.toNat).length - j) 0 ?_ ?_ ?_ ?_
        ·omega
        ·exact (by repeat (first|exact Sub.nil|refine Sub.cons rfl ?_))
        ·exact Sx
        ·intro j hphi;refine fA ?_;refine T.cond rfl (fun h10=>?_) (fun h10=>?_)
         ·have p10:=h10; (try simp only [cT] at p10);obtain ⟨gc,offc,rfl,hcc⟩:=hslC a6;have hj:=hcc j a6;simp only [Cp.cells] at hj;refine fS ?_;refine q0y ?_;refine cL (iI rfl rfl hj rfl (fun h=>h)) ?_; (refine cN (Wt.none) rfl rfl (Ew.alloc) ?_;rintro _ _ ⟨g13,rfl,rfl⟩); (refine dO (Wt.none) rfl (dH 0) ?_;rintro _ _ ⟨rfl,rfl⟩);refine du ?_;refine lr ?_;refine dv rfl rfl rfl (fun h11=>?_) (fun h11=>?_)
          ·have p11:=h11; (try simp only [cT] at p11);refine cZ (Wt.some rfl rfl rfl h11) rfl rfl (d6) ?_;refine cZ (Wt.some rfl rfl rfl h11) rfl rfl (Yv.fieldAddr) ?_;refine cZ (Wt.some rfl rfl rfl h11) rfl rfl (cY 0) ?_;refine cZ (Wt.some rfl rfl rfl h11) rfl rfl (d6) ?_;refine cL (eJ rfl rfl h11) ?_;refine di ?_;refine dv rfl rfl rfl (fun h12=>?_) (fun h12=>?_)
           ·have p12:=h12; (try simp only [cT] at p12);refine cZ (Wt.some rfl rfl rfl h12) rfl rfl (d6) ?_;refine cZ (Wt.some rfl rfl rfl h12) rfl rfl (Yv.fieldAddr) ?_;refine cZ (Wt.some rfl rfl rfl h12) rfl rfl (cY 0) ?_;refine cZ (Wt.some rfl rfl rfl h12) rfl rfl (d6) ?_;refine cL (eJ rfl rfl h12) ?_;refine cS ?_;refine T.cond rfl (fun h13=>?_) (fun h13=>?_)
            ·have p13:=h13; (try simp only [cT] at p13);refine ji ?_;refine cL (iH (a:=1#64) (only L (cI (Y.out i) k).to.toNat) rfl rfl rfl rfl a6) ?_;refine q3T ?_;exact K.next (j+1) a6 a6 (by rw [ju _ _ a6,zd5];split <;> first|(exfalso;omega)|exact (by repeat (first|exact Sub.nil|refine Sub.cons rfl ?_))) Sx
            ·have p13:=h13; (try simp only [cT] at p13);refine i3 ?_;exact K.next (j+1) a6 a6 (by rw [ju _ _ a6,zd5];split <;> first|(exfalso;omega)|exact (by repeat (first|exact Sub.nil|refine Sub.cons rfl ?_))) Sx
           ·have p12:=h12; (try simp only [cT] at p12);refine q3s ?_;refine q3s ?_;refine cL (ek rfl rfl h12) ?_;refine nu ?_;refine i3 ?_;exact K.next (j+1) a6 a6 (by rw [ju _ _ a6,zd5];split <;> first|(exfalso;omega)|exact (by repeat (first|exact Sub.nil|refine Sub.cons rfl ?_))) Sx
          ·have p11:=h11; (try simp only [cT] at p11);refine q3t ?_;refine q3t ?_;refine cL (ek rfl rfl h11) ?_;refine TL.run 6 rfl ?_;refine nu ?_;refine i3 ?_;exact K.next (j+1) a6 a6 (by rw [ju _ _ a6,zd5];split <;> first|(exfalso;omega)|exact (by repeat (first|exact Sub.nil|refine Sub.cons rfl ?_))) Sx
         ·have p10:=h10; (try simp only [cT] at p10);refine q3P ?_; (have hn:=hno;have e:(Y.cs (cI (Y.out i) k).to.toNat).take j=Y.cs (cI (Y.out i) k).to.toNat:=List.take_of_length_le a6;refine K.at ?_ Sx;rw [ju _ _ a6,lh,if_neg hn,e];exact (by repeat (first|exact Sub.nil|refine Sub.cons rfl ?_)))
   ·skip;refine fi ?_;refine jQ ?_;exact K.next (k+1) a6 a6 (by repeat (first|exact Sub.nil|refine Sub.cons rfl ?_)) Sx
  ·have p1:=h1; (try simp only [cT] at p1);refine mC ?_;refine jS ?_;exact cV rfl rfl (fun w' hw=>⟨by rw [mb,List.take_of_length_le a6],hw.isBelow⟩)
end Go.Proofs.YtgoeeefoinkepaaGreatDoor
