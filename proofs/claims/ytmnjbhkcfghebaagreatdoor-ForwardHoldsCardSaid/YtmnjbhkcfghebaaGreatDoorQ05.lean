/- Ar Gl: shortened and put together by squeeze.py. -/
import Derived.Test.YtmnjbhkcfghebaaGreatDoorQ04
import Derived.Laws.CopyRow
set_option maxRecDepth 100000
set_option maxHeartbeats 4000000
set_option linter.unusedVariables false
set_option linter.unusedSectionVars false
set_option linter.unusedSimpArgs false
namespace Go.Proofs.YtmnjbhkcfghebaaGreatDoor
open Go.RowKit
def Vec.blit {n:Nat}{α:Type}(x:Vec n α)(i:Nat)(ys:List α):Vec n α:=⟨x.1.take i++ys.take (n - i)++x.1.drop (i+min ys.length (n - i)),by
 rw [List.length_append,List.length_append,List.length_take,List.length_take,List.length_drop,x.2];omega⟩
theorem arU {P:Program}{t c e k:Nat}(h:ziU P t=some (c,e,k)):P.underlying t=some (.array c e)∧∃i,P.info? e=some i∧i.size=k:=by
 unfold ziU at h
 split at h
 ·rename_i cc el hU
  cases hi:P.info? el with
  |none=>rw [hi] at h;cases h
  |some inf=>rw [hi] at h;cases h;exact ⟨hU,inf,hi,rfl⟩
 ·cases h
theorem slU {P:Program}{t e k:Nat}(h:zfs P t=some (e,k)):P.underlying t=some (.slice e)∧∃i,P.info? e=some i∧i.size=k:=by
 unfold zfs at h
 split at h
 ·rename_i el hU
  cases hi:P.info? el with
  |none=>rw [hi] at h;cases h
  |some inf=>rw [hi] at h;cases h;exact ⟨hU,inf,hi,rfl⟩
 ·cases h
theorem zgh {c:Nat}{α:Type}{x:Vec c α}{f:α→Value}{A B:List Value}{lo n p:Nat}{ys:List α}(hA:A.length=p)(hlo:lo≤c)(hn:n=min ys.length (c - lo)):
  (A++(x.1.map f++B)).take (p+lo)++(ys.map f).take n++(A++(x.1.map f++B)).drop (p+lo+n)=A++((x.blit lo ys).1.map f++B):=by
 subst hA hn;have hx:=x.2
 have h1:(A++(x.1.map f++B)).take (A.length+lo)=A++(x.1.map f).take lo:=by
  rw [List.take_length_add_append,List.take_append_of_le_length (by simp [hx];omega)]
 have h2:(A++(x.1.map f++B)).drop (A.length+lo+min ys.length (c - lo))=(x.1.map f).drop (lo+min ys.length (c - lo))++B:=by
  rw [Nat.add_assoc,List.drop_length_add_append,List.drop_append_of_le_length (by simp [hx];omega)]
 rw [h1,h2];unfold Vec.blit;simp only [List.map_append,List.map_take,List.map_drop,List.append_assoc]
 congr 3
 rw [←List.map_take,←List.map_take]
 congr 1
 rcases Nat.le_total ys.length (c - lo) with h|h
 ·rw [Nat.min_eq_left h,List.take_length,List.take_of_length_le h]
 ·rw [Nat.min_eq_right h]
theorem flat1 {α:Type}{cs:List (List α)}(hr:∀c∈cs,c.length=1):cs.flatten.length=cs.length:=by
 induction cs with
 |nil=>rfl
 |cons c r ih=>rw [List.flatten_cons,List.length_append,ih (fun c' h'=>hr c' (List.mem_cons_of_mem _ h')),hr c List.mem_cons_self,List.length_cons];omega
theorem load0 {P:Program}(w:World)(A:Addr):(loadCells A 0).run P w= .ok #[] w:=by
 simpa using run_loadCells_list (P:=P) w A [] (fun j v hj=>by simp at hj)
theorem zi8 {p a b c:List Value}{off:Nat}(hp:p.length=off)(h:a.length=b.length):zeL (p++(a++c)) off b=p++(b++c):=by
 subst hp;unfold zeL;rw [List.take_left' rfl,List.drop_length_add_append,←h,List.drop_left' rfl,List.append_assoc]
theorem zjC {c:Nat}{x:Vec c Int}{k:IntKind}{A B:List Value}{lo m p:Nat}(hA:A.length=p)(hlo:lo≤c)(hm:m=c - lo):
  (A++(x.1.map (Value.int k)++B)).take (p+lo)++List.replicate m (Value.int k 0)++(A++(x.1.map (Value.int k)++B)).drop (p+lo+m)=A++((x.blit lo (List.replicate m 0)).1.map (Value.int k)++B):=by
 have h:=zgh (x:=x) (f:=Value.int k) (A:=A) (B:=B) (lo:=lo) (n:=m) (p:=p) (ys:=List.replicate m 0) hA hlo cN;rw [←h,List.map_replicate,List.take_of_length_le (show (List.replicate m (Value.int k 0)).length≤m by rw [List.length_replicate];omega)]
theorem zhv {c:Nat}{α:Type}{x:Vec c α}{lo:Nat}{ys:List α}(h:min ys.length (c - lo)=0):x.blit lo ys=x:=by
 apply Subtype.ext;have hx:=x.2;have:ys.take (c - lo)=[]:=List.eq_nil_of_length_eq_zero cP
 show x.1.take lo++ys.take (c - lo)++x.1.drop (lo+min ys.length (c - lo))=x.1
 rw [this,h,List.append_nil,Nat.add_zero,List.take_append_drop]
theorem ziG {c:Nat}{α:Type}{x:Vec c α}{f:α→Value}{A B:List Value}{p:Nat}(hA:A.length=p):((A++(x.1.map f++B)).drop p).take c=x.1.map f:=by
 rw [List.drop_left' hA,List.take_left' (by rw [List.length_map,x.2])]
theorem zjU {c c2:Nat}{α:Type}{x:Vec c α}{x2:Vec c2 α}{f:α→Value}{A B A2 B2:List Value}{p p2:Nat}(hA:A.length=p)(hA2:A2.length=p2)(h:c2≤c):
  (A++(x.1.map f++B)).take p++((A2++(x2.1.map f++B2)).drop p2).take c2++(A++(x.1.map f++B)).drop (p+c2)=A++((x.blit 0 x2.1).1.map f++B):=by
 have h9:=zgh (x:=x) (f:=f) (A:=A) (B:=B) (lo:=0) (n:=c2) (p:=p) (ys:=x2.1) hA (Nat.zero_le _) (by rw [x2.2];omega);rw [ziG hA2,←h9,List.take_of_length_le (show (x2.1.map f).length≤c2 by rw [List.length_map,x2.2];exact Nat.le_refl _)];rfl
theorem ze4 {k:IntKind}{xs:List Int}:(xs.map (eK k)).flatten=xs.map (Value.int k):=by
 induction xs with
 |nil=>rfl
 |cons x l ih=>rw [List.map_cons,List.flatten_cons,ih];rfl
section
variable {Fe:Fence}[hFe:Calm Fe]{P:Program}{n:Nat}{B D:World}{M S0:Nat→Prop}{Q:Exit→Act→World→Prop}{fs:eb}{hs:HS}{ops:Array Oper}{rest:List Oper}{o:Oper}{v val:Value}
theorem Yv.ck (ix:Nat){F:FzB B M S0}{α:Type}[Inhabited α]{enc:α→List Value}{t:TypeId}{q:Nat}[hT:TyA P t q]{k i p g m:Nat}{xs:List α}{x:Operand}{l:List Value}(ho:o.op= .load t x)(hx:ev fs x=some (.pointer (some ⟨g,p,none⟩)))(hF:hs[ix]?=some (.fr F))(h:SlC F.toFrz (.slice (some ⟨g,0,none⟩) m m) k (xs.map enc))(hi:i<xs.length)(hp:p=i*k)(hv:(enc (nth xs i))=l)(hl:l.length=q):Yv P n B M fs hs o (.agg l.toArray):=
 iK ix (v:= .slice (some ⟨g,0,none⟩) m m) (p:=p) ho (by rw [hx,lr,Nat.zero_add]) hF h hi hp hv hl
theorem j8 {t e c k g p:Nat}{x:Operand}[hT:TyAr P t c e k](ho:o.op= .slice t x none none none)(hx:ev fs x=some (.pointer (some ⟨g,p,none⟩)))(hc:0<c):Yv P n B M fs hs o (.slice (some ⟨g,p,none⟩) c c):=fun a w ha _=>by
 obtain ⟨hU,i,hi,hk⟩:=arU hT.h;unfold execOp;simp [ho,ha.ev hx,Instr.sliceAt,underlying,hU,Instr.sureAddr,Instr.sliceBounds,sizeOf,typeInfo,hi,kG,show ¬c=0 by omega]
theorem Yv.cy {t e c k g p h:Nat}{z:Int}{q:IntKind}{x y:Operand}[hT:TyAr P t c e k](ho:o.op= .slice t x none (some y) none)(hx:ev fs x=some (.pointer (some ⟨g,p,none⟩)))(hy:ev fs y=some (.int q z))(hz:z=(h:Int))(hh:h≤c)(hc:0<c):Yv P n B M fs hs o (.slice (some ⟨g,p,none⟩) h c):=fun a w ha _=>by
 obtain ⟨hU,i,hi,hk⟩:=arU hT.h;subst hz;unfold execOp;simp [ho,ha.ev hx,ha.ev hy,Instr.sliceAt,underlying,hU,Instr.sureAddr,Instr.sliceBounds,run_sliceBound,hh,sizeOf,typeInfo,hi,kG,show ¬c=0 by omega]
theorem Yv.bZ {t e c k g p l:Nat}{z:Int}{q:IntKind}{x y:Operand}[hT:TyAr P t c e k](ho:o.op= .slice t x (some y) none none)(hx:ev fs x=some (.pointer (some ⟨g,p,none⟩)))(hy:ev fs y=some (.int q z))(hz:z=(l:Int))(hl:l≤c):Yv P n B M fs hs o (.slice (some ⟨g,if c=l then p else p+l*k,none⟩) (c - l) (c - l)):=fun a w ha _=>by
 obtain ⟨hU,i,hi,hk⟩:=arU hT.h;subst hz hk;unfold execOp;by_cases hc:c=l <;> simp [ho,ha.ev hx,ha.ev hy,Instr.sliceAt,underlying,hU,Instr.sureAddr,Instr.sliceBounds,run_sliceBound,hl,sizeOf,typeInfo,hi,kG,hc]
theorem Yv.cK {t e k g p l h m len cap:Nat}{z1 z2 z3:Int}{q1 q2 q3:IntKind}{x y1 y2 y3:Operand}[hT:TySl P t e k](ho:o.op= .slice t x (some y1) (some y2) (some y3))(hx:ev fs x=some (.slice (some ⟨g,p,none⟩) len cap))(hy1:ev fs y1=some (.int q1 z1))(hy2:ev fs y2=some (.int q2 z2))(hy3:ev fs y3=some (.int q3 z3))(hz1:z1=(l:Int))(hz2:z2=(h:Int))(hz3:z3=(m:Int))(h1:l≤h)(h2:h≤m)(h3:m≤cap)(h4:l<m):Yv P n B M fs hs o (.slice (some ⟨g,p+l*k,none⟩) (h - l) (m - l)):=fun a w ha _=>by
 obtain ⟨hU,i,hi,hk⟩:=slU hT.h;subst hz1 hz2 hz3 hk;unfold execOp;simp [ho,ha.ev hx,ha.ev hy1,ha.ev hy2,ha.ev hy3,Instr.sliceAt,Instr.slice,underlying,hU,Instr.sliceBounds,run_sliceBound,h1,h2,h3,sizeOf,typeInfo,hi,kG,show ¬m=l by omega]
theorem Ew.ca (i ix:Nat){F:FzB B M S0}{t t' e u g q m cap k':Nat}{x y:Operand}{l l':List Value}{cs:List (List Value)}{hs':HS}[hT:TySl P t e 1](ho:o.op= .call { callee:= .builtin .copy,args:= #[x,y],argTypes:= #[t,t'] })
  (hx:ev fs x=some (.slice (some ⟨g,q,none⟩) m cap)) (hy:ev fs y=some v) (hi:hs[i]?=some (.row g u l)) (hF:hs[ix]?=some (.fr F)) (h:SlC F.toFrz v 1 cs) (h1:∀c∈cs.flatten,c.oneCell'=true) (hn:k'=min cs.length m) (hfit:k'=0∨q+m≤l.length) (hl:k'≠0→l.take q++cs.flatten.take k'++l.drop (q+k')=l') (hl0:k'=0→l=l') [hH:SetAt hs i (.row g u l') hs']:
  Ew P n B M fs hs o (fun v hs''=>v= .int .i64 (k':Int)∧hs''=hs'):=by
 obtain ⟨hU,inf,hi',hk⟩:=slU hT.h;have hcl:cs.flatten.length=cs.length:=flat1 (by obtain ⟨_,_,_,_,_,h4,_⟩:=h;exact h4);refine fQ fun a w ha hp=>?_;have hrow:=dC.1 (hp.get hi);rcases Nat.eq_zero_or_pos k' with h0|h0
 ·have hl0:=hl0 h0;subst hl0;obtain ⟨A,c2,rfl,_⟩:=h;refine ⟨_,w,hs',?_,Kp.refl w,?_,rfl,rfl⟩
  ·unfold execOp; (have hmn:Nat.min cs.length m=0:=by rw [←h0,hn])
   cases A with
   |none=>simp [ho,resolve,invoke,builtin,ha.ev hx,ha.ev hy,Builtin.copy_,underlying,hU,Builtin.lenOf,Builtin.firstCells,sizeOf,typeInfo,hi',hmn,storeCells,h0,goInt]
   |some A=>simp [ho,resolve,invoke,builtin,ha.ev hx,ha.ev hy,Builtin.copy_,underlying,hU,Builtin.lenOf,Builtin.firstCells,sizeOf,typeInfo,hi',hmn,storeCells,h0,goInt,load0]
  ·rw [←hH.h]
   have:hs.set i (.row g u l)=hs:=by
    apply List.ext_getElem?;intro j;by_cases hj:i=j
    ·subst hj;rw [List.getElem?_set_self (List.getElem?_eq_some_iff.1 hi).1,hi]
    ·rw [List.getElem?_set_ne hj]
   rw [this];exact hp
 ·have hl:=hl a7;subst hl;obtain ⟨g2,off,c2,rfl,hg,hc⟩:=h.addr a7; (have hr:∀c∈cs,c.length=1:=by obtain ⟨_,_,_,_,_,h4,_⟩:=h;exact h4);have hcs:=lq a7 hr (fun i hi=>jG (hp.fr hF) hg (hc i hi)); (have hll:(cs.flatten.take k').length=k':=by rw [List.length_take,hcl];omega)
  have hr:=run_copy_row (P:=P) w t t' o.type e g q m cap ⟨g2,off,none⟩ cs.length c2 l.toArray u (cs.flatten.take k') hU (by rw [hi'];simp [hk]) hrow (by rw [hll,hn]) (fun j v hj=>by
   rw [kG]
   have hj2:cs.flatten[j]?=some v:=by
    rw [List.getElem?_take] at hj
    split at hj
    ·exact hj
    ·cases hj
   exact (hcs j (List.getElem?_eq_some_iff.1 hj2).1).trans hj2) (by rw [hll];simp;omega) (fun x hx=>h1 x (List.mem_of_mem_take hx))
  rw [hll] at hr;refine ⟨_,w.setRow g (l.take q++cs.flatten.take k'++l.drop (q+k')).toArray,_,?_,zdS hrow _,?_,rfl,rfl⟩
  ·unfold execOp;simp [ho,resolve,invoke,builtin,ha.ev hx,ha.ev hy,hr,goInt]
  ·rw [←hH.h];simpa using hp.setRow hi
theorem Ew.cz (i j:Nat){t t' e u u' g q m cap g2 q2 m2 cap2 k':Nat}{x y:Operand}{l l2 l':List Value}{hs':HS}[hT:TySl P t e 1](ho:o.op= .call { callee:= .builtin .copy,args:= #[x,y],argTypes:= #[t,t'] })
  (hx:ev fs x=some (.slice (some ⟨g,q,none⟩) m cap)) (hy:ev fs y=some (.slice (some ⟨g2,q2,none⟩) m2 cap2)) (hi:hs[i]?=some (.row g u l)) (hj:hs[j]?=some (.row g2 u' l2)) (h1:∀c∈(l2.drop q2).take k',c.oneCell'=true) (hn:k'=min m2 m) (hfit:q+m≤l.length) (hfit2:q2+m2≤l2.length) (hl:l.take q++(l2.drop q2).take k'++l.drop (q+k')=l') [hH:SetAt hs i (.row g u l') hs']:
  Ew P n B M fs hs o (fun v hs''=>v= .int .i64 (k':Int)∧hs''=hs'):=by
 obtain ⟨hU,inf,hi',hk⟩:=slU hT.h;refine fQ fun a w ha hp=>?_;have hrow:=dC.1 (hp.get hi);have hrow2:=dC.1 (hp.get hj);subst hl; (have hll:((l2.drop q2).take k').length=k':=by rw [List.length_take,List.length_drop];omega)
 have hr:=run_copy_row (P:=P) w t t' o.type e g q m cap ⟨g2,q2,none⟩ m2 cap2 l.toArray u ((l2.drop q2).take k') hU (by rw [hi'];simp [hk]) hrow (by rw [hll,hn]) (fun p v hp=>by
  rw [kG,ze7 hrow2];rw [List.getElem?_take] at hp
  split at hp
  ·rw [List.getElem?_drop] at hp;exact hp
  ·cases hp) (by rw [hll];simp;omega) h1
 rw [hll] at hr;refine ⟨_,w.setRow g (l.take q++(l2.drop q2).take k'++l.drop (q+k')).toArray,_,?_,zdS hrow _,?_,rfl,rfl⟩
 ·unfold execOp;simp [ho,resolve,invoke,builtin,ha.ev hx,ha.ev hy,hr,goInt]
 ·rw [←hH.h];simpa using hp.setRow hi
theorem Ew.cl (i:Nat){t e bytes u g q m cap:Nat}{z:Value}{x:Operand}{l l':List Value}{hs':HS}[hT:TyE P t e 1 bytes [z]](ho:o.op= .call { callee:= .builtin .clear,args:= #[x],argTypes:= #[t] })
  (hx:ev fs x=some (.slice (some ⟨g,q,none⟩) m cap)) (hi:hs[i]?=some (.row g u l)) (h1:z.oneCell'=true) (hfit:m=0∨q+m≤l.length) (hl:m≠0→l.take q++List.replicate m z++l.drop (q+m)=l') (hl0:m=0→l=l') [hH:SetAt hs i (.row g u l') hs']:
  Ew P n B M fs hs o (fun v hs''=>v= .tuple #[]∧hs''=hs'):=by
 obtain ⟨inf,zv,hU,hinf,hz,hzc,_⟩:=hT.get;refine fQ fun a w ha hp=>?_;have hrow:=dC.1 (hp.get hi);rcases Nat.eq_zero_or_pos m with h0|h0
 ·have hl0:=hl0 h0;subst hl0;refine ⟨_,w,hs',?_,Kp.refl w,?_,rfl,rfl⟩
  ·unfold execOp;simp [ho,resolve,invoke,builtin,ha.ev hx,Builtin.clear_,underlying,hU,h0]
  ·rw [←hH.h]
   have:hs.set i (.row g u l)=hs:=by
    apply List.ext_getElem?;intro j;by_cases hj:i=j
    ·subst hj;rw [List.getElem?_set_self (List.getElem?_eq_some_iff.1 hi).1,hi]
    ·rw [List.getElem?_set_ne hj]
   rw [this];exact hp
 ·have hl:=hl a7;subst hl;have hst:=run_storeCells_at P g q u (List.replicate m z) 0 l.toArray w hrow cM (fun x hx=>by rw [List.eq_of_mem_replicate hx];exact h1)
  have hzs:(Builtin.zeroCells #[z] m).toList=List.replicate m z:=by
   unfold Builtin.zeroCells;apply List.ext_getElem?;intro j;by_cases hj:j<m
   ·simp [hj,Nat.mod_one]
   ·simp [hj]
  refine ⟨_,w.setRow g (l.take q++List.replicate m z++l.drop (q+m)).toArray,_,?_,zdS hrow _,?_,rfl,rfl⟩
  ·unfold execOp;obtain ⟨m',rfl⟩:∃m',m=m'+1:=⟨m - 1,by omega⟩;simp [ho,resolve,invoke,builtin,ha.ev hx,Builtin.clear_,underlying,hU,zeroValue,typeInfo,hinf,hz,hzc,hzs,hst]
  ·rw [←hH.h];simpa using hp.setRow hi
end
def eB:Vec 8 Int:=⟨[1779033703,3144134277,1013904242,2773480762,1359893119,2600822924,528734635,1541459225],rfl⟩
def blOrder:List (Vec 16 Int):=[
 ⟨[0,1,2,3,4,5,6,7,8,9,10,11,12,13,14,15],rfl⟩,
 ⟨[14,10,4,8,9,15,13,6,1,12,0,2,11,7,5,3],rfl⟩,
 ⟨[11,8,12,0,5,2,15,13,10,14,3,6,7,1,9,4],rfl⟩,
 ⟨[7,9,3,1,13,12,11,14,2,6,5,10,4,0,15,8],rfl⟩,
 ⟨[9,0,5,7,2,4,10,15,14,1,11,12,6,8,3,13],rfl⟩,
 ⟨[2,12,6,10,0,11,8,3,4,13,7,5,15,14,1,9],rfl⟩,
 ⟨[12,5,1,15,14,13,4,10,0,7,6,3,9,2,8,11],rfl⟩,
 ⟨[13,11,7,14,12,1,3,9,5,0,15,4,8,6,2,10],rfl⟩,
 ⟨[6,15,14,9,11,3,0,8,12,2,13,7,1,4,10,5],rfl⟩,
 ⟨[10,2,8,4,7,6,1,5,15,11,9,14,3,12,13,0],rfl⟩]
theorem zib:blOrder.length=10:=rfl
def GlF (F:Frz):Prop:=SlC F (.slice (some ⟨1,0,none⟩) 1 1) 8 ([eB].map fun x=>x.1.map (Value.int .u32))∧SlC F (.slice (some ⟨2,0,none⟩) 10 10) 16 (blOrder.map fun x=>x.1.map (Value.int .u8))
theorem GlF.mono {F G:Frz}(h:GlF F)(hle:F.Le G):GlF G:=⟨h.1.mono hle,h.2.mono hle⟩
end Go.Proofs.YtmnjbhkcfghebaaGreatDoor
