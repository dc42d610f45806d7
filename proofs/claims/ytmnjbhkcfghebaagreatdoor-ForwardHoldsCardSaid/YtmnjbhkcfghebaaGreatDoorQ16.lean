/- Gp: shortened and put together by squeeze.py. -/
import Derived.Test.YtmnjbhkcfghebaaGreatDoorQ15
import Derived.Test.YtmnjbhkcfghebaaGreatDoorRows
import Derived.LaidMore
import Derived.OpenShut
import Derived.Stop.Joined
import Derived.Lib.SmallJoins
set_option maxRecDepth 100000
set_option maxHeartbeats 4000000
set_option linter.unusedVariables false
set_option linter.unusedSectionVars false
set_option linter.unusedSimpArgs false
namespace Go.Proofs.YtmnjbhkcfghebaaGreatDoor
open Go.ChangeShapes Go.WideShapes Go.ChangeAt Go.RowKit Go.Joins Go.Deep
abbrev lt36 : List (String × DataW Unit) := [("bandplan/blake.order", Rows.laid_bandplan_blake_order), ("bandplan/blake.initial", Rows.laid_bandplan_blake_initial)]
theorem g36a : Tryz.prog.globalNamed "bandplan/blake.order" = some 2 := by kernel_rfl
theorem g36b : Tryz.prog.globalNamed "bandplan/blake.initial" = some 1 := by kernel_rfl
theorem t36a:(Tryz.prog.globals[2]?).map (·.type)=some 301:=by kernel_rfl
theorem t36b:(Tryz.prog.globals[1]?).map (·.type)=some 292:=by kernel_rfl
theorem zl1 (os:Os)(args:Array Value):laidMetH Tryz.prog lt36 ((World.doorLaid Tryz.prog 400 os).forCall (fun _ _=>0) ⟨#[],args,[]⟩).memory:=
 laidMetH_of_parts3 (fuel:=8) (laidMet_of_run' 8 b0 b0) b0 b0
section
variable {P:Program}{H:Type}{enc:TypeId×Value→H}{w:World}{base:Nat}{spare:Nat→Bool}{held:Bool}
theorem ziE {t e n:Nat}{k:IntKind}{fuel:Nat}{cs:List Value}{zs:List Int}{pl:List MemPlace}(ht:P.underlying t=some (.array n e))(he:P.underlying e=some (.int k))(hc:P.cellsOf e=1)(hct:P.cellsOf t=n)(h:DataW.trod enc P w base spare held fuel t cs=some (.agg (zs.map fun z=> .lit (.int k z)),pl)):cs=zs.map (Value.int k):=by
 obtain ⟨xs,m,rfl,hx,hl,hn,hel⟩:=DataW.trod_array ht h;simp only [Prod.mk.injEq,DataW.agg.injEq] at hx; (have hzl:zs.length=n:=by have:=congrArg List.length hx.1;simp at this;omega);refine List.ext_getElem (by rw [hl,List.length_map,hct,hzl]) fun j h1 h2=>?_; (have hj:j<n:=by rw [List.length_map] at h2;omega);have h0:=hel j hj;rw [List.getElem?_eq_getElem a7] at h0;obtain ⟨q,e1,e2,_⟩:=DataW.trod_int he h0;have h3:=congrArg (fun l=>l[j]?) hx.1;simp only [List.getElem?_map] at h3;rw [List.getElem?_eq_getElem (show j<xs.length by omega),List.getElem?_eq_getElem (show j<zs.length by omega)] at h3;simp only [Option.map_some,Option.some.injEq] at h3;rw [e2] at h3;simp only [DataW.lit.injEq,Lit.int.injEq,true_and] at h3;subst h3;rw [hc,Nat.mul_one] at e1;have h4:=congrArg (fun l=>l[0]?) e1;simp only [List.getElem?_take,List.getElem?_drop] at h4;simp at h4;rw [List.getElem?_eq_getElem h1] at h4;simp only [Option.some.injEq] at h4;rw [h4];simp
end
theorem zl4:(Rows.laid_bandplan_blake_initial:DataW Unit)= .agg (eB.1.map fun z=> .lit (.int .u32 z)):=rfl
theorem zl2:(Rows.laid_bandplan_blake_order:DataW Unit)= .agg (blOrder.map fun x=> .agg (x.1.map fun z=> .lit (.int .u8 z))):=rfl
theorem zhR {W:World}{n:String}{g:Nat}{cs:Array Value}(hg:Tryz.prog.globalNamed n=some g)(hv:W.var? Tryz.prog n=some cs):Cb W g:=by
 simp only [World.var?,hg,Option.bind_some] at hv
 split at hv
 ·exact ⟨_,_,_,by assumption⟩
 ·simp at hv
theorem gl_of {W:World}(h:laidMetH Tryz.prog lt36 W):GlF (Frz.all W):=by
 rw [MakeChecks.laidMetH_plain _ _ _ b0] at h;obtain ⟨ps,⟨g0,t0,cs0,f0,p0,q0,hg0,ht0,hv0,hd0,⟨g1,t1,cs1,f1,p1,q1,hg1,ht1,hv1,hd1,_,_⟩,_⟩,_,_⟩:=h;obtain rfl:=Option.some.inj (g36a.symm.trans hg0);obtain rfl:=Option.some.inj (t36a.symm.trans ht0);obtain rfl:=Option.some.inj (g36b.symm.trans hg1);obtain rfl:=Option.some.inj (t36b.symm.trans ht1); (have e5:Tryz.prog.cellsOf 5=1:=by kernel_rfl); (have e175:Tryz.prog.cellsOf 175=1:=by kernel_rfl); (have e292:Tryz.prog.cellsOf 292=8:=by kernel_rfl); (have e300:Tryz.prog.cellsOf 300=16:=by kernel_rfl);constructor
 ·rw [zl4] at hd1;have hc:=ziE Tryz.underlying292 Tryz.underlying175 e175 e292 hd1;refine ⟨some ⟨1,0,none⟩,1,rfl,Nat.le_refl _,by decide,fun c hc=>?_,fun _=>⟨1,0,rfl,zhR g36b hv1,fun i hi q hq=>?_⟩⟩
  ·simp at hc;subst hc;rfl
  ·(have hi:i=0:=by simpa using hi);subst hi
   show W.cell? _=_
   rw [Nat.zero_mul,Nat.zero_add,World.var?_cell hg1 hv1 q,←Array.getElem?_toList,hc];rfl
 ·rw [zl2] at hd0;obtain ⟨xs,m,rfl,hx,hl,hn,hel⟩:=DataW.trod_array Tryz.underlying301 hd0;simp only [Prod.mk.injEq,DataW.agg.injEq] at hx;refine ⟨some ⟨2,0,none⟩,10,rfl,by decide,by decide,fun c hc=>?_,fun _=>⟨2,0,rfl,zhR g36a hv0,fun i hi q hq=>?_⟩⟩
  ·obtain ⟨x,_,rfl⟩:=List.mem_map.1 hc;rw [List.length_map,x.2]
  ·(have hi:i<10:=by rw [List.length_map] at hi;exact hi);have hb:i<blOrder.length:=hi;have h0:=hel i hi;rw [List.getElem?_eq_getElem a7] at h0;have h3:=congrArg (fun l=>l[i]?) hx.1;simp only [List.getElem?_map] at h3;rw [List.getElem?_eq_getElem (show i<xs.length by omega),List.getElem?_eq_getElem hb] at h3;simp only [Option.map_some,Option.some.injEq] at h3;have h4:xs[i]=(.agg (blOrder[i].1.map fun z=> .lit (.int .u8 z)),xs[i].2):=Prod.ext h3.symm rfl;rw [h4] at h0;have hc:=ziE Tryz.underlying300 Tryz.underlying5 e5 e300 h0;rw [e300] at hc
   have e9:nth (blOrder.map fun x=>x.1.map (Value.int .u8)) i=blOrder[i].1.map (Value.int .u8):=by
    rw [eZ (by rw [List.length_map];exact hb),List.getElem_map]
   rw [e9] at hq ⊢;rw [List.length_map,blOrder[i].2] at hq
   show W.cell? _=_
   rw [Nat.zero_add,World.var?_cell hg0 hv0 (i*16+q),←Array.getElem?_toList,←hc,List.getElem?_take_of_lt hq,List.getElem?_drop]
section
variable {H:Type}{enc:TypeId×Value→H}{w:World}{base:Nat}{spare:Nat→Bool}{held:Bool}
theorem zi4 {fuel:Nat}{e t:Nat}{k c:Nat}{A:Addr}{y:DataW H×List MemPlace}(ht:Tryz.prog.underlying t=some (.slice e))(h:DataW.trod enc Tryz.prog w base spare held fuel t [.slice (some A) k c]=some y)(hw:(DataW.weights Tryz.prog t y.1).all (· ≤reachBytes)=true):k*Tryz.prog.bytesOf e≤reachBytes:=by
 rcases open_slice ht h with ⟨h0,_⟩|⟨a,len,cap,m,n,D,Pl,hcs,hb,hl,hm,hmm,rfl,hx⟩
 ·cases h0
 ·simp only [List.cons.injEq,Value.slice.injEq,Option.some.injEq,and_true] at hcs;obtain ⟨_,rfl,_⟩:=hcs;unfold DataW.weights at hw;rw [ht] at hw;dsimp only at hw;rw [List.all_cons,Bool.and_eq_true,decide_eq_true_eq] at hw;have h1:=hw.1;simp only [List.length_map,List.length_range] at h1;exact Nat.le_trans (Nat.mul_le_mul_right _ (Nat.le_add_right _ _)) h1
theorem kV {t e:TypeId}{k:Nat}{α:Type}[Inhabited α]{R:List Value→α→DataW H→Prop}(ht:Tryz.prog.underlying t=some (.slice e))(hk:Tryz.prog.cellsOf e=k)(hpos:0<k)(ho:∀fuel cs y,DataW.trod enc Tryz.prog w base spare held fuel e cs=some y→∃x,R cs x y.1){fuel:Nat}{cs:List Value}{y:DataW H×List MemPlace}(h:DataW.trod enc Tryz.prog w base spare held fuel t cs=some y):
  ∃(l:List α) (v:Value) (c:List (List Value)),cs=[v]∧SlC (Frz.all w) v k c∧c.length=l.length∧∀i,i<l.length→∃d,R (nth c i) (nth l i) d∧∀wt∈DataW.weights Tryz.prog e d,wt∈DataW.weights Tryz.prog t y.1:=by
 rcases open_slice ht h with ⟨h0,_⟩|⟨a,len,cap,m,n,D,Pl,hcs,hb,hl,hm,hmm,hy,hx⟩
 ·exact ⟨[],_,[],h0,SlC.nil _ _,rfl,fun i hi=>absurd hi (Nat.not_lt_zero i)⟩
 ·subst hcs; (have hlm:len≤m:=by rw [hmm];split <;> omega)
  have each:∀i,i<m→∃x:List Value×α,x.1.length=k∧R x.1 x.2 (D i)∧∀j,j<k→w.cell? (a.add (i*k+j))=x.1[j]?:=fun i hi=>by
   obtain ⟨cs',h1,h2⟩:=hx i hi;rw [hk] at h1;obtain ⟨_,hlen,hcell⟩:=World.cells?_some h1;obtain ⟨x,hR⟩:=ho _ _ _ h2;exact ⟨(cs',x),hlen,hR,fun j hj=>by rw [←hcell j hj,add_add]⟩
  obtain ⟨X,hX⟩:=choose_lt each
  have hn:∀i,i<len→nth ((List.range len).map fun i=>(X i).1) i=(X i).1:=fun i hi=>by
   rw [eZ (by simpa using hi)];simp
  have hn2:∀i,i<len→nth ((List.range len).map fun i=>(X i).2) i=(X i).2:=fun i hi=>by
   rw [eZ (by simpa using hi)];simp
  refine ⟨(List.range len).map fun i=>(X i).2,_,(List.range len).map fun i=>(X i).1,rfl,⟨some a,cap,by simp,by simpa using hl,by unfold maxLen at hm;omega,fun c hc=>?_,fun hp=>?_⟩,by simp,fun i hi=>?_⟩
  ·simp at hc;obtain ⟨i,hi,rfl⟩:=hc;exact (hX i a7).1
  ·(have hp':0<len:=by simpa using hp);have c0:=(hX 0 a7).2.2 0 hpos;have hx0:=(hX 0 a7).1;rw [List.getElem?_eq_getElem a7] at c0;have hcb:=zjl c0;have hs:=World.cell?_spot c0;simp [Addr.add] at hs hcb;obtain ⟨b,off,sp⟩:=a;simp at hs hcb;subst hs;refine ⟨b,off,rfl,hcb,fun i hi j hj=>?_⟩;simp at hi;rw [hn i hi] at hj ⊢;have hxi:=hX i a7;have:=hxi.2.2 j a7;refine Eq.trans ?_ this
   show w.cell? _=_
   rw [kG,Nat.add_assoc]
  ·simp at hi;rw [hn i hi,hn2 i hi];refine ⟨D i,(hX i a7).2.1,fun wt hwt=>?_⟩;rw [hy];unfold DataW.weights;rw [ht];dsimp only;refine List.mem_cons_of_mem _ (List.mem_append_left _ ?_)
   have key:∀(l:List (DataW H)),D i∈l→wt∈DataW.weightsAll Tryz.prog e l:=by
    intro l
    induction l with
    |nil=>intro h;cases h
    |cons d r ih=>
     intro h;unfold DataW.weightsAll;rcases List.mem_cons.1 h with h|h
     ·subst h;exact List.mem_append_left _ hwt
     ·exact List.mem_append_right _ (ih h)
   exact key _ (List.mem_map.2 ⟨i,List.mem_range.2 hi,rfl⟩)
end
end Go.Proofs.YtmnjbhkcfghebaaGreatDoor
