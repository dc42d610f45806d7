/- ForwardHolds: shortened and put together by squeeze.py. -/
import Derived.Test.YtmnjbhkcfghebaaGreatDoorQ16
import Derived.Test.YtmnjbhkcfghebaaGreatDoorRows
import Derived.Test.YtmnjbhkcfghebaaGreatDoorCards
import Derived.Test.YtmnjbhkcfghebaaGreatDoorTie
import Derived.ProofKit
import Derived.LaidMore
import Derived.OpenShut
import Derived.Stop.Joined
import Derived.SevenTiedAt
import Derived.Lib.SmallJoins
set_option maxRecDepth 100000
set_option maxHeartbeats 4000000
set_option linter.unusedVariables false
set_option linter.unusedSectionVars false
set_option linter.unusedSimpArgs false
namespace Go.Proofs.YtmnjbhkcfghebaaGreatDoor.forwardHolds
open Go.ChangeShapes Go.WideShapes Go.ChangeAt Go.RowKit Go.Joins Go.Deep
section
variable {H:Type}{enc:TypeId×Value→H}{w:World}{base:Nat}{spare:Nat→Bool}{held:Bool}
theorem zjO {t:TypeId}(ht:Tryz.prog.underlying t=some .bool):Opens enc w base spare held t (fun cs (x:Bool)=>cs=[.bool x]):=fun fuel cs y h=>by
 obtain ⟨k,hk,_⟩:=DataW.trod_bool ht h;exact ⟨k,hk⟩
theorem iZ:Opens enc w base spare held 55 (fun cs (x:GProduct)=>cs=cV x):=fun fuel cs y h=>by
 obtain ⟨ys,m,_,_,hl,hyl,hf⟩:=DataW.trod_struct Tryz.underlying55 h;rw [show Tryz.prog.cellsOf 55=5 by kernel_rfl] at hl
 obtain ⟨a0,a1,a2,a3,a4,rfl⟩:∃a0 a1 a2 a3 a4,cs=[a0,a1,a2,a3,a4]:=by
  match cs,hl with
  | [a0,a1,a2,a3,a4],_=>exact ⟨a0,a1,a2,a3,a4,rfl⟩
 (have c3:Tryz.prog.cellsOf 3=1:=by kernel_rfl);have f0:=hf 0 _ rfl;rw [List.getElem?_eq_getElem (by rw [hyl];decide)] at f0;simp only [List.getElem_toArray,List.getElem_cons_zero,List.getElem_cons_succ,c3,List.drop_succ_cons,List.drop_zero,List.take_succ_cons,List.take_zero] at f0;obtain ⟨x0,h0⟩:=(Opens.int b0) _ _ _ f0;simp only [List.cons.injEq,and_true] at h0;obtain rfl:=h0;have f1:=hf 1 _ rfl;rw [List.getElem?_eq_getElem (by rw [hyl];decide)] at f1;simp only [List.getElem_toArray,List.getElem_cons_zero,List.getElem_cons_succ,c3,List.drop_succ_cons,List.drop_zero,List.take_succ_cons,List.take_zero] at f1;obtain ⟨x1,h1⟩:=(Opens.int b0) _ _ _ f1;simp only [List.cons.injEq,and_true] at h1;obtain rfl:=h1;have f2:=hf 2 _ rfl;rw [List.getElem?_eq_getElem (by rw [hyl];decide)] at f2;simp only [List.getElem_toArray,List.getElem_cons_zero,List.getElem_cons_succ,c3,List.drop_succ_cons,List.drop_zero,List.take_succ_cons,List.take_zero] at f2;obtain ⟨x2,h2⟩:=(Opens.int b0) _ _ _ f2;simp only [List.cons.injEq,and_true] at h2;obtain rfl:=h2;have f3:=hf 3 _ rfl;rw [List.getElem?_eq_getElem (by rw [hyl];decide)] at f3;simp only [List.getElem_toArray,List.getElem_cons_zero,List.getElem_cons_succ,c3,List.drop_succ_cons,List.drop_zero,List.take_succ_cons,List.take_zero] at f3;obtain ⟨x3,h3⟩:=(Opens.int b0) _ _ _ f3;simp only [List.cons.injEq,and_true] at h3;obtain rfl:=h3;have f4:=hf 4 _ rfl;rw [List.getElem?_eq_getElem (by rw [hyl];decide)] at f4;simp only [List.getElem_toArray,List.getElem_cons_zero,List.getElem_cons_succ,c3,List.drop_succ_cons,List.drop_zero,List.take_succ_cons,List.take_zero] at f4;obtain ⟨x4,h4⟩:=(Opens.int b0) _ _ _ f4;simp only [List.cons.injEq,and_true] at h4;obtain rfl:=h4;exact ⟨⟨x0,x1,x2,x3,x4⟩,rfl⟩
theorem jp:Opens enc w base spare held 57 (cR (Frz.all w)):=fun fuel cs y h=>by
 obtain ⟨ys,m,_,_,hl,hyl,hf⟩:=DataW.trod_struct Tryz.underlying57 h;rw [show Tryz.prog.cellsOf 57=4 by kernel_rfl] at hl
 obtain ⟨a0,a1,a2,a3,rfl⟩:∃a0 a1 a2 a3,cs=[a0,a1,a2,a3]:=by
  match cs,hl with
  | [a0,a1,a2,a3],_=>exact ⟨a0,a1,a2,a3,rfl⟩
 (have c3:Tryz.prog.cellsOf 3=1:=by kernel_rfl); (have c41:Tryz.prog.cellsOf 41=1:=by kernel_rfl);have f0:=hf 0 _ rfl;rw [List.getElem?_eq_getElem (by rw [hyl];decide)] at f0;simp only [List.getElem_toArray,List.getElem_cons_zero,List.getElem_cons_succ,c3,List.drop_succ_cons,List.drop_zero,List.take_succ_cons,List.take_zero] at f0;obtain ⟨x0,h0⟩:=(Opens.int b0) _ _ _ f0;simp only [List.cons.injEq,and_true] at h0;obtain rfl:=h0;have f1:=hf 1 _ rfl;rw [List.getElem?_eq_getElem (by rw [hyl];decide)] at f1;simp only [List.getElem_toArray,List.getElem_cons_zero,List.getElem_cons_succ,c3,List.drop_succ_cons,List.drop_zero,List.take_succ_cons,List.take_zero] at f1;obtain ⟨x1,h1⟩:=(Opens.int b0) _ _ _ f1;simp only [List.cons.injEq,and_true] at h1;obtain rfl:=h1;have f2:=hf 2 _ rfl;rw [List.getElem?_eq_getElem (by rw [hyl];decide)] at f2;simp only [List.getElem_toArray,List.getElem_cons_zero,List.getElem_cons_succ,c3,List.drop_succ_cons,List.drop_zero,List.take_succ_cons,List.take_zero] at f2;obtain ⟨x2,h2⟩:=(Opens.int b0) _ _ _ f2;simp only [List.cons.injEq,and_true] at h2;obtain rfl:=h2;have f3:=hf 3 _ rfl;rw [List.getElem?_eq_getElem (by rw [hyl];decide)] at f3;simp only [List.getElem_toArray,List.getElem_cons_zero,List.getElem_cons_succ,c41,List.drop_succ_cons,List.drop_zero,List.take_succ_cons,List.take_zero] at f3;obtain ⟨x3,v3,h3,g3⟩:=(jz (e:=3) (k:=1) (en:=eI) b0 b0 a8 (Opens.int b0)) _ _ _ f3;simp only [List.cons.injEq,and_true] at h3;subst h3;exact ⟨⟨x0,x1,x2,x3⟩,_,rfl,g3⟩
theorem iD:Opens enc w base spare held 23 (fun cs (x:GIncrement)=>cs=gE x):=fun fuel cs y h=>by
 obtain ⟨ys,m,_,_,hl,hyl,hf⟩:=DataW.trod_struct Tryz.underlying23 h;rw [show Tryz.prog.cellsOf 23=2 by kernel_rfl] at hl
 obtain ⟨a0,a1,rfl⟩:∃a0 a1,cs=[a0,a1]:=by
  match cs,hl with
  | [a0,a1],_=>exact ⟨a0,a1,rfl⟩
 (have c3:Tryz.prog.cellsOf 3=1:=by kernel_rfl);have f0:=hf 0 _ rfl;rw [List.getElem?_eq_getElem (by rw [hyl];decide)] at f0;simp only [List.getElem_toArray,List.getElem_cons_zero,List.getElem_cons_succ,c3,List.drop_succ_cons,List.drop_zero,List.take_succ_cons,List.take_zero] at f0;obtain ⟨x0,h0⟩:=(Opens.int b0) _ _ _ f0;simp only [List.cons.injEq,and_true] at h0;obtain rfl:=h0;have f1:=hf 1 _ rfl;rw [List.getElem?_eq_getElem (by rw [hyl];decide)] at f1;simp only [List.getElem_toArray,List.getElem_cons_zero,List.getElem_cons_succ,c3,List.drop_succ_cons,List.drop_zero,List.take_succ_cons,List.take_zero] at f1;obtain ⟨x1,h1⟩:=(Opens.int b0) _ _ _ f1;simp only [List.cons.injEq,and_true] at h1;obtain rfl:=h1;exact ⟨⟨x0,x1⟩,rfl⟩
theorem iV:Opens enc w base spare held 26 (fun cs (x:GInt)=>gG (Frz.all w) cs x∧(∀y∈x.Digits,0≤y∧y≤255)):=fun fuel cs y h=>by
 obtain ⟨ys,m,_,_,hl,hyl,hf⟩:=DataW.trod_struct Tryz.underlying26 h;rw [show Tryz.prog.cellsOf 26=2 by kernel_rfl] at hl
 obtain ⟨a0,a1,rfl⟩:∃a0 a1,cs=[a0,a1]:=by
  match cs,hl with
  | [a0,a1],_=>exact ⟨a0,a1,rfl⟩
 (have c4:Tryz.prog.cellsOf 4=1:=by kernel_rfl); (have c24:Tryz.prog.cellsOf 24=1:=by kernel_rfl);have f0:=hf 0 _ rfl;rw [List.getElem?_eq_getElem (by rw [hyl];decide)] at f0;simp only [List.getElem_toArray,List.getElem_cons_zero,List.getElem_cons_succ,c4,List.drop_succ_cons,List.drop_zero,List.take_succ_cons,List.take_zero] at f0;obtain ⟨x0,h0⟩:=(zjO b0) _ _ _ f0;simp only [List.cons.injEq,and_true] at h0;obtain rfl:=h0;have f1:=hf 1 _ rfl;rw [List.getElem?_eq_getElem (by rw [hyl];decide)] at f1;simp only [List.getElem_toArray,List.getElem_cons_zero,List.getElem_cons_succ,c24,List.drop_succ_cons,List.drop_zero,List.take_succ_cons,List.take_zero] at f1;obtain ⟨x1,v1,h1,g1,bt1⟩:=(Opens.bytes (e:=5) b0 b0 b0) _ _ _ f1;simp only [List.cons.injEq,and_true] at h1;subst h1;exact ⟨⟨x0,x1⟩,⟨_,rfl,g1⟩,bt1⟩
theorem jS:Opens enc w base spare held 28 (fun cs (x:GRatio)=>fR (Frz.all w) cs x∧(∀y∈x.Num.Digits,0≤y∧y≤255)∧(∀y∈x.Den.Digits,0≤y∧y≤255)):=fun fuel cs y h=>by
 obtain ⟨ys,m,_,_,hl,hyl,hf⟩:=DataW.trod_struct Tryz.underlying28 h;rw [show Tryz.prog.cellsOf 28=4 by kernel_rfl] at hl
 obtain ⟨a0,a1,a2,a3,rfl⟩:∃a0 a1 a2 a3,cs=[a0,a1,a2,a3]:=by
  match cs,hl with
  | [a0,a1,a2,a3],_=>exact ⟨a0,a1,a2,a3,rfl⟩
 (have c26:Tryz.prog.cellsOf 26=2:=by kernel_rfl);have f0:=hf 0 _ rfl;rw [List.getElem?_eq_getElem (by rw [hyl];decide)] at f0;simp only [List.getElem_toArray,List.getElem_cons_zero,List.getElem_cons_succ,c26,List.drop_succ_cons,List.drop_zero,List.take_succ_cons,List.take_zero] at f0;obtain ⟨x0,⟨v0_1,h0,g0_1⟩,bt0_0⟩:=iV _ _ _ f0;simp only [List.cons.injEq,and_true] at h0;obtain ⟨rfl,rfl⟩:=h0;have f1:=hf 1 _ rfl;rw [List.getElem?_eq_getElem (by rw [hyl];decide)] at f1;simp only [List.getElem_toArray,List.getElem_cons_zero,List.getElem_cons_succ,c26,List.drop_succ_cons,List.drop_zero,List.take_succ_cons,List.take_zero] at f1;obtain ⟨x1,⟨v1_1,h1,g1_1⟩,bt1_0⟩:=iV _ _ _ f1;simp only [List.cons.injEq,and_true] at h1;obtain ⟨rfl,rfl⟩:=h1;exact ⟨⟨x0,x1⟩,⟨_,_,rfl,g0_1,g1_1⟩,bt0_0,bt1_0⟩
theorem lc:Opens enc w base spare held 79 (fun cs (x:GBid)=>cW (Frz.all w) cs x∧(∀y∈x.Point.Num.Digits,0≤y∧y≤255)∧(∀y∈x.Point.Den.Digits,0≤y∧y≤255)):=fun fuel cs y h=>by
 obtain ⟨ys,m,_,_,hl,hyl,hf⟩:=DataW.trod_struct Tryz.underlying79 h;rw [show Tryz.prog.cellsOf 79=7 by kernel_rfl] at hl
 obtain ⟨a0,a1,a2,a3,a4,a5,a6,rfl⟩:∃a0 a1 a2 a3 a4 a5 a6,cs=[a0,a1,a2,a3,a4,a5,a6]:=by
  match cs,hl with
  | [a0,a1,a2,a3,a4,a5,a6],_=>exact ⟨a0,a1,a2,a3,a4,a5,a6,rfl⟩
 (have c3:Tryz.prog.cellsOf 3=1:=by kernel_rfl); (have c28:Tryz.prog.cellsOf 28=4:=by kernel_rfl);have f0:=hf 0 _ rfl;rw [List.getElem?_eq_getElem (by rw [hyl];decide)] at f0;simp only [List.getElem_toArray,List.getElem_cons_zero,List.getElem_cons_succ,c3,List.drop_succ_cons,List.drop_zero,List.take_succ_cons,List.take_zero] at f0;obtain ⟨x0,h0⟩:=(Opens.int b0) _ _ _ f0;simp only [List.cons.injEq,and_true] at h0;obtain rfl:=h0;have f1:=hf 1 _ rfl;rw [List.getElem?_eq_getElem (by rw [hyl];decide)] at f1;simp only [List.getElem_toArray,List.getElem_cons_zero,List.getElem_cons_succ,c3,List.drop_succ_cons,List.drop_zero,List.take_succ_cons,List.take_zero] at f1;obtain ⟨x1,h1⟩:=(Opens.int b0) _ _ _ f1;simp only [List.cons.injEq,and_true] at h1;obtain rfl:=h1;have f2:=hf 2 _ rfl;rw [List.getElem?_eq_getElem (by rw [hyl];decide)] at f2;simp only [List.getElem_toArray,List.getElem_cons_zero,List.getElem_cons_succ,c3,List.drop_succ_cons,List.drop_zero,List.take_succ_cons,List.take_zero] at f2;obtain ⟨x2,h2⟩:=(Opens.int b0) _ _ _ f2;simp only [List.cons.injEq,and_true] at h2;obtain rfl:=h2;have f3:=hf 3 _ rfl;rw [List.getElem?_eq_getElem (by rw [hyl];decide)] at f3;simp only [List.getElem_toArray,List.getElem_cons_zero,List.getElem_cons_succ,c28,List.drop_succ_cons,List.drop_zero,List.take_succ_cons,List.take_zero] at f3;obtain ⟨x3,⟨v3_1,v3_3,h3,g3_1,g3_3⟩,bt3_0,bt3_1⟩:=jS _ _ _ f3;simp only [List.cons.injEq,and_true] at h3;obtain ⟨rfl,rfl,rfl,rfl⟩:=h3;exact ⟨⟨x0,x1,x2,x3⟩,⟨_,_,rfl,g3_1,g3_3⟩,bt3_0,bt3_1⟩
theorem zhG:Opens enc w base spare held 46 (fun cs (l:List GBid)=>∃v c,cs=[v]∧SlD cW (Frz.all w) v 7 c l∧∀x∈l,(∀y∈x.Point.Num.Digits,0≤y∧y≤255)∧(∀y∈x.Point.Den.Digits,0≤y∧y≤255)):=fun fuel cs y h=>by
 obtain ⟨l,v,c,h1,h2,h3,h4⟩:=Opens.any (k:=7) (R:=fun cs (x:GBid)=>cW (Frz.all w) cs x∧(∀y∈x.Point.Num.Digits,0≤y∧y≤255)∧(∀y∈x.Point.Den.Digits,0≤y∧y≤255)) Tryz.underlying46 b0 a8 lc _ _ _ h;refine ⟨l,v,c,h1,⟨h2,h3,fun i hi=>(h4 i hi).1⟩,fun x hx=>?_⟩;obtain ⟨i,hi,rfl⟩:=List.mem_iff_getElem.1 hx;have:=(h4 i hi).2;rw [eZ hi] at this;exact this
theorem zhz:Opens enc w base spare held 35 (fun cs (l:List (List GBid))=>∃v c,cs=[v]∧SlD c7 (Frz.all w) v 1 c l∧∀q∈l,∀x∈q,(∀y∈x.Point.Num.Digits,0≤y∧y≤255)∧(∀y∈x.Point.Den.Digits,0≤y∧y≤255)):=fun fuel cs y h=>by
 obtain ⟨l,v,c,h1,h2,h3,h4⟩:=Opens.any (k:=1) (R:=fun cs (q:List GBid)=>c7 (Frz.all w) cs q∧∀x∈q,(∀y∈x.Point.Num.Digits,0≤y∧y≤255)∧(∀y∈x.Point.Den.Digits,0≤y∧y≤255)) Tryz.underlying35 b0 a8 (fun fuel cs y h=>by
  obtain ⟨q,v,c,h1,h2,h3⟩:=zhG _ _ _ h
  exact ⟨q,⟨v,c,h1,h2⟩,h3⟩) _ _ _ h
 refine ⟨l,v,c,h1,⟨h2,h3,fun i hi=>(h4 i hi).1⟩,fun q hq=>?_⟩;obtain ⟨i,hi,rfl⟩:=List.mem_iff_getElem.1 hq;have:=(h4 i hi).2;rw [eZ hi] at this;exact this
end
theorem zjG {H:Type}{enc:TypeId×Value→H}{w:World}{base:Nat}{spare:Nat→Bool}{held:Bool}{fuel:Nat}{cs:List Value}{y:DataW H×List MemPlace}(h:DataW.trod enc Tryz.prog w base spare held fuel 34 cs=some y)(hw:(DataW.weights Tryz.prog 34 y.1).all (· ≤reachBytes)=true):
  ∃x u c,cs=[u]∧SlD cR (Frz.all w) u 4 c x∧∀b∈x,dm b.Blocks.length 8:=by
 (have cI:Tryz.prog.cellsOf 41=1:=by kernel_rfl); (have bI:Tryz.prog.bytesOf 3=8:=by kernel_rfl)
 obtain ⟨l,v,c,h1,h2,h3,h4⟩:=kV (k:=4) (R:=fun cs (x:GBidder) d=>cR (Frz.all w) cs x∧((∀ wt∈DataW.weights Tryz.prog 57 d,wt≤reachBytes)→dm x.Blocks.length 8)) Tryz.underlying34 b0 a8 (fun fuel cs y h=>by
  obtain ⟨x,hx⟩:=jp _ _ _ h;refine ⟨x,hx,fun hwt=>?_⟩;obtain ⟨v3,rfl,h4⟩:=hx;obtain ⟨ys,m,_,hy,_,hyl,hf⟩:=DataW.trod_struct Tryz.underlying57 h;have f3:=hf 3 _ rfl
  obtain ⟨a,b,c,d,rfl⟩:∃a b c d,ys=[a,b,c,d]:=by
   match ys,hyl with
   | [a,b,c,d],_=>exact ⟨a,b,c,d,rfl⟩
  simp only [cI,List.drop_succ_cons,List.drop_zero,List.take_succ_cons,List.take_zero,List.getElem?_cons_succ,List.getElem?_cons_zero] at f3;obtain ⟨A,cap,hv,h5,h6,h7,h8⟩:=h4;rw [List.length_map] at hv h8
  cases A with
  |none=>
   have:x.Blocks.length=0:=Nat.eq_zero_of_not_pos fun hp=>by
    obtain ⟨g,off,e,_⟩:=h8 hp
    cases e
   rw [this];decide
  |some a9=>
   subst hv
   have:=zi4 Tryz.underlying41 f3 (by
    rw [List.all_eq_true];intro wt hm;refine decide_eq_true (hwt wt ?_);rw [hy];unfold DataW.weights;rw [Tryz.underlying57]
    simp [DataW.weightsEach,hm])
   rw [bI] at this;unfold reachBytes at this
   unfold dm;omega) h
 refine ⟨l,v,c,h1,⟨h2,h3,fun i hi=>?_⟩,fun b hb=>?_⟩
 ·obtain ⟨d,h5,_⟩:=h4 i hi;exact h5.1
 ·obtain ⟨i,hi,rfl⟩:=List.mem_iff_getElem.1 hb;obtain ⟨d,h5,h6⟩:=h4 i hi;rw [eZ hi] at h5;exact h5.2 fun wt hm=>of_decide_eq_true (List.all_eq_true.1 hw wt (h6 wt hm))
abbrev lt:List (String×DataW Unit):=lt36
theorem zkQ (os:Os)(args:Array Value):laidMetH Tryz.prog lt ((World.doorLaid Tryz.prog 400 os).forCall (fun _ _=>0) ⟨#[],args,[]⟩).memory:=zl1 os args
theorem lifted (os:Os)(started:os.Started)(H:Type)(enc:TypeId×Value→H):
  ReturnsInHanded {} Tryz.checked os 4 .any (fun w args=>(Rows.forwardHoldsSpec.pre enc Tryz.prog Tryz.f4 [] false w args∧laidMetH Tryz.prog lt w)∧sizedMet enc Tryz.prog Tryz.f4 (OpenSpec.ofChange Rows.forwardHoldsSpec) false w args)
   (Rows.forwardHoldsSpec.post enc Tryz.prog Tryz.f4 false true false false):=by
 refine returnsInHanded_of_change_and (C:=Tryz.checked) (X:=fun w _=>laidMetH Tryz.prog lt w) (fun _ _ _ hh h=>h.of_heap hh) own started b0 Tryz.func4
  (ChangeSpec.witness_shaped (enc:=enc) (C:=Tryz.checked) (os:=os) (X:=fun w _=>laidMetH Tryz.prog lt w) false (World.doorLaid Tryz.prog 400 os) #[.slice none 0 0, .slice none 0 0, .agg #[.int .i64 0, .int .i64 0], .slice none 0 0, .slice none 0 0] 8 rfl (World.shaped_of_RefB b0 b0) b0 b0 b0 (zkQ os _)) ?_
 intro W base args ds gs before hval0 hW _ hwt hL _;have hval:∀(j:Nat) t v,Tryz.f4.params[j]?=some t→args[j]?=some v→Value.okWide Tryz.prog W .any base t v:=hval0;have hW':=hW;obtain ⟨p,q,hA0,hV,rfl,hfz,hnd⟩:=hW;have hA:DataW.TrodAll enc Tryz.prog W 0 (fun _=>true) true Tryz.f4.params.toList args.toList ds p:=hA0;rw [Tryz.params4] at hA hval;obtain ⟨v0,vs0,d0,ds0,p0,q0,hargs,rfl,rfl,h0,r0⟩:=trodAll_cons hA;obtain ⟨v1,vs1,d1,ds1,p1,q1,rfl,rfl,rfl,h1,r1⟩:=trodAll_cons r0;obtain ⟨v2,vs2,d2,ds2,p2,q2,rfl,rfl,rfl,h2,r2⟩:=trodAll_cons r1;obtain ⟨v3,vs3,d3,ds3,p3,q3,rfl,rfl,rfl,h3,r3⟩:=trodAll_cons r2;obtain ⟨v4,vs4,d4,ds4,p4,q4,rfl,rfl,rfl,h4,r4⟩:=trodAll_cons r3;obtain ⟨rfl,rfl,rfl⟩:=trodAll_nil r4; (obtain rfl:args= #[v0,v1,v2,v3,v4]:=by cases args;simp_all);obtain ⟨rfl,rfl⟩:=trodVars_none hV;have k0:=hval 0 33 v0 rfl rfl;obtain ⟨A0,L0,C0,rfl⟩:=okWide_slice Tryz.underlying33 k0;obtain ⟨fuel0,g0⟩:=h0;obtain ⟨x0,u0,e0,s0⟩:=(jz (e:=55) (k:=5) (en:=cV) b0 b0 a8 iZ) _ _ _ g0;simp only [Value.cells,List.cons.injEq,and_true] at e0;subst e0;have k1:=hval 1 34 v1 rfl rfl;obtain ⟨A1,L1,C1,rfl⟩:=okWide_slice Tryz.underlying34 k1;obtain ⟨fuel1,g1⟩:=h1;rw [Tryz.params4] at hwt;simp only [List.cons_append,List.nil_append,DataW.weightsEach,List.all_append,Bool.and_eq_true] at hwt;obtain ⟨x1,u1,c1,e1,s1,b1⟩:=zjG g1 hwt.2.1;simp only [Value.cells,List.cons.injEq,and_true] at e1;subst e1;have k2:=hval 2 23 v2 rfl rfl;obtain ⟨A2,rfl,z2⟩:=okWide_struct Tryz.underlying23 k2;obtain ⟨fuel2,g2⟩:=h2;obtain ⟨x2,e2⟩:=iD _ _ _ g2;obtain ⟨B2⟩:=A2;simp only [Value.cells] at e2;subst e2;have k3:=hval 3 24 v3 rfl rfl;obtain ⟨A3,L3,C3,rfl⟩:=okWide_slice Tryz.underlying24 k3;obtain ⟨fuel3,g3⟩:=h3;obtain ⟨x3,u3,e3,s3,b3⟩:=(Opens.bytes (e:=5) b0 b0 b0) _ _ _ g3;simp only [Value.cells,List.cons.injEq,and_true] at e3;subst e3;have k4:=hval 4 35 v4 rfl rfl;obtain ⟨A4,L4,C4,rfl⟩:=okWide_slice Tryz.underlying35 k4;obtain ⟨fuel4,g4⟩:=h4;obtain ⟨x4,u4,c4,e4,s4,b4⟩:=zhz _ _ _ g4;simp only [Value.cells,List.cons.injEq,and_true] at e4;subst e4;refine (zfg (Frz.all W) W (kI W) x0 _ s0 x1 _ _ s1 x2 x3 _ s3 x4 _ _ s4 (gl_of hL) 100000 true (zhL (Nat.le_refl _) x0 x1 x2 x3 x4 b1 b4)).mono fun e W' ⟨he,hg⟩=>?_;subst he;exact ⟨_,rfl,zkg laid (tb:=4) b0 Tryz.underlying4 b0 rfl rfl rfl rfl hW' hg⟩
theorem proved:Rows.ForwardHoldsSaid:=
 OpenClaim.holds_of_wide 4 Tryz.f4 rfl rfl rfl rfl rfl rfl rfl ⟨rfl,rfl,rfl,rfl,rfl⟩ rfl rfl rfl rfl rfl b0 Tryz.func4 b0
  (of_decide_eq_true b0) (by unfold Func.isWrapper;first|(rw [if_pos (by decide +kernel)];kernel_rfl)|(rw [if_neg (by decide +kernel)];exact ⟨rfl,rfl⟩))
  (fun os started H enc _=>lifted os started H enc)
theorem card : Rows.ForwardHoldsCardSaid :=
  Claim7.holds_tied_plain_at .later [] [.data, .data] true (true, "9ea1400b6b07280df37bae8079994cf2041caa851888738e30bfc79373474895") true
    proved (fun _ h => by cases h) b0 (fun _ h => by cases h) forwardHolds_row_tie rfl ⟨rfl, rfl⟩ b0 rfl
    (fun f fn hf hfn => by
      obtain rfl : f = 4 := Option.some.inj ((show Tryz.prog.funcNamed "bandplan/bandplanlaw36.ForwardHolds" = some 4 by kernel_rfl).symm.trans hf) |>.symm; obtain rfl : fn = Tryz.f4 := (Option.some.inj (Tryz.func4.symm.trans hfn)).symm
      exact ⟨by kernel_rfl, fun j t ht => by
        rw [Tryz.params4] at ht; (have hm : t ∈ [33, 34, 23, 24, 35] := by simpa using Array.mem_of_getElem? ht); (have hall : ([33, 34, 23, 24, 35].all fun u => !Tryz.prog.wantsStandIn u) = true := by kernel_rfl)
        exact (show Tryz.prog.wantsStandIn t = false by simpa using List.all_eq_true.1 hall t hm)⟩)
    b0
#print axioms card
end Go.Proofs.YtmnjbhkcfghebaaGreatDoor.forwardHolds
