/- SearchDecides: shortened and put together by squeeze.py. -/
import Derived.Test.YtgoeeefoinkepaaGreatDoorQ14
import Derived.Test.YtgoeeefoinkepaaGreatDoorRows
import Derived.Test.YtgoeeefoinkepaaGreatDoorCards
import Derived.Test.YtgoeeefoinkepaaGreatDoorTie
import Derived.ProofKit
import Derived.LaidMore
import Derived.OpenShut
import Derived.Stop.Joined
import Derived.SevenTiedAt
import Derived.Lib.SmallJoins
set_option maxRecDepth 100000
set_option maxHeartbeats 4000000
set_option linter.unusedVariables false
set_option linter.unusedSectionVars false
set_option linter.unusedSimpArgs false
namespace Go.Proofs.YtgoeeefoinkepaaGreatDoor.searchDecides
open Go.ChangeShapes Go.WideShapes Go.ChangeAt Go.RowKit Go.Joins Go.Deep
section
variable {H:Type}{enc:TypeId×Value→H}{w:World}{base:Nat}{spare:Nat→Bool}{held:Bool}
theorem jN:Opens enc w base spare held 59 (cJ (Frz.all w)):=fun fuel cs y h=>by
 obtain ⟨ys,m,_,_,hl,hyl,hf⟩:=DataW.trod_struct Tryz.underlying59 h;rw [show Tryz.prog.cellsOf 59=2 by kernel_rfl] at hl
 obtain ⟨a0,a1,rfl⟩:∃a0 a1,cs=[a0,a1]:=by
  match cs,hl with
  | [a0,a1],_=>exact ⟨a0,a1,rfl⟩
 (have c3:Tryz.prog.cellsOf 3=1:=by kernel_rfl); (have c57:Tryz.prog.cellsOf 57=1:=by kernel_rfl);have f0:=hf 0 _ rfl;rw [List.getElem?_eq_getElem (by rw [hyl];decide)] at f0;simp only [List.getElem_toArray,List.getElem_cons_zero,List.getElem_cons_succ,c3,List.drop_succ_cons,List.drop_zero,List.take_succ_cons,List.take_zero] at f0;obtain ⟨x0,h0⟩:=(Opens.int a8) _ _ _ f0;simp only [List.cons.injEq,and_true] at h0;obtain rfl:=h0;have f1:=hf 1 _ rfl;rw [List.getElem?_eq_getElem (by rw [hyl];decide)] at f1;simp only [List.getElem_toArray,List.getElem_cons_zero,List.getElem_cons_succ,c57,List.drop_succ_cons,List.drop_zero,List.take_succ_cons,List.take_zero] at f1;obtain ⟨x1,v1,h1,g1⟩:=(gg (e:=3) (k:=1) (en:=eI) a8 a8 a7 (Opens.int a8)) _ _ _ f1;simp only [List.cons.injEq,and_true] at h1;subst h1;exact ⟨⟨x0,x1⟩,_,rfl,g1⟩
theorem kA:Opens enc w base spare held 69 (fun cs (x:GPair)=>cs=da x):=fun fuel cs y h=>by
 obtain ⟨ys,m,_,_,hl,hyl,hf⟩:=DataW.trod_struct Tryz.underlying69 h;rw [show Tryz.prog.cellsOf 69=5 by kernel_rfl] at hl
 obtain ⟨a0,a1,a2,a3,a4,rfl⟩:∃a0 a1 a2 a3 a4,cs=[a0,a1,a2,a3,a4]:=by
  match cs,hl with
  | [a0,a1,a2,a3,a4],_=>exact ⟨a0,a1,a2,a3,a4,rfl⟩
 (have c3:Tryz.prog.cellsOf 3=1:=by kernel_rfl);have f0:=hf 0 _ rfl;rw [List.getElem?_eq_getElem (by rw [hyl];decide)] at f0;simp only [List.getElem_toArray,List.getElem_cons_zero,List.getElem_cons_succ,c3,List.drop_succ_cons,List.drop_zero,List.take_succ_cons,List.take_zero] at f0;obtain ⟨x0,h0⟩:=(Opens.int a8) _ _ _ f0;simp only [List.cons.injEq,and_true] at h0;obtain rfl:=h0;have f1:=hf 1 _ rfl;rw [List.getElem?_eq_getElem (by rw [hyl];decide)] at f1;simp only [List.getElem_toArray,List.getElem_cons_zero,List.getElem_cons_succ,c3,List.drop_succ_cons,List.drop_zero,List.take_succ_cons,List.take_zero] at f1;obtain ⟨x1,h1⟩:=(Opens.int a8) _ _ _ f1;simp only [List.cons.injEq,and_true] at h1;obtain rfl:=h1;have f2:=hf 2 _ rfl;rw [List.getElem?_eq_getElem (by rw [hyl];decide)] at f2;simp only [List.getElem_toArray,List.getElem_cons_zero,List.getElem_cons_succ,c3,List.drop_succ_cons,List.drop_zero,List.take_succ_cons,List.take_zero] at f2;obtain ⟨x2,h2⟩:=(Opens.int a8) _ _ _ f2;simp only [List.cons.injEq,and_true] at h2;obtain rfl:=h2;have f3:=hf 3 _ rfl;rw [List.getElem?_eq_getElem (by rw [hyl];decide)] at f3;simp only [List.getElem_toArray,List.getElem_cons_zero,List.getElem_cons_succ,c3,List.drop_succ_cons,List.drop_zero,List.take_succ_cons,List.take_zero] at f3;obtain ⟨x3,h3⟩:=(Opens.int a8) _ _ _ f3;simp only [List.cons.injEq,and_true] at h3;obtain rfl:=h3;have f4:=hf 4 _ rfl;rw [List.getElem?_eq_getElem (by rw [hyl];decide)] at f4;simp only [List.getElem_toArray,List.getElem_cons_zero,List.getElem_cons_succ,c3,List.drop_succ_cons,List.drop_zero,List.take_succ_cons,List.take_zero] at f4;obtain ⟨x4,h4⟩:=(Opens.int a8) _ _ _ f4;simp only [List.cons.injEq,and_true] at h4;obtain rfl:=h4;exact ⟨⟨x0,x1,x2,x3,x4⟩,rfl⟩
theorem kn:Opens enc w base spare held 71 (fun cs (x:GLoad)=>cs=de x):=fun fuel cs y h=>by
 obtain ⟨ys,m,_,_,hl,hyl,hf⟩:=DataW.trod_struct Tryz.underlying71 h;rw [show Tryz.prog.cellsOf 71=5 by kernel_rfl] at hl
 obtain ⟨a0,a1,a2,a3,a4,rfl⟩:∃a0 a1 a2 a3 a4,cs=[a0,a1,a2,a3,a4]:=by
  match cs,hl with
  | [a0,a1,a2,a3,a4],_=>exact ⟨a0,a1,a2,a3,a4,rfl⟩
 (have c3:Tryz.prog.cellsOf 3=1:=by kernel_rfl);have f0:=hf 0 _ rfl;rw [List.getElem?_eq_getElem (by rw [hyl];decide)] at f0;simp only [List.getElem_toArray,List.getElem_cons_zero,List.getElem_cons_succ,c3,List.drop_succ_cons,List.drop_zero,List.take_succ_cons,List.take_zero] at f0;obtain ⟨x0,h0⟩:=(Opens.int a8) _ _ _ f0;simp only [List.cons.injEq,and_true] at h0;obtain rfl:=h0;have f1:=hf 1 _ rfl;rw [List.getElem?_eq_getElem (by rw [hyl];decide)] at f1;simp only [List.getElem_toArray,List.getElem_cons_zero,List.getElem_cons_succ,c3,List.drop_succ_cons,List.drop_zero,List.take_succ_cons,List.take_zero] at f1;obtain ⟨x1,h1⟩:=(Opens.int a8) _ _ _ f1;simp only [List.cons.injEq,and_true] at h1;obtain rfl:=h1;have f2:=hf 2 _ rfl;rw [List.getElem?_eq_getElem (by rw [hyl];decide)] at f2;simp only [List.getElem_toArray,List.getElem_cons_zero,List.getElem_cons_succ,c3,List.drop_succ_cons,List.drop_zero,List.take_succ_cons,List.take_zero] at f2;obtain ⟨x2,h2⟩:=(Opens.int a8) _ _ _ f2;simp only [List.cons.injEq,and_true] at h2;obtain rfl:=h2;have f3:=hf 3 _ rfl;rw [List.getElem?_eq_getElem (by rw [hyl];decide)] at f3;simp only [List.getElem_toArray,List.getElem_cons_zero,List.getElem_cons_succ,c3,List.drop_succ_cons,List.drop_zero,List.take_succ_cons,List.take_zero] at f3;obtain ⟨x3,h3⟩:=(Opens.int a8) _ _ _ f3;simp only [List.cons.injEq,and_true] at h3;obtain rfl:=h3;have f4:=hf 4 _ rfl;rw [List.getElem?_eq_getElem (by rw [hyl];decide)] at f4;simp only [List.getElem_toArray,List.getElem_cons_zero,List.getElem_cons_succ,c3,List.drop_succ_cons,List.drop_zero,List.take_succ_cons,List.take_zero] at f4;obtain ⟨x4,h4⟩:=(Opens.int a8) _ _ _ f4;simp only [List.cons.injEq,and_true] at h4;obtain rfl:=h4;exact ⟨⟨x0,x1,x2,x3,x4⟩,rfl⟩
theorem kW:Opens enc w base spare held 73 (fun cs (x:GCap)=>cs=dk x):=fun fuel cs y h=>by
 obtain ⟨ys,m,_,_,hl,hyl,hf⟩:=DataW.trod_struct Tryz.underlying73 h;rw [show Tryz.prog.cellsOf 73=4 by kernel_rfl] at hl
 obtain ⟨a0,a1,a2,a3,rfl⟩:∃a0 a1 a2 a3,cs=[a0,a1,a2,a3]:=by
  match cs,hl with
  | [a0,a1,a2,a3],_=>exact ⟨a0,a1,a2,a3,rfl⟩
 (have c3:Tryz.prog.cellsOf 3=1:=by kernel_rfl);have f0:=hf 0 _ rfl;rw [List.getElem?_eq_getElem (by rw [hyl];decide)] at f0;simp only [List.getElem_toArray,List.getElem_cons_zero,List.getElem_cons_succ,c3,List.drop_succ_cons,List.drop_zero,List.take_succ_cons,List.take_zero] at f0;obtain ⟨x0,h0⟩:=(Opens.int a8) _ _ _ f0;simp only [List.cons.injEq,and_true] at h0;obtain rfl:=h0;have f1:=hf 1 _ rfl;rw [List.getElem?_eq_getElem (by rw [hyl];decide)] at f1;simp only [List.getElem_toArray,List.getElem_cons_zero,List.getElem_cons_succ,c3,List.drop_succ_cons,List.drop_zero,List.take_succ_cons,List.take_zero] at f1;obtain ⟨x1,h1⟩:=(Opens.int a8) _ _ _ f1;simp only [List.cons.injEq,and_true] at h1;obtain rfl:=h1;have f2:=hf 2 _ rfl;rw [List.getElem?_eq_getElem (by rw [hyl];decide)] at f2;simp only [List.getElem_toArray,List.getElem_cons_zero,List.getElem_cons_succ,c3,List.drop_succ_cons,List.drop_zero,List.take_succ_cons,List.take_zero] at f2;obtain ⟨x2,h2⟩:=(Opens.int a8) _ _ _ f2;simp only [List.cons.injEq,and_true] at h2;obtain rfl:=h2;have f3:=hf 3 _ rfl;rw [List.getElem?_eq_getElem (by rw [hyl];decide)] at f3;simp only [List.getElem_toArray,List.getElem_cons_zero,List.getElem_cons_succ,c3,List.drop_succ_cons,List.drop_zero,List.take_succ_cons,List.take_zero] at f3;obtain ⟨x3,h3⟩:=(Opens.int a8) _ _ _ f3;simp only [List.cons.injEq,and_true] at h3;obtain rfl:=h3;exact ⟨⟨x0,x1,x2,x3⟩,rfl⟩
theorem j4:Opens enc w base spare held 29 (ee (Frz.all w)):=fun fuel cs y h=>by
 obtain ⟨ys,m,_,_,hl,hyl,hf⟩:=DataW.trod_struct Tryz.underlying29 h;rw [show Tryz.prog.cellsOf 29=3 by kernel_rfl] at hl
 obtain ⟨a0,a1,a2,rfl⟩:∃a0 a1 a2,cs=[a0,a1,a2]:=by
  match cs,hl with
  | [a0,a1,a2],_=>exact ⟨a0,a1,a2,rfl⟩
 (have c25:Tryz.prog.cellsOf 25=1:=by kernel_rfl); (have c26:Tryz.prog.cellsOf 26=1:=by kernel_rfl); (have c27:Tryz.prog.cellsOf 27=1:=by kernel_rfl);have f0:=hf 0 _ rfl;rw [List.getElem?_eq_getElem (by rw [hyl];decide)] at f0;simp only [List.getElem_toArray,List.getElem_cons_zero,List.getElem_cons_succ,c25,List.drop_succ_cons,List.drop_zero,List.take_succ_cons,List.take_zero] at f0;obtain ⟨x0,v0,h0,g0⟩:=(gg (e:=69) (k:=5) (en:=da) a8 a8 a7 kA) _ _ _ f0;simp only [List.cons.injEq,and_true] at h0;subst h0;have f1:=hf 1 _ rfl;rw [List.getElem?_eq_getElem (by rw [hyl];decide)] at f1;simp only [List.getElem_toArray,List.getElem_cons_zero,List.getElem_cons_succ,c26,List.drop_succ_cons,List.drop_zero,List.take_succ_cons,List.take_zero] at f1;obtain ⟨x1,v1,h1,g1⟩:=(gg (e:=71) (k:=5) (en:=de) a8 a8 a7 kn) _ _ _ f1;simp only [List.cons.injEq,and_true] at h1;subst h1;have f2:=hf 2 _ rfl;rw [List.getElem?_eq_getElem (by rw [hyl];decide)] at f2;simp only [List.getElem_toArray,List.getElem_cons_zero,List.getElem_cons_succ,c27,List.drop_succ_cons,List.drop_zero,List.take_succ_cons,List.take_zero] at f2;obtain ⟨x2,v2,h2,g2⟩:=(gg (e:=73) (k:=4) (en:=dk) a8 a8 a7 kW) _ _ _ f2;simp only [List.cons.injEq,and_true] at h2;subst h2;exact ⟨⟨x0,x1,x2⟩,_,_,_,rfl,g0,g1,g2⟩
theorem jt:Opens enc w base spare held 31 (dP (Frz.all w)):=fun fuel cs y h=>by
 obtain ⟨ys,m,_,_,hl,hyl,hf⟩:=DataW.trod_struct Tryz.underlying31 h;rw [show Tryz.prog.cellsOf 31=4 by kernel_rfl] at hl
 obtain ⟨a0,a1,a2,a3,rfl⟩:∃a0 a1 a2 a3,cs=[a0,a1,a2,a3]:=by
  match cs,hl with
  | [a0,a1,a2,a3],_=>exact ⟨a0,a1,a2,a3,rfl⟩
 (have c22:Tryz.prog.cellsOf 22=1:=by kernel_rfl); (have c29:Tryz.prog.cellsOf 29=3:=by kernel_rfl);have f0:=hf 0 _ rfl;rw [List.getElem?_eq_getElem (by rw [hyl];decide)] at f0;simp only [List.getElem_toArray,List.getElem_cons_zero,List.getElem_cons_succ,c22,List.drop_succ_cons,List.drop_zero,List.take_succ_cons,List.take_zero] at f0;obtain ⟨x0,v0,w0,h0,g0⟩:=(lU (e:=59) (k:=2) (rep:=cJ) a8 a8 a7 jN) _ _ _ f0;simp only [List.cons.injEq,and_true] at h0;subst h0;have f1:=hf 1 _ rfl;rw [List.getElem?_eq_getElem (by rw [hyl];decide)] at f1;simp only [List.getElem_toArray,List.getElem_cons_zero,List.getElem_cons_succ,c29,List.drop_succ_cons,List.drop_zero,List.take_succ_cons,List.take_zero] at f1;obtain ⟨x1,v1_0,v1_1,v1_2,h1,g1_0,g1_1,g1_2⟩:=j4 _ _ _ f1;simp only [List.cons.injEq,and_true] at h1;obtain ⟨rfl,rfl,rfl⟩:=h1;exact ⟨⟨x0,x1⟩,_,_,_,_,_,rfl,g0,g1_0,g1_1,g1_2⟩
theorem jL:Opens enc w base spare held 34 (fun cs (x:GChoice)=>cs=cG x):=fun fuel cs y h=>by
 obtain ⟨ys,m,_,_,hl,hyl,hf⟩:=DataW.trod_struct Tryz.underlying34 h;rw [show Tryz.prog.cellsOf 34=2 by kernel_rfl] at hl
 obtain ⟨a0,a1,rfl⟩:∃a0 a1,cs=[a0,a1]:=by
  match cs,hl with
  | [a0,a1],_=>exact ⟨a0,a1,rfl⟩
 (have c3:Tryz.prog.cellsOf 3=1:=by kernel_rfl);have f0:=hf 0 _ rfl;rw [List.getElem?_eq_getElem (by rw [hyl];decide)] at f0;simp only [List.getElem_toArray,List.getElem_cons_zero,List.getElem_cons_succ,c3,List.drop_succ_cons,List.drop_zero,List.take_succ_cons,List.take_zero] at f0;obtain ⟨x0,h0⟩:=(Opens.int a8) _ _ _ f0;simp only [List.cons.injEq,and_true] at h0;obtain rfl:=h0;have f1:=hf 1 _ rfl;rw [List.getElem?_eq_getElem (by rw [hyl];decide)] at f1;simp only [List.getElem_toArray,List.getElem_cons_zero,List.getElem_cons_succ,c3,List.drop_succ_cons,List.drop_zero,List.take_succ_cons,List.take_zero] at f1;obtain ⟨x1,h1⟩:=(Opens.int a8) _ _ _ f1;simp only [List.cons.injEq,and_true] at h1;obtain rfl:=h1;exact ⟨⟨x0,x1⟩,rfl⟩
end
abbrev lt : List (String × DataW Unit) := [("math/bits.deBruijn64tab", Rows.laid_math_bits_deBruijn64tab)]
theorem gTab : Tryz.prog.globalNamed "math/bits.deBruijn64tab" = some 0 := by kernel_rfl
theorem tTab:(Tryz.prog.globals[0]?).map (·.type)=some 217:=by kernel_rfl
theorem zmZ (os:Os)(args:Array Value):laidMetH Tryz.prog lt ((World.doorLaid Tryz.prog 400 os).forCall (fun _ _=>0) ⟨#[],args,[]⟩).memory:=
 laidMetH_of_parts3 (fuel:=8) (laidMet_of_run' 8 a8 a8) a8 a8
theorem lits:(Rows.laid_math_bits_deBruijn64tab:DataW Unit)= .agg (Lib.deBruijn64tab.map fun n:Nat=> .lit (.int .u8 (n:Int))):=rfl
theorem zoN {W:World}(h:laidMetH Tryz.prog lt W):Tab W:=by
 rw [MakeChecks.laidMetH_plain _ _ _ a8] at h;obtain ⟨ps,⟨g0,t0,cs0,f0,p0,q0,hg0,ht0,hv0,hd0,_,_⟩,_,_⟩:=h;obtain rfl:=Option.some.inj (gTab.symm.trans hg0);obtain rfl:=Option.some.inj (tTab.symm.trans ht0);obtain ⟨xs,m1,rfl,hx1,hlen,hn3,hel⟩:=DataW.trod_array Tryz.underlying217 hd0; (have c5:Tryz.prog.cellsOf 5=1:=by kernel_rfl);intro j hj;have h0:=hel j hj;rw [List.getElem?_eq_getElem a6] at h0;obtain ⟨k,e1,e2,_⟩:=DataW.trod_int Tryz.underlying5 h0;simp only [Prod.mk.injEq] at hx1
 have hk:xs[j].1= .lit (.int .u8 (Lib.deBruijn64tab.getD j 0:Nat)):=by
  have hl:=lits.symm.trans hx1.1;simp only [DataW.agg.injEq] at hl;have:=congrArg (fun l=>l[j]?) hl;simp only [List.getElem?_map] at this;rw [List.getElem?_eq_getElem (show j<xs.length by omega),List.getElem?_eq_getElem (show j<Lib.deBruijn64tab.length from hj)] at this;simp only [Option.map_some,Option.some.injEq] at this;rw [←this,List.getD_eq_getElem?_getD,List.getElem?_eq_getElem (show j<Lib.deBruijn64tab.length from hj)]
  rfl
 rw [e2] at hk;simp only [DataW.lit.injEq,Lit.int.injEq,true_and] at hk;subst hk;rw [c5,Nat.mul_one] at e1;have hc:=World.var?_cell hg0 hv0 j;rw [hc];obtain ⟨l⟩:=cs0;have:=congrArg (fun l=>l[0]?) e1;simpa using this
theorem lifted (os : Os) (started : os.Started) (H : Type) (enc : TypeId × Value → H) :
    ReturnsInHanded {} Tryz.checked os 7 .any (fun w args => (Rows.searchDecidesSpec.pre enc Tryz.prog Tryz.f7 [] false w args ∧ laidMetH Tryz.prog lt w) ∧ sizedMet enc Tryz.prog Tryz.f7 (OpenSpec.ofChange Rows.searchDecidesSpec) false w args)
      (Rows.searchDecidesSpec.post enc Tryz.prog Tryz.f7 false true false false) := by
  refine returnsInHanded_of_change_and (C := Tryz.checked) (X := fun w _ => laidMetH Tryz.prog lt w) (fun _ _ _ hh h => h.of_heap hh) own started a8 Tryz.func7
    (ChangeSpec.witness_shaped (enc := enc) (C := Tryz.checked) (os := os) (X := fun w _ => laidMetH Tryz.prog lt w) false (World.doorLaid Tryz.prog 400 os) #[.agg #[.slice none 0 0, .slice none 0 0, .slice none 0 0, .slice none 0 0], .slice none 0 0, .int .i64 0] 8 rfl (World.shaped_of_RefB a8 a8) a8 a8 a8 (zmZ os _)) ?_
  intro W base args ds gs before hval0 hW _ _ hL _; have hval : ∀ (j : Nat) t v, Tryz.f7.params[j]? = some t → args[j]? = some v → Value.okWide Tryz.prog W .any base t v := hval0; have hW' := hW; obtain ⟨p, q, hA0, hV, rfl, hfz, hnd⟩ := hW; have hA : DataW.TrodAll enc Tryz.prog W 0 (fun _ => true) true Tryz.f7.params.toList args.toList ds p := hA0; rw [Tryz.params7] at hA hval; obtain ⟨v0, vs0, d0, ds0, p0, q0, hargs, rfl, rfl, h0, r0⟩ := trodAll_cons hA; obtain ⟨v1, vs1, d1, ds1, p1, q1, rfl, rfl, rfl, h1, r1⟩ := trodAll_cons r0; obtain ⟨v2, vs2, d2, ds2, p2, q2, rfl, rfl, rfl, h2, r2⟩ := trodAll_cons r1; obtain ⟨rfl, rfl, rfl⟩ := trodAll_nil r2; (obtain rfl : args = #[v0, v1, v2] := by cases args; simp_all); obtain ⟨rfl, rfl⟩ := trodVars_none hV; have k0 := hval 0 31 v0 rfl rfl; obtain ⟨A0, rfl, z0⟩ := okWide_struct Tryz.underlying31 k0; obtain ⟨fuel0, g0⟩ := h0; obtain ⟨x0, v0_0, w0_0, v0_1, v0_2, v0_3, e0, s0_0, s0_1, s0_2, s0_3⟩ := jt _ _ _ g0; obtain ⟨B0⟩ := A0; simp only [Value.cells] at e0; subst e0; have k1 := hval 1 23 v1 rfl rfl; obtain ⟨A1, L1, C1, rfl⟩ := okWide_slice Tryz.underlying23 k1; obtain ⟨fuel1, g1⟩ := h1; obtain ⟨x1, u1, e1, s1⟩ := (gg (e := 34) (k := 2) (en := cG) a8 a8 a7 jL) _ _ _ g1; simp only [Value.cells, List.cons.injEq, and_true] at e1; subst e1; have k2 := hval 2 3 v2 rfl rfl; obtain ⟨x2, rfl, rfl, rfl, k2_⟩ := open_int Tryz.underlying3 k2 h2; refine (zd3 (Frz.all W) W (jr W) x0 _ _ s0_0 _ s0_1 _ s0_2 _ s0_3 x1 _ s1 x2 (zoN hL) 1000000 a7 true (zgF (Nat.le_refl _) _ _ _)).mono fun e W' ⟨he, hg⟩ => ?_; subst he; exact ⟨_, rfl, zm2 laid (tb := 4) a8 Tryz.underlying4 a8 rfl rfl rfl rfl hW' hg⟩
theorem proved:Rows.SearchDecidesSaid:=
 OpenClaim.holds_of_wide 7 Tryz.f7 rfl rfl rfl rfl rfl rfl rfl ⟨rfl,rfl,rfl,rfl,rfl⟩ rfl rfl rfl rfl rfl a8 Tryz.func7 a8
  (of_decide_eq_true a8) (by unfold Func.isWrapper;first|(rw [if_pos (by decide +kernel)];kernel_rfl)|(rw [if_neg (by decide +kernel)];exact ⟨rfl,rfl⟩))
  (fun os started H enc _=>lifted os started H enc)
theorem card : Rows.SearchDecidesCardSaid :=
  Claim7.holds_tied_plain_at .later [] [.data] true (true, "d0ae671f52882b6162b955fa91f835e47c1a57a49147e5f563738c959873a970") false
    proved (fun _ h => by cases h) a8 (fun _ h => by cases h) searchDecides_row_tie rfl ⟨rfl, rfl⟩ a8 rfl
    (fun f fn hf hfn => by
      obtain rfl : f = 7 := Option.some.inj ((show Tryz.prog.funcNamed "bandplan/bandplanlaw22.SearchDecides" = some 7 by kernel_rfl).symm.trans hf) |>.symm; obtain rfl : fn = Tryz.f7 := (Option.some.inj (Tryz.func7.symm.trans hfn)).symm
      exact ⟨by kernel_rfl, fun j t ht => by
        rw [Tryz.params7] at ht; (have hm : t ∈ [31, 23, 3] := by simpa using Array.mem_of_getElem? ht); (have hall : ([31, 23, 3].all fun u => !Tryz.prog.wantsStandIn u) = true := by kernel_rfl)
        exact (show Tryz.prog.wantsStandIn t = false by simpa using List.all_eq_true.1 hall t hm)⟩)
    a8
#print axioms card
end Go.Proofs.YtgoeeefoinkepaaGreatDoor.searchDecides
