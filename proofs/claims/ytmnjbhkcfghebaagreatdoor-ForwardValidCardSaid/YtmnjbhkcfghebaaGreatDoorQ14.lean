/- ForwardValid: shortened and put together by squeeze.py. -/
import Derived.Test.YtmnjbhkcfghebaaGreatDoorQ13
import Derived.Test.YtmnjbhkcfghebaaGreatDoorRows
import Derived.Test.YtmnjbhkcfghebaaGreatDoorCards
import Derived.Test.YtmnjbhkcfghebaaGreatDoorTie
import Derived.ProofKit
import Derived.LaidMore
import Derived.OpenShut
import Derived.Stop.Joined
import Derived.SevenTiedAt
import Derived.Lib.SmallJoins
set_option maxRecDepth 100000
set_option maxHeartbeats 4000000
set_option linter.unusedVariables false
set_option linter.unusedSectionVars false
set_option linter.unusedSimpArgs false
namespace Go.Proofs.YtmnjbhkcfghebaaGreatDoor.forwardValid
open Go.ChangeShapes Go.WideShapes Go.ChangeAt Go.RowKit Go.Joins Go.Deep
section
variable {H:Type}{enc:TypeId×Value→H}{w:World}{base:Nat}{spare:Nat→Bool}{held:Bool}
theorem zh0 {t:TypeId}(ht:Tryz.prog.underlying t=some .bool):Opens enc w base spare held t (fun cs (x:Bool)=>cs=[.bool x]):=fun fuel cs y h=>by
 obtain ⟨k,hk,_⟩:=DataW.trod_bool ht h;exact ⟨k,hk⟩
theorem gK:Opens enc w base spare held 23 (fun cs (x:GIncrement)=>cs=fU x):=fun fuel cs y h=>by
 obtain ⟨ys,m,_,_,hl,hyl,hf⟩:=DataW.trod_struct Tryz.underlying23 h;rw [show Tryz.prog.cellsOf 23=2 by kernel_rfl] at hl
 obtain ⟨a0,a1,rfl⟩:∃a0 a1,cs=[a0,a1]:=by
  match cs,hl with
  | [a0,a1],_=>exact ⟨a0,a1,rfl⟩
 (have c3:Tryz.prog.cellsOf 3=1:=by kernel_rfl);have f0:=hf 0 _ rfl;rw [List.getElem?_eq_getElem (by rw [hyl];decide)] at f0;simp only [List.getElem_toArray,List.getElem_cons_zero,List.getElem_cons_succ,c3,List.drop_succ_cons,List.drop_zero,List.take_succ_cons,List.take_zero] at f0;obtain ⟨x0,h0⟩:=(Opens.int a6) _ _ _ f0;simp only [List.cons.injEq,and_true] at h0;obtain rfl:=h0;have f1:=hf 1 _ rfl;rw [List.getElem?_eq_getElem (by rw [hyl];decide)] at f1;simp only [List.getElem_toArray,List.getElem_cons_zero,List.getElem_cons_succ,c3,List.drop_succ_cons,List.drop_zero,List.take_succ_cons,List.take_zero] at f1;obtain ⟨x1,h1⟩:=(Opens.int a6) _ _ _ f1;simp only [List.cons.injEq,and_true] at h1;obtain rfl:=h1;exact ⟨⟨x0,x1⟩,rfl⟩
theorem ic:Opens enc w base spare held 26 (fun cs (x:GInt)=>fg (Frz.all w) cs x∧(∀y∈x.Digits,0≤y∧y≤255)):=fun fuel cs y h=>by
 obtain ⟨ys,m,_,_,hl,hyl,hf⟩:=DataW.trod_struct Tryz.underlying26 h;rw [show Tryz.prog.cellsOf 26=2 by kernel_rfl] at hl
 obtain ⟨a0,a1,rfl⟩:∃a0 a1,cs=[a0,a1]:=by
  match cs,hl with
  | [a0,a1],_=>exact ⟨a0,a1,rfl⟩
 (have c4:Tryz.prog.cellsOf 4=1:=by kernel_rfl); (have c24:Tryz.prog.cellsOf 24=1:=by kernel_rfl);have f0:=hf 0 _ rfl;rw [List.getElem?_eq_getElem (by rw [hyl];decide)] at f0;simp only [List.getElem_toArray,List.getElem_cons_zero,List.getElem_cons_succ,c4,List.drop_succ_cons,List.drop_zero,List.take_succ_cons,List.take_zero] at f0;obtain ⟨x0,h0⟩:=(zh0 a6) _ _ _ f0;simp only [List.cons.injEq,and_true] at h0;obtain rfl:=h0;have f1:=hf 1 _ rfl;rw [List.getElem?_eq_getElem (by rw [hyl];decide)] at f1;simp only [List.getElem_toArray,List.getElem_cons_zero,List.getElem_cons_succ,c24,List.drop_succ_cons,List.drop_zero,List.take_succ_cons,List.take_zero] at f1;obtain ⟨x1,v1,h1,g1,bt1⟩:=(Opens.bytes (e:=5) a6 a6 a6) _ _ _ f1;simp only [List.cons.injEq,and_true] at h1;subst h1;exact ⟨⟨x0,x1⟩,⟨_,rfl,g1⟩,bt1⟩
theorem je:Opens enc w base spare held 28 (fun cs (x:GRatio)=>ea (Frz.all w) cs x∧(∀y∈x.Num.Digits,0≤y∧y≤255)∧(∀y∈x.Den.Digits,0≤y∧y≤255)):=fun fuel cs y h=>by
 obtain ⟨ys,m,_,_,hl,hyl,hf⟩:=DataW.trod_struct Tryz.underlying28 h;rw [show Tryz.prog.cellsOf 28=4 by kernel_rfl] at hl
 obtain ⟨a0,a1,a2,a3,rfl⟩:∃a0 a1 a2 a3,cs=[a0,a1,a2,a3]:=by
  match cs,hl with
  | [a0,a1,a2,a3],_=>exact ⟨a0,a1,a2,a3,rfl⟩
 (have c26:Tryz.prog.cellsOf 26=2:=by kernel_rfl);have f0:=hf 0 _ rfl;rw [List.getElem?_eq_getElem (by rw [hyl];decide)] at f0;simp only [List.getElem_toArray,List.getElem_cons_zero,List.getElem_cons_succ,c26,List.drop_succ_cons,List.drop_zero,List.take_succ_cons,List.take_zero] at f0;obtain ⟨x0,⟨v0_1,h0,g0_1⟩,bt0_0⟩:=ic _ _ _ f0;simp only [List.cons.injEq,and_true] at h0;obtain ⟨rfl,rfl⟩:=h0;have f1:=hf 1 _ rfl;rw [List.getElem?_eq_getElem (by rw [hyl];decide)] at f1;simp only [List.getElem_toArray,List.getElem_cons_zero,List.getElem_cons_succ,c26,List.drop_succ_cons,List.drop_zero,List.take_succ_cons,List.take_zero] at f1;obtain ⟨x1,⟨v1_1,h1,g1_1⟩,bt1_0⟩:=ic _ _ _ f1;simp only [List.cons.injEq,and_true] at h1;obtain ⟨rfl,rfl⟩:=h1;exact ⟨⟨x0,x1⟩,⟨_,_,rfl,g0_1,g1_1⟩,bt0_0,bt1_0⟩
end
abbrev lt:List (String×DataW Unit):=lt36
theorem ziN (os:Os)(args:Array Value):laidMetH Tryz.prog lt ((World.doorLaid Tryz.prog 400 os).forCall (fun _ _=>0) ⟨#[],args,[]⟩).memory:=zjs os args
theorem lifted (os : Os) (started : os.Started) (H : Type) (enc : TypeId × Value → H) :
    ReturnsInHanded {} Tryz.checked os 3 .any (fun w args => (Rows.forwardValidSpec.pre enc Tryz.prog Tryz.f3 [] false w args ∧ laidMetH Tryz.prog lt w) ∧ sizedMet enc Tryz.prog Tryz.f3 (OpenSpec.ofChange Rows.forwardValidSpec) false w args)
      (Rows.forwardValidSpec.post enc Tryz.prog Tryz.f3 false true false false) := by
  refine returnsInHanded_of_change_and (C := Tryz.checked) (X := fun w _ => laidMetH Tryz.prog lt w) (fun _ _ _ hh h => h.of_heap hh) own started a6 Tryz.func3
    (ChangeSpec.witness_shaped (enc := enc) (C := Tryz.checked) (os := os) (X := fun w _ => laidMetH Tryz.prog lt w) false (World.doorLaid Tryz.prog 400 os) #[.agg #[.int .i64 0, .int .i64 0], .agg #[.bool false, .slice none 0 0, .bool false, .slice none 0 0]] 8 rfl (World.shaped_of_RefB a6 a6) a6 a6 a6 (ziN os _)) ?_
  intro W base args ds gs before hval0 hW _ _ hL _; have hval : ∀ (j : Nat) t v, Tryz.f3.params[j]? = some t → args[j]? = some v → Value.okWide Tryz.prog W .any base t v := hval0; have hW' := hW; obtain ⟨p, q, hA0, hV, rfl, hfz, hnd⟩ := hW; have hA : DataW.TrodAll enc Tryz.prog W 0 (fun _ => true) true Tryz.f3.params.toList args.toList ds p := hA0; rw [Tryz.params3] at hA hval; obtain ⟨v0, vs0, d0, ds0, p0, q0, hargs, rfl, rfl, h0, r0⟩ := trodAll_cons hA; obtain ⟨v1, vs1, d1, ds1, p1, q1, rfl, rfl, rfl, h1, r1⟩ := trodAll_cons r0; obtain ⟨rfl, rfl, rfl⟩ := trodAll_nil r1; (obtain rfl : args = #[v0, v1] := by cases args; simp_all); obtain ⟨rfl, rfl⟩ := trodVars_none hV; have k0 := hval 0 23 v0 rfl rfl; obtain ⟨A0, rfl, z0⟩ := okWide_struct Tryz.underlying23 k0; obtain ⟨fuel0, g0⟩ := h0; obtain ⟨x0, e0⟩ := gK _ _ _ g0; obtain ⟨B0⟩ := A0; simp only [Value.cells] at e0; subst e0; have k1 := hval 1 28 v1 rfl rfl; obtain ⟨A1, rfl, z1⟩ := okWide_struct Tryz.underlying28 k1; obtain ⟨fuel1, g1⟩ := h1; obtain ⟨x1, ⟨v1_1, v1_3, e1, s1_1, s1_3⟩, b1_0, b1_1⟩ := je _ _ _ g1; obtain ⟨B1⟩ := A1; simp only [Value.cells] at e1; subst e1; refine (ze0 (Frz.all W) W (jX W) x0 x1 _ s1_1 _ s1_3 (gl_of hL) 100000 true (zha (Nat.le_refl _) x0 x1 b1_0 b1_1)).mono fun e W' ⟨he, hg⟩ => ?_; subst he; exact ⟨_, rfl, zir laid (tb := 4) a6 Tryz.underlying4 a6 rfl rfl rfl rfl hW' hg⟩
theorem proved:Rows.ForwardValidSaid:=
 OpenClaim.holds_of_wide 3 Tryz.f3 rfl rfl rfl rfl rfl rfl rfl ⟨rfl,rfl,rfl,rfl,rfl⟩ rfl rfl rfl rfl rfl a6 Tryz.func3 a6
  (of_decide_eq_true a6) (by unfold Func.isWrapper;first|(rw [if_pos (by decide +kernel)];kernel_rfl)|(rw [if_neg (by decide +kernel)];exact ⟨rfl,rfl⟩))
  (fun os started H enc _=>lifted os started H enc)
theorem card : Rows.ForwardValidCardSaid :=
  Claim7.holds_tied_plain_at .later [] [.data, .data] true (true, "9ea1400b6b07280df37bae8079994cf2041caa851888738e30bfc79373474895") true
    proved (fun _ h => by cases h) a6 (fun _ h => by cases h) forwardValid_row_tie rfl ⟨rfl, rfl⟩ a6 rfl
    (fun f fn hf hfn => by
      obtain rfl : f = 3 := Option.some.inj ((show Tryz.prog.funcNamed "bandplan/bandplanlaw36.ForwardValid" = some 3 by kernel_rfl).symm.trans hf) |>.symm; obtain rfl : fn = Tryz.f3 := (Option.some.inj (Tryz.func3.symm.trans hfn)).symm
      exact ⟨by kernel_rfl, fun j t ht => by
        rw [Tryz.params3] at ht; (have hm : t ∈ [23, 28] := by simpa using Array.mem_of_getElem? ht); (have hall : ([23, 28].all fun u => !Tryz.prog.wantsStandIn u) = true := by kernel_rfl)
        exact (show Tryz.prog.wantsStandIn t = false by simpa using List.all_eq_true.1 hall t hm)⟩)
    a6
#print axioms card
end Go.Proofs.YtmnjbhkcfghebaaGreatDoor.forwardValid
