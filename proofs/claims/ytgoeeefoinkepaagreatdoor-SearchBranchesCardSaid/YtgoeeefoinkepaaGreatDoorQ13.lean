/- SearchBranches: shortened and put together by squeeze.py. -/
import Derived.Test.YtgoeeefoinkepaaGreatDoorQ12
import Derived.Test.YtgoeeefoinkepaaGreatDoorRows
import Derived.Test.YtgoeeefoinkepaaGreatDoorCards
import Derived.Test.YtgoeeefoinkepaaGreatDoorTie
import Derived.ProofKit
import Derived.LaidMore
import Derived.OpenShut
import Derived.Stop.Joined
import Derived.SevenTiedAt
import Derived.Lib.SmallJoins
set_option maxRecDepth 100000
set_option maxHeartbeats 4000000
set_option linter.unusedVariables false
set_option linter.unusedSectionVars false
set_option linter.unusedSimpArgs false
namespace Go.Proofs.YtgoeeefoinkepaaGreatDoor.searchBranches
open Go.ChangeShapes Go.WideShapes Go.ChangeAt Go.RowKit Go.Joins Go.Deep
section
variable {H:Type}{enc:TypeId×Value→H}{w:World}{base:Nat}{spare:Nat→Bool}{held:Bool}
theorem iV:Opens enc w base spare held 59 (cG (Frz.all w)):=fun fuel cs y h=>by
 obtain ⟨ys,m,_,_,hl,hyl,hf⟩:=DataW.trod_struct Tryz.underlying59 h;rw [show Tryz.prog.cellsOf 59=2 by kernel_rfl] at hl
 obtain ⟨a0,a1,rfl⟩:∃a0 a1,cs=[a0,a1]:=by
  match cs,hl with
  | [a0,a1],_=>exact ⟨a0,a1,rfl⟩
 (have c3:Tryz.prog.cellsOf 3=1:=by kernel_rfl); (have c57:Tryz.prog.cellsOf 57=1:=by kernel_rfl);have f0:=hf 0 _ rfl;rw [List.getElem?_eq_getElem (by rw [hyl];decide)] at f0;simp only [List.getElem_toArray,List.getElem_cons_zero,List.getElem_cons_succ,c3,List.drop_succ_cons,List.drop_zero,List.take_succ_cons,List.take_zero] at f0;obtain ⟨x0,h0⟩:=(Opens.int a8) _ _ _ f0;simp only [List.cons.injEq,and_true] at h0;obtain rfl:=h0;have f1:=hf 1 _ rfl;rw [List.getElem?_eq_getElem (by rw [hyl];decide)] at f1;simp only [List.getElem_toArray,List.getElem_cons_zero,List.getElem_cons_succ,c57,List.drop_succ_cons,List.drop_zero,List.take_succ_cons,List.take_zero] at f1;obtain ⟨x1,v1,h1,g1⟩:=(i6 (e:=3) (k:=1) (en:=eI) a8 a8 a7 (Opens.int a8)) _ _ _ f1;simp only [List.cons.injEq,and_true] at h1;subst h1;exact ⟨⟨x0,x1⟩,_,rfl,g1⟩
theorem iY:Opens enc w base spare held 34 (fun cs (x:GChoice)=>cs=cC x):=fun fuel cs y h=>by
 obtain ⟨ys,m,_,_,hl,hyl,hf⟩:=DataW.trod_struct Tryz.underlying34 h;rw [show Tryz.prog.cellsOf 34=2 by kernel_rfl] at hl
 obtain ⟨a0,a1,rfl⟩:∃a0 a1,cs=[a0,a1]:=by
  match cs,hl with
  | [a0,a1],_=>exact ⟨a0,a1,rfl⟩
 (have c3:Tryz.prog.cellsOf 3=1:=by kernel_rfl);have f0:=hf 0 _ rfl;rw [List.getElem?_eq_getElem (by rw [hyl];decide)] at f0;simp only [List.getElem_toArray,List.getElem_cons_zero,List.getElem_cons_succ,c3,List.drop_succ_cons,List.drop_zero,List.take_succ_cons,List.take_zero] at f0;obtain ⟨x0,h0⟩:=(Opens.int a8) _ _ _ f0;simp only [List.cons.injEq,and_true] at h0;obtain rfl:=h0;have f1:=hf 1 _ rfl;rw [List.getElem?_eq_getElem (by rw [hyl];decide)] at f1;simp only [List.getElem_toArray,List.getElem_cons_zero,List.getElem_cons_succ,c3,List.drop_succ_cons,List.drop_zero,List.take_succ_cons,List.take_zero] at f1;obtain ⟨x1,h1⟩:=(Opens.int a8) _ _ _ f1;simp only [List.cons.injEq,and_true] at h1;obtain rfl:=h1;exact ⟨⟨x0,x1⟩,rfl⟩
end
abbrev lt : List (String × DataW Unit) := [("math/bits.deBruijn64tab", Rows.laid_math_bits_deBruijn64tab)]
theorem gTab : Tryz.prog.globalNamed "math/bits.deBruijn64tab" = some 0 := by kernel_rfl
theorem tTab:(Tryz.prog.globals[0]?).map (·.type)=some 217:=by kernel_rfl
theorem zkD (os:Os)(args:Array Value):laidMetH Tryz.prog lt ((World.doorLaid Tryz.prog 400 os).forCall (fun _ _=>0) ⟨#[],args,[]⟩).memory:=
 laidMetH_of_parts3 (fuel:=8) (laidMet_of_run' 8 a8 a8) a8 a8
theorem lits:(Rows.laid_math_bits_deBruijn64tab:DataW Unit)= .agg (Lib.deBruijn64tab.map fun n:Nat=> .lit (.int .u8 (n:Int))):=rfl
theorem zmg {W:World}(h:laidMetH Tryz.prog lt W):Tab W:=by
 rw [MakeChecks.laidMetH_plain _ _ _ a8] at h;obtain ⟨ps,⟨g0,t0,cs0,f0,p0,q0,hg0,ht0,hv0,hd0,_,_⟩,_,_⟩:=h;obtain rfl:=Option.some.inj (gTab.symm.trans hg0);obtain rfl:=Option.some.inj (tTab.symm.trans ht0);obtain ⟨xs,m1,rfl,hx1,hlen,hn3,hel⟩:=DataW.trod_array Tryz.underlying217 hd0; (have c5:Tryz.prog.cellsOf 5=1:=by kernel_rfl);intro j hj;have h0:=hel j hj;rw [List.getElem?_eq_getElem a6] at h0;obtain ⟨k,e1,e2,_⟩:=DataW.trod_int Tryz.underlying5 h0;simp only [Prod.mk.injEq] at hx1
 have hk:xs[j].1= .lit (.int .u8 (Lib.deBruijn64tab.getD j 0:Nat)):=by
  have hl:=lits.symm.trans hx1.1;simp only [DataW.agg.injEq] at hl;have:=congrArg (fun l=>l[j]?) hl;simp only [List.getElem?_map] at this;rw [List.getElem?_eq_getElem (show j<xs.length by omega),List.getElem?_eq_getElem (show j<Lib.deBruijn64tab.length from hj)] at this;simp only [Option.map_some,Option.some.injEq] at this;rw [←this,List.getD_eq_getElem?_getD,List.getElem?_eq_getElem (show j<Lib.deBruijn64tab.length from hj)]
  rfl
 rw [e2] at hk;simp only [DataW.lit.injEq,Lit.int.injEq,true_and] at hk;subst hk;rw [c5,Nat.mul_one] at e1;have hc:=World.var?_cell hg0 hv0 j;rw [hc];obtain ⟨l⟩:=cs0;have:=congrArg (fun l=>l[0]?) e1;simpa using this
theorem lifted (os : Os) (started : os.Started) (H : Type) (enc : TypeId × Value → H) :
    ReturnsInHanded {} Tryz.checked os 3 .any (fun w args => (Rows.searchBranchesSpec.pre enc Tryz.prog Tryz.f3 [] false w args ∧ laidMetH Tryz.prog lt w) ∧ sizedMet enc Tryz.prog Tryz.f3 (OpenSpec.ofChange Rows.searchBranchesSpec) false w args)
      (Rows.searchBranchesSpec.post enc Tryz.prog Tryz.f3 false true false false) := by
  refine returnsInHanded_of_change_and (C := Tryz.checked) (X := fun w _ => laidMetH Tryz.prog lt w) (fun _ _ _ hh h => h.of_heap hh) own started a8 Tryz.func3
    (ChangeSpec.witness_shaped (enc := enc) (C := Tryz.checked) (os := os) (X := fun w _ => laidMetH Tryz.prog lt w) false (World.doorLaid Tryz.prog 400 os) #[.slice none 0 0, .slice none 0 0] 8 rfl (World.shaped_of_RefB a8 a8) a8 a8 a8 (zkD os _)) ?_
  intro W base args ds gs before hval0 hW _ _ hL _; have hval : ∀ (j : Nat) t v, Tryz.f3.params[j]? = some t → args[j]? = some v → Value.okWide Tryz.prog W .any base t v := hval0; have hW' := hW; obtain ⟨p, q, hA0, hV, rfl, hfz, hnd⟩ := hW; have hA : DataW.TrodAll enc Tryz.prog W 0 (fun _ => true) true Tryz.f3.params.toList args.toList ds p := hA0; rw [Tryz.params3] at hA hval; obtain ⟨v0, vs0, d0, ds0, p0, q0, hargs, rfl, rfl, h0, r0⟩ := trodAll_cons hA; obtain ⟨v1, vs1, d1, ds1, p1, q1, rfl, rfl, rfl, h1, r1⟩ := trodAll_cons r0; obtain ⟨rfl, rfl, rfl⟩ := trodAll_nil r1; (obtain rfl : args = #[v0, v1] := by cases args; simp_all); obtain ⟨rfl, rfl⟩ := trodVars_none hV; have k0 := hval 0 22 v0 rfl rfl; obtain ⟨A0, L0, C0, rfl⟩ := okWide_slice Tryz.underlying22 k0; obtain ⟨fuel0, g0⟩ := h0; obtain ⟨x0, u0, c0, e0, s0⟩ := (kM (e := 59) (k := 2) (rep := cG) a8 a8 a7 iV) _ _ _ g0; simp only [Value.cells, List.cons.injEq, and_true] at e0; subst e0; have k1 := hval 1 23 v1 rfl rfl; obtain ⟨A1, L1, C1, rfl⟩ := okWide_slice Tryz.underlying23 k1; obtain ⟨fuel1, g1⟩ := h1; obtain ⟨x1, u1, e1, s1⟩ := (i6 (e := 34) (k := 2) (en := cC) a8 a8 a7 iY) _ _ _ g1; simp only [Value.cells, List.cons.injEq, and_true] at e1; subst e1; refine (zdf (Frz.all W) W (iD W) x0 _ _ s0 x1 _ s1 (zmg hL) 100000 (Nat.le_refl _) true (zfe (Nat.le_refl _) _ _)).mono fun e W' ⟨he, hg⟩ => ?_; subst he; exact ⟨_, rfl, zks laid (tb := 4) a8 Tryz.underlying4 a8 rfl rfl rfl rfl hW' hg⟩
theorem proved:Rows.SearchBranchesSaid:=
 OpenClaim.holds_of_wide 3 Tryz.f3 rfl rfl rfl rfl rfl rfl rfl ⟨rfl,rfl,rfl,rfl,rfl⟩ rfl rfl rfl rfl rfl a8 Tryz.func3 a8
  (of_decide_eq_true a8) (by unfold Func.isWrapper;first|(rw [if_pos (by decide +kernel)];kernel_rfl)|(rw [if_neg (by decide +kernel)];exact ⟨rfl,rfl⟩))
  (fun os started H enc _=>lifted os started H enc)
theorem card : Rows.SearchBranchesCardSaid :=
  Claim7.holds_tied_plain_at .later [] [.data] true (true, "d0ae671f52882b6162b955fa91f835e47c1a57a49147e5f563738c959873a970") false
    proved (fun _ h => by cases h) a8 (fun _ h => by cases h) searchBranches_row_tie rfl ⟨rfl, rfl⟩ a8 rfl
    (fun f fn hf hfn => by
      obtain rfl : f = 3 := Option.some.inj ((show Tryz.prog.funcNamed "bandplan/bandplanlaw22.SearchBranches" = some 3 by kernel_rfl).symm.trans hf) |>.symm; obtain rfl : fn = Tryz.f3 := (Option.some.inj (Tryz.func3.symm.trans hfn)).symm
      exact ⟨by kernel_rfl, fun j t ht => by
        rw [Tryz.params3] at ht; (have hm : t ∈ [22, 23] := by simpa using Array.mem_of_getElem? ht); (have hall : ([22, 23].all fun u => !Tryz.prog.wantsStandIn u) = true := by kernel_rfl)
        exact (show Tryz.prog.wantsStandIn t = false by simpa using List.all_eq_true.1 hall t hm)⟩)
    a8
#print axioms card
end Go.Proofs.YtgoeeefoinkepaaGreatDoor.searchBranches
