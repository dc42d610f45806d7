/- ProofLimits: shortened and put together by squeeze.py. -/
import Derived.Test.YtogbggmckmnlfaaGreatDoorQ13
import Derived.Test.YtogbggmckmnlfaaGreatDoorRows
import Derived.Test.YtogbggmckmnlfaaGreatDoorCards
import Derived.Test.YtogbggmckmnlfaaGreatDoorTie
import Derived.ProofKit
import Derived.LaidMore
import Derived.OpenShut
import Derived.Stop.Joined
import Derived.SevenTiedAt
import Derived.Lib.SmallJoins
set_option maxRecDepth 100000
set_option maxHeartbeats 4000000
set_option linter.unusedVariables false
set_option linter.unusedSectionVars false
set_option linter.unusedSimpArgs false
namespace Go.Proofs.YtogbggmckmnlfaaGreatDoor.proofLimits
open Go.ChangeShapes Go.WideShapes Go.ChangeAt Go.RowKit Go.Joins Go.Deep
section
variable {H:Type}{enc:TypeId×Value→H}{w:World}{base:Nat}{spare:Nat→Bool}{held:Bool}
end
abbrev lt : List (String × DataW Unit) := [("math/bits.deBruijn64tab", Rows.laid_math_bits_deBruijn64tab)]
theorem gTab : Tryz.prog.globalNamed "math/bits.deBruijn64tab" = some 0 := by kernel_rfl
theorem tTab:(Tryz.prog.globals[0]?).map (·.type)=some 238:=by kernel_rfl
theorem zlh (os:Os)(args:Array Value):laidMetH Tryz.prog lt ((World.doorLaid Tryz.prog 400 os).forCall (fun _ _=>0) ⟨#[],args,[]⟩).memory:=
 laidMetH_of_parts3 (fuel:=8) (laidMet_of_run' 8 a8 a8) a8 a8
theorem lits:(Rows.laid_math_bits_deBruijn64tab:DataW Unit)= .agg (Lib.deBruijn64tab.map fun n:Nat=> .lit (.int .u8 (n:Int))):=rfl
theorem znr {W:World}(h:laidMetH Tryz.prog lt W):Tab W:=by
 rw [MakeChecks.laidMetH_plain _ _ _ a8] at h;obtain ⟨ps,⟨g0,t0,cs0,f0,p0,q0,hg0,ht0,hv0,hd0,_,_⟩,_,_⟩:=h;obtain rfl:=Option.some.inj (gTab.symm.trans hg0);obtain rfl:=Option.some.inj (tTab.symm.trans ht0);obtain ⟨xs,m1,rfl,hx1,hlen,hn3,hel⟩:=DataW.trod_array Tryz.underlying238 hd0; (have c5:Tryz.prog.cellsOf 5=1:=by kernel_rfl);intro j hj;have h0:=hel j hj;rw [List.getElem?_eq_getElem a5] at h0;obtain ⟨k,e1,e2,_⟩:=DataW.trod_int Tryz.underlying5 h0;simp only [Prod.mk.injEq] at hx1
 have hk:xs[j].1= .lit (.int .u8 (Lib.deBruijn64tab.getD j 0:Nat)):=by
  have hl:=lits.symm.trans hx1.1;simp only [DataW.agg.injEq] at hl;have:=congrArg (fun l=>l[j]?) hl;simp only [List.getElem?_map] at this;rw [List.getElem?_eq_getElem (show j<xs.length by omega),List.getElem?_eq_getElem (show j<Lib.deBruijn64tab.length from hj)] at this;simp only [Option.map_some,Option.some.injEq] at this;rw [←this,List.getD_eq_getElem?_getD,List.getElem?_eq_getElem (show j<Lib.deBruijn64tab.length from hj)]
  rfl
 rw [e2] at hk;simp only [DataW.lit.injEq,Lit.int.injEq,true_and] at hk;subst hk;rw [c5,Nat.mul_one] at e1;have hc:=World.var?_cell hg0 hv0 j;rw [hc];obtain ⟨l⟩:=cs0;have:=congrArg (fun l=>l[0]?) e1;simpa using this
theorem lifted (os : Os) (started : os.Started) (H : Type) (enc : TypeId × Value → H) :
    ReturnsInHanded {} Tryz.checked os 8 .any (fun w args => (Rows.proofLimitsSpec.pre enc Tryz.prog Tryz.f8 [] false w args ∧ laidMetH Tryz.prog lt w) ∧ sizedMet enc Tryz.prog Tryz.f8 (OpenSpec.ofChange Rows.proofLimitsSpec) false w args)
      (Rows.proofLimitsSpec.post enc Tryz.prog Tryz.f8 false true false false) := by
  refine returnsInHanded_of_change_and (C := Tryz.checked) (X := fun w _ => laidMetH Tryz.prog lt w) (fun _ _ _ hh h => h.of_heap hh) own started a8 Tryz.func8
    (ChangeSpec.witness_shaped (enc := enc) (C := Tryz.checked) (os := os) (X := fun w _ => laidMetH Tryz.prog lt w) false (World.doorLaid Tryz.prog 400 os) #[] 8 rfl (World.shaped_of_RefB a8 a8) a8 a8 a8 (zlh os _)) ?_
  intro W base args ds gs before hval0 hW _ _ hL _; have hval : ∀ (j : Nat) t v, Tryz.f8.params[j]? = some t → args[j]? = some v → Value.okWide Tryz.prog W .any base t v := hval0; have hW' := hW; obtain ⟨p, q, hA0, hV, rfl, hfz, hnd⟩ := hW; have hA : DataW.TrodAll enc Tryz.prog W 0 (fun _ => true) true Tryz.f8.params.toList args.toList ds p := hA0; rw [Tryz.params8] at hA hval; obtain ⟨hargs, rfl, rfl⟩ := trodAll_nil hA; (obtain rfl : args = #[] := by cases args; simp_all); obtain ⟨rfl, rfl⟩ := trodVars_none hV; refine (zel (Frz.all W) W (i6 W)  (znr hL) 100000 (Nat.le_refl _) true (zgY (Nat.le_refl _))).mono fun e W' ⟨he, hg⟩ => ?_; subst he; exact ⟨_, rfl, zkO laid (tb := 4) a8 Tryz.underlying4 a8 rfl rfl rfl rfl hW' hg⟩
theorem proved:Rows.ProofLimitsSaid:=
 OpenClaim.holds_of_wide 8 Tryz.f8 rfl rfl rfl rfl rfl rfl rfl ⟨rfl,rfl,rfl,rfl,rfl⟩ rfl rfl rfl rfl rfl a8 Tryz.func8 a8
  (of_decide_eq_true a8) (by unfold Func.isWrapper;first|(rw [if_pos (by decide +kernel)];kernel_rfl)|(rw [if_neg (by decide +kernel)];exact ⟨rfl,rfl⟩))
  (fun os started H enc _=>lifted os started H enc)
theorem card : Rows.ProofLimitsCardSaid :=
  Claim7.holds_tied_plain_at .later [] [.data] true (true, "538064b680369ea1a05156569dcb0c53856d97a453501e2f1eb2fef504c3752d") true
    proved (fun _ h => by cases h) a8 (fun _ h => by cases h) proofLimits_row_tie rfl ⟨rfl, rfl⟩ a8 rfl
    (fun f fn hf hfn => by
      obtain rfl : f = 8 := Option.some.inj ((show Tryz.prog.funcNamed "bandplan/bandplanlaw23.ProofLimits" = some 8 by kernel_rfl).symm.trans hf) |>.symm; obtain rfl : fn = Tryz.f8 := (Option.some.inj (Tryz.func8.symm.trans hfn)).symm
      exact ⟨by kernel_rfl, fun j t ht => by
        rw [Tryz.params8] at ht; (have hm : t ∈ [] := by simpa using Array.mem_of_getElem? ht); (have hall : ([].all fun u => !Tryz.prog.wantsStandIn u) = true := by kernel_rfl)
        exact (show Tryz.prog.wantsStandIn t = false by simpa using List.all_eq_true.1 hall t hm)⟩)
    a8
#print axioms card
end Go.Proofs.YtogbggmckmnlfaaGreatDoor.proofLimits
