/- ForwardDecode: shortened and put together by squeeze.py. -/
import Derived.Test.YtmnjbhkcfghebaaGreatDoorQ16
import Derived.Test.YtmnjbhkcfghebaaGreatDoorRows
import Derived.Test.YtmnjbhkcfghebaaGreatDoorCards
import Derived.Test.YtmnjbhkcfghebaaGreatDoorTie
import Derived.ProofKit
import Derived.LaidMore
import Derived.OpenShut
import Derived.Stop.Joined
import Derived.SevenTiedAt
import Derived.Lib.SmallJoins
set_option maxRecDepth 100000
set_option maxHeartbeats 4000000
set_option linter.unusedVariables false
set_option linter.unusedSectionVars false
set_option linter.unusedSimpArgs false
namespace Go.Proofs.YtmnjbhkcfghebaaGreatDoor.forwardDecode
open Go.ChangeShapes Go.WideShapes Go.ChangeAt Go.RowKit Go.Joins Go.Deep
section
variable {H:Type}{enc:TypeId×Value→H}{w:World}{base:Nat}{spare:Nat→Bool}{held:Bool}
end
abbrev lt:List (String×DataW Unit):=lt36
theorem zj8 (os:Os)(args:Array Value):laidMetH Tryz.prog lt ((World.doorLaid Tryz.prog 400 os).forCall (fun _ _=>0) ⟨#[],args,[]⟩).memory:=zll os args
theorem lifted (os:Os)(started:os.Started)(H:Type)(enc:TypeId×Value→H):
  ReturnsInHanded {} Tryz.checked os 10 .any (fun w args=>(Rows.forwardDecodeSpec.pre enc Tryz.prog Tryz.f10 [] false w args∧laidMetH Tryz.prog lt w)∧sizedMet enc Tryz.prog Tryz.f10 (OpenSpec.ofChange Rows.forwardDecodeSpec) false w args)
   (Rows.forwardDecodeSpec.post enc Tryz.prog Tryz.f10 false true false false):=by
 refine returnsInHanded_of_change_and (C:=Tryz.checked) (X:=fun w _=>laidMetH Tryz.prog lt w) (fun _ _ _ hh h=>h.of_heap hh) own started a8 Tryz.func10
  (ChangeSpec.witness_shaped (enc:=enc) (C:=Tryz.checked) (os:=os) (X:=fun w _=>laidMetH Tryz.prog lt w) false (World.doorLaid Tryz.prog 400 os) #[.slice none 0 0] 8 rfl (World.shaped_of_RefB a8 a8) a8 a8 a8 (zj8 os _)) ?_
 intro W base args ds gs before hval0 hW _ _ hL _;have hval:∀(j:Nat) t v,Tryz.f10.params[j]?=some t→args[j]?=some v→Value.okWide Tryz.prog W .any base t v:=hval0;have hW':=hW;obtain ⟨p,q,hA0,hV,rfl,hfz,hnd⟩:=hW;have hA:DataW.TrodAll enc Tryz.prog W 0 (fun _=>true) true Tryz.f10.params.toList args.toList ds p:=hA0;rw [Tryz.params10] at hA hval;obtain ⟨v0,vs0,d0,ds0,p0,q0,hargs,rfl,rfl,h0,r0⟩:=trodAll_cons hA;obtain ⟨rfl,rfl,rfl⟩:=trodAll_nil r0; (obtain rfl:args= #[v0]:=by cases args;simp_all);obtain ⟨rfl,rfl⟩:=trodVars_none hV;have k0:=hval 0 24 v0 rfl rfl;obtain ⟨A0,L0,C0,rfl⟩:=okWide_slice Tryz.underlying24 k0;obtain ⟨fuel0,g0⟩:=h0;obtain ⟨x0,u0,e0,s0,b0⟩:=(Opens.bytes (e:=5) a8 a8 a8) _ _ _ g0;simp only [Value.cells,List.cons.injEq,and_true] at e0;subst e0;refine (zfp (Frz.all W) W (kL W) x0 _ s0 (gl_of hL) 100000 true (zhY (Nat.le_refl _) x0 b0)).mono fun e W' ⟨he,hg⟩=>?_;subst he;exact ⟨_,rfl,zke laid (tb:=4) a8 Tryz.underlying4 a8 rfl rfl rfl rfl hW' hg⟩
theorem proved:Rows.ForwardDecodeSaid:=
 OpenClaim.holds_of_wide 10 Tryz.f10 rfl rfl rfl rfl rfl rfl rfl ⟨rfl,rfl,rfl,rfl,rfl⟩ rfl rfl rfl rfl rfl a8 Tryz.func10 a8
  (of_decide_eq_true a8) (by unfold Func.isWrapper;first|(rw [if_pos (by decide +kernel)];kernel_rfl)|(rw [if_neg (by decide +kernel)];exact ⟨rfl,rfl⟩))
  (fun os started H enc _=>lifted os started H enc)
theorem card : Rows.ForwardDecodeCardSaid :=
  Claim7.holds_tied_plain_at .later [] [.data, .data] true (true, "9ea1400b6b07280df37bae8079994cf2041caa851888738e30bfc79373474895") true
    proved (fun _ h => by cases h) a8 (fun _ h => by cases h) forwardDecode_row_tie rfl ⟨rfl, rfl⟩ a8 rfl
    (fun f fn hf hfn => by
      obtain rfl : f = 10 := Option.some.inj ((show Tryz.prog.funcNamed "bandplan/bandplanlaw36.ForwardDecode" = some 10 by kernel_rfl).symm.trans hf) |>.symm; obtain rfl : fn = Tryz.f10 := (Option.some.inj (Tryz.func10.symm.trans hfn)).symm
      exact ⟨by kernel_rfl, fun j t ht => by
        rw [Tryz.params10] at ht; (have hm : t ∈ [24] := by simpa using Array.mem_of_getElem? ht); (have hall : ([24].all fun u => !Tryz.prog.wantsStandIn u) = true := by kernel_rfl)
        exact (show Tryz.prog.wantsStandIn t = false by simpa using List.all_eq_true.1 hall t hm)⟩)
    a8
#print axioms card
end Go.Proofs.YtmnjbhkcfghebaaGreatDoor.forwardDecode
