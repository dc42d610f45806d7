/- NogoodNone: shortened and put together by squeeze.py. -/
import Derived.Test.YtbpkdjionfhohaaDoorQ09
import Derived.Test.YtbpkdjionfhohaaDoorRows
import Derived.Test.YtbpkdjionfhohaaDoorCards
import Derived.Test.YtbpkdjionfhohaaDoorTie
import Derived.ProofKit
import Derived.LaidMore
import Derived.OpenShut
import Derived.Stop.Joined
import Derived.SevenTiedAt
import Derived.Lib.SmallJoins
set_option maxRecDepth 100000
set_option maxHeartbeats 4000000
set_option linter.unusedVariables false
set_option linter.unusedSectionVars false
set_option linter.unusedSimpArgs false
namespace Go.Proofs.YtbpkdjionfhohaaDoor.nogoodNone
open Go.ChangeShapes Go.WideShapes Go.ChangeAt Go.RowKit Go.Joins Go.Deep
section
variable {H:Type}{enc:TypeId×Value→H}{w:World}{base:Nat}{spare:Nat→Bool}{held:Bool}
theorem GChoice.opens:Opens enc w base spare held 55 (fun cs (x:GChoice)=>cs=GChoice.enc x):=fun fuel cs y h=>by
 obtain ⟨ys,m,_,_,hl,hyl,hf⟩:=DataW.trod_struct Tryd.underlying55 h;rw [show Tryd.prog.cellsOf 55=2 by kernel_rfl] at hl
 obtain ⟨a0,a1,rfl⟩:∃a0 a1,cs=[a0,a1]:=by
  match cs,hl with
  | [a0,a1],_=>exact ⟨a0,a1,rfl⟩
 (have c3:Tryd.prog.cellsOf 3=1:=by kernel_rfl);have f0:=hf 0 _ rfl;rw [List.getElem?_eq_getElem (by rw [hyl];decide)] at f0;simp only [List.getElem_toArray,List.getElem_cons_zero,List.getElem_cons_succ,c3,List.drop_succ_cons,List.drop_zero,List.take_succ_cons,List.take_zero] at f0;obtain ⟨x0,h0⟩:=(Opens.int (by kernel_rfl)) _ _ _ f0;simp only [List.cons.injEq,and_true] at h0;obtain rfl:=h0;have f1:=hf 1 _ rfl;rw [List.getElem?_eq_getElem (by rw [hyl];decide)] at f1;simp only [List.getElem_toArray,List.getElem_cons_zero,List.getElem_cons_succ,c3,List.drop_succ_cons,List.drop_zero,List.take_succ_cons,List.take_zero] at f1;obtain ⟨x1,h1⟩:=(Opens.int (by kernel_rfl)) _ _ _ f1;simp only [List.cons.injEq,and_true] at h1;obtain rfl:=h1;exact ⟨⟨x0,x1⟩,rfl⟩
end
abbrev lt : List (String × DataW Unit) := [("math/bits.deBruijn64tab", Rows.laid_math_bits_deBruijn64tab)]
theorem gTab : Tryd.prog.globalNamed "math/bits.deBruijn64tab" = some 0 := by kernel_rfl
theorem tTab:(Tryd.prog.globals[0]?).map (·.type)=some 133:=by kernel_rfl
theorem zi6 (os:Os)(args:Array Value):laidMetH Tryd.prog lt ((World.doorLaid Tryd.prog 400 os).forCall (fun _ _=>0) ⟨#[],args,[]⟩).memory:=
 laidMetH_of_parts3 (fuel:=8) (laidMet_of_run' 8 (by kernel_rfl) (by kernel_rfl)) (by kernel_rfl) (by kernel_rfl)
theorem lits:(Rows.laid_math_bits_deBruijn64tab:DataW Unit)= .agg (Lib.deBruijn64tab.map fun n:Nat=> .lit (.int .u8 (n:Int))):=rfl
theorem zkh {W:World}(h:laidMetH Tryd.prog lt W):Tab W:=by
 rw [MakeChecks.laidMetH_plain _ _ _ (by kernel_rfl)] at h;obtain ⟨ps,⟨g0,t0,cs0,f0,p0,q0,hg0,ht0,hv0,hd0,_,_⟩,_,_⟩:=h;obtain rfl:=Option.some.inj (gTab.symm.trans hg0);obtain rfl:=Option.some.inj (tTab.symm.trans ht0);obtain ⟨xs,m1,rfl,hx1,hlen,hn3,hel⟩:=DataW.trod_array Tryd.underlying133 hd0; (have c5:Tryd.prog.cellsOf 5=1:=by kernel_rfl);intro j hj;have h0:=hel j hj;rw [List.getElem?_eq_getElem (by omega)] at h0;obtain ⟨k,e1,e2,_⟩:=DataW.trod_int Tryd.underlying5 h0;simp only [Prod.mk.injEq] at hx1
 have hk:xs[j].1= .lit (.int .u8 (Lib.deBruijn64tab.getD j 0:Nat)):=by
  have hl:=lits.symm.trans hx1.1;simp only [DataW.agg.injEq] at hl;have:=congrArg (fun l=>l[j]?) hl;simp only [List.getElem?_map] at this;rw [List.getElem?_eq_getElem (show j<xs.length by omega),List.getElem?_eq_getElem (show j<Lib.deBruijn64tab.length from hj)] at this;simp only [Option.map_some,Option.some.injEq] at this;rw [←this,List.getD_eq_getElem?_getD,List.getElem?_eq_getElem (show j<Lib.deBruijn64tab.length from hj)]
  rfl
 rw [e2] at hk;simp only [DataW.lit.injEq,Lit.int.injEq,true_and] at hk;subst hk;rw [c5,Nat.mul_one] at e1;have hc:=World.var?_cell hg0 hv0 j;rw [hc];obtain ⟨l⟩:=cs0;have:=congrArg (fun l=>l[0]?) e1;simpa using this
theorem lifted (os : Os) (started : os.Started) (H : Type) (enc : TypeId × Value → H) :
    ReturnsInHanded {} Tryd.checked os 3 .any (fun w args => (Rows.nogoodNoneSpec.pre enc Tryd.prog Tryd.f3 [] false w args ∧ laidMetH Tryd.prog lt w) ∧ sizedMet enc Tryd.prog Tryd.f3 (OpenSpec.ofChange Rows.nogoodNoneSpec) false w args)
      (Rows.nogoodNoneSpec.post enc Tryd.prog Tryd.f3 false true false false) := by
  refine returnsInHanded_of_change_and (C := Tryd.checked) (X := fun w _ => laidMetH Tryd.prog lt w) (fun _ _ _ hh h => h.of_heap hh) own started (by kernel_rfl) Tryd.func3
    (ChangeSpec.witness_shaped (enc := enc) (C := Tryd.checked) (os := os) (X := fun w _ => laidMetH Tryd.prog lt w) false (World.doorLaid Tryd.prog 400 os) #[.slice none 0 0] 8 rfl (World.shaped_of_RefB (by kernel_rfl) (by kernel_rfl)) (by kernel_rfl) (by kernel_rfl) (by kernel_rfl) (zi6 os _)) ?_
  intro W base args ds gs before hval0 hW _ _ hL _; have hval : ∀ (j : Nat) t v, Tryd.f3.params[j]? = some t → args[j]? = some v → Value.okWide Tryd.prog W .any base t v := hval0; have hW' := hW; obtain ⟨p, q, hA0, hV, rfl, hfz, hnd⟩ := hW; have hA : DataW.TrodAll enc Tryd.prog W 0 (fun _ => true) true Tryd.f3.params.toList args.toList ds p := hA0; rw [Tryd.params3] at hA hval; obtain ⟨v0, vs0, d0, ds0, p0, q0, hargs, rfl, rfl, h0, r0⟩ := trodAll_cons hA; obtain ⟨rfl, rfl, rfl⟩ := trodAll_nil r0; (obtain rfl : args = #[v0] := by cases args; simp_all); obtain ⟨rfl, rfl⟩ := trodVars_none hV; have k0 := hval 0 22 v0 rfl rfl; obtain ⟨A0, L0, C0, rfl⟩ := okWide_slice Tryd.underlying22 k0; obtain ⟨fuel0, g0⟩ := h0; obtain ⟨x0, u0, e0, s0⟩ := (Opens.slC (e := 55) (k := 2) (en := GChoice.enc) (by kernel_rfl) (by kernel_rfl) (by decide) GChoice.opens) _ _ _ g0; simp only [Value.cells, List.cons.injEq, and_true] at e0; subst e0; refine (zc9 (Frz.all W) W (Frz.all_at W) x0 _ s0 (zkh hL) 100000 (Nat.le_refl _) true (zhs (Nat.le_refl _) _)).mono fun e W' ⟨he, hg⟩ => ?_; subst he; exact ⟨_, rfl, ziE laid (tb := 4) (by kernel_rfl) Tryd.underlying4 (by kernel_rfl) rfl rfl rfl rfl hW' hg⟩
theorem proved:Rows.NogoodNoneSaid:=
 OpenClaim.holds_of_wide 3 Tryd.f3 rfl rfl rfl rfl rfl rfl rfl ⟨rfl,rfl,rfl,rfl,rfl⟩ rfl rfl rfl rfl rfl (by kernel_rfl) Tryd.func3 (by kernel_rfl)
  (of_decide_eq_true (by kernel_rfl)) (by unfold Func.isWrapper;first|(rw [if_pos (by decide +kernel)];kernel_rfl)|(rw [if_neg (by decide +kernel)];exact ⟨rfl,rfl⟩))
  (fun os started H enc _=>lifted os started H enc)
theorem card : Rows.NogoodNoneCardSaid :=
  Claim7.holds_tied_plain_at .later [] [.data] true (true, "3aedf670c0d18b15635179edee9511b5be18f320f59dfe2623522235e6b5b3a7") false
    proved (fun _ h => by cases h) (by kernel_rfl) (fun _ h => by cases h) nogoodNone_row_tie rfl ⟨rfl, rfl⟩ (by kernel_rfl) rfl
    (fun f fn hf hfn => by
      obtain rfl : f = 3 := Option.some.inj ((show Tryd.prog.funcNamed "bandplan/bandplanlaw21.NogoodNone" = some 3 by kernel_rfl).symm.trans hf) |>.symm; obtain rfl : fn = Tryd.f3 := (Option.some.inj (Tryd.func3.symm.trans hfn)).symm
      exact ⟨by kernel_rfl, fun j t ht => by
        rw [Tryd.params3] at ht; (have hm : t ∈ [22] := by simpa using Array.mem_of_getElem? ht); (have hall : ([22].all fun u => !Tryd.prog.wantsStandIn u) = true := by kernel_rfl)
        exact (show Tryd.prog.wantsStandIn t = false by simpa using List.all_eq_true.1 hall t hm)⟩)
    (by kernel_rfl)
#print axioms card
end Go.Proofs.YtbpkdjionfhohaaDoor.nogoodNone
