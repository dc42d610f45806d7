/- ForwardEncode: shortened and put together by squeeze.py. -/
import Derived.Test.YtmnjbhkcfghebaaGreatDoorQ15
import Derived.Test.YtmnjbhkcfghebaaGreatDoorRows
import Derived.Test.YtmnjbhkcfghebaaGreatDoorCards
import Derived.Test.YtmnjbhkcfghebaaGreatDoorTie
import Derived.ProofKit
import Derived.LaidMore
import Derived.OpenShut
import Derived.Stop.Joined
import Derived.SevenTiedAt
import Derived.Lib.SmallJoins
set_option maxRecDepth 100000
set_option maxHeartbeats 4000000
set_option linter.unusedVariables false
set_option linter.unusedSectionVars false
set_option linter.unusedSimpArgs false
namespace Go.Proofs.YtmnjbhkcfghebaaGreatDoor.forwardEncode
open Go.ChangeShapes Go.WideShapes Go.ChangeAt Go.RowKit Go.Joins Go.Deep
section
variable {H:Type}{enc:TypeId×Value→H}{w:World}{base:Nat}{spare:Nat→Bool}{held:Bool}
theorem zjz {t:TypeId}(ht:Tryz.prog.underlying t=some .bool):Opens enc w base spare held t (fun cs (x:Bool)=>cs=[.bool x]):=fun fuel cs y h=>by
 obtain ⟨k,hk,_⟩:=DataW.trod_bool ht h;exact ⟨k,hk⟩
theorem jg:Opens enc w base spare held 26 (fun cs (x:GInt)=>gO (Frz.all w) cs x∧(∀y∈x.Digits,0≤y∧y≤255)):=fun fuel cs y h=>by
 obtain ⟨ys,m,_,_,hl,hyl,hf⟩:=DataW.trod_struct Tryz.underlying26 h;rw [show Tryz.prog.cellsOf 26=2 by kernel_rfl] at hl
 obtain ⟨a0,a1,rfl⟩:∃a0 a1,cs=[a0,a1]:=by
  match cs,hl with
  | [a0,a1],_=>exact ⟨a0,a1,rfl⟩
 (have c4:Tryz.prog.cellsOf 4=1:=by kernel_rfl); (have c24:Tryz.prog.cellsOf 24=1:=by kernel_rfl);have f0:=hf 0 _ rfl;rw [List.getElem?_eq_getElem (by rw [hyl];decide)] at f0;simp only [List.getElem_toArray,List.getElem_cons_zero,List.getElem_cons_succ,c4,List.drop_succ_cons,List.drop_zero,List.take_succ_cons,List.take_zero] at f0;obtain ⟨x0,h0⟩:=(zjz a9) _ _ _ f0;simp only [List.cons.injEq,and_true] at h0;obtain rfl:=h0;have f1:=hf 1 _ rfl;rw [List.getElem?_eq_getElem (by rw [hyl];decide)] at f1;simp only [List.getElem_toArray,List.getElem_cons_zero,List.getElem_cons_succ,c24,List.drop_succ_cons,List.drop_zero,List.take_succ_cons,List.take_zero] at f1;obtain ⟨x1,v1,h1,g1,bt1⟩:=(Opens.bytes (e:=5) a9 a9 a9) _ _ _ f1;simp only [List.cons.injEq,and_true] at h1;subst h1;exact ⟨⟨x0,x1⟩,⟨_,rfl,g1⟩,bt1⟩
theorem jS:Opens enc w base spare held 28 (fun cs (x:GRatio)=>fX (Frz.all w) cs x∧(∀y∈x.Num.Digits,0≤y∧y≤255)∧(∀y∈x.Den.Digits,0≤y∧y≤255)):=fun fuel cs y h=>by
 obtain ⟨ys,m,_,_,hl,hyl,hf⟩:=DataW.trod_struct Tryz.underlying28 h;rw [show Tryz.prog.cellsOf 28=4 by kernel_rfl] at hl
 obtain ⟨a0,a1,a2,a3,rfl⟩:∃a0 a1 a2 a3,cs=[a0,a1,a2,a3]:=by
  match cs,hl with
  | [a0,a1,a2,a3],_=>exact ⟨a0,a1,a2,a3,rfl⟩
 (have c26:Tryz.prog.cellsOf 26=2:=by kernel_rfl);have f0:=hf 0 _ rfl;rw [List.getElem?_eq_getElem (by rw [hyl];decide)] at f0;simp only [List.getElem_toArray,List.getElem_cons_zero,List.getElem_cons_succ,c26,List.drop_succ_cons,List.drop_zero,List.take_succ_cons,List.take_zero] at f0;obtain ⟨x0,⟨v0_1,h0,g0_1⟩,bt0_0⟩:=jg _ _ _ f0;simp only [List.cons.injEq,and_true] at h0;obtain ⟨rfl,rfl⟩:=h0;have f1:=hf 1 _ rfl;rw [List.getElem?_eq_getElem (by rw [hyl];decide)] at f1;simp only [List.getElem_toArray,List.getElem_cons_zero,List.getElem_cons_succ,c26,List.drop_succ_cons,List.drop_zero,List.take_succ_cons,List.take_zero] at f1;obtain ⟨x1,⟨v1_1,h1,g1_1⟩,bt1_0⟩:=jg _ _ _ f1;simp only [List.cons.injEq,and_true] at h1;obtain ⟨rfl,rfl⟩:=h1;exact ⟨⟨x0,x1⟩,⟨_,_,rfl,g0_1,g1_1⟩,bt0_0,bt1_0⟩
theorem kN:Opens enc w base spare held 79 (fun cs (x:GBid)=>cY (Frz.all w) cs x∧(∀y∈x.Point.Num.Digits,0≤y∧y≤255)∧(∀y∈x.Point.Den.Digits,0≤y∧y≤255)):=fun fuel cs y h=>by
 obtain ⟨ys,m,_,_,hl,hyl,hf⟩:=DataW.trod_struct Tryz.underlying79 h;rw [show Tryz.prog.cellsOf 79=7 by kernel_rfl] at hl
 obtain ⟨a0,a1,a2,a3,a4,a5,a6,rfl⟩:∃a0 a1 a2 a3 a4 a5 a6,cs=[a0,a1,a2,a3,a4,a5,a6]:=by
  match cs,hl with
  | [a0,a1,a2,a3,a4,a5,a6],_=>exact ⟨a0,a1,a2,a3,a4,a5,a6,rfl⟩
 (have c3:Tryz.prog.cellsOf 3=1:=by kernel_rfl); (have c28:Tryz.prog.cellsOf 28=4:=by kernel_rfl);have f0:=hf 0 _ rfl;rw [List.getElem?_eq_getElem (by rw [hyl];decide)] at f0;simp only [List.getElem_toArray,List.getElem_cons_zero,List.getElem_cons_succ,c3,List.drop_succ_cons,List.drop_zero,List.take_succ_cons,List.take_zero] at f0;obtain ⟨x0,h0⟩:=(Opens.int a9) _ _ _ f0;simp only [List.cons.injEq,and_true] at h0;obtain rfl:=h0;have f1:=hf 1 _ rfl;rw [List.getElem?_eq_getElem (by rw [hyl];decide)] at f1;simp only [List.getElem_toArray,List.getElem_cons_zero,List.getElem_cons_succ,c3,List.drop_succ_cons,List.drop_zero,List.take_succ_cons,List.take_zero] at f1;obtain ⟨x1,h1⟩:=(Opens.int a9) _ _ _ f1;simp only [List.cons.injEq,and_true] at h1;obtain rfl:=h1;have f2:=hf 2 _ rfl;rw [List.getElem?_eq_getElem (by rw [hyl];decide)] at f2;simp only [List.getElem_toArray,List.getElem_cons_zero,List.getElem_cons_succ,c3,List.drop_succ_cons,List.drop_zero,List.take_succ_cons,List.take_zero] at f2;obtain ⟨x2,h2⟩:=(Opens.int a9) _ _ _ f2;simp only [List.cons.injEq,and_true] at h2;obtain rfl:=h2;have f3:=hf 3 _ rfl;rw [List.getElem?_eq_getElem (by rw [hyl];decide)] at f3;simp only [List.getElem_toArray,List.getElem_cons_zero,List.getElem_cons_succ,c28,List.drop_succ_cons,List.drop_zero,List.take_succ_cons,List.take_zero] at f3;obtain ⟨x3,⟨v3_1,v3_3,h3,g3_1,g3_3⟩,bt3_0,bt3_1⟩:=jS _ _ _ f3;simp only [List.cons.injEq,and_true] at h3;obtain ⟨rfl,rfl,rfl,rfl⟩:=h3;exact ⟨⟨x0,x1,x2,x3⟩,⟨_,_,rfl,g3_1,g3_3⟩,bt3_0,bt3_1⟩
theorem zif:Opens enc w base spare held 46 (fun cs (l:List GBid)=>∃v c,cs=[v]∧SlD cY (Frz.all w) v 7 c l∧∀x∈l,(∀y∈x.Point.Num.Digits,0≤y∧y≤255)∧(∀y∈x.Point.Den.Digits,0≤y∧y≤255)):=fun fuel cs y h=>by
 obtain ⟨l,v,c,h1,h2,h3,h4⟩:=Opens.any (k:=7) (R:=fun cs (x:GBid)=>cY (Frz.all w) cs x∧(∀y∈x.Point.Num.Digits,0≤y∧y≤255)∧(∀y∈x.Point.Den.Digits,0≤y∧y≤255)) Tryz.underlying46 a9 a8 kN _ _ _ h;refine ⟨l,v,c,h1,⟨h2,h3,fun i hi=>(h4 i hi).1⟩,fun x hx=>?_⟩;obtain ⟨i,hi,rfl⟩:=List.mem_iff_getElem.1 hx;have:=(h4 i hi).2;rw [fK hi] at this;exact this
end
abbrev lt:List (String×DataW Unit):=lt36
theorem zjM (os:Os)(args:Array Value):laidMetH Tryz.prog lt ((World.doorLaid Tryz.prog 400 os).forCall (fun _ _=>0) ⟨#[],args,[]⟩).memory:=zk2 os args
theorem lifted (os:Os)(started:os.Started)(H:Type)(enc:TypeId×Value→H):
  ReturnsInHanded {} Tryz.checked os 9 .any (fun w args=>(Rows.forwardEncodeSpec.pre enc Tryz.prog Tryz.f9 [] false w args∧laidMetH Tryz.prog lt w)∧sizedMet enc Tryz.prog Tryz.f9 (OpenSpec.ofChange Rows.forwardEncodeSpec) false w args)
   (Rows.forwardEncodeSpec.post enc Tryz.prog Tryz.f9 false true false false):=by
 refine returnsInHanded_of_change_and (C:=Tryz.checked) (X:=fun w _=>laidMetH Tryz.prog lt w) (fun _ _ _ hh h=>h.of_heap hh) own started a9 Tryz.func9
  (ChangeSpec.witness_shaped (enc:=enc) (C:=Tryz.checked) (os:=os) (X:=fun w _=>laidMetH Tryz.prog lt w) false (World.doorLaid Tryz.prog 400 os) #[.slice none 0 0] 8 rfl (World.shaped_of_RefB a9 a9) a9 a9 a9 (zjM os _)) ?_
 intro W base args ds gs before hval0 hW _ _ hL _;have hval:∀(j:Nat) t v,Tryz.f9.params[j]?=some t→args[j]?=some v→Value.okWide Tryz.prog W .any base t v:=hval0;have hW':=hW;obtain ⟨p,q,hA0,hV,rfl,hfz,hnd⟩:=hW;have hA:DataW.TrodAll enc Tryz.prog W 0 (fun _=>true) true Tryz.f9.params.toList args.toList ds p:=hA0;rw [Tryz.params9] at hA hval;obtain ⟨v0,vs0,d0,ds0,p0,q0,hargs,rfl,rfl,h0,r0⟩:=trodAll_cons hA;obtain ⟨rfl,rfl,rfl⟩:=trodAll_nil r0; (obtain rfl:args= #[v0]:=by cases args;simp_all);obtain ⟨rfl,rfl⟩:=trodVars_none hV;have k0:=hval 0 46 v0 rfl rfl;obtain ⟨A0,L0,C0,rfl⟩:=okWide_slice Tryz.underlying46 k0;obtain ⟨fuel0,g0⟩:=h0;obtain ⟨x0,u0,c0,e0,s0,b0⟩:=zif _ _ _ g0;simp only [Value.cells,List.cons.injEq,and_true] at e0;subst e0;refine (zfr (Frz.all W) W (kW W) x0 _ _ s0 (gl_of hL) 100000 true (zhx (Nat.le_refl _) x0 b0)).mono fun e W' ⟨he,hg⟩=>?_;subst he;exact ⟨_,rfl,zjO laid (tb:=4) a9 Tryz.underlying4 a9 rfl rfl rfl rfl hW' hg⟩
theorem proved:Rows.ForwardEncodeSaid:=
 OpenClaim.holds_of_wide 9 Tryz.f9 rfl rfl rfl rfl rfl rfl rfl ⟨rfl,rfl,rfl,rfl,rfl⟩ rfl rfl rfl rfl rfl a9 Tryz.func9 a9
  (of_decide_eq_true a9) (by unfold Func.isWrapper;first|(rw [if_pos (by decide +kernel)];kernel_rfl)|(rw [if_neg (by decide +kernel)];exact ⟨rfl,rfl⟩))
  (fun os started H enc _=>lifted os started H enc)
theorem card : Rows.ForwardEncodeCardSaid :=
  Claim7.holds_tied_plain_at .later [] [.data, .data] true (true, "9ea1400b6b07280df37bae8079994cf2041caa851888738e30bfc79373474895") true
    proved (fun _ h => by cases h) a9 (fun _ h => by cases h) forwardEncode_row_tie rfl ⟨rfl, rfl⟩ a9 rfl
    (fun f fn hf hfn => by
      obtain rfl : f = 9 := Option.some.inj ((show Tryz.prog.funcNamed "bandplan/bandplanlaw36.ForwardEncode" = some 9 by kernel_rfl).symm.trans hf) |>.symm; obtain rfl : fn = Tryz.f9 := (Option.some.inj (Tryz.func9.symm.trans hfn)).symm
      exact ⟨by kernel_rfl, fun j t ht => by
        rw [Tryz.params9] at ht; (have hm : t ∈ [46] := by simpa using Array.mem_of_getElem? ht); (have hall : ([46].all fun u => !Tryz.prog.wantsStandIn u) = true := by kernel_rfl)
        exact (show Tryz.prog.wantsStandIn t = false by simpa using List.all_eq_true.1 hall t hm)⟩)
    a9
#print axioms card
end Go.Proofs.YtmnjbhkcfghebaaGreatDoor.forwardEncode
