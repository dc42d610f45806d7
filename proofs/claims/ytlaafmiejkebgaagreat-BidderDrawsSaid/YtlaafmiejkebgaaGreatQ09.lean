/- BidderDraws: shortened and put together by squeeze.py. -/
import Derived.Test.YtlaafmiejkebgaaGreatQ08
import Derived.Test.YtlaafmiejkebgaaGreatRows
import Derived.ProofKit
import Derived.OpenShut
import Derived.Lib.SmallJoins
set_option maxRecDepth 100000
set_option maxHeartbeats 4000000
set_option linter.unusedVariables false
set_option linter.unusedSectionVars false
set_option linter.unusedSimpArgs false
namespace Go.Proofs.YtlaafmiejkebgaaGreat.bidderDraws
open Go.ChangeShapes Go.WideShapes Go.ChangeAt Go.RowKit Go.Joins Go.Deep
section
variable {H : Type} {enc : TypeId × Value → H} {w : World} {base : Nat} {spare : Nat → Bool} {held : Bool}
theorem GProduct.opens : Opens enc w base spare held 76 (fun cs (x : GProduct) => cs = GProduct.enc x) := fun fuel cs y h => by
  obtain ⟨ys, m, _, _, hl, hyl, hf⟩ := DataW.trod_struct Tryz.underlying76 h; rw [show Tryz.prog.cellsOf 76 = 5 by kernel_rfl] at hl
  obtain ⟨a0, a1, a2, a3, a4, rfl⟩ : ∃ a0 a1 a2 a3 a4, cs = [a0, a1, a2, a3, a4] := by
    match cs, hl with
    | [a0, a1, a2, a3, a4], _ => exact ⟨a0, a1, a2, a3, a4, rfl⟩
  (have c3 : Tryz.prog.cellsOf 3 = 1 := by kernel_rfl); have f0 := hf 0 _ rfl; rw [List.getElem?_eq_getElem (by rw [hyl]; decide)] at f0; simp only [List.getElem_toArray, List.getElem_cons_zero, List.getElem_cons_succ, c3, List.drop_succ_cons, List.drop_zero, List.take_succ_cons, List.take_zero] at f0; obtain ⟨x0, h0⟩ := (Opens.int (by kernel_rfl)) _ _ _ f0; simp only [List.cons.injEq, and_true] at h0; obtain rfl := h0; have f1 := hf 1 _ rfl; rw [List.getElem?_eq_getElem (by rw [hyl]; decide)] at f1; simp only [List.getElem_toArray, List.getElem_cons_zero, List.getElem_cons_succ, c3, List.drop_succ_cons, List.drop_zero, List.take_succ_cons, List.take_zero] at f1; obtain ⟨x1, h1⟩ := (Opens.int (by kernel_rfl)) _ _ _ f1; simp only [List.cons.injEq, and_true] at h1; obtain rfl := h1; have f2 := hf 2 _ rfl; rw [List.getElem?_eq_getElem (by rw [hyl]; decide)] at f2; simp only [List.getElem_toArray, List.getElem_cons_zero, List.getElem_cons_succ, c3, List.drop_succ_cons, List.drop_zero, List.take_succ_cons, List.take_zero] at f2; obtain ⟨x2, h2⟩ := (Opens.int (by kernel_rfl)) _ _ _ f2; simp only [List.cons.injEq, and_true] at h2; obtain rfl := h2; have f3 := hf 3 _ rfl; rw [List.getElem?_eq_getElem (by rw [hyl]; decide)] at f3; simp only [List.getElem_toArray, List.getElem_cons_zero, List.getElem_cons_succ, c3, List.drop_succ_cons, List.drop_zero, List.take_succ_cons, List.take_zero] at f3; obtain ⟨x3, h3⟩ := (Opens.int (by kernel_rfl)) _ _ _ f3; simp only [List.cons.injEq, and_true] at h3; obtain rfl := h3; have f4 := hf 4 _ rfl; rw [List.getElem?_eq_getElem (by rw [hyl]; decide)] at f4; simp only [List.getElem_toArray, List.getElem_cons_zero, List.getElem_cons_succ, c3, List.drop_succ_cons, List.drop_zero, List.take_succ_cons, List.take_zero] at f4; obtain ⟨x4, h4⟩ := (Opens.int (by kernel_rfl)) _ _ _ f4; simp only [List.cons.injEq, and_true] at h4; obtain rfl := h4; exact ⟨⟨x0, x1, x2, x3, x4⟩, rfl⟩
end
theorem lifted (os : Os) (started : os.Started) (H : Type) (enc : TypeId × Value → H) :
    ReturnsInHanded {} Tryz.checked os 4 .any (Rows.bidderDrawsSpec.pre6 enc Tryz.prog Tryz.f4 Rows.bidderDrawsRow.domain false) (Rows.bidderDrawsSpec.post enc Tryz.prog Tryz.f4 false true false false) := by
  refine returnsInHanded_of_change (C := Tryz.checked) own started (by kernel_rfl) Tryz.func4
    (ChangeSpec.witness6 (enc := enc) (C := Tryz.checked) false ⟨#[], #[.int .i64 0, .int .i64 0, .int .i64 0, .slice none 0 0, .int .i64 0], []⟩ 8 (by kernel_rfl) (by kernel_rfl) (by kernel_rfl) (by kernel_rfl)) ?_
  intro W base args ds gs before hval0 hW hcnd _; have hval : ∀ (j : Nat) t v, Tryz.f4.params[j]? = some t → args[j]? = some v → Value.okWide Tryz.prog W .any base t v := hval0; have hW' := hW; obtain ⟨p, q, hA0, hV, rfl, hfz, hnd⟩ := hW; have hA : DataW.TrodAll enc Tryz.prog W 0 (fun _ => true) true Tryz.f4.params.toList args.toList ds p := hA0; rw [Tryz.params4] at hA hval; obtain ⟨v0, vs0, d0, ds0, p0, q0, hargs, rfl, rfl, h0, r0⟩ := trodAll_cons hA; obtain ⟨v1, vs1, d1, ds1, p1, q1, rfl, rfl, rfl, h1, r1⟩ := trodAll_cons r0; obtain ⟨v2, vs2, d2, ds2, p2, q2, rfl, rfl, rfl, h2, r2⟩ := trodAll_cons r1; obtain ⟨v3, vs3, d3, ds3, p3, q3, rfl, rfl, rfl, h3, r3⟩ := trodAll_cons r2; obtain ⟨v4, vs4, d4, ds4, p4, q4, rfl, rfl, rfl, h4, r4⟩ := trodAll_cons r3; obtain ⟨rfl, rfl, rfl⟩ := trodAll_nil r4; (obtain rfl : args = #[v0, v1, v2, v3, v4] := by cases args; simp_all); obtain ⟨rfl, rfl⟩ := trodVars_none hV; have k0 := hval 0 3 v0 rfl rfl; obtain ⟨x0, rfl, rfl, rfl, k0_⟩ := open_int Tryz.underlying3 k0 h0; have k1 := hval 1 3 v1 rfl rfl; obtain ⟨x1, rfl, rfl, rfl, k1_⟩ := open_int Tryz.underlying3 k1 h1; have k2 := hval 2 3 v2 rfl rfl; obtain ⟨x2, rfl, rfl, rfl, k2_⟩ := open_int Tryz.underlying3 k2 h2; have k3 := hval 3 25 v3 rfl rfl; obtain ⟨A3, L3, C3, rfl⟩ := okWide_slice Tryz.underlying25 k3; obtain ⟨fuel3, g3⟩ := h3; obtain ⟨x3, u3, e3, s3⟩ := (Opens.slC (e := 76) (k := 5) (en := GProduct.enc) (by kernel_rfl) (by kernel_rfl) (by decide) GProduct.opens) _ _ _ g3; simp only [Value.cells, List.cons.injEq, and_true] at e3; subst e3; have k4 := hval 4 3 v4 rfl rfl; obtain ⟨x4, rfl, rfl, rfl, k4_⟩ := open_int Tryz.underlying3 k4 h4; refine (zdb (Frz.all W) W (Frz.all_at W) x0 x1 x2 x3 _ s3 x4 18446744073709651616 true (zet (Nat.le_refl _) _ _ _ _ _)).mono fun e W' ⟨he, hg⟩ => ?_; subst he; exact ⟨_, rfl, zf0 laid (tb := 4) (by kernel_rfl) Tryz.underlying4 (by kernel_rfl) rfl rfl rfl rfl hW' hg⟩
theorem proved : Rows.BidderDrawsSaid :=
  OpenClaim.holds_of_wide 4 Tryz.f4 rfl rfl rfl rfl rfl rfl rfl ⟨rfl, rfl, rfl, rfl, rfl⟩ rfl rfl rfl rfl rfl (by kernel_rfl) Tryz.func4 (by kernel_rfl)
    (of_decide_eq_true (by kernel_rfl)) (by unfold Func.isWrapper; first | (rw [if_pos (by decide +kernel)]; kernel_rfl) | (rw [if_neg (by decide +kernel)]; exact ⟨rfl, rfl⟩))
    (fun os started H enc _ => lifted os started H enc)
#print axioms proved
end Go.Proofs.YtlaafmiejkebgaaGreat.bidderDraws
