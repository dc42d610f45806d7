/- Known answers. -/
import Derived.Test.YtphpmjnpjnmdmaaK7
set_option maxRecDepth 100000
set_option maxHeartbeats 4000000
set_option linter.unusedSimpArgs false
set_option linter.unusedVariables false
set_option linter.unusedSectionVars false
namespace Go.Proofs.Ytphpmjnpjnmdmaa
open Go.RowKit

def xs0 : List Mv := [⟨3, 20, 30, 1, 0, 2⟩, ⟨4, 21, 31, 1, 0, 1⟩, ⟨5, 22, 0, 2, 0, 3⟩]
def xs2 : List Mv := [⟨3, 20, 30, 1, 0, 2⟩, ⟨5, 22, 0, 2, 0, 3⟩]
def ts0 : List Si := [⟨1, 1⟩, ⟨2, 2⟩]
def cs0 : List Si := [⟨0, 2⟩]
def cs1 : List Si := [⟨0, 1⟩]
def ws0 : List Wk := [⟨3, 0, 2⟩, ⟨4, 2, 3⟩, ⟨5, 0, 3⟩]
def ws1 : List Wk := [⟨3, 0, 2⟩, ⟨4, 2, 3⟩, ⟨5, 3, 6⟩]
theorem code0 : codeOf xs0 ts0 cs0 true = 0 := by decide +kernel
theorem code1 : codeOf xs0 ts0 cs1 true = 0 := by decide +kernel
theorem first_of {f : Int → Bool} {n s : Nat} (h1 : freeR f s n = true) (h2 : ∀ r, r < s → freeR f (r : Int) n = false) : IsFirst f n s := ⟨by omega, h1, fun r h0 h => by
  have := h2 r.toNat (by omega)
  rwa [show ((r.toNat : Nat) : Int) = r from by omega] at this⟩
theorem ws0_inv : WInv xs0 ts0 cs0 ws0 := ⟨by decide +kernel, by decide +kernel, fun j hj => by
  match j, hj with
  | 0, _ => exact first_of (s := 0) (by decide +kernel) (by decide +kernel)
  | 1, _ => exact first_of (s := 2) (by decide +kernel) (by decide +kernel)
  | 2, _ => exact first_of (s := 0) (by decide +kernel) (by decide +kernel), by decide +kernel⟩
theorem ws1_inv : WInv xs0 ts0 cs1 ws1 := ⟨by decide +kernel, by decide +kernel, fun j hj => by
  match j, hj with
  | 0, _ => exact first_of (s := 0) (by decide +kernel) (by decide +kernel)
  | 1, _ => exact first_of (s := 2) (by decide +kernel) (by decide +kernel)
  | 2, _ => exact first_of (s := 3) (by decide +kernel) (by decide +kernel), by decide +kernel⟩
theorem retTo {f : FuncId} {args : Array Value} {w : World} {v : Value} (v' : Value) (h : v = v') (c : Calls Try.prog f args w fun e w' => e = .returned v ∧ Below w.heap.size w w') : Calls Try.prog f args w fun e w' => e = .returned v' ∧ Below w.heap.size w w' := h ▸ c
theorem mv6 (m : Mv) : m.cells.length = 6 := rfl
theorem si2 (m : Si) : m.cells.length = 2 := rfl

theorem known_ret (w : World) : Calls Try.prog 8 #[] w fun e w' => e = .returned (.bool true) ∧ Below w.heap.size w w' := by
  refine calls_T (M := fun _ => False) (hs := []) Try.func8 rfl rfl rfl (Hp.refl _ _) ?_
  refine T.seq ?_
  refine T.region ?_
  refine TL.yv (Wt.none rfl) rfl rfl (Yv.pur rfl) ?_
  refine TL.nil ?_
  refine K.seq ?_
  refine T.seq ?_
  refine T.region ?_
  first | refine TL.yv (Wt.none rfl) rfl rfl (Yv.build rfl rfl) ?_ | refine TL.yv (Wt.none rfl) rfl rfl (Yv.buildAr rfl rfl) ?_
  first | refine TL.yv (Wt.none rfl) rfl rfl (Yv.build rfl rfl) ?_ | refine TL.yv (Wt.none rfl) rfl rfl (Yv.buildAr rfl rfl) ?_
  first | refine TL.yv (Wt.none rfl) rfl rfl (Yv.build rfl rfl) ?_ | refine TL.yv (Wt.none rfl) rfl rfl (Yv.buildAr rfl rfl) ?_
  (refine TL.ew (Wt.none rfl) rfl rfl (Ew.buildSlice rfl rfl rfl (by decide)) ?_; rintro _ _ ⟨g22, rfl, rfl⟩)
  refine TL.yv (Wt.none rfl) rfl rfl (Yv.pur rfl) ?_
  refine TL.nil ?_
  refine K.seq ?_
  refine T.seq ?_
  refine T.region ?_
  first | refine TL.yv (Wt.none rfl) rfl rfl (Yv.build rfl rfl) ?_ | refine TL.yv (Wt.none rfl) rfl rfl (Yv.buildAr rfl rfl) ?_
  first | refine TL.yv (Wt.none rfl) rfl rfl (Yv.build rfl rfl) ?_ | refine TL.yv (Wt.none rfl) rfl rfl (Yv.buildAr rfl rfl) ?_
  (refine TL.ew (Wt.none rfl) rfl rfl (Ew.buildSlice rfl rfl rfl (by decide)) ?_; rintro _ _ ⟨g25, rfl, rfl⟩)
  first | refine TL.yv (Wt.none rfl) rfl rfl (Yv.build rfl rfl) ?_ | refine TL.yv (Wt.none rfl) rfl rfl (Yv.buildAr rfl rfl) ?_
  (refine TL.ew (Wt.none rfl) rfl rfl (Ew.buildSlice rfl rfl rfl (by decide)) ?_; rintro _ _ ⟨g27, rfl, rfl⟩)
  refine TL.yv (Wt.none rfl) rfl rfl (Yv.pur rfl) ?_
  refine TL.yv (Wt.none rfl) rfl rfl (Yv.pur rfl) ?_
  refine TL.nil ?_
  refine K.seq ?_
  refine T.seq ?_
  refine T.region ?_
  first | refine TL.yv (Wt.none rfl) rfl rfl (Yv.build rfl rfl) ?_ | refine TL.yv (Wt.none rfl) rfl rfl (Yv.buildAr rfl rfl) ?_
  (refine TL.ew (Wt.none rfl) rfl rfl (Ew.buildSlice rfl rfl rfl (by decide)) ?_; rintro _ _ ⟨g29, rfl, rfl⟩)
  refine TL.yv (Wt.none rfl) rfl rfl (Yv.pur rfl) ?_
  refine TL.nil ?_
  refine K.seq ?_
  refine T.seq ?_
  refine T.region ?_
  refine TL.yv (Wt.none rfl) rfl rfl (Yv.pur rfl) ?_
  refine TL.yv (Wt.none rfl) rfl rfl (Yv.pur rfl) ?_
  refine TL.yv (Wt.none rfl) rfl rfl (Yv.pur rfl) ?_
  (refine TL.ew (Wt.none rfl) rfl rfl (Ew.callH rfl rfl rfl (fun w hw => works_ok xs0 ts0 cs0 _ _ _ _ (SlOf.lit mv6 xs0 (Ent.row_ok.1 (hw.get (i := 3) rfl)) rfl rfl) (SlOf.lit si2 ts0 (Ent.row_ok.1 (hw.get (i := 2) rfl)) rfl rfl) (SlOf.lit si2 cs0 (Ent.row_ok.1 (hw.get (i := 1) rfl)) rfl rfl) (by decide) (by decide) (by decide) code0)) ?_; rintro _ _ ⟨⟨v34, w34⟩, ⟨hinv34, hlen34⟩, rfl, rfl⟩)
  dsimp only [List.cons_append, List.nil_append] at hinv34 hlen34 ⊢
  obtain rfl : w34 = ws0 := WInv.unique hinv34 ws0_inv (by rw [hlen34]; rfl)
  refine TL.yv (Wt.none rfl) rfl rfl (Yv.pur rfl) ?_
  refine TL.yv (Wt.none rfl) rfl rfl (Yv.pur rfl) ?_
  refine TL.yv (Wt.none rfl) rfl rfl (Yv.pur rfl) ?_
  refine TL.yv (Wt.none rfl) rfl rfl (Yv.pur rfl) ?_
  refine TL.yv (Wt.none rfl) rfl rfl (Yv.pur rfl) ?_
  refine TL.nil ?_
  refine K.seq ?_
  refine T.seq ?_
  refine T.region ?_
  refine TL.yv (Wt.none rfl) rfl rfl (Yv.pur rfl) ?_
  refine TL.yv (Wt.none rfl) rfl rfl (Yv.pur rfl) ?_
  refine TL.yv (Wt.none rfl) rfl rfl (Yv.pur rfl) ?_
  (refine TL.ew (Wt.none rfl) rfl rfl (Ew.callH rfl rfl rfl (fun w hw => works_ok xs0 ts0 cs1 _ _ _ _ (SlOf.lit mv6 xs0 (Ent.row_ok.1 (hw.get (i := 4) rfl)) rfl rfl) (SlOf.lit si2 ts0 (Ent.row_ok.1 (hw.get (i := 3) rfl)) rfl rfl) (SlOf.lit si2 cs1 (Ent.row_ok.1 (hw.get (i := 1) rfl)) rfl rfl) (by decide) (by decide) (by decide) code1)) ?_; rintro _ _ ⟨⟨v41, w41⟩, ⟨hinv41, hlen41⟩, rfl, rfl⟩)
  dsimp only [List.cons_append, List.nil_append] at hinv41 hlen41 ⊢
  obtain rfl : w41 = ws1 := WInv.unique hinv41 ws1_inv (by rw [hlen41]; rfl)
  refine TL.yv (Wt.none rfl) rfl rfl (Yv.pur rfl) ?_
  refine TL.yv (Wt.none rfl) rfl rfl (Yv.pur rfl) ?_
  refine TL.yv (Wt.none rfl) rfl rfl (Yv.pur rfl) ?_
  refine TL.yv (Wt.none rfl) rfl rfl (Yv.pur rfl) ?_
  refine TL.yv (Wt.none rfl) rfl rfl (Yv.pur rfl) ?_
  refine TL.nil ?_
  refine K.seq ?_
  refine T.seq ?_
  refine T.region ?_
  refine TL.yv (Wt.none rfl) rfl rfl (Yv.pur rfl) ?_
  refine TL.yv (Wt.none rfl) rfl rfl (Yv.pur rfl) ?_
  refine TL.yv (Wt.none rfl) rfl rfl (Yv.pur rfl) ?_
  (refine TL.ew (Wt.none rfl) rfl rfl (Ew.callD rfl rfl rfl (fun w hw => retTo (.tuple #[.int .i64 3, .int .i64 0]) (by rw [show boundM xs0 ts0 cs0 = 3 from by decide +kernel]) (bound_ok xs0 ts0 cs0 _ _ _ _ (SlOf.lit mv6 xs0 (Ent.row_ok.1 (hw.get (i := 5) rfl)) rfl rfl) (SlOf.lit si2 ts0 (Ent.row_ok.1 (hw.get (i := 4) rfl)) rfl rfl) (SlOf.lit si2 cs0 (Ent.row_ok.1 (hw.get (i := 3) rfl)) rfl rfl) (by decide) (by decide) (by decide) code0))) ?_; rintro _ _ ⟨rfl, rfl⟩)
  refine TL.yv (Wt.none rfl) rfl rfl (Yv.pur rfl) ?_
  refine TL.yv (Wt.none rfl) rfl rfl (Yv.pur rfl) ?_
  refine TL.yv (Wt.none rfl) rfl rfl (Yv.pur rfl) ?_
  refine TL.yv (Wt.none rfl) rfl rfl (Yv.pur rfl) ?_
  refine TL.yv (Wt.none rfl) rfl rfl (Yv.pur rfl) ?_
  refine TL.nil ?_
  refine K.seq ?_
  refine T.seq ?_
  refine T.region ?_
  refine TL.yv (Wt.none rfl) rfl rfl (Yv.pur rfl) ?_
  refine TL.yv (Wt.none rfl) rfl rfl (Yv.pur rfl) ?_
  refine TL.yv (Wt.none rfl) rfl rfl (Yv.pur rfl) ?_
  (refine TL.ew (Wt.none rfl) rfl rfl (Ew.callD rfl rfl rfl (fun w hw => retTo (.tuple #[.int .i64 6, .int .i64 0]) (by rw [show boundM xs0 ts0 cs1 = 6 from by decide +kernel]) (bound_ok xs0 ts0 cs1 _ _ _ _ (SlOf.lit mv6 xs0 (Ent.row_ok.1 (hw.get (i := 5) rfl)) rfl rfl) (SlOf.lit si2 ts0 (Ent.row_ok.1 (hw.get (i := 4) rfl)) rfl rfl) (SlOf.lit si2 cs1 (Ent.row_ok.1 (hw.get (i := 2) rfl)) rfl rfl) (by decide) (by decide) (by decide) code1))) ?_; rintro _ _ ⟨rfl, rfl⟩)
  refine TL.yv (Wt.none rfl) rfl rfl (Yv.pur rfl) ?_
  refine TL.yv (Wt.none rfl) rfl rfl (Yv.pur rfl) ?_
  refine TL.yv (Wt.none rfl) rfl rfl (Yv.pur rfl) ?_
  refine TL.yv (Wt.none rfl) rfl rfl (Yv.pur rfl) ?_
  refine TL.yv (Wt.none rfl) rfl rfl (Yv.pur rfl) ?_
  refine TL.nil ?_
  refine K.seq ?_
  refine T.seq ?_
  refine T.seq ?_
  refine T.region ?_
  refine TL.yv (Wt.none rfl) rfl rfl (Yv.pur rfl) ?_
  first | refine TL.yv (Wt.none rfl) rfl rfl (Yv.pur rfl) ?_ | refine TL.yv (Wt.none rfl) rfl rfl (Yv.neB rfl rfl rfl rfl) ?_
  refine TL.yv (Wt.none rfl) rfl rfl (Yv.pur rfl) ?_
  refine TL.yv (Wt.some rfl rfl rfl rfl) rfl rfl (Yv.pur rfl) ?_
  first | refine TL.yv (Wt.some rfl rfl rfl rfl) rfl rfl (Yv.pur rfl) ?_ | refine TL.yv (Wt.some rfl rfl rfl rfl) rfl rfl (Yv.neB rfl rfl rfl rfl) ?_
  refine TL.yv (Wt.none rfl) rfl rfl (Yv.pickF rfl rfl rfl rfl) ?_
  refine TL.yv (Wt.none rfl) rfl rfl (Yv.pur rfl) ?_
  refine TL.yv (Wt.some rfl rfl rfl rfl) rfl rfl (Yv.pur rfl) ?_
  first | refine TL.yv (Wt.some rfl rfl rfl rfl) rfl rfl (Yv.pur rfl) ?_ | refine TL.yv (Wt.some rfl rfl rfl rfl) rfl rfl (Yv.neB rfl rfl rfl rfl) ?_
  refine TL.yv (Wt.none rfl) rfl rfl (Yv.pickF rfl rfl rfl rfl) ?_
  refine TL.yv (Wt.none rfl) rfl rfl (Yv.pur rfl) ?_
  refine TL.yv (Wt.some rfl rfl rfl rfl) rfl rfl (Yv.pur rfl) ?_
  first | refine TL.yv (Wt.some rfl rfl rfl rfl) rfl rfl (Yv.pur rfl) ?_ | refine TL.yv (Wt.some rfl rfl rfl rfl) rfl rfl (Yv.neB rfl rfl rfl rfl) ?_
  refine TL.yv (Wt.none rfl) rfl rfl (Yv.pickF rfl rfl rfl rfl) ?_
  refine TL.yv (Wt.none rfl) rfl rfl (Yv.pur rfl) ?_
  refine TL.yv (Wt.some rfl rfl rfl rfl) rfl rfl (Yv.pur rfl) ?_
  first | refine TL.yv (Wt.some rfl rfl rfl rfl) rfl rfl (Yv.pur rfl) ?_ | refine TL.yv (Wt.some rfl rfl rfl rfl) rfl rfl (Yv.neB rfl rfl rfl rfl) ?_
  refine TL.yv (Wt.none rfl) rfl rfl (Yv.pickF rfl rfl rfl rfl) ?_
  refine TL.yv (Wt.none rfl) rfl rfl (Yv.pur rfl) ?_
  refine TL.yv (Wt.some rfl rfl rfl rfl) rfl rfl (Yv.pur rfl) ?_
  first | refine TL.yv (Wt.some rfl rfl rfl rfl) rfl rfl (Yv.pur rfl) ?_ | refine TL.yv (Wt.some rfl rfl rfl rfl) rfl rfl (Yv.neB rfl rfl rfl rfl) ?_
  refine TL.yv (Wt.none rfl) rfl rfl (Yv.pickF rfl rfl rfl rfl) ?_
  refine TL.yv (Wt.none rfl) rfl rfl (Yv.pur rfl) ?_
  refine TL.yv (Wt.some rfl rfl rfl rfl) rfl rfl (Yv.pur rfl) ?_
  (refine TL.ew (Wt.some rfl rfl rfl rfl) rfl rfl (Ew.callD rfl rfl rfl (fun w hw => retTo (.int .i64 3) (by rw [show lenM ws0 = 3 from by decide +kernel]) (length_ret ws0 _ _ (SlOf.ownAt wk3 hw 1 rfl rfl) (by decide)))) ?_; rintro _ _ ⟨rfl, rfl⟩)
  first | refine TL.yv (Wt.some rfl rfl rfl rfl) rfl rfl (Yv.pur rfl) ?_ | refine TL.yv (Wt.some rfl rfl rfl rfl) rfl rfl (Yv.neB rfl rfl rfl rfl) ?_
  refine TL.yv (Wt.none rfl) rfl rfl (Yv.pickF rfl rfl rfl rfl) ?_
  refine TL.yv (Wt.none rfl) rfl rfl (Yv.pur rfl) ?_
  refine TL.yv (Wt.some rfl rfl rfl rfl) rfl rfl (Yv.pur rfl) ?_
  (refine TL.ew (Wt.some rfl rfl rfl rfl) rfl rfl (Ew.callD rfl rfl rfl (fun w hw => retTo (.int .i64 6) (by rw [show lenM ws1 = 6 from by decide +kernel]) (length_ret ws1 _ _ (SlOf.ownAt wk3 hw 0 rfl rfl) (by decide)))) ?_; rintro _ _ ⟨rfl, rfl⟩)
  first | refine TL.yv (Wt.some rfl rfl rfl rfl) rfl rfl (Yv.pur rfl) ?_ | refine TL.yv (Wt.some rfl rfl rfl rfl) rfl rfl (Yv.neB rfl rfl rfl rfl) ?_
  refine TL.yv (Wt.none rfl) rfl rfl (Yv.pickF rfl rfl rfl rfl) ?_
  refine TL.nil ?_
  refine K.seq ?_
  refine T.condF rfl rfl ?_
  refine T.skip ?_
  refine K.seq ?_
  refine T.seq ?_
  refine T.seq ?_
  refine T.region ?_
  refine TL.yv (Wt.none rfl) rfl rfl (Yv.pur rfl) ?_
  first | refine TL.yv (Wt.none rfl) rfl rfl (Yv.build rfl rfl) ?_ | refine TL.yv (Wt.none rfl) rfl rfl (Yv.buildAr rfl rfl) ?_
  first | refine TL.yv (Wt.none rfl) rfl rfl (Yv.build rfl rfl) ?_ | refine TL.yv (Wt.none rfl) rfl rfl (Yv.buildAr rfl rfl) ?_
  first | refine TL.yv (Wt.none rfl) rfl rfl (Yv.build rfl rfl) ?_ | refine TL.yv (Wt.none rfl) rfl rfl (Yv.buildAr rfl rfl) ?_
  (refine TL.ew (Wt.none rfl) rfl rfl (Ew.buildSlice rfl rfl rfl (by decide)) ?_; rintro _ _ ⟨g94, rfl, rfl⟩)
  (refine TL.ew (Wt.none rfl) rfl rfl (Ew.callD rfl rfl rfl (fun w hw => retTo (.bool true) (by rw [show decide (ws0 = ws0) = true from by decide +kernel]) (same_ret ws0 ws0 _ _ _ (SlOf.ownAt wk3 hw 2 rfl rfl) (SlOf.lit wk3 ws0 (Ent.row_ok.1 (hw.get (i := 0) rfl)) rfl rfl) (by decide)))) ?_; rintro _ _ ⟨rfl, rfl⟩)
  first | refine TL.yv (Wt.none rfl) rfl rfl (Yv.pur rfl) ?_ | refine TL.yv (Wt.none rfl) rfl rfl (Yv.not rfl rfl) ?_
  refine TL.yv (Wt.none rfl) rfl rfl (Yv.pur rfl) ?_
  refine TL.yv (Wt.some rfl rfl rfl rfl) rfl rfl (Yv.pur rfl) ?_
  first | refine TL.yv (Wt.some rfl rfl rfl rfl) rfl rfl (Yv.build rfl rfl) ?_ | refine TL.yv (Wt.some rfl rfl rfl rfl) rfl rfl (Yv.buildAr rfl rfl) ?_
  first | refine TL.yv (Wt.some rfl rfl rfl rfl) rfl rfl (Yv.build rfl rfl) ?_ | refine TL.yv (Wt.some rfl rfl rfl rfl) rfl rfl (Yv.buildAr rfl rfl) ?_
  first | refine TL.yv (Wt.some rfl rfl rfl rfl) rfl rfl (Yv.build rfl rfl) ?_ | refine TL.yv (Wt.some rfl rfl rfl rfl) rfl rfl (Yv.buildAr rfl rfl) ?_
  (refine TL.ew (Wt.some rfl rfl rfl rfl) rfl rfl (Ew.buildSlice rfl rfl rfl (by decide)) ?_; rintro _ _ ⟨g102, rfl, rfl⟩)
  (refine TL.ew (Wt.some rfl rfl rfl rfl) rfl rfl (Ew.callD rfl rfl rfl (fun w hw => retTo (.bool true) (by rw [show decide (ws1 = ws1) = true from by decide +kernel]) (same_ret ws1 ws1 _ _ _ (SlOf.ownAt wk3 hw 2 rfl rfl) (SlOf.lit wk3 ws1 (Ent.row_ok.1 (hw.get (i := 0) rfl)) rfl rfl) (by decide)))) ?_; rintro _ _ ⟨rfl, rfl⟩)
  first | refine TL.yv (Wt.some rfl rfl rfl rfl) rfl rfl (Yv.pur rfl) ?_ | refine TL.yv (Wt.some rfl rfl rfl rfl) rfl rfl (Yv.not rfl rfl) ?_
  refine TL.yv (Wt.none rfl) rfl rfl (Yv.pickF rfl rfl rfl rfl) ?_
  refine TL.nil ?_
  refine K.seq ?_
  refine T.condF rfl rfl ?_
  refine T.skip ?_
  refine K.seq ?_
  refine T.seq ?_
  refine T.region ?_
  refine TL.yv (Wt.none rfl) rfl rfl (Yv.pur rfl) ?_
  refine TL.yv (Wt.none rfl) rfl rfl (Yv.pur rfl) ?_
  refine TL.yv (Wt.none rfl) rfl rfl (Yv.pur rfl) ?_
  (refine TL.ew (Wt.none rfl) rfl rfl (Ew.callD rfl rfl rfl (fun w hw => retTo (.tuple #[.bool false, .int .i64 0]) (by rw [show (fitsM xs0 ts0 cs0 && decide ((xs0.length : Int) ≤ 3)) = false from by decide +kernel]) (fits_ok xs0 ts0 cs0 _ _ _ 3 _ (SlOf.lit mv6 xs0 (Ent.row_ok.1 (hw.get (i := 7) rfl)) rfl rfl) (SlOf.lit si2 ts0 (Ent.row_ok.1 (hw.get (i := 6) rfl)) rfl rfl) (SlOf.lit si2 cs0 (Ent.row_ok.1 (hw.get (i := 5) rfl)) rfl rfl) (by decide) (by decide) (by decide) (by decide +kernel)))) ?_; rintro _ _ ⟨rfl, rfl⟩)
  refine TL.yv (Wt.none rfl) rfl rfl (Yv.pur rfl) ?_
  refine TL.yv (Wt.none rfl) rfl rfl (Yv.pur rfl) ?_
  refine TL.yv (Wt.none rfl) rfl rfl (Yv.pur rfl) ?_
  refine TL.yv (Wt.none rfl) rfl rfl (Yv.pur rfl) ?_
  refine TL.yv (Wt.none rfl) rfl rfl (Yv.pur rfl) ?_
  refine TL.nil ?_
  refine K.seq ?_
  refine T.seq ?_
  refine T.draw (.still 0 (.still 1 (.still 2 (.still 3 (.still 4 (.still 5 (.still 7 (.still 8 (.eff 6 (.eff 9 (.still 10 (.still 11 (.still 12 (.still 13 (.still 14 .done))))))))))))))) _ (by kernel_rfl) (List.Sublist.refl _) ?_
  refine TS.still rfl (Wt.none rfl) rfl rfl (Yv.pur rfl) ?_
  first | refine TS.still rfl (Wt.none rfl) rfl rfl (Yv.indexSl rfl rfl rfl (show (0 : Int) = ((0 : Nat) : Int) from rfl) (by omega)) ?_ | refine TS.still rfl (Wt.none rfl) rfl rfl (Yv.indexAr rfl rfl rfl (show (0 : Int) = ((0 : Nat) : Int) from rfl) (by decide)) ?_
  first | refine TS.still rfl (Wt.none rfl) rfl rfl (Yv.loadAP 7 (m := [.int .i64 3, .int .i64 20, .int .i64 30, .int .i64 1, .int .i64 0, .int .i64 2]) rfl rfl rfl rfl rfl) ?_ | refine TS.still rfl (Wt.none rfl) rfl rfl (Yv.loadAP 8 (m := [.int .i64 3, .int .i64 20, .int .i64 30, .int .i64 1, .int .i64 0, .int .i64 2]) rfl rfl rfl rfl rfl) ?_ | refine TS.still rfl (Wt.none rfl) rfl rfl (Yv.loadAP 7 (m := [.int .i64 5, .int .i64 22, .int .i64 0, .int .i64 2, .int .i64 0, .int .i64 3]) rfl rfl rfl rfl rfl) ?_ | refine TS.still rfl (Wt.none rfl) rfl rfl (Yv.loadAP 8 (m := [.int .i64 5, .int .i64 22, .int .i64 0, .int .i64 2, .int .i64 0, .int .i64 3]) rfl rfl rfl rfl rfl) ?_ | refine TS.still rfl (Wt.none rfl) rfl rfl (Yv.loadAO 0 rfl rfl rfl rfl) ?_ | refine TS.still rfl (Wt.none rfl) rfl rfl (Yv.loadAO 1 rfl rfl rfl rfl) ?_ | refine TS.still rfl (Wt.none rfl) rfl rfl (Yv.loadAO 2 rfl rfl rfl rfl) ?_ | refine TS.still rfl (Wt.none rfl) rfl rfl (Yv.loadAO 3 rfl rfl rfl rfl) ?_ | refine TS.still rfl (Wt.none rfl) rfl rfl (Yv.loadAO 4 rfl rfl rfl rfl) ?_ | refine TS.still rfl (Wt.none rfl) rfl rfl (Yv.loadAO 5 rfl rfl rfl rfl) ?_ | refine TS.still rfl (Wt.none rfl) rfl rfl (Yv.loadAO 6 rfl rfl rfl rfl) ?_ | refine TS.still rfl (Wt.none rfl) rfl rfl (Yv.loadAO 7 rfl rfl rfl rfl) ?_ | refine TS.still rfl (Wt.none rfl) rfl rfl (Yv.loadAO 8 rfl rfl rfl rfl) ?_ | refine TS.still rfl (Wt.none rfl) rfl rfl (Yv.loadAO 9 rfl rfl rfl rfl) ?_ | refine TS.still rfl (Wt.none rfl) rfl rfl (Yv.loadAB rfl rfl (by assumption) rfl (fun h => h)) ?_
  refine TS.still rfl (Wt.none rfl) rfl rfl (Yv.pur rfl) ?_
  first | refine TS.still rfl (Wt.none rfl) rfl rfl (Yv.indexSl rfl rfl rfl (show (2 : Int) = ((2 : Nat) : Int) from rfl) (by omega)) ?_ | refine TS.still rfl (Wt.none rfl) rfl rfl (Yv.indexAr rfl rfl rfl (show (2 : Int) = ((2 : Nat) : Int) from rfl) (by decide)) ?_
  first | refine TS.still rfl (Wt.none rfl) rfl rfl (Yv.loadAP 7 (m := [.int .i64 3, .int .i64 20, .int .i64 30, .int .i64 1, .int .i64 0, .int .i64 2]) rfl rfl rfl rfl rfl) ?_ | refine TS.still rfl (Wt.none rfl) rfl rfl (Yv.loadAP 8 (m := [.int .i64 3, .int .i64 20, .int .i64 30, .int .i64 1, .int .i64 0, .int .i64 2]) rfl rfl rfl rfl rfl) ?_ | refine TS.still rfl (Wt.none rfl) rfl rfl (Yv.loadAP 7 (m := [.int .i64 5, .int .i64 22, .int .i64 0, .int .i64 2, .int .i64 0, .int .i64 3]) rfl rfl rfl rfl rfl) ?_ | refine TS.still rfl (Wt.none rfl) rfl rfl (Yv.loadAP 8 (m := [.int .i64 5, .int .i64 22, .int .i64 0, .int .i64 2, .int .i64 0, .int .i64 3]) rfl rfl rfl rfl rfl) ?_ | refine TS.still rfl (Wt.none rfl) rfl rfl (Yv.loadAO 0 rfl rfl rfl rfl) ?_ | refine TS.still rfl (Wt.none rfl) rfl rfl (Yv.loadAO 1 rfl rfl rfl rfl) ?_ | refine TS.still rfl (Wt.none rfl) rfl rfl (Yv.loadAO 2 rfl rfl rfl rfl) ?_ | refine TS.still rfl (Wt.none rfl) rfl rfl (Yv.loadAO 3 rfl rfl rfl rfl) ?_ | refine TS.still rfl (Wt.none rfl) rfl rfl (Yv.loadAO 4 rfl rfl rfl rfl) ?_ | refine TS.still rfl (Wt.none rfl) rfl rfl (Yv.loadAO 5 rfl rfl rfl rfl) ?_ | refine TS.still rfl (Wt.none rfl) rfl rfl (Yv.loadAO 6 rfl rfl rfl rfl) ?_ | refine TS.still rfl (Wt.none rfl) rfl rfl (Yv.loadAO 7 rfl rfl rfl rfl) ?_ | refine TS.still rfl (Wt.none rfl) rfl rfl (Yv.loadAO 8 rfl rfl rfl rfl) ?_ | refine TS.still rfl (Wt.none rfl) rfl rfl (Yv.loadAO 9 rfl rfl rfl rfl) ?_ | refine TS.still rfl (Wt.none rfl) rfl rfl (Yv.loadAB rfl rfl (by assumption) rfl (fun h => h)) ?_
  refine TS.still rfl (Wt.none rfl) rfl rfl (Yv.pur rfl) ?_
  refine TS.still rfl (Wt.none rfl) rfl rfl (Yv.pur rfl) ?_
  refine TS.eff ?_
  (refine TSo.ew rfl (Wt.none rfl) rfl rfl (Ew.buildSlice rfl rfl rfl (by decide)) ?_; rintro _ _ ⟨g120, rfl, rfl⟩; refine ⟨(by repeat (first | exact List.Sublist.refl _ | exact List.nil_sublist _ | refine List.Sublist.cons_cons _ ?_ | refine List.Sublist.cons _ ?_)), ?_⟩)
  refine TS.eff ?_
  (refine TSo.ew rfl (Wt.none rfl) rfl rfl (Ew.callD rfl rfl rfl (fun w hw => retTo (.tuple #[.bool true, .int .i64 0]) (by rw [show (fitsM xs2 ts0 cs0 && decide ((xs2.length : Int) ≤ 2)) = true from by decide +kernel]) (fits_ok xs2 ts0 cs0 _ _ _ 2 _ (SlOf.lit mv6 xs2 (Ent.row_ok.1 (hw.get (i := 0) rfl)) rfl rfl) (SlOf.lit si2 ts0 (Ent.row_ok.1 (hw.get (i := 7) rfl)) rfl rfl) (SlOf.lit si2 cs0 (Ent.row_ok.1 (hw.get (i := 6) rfl)) rfl rfl) (by decide) (by decide) (by decide) (by decide +kernel)))) ?_; rintro _ _ ⟨rfl, rfl⟩; refine ⟨(by repeat (first | exact List.Sublist.refl _ | exact List.nil_sublist _ | refine List.Sublist.cons_cons _ ?_ | refine List.Sublist.cons _ ?_)), ?_⟩)
  refine TS.still rfl (Wt.none rfl) rfl rfl (Yv.pur rfl) ?_
  refine TS.still rfl (Wt.none rfl) rfl rfl (Yv.pur rfl) ?_
  refine TS.still rfl (Wt.none rfl) rfl rfl (Yv.pur rfl) ?_
  refine TS.still rfl (Wt.none rfl) rfl rfl (Yv.pur rfl) ?_
  refine TS.still rfl (Wt.none rfl) rfl rfl (Yv.pur rfl) ?_
  refine TS.done ?_
  refine K.seq ?_
  refine T.seq ?_
  refine T.draw (.still 0 (.still 1 (.still 2 (.still 3 (.still 4 (.still 5 (.still 7 (.still 8 (.eff 6 (.eff 9 (.still 10 (.still 11 (.still 12 (.still 13 (.still 14 .done))))))))))))))) _ (by kernel_rfl) (List.Sublist.refl _) ?_
  refine TS.still rfl (Wt.none rfl) rfl rfl (Yv.pur rfl) ?_
  first | refine TS.still rfl (Wt.none rfl) rfl rfl (Yv.indexSl rfl rfl rfl (show (0 : Int) = ((0 : Nat) : Int) from rfl) (by omega)) ?_ | refine TS.still rfl (Wt.none rfl) rfl rfl (Yv.indexAr rfl rfl rfl (show (0 : Int) = ((0 : Nat) : Int) from rfl) (by decide)) ?_
  first | refine TS.still rfl (Wt.none rfl) rfl rfl (Yv.loadAP 7 (m := [.int .i64 3, .int .i64 20, .int .i64 30, .int .i64 1, .int .i64 0, .int .i64 2]) rfl rfl rfl rfl rfl) ?_ | refine TS.still rfl (Wt.none rfl) rfl rfl (Yv.loadAP 8 (m := [.int .i64 3, .int .i64 20, .int .i64 30, .int .i64 1, .int .i64 0, .int .i64 2]) rfl rfl rfl rfl rfl) ?_ | refine TS.still rfl (Wt.none rfl) rfl rfl (Yv.loadAP 7 (m := [.int .i64 5, .int .i64 22, .int .i64 0, .int .i64 2, .int .i64 0, .int .i64 3]) rfl rfl rfl rfl rfl) ?_ | refine TS.still rfl (Wt.none rfl) rfl rfl (Yv.loadAP 8 (m := [.int .i64 5, .int .i64 22, .int .i64 0, .int .i64 2, .int .i64 0, .int .i64 3]) rfl rfl rfl rfl rfl) ?_ | refine TS.still rfl (Wt.none rfl) rfl rfl (Yv.loadAO 0 rfl rfl rfl rfl) ?_ | refine TS.still rfl (Wt.none rfl) rfl rfl (Yv.loadAO 1 rfl rfl rfl rfl) ?_ | refine TS.still rfl (Wt.none rfl) rfl rfl (Yv.loadAO 2 rfl rfl rfl rfl) ?_ | refine TS.still rfl (Wt.none rfl) rfl rfl (Yv.loadAO 3 rfl rfl rfl rfl) ?_ | refine TS.still rfl (Wt.none rfl) rfl rfl (Yv.loadAO 4 rfl rfl rfl rfl) ?_ | refine TS.still rfl (Wt.none rfl) rfl rfl (Yv.loadAO 5 rfl rfl rfl rfl) ?_ | refine TS.still rfl (Wt.none rfl) rfl rfl (Yv.loadAO 6 rfl rfl rfl rfl) ?_ | refine TS.still rfl (Wt.none rfl) rfl rfl (Yv.loadAO 7 rfl rfl rfl rfl) ?_ | refine TS.still rfl (Wt.none rfl) rfl rfl (Yv.loadAO 8 rfl rfl rfl rfl) ?_ | refine TS.still rfl (Wt.none rfl) rfl rfl (Yv.loadAO 9 rfl rfl rfl rfl) ?_ | refine TS.still rfl (Wt.none rfl) rfl rfl (Yv.loadAO 10 rfl rfl rfl rfl) ?_ | refine TS.still rfl (Wt.none rfl) rfl rfl (Yv.loadAB rfl rfl (by assumption) rfl (fun h => h)) ?_
  refine TS.still rfl (Wt.none rfl) rfl rfl (Yv.pur rfl) ?_
  first | refine TS.still rfl (Wt.none rfl) rfl rfl (Yv.indexSl rfl rfl rfl (show (2 : Int) = ((2 : Nat) : Int) from rfl) (by omega)) ?_ | refine TS.still rfl (Wt.none rfl) rfl rfl (Yv.indexAr rfl rfl rfl (show (2 : Int) = ((2 : Nat) : Int) from rfl) (by decide)) ?_
  first | refine TS.still rfl (Wt.none rfl) rfl rfl (Yv.loadAP 7 (m := [.int .i64 3, .int .i64 20, .int .i64 30, .int .i64 1, .int .i64 0, .int .i64 2]) rfl rfl rfl rfl rfl) ?_ | refine TS.still rfl (Wt.none rfl) rfl rfl (Yv.loadAP 8 (m := [.int .i64 3, .int .i64 20, .int .i64 30, .int .i64 1, .int .i64 0, .int .i64 2]) rfl rfl rfl rfl rfl) ?_ | refine TS.still rfl (Wt.none rfl) rfl rfl (Yv.loadAP 7 (m := [.int .i64 5, .int .i64 22, .int .i64 0, .int .i64 2, .int .i64 0, .int .i64 3]) rfl rfl rfl rfl rfl) ?_ | refine TS.still rfl (Wt.none rfl) rfl rfl (Yv.loadAP 8 (m := [.int .i64 5, .int .i64 22, .int .i64 0, .int .i64 2, .int .i64 0, .int .i64 3]) rfl rfl rfl rfl rfl) ?_ | refine TS.still rfl (Wt.none rfl) rfl rfl (Yv.loadAO 0 rfl rfl rfl rfl) ?_ | refine TS.still rfl (Wt.none rfl) rfl rfl (Yv.loadAO 1 rfl rfl rfl rfl) ?_ | refine TS.still rfl (Wt.none rfl) rfl rfl (Yv.loadAO 2 rfl rfl rfl rfl) ?_ | refine TS.still rfl (Wt.none rfl) rfl rfl (Yv.loadAO 3 rfl rfl rfl rfl) ?_ | refine TS.still rfl (Wt.none rfl) rfl rfl (Yv.loadAO 4 rfl rfl rfl rfl) ?_ | refine TS.still rfl (Wt.none rfl) rfl rfl (Yv.loadAO 5 rfl rfl rfl rfl) ?_ | refine TS.still rfl (Wt.none rfl) rfl rfl (Yv.loadAO 6 rfl rfl rfl rfl) ?_ | refine TS.still rfl (Wt.none rfl) rfl rfl (Yv.loadAO 7 rfl rfl rfl rfl) ?_ | refine TS.still rfl (Wt.none rfl) rfl rfl (Yv.loadAO 8 rfl rfl rfl rfl) ?_ | refine TS.still rfl (Wt.none rfl) rfl rfl (Yv.loadAO 9 rfl rfl rfl rfl) ?_ | refine TS.still rfl (Wt.none rfl) rfl rfl (Yv.loadAO 10 rfl rfl rfl rfl) ?_ | refine TS.still rfl (Wt.none rfl) rfl rfl (Yv.loadAB rfl rfl (by assumption) rfl (fun h => h)) ?_
  refine TS.still rfl (Wt.none rfl) rfl rfl (Yv.pur rfl) ?_
  refine TS.still rfl (Wt.none rfl) rfl rfl (Yv.pur rfl) ?_
  refine TS.eff ?_
  (refine TSo.ew rfl (Wt.none rfl) rfl rfl (Ew.buildSlice rfl rfl rfl (by decide)) ?_; rintro _ _ ⟨g133, rfl, rfl⟩; refine ⟨(by repeat (first | exact List.Sublist.refl _ | exact List.nil_sublist _ | refine List.Sublist.cons_cons _ ?_ | refine List.Sublist.cons _ ?_)), ?_⟩)
  refine TS.eff ?_
  (refine TSo.ew rfl (Wt.none rfl) rfl rfl (Ew.callD rfl rfl rfl (fun w hw => retTo (.tuple #[.bool false, .int .i64 0]) (by rw [show (fitsM xs2 ts0 cs0 && decide ((xs2.length : Int) ≤ 1)) = false from by decide +kernel]) (fits_ok xs2 ts0 cs0 _ _ _ 1 _ (SlOf.lit mv6 xs2 (Ent.row_ok.1 (hw.get (i := 0) rfl)) rfl rfl) (SlOf.lit si2 ts0 (Ent.row_ok.1 (hw.get (i := 8) rfl)) rfl rfl) (SlOf.lit si2 cs0 (Ent.row_ok.1 (hw.get (i := 7) rfl)) rfl rfl) (by decide) (by decide) (by decide) (by decide +kernel)))) ?_; rintro _ _ ⟨rfl, rfl⟩; refine ⟨(by repeat (first | exact List.Sublist.refl _ | exact List.nil_sublist _ | refine List.Sublist.cons_cons _ ?_ | refine List.Sublist.cons _ ?_)), ?_⟩)
  refine TS.still rfl (Wt.none rfl) rfl rfl (Yv.pur rfl) ?_
  refine TS.still rfl (Wt.none rfl) rfl rfl (Yv.pur rfl) ?_
  refine TS.still rfl (Wt.none rfl) rfl rfl (Yv.pur rfl) ?_
  refine TS.still rfl (Wt.none rfl) rfl rfl (Yv.pur rfl) ?_
  refine TS.still rfl (Wt.none rfl) rfl rfl (Yv.pur rfl) ?_
  refine TS.done ?_
  refine K.seq ?_
  refine T.seq ?_
  refine T.region ?_
  refine TL.yv (Wt.none rfl) rfl rfl (Yv.pur rfl) ?_
  first | refine TL.yv (Wt.none rfl) rfl rfl (Yv.pur rfl) ?_ | refine TL.yv (Wt.none rfl) rfl rfl (Yv.not rfl rfl) ?_
  refine TL.yv (Wt.none rfl) rfl rfl (Yv.pur rfl) ?_
  refine TL.yv (Wt.some rfl rfl rfl rfl) rfl rfl (Yv.pur rfl) ?_
  refine TL.yv (Wt.none rfl) rfl rfl (Yv.pickT rfl rfl rfl rfl) ?_
  refine TL.yv (Wt.none rfl) rfl rfl (Yv.pur rfl) ?_
  refine TL.yv (Wt.some rfl rfl rfl rfl) rfl rfl (Yv.pur rfl) ?_
  first | refine TL.yv (Wt.some rfl rfl rfl rfl) rfl rfl (Yv.pur rfl) ?_ | refine TL.yv (Wt.some rfl rfl rfl rfl) rfl rfl (Yv.not rfl rfl) ?_
  refine TL.yv (Wt.none rfl) rfl rfl (Yv.pickT rfl rfl rfl rfl) ?_
  refine TL.yv (Wt.none rfl) rfl rfl (Yv.pur rfl) ?_
  refine TL.yv (Wt.some rfl rfl rfl rfl) rfl rfl (Yv.pur rfl) ?_
  first | refine TL.yv (Wt.some rfl rfl rfl rfl) rfl rfl (Yv.pur rfl) ?_ | refine TL.yv (Wt.some rfl rfl rfl rfl) rfl rfl (Yv.eqB rfl rfl rfl rfl) ?_
  refine TL.yv (Wt.none rfl) rfl rfl (Yv.pickT rfl rfl rfl rfl) ?_
  refine TL.yv (Wt.none rfl) rfl rfl (Yv.pur rfl) ?_
  refine TL.yv (Wt.some rfl rfl rfl rfl) rfl rfl (Yv.pur rfl) ?_
  first | refine TL.yv (Wt.some rfl rfl rfl rfl) rfl rfl (Yv.pur rfl) ?_ | refine TL.yv (Wt.some rfl rfl rfl rfl) rfl rfl (Yv.eqB rfl rfl rfl rfl) ?_
  refine TL.yv (Wt.none rfl) rfl rfl (Yv.pickT rfl rfl rfl rfl) ?_
  refine TL.yv (Wt.none rfl) rfl rfl (Yv.pur rfl) ?_
  refine TL.yv (Wt.some rfl rfl rfl rfl) rfl rfl (Yv.pur rfl) ?_
  first | refine TL.yv (Wt.some rfl rfl rfl rfl) rfl rfl (Yv.pur rfl) ?_ | refine TL.yv (Wt.some rfl rfl rfl rfl) rfl rfl (Yv.eqB rfl rfl rfl rfl) ?_
  refine TL.yv (Wt.none rfl) rfl rfl (Yv.pickT rfl rfl rfl rfl) ?_
  refine TL.yv (Wt.none rfl) rfl rfl (Yv.pur rfl) ?_
  refine TL.nil ?_
  refine K.seq ?_
  refine T.ret ?_
  refine K.ret1 rfl rfl (fun w' hw => ⟨?_, hw.isBelow⟩)
  rfl
end Go.Proofs.Ytphpmjnpjnmdmaa
