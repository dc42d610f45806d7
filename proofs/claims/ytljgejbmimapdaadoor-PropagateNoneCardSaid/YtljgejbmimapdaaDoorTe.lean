/- Regions that draw their order. -/
import Derived.Test.YtljgejbmimapdaaDoorTd
set_option linter.unusedVariables false
set_option linter.unusedSectionVars false
set_option linter.unusedSimpArgs false
namespace Go.Proofs.YtljgejbmimapdaaDoor
open Go.RowKit

/-- An order of a region's operations: those that leave the world alone come first where they may; the others come up alone, or two at a time. -/
inductive Ord where
  | done
  | still (i : Nat) (k : Ord)
  | eff (i : Nat) (k : Ord)
  | two (i j : Nat) (x y : Ord)
  | any (js : List Nat) (k : Ord)
/-- Operations that may come up in any order. -/
def ordAny (ops : Array Oper) (chk : Nat → Array Bool → Bool) : Nat → List Nat → Nat → Array Bool → Bool
  | 0, js, fuel, listed => js.isEmpty && chk fuel listed
  | m + 1, js, fuel + 1, listed => Region.ready .any ops listed == js && (!js.isEmpty && js.all fun j => ordAny ops chk m (js.erase j) fuel (listed.setIfInBounds j true))
  | _ + 1, _, 0, _ => false
def ordOK (ops : Array Oper) : Ord → Nat → Array Bool → Bool
  | .done, _, listed => Region.ready .any ops listed == []
  | .still i k, fuel + 1, listed => Region.free .any ops listed i && ((Region.ready .any ops listed).contains i && ordOK ops k fuel (listed.setIfInBounds i true))
  | .eff i k, fuel + 1, listed => Region.ready .any ops listed == [i] && ordOK ops k fuel (listed.setIfInBounds i true)
  | .two i j x y, fuel + 1, listed => Region.ready .any ops listed == [i, j] && (ordOK ops x fuel (listed.setIfInBounds i true) && ordOK ops y fuel (listed.setIfInBounds j true))
  | .any js k, fuel, listed => ordAny ops (fun f l => ordOK ops k f l) js.length js fuel listed
  | .still _ _, 0, _ => false
  | .eff _ _, 0, _ => false
  | .two _ _ _ _, 0, _ => false
/-- What a panic says does not hang on the slots. -/
class NP (Q : Exit → Act → World → Prop) : Prop where
  h : ∀ c a d v w, Q (.panic c) (Act.put a d v) w → Q (.panic c) a w
instance (P : Program) (fn : Func) (R : Ending → World → Prop) : NP (bodyQ P fn R) := ⟨fun c a d v w h => h⟩
instance (N : Act → World → Prop) (Q : Exit → Act → World → Prop) [h : NP Q] : NP (Exit.then N Q) := ⟨fun c a d v w k => h.h c a d v w k⟩
instance (id : Nat) (Q : Exit → Act → World → Prop) [h : NP Q] : NP (Exit.inBlock id Q) := ⟨fun c a d v w k => h.h c a d v w k⟩
class Mixed (P : Program) : Prop where
  h : P.follows .mixedOrders = true

section
variable (F : Fence) (P : Program) (n : Nat) (B D : World) (M : Nat → Prop) (ops : Array Oper) (Q : Exit → Act → World → Prop) (hs0 : HS)
structure TS (r : Ord) (fs : SFs) (hs : HS) : Prop where
  out : ∀ a w fuel (listed : Array Bool), Region.noSelect ops = true → noDefers ops = true → ordOK ops r fuel listed = true → Fr n fs a → Hp B M hs w → Hp B M hs0 w → Mk B D a w → wpAnyC F P .any ops Q (Hp B M hs0) fuel listed a w
structure TSo (i : Nat) (k : Ord) (fs : SFs) (hs : HS) : Prop where
  out : ∀ a w fuel (listed : Array Bool), Region.noSelect ops = true → noDefers ops = true → ordOK ops k fuel (listed.setIfInBounds i true) = true → Fr n fs a → Hp B M hs w → Hp B M hs0 w → Mk B D a w → wpOpIn F 0 P ops Q i (fun a' w' => Hp B M hs0 w' ∧ wpAnyC F P .any ops Q (Hp B M hs0) fuel (listed.setIfInBounds i true) a' w') a w
end
section
variable {F : Fence} [hF : Calm F] {P : Program} {n : Nat} {B D : World} {M : Nat → Prop} {Q : Exit → Act → World → Prop} {fs : SFs} {hs hs0 : HS} {ops : Array Oper} {o : Oper} {v : Value} {k x y : Ord} {i j : Nat} {l : List Oper}
theorem T.draw (r : Ord) (hs0 : HS) {id : Nat} {l : List Oper} [hm : Mixed P] (hok : (Region.noSelect l.toArray && noDefers l.toArray && ordOK l.toArray r l.length (Array.replicate l.length false)) = true) (hsub : hs0.Sublist hs) (h : TS F P n B D M l.toArray Q hs0 r fs hs) : T F P n B D M (.region id l.toArray true) Q fs hs :=
  ⟨fun a w ha hw hk => wpIn_region_held (S := Hp B M hs0) hm.h (by
    simp only [Bool.and_eq_true] at hok
    have hw' : Hp B M hs { w with drawn := w.drawn + 1 } := hw.same rfl rfl rfl rfl
    have := h.out a _ l.length (Array.replicate l.length false) hok.1.1 hok.1.2 hok.2 ha hw' (hw'.sub hsub) (hk.next (Kp.same rfl))
    simpa using this)⟩
theorem TS.done (h : K n B D M Q .normal fs hs) : TS F P n B D M ops Q hs0 .done fs hs :=
  ⟨fun a w fuel listed hns hnd hok ha hw _ hm => wpAnyC_done (by
    cases fuel <;> simpa [ordOK] using hok) (h.out a w ha hw hm) fuel⟩
theorem TS.stillV {d : Nat} [hnp : NP Q] (hi : ops[i]? = some o) (hd : o.dst = some d) (hb : Nat.blt d n = true) (hy : ∀ a, Fr n fs a → YieldsIf P ops (Hp B M hs0) o v a) (h : TS F P n B D M ops Q hs0 k ((d, v) :: fs) hs) : TS F P n B D M ops Q hs0 (.still i k) fs hs :=
  ⟨fun a w fuel listed hns hnd hok ha hw hw0 hm => by
    cases fuel with
    | zero => simp [ordOK] at hok
    | succ fuel =>
      simp only [ordOK, Bool.and_eq_true] at hok
      refine wpAnyC_take (v := v) hi hns hnd hok.1 hok.2.1 (fun c a w hq => hnp.h c a _ _ w hq) (hy a ha) hw0 ?_
      rw [hd]
      exact h.out _ w fuel _ hns hnd hok.2.2 (ha.put hb v) hw hw0 (hm.put _ _)⟩
theorem TS.still {d : Nat} [hnp : NP Q] (hi : ops[i]? = some o) (hwt : Wt n ops fs o true) (hd : o.dst = some d) (hb : Nat.blt d n = true) (hy : Yv P n B M fs hs0 o v) (h : TS F P n B D M ops Q hs0 k ((d, v) :: fs) hs) : TS F P n B D M ops Q hs0 (.still i k) fs hs :=
  TS.stillV hi hd hb (fun a ha => .inl ⟨hwt a ha, fun w hw => hy a w ha hw⟩) h
theorem TS.stillOff {d : Nat} [hnp : NP Q] (hi : ops[i]? = some o) (hwt : Wt n ops fs o false) (hd : o.dst = some d) (hb : Nat.blt d n = true) (h : TS F P n B D M ops Q hs0 k ((d, undef) :: fs) hs) : TS F P n B D M ops Q hs0 (.still i k) fs hs :=
  TS.stillV hi hd hb (fun a ha => .inr ⟨hwt a ha, rfl⟩) h
theorem TS.eff (h : TSo F P n B D M ops Q hs0 i k fs hs) : TS F P n B D M ops Q hs0 (.eff i k) fs hs :=
  ⟨fun a w fuel listed hns hnd hok ha hw hw0 hm => by
    cases fuel with
    | zero => simp [ordOK] at hok
    | succ fuel =>
      simp only [ordOK, Bool.and_eq_true, beq_iff_eq] at hok
      refine wpAnyC_all hok.1 (by simp) ?_
      intro q hq
      simp at hq
      subst hq
      exact h.out a w fuel listed hns hnd hok.2 ha hw hw0 hm⟩
theorem TS.two (h1 : TSo F P n B D M ops Q hs0 i x fs hs) (h2 : TSo F P n B D M ops Q hs0 j y fs hs) : TS F P n B D M ops Q hs0 (.two i j x y) fs hs :=
  ⟨fun a w fuel listed hns hnd hok ha hw hw0 hm => by
    cases fuel with
    | zero => simp [ordOK] at hok
    | succ fuel =>
      simp only [ordOK, Bool.and_eq_true, beq_iff_eq] at hok
      refine wpAnyC_all hok.1 (by simp) ?_
      intro q hq
      simp at hq
      rcases hq with rfl | rfl
      · exact h1.out a w fuel listed hns hnd hok.2.1 ha hw hw0 hm
      · exact h2.out a w fuel listed hns hnd hok.2.2 ha hw hw0 hm⟩
theorem TSo.ew {d : Nat} {Φ : Value → HS → Prop} (hi : ops[i]? = some o) (hwt : Wt n ops fs o true) (hd : o.dst = some d) (hb : Nat.blt d n = true) (h : Ew P n B M fs hs o Φ) (h2 : ∀ v hs', Φ v hs' → hs0.Sublist hs' ∧ TS F P n B D M ops Q hs0 k ((d, v) :: fs) hs') : TSo F P n B D M ops Q hs0 i k fs hs :=
  ⟨fun a w fuel listed hns hnd hok ha hw hw0 hm => by
    unfold wpOpIn
    simp only [hi, hwt a ha, if_true]
    refine h F hF Q _ a w ha hw fun v w' hs' hk hp' hΦ => ?_
    rw [hd]
    exact ⟨hp'.sub (h2 v hs' hΦ).1, (h2 v hs' hΦ).2.out _ w' fuel _ hns hnd hok (ha.put hb v) hp' (hp'.sub (h2 v hs' hΦ).1) ((hm.next hk).put _ _)⟩⟩
theorem TSo.ew0 {Φ : Value → HS → Prop} (hi : ops[i]? = some o) (hwt : Wt n ops fs o true) (hd : o.dst = none) (h : Ew P n B M fs hs o Φ) (h2 : ∀ v hs', Φ v hs' → hs0.Sublist hs' ∧ TS F P n B D M ops Q hs0 k fs hs') : TSo F P n B D M ops Q hs0 i k fs hs :=
  ⟨fun a w fuel listed hns hnd hok ha hw hw0 hm => by
    unfold wpOpIn
    simp only [hi, hwt a ha, if_true]
    refine h F hF Q _ a w ha hw fun v w' hs' hk hp' hΦ => ?_
    rw [hd]
    exact ⟨hp'.sub (h2 v hs' hΦ).1, (h2 v hs' hΦ).2.out _ w' fuel _ hns hnd hok (ha.put_none v) hp' (hp'.sub (h2 v hs' hΦ).1) ((hm.next hk).put _ _)⟩⟩
theorem TSo.yv {d : Nat} (hi : ops[i]? = some o) (hwt : Wt n ops fs o true) (hd : o.dst = some d) (hb : Nat.blt d n = true) (hy : Yv P n B M fs hs o v) (h2 : hs0.Sublist hs) (h : TS F P n B D M ops Q hs0 k ((d, v) :: fs) hs) : TSo F P n B D M ops Q hs0 i k fs hs :=
  TSo.ew hi hwt hd hb (Ew.yv hy) (by rintro _ _ ⟨rfl, rfl⟩; exact ⟨h2, h⟩)
theorem TSo.off {d : Nat} (hi : ops[i]? = some o) (hwt : Wt n ops fs o false) (hd : o.dst = some d) (hb : Nat.blt d n = true) (h : TS F P n B D M ops Q hs0 k ((d, undef) :: fs) hs) : TSo F P n B D M ops Q hs0 i k fs hs :=
  ⟨fun a w fuel listed hns hnd hok ha hw hw0 hm => by
    unfold wpOpIn
    simp only [hi, hwt a ha, Bool.false_eq_true, if_false]
    rw [hd]
    exact ⟨fun f _ => hF.fn f, hw0, h.out _ w fuel _ hns hnd hok (ha.put hb undef) hw hw0 (hm.put _ _)⟩⟩
theorem TSo.off0 (hi : ops[i]? = some o) (hwt : Wt n ops fs o false) (hd : o.dst = none) (h : TS F P n B D M ops Q hs0 k fs hs) : TSo F P n B D M ops Q hs0 i k fs hs :=
  ⟨fun a w fuel listed hns hnd hok ha hw hw0 hm => by
    unfold wpOpIn
    simp only [hi, hwt a ha, Bool.false_eq_true, if_false]
    rw [hd]
    exact ⟨fun f _ => hF.fn f, hw0, h.out _ w fuel _ hns hnd hok (ha.put_none undef) hw hw0 (hm.put _ _)⟩⟩
theorem TS.split (b : Bool) (h1 : b = true → TS F P n B D M ops Q hs0 k fs hs) (h2 : b = false → TS F P n B D M ops Q hs0 k fs hs) : TS F P n B D M ops Q hs0 k fs hs := by
  cases b
  · exact h2 rfl
  · exact h1 rfl
theorem TL.gsplit {rest : List Oper} {d : Nat} {want b : Bool} (hg : o.guard = some (j, want)) (hd : (ops[j]?).bind (·.dst) = some d) (hl : look fs d = some (.bool b)) (h1 : b = true → TL F P n B D M ops Q (o :: rest) fs hs) (h2 : b = false → TL F P n B D M ops Q (o :: rest) fs hs) : TL F P n B D M ops Q (o :: rest) fs hs := TL.split b h1 h2
theorem TS.gsplit {d : Nat} {want b : Bool} (hi : ops[i]? = some o) (hg : o.guard = some (j, want)) (hd : (ops[j]?).bind (·.dst) = some d) (hl : look fs d = some (.bool b)) (h1 : b = true → TS F P n B D M ops Q hs0 (.still i k) fs hs) (h2 : b = false → TS F P n B D M ops Q hs0 (.still i k) fs hs) : TS F P n B D M ops Q hs0 (.still i k) fs hs := TS.split b h1 h2
theorem TSo.gsplit {d : Nat} {want b : Bool} (hi : ops[i]? = some o) (hg : o.guard = some (j, want)) (hd : (ops[j]?).bind (·.dst) = some d) (hl : look fs d = some (.bool b)) (h1 : b = true → TSo F P n B D M ops Q hs0 i k fs hs) (h2 : b = false → TSo F P n B D M ops Q hs0 i k fs hs) : TSo F P n B D M ops Q hs0 i k fs hs := by
  cases b
  · exact h2 rfl
  · exact h1 rfl
end
end Go.Proofs.YtljgejbmimapdaaDoor
