/- Works: comparison; which weeks are used; the first free week. -/
import Derived.Test.YtphpmjnpjnmdmaaK2
set_option maxRecDepth 100000
set_option maxHeartbeats 4000000
set_option linter.unusedSimpArgs false
set_option linter.unusedVariables false
set_option linter.unusedSectionVars false
namespace Go.Proofs.Ytphpmjnpjnmdmaa
open Go.RowKit
theorem stood51 : Try.prog.stoodInHeld 51 = false := by kernel_rfl
theorem eqg51 : Try.prog.eqGuardType Try.prog.depth 51 = false := by kernel_rfl
theorem pt0 (a b c : Int) (w : World) : (part 3 #[.int .i64 a, .int .i64 b, .int .i64 c] 0).run Try.prog w = .ok (.int .i64 a) w := by kernel_rfl
theorem pt1 (a b c : Int) (w : World) : (part 3 #[.int .i64 a, .int .i64 b, .int .i64 c] 1).run Try.prog w = .ok (.int .i64 b) w := by kernel_rfl
theorem pt2 (a b c : Int) (w : World) : (part 3 #[.int .i64 a, .int .i64 b, .int .i64 c] 2).run Try.prog w = .ok (.int .i64 c) w := by kernel_rfl
theorem equal_work (x y : Wk) (w : World) : (Op.equal 51 (.agg x.cells.toArray) (.agg y.cells.toArray)).run Try.prog w = .ok (decide (x = y)) w := by
  obtain ⟨a, b, c⟩ := x
  obtain ⟨a', b', c'⟩ := y
  have e3 : ∀ (i j : Int) w, (Op.equalIn 9999 3 (.int .i64 i) (.int .i64 j)).run Try.prog w = .ok (i == j) w := fun i j => eq3 i j 9998
  unfold Op.equal Wk.cells
  rw [show Op.maxDepth = 9998 + 1 + 1 from rfl]
  unfold Op.equalIn
  simp [underlying, Try.underlying51, stood51, pt0, pt1, pt2, e3]
  by_cases h1 : a = a' <;> by_cases h2 : b = b' <;> by_cases h3 : c = c' <;> simp [h1, h2, h3]
section
variable {n : Nat} {B : World} {M : Nat → Prop} {fs : SFs} {hs : HS} {o : Oper}
theorem Yv.neW {x y : Operand} {u : TypeId} {a b : Wk} (ho : o.op = .binOp .neq 51 x y u) (hx : ev fs x = some (.agg a.cells.toArray)) (hy : ev fs y = some (.agg b.cells.toArray)) : Yv Try.prog n B M fs hs o (.bool (!decide (a = b))) := fun f w ha _ => by
  have he := equal_work a b w
  unfold execOp
  have hg : (eqGuard .neq 51 x y (.agg a.cells.toArray) (.agg b.cells.toArray)).run Try.prog w = .ok () w := by
    simp [eqGuard, eqg51]
  simp only [ho, ha.ev hx, ha.ev hy, Sem.run_bind, hg, Result.andThen_ok]
  simp only [binOp, Sem.run_bind, he, Result.andThen_ok, Sem.run_pure]
end

/-- How many of the first n works are in a week at a place. -/
def usedN (xs : List Mv) (ws : List Wk) (week : Int) (q : Pl) : Nat → Int
  | 0 => 0
  | n + 1 => usedN xs ws week q n + if (plOf (nth xs n) (if q.1 = true then 1 else 0)).2 = q.2 ∧ (nth ws n).start ≤ week ∧ week < (nth ws n).fin then 1 else 0
theorem usedN_le (xs : List Mv) (ws : List Wk) (week : Int) (q : Pl) : ∀ n, 0 ≤ usedN xs ws week q n ∧ usedN xs ws week q n ≤ n
  | 0 => by simp [usedN]
  | n + 1 => by have := usedN_le xs ws week q n; rw [usedN]; split <;> omega
theorem usedN_congr {xs : List Mv} {ws ws' : List Wk} (week : Int) (q : Pl) : ∀ n, (∀ j, j < n → nth ws j = nth ws' j) → usedN xs ws week q n = usedN xs ws' week q n
  | 0, _ => rfl
  | n + 1, h => by rw [usedN, usedN, usedN_congr week q n (fun j hj => h j (by omega)), h n (by omega)]
theorem usedN_zero {xs : List Mv} {ws : List Wk} {week : Int} {q : Pl} : ∀ n, (∀ j, j < n → (nth ws j).fin ≤ week) → usedN xs ws week q n = 0
  | 0, _ => rfl
  | n + 1, h => by
    have := h n (by omega)
    rw [usedN, usedN_zero n (fun j hj => h j (by omega)), if_neg (by omega)]; rfl
/-- Both places of move i are free in a week, after the first i works. -/
def freeW (xs : List Mv) (ws : List Wk) (ts cs : List Si) (i : Nat) (week : Int) : Bool :=
  !(decide (capOf ts (nth xs i).tw ≤ usedN xs ws week (false, (nth xs i).tw) i) || decide (capOf cs (nth xs i).cr ≤ usedN xs ws week (true, (nth xs i).cr) i))
def freeR (f : Int → Bool) (s : Int) (n : Nat) : Bool := (List.range n).all fun d => f (s + d)
/-- s is the first start of n free weeks. -/
structure IsFirst (f : Int → Bool) (n : Nat) (s : Int) : Prop where
  ge : 0 ≤ s
  free : freeR f s n = true
  least : ∀ r, 0 ≤ r → r < s → freeR f r n = false
theorem IsFirst.unique {f : Int → Bool} {n : Nat} {s t : Int} (h : IsFirst f n s) (k : IsFirst f n t) : s = t := by
  rcases (by omega : s < t ∨ s = t ∨ t < s) with e | e | e
  · have := k.least s h.ge e; rw [h.free] at this; cases this
  · exact e
  · have := h.least t k.ge e; rw [k.free] at this; cases this
structure WInv (xs : List Mv) (ts cs : List Si) (ws : List Wk) : Prop where
  st : ∀ j, j < ws.length → (nth ws j).st = (nth xs j).st
  fin : ∀ j, j < ws.length → (nth ws j).fin = (nth ws j).start + (nth xs j).wk
  first : ∀ j, j < ws.length → IsFirst (freeW xs ws ts cs j) (nth xs j).wk.toNat (nth ws j).start
  bnd : ∀ j, j < ws.length → (nth ws j).fin ≤ 52 * (j + 1)
theorem nth_append_left {α : Type} [Inhabited α] {xs ys : List α} {k : Nat} (h : k < xs.length) : nth (xs ++ ys) k = nth xs k := by
  simp [nth, List.getElem?_append_left h]
theorem nth_append_end {α : Type} [Inhabited α] (xs : List α) (x : α) : nth (xs ++ [x]) xs.length = x := by
  simp [nth]
theorem freeW_congr {xs : List Mv} {ws ws' : List Wk} {ts cs : List Si} {i : Nat} (h : ∀ j, j < i → nth ws j = nth ws' j) : freeW xs ws ts cs i = freeW xs ws' ts cs i := by
  funext week
  unfold freeW
  rw [usedN_congr week _ i h, usedN_congr week _ i h]
theorem WInv.nil (xs : List Mv) (ts cs : List Si) : WInv xs ts cs [] := ⟨fun j hj => by simp at hj, fun j hj => by simp at hj, fun j hj => by simp at hj, fun j hj => by simp at hj⟩
theorem WInv.free_end {xs : List Mv} {ts cs : List Si} {ws : List Wk} (h : WInv xs ts cs ws) {week : Int} (hw : 52 * (ws.length : Int) ≤ week) (hc1 : 1 ≤ capOf ts (nth xs ws.length).tw) (hc2 : 1 ≤ capOf cs (nth xs ws.length).cr) : freeW xs ws ts cs ws.length week = true := by
  have hz : ∀ q, usedN xs ws week q ws.length = 0 := fun q => usedN_zero _ fun j hj => by have := h.bnd j hj; omega
  unfold freeW
  rw [hz, hz]
  simp
  omega
theorem WInv.start_le {xs : List Mv} {ts cs : List Si} {ws : List Wk} (h : WInv xs ts cs ws) {s : Int} {n : Nat} (hf : ∀ r, 0 ≤ r → r < s → freeR (freeW xs ws ts cs ws.length) r n = false) (hc1 : 1 ≤ capOf ts (nth xs ws.length).tw) (hc2 : 1 ≤ capOf cs (nth xs ws.length).cr) : s ≤ 52 * (ws.length : Int) := by
  rcases (by omega : s ≤ 52 * (ws.length : Int) ∨ 52 * (ws.length : Int) < s) with e | e
  · exact e
  · have h1 := hf (52 * (ws.length : Int)) (by omega) e
    have h2 : freeR (freeW xs ws ts cs ws.length) (52 * (ws.length : Int)) n = true := range_true fun d _ => h.free_end (by omega) hc1 hc2
    rw [h1] at h2; cases h2
theorem WInv.add {xs : List Mv} {ts cs : List Si} {ws : List Wk} (h : WInv xs ts cs ws) {s : Int} (hs : IsFirst (freeW xs ws ts cs ws.length) (nth xs ws.length).wk.toNat s) (hwk : 1 ≤ (nth xs ws.length).wk ∧ (nth xs ws.length).wk ≤ 52) (hb : s ≤ 52 * (ws.length : Int)) :
    WInv xs ts cs (ws ++ [⟨(nth xs ws.length).st, s, s + (nth xs ws.length).wk⟩]) := by
  have hc : ∀ i, i ≤ ws.length → freeW xs (ws ++ [⟨(nth xs ws.length).st, s, s + (nth xs ws.length).wk⟩]) ts cs i = freeW xs ws ts cs i := fun i hi => freeW_congr fun j hj => nth_append_left (by omega)
  refine ⟨fun j hj => ?_, fun j hj => ?_, fun j hj => ?_, fun j hj => ?_⟩
  all_goals
    simp at hj
    rcases (by omega : j < ws.length ∨ j = ws.length) with e | e
  · rw [nth_append_left e]; exact h.st j e
  · subst e; rw [nth_append_end]
  · rw [nth_append_left e]; exact h.fin j e
  · subst e; rw [nth_append_end]
  · rw [nth_append_left e, hc j (by omega)]; exact h.first j e
  · subst e; rw [nth_append_end, hc ws.length (by omega)]; exact hs
  · rw [nth_append_left e]; exact h.bnd j e
  · subst e; rw [nth_append_end]; simp; omega
theorem WInv.unique {xs : List Mv} {ts cs : List Si} {ws ws' : List Wk} (h : WInv xs ts cs ws) (h' : WInv xs ts cs ws') (hl : ws.length = ws'.length) : ws = ws' := by
  have key : ∀ n, n ≤ ws.length → ∀ j, j < n → nth ws j = nth ws' j := by
    intro n
    induction n with
    | zero => intro _ j hj; omega
    | succ n ih =>
      intro hn j hj
      rcases (by omega : j < n ∨ j = n) with e | e
      · exact ih (by omega) j e
      · subst e
        have e1 := h.first j (by omega)
        have e2 := h'.first j (by omega)
        rw [freeW_congr (ih (by omega))] at e1
        have e3 := e1.unique e2
        have f1 := h.fin j (by omega)
        have f2 := h'.fin j (by omega)
        have s1 := h.st j (by omega)
        have s2 := h'.st j (by omega)
        cases hx : nth ws j with
        | mk a b c =>
          cases hy : nth ws' j with
          | mk a' b' c' =>
            rw [hx] at e3 f1 s1
            rw [hy] at e3 f2 s2
            simp at e3 f1 f2 s1 s2
            subst e3 f1 f2 s1 s2
            rfl
  apply List.ext_getElem hl
  intro j h1 h2
  have := key ws.length (Nat.le_refl _) j h1
  rwa [nth_eq h1, nth_eq h2] at this
end Go.Proofs.Ytphpmjnpjnmdmaa
