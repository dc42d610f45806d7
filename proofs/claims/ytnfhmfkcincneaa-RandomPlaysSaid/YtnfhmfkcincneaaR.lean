/- A loop over an iterator function: the law of the statement, the contract of an iterator, a function that leaves with marks. -/
import Derived.Test.YtnfhmfkcincneaaH
import Derived.RangeFuncSeq
import Derived.RangeFuncRecord
import Derived.RangeFuncLeaves
import Derived.RangeFuncCalls
namespace Go.Proofs.Ytnfhmfkcincneaa
open Go.ChangeShapes Go.WideShapes Go.ChangeAt Go.RowKit

section
variable {P : Program}

theorem Only.putObj {S : Nat → Prop} {a w : World} (h : Only S a w) {r : Nat} (hr : S r ∨ a.heap.size ≤ r) (o : Obj) : Only S a (w.putObj r o) :=
  ⟨h.os, h.tape, h.output, by rw [World.putObj_size]; exact h.size, fun k hk hn => by
    rw [World.putObj_heap_other (by rintro rfl; rcases hr with hr | hr; exact hn hr; omega)]; exact h.block k hk hn⟩

/-- A function whose body holds loops over iterator functions. -/
theorem calls_of_wp_marks {f : FuncId} {fn : Func} {c : Code} {args : Array Value} {w : World} {R : Ending → World → Prop} (hf : P.funcs[f]? = some fn) (hb : fn.body = some c)
    (h : c.wp P (bodyPostM Fence.wide 0 P fn R) { tmps := args ++ Array.replicate (fn.ntmps - args.size) undef, defers := [] } w) : Calls P f args w R :=
  callsIn_wide.1 (callsIn_of_wp_marks (F := Fence.wide) (n := 0) hf hb trivial (wpIn_wide.2 h))

/-- A contract serves in a round. -/
theorem calls_round {n l : Nat} {f : FuncId} {args : Array Value} {w : World} {R : Ending → World → Prop} (h : Calls P f args w R) : CallsIn (Fence.wide.inRound l) n P f args w R :=
  CallsIn.inRound l (callsIn_wide.2 h)

/-- What an iterator function gf, with what it captured, does at whatever yield: it hands over some elements one by one. C: the blocks that are the loop's own. -/
def Seq {α : Type} (P : Program) (gf : FuncId) (lb : Array Value) (encs : α → Array Value) (S Sp : List α → Prop) (C : Nat → Prop) (W : World) : Prop :=
  ∀ (l : Nat) (J Jx : (Nat → Prop) → List α → World → Prop),
    (∀ C pre A B T, J C pre A → Only T A B → (∀ k, T k → ¬ C k) → J C pre B) →
    (∀ C pre A B T, Jx C pre A → Only T A B → (∀ k, T k → ¬ C k) → Jx C pre B) →
    (∀ C pre x W1, J C pre W1 → YieldAt Fence.wide 0 P l (encs x) W1 fun e W' => ∃ C', Only C W1 W' ∧ (∀ k, C' k → C k ∨ W1.heap.size ≤ k) ∧
      ((e = .returned (.bool true) ∧ J C' (pre ++ [x]) W') ∨ (e = .returned (.bool false) ∧ Jx C' (pre ++ [x]) W'))) →
    J C [] W →
    CallsIn Fence.wide 0 P gf (#[.func (.yield l) #[] #[]] ++ lb) W fun e W' => (∃ v, e = .returned v) ∧ ∃ C', (∃ xs, S xs ∧ J C' xs W') ∨ (∃ pre, Sp pre ∧ Jx C' pre W')

/-- How the body of a round may be left. -/
def roundEnd {α : Type} (I : (Nat → Prop) → List α → World → Prop) (Ix : Code → (Nat → Prop) → List α → World → Prop) (C : Nat → Prop) (xs : List α) (W : World) : Exit → Act → World → Prop
  | .normal, _, W' => ∃ C', Only C W W' ∧ (∀ k, C' k → C k ∨ W.heap.size ≤ k) ∧ I C' xs W'
  | .ret, _, W' => ∃ C', Only C W W' ∧ (∀ k, C' k → C k ∨ W.heap.size ≤ k) ∧ Ix .ret C' xs W'
  | .exit id, _, W' => ∃ C', Only C W W' ∧ (∀ k, C' k → C k ∨ W.heap.size ≤ k) ∧ Ix (.exit id) C' xs W'
  | .goto t, _, W' => ∃ C', Only C W W' ∧ (∀ k, C' k → C k ∨ W.heap.size ≤ k) ∧ Ix (.goto t) C' xs W'
  | .panic _, _, _ => False
  | .outgrown, _, _ => False

theorem wp_rangeFunc {α : Type} {g : Operand} {ps : Array Tmp} {assign body : Code} {Q : Exit → Act → World → Prop} {a : Act} {w : World} {gf : FuncId} {lb : Array Value}
    (hg : a.eval g = .func (.func gf) #[] lb) (eg : ∀ args w, (callFunc gf args).run P w = .ok (.enter gf args) w)
    {encs : α → Array Value} {S Sp : List α → Prop} (C0 : Nat → Prop) (hC0 : ∀ k, C0 k → k < w.heap.size)
    (hseq : ∀ o, Seq P gf lb encs S Sp (fun k => C0 k ∨ k = w.heap.size ∨ k = w.heap.size + 1) ((w.alloc (.deferred (some []))).alloc o)) (hps : ∀ x, (encs x).size = ps.size)
    (I : (Nat → Prop) → List α → World → Prop) (Ix : Code → (Nat → Prop) → List α → World → Prop)
    (hI : ∀ C pre A B T, I C pre A → Only T A B → (∀ k, T k → ¬ C k) → I C pre B)
    (hIx : ∀ c C pre A B T, Ix c C pre A → Only T A B → (∀ k, T k → ¬ C k) → Ix c C pre B)
    (h0 : I C0 [] w) (a₁ : α → Act)
    (hassign : ∀ (x : α) (W : World) (K : Act → World → Prop), K (a₁ x) W →
      assign.wpIn (Fence.wide.inRound (w.heap.size + 1)) 0 P (Exit.then K (fun _ _ _ => False)) { tmps := (ps.zip (encs x)).foldl (fun t (p, v) => t.setIfInBounds p v) a.tmps, defers := [] } W)
    (hbody : ∀ (C : Nat → Prop) (pre : List α) (x : α) (W : World), I C pre W → body.wpIn (Fence.wide.inRound (w.heap.size + 1)) 0 P (roundEnd I Ix C (pre ++ [x]) W) (a₁ x) W)
    (hdone : ∀ (C : Nat → Prop) (xs : List α) (W : World), S xs → I C xs W → W.heap[w.heap.size]? = some (.deferred (some [])) → (∀ k, C k → k ≠ w.heap.size) → Q .normal { a with defers := { target := .collected w.heap.size, args := #[] } :: a.defers } W)
    (hstop : ∀ (c : Code) (C : Nat → Prop) (pre : List α) (W : World), Sp pre → Ix c C pre W → W.heap[w.heap.size]? = some (.deferred (some [])) → (∀ k, C k → k ≠ w.heap.size) → c.wp P Q { a with defers := { target := .collected w.heap.size, args := #[] } :: a.defers } W) :
    (Code.rangeFunc g ps assign body).wp P Q a w := by
  refine wpIn_wide.1 (wpIn_rangeFunc (F := Fence.wide) (n := 0) ?_)
  intro fn hfn
  obtain ⟨rec, hrec⟩ : ∃ rec : LoopState → Option Code → Loop, rec = fun st pe => { state := st, pending := pe, fn, tmps := a.tmps, params := ps, assign, body, defers := w.heap.size } := ⟨_, rfl⟩
  obtain ⟨W1, hW1⟩ : ∃ W1, (w.alloc (.deferred (some []))).alloc (.loop (rec .ready none)) = W1 := ⟨_, rfl⟩
  have hL1 : W1.heap[w.heap.size + 1]? = some (.loop (rec .ready none)) := by
    rw [← hW1]; have := World.alloc_heap_new (w.alloc (.deferred (some []))) (.loop (rec .ready none)); rwa [World.size_alloc] at this
  have hK1 : W1.heap[w.heap.size]? = some (.deferred (some [])) := by
    rw [← hW1]; exact (Below.heap_alloc _ _ _ (by simp)).trans (World.alloc_heap_new w _)
  have hI1 : I C0 [] W1 := by rw [← hW1]; exact hI _ _ _ _ (fun _ => False) h0 (((Only.refl _ w).alloc _).alloc _) (fun _ h => h.elim)
  have hs := hseq (.loop (rec .ready none))
  rw [hW1] at hs
  refine ⟨w.heap.size + 1, [{ target := .collected w.heap.size, args := #[] }], W1, { target := .fn (.func gf) lb, args := #[.func (.yield (w.heap.size + 1)) #[] #[]] }, W1, gf,
    #[.func (.yield (w.heap.size + 1)) #[] #[]] ++ lb, W1, ?_, ?_, ?_, ?_, ?_, ?_⟩
  · rw [← hW1, hrec]; exact run_enterLoop_outer _ _ _ _ _
  · simp only [resolve, hg]
    simp [go_sem]
  · exact fun _ _ => trivial
  · simp [invoke, go_sem, eg]
  · intro h; cases h
  · refine (hs (w.heap.size + 1)
      (fun C pre W => ∃ C1, (∀ k, C k ↔ C1 k ∨ k = w.heap.size ∨ k = w.heap.size + 1) ∧ (∀ k, C1 k → k ≠ w.heap.size ∧ k ≠ w.heap.size + 1) ∧ I C1 pre W ∧ W.heap[w.heap.size + 1]? = some (.loop (rec .ready none)) ∧ W.heap[w.heap.size]? = some (.deferred (some [])))
      (fun C pre W => ∃ c C1, (∀ k, C k ↔ C1 k ∨ k = w.heap.size ∨ k = w.heap.size + 1) ∧ (∀ k, C1 k → k ≠ w.heap.size ∧ k ≠ w.heap.size + 1) ∧ Ix c C1 pre W ∧ W.heap[w.heap.size + 1]? = some (.loop (rec .done (some c))) ∧ W.heap[w.heap.size]? = some (.deferred (some [])))
      ?_ ?_ ?_ ⟨C0, fun _ => Iff.rfl, fun k hk => by have := hC0 k hk; omega, hI1, hL1, hK1⟩).mono ?_
    · rintro C pre A B T ⟨C1, hC, hne, hi, hl, hk⟩ hO hT
      have ht : ∀ k, k = w.heap.size ∨ k = w.heap.size + 1 → ¬ T k := fun k e h => hT k h ((hC k).2 (.inr e))
      exact ⟨C1, hC, hne, hI _ _ _ _ _ hi hO (fun k h hc => hT k h ((hC k).2 (.inl hc))), (hO.block _ (Array.getElem?_eq_some_iff.1 hl).1 (ht _ (.inr rfl))).trans hl, (hO.block _ (Array.getElem?_eq_some_iff.1 hk).1 (ht _ (.inl rfl))).trans hk⟩
    · rintro C pre A B T ⟨c, C1, hC, hne, hi, hl, hk⟩ hO hT
      have ht : ∀ k, k = w.heap.size ∨ k = w.heap.size + 1 → ¬ T k := fun k e h => hT k h ((hC k).2 (.inr e))
      exact ⟨c, C1, hC, hne, hIx _ _ _ _ _ _ hi hO (fun k h hc => hT k h ((hC k).2 (.inl hc))), (hO.block _ (Array.getElem?_eq_some_iff.1 hl).1 (ht _ (.inr rfl))).trans hl, (hO.block _ (Array.getElem?_eq_some_iff.1 hk).1 (ht _ (.inl rfl))).trans hk⟩
    · rintro C pre x W ⟨C1, hC, hne, hi, hl, hk⟩
      have hlt : w.heap.size + 1 < W.heap.size := (Array.getElem?_eq_some_iff.1 hl).1
      have hy := run_yield (P := P) (args := encs x) hl (by rw [hrec]; exact hps x)
      rw [hrec] at hy
      refine ⟨fn, _, assign, body, hy, roundIn_of_wpIn hfn (hassign x W _ ⟨_, run_beginRound hl (by rw [hrec]), ?_⟩)⟩
      obtain ⟨W2, hW2⟩ : ∃ W2, W.putObj (w.heap.size + 1) (.loop { rec .ready none with state := .busy }) = W2 := ⟨_, rfl⟩
      rw [hW2]
      have hl2 : W2.heap[w.heap.size + 1]? = some (.loop { rec .ready none with state := .busy }) := by rw [← hW2]; exact World.putObj_heap_same hlt
      have hk2 : W2.heap[w.heap.size]? = some (.deferred (some [])) := by rw [← hW2]; exact (World.putObj_heap_other (by omega)).trans hk
      have hO2 : Only (fun k => k = w.heap.size + 1) W W2 := by rw [← hW2]; exact (Only.refl (fun k => k = w.heap.size + 1) W).putObj (Or.inl rfl) _
      have hz2 : W2.heap.size = W.heap.size := by rw [← hW2]; simp
      have hi2 : I C1 pre W2 := hI _ _ _ _ _ hi hO2 (fun k h hc => (hne k hc).2 h)
      refine wpIn_mono (hbody C1 pre x W2 hi2) ?_
      have fin : ∀ (jump : Option Code) (W3 : World) (C2 : Nat → Prop), Only C1 W2 W3 → (∀ k, C2 k → C1 k ∨ W2.heap.size ≤ k) →
          (Instr.endRound (w.heap.size + 1) jump).run P W3 = .ok (.bool jump.isNone) (W3.putObj (w.heap.size + 1) (.loop (rec (if jump.isNone then .ready else .done) jump))) ∧
          (∀ k, C2 k → k ≠ w.heap.size ∧ k ≠ w.heap.size + 1) ∧
          (W3.putObj (w.heap.size + 1) (.loop (rec (if jump.isNone then .ready else .done) jump))).heap[w.heap.size + 1]? = some (.loop (rec (if jump.isNone then .ready else .done) jump)) ∧
          (W3.putObj (w.heap.size + 1) (.loop (rec (if jump.isNone then .ready else .done) jump))).heap[w.heap.size]? = some (.deferred (some [])) ∧
          Only C W (W3.putObj (w.heap.size + 1) (.loop (rec (if jump.isNone then .ready else .done) jump))) := fun jump W3 C2 hO3 hg2 => by
        have hl3 : W3.heap[w.heap.size + 1]? = some (.loop { rec .ready none with state := .busy }) := (hO3.block _ (by omega) (fun h => (hne _ h).2 rfl)).trans hl2
        have hk3 : W3.heap[w.heap.size]? = some (.deferred (some [])) := (hO3.block _ (by omega) (fun h => (hne _ h).1 rfl)).trans hk2
        have := run_endRound (P := P) jump hl3
        rw [hrec] at this ⊢
        refine ⟨this, fun k h => ?_, World.putObj_heap_same (Array.getElem?_eq_some_iff.1 hl3).1, (World.putObj_heap_other (by omega)).trans hk3, ?_⟩
        · rcases hg2 k h with h | h
          · exact hne k h
          · omega
        · refine ((hO2.mono fun k _ h => (hC k).2 (.inr (.inr h))).trans (hO3.mono fun k _ h => (hC k).2 (.inl h))).putObj (.inl ((hC _).2 (.inr (.inr rfl)))) _
      have stay : ∀ (C2 : Nat → Prop) (o : Obj) (W3 : World), (∀ k, C2 k → k ≠ w.heap.size ∧ k ≠ w.heap.size + 1) → Only (fun k => k = w.heap.size + 1) W3 (W3.putObj (w.heap.size + 1) o) ∧ (∀ k, k = w.heap.size + 1 → ¬ C2 k) :=
        fun C2 o W3 h => ⟨(Only.refl (fun k => k = w.heap.size + 1) W3).putObj (Or.inl rfl) _, fun k e hc => (h k hc).2 e⟩
      have grow : ∀ (C2 : Nat → Prop), (∀ k, C2 k → C1 k ∨ W2.heap.size ≤ k) → ∀ k, (C2 k ∨ k = w.heap.size ∨ k = w.heap.size + 1) → C k ∨ W.heap.size ≤ k := fun C2 hg2 k h => by
        rcases h with h | h
        · rcases hg2 k h with h | h
          · exact .inl ((hC k).2 (.inl h))
          · exact .inr (by omega)
        · exact .inl ((hC k).2 (.inr h))
      rintro e a3 W3 hp
      cases e with
      | normal =>
        obtain ⟨C2, hO3, hg2, hi3⟩ := hp
        obtain ⟨hr, hne2, hl4, hk4, hO4⟩ := fin none W3 C2 hO3 hg2
        obtain ⟨s1, s2⟩ := stay C2 (.loop (rec (if (none : Option Code).isNone then .ready else .done) none)) W3 hne2
        exact ⟨_, _, hr, _, hO4, grow C2 hg2, .inl ⟨rfl, C2, fun _ => Iff.rfl, hne2, hI _ _ _ _ _ hi3 s1 s2, hl4, hk4⟩⟩
      | ret =>
        obtain ⟨C2, hO3, hg2, hi3⟩ := hp
        obtain ⟨hr, hne2, hl4, hk4, hO4⟩ := fin (some .ret) W3 C2 hO3 hg2
        obtain ⟨s1, s2⟩ := stay C2 (.loop (rec (if (some Code.ret).isNone then .ready else .done) (some .ret))) W3 hne2
        exact ⟨_, _, hr, _, hO4, grow C2 hg2, .inr ⟨rfl, .ret, C2, fun _ => Iff.rfl, hne2, hIx _ _ _ _ _ _ hi3 s1 s2, hl4, hk4⟩⟩
      | exit id =>
        obtain ⟨C2, hO3, hg2, hi3⟩ := hp
        obtain ⟨hr, hne2, hl4, hk4, hO4⟩ := fin (some (.exit id)) W3 C2 hO3 hg2
        obtain ⟨s1, s2⟩ := stay C2 (.loop (rec (if (some (Code.exit id)).isNone then .ready else .done) (some (.exit id)))) W3 hne2
        exact ⟨_, _, hr, _, hO4, grow C2 hg2, .inr ⟨rfl, .exit id, C2, fun _ => Iff.rfl, hne2, hIx _ _ _ _ _ _ hi3 s1 s2, hl4, hk4⟩⟩
      | goto t =>
        obtain ⟨C2, hO3, hg2, hi3⟩ := hp
        obtain ⟨hr, hne2, hl4, hk4, hO4⟩ := fin (some (.goto t)) W3 C2 hO3 hg2
        obtain ⟨s1, s2⟩ := stay C2 (.loop (rec (if (some (Code.goto t)).isNone then .ready else .done) (some (.goto t)))) W3 hne2
        exact ⟨_, _, hr, _, hO4, grow C2 hg2, .inr ⟨rfl, .goto t, C2, fun _ => Iff.rfl, hne2, hIx _ _ _ _ _ _ hi3 s1 s2, hl4, hk4⟩⟩
      | panic ch => exact hp.elim
      | outgrown => exact hp.elim
    · rintro e W2 ⟨⟨v, rfl⟩, C, (⟨xs, hS, C1, hC, hne, hi, hl, hk⟩ | ⟨pre, hSp, c, C1, hC, hne, hi, hl, hk⟩)⟩
      · have he := run_endLoop (P := P) hl (by rw [hrec]; simp)
        rw [hrec] at he
        refine ⟨none, _, he, ?_⟩
        exact hdone C1 xs _ hS (hI _ _ _ _ _ hi ((Only.refl (fun k => k = w.heap.size + 1) W2).putObj (Or.inl rfl) _) (fun k e hc => (hne k hc).2 e)) ((World.putObj_heap_other (by omega)).trans hk) (fun k h => (hne k h).1)
      · have he := run_endLoop (P := P) hl (by rw [hrec]; simp)
        rw [hrec] at he
        refine ⟨some c, _, he, wpIn_wide.2 ?_⟩
        exact hstop c C1 pre _ hSp (hIx _ _ _ _ _ _ hi ((Only.refl (fun k => k = w.heap.size + 1) W2).putObj (Or.inl rfl) _) (fun k e hc => (hne k hc).2 e)) ((World.putObj_heap_other (by omega)).trans hk) (fun k h => (hne k h).1)

theorem enters {f : FuncId} {fn : Func} {c : Code} (hf : P.funcs[f]? = some fn) (hname : (fn.name == "runtime.NumGoroutine") = false) (hb : fn.body = some c) (args : Array Value) (w : World) :
    (callFunc f args).run P w = .ok (.enter f args) w := by
  have h1 : fn.name ≠ "runtime.NumGoroutine" := by simpa using hname
  simp [callFunc, hf, h1, hb, mark]
end
end Go.Proofs.Ytnfhmfkcincneaa
