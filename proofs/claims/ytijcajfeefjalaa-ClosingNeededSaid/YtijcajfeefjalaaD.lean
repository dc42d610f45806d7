/- A drawn region whose calls only make memory: one walk in the order of the text. The walk of the law ClosingNeeded. -/
import Derived.Test.YtijcajfeefjalaaC
namespace Go.Proofs.Ytijcajfeefjalaa
open Go.ChangeShapes Go.WideShapes Go.ChangeAt Go.RowKit
set_option maxHeartbeats 400000

/-- The worlds that differ from w only above block N. -/
def BelowT (N : Nat) (w : World) : Type := { w' : World // Below N w w' }
instance (N : Nat) (w : World) : Nonempty (BelowT N w) := ⟨⟨w, Below.refl _ _⟩⟩
theorem wp_region_below {P : Program} (N : Nat) {id : Nat} {Q : Exit → Act → World → Prop} {a : Act} {w : World} {l : List Oper} (hm : P.follows .mixedOrders = true) (hB : Region.lexB .any l.toArray = true)
    (h : wpQuiet P l.toArray (fun w' => ∃ u : BelowT N w, w' = u.1) (fun a' => ∀ w', (∃ u : BelowT N w, w' = u.1) → Q .normal a' w') l a) : (Code.region id l.toArray true).wp P Q a w :=
  wp_region_quiet (C := fun w' => ∃ u : BelowT N w, w' = u.1) hm hB ⟨⟨w.drew, (Below.refl _ _).drew⟩, rfl⟩ (by simpa using h)
theorem quiet_below {P : Program} {N : Nat} {w : World} {f : FuncId} {args : Array Value} {v : Value} (u : BelowT N w) (hN : N ≤ w.heap.size)
    (h : ∀ w1, Calls P f args w1 fun e w' => e = .returned v ∧ Below w1.heap.size w1 w') : Calls P f args u.1 fun e w'' => e = .returned v ∧ ∃ m : BelowT N w, w'' = m.1 :=
  (h u.1).mono fun _ w' ⟨he, hb⟩ => ⟨he, ⟨w', u.2.trans (hb.mono (by have := u.2.size; omega))⟩, rfl⟩

set_option maxRecDepth 100000 in
theorem needed_walk (f b c u : Int) (w : World) :
    Calls Try.prog 3 #[.agg #[.int .i64 f, .int .i64 b], .int .i64 c, .int .i64 u] w fun e w' => e = .returned (.bool true) ∧ Below w.heap.size w w' := by
  go_enter Try.func3, Try.ntmps3
  go_wp2_with fail
  refine (needed_any _ _ _ _ _).mono ?_
  rintro e w1 ⟨rfl, hb⟩
  have b1 := Boxed.next (Boxed.first w f b) hb
  have c0 := b1.c0
  have c1 := b1.c1
  clear hb
  go_wp2_with fail
  clear c0 c1
  refine (refNeeded_any _ _ _ _ _).mono ?_
  rintro e w2 ⟨rfl, hb⟩
  have b2 := Boxed.next b1 hb
  clear b1 hb
  go_wp2_with fail
  have hc0 : ∀ u : BelowT w2.heap.size w2, u.1.cell? ⟨w.heap.size, 0, none⟩ = some (.int .i64 f) := fun u => by rw [u.2.cell (p := ⟨w.heap.size, 0, none⟩) b2.size]; exact b2.c0
  have hc1 : ∀ u : BelowT w2.heap.size w2, u.1.cell? ⟨w.heap.size, 1, none⟩ = some (.int .i64 b) := fun u => by rw [u.2.cell (p := ⟨w.heap.size, 1, none⟩) b2.size]; exact b2.c1
  refine wp_region_below w2.heap.size (by kernel_rfl) (by kernel_rfl) ?_
  repeat (first | go_big_quiet_step ((first | (go_at_call 9; exact quiet_below _ (Nat.le_refl _) (fun _ => validTerms_any _ _ _)) | (go_at_call 10; exact quiet_below _ (Nat.le_refl _) (fun _ => refTerms_any _ _ _)) | (go_at_call 11; exact quiet_below _ (Nat.le_refl _) (fun _ => known_any _)))))
  refine wpQuiet_nil ?_
  rintro _ ⟨u3, rfl⟩
  go_wp2
  go_ret
  exact ⟨rfl, b2.below.trans (u3.2.mono (Nat.le_of_lt b2.size))⟩

/-! ### The general step from a walk to the row: the arguments are read back as they were -/
theorem trodAll_below {H : Type} {enc : TypeId × Value → H} {P : Program} (hl : laidOutB P = true) {W W' : World} (hb : Below W.heap.size W W') :
    ∀ {ts : List TypeId} {vs : List Value} {ds : List (DataW H)} {p : List MemPlace}, (ts.all fun t => P.readableRec t && decide (t < P.types.size)) = true →
      DataW.TrodAll enc P W 0 (fun _ => true) true ts vs ds p → (∀ x ∈ p, x.block < W.heap.size) → DataW.TrodAll enc P W' 0 (fun b => decide (b < W.heap.size)) true ts vs ds p
  | [], [], [], _, _, h, _ => h
  | [], _ :: _, _, _, _, h, _ => by cases h
  | [], [], _ :: _, _, _, h, _ => by cases h
  | _ :: _, [], _, _, _, h, _ => by cases h
  | _ :: _, _ :: _, [], _, _, h, _ => by cases h
  | t :: ts, v :: vs, d :: ds, ps, ht, h, hlt => by
    obtain ⟨p, q, h1, h2, rfl⟩ := h
    simp only [List.all_cons, Bool.and_eq_true, decide_eq_true_eq] at ht
    exact ⟨p, q, Below.trod hl ht.1.1 ht.1.2 h1 hb (fun x hx => hlt x (by simp [hx])), trodAll_below hl hb (by simpa using ht.2) h2 (fun x hx => hlt x (by simp [hx])), rfl⟩

theorem law_post {H : Type} {enc : TypeId × Value → H} {P : Program} {f : Func} {s : ChangeSpec} {tb : TypeId} {W W' : World} {args : Array Value} {ds gs : List (DataW H)} {before : List MemPlace}
    (hl : laidOutB P = true) (hr : f.resultTypes = #[tb]) (hb : P.underlying tb = some .bool) (hts : (f.params.toList.all fun t => P.readableRec t && decide (t < P.types.size)) = true)
    (hv : s.vars = []) (hs : (s.fn H (ds ++ gs)).results = [.lit (.bool true)]) (ha : (s.fn H (ds ++ gs)).args = ds) (hvs : (s.fn H (ds ++ gs)).vars = [])
    (hW : DataW.Whole enc P f.params.toList s.vars false W args.toList ds gs before) (hB : Below W.heap.size W W') : s.post enc P f false true false false W args (.bool true) W' := by
  have hlt : ∀ x ∈ before, x.block < W.heap.size := fun x hx => by simpa using hW.lt x hx
  obtain ⟨p, q, hA, hV, e, hz, hn⟩ := hW
  rw [hv] at hV
  have hW : DataW.Whole enc P f.params.toList s.vars false W args.toList ds gs before := ⟨p, q, hA, by rw [hv]; exact hV, e, hz, hn⟩
  have hq : q = [] := by cases gs with
    | nil => exact hV
    | cons _ _ => exact hV.elim
  subst hq
  refine ⟨ds, gs, before, [], p, [], hW, ?_, ?_, ?_, hB.frame _, fun h => by cases h⟩
  · rw [hs, hr]
    exact trodAll_mk1 (shut_bool hb _)
  · rw [ha]
    exact trodAll_below hl hB hts hA (fun x hx => hlt x (by rw [e]; simp [hx]))
  · rw [hv, hvs]; rfl

theorem own : ownKnob Try.prog.godebug = none := by kernel_rfl
theorem laid : laidOutB Try.prog = true := by kernel_rfl
end Go.Proofs.Ytijcajfeefjalaa
