/- Data: slices that are read, results in memory, contracts that make memory, comparisons of structs. -/
import Derived.Test.YtljgejbmimapdaaDoorTe
set_option linter.unusedVariables false
set_option linter.unusedSectionVars false
set_option linter.unusedSimpArgs false
namespace Go.Proofs.YtljgejbmimapdaaDoor
open Go.RowKit

section
variable {F : Fence} [hF : Calm F] {P : Program} {n : Nat} {B D : World} {M : Nat → Prop} {Q : Exit → Act → World → Prop} {fs : SFs} {hs : HS} {ops : Array Oper} {rest : List Oper} {o : Oper} {v : Value}
/-- What a call has made comes in front. -/
theorem Hp.comp {w w' : World} {es : HS} (h : Hp B M hs w) (k : Hp w (fun _ => False) es w') : Hp B M (es ++ hs) w' :=
  Hp.go (es := []) (es' := es) (S := fun _ => False) h k.only (fun _ _ h => h.elim) k.own (fun e he g hg => (k.new e he g hg).elim (fun h => h.elim) .inr) k.apart
theorem Hp.of_below {w w' : World} (h : Below w.heap.size w w') : Hp w (fun _ => False) [] w' := (Hp.refl w _).below h
theorem Ew.callH {ι : Type} {φ : ι → Prop} {val : ι → Value} {es : ι → HS} {c : Operand} {xs : Array Operand} {ts : Array TypeId} {f : FuncId} {vs : List Value} [hE : Enters P f] (ho : o.op = .call { callee := .value c, args := xs, argTypes := ts }) (hc : ev fs c = some (.func (.func f) #[] #[])) (hv : evs fs xs.toList = some vs)
    (C : ∀ w, Hp B M hs w → Calls P f vs.toArray w (fun e w' => ∃ x, φ x ∧ e = .returned (val x) ∧ Hp w (fun _ => False) (es x) w')) : Ew P n B M fs hs o (fun v' hs' => ∃ x, φ x ∧ v' = val x ∧ hs' = es x ++ hs) :=
  Ew.callX ho hc hv fun w hp => (C w hp).mono fun e w' ⟨x, hx, he, hk⟩ => ⟨val x, es x ++ hs, he, Kp.only hk.only (fun _ h => h.elim), hp.comp hk, x, hx, rfl, rfl⟩

theorem Ew.callF0 {c : Operand} {xs : Array Operand} {ts : Array TypeId} {f : FuncId} {caps : Array Value} [hE : Enters P f] (ho : o.op = .call { callee := .value c, args := xs, argTypes := ts }) (hc : ev fs c = some (.func (.func f) #[] caps)) (hv : evs fs xs.toList = some [])
    (C : ∀ w, Hp B M hs w → Calls P f caps w (fun e w' => e = .returned v ∧ Below w.heap.size w w')) : Ew P n B M fs hs o (fun v' hs' => v' = v ∧ hs' = hs) :=
  Ew.callA ho hc hv fun w hp => by
    have := C w hp
    simpa using this
theorem Ew.callF1 {c : Operand} {xs : Array Operand} {ts : Array TypeId} {f : FuncId} {caps : Array Value} {x : Value} [hE : Enters P f] (ho : o.op = .call { callee := .value c, args := xs, argTypes := ts }) (hc : ev fs c = some (.func (.func f) #[] caps)) (hv : evs fs xs.toList = some [x])
    (C : ∀ w, Hp B M hs w → Calls P f (x :: caps.toList).toArray w (fun e w' => e = .returned v ∧ Below w.heap.size w w')) : Ew P n B M fs hs o (fun v' hs' => v' = v ∧ hs' = hs) :=
  Ew.callA ho hc hv fun w hp => by
    have := C w hp
    simpa using this
theorem Yv.loadC {t : TypeId} [hT : TyS P t] {g q p j : Nat} {l : List Value} {x : Operand} (ho : o.op = .load t x) (hx : ev fs x = some (.pointer (some ⟨g, q, none⟩))) (hc : Cs B g p l) (hq : q = p + j) (hv : l[j]? = some v) (hM : ¬ M g) : Yv P n B M fs hs o v := by
  subst hq
  exact Yv.loadB ho hx ((hc j (List.getElem?_eq_some_iff.1 hv).1).trans hv) hM
theorem Yv.max2 {x y : Operand} {ts : Array TypeId} {k : IntKind} {a b : Int} (ho : o.op = .call { callee := .builtin .max, args := #[x, y], argTypes := ts }) (hx : ev fs x = some (.int k a)) (hy : ev fs y = some (.int k b)) : Yv P n B M fs hs o (.int k (max a b)) := fun f w ha _ => by
  unfold execOp
  simp [ho, ha.ev hx, ha.ev hy, resolve, invoke, builtin, Builtin.max_, Builtin.max2]
  split <;> omega
theorem Yv.min2 {x y : Operand} {ts : Array TypeId} {k : IntKind} {a b : Int} (ho : o.op = .call { callee := .builtin .min, args := #[x, y], argTypes := ts }) (hx : ev fs x = some (.int k a)) (hy : ev fs y = some (.int k b)) : Yv P n B M fs hs o (.int k (min a b)) := fun f w ha _ => by
  unfold execOp
  simp [ho, ha.ev hx, ha.ev hy, resolve, invoke, builtin, Builtin.min_, Builtin.min2]
  split <;> omega
theorem Yv.max4 {x y z u : Operand} {ts : Array TypeId} {k : IntKind} {a b c d : Int} (ho : o.op = .call { callee := .builtin .max, args := #[x, y, z, u], argTypes := ts }) (hx : ev fs x = some (.int k a)) (hy : ev fs y = some (.int k b)) (hz : ev fs z = some (.int k c)) (hu : ev fs u = some (.int k d)) : Yv P n B M fs hs o (.int k (max (max (max a b) c) d)) := fun f w ha _ => by
  have e : ∀ p q : Int, (if q > p then q else p) = max p q := fun p q => by split <;> omega
  unfold execOp
  simp [ho, ha.ev hx, ha.ev hy, ha.ev hz, ha.ev hu, resolve, invoke, builtin, Builtin.max_, Builtin.max2, ← e]
theorem Yv.lenAr {t e k c : Nat} {x : Operand} [hT : TyAr P t c e k] (ho : o.op = .call { callee := .builtin .len, args := #[x], argTypes := #[t] }) : Yv P n B M fs hs o (.int .i64 (c : Int)) := fun a w ha _ => by
  have h := hT.h
  unfold tyArr at h
  split at h
  · rename_i cc el hU
    cases hi' : P.info? el with
    | none => rw [hi'] at h; cases h
    | some inf =>
      rw [hi'] at h
      cases h
      unfold execOp
      simp [ho, resolve, invoke, builtin, Builtin.len_, underlying, hU, goInt]
  · cases h
/-- An element of an array by value: an aggregate. -/
theorem Yv.indexV {t e k c i : Nat} {z : Int} {q : IntKind} {x y : Operand} {l m : List Value} [hT : TyAr P t c e k] [hE : TyA P e k] (ho : o.op = .index t x y) (hx : ev fs x = some (.agg l.toArray)) (hy : ev fs y = some (.int q z)) (hz : z = (i : Int)) (hi : i < c) (hm : (l.drop (i * k)).take k = m) : Yv P n B M fs hs o (.agg m.toArray) := fun a w ha _ => by
  have h := hT.h
  unfold tyArr at h
  split at h
  · rename_i cc el hU
    cases hi' : P.info? el with
    | none => rw [hi'] at h; cases h
    | some inf =>
      rw [hi'] at h
      cases h
      subst hz
      subst hm
      unfold execOp
      have e1 := tyAgg_run (P := P) hE.h w
      simp [ho, ha.ev hx, ha.ev hy, Instr.index, asIntOf, underlying, hU, hi, sizeOf, typeInfo, hi', part, e1.1]
  · cases h
theorem Yv.indexS {t e c i : Nat} {z : Int} {q : IntKind} {x y : Operand} {l : List Value} [hT : TyAr P t c e 1] [hE : TyS P e] (ho : o.op = .index t x y) (hx : ev fs x = some (.agg l.toArray)) (hy : ev fs y = some (.int q z)) (hz : z = (i : Int)) (hi : i < c) (hv : l[i]? = some v) : Yv P n B M fs hs o v := fun a w ha _ => by
  have h := hT.h
  unfold tyArr at h
  split at h
  · rename_i cc el hU
    cases hi' : P.info? el with
    | none => rw [hi'] at h; cases h
    | some inf =>
      rw [hi'] at h
      simp at h
      obtain ⟨rfl, rfl, h1⟩ := h
      subst hz
      unfold execOp
      have e1 := tyAgg_run (P := P) hE.h w
      simp [ho, ha.ev hx, ha.ev hy, Instr.index, asIntOf, underlying, hU, hi, sizeOf, typeInfo, hi', part, e1.1, h1, hv]
  · cases h
/-- An array literal. -/
theorem Yv.buildAr {t e k c : TypeId} {ps : Array (Nat × Operand)} {vs : List (Nat × Value)} {z l : List Value} [hT : TyAr P t c e k] [hZ : TyZ P t z] (ho : o.op = .build t ps) (hv : evPs fs ps.toList = some vs) [hF : Fill (sPlace k) z vs l] : Yv P n B M fs hs o (.agg l.toArray) := fun a w ha _ => by
  have h := hT.h
  unfold tyArr at h
  split at h
  · rename_i cc el hU
    cases hi' : P.info? el with
    | none => rw [hi'] at h; cases h
    | some inf =>
      rw [hi'] at h
      cases h
      have hz := hZ.h
      unfold tyZero at hz
      cases hi : P.info? t with
      | none => rw [hi] at hz; cases hz
      | some i =>
        rw [hi] at hz
        cases hz' : i.zero with
        | none => simp [hz'] at hz
        | some zv =>
          simp [hz'] at hz
          have hps : ps.map (fun (p : Nat × Operand) => (p.1, a.eval p.2)) = vs.toArray := by
            apply Array.ext'
            rw [Array.toList_map]
            exact ha.evPs hv
          have e1 : (ps.map fun (x : Nat × Operand) => match x with | (i, x) => (i, a.eval x)) = vs.toArray := hps
          have hfill := hF.h
          have e2 : (fun j => some (j * inf.size, inf.size)) = sPlace inf.size := rfl
          unfold execOp
          simp only [ho, Instr.build, zeroValue, typeInfo, underlying, sizeOf]
          simp only [e1, Sem.run_bind, run_program, Result.andThen_ok, hi, Sem.run_pure, hz', hU, hz, hi', e2, hfill]
  · cases h

/-! ### Results that lie in memory -/
theorem loadVar_row {w : World} {t u : TypeId} {k g : Nat} [hT : TyA P t k] {l : List Value} (h : w.heap[g]? = some (.cells l.toArray u (0, 0))) (hl : l.length = k) : (loadVar t ⟨g, 0, none⟩).run P w = .ok (.agg l.toArray) w := by
  subst hl
  have h1 := (tyAgg_run (P := P) hT.h w)
  have h2 := run_loadCells (P := P) (Cs.of_row (p := 0) (m := l) h (by simp)) l.length 0 #[] (by omega)
  simp [loadVar, h1.1, h1.2, loadCells, h2]
theorem loadVar_cell {w : World} {t u : TypeId} {g : Nat} [hT : TyS P t] {l : List Value} (h : w.heap[g]? = some (.cells l.toArray u (0, 0))) (hl : l[0]? = some v) : (loadVar t ⟨g, 0, none⟩).run P w = .ok v w := by
  have h1 := (tyAgg_run (P := P) hT.h w)
  have h2 : w.cell? ⟨g, 0, none⟩ = some v := by rw [row_cell h]; exact hl
  simp [loadVar, h1.1, h2]
theorem K.retC (i : Nat) {fn : Func} {R : Ending → World → Prop} {t u : TypeId} {s g k : Nat} {l : List Value} [hT : TyA P t k] (hr : fn.results = #[.cell s t]) (hv : look fs s = some (.pointer (some ⟨g, 0, none⟩))) (hi : hs[i]? = some (.row g u l)) (hl : l.length = k) (h : ∀ w, Hp B M hs w → R (.returned (.agg l.toArray)) w) : K n B D M (bodyQ P fn R) .ret fs hs :=
  (K.leave (fun a w ha hw => by
    have h1 := loadVar_row (P := P) (t := t) (Ent.row_ok.1 (hw.get hi)) hl
    simp [results, hr, ha.get s _ hv, asAddr, h1]) h).1
theorem K.retS (i : Nat) {fn : Func} {R : Ending → World → Prop} {t u : TypeId} {s g : Nat} {l : List Value} [hT : TyS P t] (hr : fn.results = #[.cell s t]) (hv : look fs s = some (.pointer (some ⟨g, 0, none⟩))) (hi : hs[i]? = some (.row g u l)) (hl : l[0]? = some v) (h : ∀ w, Hp B M hs w → R (.returned v) w) : K n B D M (bodyQ P fn R) .ret fs hs :=
  (K.leave (fun a w ha hw => by
    have h1 := loadVar_cell (P := P) (t := t) (Ent.row_ok.1 (hw.get hi)) hl
    simp [results, hr, ha.get s _ hv, asAddr, h1]) h).1
theorem K.retCT (i : Nat) {fn : Func} {R : Ending → World → Prop} {t u : TypeId} {s r g k : Nat} {l : List Value} {x : Value} [hT : TyA P t k] (hr : fn.results = #[.cell s t, .tmp r]) (hv : look fs s = some (.pointer (some ⟨g, 0, none⟩))) (hx : look fs r = some x) (hi : hs[i]? = some (.row g u l)) (hl : l.length = k) (h : ∀ w, Hp B M hs w → R (.returned (.tuple #[.agg l.toArray, x])) w) : K n B D M (bodyQ P fn R) .ret fs hs :=
  (K.leave (fun a w ha hw => by
    have h1 := loadVar_row (P := P) (t := t) (Ent.row_ok.1 (hw.get hi)) hl
    simp [results, hr, ha.get s _ hv, ha.get r _ hx, asAddr, h1]) h).1

/-! ### Slices that are read -/
/-- The slice v reads as these elements, each of size cells. -/
def SlOf {α : Type} (w : World) (v : Value) (enc : α → List Value) (size : Nat) (xs : List α) : Prop :=
  ∃ (A : Option Addr) (cap : Nat), v = .slice A xs.length cap ∧ (0 < xs.length → ∃ g off, A = some ⟨g, off, none⟩ ∧ ∀ i (h : i < xs.length), Cs w g (off + i * size) (enc xs[i]))
theorem Cs.lt {w : World} {g p : Nat} {l : List Value} (h : Cs w g p l) (hl : 0 < l.length) : g < w.heap.size := by
  have := h 0 hl
  rw [List.getElem?_eq_getElem hl] at this
  exact cell_lt this
theorem SlOf.kept {α : Type} {w : World} {enc : α → List Value} {size : Nat} {xs : List α} (hw : Hp B (fun _ => False) hs w) (h : SlOf B v enc size xs) : SlOf w v enc size xs := by
  obtain ⟨A, cap, rfl, hc⟩ := h
  refine ⟨A, cap, rfl, fun hl => ?_⟩
  obtain ⟨g, off, rfl, hcs⟩ := hc hl
  exact ⟨g, off, rfl, fun i hi => (hcs i hi).kept hw (fun h => h)⟩
theorem SlOf.keptM {α : Type} {w : World} {enc : α → List Value} {size : Nat} {xs : List α} (hw : Hp B M hs w) (h : SlOf B v enc size xs) (hM : ∀ g, v.ownBlock = some g → ¬ M g) : SlOf w v enc size xs := by
  obtain ⟨A, cap, rfl, hc⟩ := h
  refine ⟨A, cap, rfl, fun hl => ?_⟩
  obtain ⟨g, off, rfl, hcs⟩ := hc hl
  exact ⟨g, off, rfl, fun i hi => (hcs i hi).kept hw (hM g rfl)⟩
/-- The element at an index. -/
def nth {α : Type} [Inhabited α] (xs : List α) (k : Nat) : α := xs.getD k default
theorem nth_eq {α : Type} [Inhabited α] {xs : List α} {k : Nat} (h : k < xs.length) : nth xs k = xs[k] := by
  simp [nth, h]
theorem SlOf.op {α : Type} [Inhabited α] {w : World} {enc : α → List Value} {size : Nat} {xs : List α} (h : SlOf w v enc size xs) :
    ∃ (A : Option Addr) (cap : Nat), v = .slice A xs.length cap ∧ (0 < xs.length → ∃ g off, A = some ⟨g, off, none⟩ ∧ ∀ i, i < xs.length → Cs w g (off + i * size) (enc (nth xs i))) := by
  obtain ⟨A, cap, rfl, hc⟩ := h
  refine ⟨A, cap, rfl, fun hl => ?_⟩
  obtain ⟨g, off, rfl, hcs⟩ := hc hl
  exact ⟨g, off, rfl, fun i hi => by
    have := hcs i hi
    rwa [nth_eq hi]⟩
theorem range_true {f : Nat → Bool} {n : Nat} (h : ∀ j, j < n → f j = true) : (List.range n).all f = true := by
  simpa using h
theorem range_false {f : Nat → Bool} {n : Nat} (k : Nat) (hk : k < n) (h : f k = false) : (List.range n).all f = false := by
  rw [List.all_eq_false]
  exact ⟨k, by simpa using hk, by rw [h]; simp⟩
theorem range_end {f : Nat → Bool} {n k : Nat} (h : ∀ j, j < k → f j = true) (hk : n ≤ k) : (List.range n).all f = true := range_true fun j hj => h j (by omega)
theorem upto_succ {p : Nat → Prop} {k : Nat} (h : ∀ j, j < k → p j) (hk : p k) : ∀ j, j < k + 1 → p j := fun j hj => by
  rcases Nat.lt_or_ge j k with h1 | h1
  · exact h j h1
  · have : j = k := by omega
    subst this
    exact hk
theorem flat_get {α : Type} (enc : α → List Value) (size : Nat) (he : ∀ x, (enc x).length = size) : ∀ (xs : List α) (i : Nat) (h : i < xs.length) (j : Nat), j < size → (xs.flatMap enc)[i * size + j]? = (enc xs[i])[j]?
  | x :: r, 0, _, j, hj => by
    simp only [List.flatMap_cons, Nat.zero_mul, Nat.zero_add, List.getElem_cons_zero]
    rw [List.getElem?_append_left (by rw [he]; exact hj)]
  | x :: r, i + 1, h, j, hj => by
    simp only [List.flatMap_cons, List.getElem_cons_succ]
    rw [List.getElem?_append_right (by rw [he, Nat.add_mul]; omega), he]
    have e : (i + 1) * size + j - size = i * size + j := by rw [Nat.add_mul]; omega
    rw [e]
    exact flat_get enc size he r i (by simpa using h) j hj
theorem flat_len {α : Type} (enc : α → List Value) (size : Nat) (he : ∀ x, (enc x).length = size) (xs : List α) : (xs.flatMap enc).length = xs.length * size := by
  induction xs with
  | nil => simp
  | cons x r ih => rw [List.flatMap_cons, List.length_append, ih, he, List.length_cons, Nat.add_mul]; omega
/-- A slice that the call owns reads as its elements. -/
theorem SlOf.own {α : Type} {w : World} {enc : α → List Value} {size : Nat} (he : ∀ x, (enc x).length = size) {e : TypeId} {k : Nat} {xs : List α} (h : w.ownsRow 0 e size v k (xs.flatMap enc)) (hk : k = xs.length) : SlOf w v enc size xs := by
  subst hk
  rcases h.2 with ⟨rfl, h0⟩ | ⟨g, cap, cur, rfl, hb, hg, r⟩
  · exact ⟨none, 0, by rw [h0], fun hl => by omega⟩
  · refine ⟨_, cap, rfl, fun _ => ⟨g, 0, rfl, fun i hi j hj => ?_⟩⟩
    rw [he] at hj
    have hlt : i * size + j < xs.length * size := by
      have : (i + 1) * size ≤ xs.length * size := Nat.mul_le_mul_right _ hi
      rw [Nat.add_mul] at this
      omega
    rw [Nat.zero_add, World.ownsRow.cellAt h _ hlt, flat_get enc size he xs i hi j hj]
theorem SlOf.ownAt {α : Type} {w : World} {enc : α → List Value} {size : Nat} (he : ∀ x, (enc x).length = size) {e : TypeId} {k : Nat} {xs : List α} (hw : Hp B M hs w) (i : Nat) (hi : hs[i]? = some (.sl v e size k (xs.flatMap enc))) (hk : k = xs.length) : SlOf w v enc size xs := SlOf.own he (Ent.sl_ok.1 (hw.get hi)) hk
/-- A slice literal reads as its elements. -/
theorem SlOf.lit {α : Type} {w : World} {enc : α → List Value} {size : Nat} (he : ∀ x, (enc x).length = size) {g : Nat} {t : TypeId} {l : List Value} (xs : List α) (h : w.heap[g]? = some (.cells l.toArray t (0, 0))) (hl : l = xs.flatMap enc) {k c : Nat} (hk : k = xs.length) : SlOf w (.slice (some ⟨g, 0, none⟩) k c) enc size xs := by
  subst hk hl
  refine ⟨_, c, rfl, fun _ => ⟨g, 0, rfl, fun i hi j hj => ?_⟩⟩
  rw [he] at hj
  rw [Nat.zero_add, row_cell h, flat_get enc size he xs i hi j hj]
end
end Go.Proofs.YtljgejbmimapdaaDoor
