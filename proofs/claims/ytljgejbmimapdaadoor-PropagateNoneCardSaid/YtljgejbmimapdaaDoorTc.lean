/- Operations that make or write memory; calls. -/
import Derived.Test.YtljgejbmimapdaaDoorTb
import Derived.Laws.OwnMore
import Derived.Maps.AppendAt
set_option linter.unusedVariables false
set_option linter.unusedSectionVars false
set_option linter.unusedSimpArgs false
namespace Go.Proofs.YtljgejbmimapdaaDoor
open Go.RowKit

/-! ### Small computations by class resolution -/
class SetAt {α : Type} (l : List α) (i : Nat) (v : α) (l' : outParam (List α)) : Prop where
  h : l.set i v = l'
instance (priority := low) SetAt.any {α : Type} (l : List α) (i : Nat) (v : α) : SetAt l i v (l.set i v) := ⟨rfl⟩
instance SetAt.zero {α : Type} (x v : α) (r : List α) : SetAt (x :: r) 0 v (v :: r) := ⟨rfl⟩
instance SetAt.succ {α : Type} (x v : α) (r r' : List α) (i : Nat) [h : SetAt r i v r'] : SetAt (x :: r) (i + 1) v (x :: r') := ⟨by rw [List.set_cons_succ, h.h]⟩
/-- A value of one cell. -/
class OneC (v : Value) : Prop where
  h : v.oneCell' = true
instance (b : Bool) : OneC (.bool b) := ⟨rfl⟩
instance (k : IntKind) (z : Int) : OneC (.int k z) := ⟨rfl⟩
instance (s : ByteArray) : OneC (.string s) := ⟨rfl⟩
instance (a : Option Addr) : OneC (.pointer a) := ⟨rfl⟩
instance (a : Option Addr) (n c : Nat) : OneC (.slice a n c) := ⟨rfl⟩
instance (r : Option Nat) : OneC (.map r) := ⟨rfl⟩
instance (f : Fn) (x y : Array Value) : OneC (.func f x y) := ⟨rfl⟩
instance : OneC .nilFunc := ⟨rfl⟩
instance : OneC .nilIface := ⟨rfl⟩
instance (t : TypeId) (v : Value) : OneC (.iface t v) := ⟨rfl⟩
class OneCs (l : List Value) : Prop where
  h : ∀ v ∈ l, v.oneCell' = true
instance : OneCs [] := ⟨fun _ h => by cases h⟩
instance (v : Value) (l : List Value) [h : OneC v] [k : OneCs l] : OneCs (v :: l) := ⟨fun x hx => by
  rcases List.mem_cons.1 hx with rfl | hx
  · exact h.h
  · exact k.h x hx⟩
instance (l m : List Value) [h : OneCs l] [k : OneCs m] : OneCs (l ++ m) := ⟨fun x hx => by
  rcases List.mem_append.1 hx with hx | hx
  · exact h.h x hx
  · exact k.h x hx⟩
theorem OneC.cells {v : Value} (h : OneC v) : v.cells = #[v] := by
  have := h.h
  cases v <;> first | rfl | cases this
/-- A function that a call enters. -/
def entersB (P : Program) (f : FuncId) : Bool := match P.funcs[f]? with
  | some fn => !(fn.name == "runtime.NumGoroutine") && fn.body.isSome
  | none => false
class Enters (P : Program) (f : FuncId) : Prop where
  h : entersB P f = true
theorem Enters.run {P : Program} {f : FuncId} (h : Enters P f) (args : Array Value) (w : World) : (callFunc f args).run P w = .ok (.enter f args) w := by
  have := h.h
  unfold entersB at this
  split at this
  · rename_i fn hf
    simp only [Bool.and_eq_true, Bool.not_eq_true', beq_eq_false_iff_ne] at this
    obtain ⟨h1, h2⟩ := this
    obtain ⟨c, hc⟩ := Option.isSome_iff_exists.1 h2
    simp [callFunc, hf, h1, hc, mark]
  · cases this
/-- The element type of a slice type: size, bytes, zero. -/
def tyElem (P : Program) (t : TypeId) : Option (TypeId × Nat × Nat × Array Value) :=
  match P.underlying t with
  | some (.slice e) => match P.info? e with
    | some i => match i.zero with
      | some z => if z.cells.size = i.size ∧ 0 < i.size then some (e, i.size, i.bytes, z.cells) else none
      | none => none
    | none => none
  | _ => none
class TyE (P : Program) (t : TypeId) (e : outParam TypeId) (size : outParam Nat) (bytes : outParam Nat) (z : outParam (List Value)) : Prop where
  h : tyElem P t = some (e, size, bytes, z.toArray)
theorem TyE.get {P : Program} {t e : TypeId} {size bytes : Nat} {z : List Value} (h : TyE P t e size bytes z) : ∃ i zv, P.underlying t = some (.slice e) ∧ P.info? e = some i ∧ i.zero = some zv ∧ zv.cells = z.toArray ∧ i.size = size ∧ i.bytes = bytes ∧ zv.cells.size = size ∧ 0 < size := by
  have := h.h
  unfold tyElem at this
  split at this
  · rename_i el hU
    split at this
    · rename_i i hi
      split at this
      · rename_i zv hz
        split at this
        · rename_i hc
          simp at this
          obtain ⟨rfl, rfl, rfl, hz'⟩ := this
          exact ⟨i, zv, hU, hi, hz, hz', rfl, rfl, hc.1, hc.2⟩
        · cases this
      · cases this
    · cases this
  · cases this

/-- The slice v owns a row of just these cells (and maybe room behind them). -/
@[irreducible] def Ent.sl (v : Value) (e : TypeId) (size n : Nat) (l : List Value) : Ent where
  fp k := v.ownBlock = some k
  ok w := w.ownsRow 0 e size v n l
  loc {w w'} h k := by
    refine ⟨k.1, ?_⟩
    rcases k.2 with hz | ⟨g, cap, cur, rfl, hb, hgg, r⟩
    · exact .inl hz
    · exact .inr ⟨g, cap, cur, rfl, hb, (h g rfl).trans hgg, r⟩
  lt h k e := (World.ownsRow.lt h k e).2
  nd {w} h k e c := by
    rcases h.2 with ⟨rfl, _⟩ | ⟨g, cap, cur, rfl, hb, hgg, _⟩
    · cases e
    · cases e; rw [hgg]; simp
theorem Ent.sl_fp {v : Value} {e : TypeId} {size n : Nat} {l : List Value} {k : Nat} : (Ent.sl v e size n l).fp k ↔ v.ownBlock = some k := by unfold Ent.sl; exact Iff.rfl
theorem Ent.sl_ok {v : Value} {e : TypeId} {size n : Nat} {l : List Value} {w : World} : (Ent.sl v e size n l).ok w ↔ w.ownsRow 0 e size v n l := by unfold Ent.sl; exact Iff.rfl

section
variable {F : Fence} [hF : Calm F] {P : Program} {n : Nat} {B D : World} {M : Nat → Prop} {Q : Exit → Act → World → Prop} {fs : SFs} {hs : HS} {ops : Array Oper} {rest : List Oper} {o : Oper} {v : Value}

/-- The operation runs, and leaves a value and a heap that meet Φ. -/
def Ew (P : Program) (n : Nat) (B : World) (M : Nat → Prop) (fs : SFs) (hs : HS) (o : Oper) (Φ : Value → HS → Prop) : Prop :=
  ∀ (F : Fence), Calm F → ∀ (Q : Exit → Act → World → Prop) (K : Act → World → Prop) a w, Fr n fs a → Hp B M hs w → (∀ v w' hs', Kp w w' → Hp B M hs' w' → Φ v hs' → K (a.put o.dst v) w') → o.wpIn F 0 P a w K Q
theorem TL.ew {d : Nat} {Φ : Value → HS → Prop} (hw : Wt n ops fs o true) (hd : o.dst = some d) (hb : Nat.blt d n = true) (h : Ew P n B M fs hs o Φ) (k : ∀ v hs', Φ v hs' → TL F P n B D M ops Q rest ((d, v) :: fs) hs') : TL F P n B D M ops Q (o :: rest) fs hs :=
  ⟨fun a w ha hp hm => wpListIn_step fun K hK => by
    rw [if_pos (hw a ha)]
    exact h F hF Q K a w ha hp fun v w' hs' hk hp' hΦ => hK _ _ (by rw [hd]; exact (k v hs' hΦ).out _ w' (ha.put hb v) hp' ((hm.next hk).put _ _))⟩
theorem TL.ew0 {Φ : Value → HS → Prop} (hw : Wt n ops fs o true) (hd : o.dst = none) (h : Ew P n B M fs hs o Φ) (k : ∀ v hs', Φ v hs' → TL F P n B D M ops Q rest fs hs') : TL F P n B D M ops Q (o :: rest) fs hs :=
  ⟨fun a w ha hp hm => wpListIn_step fun K hK => by
    rw [if_pos (hw a ha)]
    exact h F hF Q K a w ha hp fun v w' hs' hk hp' hΦ => hK _ _ (by rw [hd]; exact (k v hs' hΦ).out _ w' (ha.put_none v) hp' ((hm.next hk).put _ _))⟩
theorem Ew.of_val {Φ : Value → HS → Prop} (h : ∀ a w, Fr n fs a → Hp B M hs w → ∃ v w' hs', (execOp a.eval o).run P w = .ok (.value v) w' ∧ Kp w w' ∧ Hp B M hs' w' ∧ Φ v hs') : Ew P n B M fs hs o Φ := fun F hF Q K a w ha hp k => by
  obtain ⟨v, w', hs', hr, hk, hp', hΦ⟩ := h a w ha hp
  refine wpInC (nd_value hr) ?_
  rw [hr, Oper.uponIn_value]
  exact k v w' hs' hk hp' hΦ
theorem Ew.of_skip {Φ : Value → HS → Prop} (h : ∀ a w, Fr n fs a → Hp B M hs w → ∃ w' hs', (execOp a.eval o).run P w = .ok .skip w' ∧ Kp w w' ∧ Hp B M hs' w' ∧ Φ undef hs') : Ew P n B M fs hs o Φ := fun F hF Q K a w ha hp k => by
  obtain ⟨w', hs', hr, hk, hp', hΦ⟩ := h a w ha hp
  refine wpInC (nd_skip hr) ?_
  rw [hr, Oper.uponIn_skip]
  exact k undef w' hs' hk hp' hΦ
theorem Ew.yv (h : Yv P n B M fs hs o v) : Ew P n B M fs hs o (fun v' hs' => v' = v ∧ hs' = hs) := Ew.of_val fun a w ha hp => ⟨v, w, hs, h a w ha hp, Kp.refl w, hp, rfl, rfl⟩

theorem Ew.alloc {t : TypeId} {z : List Value} [hT : TyZ P t z] (ho : o.op = .alloc t) : Ew P n B M fs hs o (fun v hs' => ∃ g, v = .pointer (some ⟨g, 0, none⟩) ∧ hs' = .row g t z :: hs) := Ew.of_val fun a w _ hp => by
  have h := hT.h
  unfold tyZero at h
  cases hi : P.info? t with
  | none => rw [hi] at h; cases h
  | some i =>
    rw [hi] at h
    cases hz : i.zero with
    | none => simp [hz] at h
    | some zv =>
      simp [hz] at h
      refine ⟨_, _, _, ?_, Kp.alloc w _, hp.allocRow t z, w.heap.size, rfl, rfl⟩
      unfold execOp
      simp [ho, Instr.alloc, zeroValue, typeInfo, hi, hz, newVar, newRow, h]
theorem Ew.box {t : TypeId} {x : Operand} {u : Value} [hu : OneC u] (ho : o.op = .box t x) (hx : ev fs x = some u) : Ew P n B M fs hs o (fun v hs' => ∃ g, v = .pointer (some ⟨g, 0, none⟩) ∧ hs' = .row g t [u] :: hs) := Ew.of_val fun a w ha hp => by
  refine ⟨_, _, _, ?_, Kp.alloc w _, hp.allocRow t [u], w.heap.size, rfl, rfl⟩
  unfold execOp
  simp [ho, ha.ev hx, Instr.box, newVar, newRow, hu.cells]
theorem Ew.boxA {t : TypeId} {x : Operand} {l : List Value} (ho : o.op = .box t x) (hx : ev fs x = some (.agg l.toArray)) : Ew P n B M fs hs o (fun v hs' => ∃ g, v = .pointer (some ⟨g, 0, none⟩) ∧ hs' = .row g t l :: hs) := Ew.of_val fun a w ha hp => by
  refine ⟨_, _, _, ?_, Kp.alloc w _, hp.allocRow t l, w.heap.size, rfl, rfl⟩
  unfold execOp
  simp [ho, ha.ev hx, Instr.box, newVar, newRow, Value.cells]

theorem only_setRow (w : World) (g : Nat) (cs : Array Value) : Only (· = g) w (w.setRow g cs) :=
  ⟨rfl, rfl, rfl, by simp, fun k hk hn => by
    unfold World.setRow
    simp only [Array.getElem?_modify]
    rw [if_neg (fun e => hn e.symm)]⟩
theorem Hp.setRow {w : World} (hp : Hp B M hs w) {i g : Nat} {u : TypeId} {l l' : List Value} (hi : hs[i]? = some (.row g u l)) : Hp B M (hs.set i (.row g u l')) (w.setRow g l'.toArray) :=
  hp.updAt hi (only_setRow w g _) (fun k _ hk => Ent.row_fp.2 hk) (Ent.row_ok.2 (setRow_heap w g _ _ u _ (Ent.row_ok.1 (hp.get hi)))) (fun k hk => .inl (Ent.row_fp.2 (Ent.row_fp.1 hk)))
theorem kp_setRow {w : World} {g : Nat} {t : TypeId} {l : List Value} (h : w.heap[g]? = some (.cells l.toArray t (0, 0))) (cs : Array Value) : Kp w (w.setRow g cs) := Kp.only (only_setRow w g cs) (fun k e c => by subst e; rw [h]; simp)
theorem set_splice (l : List Value) (p : Nat) (x : Value) (h : p < l.length) : l.take p ++ [x] ++ l.drop (p + 1) = l.set p x := by
  rw [List.set_eq_take_append_cons_drop, if_pos h]
  simp
theorem run_storeV {a : Act} {w : World} {t : TypeId} {b : Bool} {k : Nat} (hT : tyAgg P t = some (b, k)) {x y : Operand} (ho : o.op = .store t x y) {g p : Nat} {u : TypeId} {l m : List Value} {val : Value} (hx : a.eval x = .pointer (some ⟨g, p, none⟩)) (hy : a.eval y = val) (hm : val.cells = m.toArray)
    (hk : m.length = k) (h1 : ∀ c ∈ m, c.oneCell' = true) (hg : w.heap[g]? = some (.cells l.toArray u (0, 0))) (hl : p + m.length ≤ l.length) :
    (execOp a.eval o).run P w = .ok .skip (w.setRow g (l.take p ++ m ++ l.drop (p + m.length)).toArray) := by
  have h2 := run_storeCells_at (P := P) g p u m 0 l.toArray w hg (by simpa using hl) h1
  simp only [Nat.add_zero] at h2
  unfold execOp
  simp [ho, hx, hy, Instr.storeAt, Instr.sureAddr, storeVar, (tyAgg_run hT w).2, hm, hk, h2]
theorem Ew.store1 (i : Nat) {t u : TypeId} [hT : TyS P t] {x y : Operand} {g p : Nat} {l l' : List Value} {hs' : HS} {val : Value} [hv : OneC val] (ho : o.op = .store t x y) (hx : ev fs x = some (.pointer (some ⟨g, p, none⟩))) (hy : ev fs y = some val)
    (hi : hs[i]? = some (.row g u l)) (hp : p < l.length) [hL : SetAt l p val l'] [hH : SetAt hs i (.row g u l') hs'] : Ew P n B M fs hs o (fun v hs'' => v = undef ∧ hs'' = hs') := Ew.of_skip fun a w ha hw => by
  have h := run_storeV (P := P) (w := w) hT.h ho (ha.ev hx) (ha.ev hy) (m := [val]) hv.cells rfl (by simpa using hv.h) (Ent.row_ok.1 (hw.get hi)) (by simp; omega)
  refine ⟨_, _, h, kp_setRow (Ent.row_ok.1 (hw.get hi)) _, ?_, rfl, rfl⟩
  rw [show [val].length = 1 from rfl, set_splice l p val hp, hL.h, ← hH.h]
  exact hw.setRow hi
theorem Ew.storeAll (i : Nat) {t u : TypeId} {k : Nat} [hT : TyA P t k] {x y : Operand} {g : Nat} {l m : List Value} {hs' : HS} [hv : OneCs m] (ho : o.op = .store t x y) (hx : ev fs x = some (.pointer (some ⟨g, 0, none⟩))) (hy : ev fs y = some (.agg m.toArray))
    (hi : hs[i]? = some (.row g u l)) (hk : m.length = k) (hl : m.length = l.length) [hH : SetAt hs i (.row g u m) hs'] : Ew P n B M fs hs o (fun v hs'' => v = undef ∧ hs'' = hs') := Ew.of_skip fun a w ha hw => by
  have h := run_storeV (P := P) (w := w) hT.h ho (ha.ev hx) (ha.ev hy) (m := m) rfl hk hv.h (Ent.row_ok.1 (hw.get hi)) (by omega)
  refine ⟨_, _, h, kp_setRow (Ent.row_ok.1 (hw.get hi)) _, ?_, rfl, rfl⟩
  rw [← hH.h]
  have e : l.take 0 ++ m ++ l.drop (0 + m.length) = m := by simp [hl]
  rw [e]
  exact hw.setRow hi
theorem Ew.storeA (i : Nat) {t u : TypeId} {k : Nat} [hT : TyA P t k] {x y : Operand} {g p : Nat} {l m : List Value} {hs' : HS} [hv : OneCs m] (ho : o.op = .store t x y) (hx : ev fs x = some (.pointer (some ⟨g, p, none⟩))) (hy : ev fs y = some (.agg m.toArray))
    (hi : hs[i]? = some (.row g u l)) (hk : m.length = k) (hl : p + m.length ≤ l.length) [hH : SetAt hs i (.row g u (l.take p ++ m ++ l.drop (p + m.length))) hs'] : Ew P n B M fs hs o (fun v hs'' => v = undef ∧ hs'' = hs') := Ew.of_skip fun a w ha hw => by
  have h := run_storeV (P := P) (w := w) hT.h ho (ha.ev hx) (ha.ev hy) (m := m) rfl hk hv.h (Ent.row_ok.1 (hw.get hi)) hl
  refine ⟨_, _, h, kp_setRow (Ent.row_ok.1 (hw.get hi)) _, ?_, rfl, rfl⟩
  rw [← hH.h]
  exact hw.setRow hi

/-! ### Literals -/
theorem foldl_set : ∀ (m : List Value) (k off : Nat) (cs : Array Value), off + k + m.length ≤ cs.size →
    (m.zipIdx k).foldl (fun (cs : Array Value) (p : Value × Nat) => cs.setIfInBounds (off + p.2) p.1) cs = (cs.toList.take (off + k) ++ m ++ cs.toList.drop (off + k + m.length)).toArray
  | [], k, off, cs, _ => by simp
  | v :: r, k, off, cs, h => by
    simp only [List.zipIdx_cons, List.foldl_cons]
    rw [foldl_set r (k + 1) off _ (by simp at h ⊢; omega)]
    congr 1
    have e := list_seg_step cs.toList (off + k) v r (by simp at h ⊢; omega)
    simpa [Array.toList_setIfInBounds, Nat.add_assoc] using e
/-- Filling parts into a row. -/
def splice1 (l : List Value) (off : Nat) (m : List Value) : List Value := l.take off ++ m ++ l.drop (off + m.length)
class Cells (v : Value) (m : outParam (List Value)) : Prop where
  h : v.cells = m.toArray
instance (priority := low) (v : Value) [h : OneC v] : Cells v [v] := ⟨h.cells⟩
instance (m : List Value) : Cells (.agg m.toArray) m := ⟨rfl⟩
class Splice (l : List Value) (off : Nat) (m : List Value) (l' : outParam (List Value)) : Prop where
  h : splice1 l off m = l' ∧ off + m.length ≤ l.length
instance Splice.nil (l : List Value) : Splice l 0 [] l := ⟨by simp [splice1]⟩
instance Splice.here (x v : Value) (r m r' : List Value) [h : Splice r 0 m r'] : Splice (x :: r) 0 (v :: m) (v :: r') := ⟨by
  have := h.h
  simp [splice1] at this ⊢
  exact ⟨this.1, by omega⟩⟩
instance Splice.succ (x : Value) (r m r' : List Value) (k : Nat) [h : Splice r k m r'] : Splice (x :: r) (k + 1) m (x :: r') := ⟨by
  have := h.h
  have e : k + 1 + m.length = k + m.length + 1 := by omega
  simp only [splice1, List.take_succ_cons, e, List.drop_succ_cons, List.cons_append, List.length_cons] at this ⊢
  exact ⟨by rw [this.1], by omega⟩⟩
class LenIs {α : Type} (l : List α) (k : Nat) : Prop where
  h : l.length = k
instance {α : Type} : LenIs ([] : List α) 0 := ⟨rfl⟩
instance {α : Type} (x : α) (l : List α) (k : Nat) [h : LenIs l k] : LenIs (x :: l) (k + 1) := ⟨by rw [List.length_cons, h.h]⟩
/-- The parts (with their places: offset and size) filled one by one. -/
class Fill (place : Nat → Option (Nat × Nat)) (l : List Value) (ps : List (Nat × Value)) (l' : outParam (List Value)) : Prop where
  h : Instr.fill place l.toArray ps = some l'.toArray
instance (place : Nat → Option (Nat × Nat)) (l : List Value) : Fill place l [] l := ⟨rfl⟩
class Place (place : Nat → Option (Nat × Nat)) (i : Nat) (off size : outParam Nat) : Prop where
  h : place i = some (off, size)
instance Fill.cons (place : Nat → Option (Nat × Nat)) (l l1 l2 m : List Value) (i off size : Nat) (v : Value) (ps : List (Nat × Value)) [hp : Place place i off size] [hc : Cells v m] [h1 : Splice l off m l1] [h2 : Fill place l1 ps l2] [hs : LenIs m size] : Fill place l ((i, v) :: ps) l2 := ⟨by
  unfold Instr.fill
  simp only [hp.h, hc.h]
  have hf := foldl_set m 0 off l.toArray (by have := h1.h.2; simp; omega)
  have e1 : (m.toArray.zipIdx.foldl (fun (cs : Array Value) (p : Value × Nat) => cs.setIfInBounds (off + p.2) p.1) l.toArray) = l1.toArray := by
    rw [← h1.h.1]
    simpa [splice1] using hf
  have e2 : (m.toArray.size ≠ size || off + m.toArray.size > l.toArray.size) = false := by
    have := h1.h.2
    simp [hs.h]
    have := hs.h
    omega
  rw [if_neg (by rw [e2]; simp)]
  rw [e1]
  exact h2.h⟩
end
end Go.Proofs.YtljgejbmimapdaaDoor
