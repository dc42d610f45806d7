/- Literals, slices that grow, calls. -/
import Derived.Test.YtljgejbmimapdaaDoorTc
set_option linter.unusedVariables false
set_option linter.unusedSectionVars false
set_option linter.unusedSimpArgs false
namespace Go.Proofs.YtljgejbmimapdaaDoor
open Go.RowKit
class MulIs (i k : Nat) (r : outParam Nat) : Prop where
  h : i * k = r
instance : MulIs 0 1 0 := ⟨rfl⟩
instance : MulIs 1 1 1 := ⟨rfl⟩
instance : MulIs 2 1 2 := ⟨rfl⟩
instance : MulIs 3 1 3 := ⟨rfl⟩
instance : MulIs 4 1 4 := ⟨rfl⟩
instance : MulIs 5 1 5 := ⟨rfl⟩
instance : MulIs 6 1 6 := ⟨rfl⟩
instance : MulIs 7 1 7 := ⟨rfl⟩
instance : MulIs 8 1 8 := ⟨rfl⟩
instance : MulIs 9 1 9 := ⟨rfl⟩
instance : MulIs 10 1 10 := ⟨rfl⟩
instance : MulIs 11 1 11 := ⟨rfl⟩
instance : MulIs 12 1 12 := ⟨rfl⟩
instance : MulIs 0 2 0 := ⟨rfl⟩
instance : MulIs 1 2 2 := ⟨rfl⟩
instance : MulIs 2 2 4 := ⟨rfl⟩
instance : MulIs 3 2 6 := ⟨rfl⟩
instance : MulIs 4 2 8 := ⟨rfl⟩
instance : MulIs 5 2 10 := ⟨rfl⟩
instance : MulIs 6 2 12 := ⟨rfl⟩
instance : MulIs 7 2 14 := ⟨rfl⟩
instance : MulIs 8 2 16 := ⟨rfl⟩
instance : MulIs 9 2 18 := ⟨rfl⟩
instance : MulIs 10 2 20 := ⟨rfl⟩
instance : MulIs 11 2 22 := ⟨rfl⟩
instance : MulIs 12 2 24 := ⟨rfl⟩
instance : MulIs 0 3 0 := ⟨rfl⟩
instance : MulIs 1 3 3 := ⟨rfl⟩
instance : MulIs 2 3 6 := ⟨rfl⟩
instance : MulIs 3 3 9 := ⟨rfl⟩
instance : MulIs 4 3 12 := ⟨rfl⟩
instance : MulIs 5 3 15 := ⟨rfl⟩
instance : MulIs 6 3 18 := ⟨rfl⟩
instance : MulIs 7 3 21 := ⟨rfl⟩
instance : MulIs 8 3 24 := ⟨rfl⟩
instance : MulIs 9 3 27 := ⟨rfl⟩
instance : MulIs 10 3 30 := ⟨rfl⟩
instance : MulIs 11 3 33 := ⟨rfl⟩
instance : MulIs 12 3 36 := ⟨rfl⟩
instance : MulIs 0 4 0 := ⟨rfl⟩
instance : MulIs 1 4 4 := ⟨rfl⟩
instance : MulIs 2 4 8 := ⟨rfl⟩
instance : MulIs 3 4 12 := ⟨rfl⟩
instance : MulIs 4 4 16 := ⟨rfl⟩
instance : MulIs 5 4 20 := ⟨rfl⟩
instance : MulIs 6 4 24 := ⟨rfl⟩
instance : MulIs 7 4 28 := ⟨rfl⟩
instance : MulIs 8 4 32 := ⟨rfl⟩
instance : MulIs 9 4 36 := ⟨rfl⟩
instance : MulIs 10 4 40 := ⟨rfl⟩
instance : MulIs 11 4 44 := ⟨rfl⟩
instance : MulIs 12 4 48 := ⟨rfl⟩
instance : MulIs 0 5 0 := ⟨rfl⟩
instance : MulIs 1 5 5 := ⟨rfl⟩
instance : MulIs 2 5 10 := ⟨rfl⟩
instance : MulIs 3 5 15 := ⟨rfl⟩
instance : MulIs 4 5 20 := ⟨rfl⟩
instance : MulIs 5 5 25 := ⟨rfl⟩
instance : MulIs 6 5 30 := ⟨rfl⟩
instance : MulIs 7 5 35 := ⟨rfl⟩
instance : MulIs 8 5 40 := ⟨rfl⟩
instance : MulIs 9 5 45 := ⟨rfl⟩
instance : MulIs 10 5 50 := ⟨rfl⟩
instance : MulIs 11 5 55 := ⟨rfl⟩
instance : MulIs 12 5 60 := ⟨rfl⟩
instance : MulIs 0 6 0 := ⟨rfl⟩
instance : MulIs 1 6 6 := ⟨rfl⟩
instance : MulIs 2 6 12 := ⟨rfl⟩
instance : MulIs 3 6 18 := ⟨rfl⟩
instance : MulIs 4 6 24 := ⟨rfl⟩
instance : MulIs 5 6 30 := ⟨rfl⟩
instance : MulIs 6 6 36 := ⟨rfl⟩
instance : MulIs 7 6 42 := ⟨rfl⟩
instance : MulIs 8 6 48 := ⟨rfl⟩
instance : MulIs 9 6 54 := ⟨rfl⟩
instance : MulIs 10 6 60 := ⟨rfl⟩
instance : MulIs 11 6 66 := ⟨rfl⟩
instance : MulIs 12 6 72 := ⟨rfl⟩
instance : MulIs 0 7 0 := ⟨rfl⟩
instance : MulIs 1 7 7 := ⟨rfl⟩
instance : MulIs 2 7 14 := ⟨rfl⟩
instance : MulIs 3 7 21 := ⟨rfl⟩
instance : MulIs 4 7 28 := ⟨rfl⟩
instance : MulIs 5 7 35 := ⟨rfl⟩
instance : MulIs 6 7 42 := ⟨rfl⟩
instance : MulIs 7 7 49 := ⟨rfl⟩
instance : MulIs 8 7 56 := ⟨rfl⟩
instance : MulIs 9 7 63 := ⟨rfl⟩
instance : MulIs 10 7 70 := ⟨rfl⟩
instance : MulIs 11 7 77 := ⟨rfl⟩
instance : MulIs 12 7 84 := ⟨rfl⟩
instance : MulIs 0 8 0 := ⟨rfl⟩
instance : MulIs 1 8 8 := ⟨rfl⟩
instance : MulIs 2 8 16 := ⟨rfl⟩
instance : MulIs 3 8 24 := ⟨rfl⟩
instance : MulIs 4 8 32 := ⟨rfl⟩
instance : MulIs 5 8 40 := ⟨rfl⟩
instance : MulIs 6 8 48 := ⟨rfl⟩
instance : MulIs 7 8 56 := ⟨rfl⟩
instance : MulIs 8 8 64 := ⟨rfl⟩
instance : MulIs 9 8 72 := ⟨rfl⟩
instance : MulIs 10 8 80 := ⟨rfl⟩
instance : MulIs 11 8 88 := ⟨rfl⟩
instance : MulIs 12 8 96 := ⟨rfl⟩
instance : MulIs 0 9 0 := ⟨rfl⟩
instance : MulIs 1 9 9 := ⟨rfl⟩
instance : MulIs 2 9 18 := ⟨rfl⟩
instance : MulIs 3 9 27 := ⟨rfl⟩
instance : MulIs 4 9 36 := ⟨rfl⟩
instance : MulIs 5 9 45 := ⟨rfl⟩
instance : MulIs 6 9 54 := ⟨rfl⟩
instance : MulIs 7 9 63 := ⟨rfl⟩
instance : MulIs 8 9 72 := ⟨rfl⟩
instance : MulIs 9 9 81 := ⟨rfl⟩
instance : MulIs 10 9 90 := ⟨rfl⟩
instance : MulIs 11 9 99 := ⟨rfl⟩
instance : MulIs 12 9 108 := ⟨rfl⟩
instance : MulIs 0 10 0 := ⟨rfl⟩
instance : MulIs 1 10 10 := ⟨rfl⟩
instance : MulIs 2 10 20 := ⟨rfl⟩
instance : MulIs 3 10 30 := ⟨rfl⟩
instance : MulIs 4 10 40 := ⟨rfl⟩
instance : MulIs 5 10 50 := ⟨rfl⟩
instance : MulIs 6 10 60 := ⟨rfl⟩
instance : MulIs 7 10 70 := ⟨rfl⟩
instance : MulIs 8 10 80 := ⟨rfl⟩
instance : MulIs 9 10 90 := ⟨rfl⟩
instance : MulIs 10 10 100 := ⟨rfl⟩
instance : MulIs 11 10 110 := ⟨rfl⟩
instance : MulIs 12 10 120 := ⟨rfl⟩
instance : MulIs 0 11 0 := ⟨rfl⟩
instance : MulIs 1 11 11 := ⟨rfl⟩
instance : MulIs 2 11 22 := ⟨rfl⟩
instance : MulIs 3 11 33 := ⟨rfl⟩
instance : MulIs 4 11 44 := ⟨rfl⟩
instance : MulIs 5 11 55 := ⟨rfl⟩
instance : MulIs 6 11 66 := ⟨rfl⟩
instance : MulIs 7 11 77 := ⟨rfl⟩
instance : MulIs 8 11 88 := ⟨rfl⟩
instance : MulIs 9 11 99 := ⟨rfl⟩
instance : MulIs 10 11 110 := ⟨rfl⟩
instance : MulIs 11 11 121 := ⟨rfl⟩
instance : MulIs 12 11 132 := ⟨rfl⟩
instance : MulIs 0 12 0 := ⟨rfl⟩
instance : MulIs 1 12 12 := ⟨rfl⟩
instance : MulIs 2 12 24 := ⟨rfl⟩
instance : MulIs 3 12 36 := ⟨rfl⟩
instance : MulIs 4 12 48 := ⟨rfl⟩
instance : MulIs 5 12 60 := ⟨rfl⟩
instance : MulIs 6 12 72 := ⟨rfl⟩
instance : MulIs 7 12 84 := ⟨rfl⟩
instance : MulIs 8 12 96 := ⟨rfl⟩
instance : MulIs 9 12 108 := ⟨rfl⟩
instance : MulIs 10 12 120 := ⟨rfl⟩
instance : MulIs 11 12 132 := ⟨rfl⟩
instance : MulIs 12 12 144 := ⟨rfl⟩

/-- Where part i of a value of type t lies. -/
def bPlace (P : Program) (t : TypeId) (i : Nat) : Option (Nat × Nat) :=
  match P.underlying t with
  | some (.struct fs) => match fs[i]? with
    | some f => (P.info? f.type).map fun j => (f.offset, j.size)
    | none => none
  | _ => none
class TyPl (P : Program) (t : TypeId) (i : Nat) (off size : outParam Nat) : Prop where
  h : bPlace P t i = some (off, size)
instance (P : Program) (t : TypeId) (i off size : Nat) [h : TyPl P t i off size] : Place (bPlace P t) i off size := ⟨h.h⟩
def sPlace (size i : Nat) : Option (Nat × Nat) := some (i * size, size)
instance (size i off : Nat) [h : MulIs i size off] : Place (sPlace size) i off size := ⟨by unfold sPlace; rw [h.h]⟩
/-- A struct type whose fields' types are all known. -/
def tyStruct (P : Program) (t : TypeId) : Bool :=
  match P.underlying t with
  | some (.struct fs) => fs.all fun f => (P.info? f.type).isSome
  | _ => false
class TySt (P : Program) (t : TypeId) : Prop where
  h : tyStruct P t = true
def evPs (fs : SFs) : List (Nat × Operand) → Option (List (Nat × Value))
  | [] => some []
  | (i, x) :: r => match ev fs x with
    | some v => match evPs fs r with
      | some vs => some ((i, v) :: vs)
      | none => none
    | none => none

section
variable {F : Fence} [hF : Calm F] {P : Program} {n : Nat} {B D : World} {M : Nat → Prop} {Q : Exit → Act → World → Prop} {fs : SFs} {hs : HS} {ops : Array Oper} {rest : List Oper} {o : Oper} {v : Value}
theorem Fr.evPs {a : Act} (ha : Fr n fs a) : ∀ {xs : List (Nat × Operand)} {vs : List (Nat × Value)}, evPs fs xs = some vs → xs.map (fun p => (p.1, a.eval p.2)) = vs
  | [], vs, h => by simp only [Go.Proofs.YtljgejbmimapdaaDoor.evPs] at h; cases h; rfl
  | (i, x) :: r, vs, h => by
    simp only [Go.Proofs.YtljgejbmimapdaaDoor.evPs] at h
    split at h
    · rename_i v hv
      split at h
      · rename_i us hus
        cases h
        rw [List.map_cons, Fr.evPs ha hus, ha.ev hv]
      · cases h
    · cases h
theorem fill_congr {p q : Nat → Option (Nat × Nat)} (h : ∀ i, p i = q i) : ∀ (ps : List (Nat × Value)) (l : Array Value), Instr.fill p l ps = Instr.fill q l ps
  | [], _ => rfl
  | (i, v) :: r, l => by
    unfold Instr.fill
    rw [h i]
    split
    · rfl
    · split
      · rfl
      · exact fill_congr h r _
theorem mapM_places {w : World} : ∀ (l : List Field), (∀ f ∈ l, (P.info? f.type).isSome = true) →
    (l.mapM (fun f => (do pure (f.offset, ← sizeOf f.type) : Sem (Nat × Nat)))).run P w = .ok (l.map fun f => (f.offset, ((P.info? f.type).map (·.size)).getD 0)) w
  | [], _ => rfl
  | f :: r, h => by
    obtain ⟨i, hi⟩ := Option.isSome_iff_exists.1 (h f (by simp))
    have ih := mapM_places (w := w) r (fun x hx => h x (by simp [hx]))
    simp [List.mapM_cons, sizeOf, typeInfo, hi] at ih ⊢
    rw [ih]
    simp
theorem Yv.build {t : TypeId} {ps : Array (Nat × Operand)} {vs : List (Nat × Value)} {z l : List Value} [hS : TySt P t] [hZ : TyZ P t z] (ho : o.op = .build t ps) (hv : evPs fs ps.toList = some vs) [hF : Fill (bPlace P t) z vs l] : Yv P n B M fs hs o (.agg l.toArray) := fun a w ha _ => by
  have h := hS.h
  unfold tyStruct at h
  split at h
  · rename_i fl hU
    have hz := hZ.h
    unfold tyZero at hz
    cases hi : P.info? t with
    | none => rw [hi] at hz; cases hz
    | some i =>
      rw [hi] at hz
      cases hz' : i.zero with
      | none => simp [hz'] at hz
      | some zv =>
        simp [hz'] at hz
        have hall : ∀ f ∈ fl.toList, (P.info? f.type).isSome = true := by
          intro f hf
          have := Array.all_eq_true_iff_forall_mem.1 h f (by simpa using hf)
          exact this
        have hm := mapM_places (P := P) (w := w) fl.toList hall
        have hm' : (fl.mapM (fun f => (do pure (f.offset, ← sizeOf f.type) : Sem (Nat × Nat)))).run P w = .ok (fl.toList.map fun f => (f.offset, ((P.info? f.type).map (·.size)).getD 0)).toArray w := by
          rw [Array.mapM_eq_mapM_toList]
          simp only [Sem.run_map, hm]
          rfl
        have hps : ps.map (fun (p : Nat × Operand) => (p.1, a.eval p.2)) = vs.toArray := by
          apply Array.ext'
          rw [Array.toList_map]
          exact ha.evPs hv
        have hfill := hF.h
        rw [fill_congr (q := fun i => ((fl.toList.map fun f => (f.offset, ((P.info? f.type).map (·.size)).getD 0)).toArray)[i]?) ?_] at hfill
        · unfold execOp
          simp only [ho, Instr.build, zeroValue, typeInfo, underlying]
          have e : (ps.map fun (x : Nat × Operand) => match x with | (i, x) => (i, a.eval x)) = vs.toArray := hps
          simp only [e, Sem.run_bind, run_program, Result.andThen_ok, hi, Sem.run_pure, hz', hU, hm', hz, hfill]
        · intro i
          unfold bPlace
          rw [hU]
          simp only [List.getElem?_toArray, List.getElem?_map, Array.getElem?_toList]
          cases hfi : fl[i]? with
          | none => rfl
          | some f =>
            obtain ⟨j, hj⟩ := Option.isSome_iff_exists.1 (hall f (by simpa using Array.mem_of_getElem? hfi))
            simp [hj]
  · cases h

theorem zeros_list (z : List Value) (k : Nat) (hz : z.length ≠ 0) : ((Array.range k).map fun i => z.toArray[i % z.toArray.size]!) = ((List.range k).map fun i => z[i % z.length]?.getD default).toArray := by
  apply Array.ext'
  simp
/-- The zeros that a slice literal starts from: any row of that length. -/
class Zs (z : List Value) (k : Nat) (l : outParam (List Value)) : Prop where
  h : ((Array.range (k * z.length)).map fun i => z.toArray[i % z.toArray.size]!) = l.toArray
theorem Ew.buildSlice {t e : TypeId} {len size bytes : Nat} {ps : Array (Nat × Operand)} {vs : List (Nat × Value)} {z l0 l : List Value} [hT : TyE P t e size bytes z] (ho : o.op = .buildSlice t len ps) (hv : evPs fs ps.toList = some vs)
    (hlen : Nat.ble 1 len = true) (hbig : len * size ≤ 16777216) [hZ : Zs z len l0] [hF : Fill (sPlace size) l0 vs l] : Ew P n B M fs hs o (fun v hs' => ∃ g, v = .slice (some ⟨g, 0, none⟩) len len ∧ hs' = .row g e l :: hs) := Ew.of_val fun a w ha hp => by
  obtain ⟨i, zv, hU, hi, hz, hzc, rfl, rfl, hzs, hpos⟩ := hT.get
  have hps : ps.map (fun (p : Nat × Operand) => (p.1, a.eval p.2)) = vs.toArray := by
    apply Array.ext'
    rw [Array.toList_map]
    exact ha.evPs hv
  have hlen' : 1 ≤ len := by simpa using hlen
  have hne : len * i.size ≠ 0 := by
    have := Nat.mul_pos hlen' hpos
    omega
  have hzl : z.length = i.size := by rw [hzc] at hzs; simpa using hzs
  refine ⟨_, _, _, ?_, Kp.alloc w _, hp.allocRow e l, w.heap.size, rfl, rfl⟩
  unfold execOp
  have e1 : (ps.map fun (x : Nat × Operand) => match x with | (i, x) => (i, a.eval x)) = vs.toArray := hps
  have hZ' := hZ.h
  rw [hzl] at hZ'
  have hfill := hF.h
  have e2 : (fun j => some (j * i.size, i.size)) = sPlace i.size := rfl
  simp [ho, Instr.buildSlice, underlying, hU, sizeOf, typeInfo, hi, show ¬ 16777216 < len * i.size by omega, hne, zeroValue, hz, hzc, e1]
  rw [e2]
  simp at hZ'
  rw [hZ', hfill]
  simp [newRow]

/-! ### Calls -/
theorem callsIn_calm {F : Fence} [hF : Calm F] {m : Nat} {f : FuncId} {args : Array Value} {w : World} {R R' : Ending → World → Prop} (h : Calls P f args w R) (hr : ∀ e w', R e w' → R' e w') : CallsIn F m P f args w R' := hF.calls (h.mono hr)
theorem Ew.call {c : Operand} {xs : Array Operand} {ts : Array TypeId} {f : FuncId} {fst caps : Array Value} {vs : List Value} {Φ : Value → HS → Prop} [hE : Enters P f] (ho : o.op = .call { callee := .value c, args := xs, argTypes := ts }) (hc : ev fs c = some (.func (.func f) fst caps)) (hv : evs fs xs.toList = some vs)
    (C : ∀ w, Hp B M hs w → Calls P f (fst.toList ++ vs ++ caps.toList).toArray w (fun e w' => ∃ v hs', e = .returned v ∧ Kp w w' ∧ Hp B M hs' w' ∧ Φ v hs')) : Ew P n B M fs hs o Φ := fun F hF Q K a w ha hp k => by
  have h1 : xs.map a.eval = vs.toArray := by rw [← ha.evs hv]; apply Array.ext'; simp
  have hrun : (execOp a.eval o).run P w = .ok (.enter f (fst.toList ++ vs ++ caps.toList).toArray) w := by
    unfold execOp
    have := hE.run (fst.toList ++ vs ++ caps.toList).toArray w
    simp only [ho, resolve, ha.ev hc, Deferred.ofValue, h1, invoke, Sem.run_bind, Sem.run_pure, Result.andThen_ok]
    rw [← this]
    congr 2
    apply Array.ext'
    simp
  refine wpInC (nd_enter hrun) ?_
  rw [hrun, Oper.uponIn_enter]
  refine ⟨(fun h => by rw [hF.depth] at h; cases h), callsIn_calm (C w hp) ?_⟩
  rintro e w' ⟨v, hs', rfl, hk, hp', hΦ⟩
  exact k v w' hs' hk hp' hΦ
theorem Ew.callD {c : Operand} {xs : Array Operand} {ts : Array TypeId} {f : FuncId} {vs : List Value} [hE : Enters P f] (ho : o.op = .call { callee := .value c, args := xs, argTypes := ts }) (hc : ev fs c = some (.func (.func f) #[] #[])) (hv : evs fs xs.toList = some vs)
    (C : ∀ w, Hp B M hs w → Calls P f vs.toArray w (fun e w' => e = .returned v ∧ Below w.heap.size w w')) : Ew P n B M fs hs o (fun v' hs' => v' = v ∧ hs' = hs) :=
  Ew.call ho hc hv fun w hp => by
    have := C w hp
    simp only [List.append_nil, List.nil_append]
    exact this.mono fun e w' ⟨he, hb⟩ => ⟨v, hs, he, Kp.below hb, hp.below hb, rfl, rfl⟩
theorem Ew.callX {c : Operand} {xs : Array Operand} {ts : Array TypeId} {f : FuncId} {vs : List Value} {Φ : Value → HS → Prop} [hE : Enters P f] (ho : o.op = .call { callee := .value c, args := xs, argTypes := ts }) (hc : ev fs c = some (.func (.func f) #[] #[])) (hv : evs fs xs.toList = some vs)
    (C : ∀ w, Hp B M hs w → Calls P f vs.toArray w (fun e w' => ∃ v hs', e = .returned v ∧ Kp w w' ∧ Hp B M hs' w' ∧ Φ v hs')) : Ew P n B M fs hs o Φ :=
  Ew.call ho hc hv fun w hp => by
    have := C w hp
    simp only [List.append_nil, List.nil_append]
    exact this
theorem Ew.callA {c : Operand} {xs : Array Operand} {ts : Array TypeId} {f : FuncId} {fst caps : Array Value} {vs : List Value} [hE : Enters P f] (ho : o.op = .call { callee := .value c, args := xs, argTypes := ts }) (hc : ev fs c = some (.func (.func f) fst caps)) (hv : evs fs xs.toList = some vs)
    (C : ∀ w, Hp B M hs w → Calls P f (fst.toList ++ vs ++ caps.toList).toArray w (fun e w' => e = .returned v ∧ Below w.heap.size w w')) : Ew P n B M fs hs o (fun v' hs' => v' = v ∧ hs' = hs) :=
  Ew.call ho hc hv fun w hp => (C w hp).mono fun e w' ⟨he, hb⟩ => ⟨v, hs, he, Kp.below hb, hp.below hb, rfl, rfl⟩

/-! ### append, make -/
theorem only_grown {w w' : World} {r : Option Nat} (h : w.grownBy w' r) : Only (fun k => r = some k) w w' := ⟨h.os, h.tape, h.output, h.size, fun k hk hn => h.block k hk (fun e => hn e.symm)⟩
theorem Ew.append (i j : Nat) {s x : Operand} {t e u : TypeId} {size bytes m c k g : Nat} {z l news : List Value} {sv : Value} {hs' : Value → HS} [hT : TyE P t e size bytes z] [h1 : OneCs news] (ho : o.op = .call { callee := .builtin .append, args := #[s, x], argTypes := #[t, t] })
    (hs1 : ev fs s = some sv) (hx : ev fs x = some (.slice (some ⟨g, 0, none⟩) m c)) (hi : hs[i]? = some (.sl sv e size k l)) (hj : hs[j]? = some (.row g u news)) (hl : news.length = m * size) (hk : k + m ≤ 9223372036854775807) (hb : (k + m) * bytes ≤ 140737488355328)
    [hH : ∀ v', SetAt hs i (.sl v' e size (k + m) (l ++ news)) (hs' v')] : Ew P n B M fs hs o (fun v hs'' => OneC v ∧ hs'' = hs' v) := Ew.of_val fun a w ha hp => by
  obtain ⟨inf, zv, hU, hinf, hz, hzc, rfl, rfl, hzs, hpos⟩ := hT.get
  have hrow := Ent.row_ok.1 (hp.get hj)
  have hnews : ∀ q u, news[q]? = some u → w.cell? ((⟨g, 0, none⟩ : Addr).add q) = some u := by
    intro q u hq
    rw [add_off, Nat.zero_add, row_cell hrow]
    exact hq
  obtain ⟨v', w', hr, hown, hgr, _, hat⟩ := run_append_own_at (P := P) w 0 t o.type e inf zv inf.size inf.bytes hU hinf hz rfl rfl hzs hpos sv k l (Ent.sl_ok.1 (hp.get hi)) ⟨g, 0, none⟩ m c news hl hnews h1.h (by unfold maxLen; omega) hb (Nat.zero_le _)
  refine ⟨v', w', hs' v', ?_, ?_, ?_, ?_, rfl⟩
  · unfold execOp
    simp [ho, resolve, invoke, builtin, ha.ev hs1, ha.ev hx, hr]
  · exact Kp.only (only_grown hgr) (fun g hg c => (Ent.sl sv e inf.size k l).nd (hp.get hi) g (Ent.sl_fp.2 hg) c)
  · rw [← (hH v').h]
    refine hp.updAt hi (only_grown hgr) (fun q _ hq => Ent.sl_fp.2 hq) (Ent.sl_ok.2 hown) (fun q hq => ?_)
    have := Ent.sl_fp.1 hq
    rcases hat with h | h
    · exact .inl (Ent.sl_fp.2 (by rw [← h]; exact this))
    · rw [h] at this
      simp at this
      exact .inr (by omega)
  · rcases hown.2 with ⟨rfl, _⟩ | ⟨_, _, _, rfl, _⟩ <;> exact ⟨rfl⟩
theorem Ew.makeSlice {t e : TypeId} {size bytes k : Nat} {z : List Value} {x y : Operand} {q q' : IntKind} {xi yi : Int} [hT : TyE P t e size bytes z] (ho : o.op = .makeSlice t x y) (hx : ev fs x = some (.int q xi)) (hy : ev fs y = some (.int q' yi)) (hxi : xi = (k : Int)) (hyi : yi = (k : Int)) (hk : k ≤ 9223372036854775807) (hb : bytes * k ≤ 281474976710656) :
    Ew P n B M fs hs o (fun v hs' => ∃ g, v = .slice (some ⟨g, 0, none⟩) k k ∧ hs' = .sl (.slice (some ⟨g, 0, none⟩) k k) e size k (madeCells z.toArray (k * size)).toList :: hs) := Ew.of_val fun a w ha hp => by
  obtain ⟨inf, zv, hU, hinf, hz, hzc, rfl, rfl, hzs, hpos⟩ := hT.get
  subst hxi hyi
  obtain ⟨w', hr, hown, hgr⟩ := run_make_full (P := P) w 0 t e inf zv inf.size hU hinf hz rfl q q' k hb (by unfold maxLen; omega) (Nat.zero_le _)
  rw [hzc] at hown
  refine ⟨_, w', _, ?_, Kp.only (only_grown hgr) (fun g hg => by cases hg), hp.fresh ⟨hgr.os, hgr.tape, hgr.output, hgr.size, fun k hk => hgr.block k hk (by simp)⟩ (Ent.sl_ok.2 hown) (fun p hp => ?_), w.heap.size, rfl, rfl⟩
  · unfold execOp
    simp [ho, ha.ev hx, ha.ev hy, hr]
  · have := Ent.sl_fp.1 hp
    simp [Value.ownBlock] at this
    omega
/-- A nil slice owns nothing. -/
theorem Hp.slNil {w : World} (h : Hp B M hs w) (e : TypeId) (size : Nat) : Hp B M (.sl (.slice none 0 0) e size 0 [] :: hs) w :=
  h.fresh (Below.refl _ _) (Ent.sl_ok.2 (World.ownsRow_nil w 0 e size)) (fun g hg => by have := Ent.sl_fp.1 hg; cases this)
theorem T.slNil {c : Code} (e : TypeId) (size : Nat) (h : T F P n B D M c Q fs (.sl (.slice none 0 0) e size 0 [] :: hs)) : T F P n B D M c Q fs hs := ⟨fun a w ha hw hm => h.out a w ha (hw.slNil e size) hm⟩
theorem TL.slNil {l : List Oper} (e : TypeId) (size : Nat) (h : TL F P n B D M ops Q l fs (.sl (.slice none 0 0) e size 0 [] :: hs)) : TL F P n B D M ops Q l fs hs := ⟨fun a w ha hw hm => h.out a w ha (hw.slNil e size) hm⟩
/-- The form of an owned slice that is not empty. -/
theorem TL.slForm (i : Nat) {l : List Oper} {e : TypeId} {size k : Nat} {ls : List Value} {sv : Value} (hi : hs[i]? = some (.sl sv e size k ls)) (hk : 0 < k) (h : ∀ g cap, sv = .slice (some ⟨g, 0, none⟩) k cap → TL F P n B D M ops Q l fs hs) : TL F P n B D M ops Q l fs hs := ⟨fun a w ha hw hm => by
  rcases (Ent.sl_ok.1 (hw.get hi)).2 with ⟨_, h0⟩ | ⟨g, cap, _, e, _⟩
  · omega
  · exact (h g cap e).out a w ha hw hm⟩
theorem T.slForm (i : Nat) {c : Code} {e : TypeId} {size k : Nat} {ls : List Value} {sv : Value} (hi : hs[i]? = some (.sl sv e size k ls)) (hk : 0 < k) (h : ∀ g cap, sv = .slice (some ⟨g, 0, none⟩) k cap → T F P n B D M c Q fs hs) : T F P n B D M c Q fs hs := ⟨fun a w ha hw hm => by
  rcases (Ent.sl_ok.1 (hw.get hi)).2 with ⟨_, h0⟩ | ⟨g, cap, _, e, _⟩
  · omega
  · exact (h g cap e).out a w ha hw hm⟩
theorem Yv.loadS (i : Nat) {t e : TypeId} [hT : TyS P t] {g p size k cap : Nat} {l : List Value} {x : Operand} (ho : o.op = .load t x) (hx : ev fs x = some (.pointer (some ⟨g, p, none⟩))) (hi : hs[i]? = some (.sl (.slice (some ⟨g, 0, none⟩) k cap) e size k l)) (hv : l[p]? = some v) : Yv P n B M fs hs o v := fun a w ha hw =>
  run_load1 ho (ha.ev hx) (by
    have h := Ent.sl_ok.1 (hw.get hi)
    rw [World.ownsRow.cellAt h p (by rw [← h.1]; exact (List.getElem?_eq_some_iff.1 hv).1)]; exact hv)
theorem Yv.loadAS (i : Nat) {t e : TypeId} {q : Nat} [hT : TyA P t q] {g p size k cap : Nat} {l m : List Value} {x : Operand} (ho : o.op = .load t x) (hx : ev fs x = some (.pointer (some ⟨g, p, none⟩))) (hi : hs[i]? = some (.sl (.slice (some ⟨g, 0, none⟩) k cap) e size k l)) (hm : (l.drop p).take m.length = m) (hl : m.length = q) : Yv P n B M fs hs o (.agg m.toArray) := fun a w ha hw =>
  run_loadA ho (ha.ev hx) (fun j hj => by
    have h := Ent.sl_ok.1 (hw.get hi)
    have hlen : ((l.drop p).take m.length).length = m.length := by rw [hm]
    simp at hlen
    rw [World.ownsRow.cellAt h (p + j) (by rw [← h.1]; omega), ← List.getElem?_drop, ← List.getElem?_take_of_lt hj, hm]) hl
end
end Go.Proofs.YtljgejbmimapdaaDoor
