/- Maps whose keys are places. -/
import Derived.Test.YtphpmjnpjnmdmaaB
set_option maxRecDepth 100000
set_option maxHeartbeats 4000000
set_option linter.unusedSimpArgs false
set_option linter.unusedVariables false
set_option linter.unusedSectionVars false
namespace Go.Proofs.Ytphpmjnpjnmdmaa
open Go.RowKit
abbrev Pl := Bool × Int
def plV (p : Pl) : Value := .agg #[.bool p.1, .int .i64 p.2]
theorem plV_eq (a : Bool) (i : Int) : Value.agg [.bool a, .int .i64 i].toArray = plV (a, i) := rfl
theorem stood72 : Try.prog.stoodInHeld 72 = false := by kernel_rfl
theorem part0 (a : Bool) (i : Int) (w : World) : (part 4 #[.bool a, .int .i64 i] 0).run Try.prog w = .ok (.bool a) w := by kernel_rfl
theorem part1 (a : Bool) (i : Int) (w : World) : (part 3 #[.bool a, .int .i64 i] 1).run Try.prog w = .ok (.int .i64 i) w := by kernel_rfl
theorem eq4 (a b : Bool) (n : Nat) (w : World) : (Op.equalIn (n + 1) 4 (.bool a) (.bool b)).run Try.prog w = .ok (a == b) w := by
  unfold Op.equalIn
  simp [underlying, Try.underlying4]
theorem eq3 (a b : Int) (n : Nat) (w : World) : (Op.equalIn (n + 1) 3 (.int .i64 a) (.int .i64 b)).run Try.prog w = .ok (a == b) w := by
  unfold Op.equalIn
  simp [underlying, Try.underlying3]
theorem equal_place (p q : Pl) (w : World) : (Op.equal 72 (plV p) (plV q)).run Try.prog w = .ok (decide (p = q)) w := by
  obtain ⟨a, i⟩ := p
  obtain ⟨b, j⟩ := q
  have e4 : ∀ w, (Op.equalIn 9999 4 (.bool a) (.bool b)).run Try.prog w = .ok (a == b) w := eq4 a b 9998
  have e3 : ∀ w, (Op.equalIn 9999 3 (.int .i64 i) (.int .i64 j)).run Try.prog w = .ok (i == j) w := eq3 i j 9998
  unfold Op.equal plV
  rw [show Op.maxDepth = 9998 + 1 + 1 from rfl]
  unfold Op.equalIn
  simp [underlying, Try.underlying72, stood72, part0, part1, e4, e3]
  by_cases h1 : a = b <;> by_cases h2 : i = j <;> simp [h1, h2]
theorem checkKey_place (e : Bool) (p : Pl) (w : World) : (Instr.checkKey e 10000 72 (plV p)).run Try.prog w = .ok () w := by
  obtain ⟨a, i⟩ := p
  cases e <;> kernel_rfl
theorem same_place (p : Pl) : Instr.sameBits 10000 (plV p) (plV p) = true := by
  obtain ⟨a, i⟩ := p
  rw [show (10000 : Nat) = 9999 + 1 from rfl, plV, Instr.sameBits]
  simp [Instr.sameBits]

/-- The place of a key among entries. -/
def kvFind : List (Pl × Value) → Pl → Nat → Option (Nat × Value)
  | [], _, _ => none
  | (q, v) :: r, p, i => if p = q then some (i, v) else kvFind r p (i + 1)
def kvGet (kv : List (Pl × Value)) (p : Pl) : Option Value := (kvFind kv p 0).map (·.2)
def kvSet : List (Pl × Value) → Pl → Value → List (Pl × Value)
  | [], p, v => [(p, v)]
  | (q, u) :: r, p, v => if p = q then (p, v) :: r else (q, u) :: kvSet r p v
theorem kvFind_shift : ∀ (kv : List (Pl × Value)) (p : Pl) (i : Nat), kvFind kv p i = (kvFind kv p 0).map fun x => (i + x.1, x.2)
  | [], _, _ => rfl
  | (q, v) :: r, p, i => by
    unfold kvFind
    split
    · simp
    · rw [kvFind_shift r p (i + 1), kvFind_shift r p (0 + 1)]
      cases kvFind r p 0 <;> simp; omega
theorem kvGet_cons (q : Pl) (v : Value) (r : List (Pl × Value)) (p : Pl) : kvGet ((q, v) :: r) p = if p = q then some v else kvGet r p := by
  have e : kvFind ((q, v) :: r) p 0 = if p = q then some (0, v) else kvFind r p 1 := rfl
  unfold kvGet
  rw [e]
  split
  · rfl
  · rw [kvFind_shift r p 1]
    cases kvFind r p 0 <;> rfl
theorem kvGet_set : ∀ (kv : List (Pl × Value)) (p q : Pl) (v : Value), kvGet (kvSet kv p v) q = if q = p then some v else kvGet kv q
  | [], p, q, v => by simp [kvSet, kvGet_cons]
  | (r, u) :: t, p, q, v => by
    unfold kvSet
    split
    · rename_i h; subst h
      simp only [kvGet_cons]
      split <;> rfl
    · rename_i h
      simp only [kvGet_cons, kvGet_set t p q v]
      split
      · rename_i h2; subst h2
        rw [if_neg (fun e => h e.symm)]
      · rfl
theorem kvFind_some : ∀ (kv : List (Pl × Value)) (p : Pl) (i : Nat) (v : Value), kvFind kv p 0 = some (i, v) → i < kv.length ∧ kv[i]? = some (p, v) ∧ ∀ u, kvSet kv p u = kv.set i (p, u)
  | [], _, _, _, h => by cases h
  | (q, u) :: r, p, i, v, h => by
    unfold kvFind at h
    split at h
    · rename_i e; subst e
      cases h
      refine ⟨by simp, by simp, fun x => by simp [kvSet]⟩
    · rename_i e
      rw [kvFind_shift] at h
      cases hf : kvFind r p 0 with
      | none => rw [hf] at h; cases h
      | some x =>
        rw [hf] at h
        simp at h
        obtain ⟨h1, h2⟩ := h
        obtain ⟨a, b, c⟩ := kvFind_some r p x.1 x.2 (by rw [hf])
        subst h1 h2
        refine ⟨by simp; omega, ?_, fun y => ?_⟩
        · rw [Nat.add_comm]; simpa using b
        · rw [Nat.add_comm]; simp [kvSet, e, c y]
theorem kvFind_none : ∀ (kv : List (Pl × Value)) (p : Pl), kvFind kv p 0 = none → ∀ u, kvSet kv p u = kv ++ [(p, u)]
  | [], _, _, _ => rfl
  | (q, u) :: r, p, h, x => by
    unfold kvFind at h
    split at h
    · cases h
    · rename_i e
      rw [kvFind_shift] at h
      cases hf : kvFind r p 0 with
      | none => simp [kvSet, e, kvFind_none r p hf x]
      | some y => rw [hf] at h; cases h

def EsIs (es : Array MapEntry) (kv : List (Pl × Value)) : Prop := es.toList.map (fun e => (e.key, e.val)) = kv.map (fun q => (plV q.1, q.2))
theorem findAsking_run (p : Pl) (w : World) : ∀ (es : List MapEntry) (kv : List (Pl × Value)) (i : Nat), es.map (fun e => (e.key, e.val)) = kv.map (fun q => (plV q.1, q.2)) →
    (Instr.findAsking 72 (plV p) es i).run Try.prog w = .ok (kvFind kv p i) w
  | [], [], _, _ => rfl
  | [], _ :: _, _, h => by cases h
  | _ :: _, [], _, h => by cases h
  | e :: r, (q, v) :: t, i, h => by
    simp only [List.map_cons, List.cons.injEq, Prod.mk.injEq] at h
    obtain ⟨⟨h1, h2⟩, h3⟩ := h
    unfold Instr.findAsking kvFind
    simp only [Sem.run_bind, h1, equal_place, Result.andThen_ok]
    by_cases hp : p = q
    · simp [hp, h2]
    · simp [hp, findAsking_run p w r t (i + 1) h3]
theorem findKey_run (p : Pl) (w : World) (es : Array MapEntry) (kv : List (Pl × Value)) (h : EsIs es kv) : (Instr.findKey 72 (plV p) es.toList).run Try.prog w = .ok (kvFind kv p 0) w := by
  unfold EsIs at h
  unfold Instr.findKey
  have hU : (underlying 72).run Try.prog w = .ok (.struct #[⟨"crew", 4, 0, false, "", "bandplan/tower", 0⟩, ⟨"id", 3, 1, false, "", "bandplan/tower", 8⟩]) w := by kernel_rfl
  rw [Sem.run_bind, hU, Result.andThen_ok]
  cases hes : es.toList with
  | nil =>
    rw [hes] at h
    cases kv with
    | nil => rfl
    | cons _ _ => cases h
  | cons e r =>
    rw [hes] at h
    have h2 : ∀ (d : TypeDesc), d = .struct #[⟨"crew", 4, 0, false, "", "bandplan/tower", 0⟩, ⟨"id", 3, 1, false, "", "bandplan/tower", 8⟩] → Instr.findNow d (plV p) (e :: r) 0 = none := by
      rintro d rfl
      unfold Instr.findNow plV
      rfl
    rw [h2 _ rfl]
    exact findAsking_run p w _ _ 0 h

/-- Block g is a map with these entries. -/
@[irreducible] def Ent.mp (g : Nat) (kv : List (Pl × Value)) : Ent where
  fp := (· = g)
  ok w := ∃ es clock, w.heap[g]? = some (.map es clock) ∧ EsIs es kv ∧ (es.toList.map (·.born)).Nodup ∧ ∀ e ∈ es.toList, e.born < clock
  loc h k := by obtain ⟨es, c, h1, h2⟩ := k; exact ⟨es, c, (h g rfl).trans h1, h2⟩
  lt h k e := by subst e; obtain ⟨es, c, h1, h2⟩ := h; exact (Array.getElem?_eq_some_iff.1 h1).1
  nd h k e d := by subst e; obtain ⟨es, c, h1, h2⟩ := h; rw [h1]; simp
theorem Ent.mp_fp {g : Nat} {kv : List (Pl × Value)} {k : Nat} : (Ent.mp g kv).fp k ↔ k = g := by unfold Ent.mp; exact Iff.rfl
theorem Ent.mp_ok {g : Nat} {kv : List (Pl × Value)} {w : World} : (Ent.mp g kv).ok w ↔ ∃ es clock, w.heap[g]? = some (.map es clock) ∧ EsIs es kv ∧ (es.toList.map (·.born)).Nodup ∧ ∀ e ∈ es.toList, e.born < clock := by unfold Ent.mp; exact Iff.rfl
/-- The same, with the stamp of one entry. -/
@[irreducible] def Ent.mpE (g : Nat) (kv : List (Pl × Value)) (p : Pl) (s : Int) : Ent where
  fp := (· = g)
  ok w := ∃ es clock, w.heap[g]? = some (.map es clock) ∧ EsIs es kv ∧ (es.toList.map (·.born)).Nodup ∧ (∀ e ∈ es.toList, e.born < clock) ∧ ∃ i v, kvFind kv p 0 = some (i, v) ∧ (es.toList[i]?).map (fun e => (e.born : Int)) = some s
  loc h k := by obtain ⟨es, c, h1, h2⟩ := k; exact ⟨es, c, (h g rfl).trans h1, h2⟩
  lt h k e := by subst e; obtain ⟨es, c, h1, h2⟩ := h; exact (Array.getElem?_eq_some_iff.1 h1).1
  nd h k e d := by subst e; obtain ⟨es, c, h1, h2⟩ := h; rw [h1]; simp
theorem Ent.mpE_fp {g : Nat} {kv : List (Pl × Value)} {p : Pl} {s : Int} {k : Nat} : (Ent.mpE g kv p s).fp k ↔ k = g := by unfold Ent.mpE; exact Iff.rfl
theorem Ent.mpE_ok {g : Nat} {kv : List (Pl × Value)} {p : Pl} {s : Int} {w : World} : (Ent.mpE g kv p s).ok w ↔ ∃ es clock, w.heap[g]? = some (.map es clock) ∧ EsIs es kv ∧ (es.toList.map (·.born)).Nodup ∧ (∀ e ∈ es.toList, e.born < clock) ∧ ∃ i v, kvFind kv p 0 = some (i, v) ∧ (es.toList[i]?).map (fun e => (e.born : Int)) = some s := by unfold Ent.mpE; exact Iff.rfl

section
variable {n : Nat} {B : World} {M : Nat → Prop} {fs : SFs} {hs : HS} {o : Oper}
theorem Ew.makeMap {t : TypeId} (ho : o.op = .makeMap t none) : Ew Try.prog n B M fs hs o (fun v hs' => ∃ g, v = .map (some g) ∧ hs' = .mp g [] :: hs) := Ew.of_val fun a w ha hp => by
  refine ⟨_, _, _, ?_, Kp.alloc w (.map #[] 0), hp.fresh ((Below.refl _ _).alloc (Nat.le_refl _) (.map #[] 0)) ((Ent.mp_ok (kv := [])).2 ⟨#[], 0, heap_new w _, by unfold EsIs; rfl, by simp, by simp⟩) (fun g hg => by rw [Ent.mp_fp.1 hg]; exact Nat.le_refl _), w.heap.size, rfl, rfl⟩
  unfold execOp
  simp [ho, Instr.makeMap]
theorem obj_run {w : World} {g : Nat} {es : Array MapEntry} {c : Nat} (h : w.heap[g]? = some (.map es c)) : (getObj g).run Try.prog w = .ok (.map es c) w := by
  simp [getObj, Sem.run, h]
/-- A map type with places as keys: its elements' zero. -/
class MapT (t : TypeId) (e : outParam TypeId) (z : outParam Value) : Prop where
  hU : Try.prog.underlying t = some (.map 72 e)
  hz : ∀ w, (zeroValue e).run Try.prog w = .ok z w
theorem Yv.lookup (i : Nat) {t e : TypeId} {z : Value} {x y : Operand} {g : Nat} {kv : List (Pl × Value)} {p : Pl} [hT : MapT t e z] (ho : o.op = .lookup t x y false) (hx : ev fs x = some (.map (some g))) (hy : ev fs y = some (plV p)) (hi : hs[i]? = some (.mp g kv)) : Yv Try.prog n B M fs hs o ((kvGet kv p).getD z) := fun a w ha hw => by
  obtain ⟨es, c, h1, h2, _⟩ := Ent.mp_ok.1 (hw.get hi)
  unfold execOp
  simp only [ho, ha.ev hx, ha.ev hy, Instr.lookup]
  simp only [underlying, Sem.run_bind, run_program, Result.andThen_ok, hT.hU, Sem.run_pure, obj_run h1, checkKey_place, findKey_run p w es kv h2]
  unfold kvGet
  cases kvFind kv p 0 with
  | none => simp [hT.hz]
  | some x => simp
theorem Yv.lookupV (i : Nat) {t e : TypeId} {z v : Value} {x y : Operand} {g : Nat} {kv : List (Pl × Value)} {p : Pl} [hT : MapT t e z] (ho : o.op = .lookup t x y false) (hx : ev fs x = some (.map (some g))) (hy : ev fs y = some (plV p)) (hi : hs[i]? = some (.mp g kv)) (hg : (kvGet kv p).getD z = v) : Yv Try.prog n B M fs hs o v := hg ▸ Yv.lookup i ho hx hy hi
theorem Yv.lookupE (i : Nat) {t e : TypeId} {z v : Value} {x y : Operand} {g : Nat} {kv : List (Pl × Value)} {p q : Pl} {s : Int} [hT : MapT t e z] (ho : o.op = .lookup t x y false) (hx : ev fs x = some (.map (some g))) (hy : ev fs y = some (plV p)) (hi : hs[i]? = some (.mpE g kv q s)) (hg : (kvGet kv p).getD z = v) : Yv Try.prog n B M fs hs o v := fun a w ha hw => by
  subst hg
  obtain ⟨es, c, h1, h2, _⟩ := Ent.mpE_ok.1 (hw.get hi)
  unfold execOp
  simp only [ho, ha.ev hx, ha.ev hy, Instr.lookup]
  simp only [underlying, Sem.run_bind, run_program, Result.andThen_ok, hT.hU, Sem.run_pure, obj_run h1, checkKey_place, findKey_run p w es kv h2]
  unfold kvGet
  cases kvFind kv p 0 with
  | none => simp [hT.hz]
  | some x => simp
theorem only_setObj {w : World} {g : Nat} {o o' : Obj} (h : w.heap[g]? = some o) : Only (· = g) w { w with heap := w.heap.setIfInBounds g o' } ∧ ({ w with heap := w.heap.setIfInBounds g o' } : World).heap[g]? = some o' := by
  have hlt := (Array.getElem?_eq_some_iff.1 h).1
  refine ⟨⟨rfl, rfl, rfl, by simp, fun k hk hn => ?_⟩, by simp [hlt]⟩
  show (w.heap.setIfInBounds g o')[k]? = _
  rw [Array.getElem?_setIfInBounds_ne (fun e => hn e.symm)]
theorem kp_setObj {w : World} {g : Nat} {es : Array MapEntry} {c : Nat} (h : w.heap[g]? = some (.map es c)) (o' : Obj) : Kp w { w with heap := w.heap.setIfInBounds g o' } := Kp.only (only_setObj h).1 (fun k e d => by subst e; rw [h]; simp)
theorem setObj_run {w : World} {g : Nat} {es : Array MapEntry} {c : Nat} {o' : Obj} (h : w.heap[g]? = some (.map es c)) : (setObj g o').run Try.prog w = .ok () { w with heap := w.heap.setIfInBounds g o' } := by
  simp [setObj, Sem.run, h]
theorem EsIs.modify {es : Array MapEntry} {kv : List (Pl × Value)} (h : EsIs es kv) {i : Nat} {p : Pl} {v u : Value} (hi : kvFind kv p 0 = some (i, v)) : EsIs (es.modify i fun e => { e with key := plV p, val := u }) (kvSet kv p u) ∧ ((es.modify i fun e => { e with key := plV p, val := u }).toList.map (·.born)) = es.toList.map (·.born) := by
  obtain ⟨h1, h2, h3⟩ := kvFind_some kv p i v hi
  unfold EsIs at h ⊢
  rw [h3 u, Array.toList_modify]
  have hlen : es.toList.length = kv.length := by have := congrArg List.length h; simpa using this
  constructor
  · apply List.ext_getElem?
    intro j
    have hj := congrArg (·[j]?) h
    simp only [List.getElem?_map, List.getElem?_modify, List.getElem?_set] at hj ⊢
    by_cases e : i = j
    · subst e
      have hl : i < es.toList.length := by omega
      simp [hl, h1] at hj ⊢
      obtain ⟨a, ha, _⟩ := hj
      exact ⟨a, ha⟩
    · simp only [e, if_false]
      simpa using hj
  · apply List.ext_getElem?
    intro j
    simp only [List.getElem?_map, List.getElem?_modify]
    by_cases e : i = j
    · simp [e]; cases es.toList[j]? <;> rfl
    · simp [e]
theorem EsIs.push {es : Array MapEntry} {kv : List (Pl × Value)} (h : EsIs es kv) {p : Pl} {u : Value} {c : Nat} (hi : kvFind kv p 0 = none) : EsIs (es.push { key := plV p, val := u, born := c }) (kvSet kv p u) := by
  unfold EsIs at h ⊢
  rw [kvFind_none kv p hi u]
  simp [h]
theorem mem_born {es : List MapEntry} {c : Nat} (h : ∀ e ∈ es, e.born < c) : ∀ b ∈ es.map (·.born), b < c := by
  intro b hb
  obtain ⟨e, he, rfl⟩ := List.mem_map.1 hb
  exact h e he
theorem born_lt_of {es es' : List MapEntry} {c : Nat} (he : es'.map (·.born) = es.map (·.born)) (h : ∀ e ∈ es, e.born < c) : ∀ e ∈ es', e.born < c := fun e h' =>
  mem_born h e.born (by rw [← he]; exact List.mem_map_of_mem h')
theorem Ew.mapUpdate (i : Nat) {t e : TypeId} {z val : Value} {x y u : Operand} {g : Nat} {kv : List (Pl × Value)} {p : Pl} {hs' : HS} [hT : MapT t e z] (ho : o.op = .mapUpdate t x y u) (hx : ev fs x = some (.map (some g))) (hy : ev fs y = some (plV p)) (hu : ev fs u = some val) (hi : hs[i]? = some (.mp g kv))
    [hH : SetAt hs i (.mp g (kvSet kv p val)) hs'] : Ew Try.prog n B M fs hs o (fun v hs'' => v = undef ∧ hs'' = hs') := Ew.of_skip fun a w ha hw => by
  obtain ⟨es, c, h1, h2, h3, h4⟩ := Ent.mp_ok.1 (hw.get hi)
  rw [← hH.h]
  cases hf : kvFind kv p 0 with
  | none =>
    obtain ⟨o1, o2⟩ := only_setObj (o' := .map (es.push { key := plV p, val := val, born := c }) (c + 1)) h1
    refine ⟨_, _, ?_, kp_setObj h1 _, hw.updAt hi o1 (fun k _ hk => Ent.mp_fp.2 hk) (Ent.mp_ok.2 ⟨_, _, o2, h2.push hf, ?_, ?_⟩) (fun k hk => .inl (Ent.mp_fp.2 (Ent.mp_fp.1 hk))), rfl, rfl⟩
    · unfold execOp
      simp [ho, ha.ev hx, ha.ev hy, ha.ev hu, Instr.mapUpdate, underlying, hT.hU, obj_run h1, checkKey_place, findKey_run p w es kv h2, hf, setObj_run h1]
    · simp only [Array.toList_push, List.map_append, List.map_cons, List.map_nil]
      rw [List.nodup_append]
      refine ⟨h3, by simp, ?_⟩
      intro b hb b' hb'
      have := mem_born h4 b hb
      simp at hb'
      omega
    · intro x hx
      simp at hx
      rcases hx with hx | rfl
      · have := h4 x (by simpa using hx); omega
      · simp
  | some q =>
    obtain ⟨j, v0⟩ := q
    obtain ⟨k1, k2, k3⟩ := kvFind_some kv p j v0 hf
    obtain ⟨o1, o2⟩ := only_setObj (o' := .map (es.modify j fun e => { e with key := plV p, val := val }) c) h1
    have hm := h2.modify (u := val) hf
    refine ⟨_, _, ?_, kp_setObj h1 _, hw.updAt hi o1 (fun k _ hk => Ent.mp_fp.2 hk) (Ent.mp_ok.2 ⟨_, _, o2, hm.1, by rw [hm.2]; exact h3, born_lt_of hm.2 h4⟩) (fun k hk => .inl (Ent.mp_fp.2 (Ent.mp_fp.1 hk))), rfl, rfl⟩
    have hkey : ((es[j]?).map (·.key)).getD (plV p) = plV p := by
      have hj := congrArg (·[j]?) h2
      simp only [List.getElem?_map, k2, Array.getElem?_toList] at hj
      cases hes : es[j]? with
      | none => rfl
      | some en => rw [hes] at hj; simp at hj; simp [hj.1]
    unfold execOp
    simp [ho, ha.ev hx, ha.ev hy, ha.ev hu, Instr.mapUpdate, underlying, hT.hU, obj_run h1, checkKey_place, findKey_run p w es kv h2, hf, Instr.keyThatStays, hkey, same_place, setObj_run h1]
theorem Ew.mapEntry (i : Nat) {t e : TypeId} {z : Value} {x y : Operand} {g : Nat} {kv : List (Pl × Value)} {p : Pl} {hs' : Int → HS} [hT : MapT t e z] (ho : o.op = .mapEntry t x y) (hx : ev fs x = some (.map (some g))) (hy : ev fs y = some (plV p)) (hi : hs[i]? = some (.mp g kv))
    [hH : ∀ s, SetAt hs i (.mpE g (kvSet kv p ((kvGet kv p).getD z)) p s) (hs' s)] : Ew Try.prog n B M fs hs o (fun v hs'' => ∃ s, v = .tuple #[(kvGet kv p).getD z, .int .i64 s] ∧ hs'' = hs' s) := Ew.of_val fun a w ha hw => by
  obtain ⟨es, c, h1, h2, h3, h4⟩ := Ent.mp_ok.1 (hw.get hi)
  cases hf : kvFind kv p 0 with
  | none =>
    have hg : kvGet kv p = none := by simp [kvGet, hf]
    obtain ⟨o1, o2⟩ := only_setObj (o' := .map (es.push { key := plV p, val := z, born := c }) (c + 1)) h1
    refine ⟨_, { w with heap := w.heap.setIfInBounds g (.map (es.push { key := plV p, val := z, born := c }) (c + 1)) }, hs' c, ?_, kp_setObj h1 _, ?_, c, rfl, rfl⟩
    rotate_left
    · rw [← (hH c).h, hg]
      have hlen : es.toList.length = kv.length := by have := congrArg List.length h2; simpa using this
      refine hw.updAt hi o1 (fun k _ hk => Ent.mp_fp.2 hk) (Ent.mpE_ok.2 ⟨_, _, o2, h2.push hf, ?_, ?_, kv.length, z, ?_, ?_⟩) (fun k hk => .inl (Ent.mp_fp.2 (Ent.mpE_fp.1 hk)))
      · simp only [Array.toList_push, List.map_append, List.map_cons, List.map_nil]
        rw [List.nodup_append]
        refine ⟨h3, by simp, ?_⟩
        intro b hb b' hb'
        have := mem_born h4 b hb
        simp at hb'
        omega
      · intro x hx
        simp at hx
        rcases hx with hx | rfl
        · have := h4 x (by simpa using hx); omega
        · simp
      · rw [Option.getD_none, kvFind_none kv p hf z]
        have : ∀ (l : List (Pl × Value)) (k : Nat), kvFind l p 0 = none → kvFind (l ++ [(p, z)]) p k = some (k + l.length, z) := by
          intro l
          induction l with
          | nil => intro k _; simp [kvFind]
          | cons a r ih =>
            intro k hn
            obtain ⟨q, u⟩ := a
            unfold kvFind at hn
            split at hn
            · cases hn
            · rename_i hne
              rw [kvFind_shift] at hn
              have hn' : kvFind r p 0 = none := by cases hr : kvFind r p 0 with | none => rfl | some y => rw [hr] at hn; cases hn
              simp only [List.cons_append, kvFind, hne, if_false]
              rw [ih (k + 1) hn']
              simp; omega
        simpa using this kv 0 hf
      · simp [← hlen]
    · rw [hg]
      unfold execOp
      simp [ho, ha.ev hx, ha.ev hy, Instr.mapEntry, underlying, hT.hU, hT.hz, obj_run h1, checkKey_place, findKey_run p w es kv h2, hf, setObj_run h1, goInt]
  | some q =>
    obtain ⟨j, v0⟩ := q
    have hg : kvGet kv p = some v0 := by simp [kvGet, hf]
    obtain ⟨k1, k2, k3⟩ := kvFind_some kv p j v0 hf
    have hlen : es.toList.length = kv.length := by have := congrArg List.length h2; simpa using this
    have hj := congrArg (·[j]?) h2
    have hjl : j < es.toList.length := by omega
    simp only [List.getElem?_map, k2, List.getElem?_eq_getElem hjl] at hj
    simp at hj
    obtain ⟨o1, o2⟩ := only_setObj (o' := .map (es.modify j fun e => { e with key := plV p }) c) h1
    have hes : (es.modify j fun e => { e with key := plV p }) = es.modify j fun e => { e with key := plV p, val := v0 } := by
      apply Array.ext'
      simp only [Array.toList_modify]
      apply List.ext_getElem?
      intro q
      simp only [List.getElem?_modify]
      by_cases e : j = q
      · subst e
        have : es.size > j := by simpa using hjl
        simp [List.getElem?_eq_getElem hjl, hj.2, this]
      · simp [e]
    have hm := h2.modify (u := v0) hf
    rw [hes] at o1 o2
    refine ⟨_, { w with heap := w.heap.setIfInBounds g (.map (es.modify j fun e => { e with key := plV p, val := v0 }) c) }, hs' es.toList[j].born, ?_, kp_setObj h1 _, ?_, es.toList[j].born, rfl, rfl⟩
    rotate_left
    · rw [← (hH _).h, hg]
      refine hw.updAt hi o1 (fun k _ hk => Ent.mp_fp.2 hk) (Ent.mpE_ok.2 ⟨_, _, o2, hm.1, by rw [hm.2]; exact h3, born_lt_of hm.2 h4, j, v0, ?_, ?_⟩) (fun k hk => .inl (Ent.mp_fp.2 (Ent.mpE_fp.1 hk)))
      · rw [Option.getD_some, k3 v0]
        have : kv.set j (p, v0) = kv := by
          apply List.ext_getElem?
          intro q
          rw [List.getElem?_set]
          split
          · rename_i e; subst e; rw [k2]
          · rfl
        rw [this, hf]
      · have := congrArg (·[j]?) hm.2
        simp only [List.getElem?_map, List.getElem?_eq_getElem hjl] at this
        cases hq : (es.modify j fun e => { e with key := plV p, val := v0 }).toList[j]? with
        | none => rw [hq] at this; simp at this
        | some en => rw [hq] at this; simp at this; simp [this]
    · rw [hg]
      have hjs : j < es.size := by simpa using hjl
      have hkey : ((es[j]?).map (·.key)).getD (plV p) = plV p := by simp [hjs, hj.1]
      unfold execOp
      simp only [ho, ha.ev hx, ha.ev hy, Instr.mapEntry, underlying]
      simp [hT.hU, obj_run h1, checkKey_place, findKey_run p w es kv h2, hf, Instr.keyThatStays, hj.1, same_place, setObj_run h1, goInt, hes, hjs]
theorem findIdx_born : ∀ (l : List MapEntry) (i : Nat) (s : Int), (l.map (·.born)).Nodup → (l[i]?).map (fun e => (e.born : Int)) = some s → l.findIdx? (fun e => (e.born : Int) == s) = some i
  | [], _, _, _, h => by cases h
  | e :: r, 0, s, _, h => by
    simp at h
    simp [List.findIdx?_cons, h]
  | e :: r, i + 1, s, hn, h => by
    simp only [List.map_cons, List.nodup_cons] at hn
    simp only [List.getElem?_cons_succ] at h
    have ih := findIdx_born r i s hn.2 h
    have hne : ¬ ((e.born : Int) = s) := by
      intro he
      cases hr : r[i]? with
      | none => rw [hr] at h; cases h
      | some x =>
        rw [hr] at h
        simp at h
        apply hn.1
        rw [List.mem_map]
        exact ⟨x, List.mem_of_getElem? hr, by omega⟩
    simp [List.findIdx?_cons, hne, ih]
theorem Ew.entryStore (i : Nat) {t e : TypeId} {z val : Value} {x y u : Operand} {g : Nat} {kv : List (Pl × Value)} {p : Pl} {s : Int} {hs' : HS} [hT : MapT t e z] (ho : o.op = .entryStore t x y u) (hx : ev fs x = some (.map (some g))) (hy : ev fs y = some (.int .i64 s)) (hu : ev fs u = some val) (hi : hs[i]? = some (.mpE g kv p s))
    [hH : SetAt hs i (.mp g (kvSet kv p val)) hs'] : Ew Try.prog n B M fs hs o (fun v hs'' => v = undef ∧ hs'' = hs') := Ew.of_skip fun a w ha hw => by
  obtain ⟨es, c, h1, h2, h3, h4, j, v0, hf, hs⟩ := Ent.mpE_ok.1 (hw.get hi)
  rw [← hH.h]
  obtain ⟨k1, k2, k3⟩ := kvFind_some kv p j v0 hf
  have hlen : es.toList.length = kv.length := by have := congrArg List.length h2; simpa using this
  have hjl : j < es.toList.length := by omega
  have hj := congrArg (·[j]?) h2
  simp only [List.getElem?_map, k2, List.getElem?_eq_getElem hjl] at hj
  simp at hj
  obtain ⟨o1, o2⟩ := only_setObj (o' := .map (es.modify j fun e => { e with val := val }) c) h1
  have hes : (es.modify j fun e => { e with val := val }) = es.modify j fun e => { e with key := plV p, val := val } := by
    apply Array.ext'
    simp only [Array.toList_modify]
    apply List.ext_getElem?
    intro q
    simp only [List.getElem?_modify]
    by_cases e : j = q
    · subst e
      have : es.size > j := by simpa using hjl
      simp [List.getElem?_eq_getElem hjl, hj.1, this]
    · simp [e]
  have hm := h2.modify (u := val) hf
  rw [hes] at o1 o2
  refine ⟨_, _, ?_, kp_setObj h1 _, hw.updAt hi o1 (fun k _ hk => Ent.mpE_fp.2 hk) (Ent.mp_ok.2 ⟨_, _, o2, hm.1, by rw [hm.2]; exact h3, born_lt_of hm.2 h4⟩) (fun k hk => .inl (Ent.mpE_fp.2 (Ent.mp_fp.1 hk))), rfl, rfl⟩
  have hidx := findIdx_born es.toList j s h3 hs
  have hidx' : es.findIdx? (fun e => (e.born : Int) == s) = some j := by
    have e : ∀ (es : Array MapEntry) (q : MapEntry → Bool), es.findIdx? q = es.toList.findIdx? q := by rintro ⟨l⟩ q; simp
    rw [e]; exact hidx
  unfold execOp
  simp [ho, ha.ev hx, ha.ev hy, ha.ev hu, Instr.entryStore, obj_run h1, asInt, asIntOf]
  simp [hidx', setObj_run h1, hes]
end
instance : MapT 68 3 (.int .i64 0) := ⟨Try.underlying68, fun w => by kernel_rfl⟩
instance : MapT 76 79 (.slice none 0 0) := ⟨Try.underlying76, fun w => by kernel_rfl⟩
end Go.Proofs.Ytphpmjnpjnmdmaa
