/- Mq Km Mr Si Yg: shortened and put together by squeeze.py. -/
import Derived.Test.YtlaafmiejkebgaaGreatQ02
import Derived.Maps.RangeRun
import Derived.Lib.Tables
set_option maxRecDepth 100000
set_option maxHeartbeats 4000000
set_option linter.unusedVariables false
set_option linter.unusedSectionVars false
set_option linter.unusedSimpArgs false
namespace Go.Proofs.YtlaafmiejkebgaaGreat
open Go.RowKit
open Go.ChangeMaps (setBlock)
def qput {κ α : Type} [DecidableEq κ] (f : κ → Option α) (k : κ) (v : α) : κ → Option α := fun j => bif decide (j = k) then some v else f j
def qf {κ α : Type} [DecidableEq κ] (m : List (κ × α)) : κ → Option α := fun k => (m.find? fun e => decide (e.1 = k)).map (·.2)
def qset {κ α : Type} [DecidableEq κ] (m : List (κ × α)) (k : κ) (v : α) : List (κ × α) := bif m.any (fun e => decide (e.1 = k)) then m.map (fun e => bif decide (e.1 = k) then (k, v) else e) else m ++ [(k, v)]
theorem zdq {κ α : Type} [DecidableEq κ] (m : List (κ × α)) (k : κ) (v : α) : qf (qset m k v) = qput (qf m) k v := by
  have hmap : ∀ (m : List (κ × α)) (j : κ), ((m.map fun e => bif decide (e.1 = k) then (k, v) else e).find? fun e => decide (e.1 = j)).map (·.2) = bif decide (j = k) && m.any (fun e => decide (e.1 = k)) then some v else (m.find? fun e => decide (e.1 = j)).map (·.2) := by
    intro m j
    induction m with
    | nil => simp
    | cons e r ih =>
      rw [List.map_cons, List.find?_cons, List.find?_cons, List.any_cons]; by_cases h1 : e.1 = k
      · rw [decide_eq_true h1, cond_true, Bool.true_or, Bool.and_true]; by_cases h2 : j = k
        · subst h2; simp [h1]
        · have h3 : ¬ k = j := fun h => h2 h.symm; have h4 : ¬ e.1 = j := fun h => h3 (h1.symm.trans h); simp only [h3, h4, h2, decide_false, cond_false, Bool.false_and] at ih ⊢; exact ih
      · rw [decide_eq_false h1, cond_false, Bool.false_or]; by_cases h4 : e.1 = j
        · have h2 : ¬ j = k := fun h => h1 (h4.trans h); simp [h4, h2]
        · simp only [h4, decide_false]; exact ih
  funext j
  unfold qset qput
  cases ha : m.any (fun e => decide (e.1 = k)) with
  | true =>
    rw [cond_true]
    show ((m.map _).find? _).map _ = _
    rw [hmap m j, ha, Bool.and_true]; rfl
  | false =>
    rw [cond_false]
    show ((m ++ [(k, v)]).find? fun e => decide (e.1 = j)).map (·.2) = _
    rw [List.find?_append]; by_cases h2 : j = k
    · subst h2; (have h3 : (m.find? fun e => decide (e.1 = j)) = none := List.find?_eq_none.2 fun e he h => by rw [List.any_eq_false] at ha; exact ha e he h); rw [h3]; simp
    · have h3 : ¬ k = j := fun h => h2 h.symm; rw [decide_eq_false h2, cond_false]; simp only [List.find?_cons, h3, decide_false, List.find?_nil, Option.or_none]; rfl
theorem qf_some {κ α : Type} [DecidableEq κ] {m : List (κ × α)} {k : κ} : (qf m k).isSome = true ↔ k ∈ m.map (·.1) := by
  unfold qf; rw [Option.isSome_map, List.find?_isSome, List.mem_map]; constructor
  · rintro ⟨e, he, h⟩; exact ⟨e, he, of_decide_eq_true h⟩
  · rintro ⟨e, he, h⟩; exact ⟨e, he, decide_eq_true h⟩
structure MapF {κ α : Type} (kV : κ → Value) (enc : α → Value) (es : Array MapEntry) (clock : Nat) (f : κ → Option α) : Prop where
  st : MapKept.Stamped es clock
  ent : ∀ e ∈ es.toList, ∃ k v, e.key = kV k ∧ e.val = enc v ∧ f k = some v
  all : ∀ k v, f k = some v → ∃ e ∈ es.toList, e.key = kV k
  ij : ∀ a b, kV a = kV b → a = b
class TyMf (P : Program) (mt : TypeId) (et : outParam TypeId) {κ α : outParam Type} (kV : outParam (κ → Value)) (enc : outParam (α → Value)) (z : outParam α) : Prop where
  h : ∃ kt, P.underlying mt = some (.map kt et) ∧ (∀ (c : κ) b w, (Instr.checkKey b 10000 kt (kV c)).run P w = .ok () w) ∧ (∀ a b w, ∃ r : Bool, (Op.equal kt (kV a) (kV b)).run P w = .ok r w ∧ (r = true ↔ a = b)) ∧ (∀ c w, (Instr.findKey kt (kV c) []).run P w = .ok none w) ∧ (∀ c e r w, (Instr.findKey kt (kV c) (e :: r)).run P w = (Instr.findAsking kt (kV c) (e :: r) 0).run P w) ∧ (∀ a b, kV a = kV b → a = b) ∧ (∀ c, Instr.sameBits 10000 (kV c) (kV c) = true) ∧ ∀ w, (zeroValue et).run P w = .ok (enc z) w
section
variable {P : Program} {κ α : Type} [DecidableEq κ] {kV : κ → Value} {enc : α → Value} {es : Array MapEntry} {clock : Nat} {f : κ → Option α} {w : World} {g : Nat} {mt kt et : TypeId} {z : α}
theorem zk4 (heq : ∀ a b w, ∃ r : Bool, (Op.equal kt (kV a) (kV b)).run P w = .ok r w ∧ (r = true ↔ a = b)) (c : κ) (w : World) : ∀ (l : List MapEntry) (i : Nat), (∀ e ∈ l, ∃ k v, e.key = kV k ∧ e.val = enc v ∧ f k = some v) →
    (∃ j e v, (Instr.findAsking kt (kV c) l i).run P w = .ok (some (i + j, enc v)) w ∧ l[j]? = some e ∧ e.key = kV c ∧ e.val = enc v ∧ f c = some v) ∨ ((Instr.findAsking kt (kV c) l i).run P w = .ok none w ∧ ∀ e ∈ l, ∀ k, e.key = kV k → k ≠ c)
  | [], i, _ => .inr ⟨rfl, fun e he => by cases he⟩
  | e :: r, i, h => by
    obtain ⟨d, v, hd, hv, hf⟩ := h e (by simp); obtain ⟨b, he, hb⟩ := heq c d w
    cases b with
    | true =>
      obtain rfl := hb.1 rfl; refine .inl ⟨0, e, v, ?_, rfl, hd, hv, hf⟩; unfold Instr.findAsking; rw [hd]; simp [he, hv]
    | false =>
      (have hcd : c ≠ d := fun q => by have := hb.2 q; cases this)
      have hstep : (Instr.findAsking kt (kV c) (e :: r) i).run P w = (Instr.findAsking kt (kV c) r (i + 1)).run P w := by
        rw [Instr.findAsking, hd]; simp [he]
      rcases zk4 heq c w r (i + 1) (fun x hx => h x (by simp [hx])) with ⟨j, x, u, h1, h2, h3, h4, h5⟩ | ⟨h1, h2⟩
      · exact .inl ⟨j + 1, x, u, by rw [hstep, h1, Nat.add_assoc, Nat.add_comm 1 j], by simpa using h2, h3, h4, h5⟩
      · refine .inr ⟨by rw [hstep, h1], fun x hx k hk => ?_⟩; rcases List.mem_cons.1 hx with rfl | hx
        · intro q; subst q; obtain ⟨b2, e2, hb2⟩ := heq k d w; rw [he] at e2; (have hb3 : b2 = false := by cases e2; rfl); have : (kV k) = kV d := hk.symm.trans hd; obtain ⟨b4, e4, hb4⟩ := heq k k w; rw [this] at e4; have h6 := hb4.2 rfl; subst h6; rw [← this, this] at e4; (have h7 : (Op.equal kt (kV k) (kV d)).run P w = .ok true w := by rw [this]; exact e4); rw [he] at h7; cases h7
        · exact h2 x hx k hk
theorem MapF.find [hT : TyMf P mt et kV enc z] (h : MapF kV enc es clock f) (c : κ) (w : World) : ∃ kt, P.underlying mt = some (.map kt et) ∧ ((∃ j e v, (Instr.findKey kt (kV c) es.toList).run P w = .ok (some (j, enc v)) w ∧ es[j]? = some e ∧ e.key = kV c ∧ e.val = enc v ∧ f c = some v) ∨ ((Instr.findKey kt (kV c) es.toList).run P w = .ok none w ∧ f c = none ∧ ∀ e ∈ es.toList, e.key ≠ kV c)) := by
  obtain ⟨kt, hm, hk, heq, hf0, hf1, hinj, hsb, hz⟩ := hT.h; have h0 := zk4 (P := P) (kt := kt) (enc := enc) (f := f) heq c w es.toList 0 h.ent
  have hrun : ∀ l : List MapEntry, (Instr.findKey kt (kV c) l).run P w = (Instr.findAsking kt (kV c) l 0).run P w
    | [] => (hf0 c w).trans rfl
    | e :: r => hf1 c e r w
  refine ⟨kt, hm, ?_⟩; rcases h0 with ⟨j, e, v, h1, h2, h3, h4, h5⟩ | ⟨h1, h2⟩
  · exact .inl ⟨j, e, v, by rw [hrun, h1, Nat.zero_add], by simpa using h2, h3, h4, h5⟩
  · refine .inr ⟨by rw [hrun, h1], ?_, fun e he hek => h2 e he c hek rfl⟩
    cases hf : f c with
    | none => rfl
    | some v => obtain ⟨e, he, hek⟩ := h.all c v hf; exact absurd rfl (h2 e he c hek)
theorem zfV [hT : TyMf P mt et kV enc z] (hb : w.heap[g]? = some (.map es clock)) (h : MapF kV enc es clock f) (k : κ) (c : Bool) :
    (Instr.lookup mt (.map (some g)) (kV k) c).run P w = .ok (if c then .tuple #[enc ((f k).getD z), .bool (f k).isSome] else enc ((f k).getD z)) w := by
  obtain ⟨kt, hm, hk, heq, hf0, hf1, hinj, hsb, hz⟩ := hT.h; obtain ⟨kt', hm', h0⟩ := h.find (P := P) (mt := mt) k w; (obtain rfl : kt' = kt := by rw [hm] at hm'; cases hm'; rfl); rcases h0 with ⟨j, e, v, h1, _, _, _, h2⟩ | ⟨h1, h2, _⟩
  · cases c <;> simp [Instr.lookup, run_underlying hm, MapKept.run_getObj_map hb, hk, h1, h2, Result.andThen]
  · cases c <;> simp [Instr.lookup, run_underlying hm, MapKept.run_getObj_map hb, hk, h1, hz, h2, Result.andThen]
theorem zdo (f : κ → Option α) (k : κ) (v : α) : qput f k v k = some v := by simp [qput]
theorem zcp (f : κ → Option α) {k j : κ} (v : α) (h : j ≠ k) : qput f k v j = f j := by simp [qput, h]
theorem zhF [hT : TyMf P mt et kV enc z] (hb : w.heap[g]? = some (.map es clock)) (h : MapF kV enc es clock f) (k : κ) (v : α) :
    ∃ es' clock', (Instr.mapUpdate mt (.map (some g)) (kV k) (enc v)).run P w = .ok () { w with heap := w.heap.setIfInBounds g (.map es' clock') } ∧ MapF kV enc es' clock' (qput f k v) := by
  obtain ⟨kt, hm, hk, heq, hf0, hf1, hinj, hsb, hz⟩ := hT.h; obtain ⟨kt', hm', h0⟩ := h.find (P := P) (mt := mt) k w; (obtain rfl : kt' = kt := by rw [hm] at hm'; cases hm'; rfl); rcases h0.symm with ⟨h1, h2, h3⟩ | ⟨j, e, v0, h1, hj, h3, h4, h2⟩
  · refine ⟨es.push { key := kV k, val := enc v, born := clock }, clock + 1, ?_, MapKept.stamped_push h.st h3, fun e he => ?_, fun j u hj => ?_, h.ij⟩
    · simp [Instr.mapUpdate, run_underlying hm, MapKept.run_getObj_map hb, hk, h1, MapKept.run_setObj_map _ hb, Result.andThen]
    · rw [Array.toList_push] at he; rcases List.mem_append.1 he with he | he
      · obtain ⟨i, u, h5, h6, h7⟩ := h.ent e he; exact ⟨i, u, h5, h6, by rw [zcp f v (fun q => h3 e he (by rw [h5, q]))]; exact h7⟩
      · simp at he; subst he; exact ⟨k, v, rfl, rfl, zdo f k v⟩
    · rw [Array.toList_push]; by_cases hjk : j = k
      · exact ⟨_, List.mem_append.2 (.inr (List.mem_singleton.2 rfl)), by rw [hjk]⟩
      · rw [zcp f v hjk] at hj; obtain ⟨e, he, hek⟩ := h.all j u hj; exact ⟨e, by simp [he], hek⟩
  · have hget : ∀ i, (es.modify j fun e => { e with key := kV k, val := enc v }).toList[i]? = if j = i then es[i]?.map (fun e => { e with key := kV k, val := enc v }) else es[i]? := fun i => by
      rw [Array.getElem?_toList, Array.getElem?_modify]
    have hkeys : ∀ (a b : Nat) (e1 e2 : MapEntry), es[a]? = some e1 → es[b]? = some e2 → e1.key = e2.key → a = b := fun a b e1 e2 ha hb hab => by
      have hn := h.st.2.2; (have ha' : (es.toList.map (·.key))[a]? = some e1.key := by rw [List.getElem?_map, Array.getElem?_toList, ha]; rfl); (have hb' : (es.toList.map (·.key))[b]? = some e2.key := by rw [List.getElem?_map, Array.getElem?_toList, hb]; rfl); have la := (List.getElem?_eq_some_iff.1 ha').1; exact (List.getElem?_inj la hn).1 (by rw [ha', hb', hab])
    refine ⟨es.modify j fun e => { e with key := kV k, val := enc v }, clock, ?_, MapKept.stamped_modify h.st j _ (fun _ _ => rfl) (fun e' _ he' => by rw [hj] at he'; cases he'; exact h3.symm), fun e' he' => ?_, fun i u hi => ?_, h.ij⟩
    · simp [Instr.mapUpdate, run_underlying hm, MapKept.run_getObj_map hb, hk, h1, hj, h3, Instr.keyThatStays, hsb, MapKept.run_setObj_map _ hb, Result.andThen]
    · obtain ⟨i, hi⟩ := List.mem_iff_getElem?.1 he'; rw [hget] at hi
      split at hi
      · rw [Option.map_eq_some_iff] at hi; obtain ⟨e0, _, rfl⟩ := hi; exact ⟨k, v, rfl, rfl, zdo f k v⟩
      · rename_i hne; obtain ⟨a, u, h5, h6, h7⟩ := h.ent e' (List.mem_of_getElem? (by rw [Array.getElem?_toList]; exact hi)); refine ⟨a, u, h5, h6, ?_⟩; rw [zcp f v (fun q => hne (hkeys j i e e' hj hi (by rw [h3, h5, q])))]; exact h7
    · by_cases hik : i = k
      · exact ⟨{ e with key := kV k, val := enc v }, List.mem_iff_getElem?.2 ⟨j, by rw [hget, if_pos rfl, hj]; rfl⟩, by rw [hik]⟩
      · rw [zcp f v hik] at hi; obtain ⟨e0, he0, hk0⟩ := h.all i u hi; obtain ⟨a, ha⟩ := List.mem_iff_getElem?.1 he0; by_cases hja : j = a
        · subst hja; rw [Array.getElem?_toList, hj] at ha; obtain rfl := Option.some.inj ha; rw [h3] at hk0; exact absurd (h.ij _ _ hk0).symm hik
        · exact ⟨e0, List.mem_iff_getElem?.2 ⟨a, by rw [hget, if_neg hja, ← Array.getElem?_toList]; exact ha⟩, hk0⟩
end
@[irreducible] def Ent.mf {κ α : Type} (kV : κ → Value) (enc : α → Value) (g : Nat) (f : κ → Option α) : Ent where
  fp := (· = g)
  ok w := ∃ es clock, w.heap[g]? = some (.map es clock) ∧ MapF kV enc es clock f
  loc h k := by obtain ⟨es, cl, h1, h2⟩ := k; exact ⟨es, cl, (h g rfl).trans h1, h2⟩
  lt h k e := by obtain ⟨es, cl, h1, h2⟩ := h; subst e; exact (Array.getElem?_eq_some_iff.1 h1).1
  nd h k e c := by obtain ⟨es, cl, h1, h2⟩ := h; subst e; rw [h1]; simp
theorem Ent.mf_fp {κ α : Type} {kV : κ → Value} {enc : α → Value} {g : Nat} {f : κ → Option α} {k : Nat} : (Ent.mf kV enc g f).fp k ↔ k = g := by unfold Ent.mf; exact Iff.rfl
theorem Ent.mf_ok {κ α : Type} {kV : κ → Value} {enc : α → Value} {g : Nat} {f : κ → Option α} {w : World} : (Ent.mf kV enc g f).ok w ↔ ∃ es clock, w.heap[g]? = some (.map es clock) ∧ MapF kV enc es clock f := by unfold Ent.mf; exact Iff.rfl
structure SweepF {κ α : Type} (kV : κ → Value) (enc : α → Value) (g r : Nat) (f : κ → Option α) (left : κ → Bool) (cnt : Nat) (cur : Option κ) (w : World) : Prop where
  ex : ∃ es clock seen, w.heap[g]? = some (.map es clock) ∧ w.heap[r]? = some (.mapIter (some g) clock seen clock) ∧ MapF kV enc es clock f ∧ cnt = (leftOf es seen).size ∧
    (∀ k, left k = true ↔ ∃ e ∈ (leftOf es seen).toList, e.key = kV k) ∧ ∀ k, cur = some k → ∃ e ∈ es.toList, ∃ s : Array Nat, seen = s.push e.born ∧ e.key = kV k
@[irreducible] def Ent.ns {κ α : Type} (kV : κ → Value) (enc : α → Value) (g r : Nat) (f : κ → Option α) (left : κ → Bool) (cnt : Nat) (cur : Option κ) : Ent where
  fp k := k = g ∨ k = r
  ok := SweepF kV enc g r f left cnt cur
  loc h k := by obtain ⟨es, cl, seen, h1, h2, h3⟩ := k.ex; exact ⟨es, cl, seen, (h g (.inl rfl)).trans h1, (h r (.inr rfl)).trans h2, h3⟩
  lt h k e := by
    obtain ⟨es, cl, seen, h1, h2, h3⟩ := h.ex; rcases e with rfl | rfl
    · exact (Array.getElem?_eq_some_iff.1 h1).1
    · exact (Array.getElem?_eq_some_iff.1 h2).1
  nd h k e c := by
    obtain ⟨es, cl, seen, h1, h2, h3⟩ := h.ex; rcases e with rfl | rfl
    · rw [h1]; simp
    · rw [h2]; simp
theorem Ent.ns_fp {κ α : Type} {kV : κ → Value} {enc : α → Value} {g r : Nat} {f : κ → Option α} {left : κ → Bool} {cnt : Nat} {cur : Option κ} {k : Nat} : (Ent.ns kV enc g r f left cnt cur).fp k ↔ k = g ∨ k = r := by unfold Ent.ns; exact Iff.rfl
theorem Ent.ns_ok {κ α : Type} {kV : κ → Value} {enc : α → Value} {g r : Nat} {f : κ → Option α} {left : κ → Bool} {cnt : Nat} {cur : Option κ} {w : World} : (Ent.ns kV enc g r f left cnt cur).ok w ↔ SweepF kV enc g r f left cnt cur w := by unfold Ent.ns; exact Iff.rfl
section
variable {P : Program} {n : Nat} {B D : World} {M : Nat → Prop} {F : Fence} [hF : Calm F] {Q : Exit → Act → World → Prop} {fs : SFs} {hs : HS} {ops : Array Oper} {rest : List Oper} {o : Oper} {κ α : Type} [DecidableEq κ] {kV : κ → Value} {enc : α → Value} {f : κ → Option α} {g r : Nat} {mt kt et : TypeId} {z : α}
theorem Ew.bS [hT : TyMf P mt et kV enc z] (ho : o.op = .makeMap mt none) : Ew P n B M fs hs o (fun v hs' => ∃ g, v = .map (some g) ∧ hs' = .mf kV enc g (fun _ => none) :: hs) := Ew.aD fun a w ha hp => by
  obtain ⟨kt, hm, hk, heq, hf0, hf1, hinj, hsb, hz⟩ := hT.h; refine ⟨_, w.alloc (.map #[] 0), _, ?_, Kp.alloc w _, hp.fresh ((Below.refl _ _).alloc (Nat.le_refl _) _) (Ent.mf_ok.2 ⟨#[], 0, (MapKept.heap_alloc w _).1, MapKept.stamped_empty 0, fun e he => by simp at he, fun c v hc => (by cases hc), hinj⟩) (fun g hg => by rw [Ent.mf_fp.1 hg]; exact Nat.le_refl _), w.heap.size, rfl, rfl⟩; unfold execOp; simp [ho, Instr.makeMap, run_underlying hm, Result.andThen]
theorem Ew.bK [hT : TyMf P mt et kV enc z] (i : Nat) {x y u : Operand} {k : κ} {v : α} {hs' : HS} (ho : o.op = .mapUpdate mt x y u) (hx : ev fs x = some (.map (some g))) (hy : ev fs y = some (kV k)) (hu : ev fs u = some (enc v)) (hi : hs[i]? = some (.mf kV enc g f)) [hH : SetAt hs i (.mf kV enc g (qput f k v)) hs'] : Ew P n B M fs hs o (fun v hs'' => v = undef ∧ hs'' = hs') := Ew.aR fun a w ha hp => by
  obtain ⟨es, clock, hb, hS⟩ := Ent.mf_ok.1 (hp.get hi); obtain ⟨es', cl', h1, h2⟩ := zhF (P := P) (mt := mt) hb hS k v; have hlt := (Array.getElem?_eq_some_iff.1 hb).1
  have hon : Only (· = g) w { w with heap := w.heap.setIfInBounds g (.map es' cl') } := ⟨rfl, rfl, rfl, by simp, fun k hk hn => by
    simp only [Array.getElem?_setIfInBounds]
    rw [if_neg (fun e => hn e.symm)]⟩
  refine ⟨_, hs', ?_, Kp.only hon (fun k e c => by subst e; rw [hb]; simp), ?_, rfl, rfl⟩
  · unfold execOp; simp [ho, ha.ev hx, ha.ev hy, ha.ev hu, h1, Result.andThen]
  · rw [← hH.h]; exact hp.updAt hi hon (fun k _ hk => Ent.mf_fp.2 hk) (Ent.mf_ok.2 ⟨es', cl', by simp [hlt], h2⟩) (fun k hk => .inl (Ent.mf_fp.2 (Ent.mf_fp.1 hk)))
theorem Yv.bL [hT : TyMf P mt et kV enc z] (i : Nat) {x y : Operand} {k : κ} (ho : o.op = .lookup mt x y false) (hx : ev fs x = some (.map (some g))) (hy : ev fs y = some (kV k)) (hi : hs[i]? = some (.mf kV enc g f)) : Yv P n B M fs hs o (enc ((f k).getD z)) := fun a w ha hp => by
  obtain ⟨es, clock, hb, hS⟩ := Ent.mf_ok.1 (hp.get hi); unfold execOp; simp [ho, ha.ev hx, ha.ev hy, zfV (P := P) (mt := mt) hb hS k false, Result.andThen]
theorem Ew.bn [hT : TyMf P mt et kV enc z] (i : Nat) {x : Operand} (ho : o.op = .range mt x) (hx : ev fs x = some (.map (some g))) (hi : hs[i]? = some (.mf kV enc g f)) : Ew P n B M fs hs o (fun v hs' => ∃ r c, v = .pointer (some ⟨r, 0, none⟩) ∧ hs' = hs.set i (.ns kV enc g r f (fun k => (f k).isSome) c none)) := Ew.aD fun a w ha hp => by
  obtain ⟨kt, hm, hk, heq, hf0, hf1, hinj, hsb, hz⟩ := hT.h; obtain ⟨es, clock, hb, hS⟩ := Ent.mf_ok.1 (hp.get hi); have hlt := (Array.getElem?_eq_some_iff.1 hb).1; have hon : Only (fun _ => False) w (w.alloc (.mapIter (some g) clock #[] clock)) := ⟨rfl, rfl, rfl, by rw [show (w.alloc (.mapIter (some g) clock #[] clock)).heap = w.heap.push (.mapIter (some g) clock #[] clock) from rfl]; simp, fun k hk _ => heap_alloc_old w _ hk⟩
  have hl : leftOf es #[] = es := by
    unfold leftOf; exact Array.filter_eq_self.2 (fun e _ => by simp)
  refine ⟨_, w.alloc (.mapIter (some g) clock #[] clock), _, ?_, Kp.alloc w _, hp.updAt hi hon (fun k _ hk => hk.elim) (Ent.ns_ok.2 ⟨⟨es, clock, #[], (heap_alloc_old w _ hlt).trans hb, heap_alloc_new w _, hS, by rw [hl], fun k => ?_, fun k hk => by cases hk⟩⟩) (fun k hk => ?_), w.heap.size, es.size, rfl, rfl⟩
  · unfold execOp; simp [ho, ha.ev hx, run_range_map w mt kt et g es clock hm hb, Result.andThen]
  · rw [hl]; constructor
    · intro hk; obtain ⟨v, hv⟩ := Option.isSome_iff_exists.1 hk; exact hS.all k v hv
    · rintro ⟨e, he, hek⟩; obtain ⟨j, v, h1, h2, h3⟩ := hS.ent e he; rw [hek] at h1; obtain rfl : k = j := hS.ij _ _ h1; rw [h3]; rfl
  · rcases Ent.ns_fp.1 hk with rfl | rfl
    · exact .inl (Ent.mf_fp.2 rfl)
    · exact .inr (Nat.le_refl _)
theorem leftOf_push {es : Array MapEntry} {seen : Array Nat} {b : Nat} {x : MapEntry} : x ∈ (leftOf es (seen.push b)).toList ↔ x ∈ (leftOf es seen).toList ∧ x.born ≠ b := by
  unfold leftOf; simp; constructor
  · rintro ⟨h1, h2, h3⟩; exact ⟨⟨h1, h2⟩, h3⟩
  · rintro ⟨⟨h1, h2⟩, h3⟩; exact ⟨h1, h2, h3⟩
theorem zht {es : Array MapEntry} {seen : Array Nat} {e : MapEntry} (he : e ∈ (leftOf es seen).toList) : (leftOf es (seen.push e.born)).size < (leftOf es seen).size := by
  rw [← Array.length_toList, ← Array.length_toList]; unfold leftOf at he ⊢; rw [Array.toList_filter] at he ⊢; rw [Array.toList_filter]; have hm := List.mem_filter.1 he; exact filter_lt (fun x => !seen.contains x.born) (fun x => !(seen.push e.born).contains x.born) (fun x hx => by simp at hx ⊢; exact hx.1) e (by simpa using hm.2) (by simp) es.toList hm.1
theorem MapF.inj {es : Array MapEntry} {clock : Nat} (h : MapF kV enc es clock f) {x y : MapEntry} (hx : x ∈ es.toList) (hy : y ∈ es.toList) : (x.born = y.born ↔ x.key = y.key) := by
  obtain ⟨a, ha⟩ := List.mem_iff_getElem?.1 hx; obtain ⟨b, hb⟩ := List.mem_iff_getElem?.1 hy
  have key : ∀ {β : Type} (q : MapEntry → β), (es.toList.map q).Nodup → q x = q y → a = b := fun q hn hq => by
    (have ha' : (es.toList.map q)[a]? = some (q x) := by rw [List.getElem?_map, ha]; rfl); (have hb' : (es.toList.map q)[b]? = some (q y) := by rw [List.getElem?_map, hb]; rfl); exact (List.getElem?_inj (List.getElem?_eq_some_iff.1 ha').1 hn).1 (by rw [ha', hb', hq])
  constructor
  · intro q; have := key (·.born) h.st.2.1 q; subst this; rw [ha] at hb; cases hb; rfl
  · intro q; have := key (·.key) h.st.2.2 q; subst this; rw [ha] at hb; cases hb; rfl
variable {left : κ → Bool} {cnt : Nat} {cur : Option κ}
theorem mem_leftOf {es : Array MapEntry} {seen : Array Nat} {x : MapEntry} : x ∈ (leftOf es seen).toList ↔ x ∈ es.toList ∧ x.born ∉ seen := by
  unfold leftOf; simp
theorem Ew.bw {x : Operand} (ho : o.op = .next x false) (hx : ev fs x = some (.pointer (some ⟨r, 0, none⟩))) : Ew P n B M fs (.ns kV enc g r f left cnt cur :: hs) o (fun v hs' => (v = .tuple #[.bool false] ∧ hs' = .ns kV enc g r f left cnt cur :: hs ∧ ∀ k, left k = false) ∨ ∃ k u c, v = .tuple #[.bool true, kV k, enc u] ∧ hs' = .ns kV enc g r f (fun j => left j && !decide (j = k)) c (some k) :: hs ∧ left k = true ∧ f k = some u ∧ c < cnt) := Ew.aD fun a w ha hp => by
  obtain ⟨es, clock, seen, hb, hr, hS, hc, hl, hcur⟩ := (Ent.ns_ok.1 (hp.get (i := 0) rfl)).ex; (have hrg : r ≠ g := fun e => by rw [e, hb] at hr; cases hr); rcases run_next_at (P := P) w o.type r g clock clock seen es clock hr hb hS.st.1 (Nat.le_refl _) with ⟨h0, h1⟩ | ⟨e, he, w1, hw1, h1⟩
  · refine ⟨_, w, _, ?_, Kp.refl w, hp, .inl ⟨rfl, rfl, fun k => ?_⟩⟩
    · unfold execOp; simp [ho, ha.ev hx, h1, Result.andThen]
    · cases hk : left k with
      | false => rfl
      | true =>
        obtain ⟨e, he, _⟩ := (hl k).1 hk; rw [Array.eq_empty_of_size_eq_zero h0] at he; simp at he
  · have hes := (mem_leftOf.1 he).1; obtain ⟨k, u, h2, h3, h4⟩ := hS.ent e hes; have hlt := (Array.getElem?_eq_some_iff.1 hr).1; (have hh : w1.heap = w.heap := by rcases hw1 with rfl | rfl <;> rfl)
    have hw' : (setBlock w1 r (.mapIter (some g) clock (seen.push e.born) clock)).heap = w.heap.setIfInBounds r (.mapIter (some g) clock (seen.push e.born) clock) := by
      unfold setBlock; simp [hh]
    have hon : Only (· = r) w (setBlock w1 r (.mapIter (some g) clock (seen.push e.born) clock)) := ⟨by rcases hw1 with rfl | rfl <;> rfl, by rcases hw1 with rfl | rfl <;> rfl, by rcases hw1 with rfl | rfl <;> rfl, by rw [hw']; simp, fun k hk hn => by
      rw [hw']; simp only [Array.getElem?_setIfInBounds]
      rw [if_neg (fun e => hn e.symm)]⟩
    refine ⟨_, _, .ns kV enc g r f (fun j => left j && !decide (j = k)) (leftOf es (seen.push e.born)).size (some k) :: hs, ?_, Kp.only hon (fun k e c => by subst e; rw [hr]; simp), hp.updAt (i := 0) rfl hon (fun k _ hk => Ent.ns_fp.2 (.inr hk)) (Ent.ns_ok.2 ⟨⟨es, clock, seen.push e.born, by rw [hw']; simp [hrg]; exact hb, by rw [hw']; simp [hlt], hS, rfl, fun j => ?_, fun j hj => ?_⟩⟩) (fun k hk => .inl (Ent.ns_fp.2 (Ent.ns_fp.1 hk))), .inr ⟨k, u, _, rfl, rfl, (hl k).2 ⟨e, he, h2⟩, h4, ?_⟩⟩
    · unfold execOp; simp [ho, ha.ev hx, h1, h2, h3, Result.andThen]
    · simp only [Bool.and_eq_true, Bool.not_eq_true', decide_eq_false_iff_not, hl]; constructor
      · rintro ⟨⟨x, hx1, hx2⟩, hjk⟩; refine ⟨x, leftOf_push.2 ⟨hx1, fun q => hjk ?_⟩, hx2⟩; have := (hS.inj (mem_leftOf.1 hx1).1 hes).1 q; rw [hx2, h2] at this; exact hS.ij _ _ this
      · rintro ⟨x, hx1, hx2⟩; obtain ⟨hx3, hx4⟩ := leftOf_push.1 hx1; refine ⟨⟨x, hx3, hx2⟩, fun q => hx4 ((hS.inj (mem_leftOf.1 hx3).1 hes).2 (by rw [hx2, h2, q]))⟩
    · cases hj
      exact ⟨e, hes, seen, rfl, h2⟩
    · rw [hc]; exact zht he
theorem Yv.bo (i : Nat) {x : Operand} {k : κ} {u : α} (ho : o.op = .entry x) (hx : ev fs x = some (.pointer (some ⟨r, 0, none⟩))) (hi : hs[i]? = some (.ns kV enc g r f left cnt (some k))) (hu : f k = some u) : Yv P n B M fs hs o (.tuple #[kV k, enc u]) := fun a w ha hp => by
  obtain ⟨es, clock, seen, hb, hr, hS, hc, hl, hcur⟩ := (Ent.ns_ok.1 (hp.get hi)).ex; obtain ⟨e, he, s, rfl, hek⟩ := hcur k rfl; obtain ⟨k', u', h2, h3, h4⟩ := hS.ent e he; rw [hek] at h2; obtain rfl : k = k' := hS.ij _ _ h2; rw [hu] at h4; obtain rfl := Option.some.inj h4; unfold execOp; simp [ho, ha.ev hx, run_entry_at w r g clock s es clock e hr hb he hS.st.2.1, hek, h3, Result.andThen]
theorem Hp.nsEnd {w : World} {f' : κ → Option α} (h : f = f') (hp : Hp B M (.ns kV enc g r f left cnt cur :: hs) w) : Hp B M (.mf kV enc g f' :: hs) w := by
  subst h; obtain ⟨es, clock, seen, hb, hr, hS, _⟩ := (Ent.ns_ok.1 (hp.get (i := 0) rfl)).ex; exact hp.updAt (i := 0) rfl (Only.refl (fun _ => False) w) (fun _ _ h => h.elim) (Ent.mf_ok.2 ⟨es, clock, hb, hS⟩) (fun k hk => .inl (Ent.ns_fp.2 (.inl (Ent.mf_fp.1 hk))))
theorem TL.nsEnd {l : List Oper} {f' : κ → Option α} (h : f = f') (k : TL F P n B D M ops Q l fs (.mf kV enc g f' :: hs)) : TL F P n B D M ops Q l fs (.ns kV enc g r f left cnt cur :: hs) := ⟨fun a w ha hw hm => k.out a w ha (Hp.nsEnd h hw) hm⟩
end
theorem zf2 {c l : List Value} {n j q : Nat} (h : (c.drop 0).take n = l) (hj : j + q ≤ n) : (c.drop j).take q = (l.drop j).take q := by
  subst h; rw [List.drop_zero, List.drop_take, List.take_take, Nat.min_eq_left (by omega)]
section
variable {P : Program} {n : Nat} {B D : World} {M S0 : Nat → Prop} {fs : SFs} {hs : HS} {o : Oper} {v : Value}
theorem Yv.len8 {t : TypeId} {y : Operand} {k : IntKind} {i : Int} (hU : P.underlying t = some .string) (ho : o.op = .index t (.const (.string Lib.len8tab)) y) (hy : ev fs y = some (.int k i)) (h : 0 ≤ i ∧ i ≤ 255) : Yv P n B M fs hs o (.int .u8 (Lib.len8 i)) := fun f w ha _ => by
  have h1 := Lib.run_index_len8tab (P := P) w t k i hU h.1 h.2; have hx0 : ev fs (.const (.string Lib.len8tab)) = some (.string Lib.len8tab) := rfl; generalize Lib.len8tab = T at *; unfold execOp; simp [ho, ha.ev hy, ha.ev hx0]; rw [h1]; rfl
theorem Yv.bx {x : Operand} {t : TypeId} {a : Int} (ho : o.op = .unOp .neg t x) (hx : ev fs x = some (.int .i64 a)) : Yv P n B M fs hs o (.int .i64 (wI (0 - a))) := fun f w ha _ => by
  unfold execOp; simp [ho, ha.ev hx, Op.unary, Op.intArith]
def quoK (k : IntKind) (a b : Int) : Int := k.wrap (a.tdiv b)
theorem Yv.quoK {x y : Operand} {t u : TypeId} {k : IntKind} {a b : Int} (ho : o.op = .binOp .quo t x y u) (hx : ev fs x = some (.int k a)) (hy : ev fs y = some (.int k b)) (hb : b ≠ 0) : Yv P n B M fs hs o (.int k (quoK k a b)) := fun f w ha _ => by
  unfold execOp; simp [ho, ha.ev hx, ha.ev hy, eqGuard, binOp, Op.intDiv, hb, Go.Proofs.YtlaafmiejkebgaaGreat.quoK]
theorem Yv.cn {x y : Operand} {t u : TypeId} {a b : BitVec 64} (ho : o.op = .binOp .quo t x y u) (hx : ev fs x = some (U a)) (hy : ev fs y = some (U b)) (hb : ¬ b = 0#64) : Yv P n B M fs hs o (U (a / b)) :=
  (Yv.quoK (k := .u64) (a := (a.toNat : Int)) (b := (b.toNat : Int)) ho hx hy (fun h => hb (BitVec.eq_of_toNat_eq (Int.ofNat.inj h)))).eq (by
    unfold Go.Proofs.YtlaafmiejkebgaaGreat.quoK; rw [zhn]
    show Value.int .u64 _ = .int .u64 (((a / b).toNat : Nat) : Int)
    rw [show (a.toNat : Int).tdiv (b.toNat : Int) = ((a.toNat / b.toNat : Nat) : Int) from rfl, BitVec.ofInt_natCast, BitVec.toNat_udiv, BitVec.toNat_ofNat, Nat.mod_eq_of_lt (Nat.lt_of_le_of_lt (Nat.div_le_self _ _) a.isLt)])
theorem K.bX {Q : Exit → Act → World → Prop} {x : Exit} {hs' : HS} (h : hs = hs') (k : K n B D M Q x fs hs') : K n B D M Q x fs hs := h ▸ k
theorem K.aZ (i j : Nat) {fn : Func} {R : Ending → World → Prop} {t u t2 u2 : TypeId} {s r g k s2 g2 k2 : Nat} {l l2 : List Value} {x : Value} [hT : TyA P t k] [hT2 : TyA P t2 k2] (hr : fn.results = #[.cell s t, .cell s2 t2, .tmp r]) (hv : look fs s = some (.pointer (some ⟨g, 0, none⟩))) (hv2 : look fs s2 = some (.pointer (some ⟨g2, 0, none⟩))) (hx : look fs r = some x) (hi : hs[i]? = some (.row g u l)) (hj : hs[j]? = some (.row g2 u2 l2)) (hl : l.length = k) (hl2 : l2.length = k2) (h : ∀ w, Hp B M hs w → R (.returned (.tuple #[.agg l.toArray, .agg l2.toArray, x])) w) : K n B D M (zee P fn R) .ret fs hs :=
  (K.aV (fun a w ha hw => by
    have h1 := zdt (P := P) (t := t) (Ent.row_ok.1 (hw.get hi)) hl; have h2 := zdt (P := P) (t := t2) (Ent.row_ok.1 (hw.get hj)) hl2
    simp [results, hr, ha.get s _ hv, ha.get s2 _ hv2, ha.get r _ hx, asAddr, h1, h2]) h).1
end
section
variable {κ α : Type} [DecidableEq κ] {kV : κ → Value} {enc : α → Value} {es : Array MapEntry} {clock : Nat} {f : κ → Option α}
theorem zhg (f : κ → Option α) (k : κ) (u v : α) : qput (qput f k u) k v = qput f k v := by
  funext j
  unfold qput
  cases decide (j = k) <;> rfl
theorem ziv {f : κ → Option α} {k : κ} {v : α} (h : f k = some v) : qput f k v = f := by
  funext j
  unfold qput; by_cases hj : j = k
  · subst hj; rw [decide_eq_true rfl, h]; rfl
  · rw [decide_eq_false hj]; rfl
theorem MapF.push (h : MapF kV enc es clock f) {k : κ} {v : α} (h3 : ∀ e ∈ es.toList, e.key ≠ kV k) : MapF kV enc (es.push { key := kV k, val := enc v, born := clock }) (clock + 1) (qput f k v) := by
  refine ⟨MapKept.stamped_push h.st h3, fun e he => ?_, fun j u hj => ?_, h.ij⟩
  · rw [Array.toList_push] at he; rcases List.mem_append.1 he with he | he
    · obtain ⟨i, u, h5, h6, h7⟩ := h.ent e he; exact ⟨i, u, h5, h6, by rw [zcp f v (fun q => h3 e he (by rw [h5, q]))]; exact h7⟩
    · simp at he; subst he; exact ⟨k, v, rfl, rfl, zdo f k v⟩
  · rw [Array.toList_push]; by_cases hjk : j = k
    · exact ⟨_, List.mem_append.2 (.inr (List.mem_singleton.2 rfl)), by rw [hjk]⟩
    · rw [zcp f v hjk] at hj; obtain ⟨e, he, hek⟩ := h.all j u hj; exact ⟨e, by simp [he], hek⟩
theorem MapF.modV (h : MapF kV enc es clock f) {j : Nat} {e : MapEntry} {k : κ} {v : α} (hj : es[j]? = some e) (h3 : e.key = kV k) : MapF kV enc (es.modify j fun e => { e with val := enc v }) clock (qput f k v) := by
  have hget : ∀ i, (es.modify j fun e => { e with val := enc v }).toList[i]? = if j = i then es[i]?.map (fun e => { e with val := enc v }) else es[i]? := fun i => by
    rw [Array.getElem?_toList, Array.getElem?_modify]
  have hkeys : ∀ (a b : Nat) (e1 e2 : MapEntry), es[a]? = some e1 → es[b]? = some e2 → e1.key = e2.key → a = b := fun a b e1 e2 ha hb hab => by
    have hn := h.st.2.2; (have ha' : (es.toList.map (·.key))[a]? = some e1.key := by rw [List.getElem?_map, Array.getElem?_toList, ha]; rfl); (have hb' : (es.toList.map (·.key))[b]? = some e2.key := by rw [List.getElem?_map, Array.getElem?_toList, hb]; rfl); have la := (List.getElem?_eq_some_iff.1 ha').1; exact (List.getElem?_inj la hn).1 (by rw [ha', hb', hab])
  refine ⟨MapKept.stamped_modify h.st j _ (fun _ _ => rfl) (fun e' _ he' => rfl), fun e' he' => ?_, fun i u hi => ?_, h.ij⟩
  · obtain ⟨i, hi⟩ := List.mem_iff_getElem?.1 he'; rw [hget] at hi
    split at hi
    · rename_i hji; subst hji; rw [hj] at hi; obtain rfl := Option.some.inj hi; exact ⟨k, v, h3, rfl, zdo f k v⟩
    · rename_i hne; obtain ⟨a, u, h5, h6, h7⟩ := h.ent e' (List.mem_of_getElem? (by rw [Array.getElem?_toList]; exact hi)); refine ⟨a, u, h5, h6, ?_⟩; rw [zcp f v (fun q => hne (hkeys j i e e' hj hi (by rw [h3, h5, q])))]; exact h7
  · by_cases hik : i = k
    · exact ⟨{ e with val := enc v }, List.mem_iff_getElem?.2 ⟨j, by rw [hget, if_pos rfl, hj]; rfl⟩, by rw [hik]; exact h3⟩
    · rw [zcp f v hik] at hi; obtain ⟨e0, he0, hk0⟩ := h.all i u hi; obtain ⟨a, ha⟩ := List.mem_iff_getElem?.1 he0; by_cases hja : j = a
      · subst hja; rw [Array.getElem?_toList, hj] at ha; obtain rfl := Option.some.inj ha; rw [h3] at hk0; exact absurd (h.ij _ _ hk0).symm hik
      · exact ⟨e0, List.mem_iff_getElem?.2 ⟨a, by rw [hget, if_neg hja, ← Array.getElem?_toList]; exact ha⟩, hk0⟩
theorem zhV {j : Nat} {e : MapEntry} {k : Value} (hj : es[j]? = some e) (h3 : e.key = k) : (es.modify j fun e => { e with key := k }) = es := by
  apply Array.ext_getElem?; intro i; rw [Array.getElem?_modify]
  split
  · rename_i h; subst h; rw [hj, ← h3]; rfl
  · rfl
end
@[irreducible] def Ent.me {κ α : Type} (kV : κ → Value) (enc : α → Value) (g : Nat) (f : κ → Option α) (k : κ) (b : Nat) : Ent where
  fp := (· = g)
  ok w := ∃ es clock, w.heap[g]? = some (.map es clock) ∧ MapF kV enc es clock f ∧ ∃ e ∈ es.toList, e.key = kV k ∧ e.born = b
  loc h k := by obtain ⟨es, cl, h1, h2⟩ := k; exact ⟨es, cl, (h g rfl).trans h1, h2⟩
  lt h k e := by obtain ⟨es, cl, h1, h2⟩ := h; subst e; exact (Array.getElem?_eq_some_iff.1 h1).1
  nd h k e c := by obtain ⟨es, cl, h1, h2⟩ := h; subst e; rw [h1]; simp
theorem Ent.me_fp {κ α : Type} {kV : κ → Value} {enc : α → Value} {g : Nat} {f : κ → Option α} {k : κ} {b q : Nat} : (Ent.me kV enc g f k b).fp q ↔ q = g := by unfold Ent.me; exact Iff.rfl
theorem Ent.me_ok {κ α : Type} {kV : κ → Value} {enc : α → Value} {g : Nat} {f : κ → Option α} {k : κ} {b : Nat} {w : World} : (Ent.me kV enc g f k b).ok w ↔ ∃ es clock, w.heap[g]? = some (.map es clock) ∧ MapF kV enc es clock f ∧ ∃ e ∈ es.toList, e.key = kV k ∧ e.born = b := by unfold Ent.me; exact Iff.rfl
section
variable {P : Program} {n : Nat} {B D : World} {M : Nat → Prop} {F : Fence} [hF : Calm F] {Q : Exit → Act → World → Prop} {fs : SFs} {hs : HS} {ops : Array Oper} {o : Oper} {κ α : Type} [DecidableEq κ] {kV : κ → Value} {enc : α → Value} {m : List (κ × α)} {g : Nat} {mt et : TypeId} {z : α}
theorem Ew.by [hT : TyMf P mt et kV enc z] (ho : o.op = .makeMap mt none) : Ew P n B M fs hs o (fun v hs' => ∃ g, v = .map (some g) ∧ hs' = .mf kV enc g (qf ([] : List (κ × α))) :: hs) := Ew.bS ho
theorem Ew.cf [hT : TyMf P mt et kV enc z] (i : Nat) {x y u : Operand} {k : κ} {v : α} {hs' : HS} (ho : o.op = .mapUpdate mt x y u) (hx : ev fs x = some (.map (some g))) (hy : ev fs y = some (kV k)) (hu : ev fs u = some (enc v)) (hi : hs[i]? = some (.mf kV enc g (qf m))) [hH : SetAt hs i (.mf kV enc g (qf (qset m k v))) hs'] : Ew P n B M fs hs o (fun v hs'' => v = undef ∧ hs'' = hs') := by
  haveI : SetAt hs i (.mf kV enc g (qput (qf m) k v)) hs' := ⟨by rw [← zdq]; exact hH.h⟩; exact Ew.bK i ho hx hy hu hi
theorem Ew.aY [hT : TyMf P mt et kV enc z] (i : Nat) {x y : Operand} {k : κ} {hs' : Nat → HS} (ho : o.op = .mapEntry mt x y) (hx : ev fs x = some (.map (some g))) (hy : ev fs y = some (kV k)) (hi : hs[i]? = some (.mf kV enc g (qf m))) [hH : ∀ b, SetAt hs i (.me kV enc g (qf (qset m k ((qf m k).getD z))) k b) (hs' b)] : Ew P n B M fs hs o (fun v hs'' => ∃ b : Nat, v = .tuple #[enc ((qf m k).getD z), .int .i64 (b : Int)] ∧ hs'' = hs' b) := Ew.aD fun a w ha hp => by
  obtain ⟨kt, hm, hk, heq, hf0, hf1, hinj, hsb, hz⟩ := hT.h; obtain ⟨es, clock, hb, hS⟩ := Ent.mf_ok.1 (hp.get hi); obtain ⟨kt', hm', h0⟩ := hS.find (P := P) (mt := mt) k w; (obtain rfl : kt' = kt := by rw [hm] at hm'; cases hm'; rfl); have hlt := (Array.getElem?_eq_some_iff.1 hb).1
  have hon : ∀ es' cl', Only (· = g) w { w with heap := w.heap.setIfInBounds g (.map es' cl') } := fun es' cl' => ⟨rfl, rfl, rfl, by simp, fun k hk hn => by
    simp only [Array.getElem?_setIfInBounds]
    rw [if_neg (fun e => hn e.symm)]⟩
  rcases h0 with ⟨j, e, v, h1, hj, h3, h4, h2⟩ | ⟨h1, h2, h3⟩
  · have hE : MapF kV enc es clock (qf (qset m k ((qf m k).getD z))) := by
      rw [zdq, h2, Option.getD_some, ziv h2]; exact hS
    have hrun : (Instr.mapEntry mt (.map (some g)) (kV k)).run P w = .ok (.tuple #[enc v, .int .i64 (e.born : Int)]) { w with heap := w.heap.setIfInBounds g (.map (es.modify j fun e => { e with key := kV k }) clock) } := by
      simp [Instr.mapEntry, run_underlying hm, MapKept.run_getObj_map hb, hk, h1, hj, h3, Instr.keyThatStays, hsb, MapKept.run_setObj_map _ hb, Result.andThen]
      rfl
    rw [zhV hj h3] at hrun; refine ⟨.tuple #[enc v, .int .i64 (e.born : Int)], _, hs' e.born, ?_, Kp.only (hon es clock) (fun k e c => by subst e; rw [hb]; simp), ?_, e.born, by rw [h2]; rfl, rfl⟩
    · unfold execOp; simp [ho, ha.ev hx, ha.ev hy, hrun, Result.andThen]
    · rw [← (hH e.born).h]; exact hp.updAt hi (hon es clock) (fun k _ hk => Ent.mf_fp.2 hk) (Ent.me_ok.2 ⟨es, clock, by simp [hlt], hE, e, List.mem_of_getElem? (by rw [Array.getElem?_toList]; exact hj), h3, rfl⟩) (fun k hk => .inl (Ent.mf_fp.2 (Ent.me_fp.1 hk)))
  · have hE : MapF kV enc (es.push { key := kV k, val := enc z, born := clock }) (clock + 1) (qf (qset m k ((qf m k).getD z))) := by
      rw [zdq, h2, Option.getD_none]; exact hS.push h3
    have hrun : (Instr.mapEntry mt (.map (some g)) (kV k)).run P w = .ok (.tuple #[enc z, .int .i64 (clock : Int)]) { w with heap := w.heap.setIfInBounds g (.map (es.push { key := kV k, val := enc z, born := clock }) (clock + 1)) } := by
      simp [Instr.mapEntry, run_underlying hm, MapKept.run_getObj_map hb, hk, h1, hz, MapKept.run_setObj_map _ hb, Result.andThen]
      rfl
    have hon' := hon (es.push { key := kV k, val := enc z, born := clock }) (clock + 1); refine ⟨.tuple #[enc z, .int .i64 (clock : Int)], _, hs' clock, ?_, Kp.only hon' (fun k e c => by subst e; rw [hb]; simp), ?_, clock, by rw [h2]; rfl, rfl⟩
    · unfold execOp; simp [ho, ha.ev hx, ha.ev hy, hrun, Result.andThen]
    · rw [← (hH clock).h]; exact hp.updAt hi hon' (fun k _ hk => Ent.mf_fp.2 hk) (Ent.me_ok.2 ⟨_, _, by simp [hlt], hE, _, by rw [Array.toList_push]; exact List.mem_append.2 (.inr (List.mem_singleton.2 rfl)), rfl, rfl⟩) (fun k hk => .inl (Ent.mf_fp.2 (Ent.me_fp.1 hk)))
theorem Yv.cg [hT : TyMf P mt et kV enc z] (i : Nat) {x y : Operand} {k : κ} {b : Nat} (ho : o.op = .lookup mt x y false) (hx : ev fs x = some (.map (some g))) (hy : ev fs y = some (kV k)) (hi : hs[i]? = some (.me kV enc g (qf (qset m k ((qf m k).getD z))) k b)) : Yv P n B M fs hs o (enc ((qf m k).getD z)) := fun a w ha hp => by
  obtain ⟨es, clock, hb, hS, _⟩ := Ent.me_ok.1 (hp.get hi); have h1 := zfV (P := P) (mt := mt) hb hS k false; rw [zdq, zdo, Option.getD_some] at h1; unfold execOp; simp [ho, ha.ev hx, ha.ev hy, h1, Result.andThen]
theorem Ew.aU (i : Nat) {x y u : Operand} {k : κ} {b : Nat} {c v : α} {hs' : HS} (ho : o.op = .entryStore mt x y u) (hx : ev fs x = some (.map (some g))) (hy : ev fs y = some (.int .i64 (b : Int))) (hu : ev fs u = some (enc v)) (hi : hs[i]? = some (.me kV enc g (qf (qset m k c)) k b)) [hH : SetAt hs i (.mf kV enc g (qf (qset m k v))) hs'] : Ew P n B M fs hs o (fun v hs'' => v = undef ∧ hs'' = hs') := Ew.aR fun a w ha hp => by
  obtain ⟨es, clock, hb, hS, e, he, hek, heb⟩ := Ent.me_ok.1 (hp.get hi); have hlt := (Array.getElem?_eq_some_iff.1 hb).1; obtain ⟨j, hj⟩ := List.mem_iff_getElem?.1 he; rw [Array.getElem?_toList] at hj
  have hfi : es.findIdx? (fun e => (e.born : Int) == (b : Int)) = some j := by
    rw [Array.findIdx?_eq_some_iff_getElem]; have hjl := (Array.getElem?_eq_some_iff.1 hj).1; have hje := (Array.getElem?_eq_some_iff.1 hj).2; refine ⟨hjl, by rw [hje, heb]; simp, fun q hq => ?_⟩; have hn := hS.st.2.1; intro hc
    have hqb : es[q].born = b := by
      (have h9 : (es[q].born : Int) = (b : Int) := by simpa using hc); omega
    have h5 : (es.toList.map (·.born))[q]'(by simp; omega) = (es.toList.map (·.born))[j]'(by simpa using hjl) := by
      simp [hje, hqb, heb]
    have := (List.getElem_inj hn).1 h5; omega
  have hE : MapF kV enc (es.modify j fun e => { e with val := enc v }) clock (qf (qset m k v)) := by
    have := hS.modV (v := v) hj hek
    rwa [zdq, zhg, ← zdq] at this
  have hon : Only (· = g) w { w with heap := w.heap.setIfInBounds g (.map (es.modify j fun e => { e with val := enc v }) clock) } := ⟨rfl, rfl, rfl, by simp, fun k hk hn => by
    simp only [Array.getElem?_setIfInBounds]
    rw [if_neg (fun e => hn e.symm)]⟩
  have h1 : (asIntOf (Value.int .i64 (b : Int))).run P w = .ok (.i64, (b : Int)) w := rfl
  have hrun : (Instr.entryStore mt (.map (some g)) (.int .i64 (b : Int)) (enc v)).run P w = .ok () { w with heap := w.heap.setIfInBounds g (.map (es.modify j fun e => { e with val := enc v }) clock) } := by
    simp [Instr.entryStore, MapKept.run_getObj_map hb, asInt, h1, hfi, MapKept.run_setObj_map _ hb, Result.andThen]
  refine ⟨_, hs', ?_, Kp.only hon (fun k e c => by subst e; rw [hb]; simp), ?_, rfl, rfl⟩
  · unfold execOp; simp [ho, ha.ev hx, ha.ev hy, ha.ev hu, hrun, Result.andThen]
  · rw [← hH.h]; exact hp.updAt hi hon (fun k _ hk => Ent.me_fp.2 hk) (Ent.mf_ok.2 ⟨_, clock, by simp [hlt], hE⟩) (fun k hk => .inl (Ent.me_fp.2 (Ent.mf_fp.1 hk)))
end
section
variable {κ : Type} [DecidableEq κ] {f0 f2 : κ → Option Int} {left : κ → Bool} {k : κ} {v : Int}
def qneg (f0 f2 : κ → Option Int) (left : κ → Bool) : κ → Option Int := fun k => bif (f0 k).isSome && !left k then (f0 k).map (fun v => wI (0 - v)) else f2 k
theorem zhC (f0 f2 : κ → Option Int) : f2 = qneg f0 f2 (fun k => (f0 k).isSome) := by
  funext k
  unfold qneg
  cases h : (f0 k).isSome <;> simp [h]
theorem zhw (hl : left k = true) (h : f0 k = some v) : qput (qneg f0 f2 left) k (wI (0 - v)) = qneg f0 f2 (fun j => left j && !decide (j = k)) := by
  funext j
  unfold qput qneg; by_cases hj : j = k
  · subst hj; simp [h]
  · simp [hj]
def zft (m m2 : List (κ × Int)) : List (κ × Int) := m.foldr (fun e l => qset l e.1 (wI (0 - e.2))) m2
theorem ziA (e : κ × Int) (r : List (κ × Int)) (j : κ) : qf (e :: r) j = bif decide (e.1 = j) then some e.2 else qf r j := by
  unfold qf; rw [List.find?_cons]
  cases decide (e.1 = j) <;> rfl
theorem zfq : ∀ (m m2 : List (κ × Int)), qf (zft m m2) = qneg (qf m) (qf m2) (fun _ => false)
  | [], m2 => by funext j; rfl
  | e :: r, m2 => by
    show qf (qset (zft r m2) e.1 (wI (0 - e.2))) = _
    rw [zdq, zfq r m2]
    funext j
    unfold qput qneg; rw [ziA]; by_cases h : j = e.1
    · rw [decide_eq_true h, decide_eq_true h.symm]; rfl
    · rw [decide_eq_false h, decide_eq_false (fun q => h q.symm)]; rfl
theorem zh4 {m m2 : List (κ × Int)} (hl : ∀ k, left k = false) : qneg (qf m) (qf m2) left = qf (zft m m2) := by
  rw [zfq, show left = fun _ => false from funext hl]
end
section
variable {P : Program} {n : Nat} {B D : World} {M : Nat → Prop} {fs : SFs} {hs : HS} {o : Oper} {v : Value}
theorem Yv.bY {op : BinOp} {x y : Operand} {t u : TypeId} {a b : Value} (ho : o.op = .binOp op t x y u) (hx : ev fs x = some a) (hy : ev fs y = some b) (hr : ∀ w, (do eqGuard op t x y a b; binOp op t a b : Sem Value).run P w = .ok v w) : Yv P n B M fs hs o v := fun f w ha _ => by
  unfold execOp; simp only [ho, ha.ev hx, ha.ev hy]; rw [Sem.run_bind, hr w]
  rfl
end
theorem Fx.hp {F : Frz} {w w' : World} {es : HS} (hF : F.At w) (h : Hp w (fun _ => False) es w') : ∃ G : Frz, Fx F w G w' ∧ G.w = w' ∧ ∀ e ∈ es, ∀ g, e.fp g → Cb w' g → G.S g := by
  have hb := h.isBelow; have hF' := hF.below hb; refine ⟨⟨fun g => F.S g ∨ ((∃ e ∈ es, e.fp g) ∧ Cb w' g), w', fun g hg => hg.elim (fun h => hF'.cb h) (fun h => h.2)⟩, ⟨fun g hg => ⟨.inl hg, hF' g hg⟩, fun g _ => rfl, fun g hg => ?_, hb⟩, rfl, fun e he g hg hc => .inr ⟨⟨e, he, hg⟩, hc⟩⟩; rcases hg with h1 | ⟨⟨e, he, hg⟩, _⟩
  · exact .inl h1
  · exact .inr ((h.new e he g hg).elim (fun h => h.elim) id)
theorem SlK.ent {G : Frz} {w' : World} {v : Value} {e : TypeId} {size k : Nat} {l : List Value} (hok : (Ent.sl v e size k l).ok w') (hw : G.w = w') (hS : ∀ g, (Ent.sl v e size k l).fp g → Cb w' g → G.S g) : SlK G v size k l := by
  have ho := Ent.sl_ok.1 hok; rcases ho.2 with ⟨rfl, h0⟩ | ⟨g, cap, cur, rfl, hb, hg, hnc, hcm, hcs, htake⟩
  · subst h0; exact ⟨ho.1, none, 0, rfl, Nat.le_refl _, by omega, fun h => by omega⟩
  · refine ⟨ho.1, _, cap, rfl, hnc, by unfold maxLen at hcm; omega, fun _ => ⟨g, rfl, hS g (Ent.sl_fp.2 rfl) ⟨_, _, _, hg⟩, fun q hq => ?_⟩⟩; rw [hw, Nat.zero_add, World.ownsRow.cellAt ho q (by rw [← ho.1]; exact hq)]
theorem zg5 (F0 : Frz) (w : World) (hF0 : F0.At w) (l : List Int) (vl : Value) (hl : SlC F0 vl 1 (l.map eI)) (hr : room l.length 8) : Calls Tryz.prog 52 #[vl] w fun e w' => ∃ (y : Value) (G : Frz), SlC G y 1 (l.map eI) ∧ e = .returned y ∧ Fx F0 w G w' := by
  haveI := hl.oneC; have hl0 := hl; obtain ⟨A, cap, hv, hlc, hcm, hcl, hcs⟩ := hl0; have hlen : (l.map eI).length = l.length := List.length_map _
  cases hA : A with
  | none =>
    have h0 : ¬ 0 < l.length := fun h => by
      obtain ⟨g, off, h1, _⟩ := hcs (by rw [hlen]; exact h); rw [hA] at h1; cases h1
    refine Calls.mono (R := fun e w' => e = .returned (.slice none 0 0) ∧ Below w.heap.size w w') ?_ ?_
    · obtain ⟨S0, F1, hF1, hS0, hp0⟩ := zag hF0; refine zak (M := fun _ => False) (hs := [.fr F1]) Tryz.func52 rfl rfl rfl hp0 ?_; refine T.sr ?_; refine TL.run 1 rfl ?_; refine TL.ns (T.seq (T.sr ?_)); refine TL.run 1 rfl ?_; refine TL.y (Yv.bY (v := .bool true) rfl rfl rfl (fun w => by rw [hv, hA]; kernel_rfl)) ?_; refine TL.ns ?_; refine T.bq rfl rfl ?_; refine T.sr ?_; refine TL.run 1 rfl ?_; refine TL.ns (T.ret (K.a ?_)); exact K.ah rfl rfl (fun w' hw => ⟨rfl, hw.isBelow⟩)
    · rintro e w' ⟨rfl, hb⟩
      cases l with
      | nil => exact ⟨.slice none 0 0, F0, SlC.nil _ 1, rfl, Fx.refl hF0 hb⟩
      | cons x r => simp at h0
  | some a =>
    refine Calls.mono (R := fun e w' => ∃ v' : Value, e = .returned v' ∧ Hp w (fun _ => False) [.sl v' 3 1 l.length (l.flatMap eI)] w') ?_ ?_
    · obtain ⟨S0, F1, hF1, hS0, hp0⟩ := zag hF0; rw [← hF1] at hl; refine zak (M := fun _ => False) (hs := [.fr F1]) Tryz.func52 rfl rfl rfl hp0 ?_; refine T.sr ?_; refine TL.run 1 rfl ?_; refine TL.ns (T.seq (T.sr ?_)); refine TL.run 1 rfl ?_; refine TL.y (Yv.bY (v := .bool false) rfl rfl rfl (fun w => by rw [hv, hA]; kernel_rfl)) ?_; refine TL.ns ?_; refine T.bf rfl rfl ?_; refine T.skip (K.seq (T.sr ?_)); refine TL.e (Ew.bi rfl) ?_; rintro _ _ ⟨g, rfl, rfl⟩; refine TL.run 1 rfl ?_; refine TL.e (Ew.bc 0 1 (k' := l.length) (l' := l.flatMap eI) (zgc (enc := eI) (fun _ => inferInstance)) rfl rfl rfl rfl rfl hl (by rw [List.length_map]; omega) (by rw [List.nil_append, ← List.flatMap_def]) hr (by decide)) ?_; rintro v' _ ⟨hv', rfl⟩; refine TL.run 1 rfl ?_; refine TL.ns (T.ret ?_); exact K.ah rfl rfl (fun w' hw => ⟨v', rfl, hw.sub Sx⟩)
    · rintro e w' ⟨v', rfl, hw⟩; obtain ⟨G, h1, h2, h3⟩ := Fx.hp hF0 hw; have h4 := SlK.ent (G := G) (hw.own (.sl v' 3 1 l.length (l.flatMap eI)) (by simp)) h2 (h3 _ (by simp)); exact ⟨v', G, h4.toF rfl (fun _ => rfl), rfl, h1⟩
structure Gpoint where
  product : Int
  thousandths : Int
deriving DecidableEq, Inhabited
abbrev Gpoint.enc (x : Gpoint) : List Value := [.int .i64 x.product, .int .i64 x.thousandths]
theorem Gpoint.len (x : Gpoint) : (Gpoint.enc x).length = 2 := rfl
end Go.Proofs.YtlaafmiejkebgaaGreat
