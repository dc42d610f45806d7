/- Mi: shortened and put together by squeeze.py. -/
import Derived.Test.YtnhdlloidbomdaaQ07
import Derived.Maps.RangeRun
set_option maxRecDepth 100000
set_option maxHeartbeats 4000000
set_option linter.unusedVariables false
set_option linter.unusedSectionVars false
set_option linter.unusedSimpArgs false
namespace Go.Proofs.Ytnhdlloidbomdaa
open Go.RowKit
open Go.ChangeMaps (setBlock)
def mput {α : Type} (f : Int → Option α) (k : Int) (v : α) : Int → Option α := fun j => bif decide (j = k) then some v else f j
def mdel {α : Type} (f : Int → Option α) (k : Int) : Int → Option α := fun j => bif decide (j = k) then none else f j
def mkeep {α : Type} (f : Int → Option α) (p : Int → Bool) : Int → Option α := fun j => bif p j then f j else none
structure MapE {α : Type} (enc : α → Value) (es : Array MapEntry) (clock : Nat) (f : Int → Option α) : Prop where
  st : MapKept.Stamped es clock
  ent : ∀ e ∈ es.toList, ∃ k v, e.key = .int .i64 k ∧ e.val = enc v ∧ f k = some v
  all : ∀ k v, f k = some v → ∃ e ∈ es.toList, e.key = .int .i64 k
section
variable {P : Program} {α : Type} {enc : α → Value} {es : Array MapEntry} {clock : Nat} {f : Int → Option α} {w : World} {g : Nat} {mt kt et : TypeId} {z : α}
theorem MapE.isKey (h : MapE enc es clock f) : ∀ e ∈ es.toList, MapKept.IsKey (.int .i64) e.key := fun e he => by
  obtain ⟨k, v, h1, _⟩ := h.ent e he; rw [h1]; rfl
theorem MapE.find (h : MapE enc es clock f) (k : Int) : (Instr.findNow (.int .i64) (.int .i64 k) es.toList 0 = some none ∧ f k = none ∧ ∀ e ∈ es.toList, e.key ≠ .int .i64 k) ∨ ∃ j e v, Instr.findNow (.int .i64) (.int .i64 k) es.toList 0 = some (some (j, enc v)) ∧ es[j]? = some e ∧ e.key = .int .i64 k ∧ e.val = enc v ∧ f k = some v := by
  rcases MapKept.findNow_spec (d := .int .i64) (k := .int .i64 k) rfl es.toList 0 h.isKey with ⟨h1, h2⟩ | ⟨j, e, h1, h2, h3⟩
  · refine .inl ⟨h1, ?_, h2⟩
    cases hf : f k with
    | none => rfl
    | some v => obtain ⟨e, he, hek⟩ := h.all k v hf; exact absurd hek (h2 e he)
  · obtain ⟨k', v, h4, h5, h6⟩ := h.ent e (List.mem_of_getElem? h2); rw [h3] at h4; (obtain rfl : k = k' := by injection h4); exact .inr ⟨j, e, v, by rw [h1, Nat.zero_add, h5], by simpa using h2, h3, h5, h6⟩
class TyMi (P : Program) (mt : TypeId) (et : outParam TypeId) {α : outParam Type} (enc : outParam (α → Value)) (z : outParam α) : Prop where
  h : ∃ kt, P.underlying mt = some (.map kt et) ∧ P.underlying kt = some (.int .i64) ∧ ∀ w, (zeroValue et).run P w = .ok (enc z) w
theorem zfO [hT : TyMi P mt et enc z] (hb : w.heap[g]? = some (.map es clock)) (h : MapE enc es clock f) (k : Int) (c : Bool) :
    (Instr.lookup mt (.map (some g)) (.int .i64 k) c).run P w = .ok (if c then .tuple #[enc ((f k).getD z), .bool (f k).isSome] else enc ((f k).getD z)) w := by
  obtain ⟨kt, hm, hd, hz⟩ := hT.h; have hk : ∀ b, (Instr.checkKey b 10000 kt (.int .i64 k)).run P w = .ok () w := fun b => MapKept.run_checkKey hd (d := .int .i64) (k := .int .i64 k) rfl b 9999; rcases h.find k with ⟨h1, h2, _⟩ | ⟨j, e, v, h1, _, _, _, h2⟩
  · cases c <;> simp [Instr.lookup, run_underlying hm, MapKept.run_getObj_map hb, hk, MapKept.run_findKey hd h1, hz, h2, Result.andThen]
  · cases c <;> simp [Instr.lookup, run_underlying hm, MapKept.run_getObj_map hb, hk, MapKept.run_findKey hd h1, h2, Result.andThen]
theorem zea (f : Int → Option α) (k : Int) (v : α) : mput f k v k = some v := by simp [mput]
theorem zcZ (f : Int → Option α) {k j : Int} (v : α) (h : j ≠ k) : mput f k v j = f j := by simp [mput, h]
theorem ze2 (f : Int → Option α) (k : Int) : mdel f k k = none := by simp [mdel]
theorem zdd (f : Int → Option α) {k j : Int} (h : j ≠ k) : mdel f k j = f j := by simp [mdel, h]
theorem zhq [hT : TyMi P mt et enc z] (hb : w.heap[g]? = some (.map es clock)) (h : MapE enc es clock f) (k : Int) (v : α) :
    ∃ es' clock', (Instr.mapUpdate mt (.map (some g)) (.int .i64 k) (enc v)).run P w = .ok () { w with heap := w.heap.setIfInBounds g (.map es' clock') } ∧ MapE enc es' clock' (mput f k v) := by
  obtain ⟨kt, hm, hd, hz⟩ := hT.h; have hk : ∀ b, (Instr.checkKey b 10000 kt (.int .i64 k)).run P w = .ok () w := fun b => MapKept.run_checkKey hd (d := .int .i64) (k := .int .i64 k) rfl b 9999; rcases h.find k with ⟨h1, h2, h3⟩ | ⟨j, e, v0, h1, hj, h3, h4, h2⟩
  · refine ⟨es.push { key := .int .i64 k, val := enc v, born := clock }, clock + 1, ?_, MapKept.stamped_push h.st h3, fun e he => ?_, fun j u hj => ?_⟩
    · simp [Instr.mapUpdate, run_underlying hm, MapKept.run_getObj_map hb, hk, MapKept.run_findKey hd h1, MapKept.run_setObj_map _ hb, Result.andThen]
    · rw [Array.toList_push] at he; rcases List.mem_append.1 he with he | he
      · obtain ⟨i, u, h5, h6, h7⟩ := h.ent e he; exact ⟨i, u, h5, h6, by rw [zcZ f v (fun q => h3 e he (by rw [h5, q]))]; exact h7⟩
      · simp at he; subst he; exact ⟨k, v, rfl, rfl, zea f k v⟩
    · rw [Array.toList_push]; by_cases hjk : j = k
      · exact ⟨_, List.mem_append.2 (.inr (List.mem_singleton.2 rfl)), by rw [hjk]⟩
      · rw [zcZ f v hjk] at hj; obtain ⟨e, he, hek⟩ := h.all j u hj; exact ⟨e, by simp [he], hek⟩
  · have hget : ∀ i, (es.modify j fun e => { e with key := .int .i64 k, val := enc v }).toList[i]? = if j = i then es[i]?.map (fun e => { e with key := .int .i64 k, val := enc v }) else es[i]? := fun i => by
      rw [Array.getElem?_toList, Array.getElem?_modify]
    have hkeys : ∀ (a b : Nat) (e1 e2 : MapEntry), es[a]? = some e1 → es[b]? = some e2 → e1.key = e2.key → a = b := fun a b e1 e2 ha hb hab => by
      have hn := h.st.2.2; (have ha' : (es.toList.map (·.key))[a]? = some e1.key := by rw [List.getElem?_map, Array.getElem?_toList, ha]; rfl); (have hb' : (es.toList.map (·.key))[b]? = some e2.key := by rw [List.getElem?_map, Array.getElem?_toList, hb]; rfl); have la := (List.getElem?_eq_some_iff.1 ha').1; exact (List.getElem?_inj la hn).1 (by rw [ha', hb', hab])
    refine ⟨es.modify j fun e => { e with key := .int .i64 k, val := enc v }, clock, ?_, MapKept.stamped_modify h.st j _ (fun _ _ => rfl) (fun e' _ he' => by rw [hj] at he'; cases he'; exact h3.symm), fun e' he' => ?_, fun i u hi => ?_⟩
    · simp [Instr.mapUpdate, run_underlying hm, MapKept.run_getObj_map hb, hk, MapKept.run_findKey hd h1, hj, h3, MapKept.run_keyThatStays (d := .int .i64) (k := .int .i64 k) rfl, MapKept.run_setObj_map _ hb, Result.andThen]
    · obtain ⟨i, hi⟩ := List.mem_iff_getElem?.1 he'; rw [hget] at hi
      split at hi
      · rw [Option.map_eq_some_iff] at hi; obtain ⟨e0, _, rfl⟩ := hi; exact ⟨k, v, rfl, rfl, zea f k v⟩
      · rename_i hne; obtain ⟨a, u, h5, h6, h7⟩ := h.ent e' (List.mem_of_getElem? (by rw [Array.getElem?_toList]; exact hi)); refine ⟨a, u, h5, h6, ?_⟩; rw [zcZ f v (fun q => hne (hkeys j i e e' hj hi (by rw [h3, h5, q])))]; exact h7
    · by_cases hik : i = k
      · exact ⟨{ e with key := .int .i64 k, val := enc v }, List.mem_iff_getElem?.2 ⟨j, by rw [hget, if_pos rfl, hj]; rfl⟩, by rw [hik]⟩
      · rw [zcZ f v hik] at hi; obtain ⟨e0, he0, hk0⟩ := h.all i u hi; obtain ⟨a, ha⟩ := List.mem_iff_getElem?.1 he0; by_cases hja : j = a
        · subst hja; rw [Array.getElem?_toList, hj] at ha; obtain rfl := Option.some.inj ha; rw [h3] at hk0; exact absurd (by injection hk0 with _ q; exact q.symm) hik
        · exact ⟨e0, List.mem_iff_getElem?.2 ⟨a, by rw [hget, if_neg hja, ← Array.getElem?_toList]; exact ha⟩, hk0⟩
theorem zhN {es : Array MapEntry} {j : Nat} {e : MapEntry} (hj : es[j]? = some e) (hn : (es.toList.map (·.key)).Nodup) (x : MapEntry) : x ∈ (es.eraseIdxIfInBounds j).toList ↔ x ∈ es.toList ∧ x.key ≠ e.key := by
  have hlt : j < es.size := (Array.getElem?_eq_some_iff.1 hj).1
  have he : (es.eraseIdxIfInBounds j).toList = es.toList.eraseIdx j := by
    unfold Array.eraseIdxIfInBounds; rw [dif_pos hlt, Array.toList_eraseIdx]
  rw [he]; (have hj' : es.toList[j]? = some e := by rw [Array.getElem?_toList]; exact hj); generalize es.toList = l at hn hj'; clear he hlt hj
  induction l generalizing j with
  | nil => simp at hj'
  | cons y r ih =>
    rw [List.map_cons, List.nodup_cons] at hn
    cases j with
    | zero =>
      simp only [List.getElem?_cons_zero, Option.some.injEq] at hj'; subst hj'; simp only [List.eraseIdx_cons_zero, List.mem_cons]; constructor
      · exact fun hx => ⟨.inr hx, fun q => hn.1 (by rw [← q]; exact List.mem_map.2 ⟨x, hx, rfl⟩)⟩
      · rintro ⟨rfl | hx, hq⟩
        · exact absurd rfl hq
        · exact hx
    | succ j =>
      rw [List.getElem?_cons_succ] at hj'; simp only [List.eraseIdx_cons_succ, List.mem_cons, ih hn.2 hj']; constructor
      · rintro (rfl | ⟨hx, hq⟩)
        · exact ⟨.inl rfl, fun q => hn.1 (by rw [q]; exact List.mem_map.2 ⟨e, List.mem_of_getElem? hj', rfl⟩)⟩
        · exact ⟨.inr hx, hq⟩
      · rintro ⟨rfl | hx, hq⟩
        · exact .inl rfl
        · exact .inr ⟨hx, hq⟩
theorem zho [hT : TyMi P mt et enc z] {ty : TypeId} (hb : w.heap[g]? = some (.map es clock)) (h : MapE enc es clock f) (k : Int) :
    ∃ es', (Builtin.delete_ #[mt, kt] ty #[.map (some g), .int .i64 k]).run P w = .ok (.tuple #[]) { w with heap := w.heap.setIfInBounds g (.map es' clock) } ∧ MapE enc es' clock (mdel f k) ∧ (∀ x, x ∈ es'.toList ↔ x ∈ es.toList ∧ x.key ≠ .int .i64 k) ∧ es'.toList.Sublist es.toList := by
  obtain ⟨kt', hm, hd, hz⟩ := hT.h; have hk : ∀ b, (Instr.checkKey b 10000 kt' (.int .i64 k)).run P w = .ok () w := fun b => MapKept.run_checkKey hd (d := .int .i64) (k := .int .i64 k) rfl b 9999; rcases h.find k with ⟨h1, h2, h3⟩ | ⟨j, e, v0, h1, hj, h3, h4, h2⟩
  · refine ⟨es, ?_, ⟨h.st, fun e he => ?_, fun i u hi => ?_⟩, fun x => ⟨fun hx => ⟨hx, h3 x hx⟩, fun hx => hx.1⟩, List.Sublist.refl _⟩
    · simp [Builtin.delete_, run_underlying hm, MapKept.run_getObj_map hb, hk, MapKept.run_findKey hd h1, MapKept.run_setObj_map _ hb, Result.andThen]
    · obtain ⟨a, u, h5, h6, h7⟩ := h.ent e he; exact ⟨a, u, h5, h6, by rw [zdd f (fun q => h3 e he (by rw [h5, q]))]; exact h7⟩
    · by_cases hik : i = k
      · rw [hik, ze2] at hi; cases hi
      · rw [zdd f hik] at hi; exact h.all i u hi
  · have hmem := zhN hj h.st.2.2; rw [h3] at hmem
    have hsubl : (es.eraseIdxIfInBounds j).toList.Sublist es.toList := by
      unfold Array.eraseIdxIfInBounds
      split
      · simp only [Array.toList_eraseIdx]; exact List.eraseIdx_sublist _ _
      · exact List.Sublist.refl _
    refine ⟨es.eraseIdxIfInBounds j, ?_, ⟨MapKept.stamped_erase h.st j, fun e he => ?_, fun i u hi => ?_⟩, hmem, hsubl⟩
    · simp [Builtin.delete_, run_underlying hm, MapKept.run_getObj_map hb, hk, MapKept.run_findKey hd h1, MapKept.run_setObj_map _ hb, Result.andThen]
    · obtain ⟨he, hne⟩ := (hmem e).1 he; obtain ⟨a, u, h5, h6, h7⟩ := h.ent e he; exact ⟨a, u, h5, h6, by rw [zdd f (fun q => hne (by rw [h5, q]))]; exact h7⟩
    · by_cases hik : i = k
      · rw [hik, ze2] at hi; cases hi
      · rw [zdd f hik] at hi; obtain ⟨e, he, hek⟩ := h.all i u hi; exact ⟨e, (hmem e).2 ⟨he, by rw [hek]; intro q; injection q with _ q; exact hik q⟩, hek⟩
end
@[irreducible] def Ent.mi {α : Type} (enc : α → Value) (g : Nat) (f : Int → Option α) : Ent where
  fp := (· = g)
  ok w := ∃ es clock, w.heap[g]? = some (.map es clock) ∧ MapE enc es clock f
  loc h k := by obtain ⟨es, cl, h1, h2⟩ := k; exact ⟨es, cl, (h g rfl).trans h1, h2⟩
  lt h k e := by obtain ⟨es, cl, h1, h2⟩ := h; subst e; exact (Array.getElem?_eq_some_iff.1 h1).1
  nd h k e c := by obtain ⟨es, cl, h1, h2⟩ := h; subst e; rw [h1]; simp
theorem Ent.mi_fp {α : Type} {enc : α → Value} {g : Nat} {f : Int → Option α} {k : Nat} : (Ent.mi enc g f).fp k ↔ k = g := by unfold Ent.mi; exact Iff.rfl
theorem Ent.mi_ok {α : Type} {enc : α → Value} {g : Nat} {f : Int → Option α} {w : World} : (Ent.mi enc g f).ok w ↔ ∃ es clock, w.heap[g]? = some (.map es clock) ∧ MapE enc es clock f := by unfold Ent.mi; exact Iff.rfl
structure Sweep {α : Type} (enc : α → Value) (g r : Nat) (f : Int → Option α) (left : Int → Bool) (cnt : Nat) (cur : Option Int) (w : World) : Prop where
  ex : ∃ es clock seen, w.heap[g]? = some (.map es clock) ∧ w.heap[r]? = some (.mapIter (some g) clock seen clock) ∧ MapE enc es clock f ∧ cnt = (leftOf es seen).size ∧
    (∀ k, left k = true ↔ ∃ e ∈ (leftOf es seen).toList, e.key = .int .i64 k) ∧ ∀ k, cur = some k → ∃ e ∈ es.toList, ∃ s : Array Nat, seen = s.push e.born ∧ e.key = .int .i64 k
@[irreducible] def Ent.ms {α : Type} (enc : α → Value) (g r : Nat) (f : Int → Option α) (left : Int → Bool) (cnt : Nat) (cur : Option Int) : Ent where
  fp k := k = g ∨ k = r
  ok := Sweep enc g r f left cnt cur
  loc h k := by obtain ⟨es, cl, seen, h1, h2, h3⟩ := k.ex; exact ⟨es, cl, seen, (h g (.inl rfl)).trans h1, (h r (.inr rfl)).trans h2, h3⟩
  lt h k e := by
    obtain ⟨es, cl, seen, h1, h2, h3⟩ := h.ex; rcases e with rfl | rfl
    · exact (Array.getElem?_eq_some_iff.1 h1).1
    · exact (Array.getElem?_eq_some_iff.1 h2).1
  nd h k e c := by
    obtain ⟨es, cl, seen, h1, h2, h3⟩ := h.ex; rcases e with rfl | rfl
    · rw [h1]; simp
    · rw [h2]; simp
theorem Ent.ms_fp {α : Type} {enc : α → Value} {g r : Nat} {f : Int → Option α} {left : Int → Bool} {cnt : Nat} {cur : Option Int} {k : Nat} : (Ent.ms enc g r f left cnt cur).fp k ↔ k = g ∨ k = r := by unfold Ent.ms; exact Iff.rfl
theorem Ent.ms_ok {α : Type} {enc : α → Value} {g r : Nat} {f : Int → Option α} {left : Int → Bool} {cnt : Nat} {cur : Option Int} {w : World} : (Ent.ms enc g r f left cnt cur).ok w ↔ Sweep enc g r f left cnt cur w := by unfold Ent.ms; exact Iff.rfl
section
variable {P : Program} {n : Nat} {B D : World} {M : Nat → Prop} {F : Fence} [hF : Calm F] {Q : Exit → Act → World → Prop} {fs : SFs} {hs : HS} {ops : Array Oper} {rest : List Oper} {o : Oper} {α : Type} {enc : α → Value} {f : Int → Option α} {g r : Nat} {mt kt et : TypeId} {z : α}
theorem Ew.bh [hT : TyMi P mt et enc z] {x : Operand} {k : Int} (ho : o.op = .makeMap mt (some x)) (hx : ev fs x = some (.int .i64 k)) : Ew P n B M fs hs o (fun v hs' => ∃ g, v = .map (some g) ∧ hs' = .mi enc g (fun _ => none) :: hs) := Ew.aF fun a w ha hp => by
  obtain ⟨kt, hm, hd, hz⟩ := hT.h; refine ⟨_, w.alloc (.map #[] 0), _, ?_, Kp.alloc w _, hp.fresh ((Below.refl _ _).alloc (Nat.le_refl _) _) (Ent.mi_ok.2 ⟨#[], 0, (MapKept.heap_alloc w _).1, MapKept.stamped_empty 0, fun e he => by simp at he, fun c v hc => by cases hc⟩) (fun g hg => by rw [Ent.mi_fp.1 hg]; exact Nat.le_refl _), w.heap.size, rfl, rfl⟩; unfold execOp; have h1 : (asIntOf (Value.int .i64 k)).run P w = .ok (.i64, k) w := rfl; simp [ho, ha.ev hx, Instr.makeMap, run_underlying hm, asInt, h1, Result.andThen]
theorem Ew.bu [hT : TyMi P mt et enc z] (i : Nat) {x y u : Operand} {k : Int} {v : α} {hs' : HS} (ho : o.op = .mapUpdate mt x y u) (hx : ev fs x = some (.map (some g))) (hy : ev fs y = some (.int .i64 k)) (hu : ev fs u = some (enc v)) (hi : hs[i]? = some (.mi enc g f)) [hH : SetAt hs i (.mi enc g (mput f k v)) hs'] : Ew P n B M fs hs o (fun v hs'' => v = undef ∧ hs'' = hs') := Ew.aN fun a w ha hp => by
  obtain ⟨es, clock, hb, hS⟩ := Ent.mi_ok.1 (hp.get hi); obtain ⟨es', cl', h1, h2⟩ := zhq (P := P) (mt := mt) hb hS k v; have hlt := (Array.getElem?_eq_some_iff.1 hb).1
  have hon : Only (· = g) w { w with heap := w.heap.setIfInBounds g (.map es' cl') } := ⟨rfl, rfl, rfl, by simp, fun k hk hn => by
    simp only [Array.getElem?_setIfInBounds]
    rw [if_neg (fun e => hn e.symm)]⟩
  refine ⟨_, hs', ?_, Kp.only hon (fun k e c => by subst e; rw [hb]; simp), ?_, rfl, rfl⟩
  · unfold execOp; simp [ho, ha.ev hx, ha.ev hy, ha.ev hu, h1, Result.andThen]
  · rw [← hH.h]; exact hp.updAt hi hon (fun k _ hk => Ent.mi_fp.2 hk) (Ent.mi_ok.2 ⟨es', cl', by simp [hlt], h2⟩) (fun k hk => .inl (Ent.mi_fp.2 (Ent.mi_fp.1 hk)))
theorem Yv.bQ [hT : TyMi P mt et enc z] (i : Nat) {x y : Operand} {k : Int} (ho : o.op = .lookup mt x y false) (hx : ev fs x = some (.map (some g))) (hy : ev fs y = some (.int .i64 k)) (hi : hs[i]? = some (.mi enc g f)) : Yv P n B M fs hs o (enc ((f k).getD z)) := fun a w ha hp => by
  obtain ⟨es, clock, hb, hS⟩ := Ent.mi_ok.1 (hp.get hi); unfold execOp; simp [ho, ha.ev hx, ha.ev hy, zfO (P := P) (mt := mt) hb hS k false, Result.andThen]
theorem Yv.bB [hT : TyMi P mt et enc z] (i : Nat) {x y : Operand} {k : Int} (ho : o.op = .lookup mt x y true) (hx : ev fs x = some (.map (some g))) (hy : ev fs y = some (.int .i64 k)) (hi : hs[i]? = some (.mi enc g f)) : Yv P n B M fs hs o (.tuple #[enc ((f k).getD z), .bool (f k).isSome]) := fun a w ha hp => by
  obtain ⟨es, clock, hb, hS⟩ := Ent.mi_ok.1 (hp.get hi); unfold execOp; simp [ho, ha.ev hx, ha.ev hy, zfO (P := P) (mt := mt) hb hS k true, Result.andThen]
theorem Ew.bv [hT : TyMi P mt et enc z] (i : Nat) {x : Operand} (ho : o.op = .range mt x) (hx : ev fs x = some (.map (some g))) (hi : hs[i]? = some (.mi enc g f)) : Ew P n B M fs hs o (fun v hs' => ∃ r c, v = .pointer (some ⟨r, 0, none⟩) ∧ hs' = hs.set i (.ms enc g r f (fun k => (f k).isSome) c none)) := Ew.aF fun a w ha hp => by
  obtain ⟨kt, hm, hd, hz⟩ := hT.h; obtain ⟨es, clock, hb, hS⟩ := Ent.mi_ok.1 (hp.get hi); have hlt := (Array.getElem?_eq_some_iff.1 hb).1; have hon : Only (fun _ => False) w (w.alloc (.mapIter (some g) clock #[] clock)) := ⟨rfl, rfl, rfl, by rw [show (w.alloc (.mapIter (some g) clock #[] clock)).heap = w.heap.push (.mapIter (some g) clock #[] clock) from rfl]; simp, fun k hk _ => heap_alloc_old w _ hk⟩
  have hl : leftOf es #[] = es := by
    unfold leftOf; exact Array.filter_eq_self.2 (fun e _ => by simp)
  refine ⟨_, w.alloc (.mapIter (some g) clock #[] clock), _, ?_, Kp.alloc w _, hp.updAt hi hon (fun k _ hk => hk.elim) (Ent.ms_ok.2 ⟨⟨es, clock, #[], (heap_alloc_old w _ hlt).trans hb, heap_alloc_new w _, hS, by rw [hl], fun k => ?_, fun k hk => by cases hk⟩⟩) (fun k hk => ?_), w.heap.size, es.size, rfl, rfl⟩
  · unfold execOp; simp [ho, ha.ev hx, run_range_map w mt kt et g es clock hm hb, Result.andThen]
  · rw [hl]; constructor
    · intro hk; obtain ⟨v, hv⟩ := Option.isSome_iff_exists.1 hk; exact hS.all k v hv
    · rintro ⟨e, he, hek⟩; obtain ⟨j, v, h1, h2, h3⟩ := hS.ent e he; rw [hek] at h1; (obtain rfl : k = j := by injection h1); rw [h3]; rfl
  · rcases Ent.ms_fp.1 hk with rfl | rfl
    · exact .inl (Ent.mi_fp.2 rfl)
    · exact .inr (Nat.le_refl _)
theorem leftOf_push {es : Array MapEntry} {seen : Array Nat} {b : Nat} {x : MapEntry} : x ∈ (leftOf es (seen.push b)).toList ↔ x ∈ (leftOf es seen).toList ∧ x.born ≠ b := by
  unfold leftOf; simp; constructor
  · rintro ⟨h1, h2, h3⟩; exact ⟨⟨h1, h2⟩, h3⟩
  · rintro ⟨⟨h1, h2⟩, h3⟩; exact ⟨h1, h2, h3⟩
theorem zhv {es : Array MapEntry} {seen : Array Nat} {e : MapEntry} (he : e ∈ (leftOf es seen).toList) : (leftOf es (seen.push e.born)).size < (leftOf es seen).size := by
  rw [← Array.length_toList, ← Array.length_toList]; unfold leftOf at he ⊢; rw [Array.toList_filter] at he ⊢; rw [Array.toList_filter]; have hm := List.mem_filter.1 he; exact filter_lt (fun x => !seen.contains x.born) (fun x => !(seen.push e.born).contains x.born) (fun x hx => by simp at hx ⊢; exact hx.1) e (by simpa using hm.2) (by simp) es.toList hm.1
theorem MapE.inj {es : Array MapEntry} {clock : Nat} (h : MapE enc es clock f) {x y : MapEntry} (hx : x ∈ es.toList) (hy : y ∈ es.toList) : (x.born = y.born ↔ x.key = y.key) := by
  obtain ⟨a, ha⟩ := List.mem_iff_getElem?.1 hx; obtain ⟨b, hb⟩ := List.mem_iff_getElem?.1 hy
  have key : ∀ {β : Type} (q : MapEntry → β), (es.toList.map q).Nodup → q x = q y → a = b := fun q hn hq => by
    (have ha' : (es.toList.map q)[a]? = some (q x) := by rw [List.getElem?_map, ha]; rfl); (have hb' : (es.toList.map q)[b]? = some (q y) := by rw [List.getElem?_map, hb]; rfl); exact (List.getElem?_inj (List.getElem?_eq_some_iff.1 ha').1 hn).1 (by rw [ha', hb', hq])
  constructor
  · intro q; have := key (·.born) h.st.2.1 q; subst this; rw [ha] at hb; cases hb; rfl
  · intro q; have := key (·.key) h.st.2.2 q; subst this; rw [ha] at hb; cases hb; rfl
variable {left : Int → Bool} {cnt : Nat} {cur : Option Int}
theorem mem_leftOf {es : Array MapEntry} {seen : Array Nat} {x : MapEntry} : x ∈ (leftOf es seen).toList ↔ x ∈ es.toList ∧ x.born ∉ seen := by
  unfold leftOf; simp
theorem Ew.bC {x : Operand} (ho : o.op = .next x false) (hx : ev fs x = some (.pointer (some ⟨r, 0, none⟩))) : Ew P n B M fs (.ms enc g r f left cnt cur :: hs) o (fun v hs' => (v = .tuple #[.bool false] ∧ hs' = .ms enc g r f left cnt cur :: hs ∧ ∀ k, left k = false) ∨ ∃ k u c, v = .tuple #[.bool true, .int .i64 k, enc u] ∧ hs' = .ms enc g r f (fun j => left j && !decide (j = k)) c (some k) :: hs ∧ left k = true ∧ f k = some u ∧ c < cnt) := Ew.aF fun a w ha hp => by
  obtain ⟨es, clock, seen, hb, hr, hS, hc, hl, hcur⟩ := (Ent.ms_ok.1 (hp.get (i := 0) rfl)).ex; (have hrg : r ≠ g := fun e => by rw [e, hb] at hr; cases hr); rcases run_next_at (P := P) w o.type r g clock clock seen es clock hr hb hS.st.1 (Nat.le_refl _) with ⟨h0, h1⟩ | ⟨e, he, w1, hw1, h1⟩
  · refine ⟨_, w, _, ?_, Kp.refl w, hp, .inl ⟨rfl, rfl, fun k => ?_⟩⟩
    · unfold execOp; simp [ho, ha.ev hx, h1, Result.andThen]
    · cases hk : left k with
      | false => rfl
      | true =>
        obtain ⟨e, he, _⟩ := (hl k).1 hk; rw [Array.eq_empty_of_size_eq_zero h0] at he; simp at he
  · have hes := (mem_leftOf.1 he).1; obtain ⟨k, u, h2, h3, h4⟩ := hS.ent e hes; have hlt := (Array.getElem?_eq_some_iff.1 hr).1; (have hh : w1.heap = w.heap := by rcases hw1 with rfl | rfl <;> rfl)
    have hw' : (setBlock w1 r (.mapIter (some g) clock (seen.push e.born) clock)).heap = w.heap.setIfInBounds r (.mapIter (some g) clock (seen.push e.born) clock) := by
      unfold setBlock; simp [hh]
    have hon : Only (· = r) w (setBlock w1 r (.mapIter (some g) clock (seen.push e.born) clock)) := ⟨by rcases hw1 with rfl | rfl <;> rfl, by rcases hw1 with rfl | rfl <;> rfl, by rcases hw1 with rfl | rfl <;> rfl, by rw [hw']; simp, fun k hk hn => by
      rw [hw']; simp only [Array.getElem?_setIfInBounds]
      rw [if_neg (fun e => hn e.symm)]⟩
    refine ⟨_, _, .ms enc g r f (fun j => left j && !decide (j = k)) (leftOf es (seen.push e.born)).size (some k) :: hs, ?_, Kp.only hon (fun k e c => by subst e; rw [hr]; simp), hp.updAt (i := 0) rfl hon (fun k _ hk => Ent.ms_fp.2 (.inr hk)) (Ent.ms_ok.2 ⟨⟨es, clock, seen.push e.born, by rw [hw']; simp [hrg]; exact hb, by rw [hw']; simp [hlt], hS, rfl, fun j => ?_, fun j hj => ?_⟩⟩) (fun k hk => .inl (Ent.ms_fp.2 (Ent.ms_fp.1 hk))), .inr ⟨k, u, _, rfl, rfl, (hl k).2 ⟨e, he, h2⟩, h4, ?_⟩⟩
    · unfold execOp; simp [ho, ha.ev hx, h1, h2, h3, Result.andThen]
    · simp only [Bool.and_eq_true, Bool.not_eq_true', decide_eq_false_iff_not, hl]; constructor
      · rintro ⟨⟨x, hx1, hx2⟩, hjk⟩; refine ⟨x, leftOf_push.2 ⟨hx1, fun q => hjk ?_⟩, hx2⟩; have := (hS.inj (mem_leftOf.1 hx1).1 hes).1 q; rw [hx2, h2] at this
        injection this
      · rintro ⟨x, hx1, hx2⟩; obtain ⟨hx3, hx4⟩ := leftOf_push.1 hx1; refine ⟨⟨x, hx3, hx2⟩, fun q => hx4 ((hS.inj (mem_leftOf.1 hx3).1 hes).2 (by rw [hx2, h2, q]))⟩
    · cases hj
      exact ⟨e, hes, seen, rfl, h2⟩
    · rw [hc]; exact zhv he
theorem Yv.bw (i : Nat) {x : Operand} {k : Int} {u : α} (ho : o.op = .entry x) (hx : ev fs x = some (.pointer (some ⟨r, 0, none⟩))) (hi : hs[i]? = some (.ms enc g r f left cnt (some k))) (hu : f k = some u) : Yv P n B M fs hs o (.tuple #[.int .i64 k, enc u]) := fun a w ha hp => by
  obtain ⟨es, clock, seen, hb, hr, hS, hc, hl, hcur⟩ := (Ent.ms_ok.1 (hp.get hi)).ex; obtain ⟨e, he, s, rfl, hek⟩ := hcur k rfl; obtain ⟨k', u', h2, h3, h4⟩ := hS.ent e he; rw [hek] at h2; (obtain rfl : k = k' := by injection h2); rw [hu] at h4; obtain rfl := Option.some.inj h4; unfold execOp; simp [ho, ha.ev hx, run_entry_at w r g clock s es clock e hr hb he hS.st.2.1, hek, h3, Result.andThen]
theorem Ew.bR [hT : TyMi P mt et enc z] {x y : Operand} {k : Int} (ho : o.op = .call { callee := .builtin .delete, args := #[x, y], argTypes := #[mt, kt] }) (hx : ev fs x = some (.map (some g))) (hy : ev fs y = some (.int .i64 k)) (hlk : left k = false) : Ew P n B M fs (.ms enc g r f left cnt cur :: hs) o (fun v hs' => v = .tuple #[] ∧ ∃ c, c ≤ cnt ∧ hs' = .ms enc g r (mdel f k) left c none :: hs) := Ew.aF fun a w ha hp => by
  obtain ⟨es, clock, seen, hb, hr, hS, hc, hl, hcur⟩ := (Ent.ms_ok.1 (hp.get (i := 0) rfl)).ex; (have hrg : r ≠ g := fun e => by rw [e, hb] at hr; cases hr); obtain ⟨es', h1, h2, h3, h4⟩ := zho (P := P) (mt := mt) (kt := kt) (ty := o.type) hb hS k; have hlt := (Array.getElem?_eq_some_iff.1 hb).1
  have hon : Only (· = g) w { w with heap := w.heap.setIfInBounds g (.map es' clock) } := ⟨rfl, rfl, rfl, by simp, fun k hk hn => by
    simp only [Array.getElem?_setIfInBounds]
    rw [if_neg (fun e => hn e.symm)]⟩
  have hmem : ∀ x, x ∈ (leftOf es' seen).toList ↔ x ∈ (leftOf es seen).toList := fun x => by
    rw [mem_leftOf, mem_leftOf, h3]; constructor
    · rintro ⟨⟨h4, _⟩, h5⟩; exact ⟨h4, h5⟩
    · rintro ⟨h4, h5⟩; refine ⟨⟨h4, fun q => ?_⟩, h5⟩; have := (hl k).2 ⟨x, mem_leftOf.2 ⟨h4, h5⟩, q⟩; rw [hlk] at this; cases this
  have hsz : (leftOf es' seen).size ≤ cnt := by
    rw [hc, ← Array.length_toList, ← Array.length_toList]; unfold leftOf; rw [Array.toList_filter, Array.toList_filter]; exact (h4.filter _).length_le
  refine ⟨_, { w with heap := w.heap.setIfInBounds g (.map es' clock) }, .ms enc g r (mdel f k) left (leftOf es' seen).size none :: hs, ?_, Kp.only hon (fun k e c => by subst e; rw [hb]; simp), hp.updAt (i := 0) rfl hon (fun k _ hk => Ent.ms_fp.2 (.inl hk)) (Ent.ms_ok.2 ⟨⟨es', clock, seen, by simp [hlt], by simp [Ne.symm hrg]; exact hr, h2, rfl, fun j => ?_, fun j hj => by cases hj⟩⟩) (fun k hk => .inl (Ent.ms_fp.2 (Ent.ms_fp.1 hk))), rfl, _, hsz, rfl⟩
  · unfold execOp; simp [ho, ha.ev hx, ha.ev hy, resolve, invoke, builtin, h1, Result.andThen]
  · rw [hl]; constructor
    · rintro ⟨x, hx1, hx2⟩; exact ⟨x, (hmem x).2 hx1, hx2⟩
    · rintro ⟨x, hx1, hx2⟩; exact ⟨x, (hmem x).1 hx1, hx2⟩
theorem Hp.msEnd {w : World} {f' : Int → Option α} (h : f = f') (hp : Hp B M (.ms enc g r f left cnt cur :: hs) w) : Hp B M (.mi enc g f' :: hs) w := by
  subst h; obtain ⟨es, clock, seen, hb, hr, hS, _⟩ := (Ent.ms_ok.1 (hp.get (i := 0) rfl)).ex; exact hp.updAt (i := 0) rfl (Only.refl (fun _ => False) w) (fun _ _ h => h.elim) (Ent.mi_ok.2 ⟨es, clock, hb, hS⟩) (fun k hk => .inl (Ent.ms_fp.2 (.inl (Ent.mi_fp.1 hk))))
theorem TL.msEnd {l : List Oper} {f' : Int → Option α} (h : f = f') (k : TL F P n B D M ops Q l fs (.mi enc g f' :: hs)) : TL F P n B D M ops Q l fs (.ms enc g r f left cnt cur :: hs) := ⟨fun a w ha hw hm => k.out a w ha (Hp.msEnd h hw) hm⟩
end
section
variable {α : Type} {f f0 : Int → Option α} {p left : Int → Bool} {k : Int} {u : α}
def Swept (f0 : Int → Option α) (p left : Int → Bool) (f : Int → Option α) : Prop := ∀ k, f k = bif left k || p k then f0 k else none
theorem zgX (f0 : Int → Option α) (p : Int → Bool) : Swept f0 p (fun k => (f0 k).isSome) f0 := fun k => by
  cases h : f0 k with
  | none => simp
  | some v => simp [h]
theorem zhk (h : Swept f0 p left f) (hl : ∀ k, left k = false) : f = mkeep f0 p := funext fun k => by rw [h k, hl k]; rfl
theorem zg3 (h : Swept f0 p left f) (hp : (!p k) = false) : Swept f0 p (fun j => left j && !decide (j = k)) f := fun j => by
  rw [h j]; by_cases hj : j = k
  · subst hj; (have : p j = true := by simpa using hp); simp [this]
  · simp [hj]
theorem zhr (h : Swept f0 p left f) (hp : (!p k) = true) : Swept f0 p (fun j => left j && !decide (j = k)) (mdel f k) := fun j => by
  by_cases hj : j = k
  · subst hj; (have : p j = false := by simpa using hp); simp [this, ze2]
  · rw [zdd f hj, h j]; simp [hj]
theorem zhy : (fun j => left j && !decide (j = k)) k = false := by simp
end
instance : TyMi Try.prog 84 4 Value.bool false := ⟨⟨3, by kernel_rfl, by kernel_rfl, fun w => by kernel_rfl⟩⟩
instance : TyMi Try.prog 85 3 (Value.int .i64) 0 := ⟨⟨3, by kernel_rfl, by kernel_rfl, fun w => by kernel_rfl⟩⟩
end Go.Proofs.Ytnhdlloidbomdaa
