/- Mr Si Yg: shortened and put together by squeeze.py. -/
import Derived.Test.YtlaafmiejkebgaaGreatQ02
set_option maxRecDepth 100000
set_option maxHeartbeats 4000000
set_option linter.unusedVariables false
set_option linter.unusedSectionVars false
set_option linter.unusedSimpArgs false
namespace Go.Proofs.YtlaafmiejkebgaaGreat
open Go.RowKit
section
variable {κ α : Type} [DecidableEq κ] {kV : κ → Value} {enc : α → Value} {es : Array MapEntry} {clock : Nat} {f : κ → Option α}
theorem zfS (f : κ → Option α) (k : κ) (u v : α) : qput (qput f k u) k v = qput f k v := by
  funext j
  unfold qput
  cases decide (j = k) <;> rfl
theorem zgB {f : κ → Option α} {k : κ} {v : α} (h : f k = some v) : qput f k v = f := by
  funext j
  unfold qput; by_cases hj : j = k
  · subst hj; rw [decide_eq_true rfl, h]; rfl
  · rw [decide_eq_false hj]; rfl
theorem MapF.push (h : MapF kV enc es clock f) {k : κ} {v : α} (h3 : ∀ e ∈ es.toList, e.key ≠ kV k) : MapF kV enc (es.push { key := kV k, val := enc v, born := clock }) (clock + 1) (qput f k v) := by
  refine ⟨MapKept.stamped_push h.st h3, fun e he => ?_, fun j u hj => ?_, h.ij⟩
  · rw [Array.toList_push] at he; rcases List.mem_append.1 he with he | he
    · obtain ⟨i, u, h5, h6, h7⟩ := h.ent e he; exact ⟨i, u, h5, h6, by rw [zbB f v (fun q => h3 e he (by rw [h5, q]))]; exact h7⟩
    · simp at he; subst he; exact ⟨k, v, rfl, rfl, zcn f k v⟩
  · rw [Array.toList_push]; by_cases hjk : j = k
    · exact ⟨_, List.mem_append.2 (.inr (List.mem_singleton.2 rfl)), by rw [hjk]⟩
    · rw [zbB f v hjk] at hj; obtain ⟨e, he, hek⟩ := h.all j u hj; exact ⟨e, by simp [he], hek⟩
theorem MapF.modV (h : MapF kV enc es clock f) {j : Nat} {e : MapEntry} {k : κ} {v : α} (hj : es[j]? = some e) (h3 : e.key = kV k) : MapF kV enc (es.modify j fun e => { e with val := enc v }) clock (qput f k v) := by
  have hget : ∀ i, (es.modify j fun e => { e with val := enc v }).toList[i]? = if j = i then es[i]?.map (fun e => { e with val := enc v }) else es[i]? := fun i => by
    rw [Array.getElem?_toList, Array.getElem?_modify]
  have hkeys : ∀ (a b : Nat) (e1 e2 : MapEntry), es[a]? = some e1 → es[b]? = some e2 → e1.key = e2.key → a = b := fun a b e1 e2 ha hb hab => by
    have hn := h.st.2.2; (have ha' : (es.toList.map (·.key))[a]? = some e1.key := by rw [List.getElem?_map, Array.getElem?_toList, ha]; rfl); (have hb' : (es.toList.map (·.key))[b]? = some e2.key := by rw [List.getElem?_map, Array.getElem?_toList, hb]; rfl); have la := (List.getElem?_eq_some_iff.1 ha').1; exact (List.getElem?_inj la hn).1 (by rw [ha', hb', hab])
  refine ⟨MapKept.stamped_modify h.st j _ (fun _ _ => rfl) (fun e' _ he' => rfl), fun e' he' => ?_, fun i u hi => ?_, h.ij⟩
  · obtain ⟨i, hi⟩ := List.mem_iff_getElem?.1 he'; rw [hget] at hi
    split at hi
    · rename_i hji; subst hji; rw [hj] at hi; obtain rfl := Option.some.inj hi; exact ⟨k, v, h3, rfl, zcn f k v⟩
    · rename_i hne; obtain ⟨a, u, h5, h6, h7⟩ := h.ent e' (List.mem_of_getElem? (by rw [Array.getElem?_toList]; exact hi)); refine ⟨a, u, h5, h6, ?_⟩; rw [zbB f v (fun q => hne (hkeys j i e e' hj hi (by rw [h3, h5, q])))]; exact h7
  · by_cases hik : i = k
    · exact ⟨{ e with val := enc v }, List.mem_iff_getElem?.2 ⟨j, by rw [hget, if_pos rfl, hj]; rfl⟩, by rw [hik]; exact h3⟩
    · rw [zbB f v hik] at hi; obtain ⟨e0, he0, hk0⟩ := h.all i u hi; obtain ⟨a, ha⟩ := List.mem_iff_getElem?.1 he0; by_cases hja : j = a
      · subst hja; rw [Array.getElem?_toList, hj] at ha; obtain rfl := Option.some.inj ha; rw [h3] at hk0; exact absurd (h.ij _ _ hk0).symm hik
      · exact ⟨e0, List.mem_iff_getElem?.2 ⟨a, by rw [hget, if_neg hja, ← Array.getElem?_toList]; exact ha⟩, hk0⟩
theorem zgk {j : Nat} {e : MapEntry} {k : Value} (hj : es[j]? = some e) (h3 : e.key = k) : (es.modify j fun e => { e with key := k }) = es := by
  apply Array.ext_getElem?; intro i; rw [Array.getElem?_modify]
  split
  · rename_i h; subst h; rw [hj, ← h3]; rfl
  · rfl
end
@[irreducible] def Ent.me {κ α : Type} (kV : κ → Value) (enc : α → Value) (g : Nat) (f : κ → Option α) (k : κ) (b : Nat) : Ent where
  fp := (· = g)
  ok w := ∃ es clock, w.heap[g]? = some (.map es clock) ∧ MapF kV enc es clock f ∧ ∃ e ∈ es.toList, e.key = kV k ∧ e.born = b
  loc h k := by obtain ⟨es, cl, h1, h2⟩ := k; exact ⟨es, cl, (h g rfl).trans h1, h2⟩
  lt h k e := by obtain ⟨es, cl, h1, h2⟩ := h; subst e; exact (Array.getElem?_eq_some_iff.1 h1).1
  nd h k e c := by obtain ⟨es, cl, h1, h2⟩ := h; subst e; rw [h1]; simp
theorem Ent.me_fp {κ α : Type} {kV : κ → Value} {enc : α → Value} {g : Nat} {f : κ → Option α} {k : κ} {b q : Nat} : (Ent.me kV enc g f k b).fp q ↔ q = g := by unfold Ent.me; exact Iff.rfl
theorem Ent.me_ok {κ α : Type} {kV : κ → Value} {enc : α → Value} {g : Nat} {f : κ → Option α} {k : κ} {b : Nat} {w : World} : (Ent.me kV enc g f k b).ok w ↔ ∃ es clock, w.heap[g]? = some (.map es clock) ∧ MapF kV enc es clock f ∧ ∃ e ∈ es.toList, e.key = kV k ∧ e.born = b := by unfold Ent.me; exact Iff.rfl
section
variable {P : Program} {n : Nat} {B D : World} {M : Nat → Prop} {F : Fence} [hF : Calm F] {Q : Exit → Act → World → Prop} {fs : SFs} {hs : HS} {ops : Array Oper} {o : Oper} {κ α : Type} [DecidableEq κ] {kV : κ → Value} {enc : α → Value} {m : List (κ × α)} {g : Nat} {mt et : TypeId} {z : α}
theorem Ew.bs [hT : TyMf P mt et kV enc z] (ho : o.op = .makeMap mt none) : Ew P n B M fs hs o (fun v hs' => ∃ g, v = .map (some g) ∧ hs' = .mf kV enc g (qf ([] : List (κ × α))) :: hs) := Ew.bJ ho
theorem Ew.bV [hT : TyMf P mt et kV enc z] (i : Nat) {x y u : Operand} {k : κ} {v : α} {hs' : HS} (ho : o.op = .mapUpdate mt x y u) (hx : ev fs x = some (.map (some g))) (hy : ev fs y = some (kV k)) (hu : ev fs u = some (enc v)) (hi : hs[i]? = some (.mf kV enc g (qf m))) [hH : SetAt hs i (.mf kV enc g (qf (qset m k v))) hs'] : Ew P n B M fs hs o (fun v hs'' => v = undef ∧ hs'' = hs') := by
  haveI : SetAt hs i (.mf kV enc g (qput (qf m) k v)) hs' := ⟨by rw [← zcx]; exact hH.h⟩; exact Ew.bB i ho hx hy hu hi
theorem Ew.aV [hT : TyMf P mt et kV enc z] (i : Nat) {x y : Operand} {k : κ} {hs' : Nat → HS} (ho : o.op = .mapEntry mt x y) (hx : ev fs x = some (.map (some g))) (hy : ev fs y = some (kV k)) (hi : hs[i]? = some (.mf kV enc g (qf m))) [hH : ∀ b, SetAt hs i (.me kV enc g (qf (qset m k ((qf m k).getD z))) k b) (hs' b)] : Ew P n B M fs hs o (fun v hs'' => ∃ b : Nat, v = .tuple #[enc ((qf m k).getD z), .int .i64 (b : Int)] ∧ hs'' = hs' b) := Ew.aC fun a w ha hp => by
  obtain ⟨kt, hm, hk, heq, hf0, hf1, hinj, hsb, hz⟩ := hT.h; obtain ⟨es, clock, hb, hS⟩ := Ent.mf_ok.1 (hp.get hi); obtain ⟨kt', hm', h0⟩ := hS.find (P := P) (mt := mt) k w; (obtain rfl : kt' = kt := by rw [hm] at hm'; cases hm'; rfl); have hlt := (Array.getElem?_eq_some_iff.1 hb).1
  have hon : ∀ es' cl', Only (· = g) w { w with heap := w.heap.setIfInBounds g (.map es' cl') } := fun es' cl' => ⟨rfl, rfl, rfl, by simp, fun k hk hn => by
    simp only [Array.getElem?_setIfInBounds]
    rw [if_neg (fun e => hn e.symm)]⟩
  rcases h0 with ⟨j, e, v, h1, hj, h3, h4, h2⟩ | ⟨h1, h2, h3⟩
  · have hE : MapF kV enc es clock (qf (qset m k ((qf m k).getD z))) := by
      rw [zcx, h2, Option.getD_some, zgB h2]; exact hS
    have hrun : (Instr.mapEntry mt (.map (some g)) (kV k)).run P w = .ok (.tuple #[enc v, .int .i64 (e.born : Int)]) { w with heap := w.heap.setIfInBounds g (.map (es.modify j fun e => { e with key := kV k }) clock) } := by
      simp [Instr.mapEntry, run_underlying hm, MapKept.run_getObj_map hb, hk, h1, hj, h3, Instr.keyThatStays, hsb, MapKept.run_setObj_map _ hb, Result.andThen]
      rfl
    rw [zgk hj h3] at hrun; refine ⟨.tuple #[enc v, .int .i64 (e.born : Int)], _, hs' e.born, ?_, Kp.only (hon es clock) (fun k e c => by subst e; rw [hb]; simp), ?_, e.born, by rw [h2]; rfl, rfl⟩
    · unfold execOp; simp [ho, ha.ev hx, ha.ev hy, hrun, Result.andThen]
    · rw [← (hH e.born).h]; exact hp.updAt hi (hon es clock) (fun k _ hk => Ent.mf_fp.2 hk) (Ent.me_ok.2 ⟨es, clock, by simp [hlt], hE, e, List.mem_of_getElem? (by rw [Array.getElem?_toList]; exact hj), h3, rfl⟩) (fun k hk => .inl (Ent.mf_fp.2 (Ent.me_fp.1 hk)))
  · have hE : MapF kV enc (es.push { key := kV k, val := enc z, born := clock }) (clock + 1) (qf (qset m k ((qf m k).getD z))) := by
      rw [zcx, h2, Option.getD_none]; exact hS.push h3
    have hrun : (Instr.mapEntry mt (.map (some g)) (kV k)).run P w = .ok (.tuple #[enc z, .int .i64 (clock : Int)]) { w with heap := w.heap.setIfInBounds g (.map (es.push { key := kV k, val := enc z, born := clock }) (clock + 1)) } := by
      simp [Instr.mapEntry, run_underlying hm, MapKept.run_getObj_map hb, hk, h1, hz, MapKept.run_setObj_map _ hb, Result.andThen]
      rfl
    have hon' := hon (es.push { key := kV k, val := enc z, born := clock }) (clock + 1); refine ⟨.tuple #[enc z, .int .i64 (clock : Int)], _, hs' clock, ?_, Kp.only hon' (fun k e c => by subst e; rw [hb]; simp), ?_, clock, by rw [h2]; rfl, rfl⟩
    · unfold execOp; simp [ho, ha.ev hx, ha.ev hy, hrun, Result.andThen]
    · rw [← (hH clock).h]; exact hp.updAt hi hon' (fun k _ hk => Ent.mf_fp.2 hk) (Ent.me_ok.2 ⟨_, _, by simp [hlt], hE, _, by rw [Array.toList_push]; exact List.mem_append.2 (.inr (List.mem_singleton.2 rfl)), rfl, rfl⟩) (fun k hk => .inl (Ent.mf_fp.2 (Ent.me_fp.1 hk)))
theorem Yv.bW [hT : TyMf P mt et kV enc z] (i : Nat) {x y : Operand} {k : κ} {b : Nat} (ho : o.op = .lookup mt x y false) (hx : ev fs x = some (.map (some g))) (hy : ev fs y = some (kV k)) (hi : hs[i]? = some (.me kV enc g (qf (qset m k ((qf m k).getD z))) k b)) : Yv P n B M fs hs o (enc ((qf m k).getD z)) := fun a w ha hp => by
  obtain ⟨es, clock, hb, hS, _⟩ := Ent.me_ok.1 (hp.get hi); have h1 := zeE (P := P) (mt := mt) hb hS k false; rw [zcx, zcn, Option.getD_some] at h1; unfold execOp; simp [ho, ha.ev hx, ha.ev hy, h1, Result.andThen]
theorem Ew.aS (i : Nat) {x y u : Operand} {k : κ} {b : Nat} {c v : α} {hs' : HS} (ho : o.op = .entryStore mt x y u) (hx : ev fs x = some (.map (some g))) (hy : ev fs y = some (.int .i64 (b : Int))) (hu : ev fs u = some (enc v)) (hi : hs[i]? = some (.me kV enc g (qf (qset m k c)) k b)) [hH : SetAt hs i (.mf kV enc g (qf (qset m k v))) hs'] : Ew P n B M fs hs o (fun v hs'' => v = undef ∧ hs'' = hs') := Ew.aO fun a w ha hp => by
  obtain ⟨es, clock, hb, hS, e, he, hek, heb⟩ := Ent.me_ok.1 (hp.get hi); have hlt := (Array.getElem?_eq_some_iff.1 hb).1; obtain ⟨j, hj⟩ := List.mem_iff_getElem?.1 he; rw [Array.getElem?_toList] at hj
  have hfi : es.findIdx? (fun e => (e.born : Int) == (b : Int)) = some j := by
    rw [Array.findIdx?_eq_some_iff_getElem]; have hjl := (Array.getElem?_eq_some_iff.1 hj).1; have hje := (Array.getElem?_eq_some_iff.1 hj).2; refine ⟨hjl, by rw [hje, heb]; simp, fun q hq => ?_⟩; have hn := hS.st.2.1; intro hc
    have hqb : es[q].born = b := by
      (have h9 : (es[q].born : Int) = (b : Int) := by simpa using hc); omega
    have h5 : (es.toList.map (·.born))[q]'(by simp; omega) = (es.toList.map (·.born))[j]'(by simpa using hjl) := by
      simp [hje, hqb, heb]
    have := (List.getElem_inj hn).1 h5; omega
  have hE : MapF kV enc (es.modify j fun e => { e with val := enc v }) clock (qf (qset m k v)) := by
    have := hS.modV (v := v) hj hek
    rwa [zcx, zfS, ← zcx] at this
  have hon : Only (· = g) w { w with heap := w.heap.setIfInBounds g (.map (es.modify j fun e => { e with val := enc v }) clock) } := ⟨rfl, rfl, rfl, by simp, fun k hk hn => by
    simp only [Array.getElem?_setIfInBounds]
    rw [if_neg (fun e => hn e.symm)]⟩
  have h1 : (asIntOf (Value.int .i64 (b : Int))).run P w = .ok (.i64, (b : Int)) w := rfl
  have hrun : (Instr.entryStore mt (.map (some g)) (.int .i64 (b : Int)) (enc v)).run P w = .ok () { w with heap := w.heap.setIfInBounds g (.map (es.modify j fun e => { e with val := enc v }) clock) } := by
    simp [Instr.entryStore, MapKept.run_getObj_map hb, asInt, h1, hfi, MapKept.run_setObj_map _ hb, Result.andThen]
  refine ⟨_, hs', ?_, Kp.only hon (fun k e c => by subst e; rw [hb]; simp), ?_, rfl, rfl⟩
  · unfold execOp; simp [ho, ha.ev hx, ha.ev hy, ha.ev hu, hrun, Result.andThen]
  · rw [← hH.h]; exact hp.updAt hi hon (fun k _ hk => Ent.me_fp.2 hk) (Ent.mf_ok.2 ⟨_, clock, by simp [hlt], hE⟩) (fun k hk => .inl (Ent.me_fp.2 (Ent.mf_fp.1 hk)))
end
section
variable {κ : Type} [DecidableEq κ] {f0 f2 : κ → Option Int} {left : κ → Bool} {k : κ} {v : Int}
def qneg (f0 f2 : κ → Option Int) (left : κ → Bool) : κ → Option Int := fun k => bif (f0 k).isSome && !left k then (f0 k).map (fun v => wI (0 - v)) else f2 k
theorem zfX (f0 f2 : κ → Option Int) : f2 = qneg f0 f2 (fun k => (f0 k).isSome) := by
  funext k
  unfold qneg
  cases h : (f0 k).isSome <;> simp [h]
theorem zf0 (hl : left k = true) (h : f0 k = some v) : qput (qneg f0 f2 left) k (wI (0 - v)) = qneg f0 f2 (fun j => left j && !decide (j = k)) := by
  funext j
  unfold qput qneg; by_cases hj : j = k
  · subst hj; simp [h]
  · simp [hj]
def zek (m m2 : List (κ × Int)) : List (κ × Int) := m.foldr (fun e l => qset l e.1 (wI (0 - e.2))) m2
theorem zgD (e : κ × Int) (r : List (κ × Int)) (j : κ) : qf (e :: r) j = bif decide (e.1 = j) then some e.2 else qf r j := by
  unfold qf; rw [List.find?_cons]
  cases decide (e.1 = j) <;> rfl
theorem zej : ∀ (m m2 : List (κ × Int)), qf (zek m m2) = qneg (qf m) (qf m2) (fun _ => false)
  | [], m2 => by funext j; rfl
  | e :: r, m2 => by
    show qf (qset (zek r m2) e.1 (wI (0 - e.2))) = _
    rw [zcx, zej r m2]
    funext j
    unfold qput qneg; rw [zgD]; by_cases h : j = e.1
    · rw [decide_eq_true h, decide_eq_true h.symm]; rfl
    · rw [decide_eq_false h, decide_eq_false (fun q => h q.symm)]; rfl
theorem zf4 {m m2 : List (κ × Int)} (hl : ∀ k, left k = false) : qneg (qf m) (qf m2) left = qf (zek m m2) := by
  rw [zej, show left = fun _ => false from funext hl]
end
section
variable {P : Program} {n : Nat} {B D : World} {M : Nat → Prop} {fs : SFs} {hs : HS} {o : Oper} {v : Value}
theorem Yv.bP {op : BinOp} {x y : Operand} {t u : TypeId} {a b : Value} (ho : o.op = .binOp op t x y u) (hx : ev fs x = some a) (hy : ev fs y = some b) (hr : ∀ w, (do eqGuard op t x y a b; binOp op t a b : Sem Value).run P w = .ok v w) : Yv P n B M fs hs o v := fun f w ha _ => by
  unfold execOp; simp only [ho, ha.ev hx, ha.ev hy]; rw [Sem.run_bind, hr w]
  rfl
end
theorem Fx.hp {F : Frz} {w w' : World} {es : HS} (hF : F.At w) (h : Hp w (fun _ => False) es w') : ∃ G : Frz, Fx F w G w' ∧ G.w = w' ∧ ∀ e ∈ es, ∀ g, e.fp g → Cb w' g → G.S g := by
  have hb := h.isBelow; have hF' := hF.below hb; refine ⟨⟨fun g => F.S g ∨ ((∃ e ∈ es, e.fp g) ∧ Cb w' g), w', fun g hg => hg.elim (fun h => hF'.cb h) (fun h => h.2)⟩, ⟨fun g hg => ⟨.inl hg, hF' g hg⟩, fun g _ => rfl, fun g hg => ?_, hb⟩, rfl, fun e he g hg hc => .inr ⟨⟨e, he, hg⟩, hc⟩⟩; rcases hg with h1 | ⟨⟨e, he, hg⟩, _⟩
  · exact .inl h1
  · exact .inr ((h.new e he g hg).elim (fun h => h.elim) id)
theorem SlK.ent {G : Frz} {w' : World} {v : Value} {e : TypeId} {size k : Nat} {l : List Value} (hok : (Ent.sl v e size k l).ok w') (hw : G.w = w') (hS : ∀ g, (Ent.sl v e size k l).fp g → Cb w' g → G.S g) : SlK G v size k l := by
  have ho := Ent.sl_ok.1 hok; rcases ho.2 with ⟨rfl, h0⟩ | ⟨g, cap, cur, rfl, hb, hg, hnc, hcm, hcs, htake⟩
  · subst h0; exact ⟨ho.1, none, 0, rfl, Nat.le_refl _, by omega, fun h => by omega⟩
  · refine ⟨ho.1, _, cap, rfl, hnc, by unfold maxLen at hcm; omega, fun _ => ⟨g, rfl, hS g (Ent.sl_fp.2 rfl) ⟨_, _, _, hg⟩, fun q hq => ?_⟩⟩; rw [hw, Nat.zero_add, World.ownsRow.cellAt ho q (by rw [← ho.1]; exact hq)]
theorem zfu (F0 : Frz) (w : World) (hF0 : F0.At w) (l : List Int) (vl : Value) (hl : SlC F0 vl 1 (l.map eI)) (hr : room l.length 8) : Calls Tryz.prog 52 #[vl] w fun e w' => ∃ (y : Value) (G : Frz), SlC G y 1 (l.map eI) ∧ e = .returned y ∧ Fx F0 w G w' := by
  haveI := hl.oneC; have hl0 := hl; obtain ⟨A, cap, hv, hlc, hcm, hcl, hcs⟩ := hl0; have hlen : (l.map eI).length = l.length := List.length_map _
  cases hA : A with
  | none =>
    have h0 : ¬ 0 < l.length := fun h => by
      obtain ⟨g, off, h1, _⟩ := hcs (by rw [hlen]; exact h); rw [hA] at h1; cases h1
    refine Calls.mono (R := fun e w' => e = .returned (.slice none 0 0) ∧ Below w.heap.size w w') ?_ ?_
    · obtain ⟨S0, F1, hF1, hS0, hp0⟩ := zag hF0; refine zaj (M := fun _ => False) (hs := [.fr F1]) Tryz.func52 rfl rfl rfl hp0 ?_; refine T.sr ?_; refine TL.run 1 rfl ?_; refine TL.ns (T.seq (T.sr ?_)); refine TL.run 1 rfl ?_; refine TL.y (Yv.bP (v := .bool true) rfl rfl rfl (fun w => by rw [hv, hA]; kernel_rfl)) ?_; refine TL.ns ?_; refine T.bo rfl rfl ?_; refine T.sr ?_; refine TL.run 1 rfl ?_; refine TL.ns (T.ret (K.a ?_)); exact K.ak rfl rfl (fun w' hw => ⟨rfl, hw.isBelow⟩)
    · rintro e w' ⟨rfl, hb⟩
      cases l with
      | nil => exact ⟨.slice none 0 0, F0, SlC.nil _ 1, rfl, Fx.refl hF0 hb⟩
      | cons x r => simp at h0
  | some a =>
    refine Calls.mono (R := fun e w' => ∃ v' : Value, e = .returned v' ∧ Hp w (fun _ => False) [.sl v' 3 1 l.length (l.flatMap eI)] w') ?_ ?_
    · obtain ⟨S0, F1, hF1, hS0, hp0⟩ := zag hF0; rw [← hF1] at hl; refine zaj (M := fun _ => False) (hs := [.fr F1]) Tryz.func52 rfl rfl rfl hp0 ?_; refine T.sr ?_; refine TL.run 1 rfl ?_; refine TL.ns (T.seq (T.sr ?_)); refine TL.run 1 rfl ?_; refine TL.y (Yv.bP (v := .bool false) rfl rfl rfl (fun w => by rw [hv, hA]; kernel_rfl)) ?_; refine TL.ns ?_; refine T.bc rfl rfl ?_; refine T.skip (K.seq (T.sr ?_)); refine TL.e (Ew.bh rfl) ?_; rintro _ _ ⟨g, rfl, rfl⟩; refine TL.run 1 rfl ?_; refine TL.e (Ew.bz 0 1 (k' := l.length) (l' := l.flatMap eI) (zgF (enc := eI) (fun _ => inferInstance)) rfl rfl rfl rfl rfl hl (by rw [List.length_map]; omega) (by rw [List.nil_append, ← List.flatMap_def]) hr (by decide)) ?_; rintro v' _ ⟨hv', rfl⟩; refine TL.run 1 rfl ?_; refine TL.ns (T.ret ?_); exact K.ak rfl rfl (fun w' hw => ⟨v', rfl, hw.sub Sx⟩)
    · rintro e w' ⟨v', rfl, hw⟩; obtain ⟨G, h1, h2, h3⟩ := Fx.hp hF0 hw; have h4 := SlK.ent (G := G) (hw.own (.sl v' 3 1 l.length (l.flatMap eI)) (by simp)) h2 (h3 _ (by simp)); exact ⟨v', G, h4.toF rfl (fun _ => rfl), rfl, h1⟩
structure Gpoint where
  product : Int
  thousandths : Int
deriving DecidableEq, Inhabited
abbrev Gpoint.enc (x : Gpoint) : List Value := [.int .i64 x.product, .int .i64 x.thousandths]
theorem Gpoint.len (x : Gpoint) : (Gpoint.enc x).length = 2 := rfl
end Go.Proofs.YtlaafmiejkebgaaGreat
