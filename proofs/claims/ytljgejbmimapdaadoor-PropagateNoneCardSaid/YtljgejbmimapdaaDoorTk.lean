/- Allocations in any order; bags of entries; blocks that stay. -/
import Derived.Test.YtljgejbmimapdaaDoorTj
set_option linter.unusedVariables false
set_option linter.unusedSectionVars false
set_option linter.unusedSimpArgs false
namespace Go.Proofs.YtljgejbmimapdaaDoor
open Go.RowKit
theorem look_cons {k : Nat} {v : Value} {r : SFs} {t : Nat} : look ((k, v) :: r) t = if k = t then some v else look r t := by
  simp only [look]
  by_cases h : k = t
  · subst h; simp
  · rw [show Nat.beq k t = false from by cases hb : Nat.beq k t with | false => rfl | true => exact absurd (Nat.eq_of_beq_eq_true hb) h, if_neg h]; rfl
theorem look_perm {l1 l2 : SFs} (h : l1.Perm l2) : (l1.map Prod.fst).Nodup → ∀ fs t, look (l1 ++ fs) t = look (l2 ++ fs) t := by
  induction h with
  | nil => intros; rfl
  | cons x _ ih =>
    intro hn fs t
    obtain ⟨k, v⟩ := x
    simp only [List.cons_append, look_cons]
    rw [ih (by simp only [List.map_cons, List.nodup_cons] at hn; exact hn.2)]
  | swap x y l =>
    intro hn fs t
    obtain ⟨a, u⟩ := x
    obtain ⟨b, v⟩ := y
    simp only [List.map_cons, List.nodup_cons, List.mem_cons, not_or] at hn
    simp only [List.cons_append, look_cons]
    by_cases h1 : a = t <;> by_cases h2 : b = t
    · exact absurd (h2.trans h1.symm) hn.1.1
    · simp [h1, h2]
    · simp [h1, h2]
    · simp [h1, h2]
  | trans h1 _ ih1 ih2 =>
    intro hn fs t
    rw [ih1 hn, ih2 ((h1.map Prod.fst).nodup_iff.1 hn)]
section
variable {F : Fence} [hF : Calm F] {P : Program} {n : Nat} {B D : World} {M : Nat → Prop} {Q : Exit → Act → World → Prop} {fs : SFs} {hs hs0 : HS} {ops : Array Oper} {kk : Ord}
theorem TS.weaken {gs : SFs} {hs' : HS} {r : Ord} (h1 : Sub fs gs) (hp : hs.Perm hs') (h : TS F P n B D M ops Q hs0 r gs hs') : TS F P n B D M ops Q hs0 r fs hs :=
  ⟨fun a w fuel listed h2 h3 h4 ha hw hw0 hm => h.out a w fuel listed h2 h3 h4 (ha.sub h1) (hw.perm hp) hw0 hm⟩
theorem TS.anyP {js : List Nat} (d : Nat → Nat) (V : Nat → Nat → Value) (E : Nat → Nat → Ent)
    (hop : ∀ j ∈ js, ∃ o : Oper, ops[j]? = some o ∧ o.dst = some (d j) ∧ Nat.blt (d j) n = true ∧ look fs (d j) = none ∧ o.guard = none ∧ ∀ fs' hs', Sub fs' fs → Ew P n B M fs' hs' o (fun v hs'' => ∃ g, v = V j g ∧ hs'' = E j g :: hs'))
    (k : ∀ done : List (Nat × Nat), (done.map Prod.fst).Perm js → TS F P n B D M ops Q hs0 kk (done.map (fun p => (d p.1, V p.1 p.2)) ++ fs) (done.map (fun p => E p.1 p.2) ++ hs)) (hsub : hs0.Sublist hs) :
    TS F P n B D M ops Q hs0 (.any js kk) fs hs := by
  have main : ∀ m (rem : List Nat) (done : List (Nat × Nat)) fuel (listed : Array Bool) a w, Region.noSelect ops = true → noDefers ops = true → (done.map Prod.fst ++ rem).Perm js →
      ordAny ops (fun f l => ordOK ops kk f l) m rem fuel listed = true → Fr n (done.map (fun p => (d p.1, V p.1 p.2)) ++ fs) a → Hp B M (done.map (fun p => E p.1 p.2) ++ hs) w → Hp B M hs0 w → Mk B D a w →
      wpAnyC F P .any ops Q (Hp B M hs0) fuel listed a w := by
    intro m
    induction m with
    | zero =>
      intro rem done fuel listed a w hns hnd hp hok ha hw hw0 hm
      simp only [ordAny, Bool.and_eq_true, List.isEmpty_iff] at hok
      obtain ⟨rfl, hok⟩ := hok
      rw [List.append_nil] at hp
      exact (k done hp).out a w fuel listed hns hnd hok ha hw hw0 hm
    | succ m ih =>
      intro rem done fuel listed a w hns hnd hp hok ha hw hw0 hm
      cases fuel with
      | zero => simp [ordAny] at hok
      | succ fuel =>
        simp only [ordAny, Bool.and_eq_true, beq_iff_eq, Bool.not_eq_true', List.isEmpty_eq_false_iff, List.all_eq_true] at hok
        refine wpAnyC_all hok.1 hok.2.1 ?_
        intro q hq
        have hqj : q ∈ js := hp.subset (List.mem_append_right _ hq)
        obtain ⟨o, h1, h2, h3, h4, h5, hE⟩ := hop q hqj
        have hs' : Sub (done.map (fun p => (d p.1, V p.1 p.2)) ++ fs) fs := by
          have : ∀ (l : List (Nat × Nat)), (∀ p ∈ l, p.1 ∈ js) → Sub (l.map (fun p => (d p.1, V p.1 p.2)) ++ fs) fs := by
            intro l
            induction l with
            | nil => intro _; exact Sub.refl
            | cons p r ihr =>
              intro hl t v hv
              simp only [List.map_cons, List.cons_append, look_cons]
              by_cases hd : d p.1 = t
              · obtain ⟨_, _, _, _, this, _⟩ := hop p.1 (hl p (by simp))
                rw [hd] at this
                rw [this] at hv; cases hv
              · rw [if_neg hd]; exact ihr (fun x hx => hl x (by simp [hx])) t v hv
          exact this done (fun p hp' => hp.subset (List.mem_append_left _ (List.mem_map.2 ⟨p, hp', rfl⟩)))
        unfold wpOpIn
        simp only [h1, (Wt.none (n := n) (ops := ops) (fs := done.map (fun p => (d p.1, V p.1 p.2)) ++ fs) h5) a ha, if_true]
        refine hE _ _ hs' F hF Q _ a w ha hw ?_
        rintro v w' hs'' hk hp' ⟨g, rfl, rfl⟩
        rw [h2]
        have hsub' : hs0.Sublist (E q g :: (done.map (fun p => E p.1 p.2) ++ hs)) := (hsub.trans (List.sublist_append_right _ _)).trans (List.sublist_cons_self _ _)
        refine ⟨hp'.sub hsub', ?_⟩
        exact ih (rem.erase q) ((q, g) :: done) fuel _ _ w' hns hnd (by
          simp only [List.map_cons, List.cons_append]
          have : (q :: (done.map Prod.fst ++ rem.erase q)).Perm (done.map Prod.fst ++ q :: rem.erase q) := List.perm_middle.symm
          exact this.trans (((List.perm_cons_erase hq).symm.append_left _).trans hp)) (hok.2.2 q hq) (ha.put h3 _) hp' (hp'.sub hsub') ((hm.next hk).put _ _)
  exact ⟨fun a w fuel listed hns hnd hok ha hw hw0 hm => main js.length js [] fuel listed a w hns hnd (by simp) (by simpa [ordOK] using hok) ha hw hw0 hm⟩
def findG (done : List (Nat × Nat)) (j : Nat) : Nat := match done.find? (fun p => p.1 == j) with | some p => p.2 | none => 0
theorem findG_mem : ∀ (done : List (Nat × Nat)), (done.map Prod.fst).Nodup → ∀ p ∈ done, findG done p.1 = p.2
  | [], _, p, hp => by cases hp
  | q :: r, hn, p, hp => by
    simp only [List.map_cons, List.nodup_cons] at hn
    unfold findG
    rw [List.find?_cons]
    by_cases h : q.1 = p.1
    · have e : (q.1 == p.1) = true := by simpa using h
      simp only [e]
      rcases List.mem_cons.1 hp with rfl | hp
      · rfl
      · exact absurd (List.mem_map.2 ⟨p, hp, h.symm⟩) hn.1
    · have e : (q.1 == p.1) = false := by simpa using h
      simp only [e]
      rcases List.mem_cons.1 hp with rfl | hp
      · exact absurd rfl h
      · exact findG_mem r hn.2 p hp
theorem TS.any {js : List Nat} (d : Nat → Nat) (V : Nat → Nat → Value) (E : Nat → Nat → Ent) (hnd : js.Nodup) (hnd2 : (js.map d).Nodup)
    (hop : ∀ j ∈ js, ∃ o : Oper, ops[j]? = some o ∧ o.dst = some (d j) ∧ Nat.blt (d j) n = true ∧ look fs (d j) = none ∧ o.guard = none ∧ ∀ fs' hs', Sub fs' fs → Ew P n B M fs' hs' o (fun v hs'' => ∃ g, v = V j g ∧ hs'' = E j g :: hs'))
    (hsub : hs0.Sublist hs) (k : ∀ gs : Nat → Nat, TS F P n B D M ops Q hs0 kk (js.map (fun j => (d j, V j (gs j))) ++ fs) (js.map (fun j => E j (gs j)) ++ hs)) : TS F P n B D M ops Q hs0 (.any js kk) fs hs := by
  refine TS.anyP d V E hop (fun done hp => ?_) hsub
  have hdn : (done.map Prod.fst).Nodup := hp.nodup_iff.2 hnd
  have he : done = (done.map Prod.fst).map (fun j => (j, findG done j)) := by
    rw [List.map_map]
    conv => lhs; rw [← List.map_id done]
    exact List.map_congr_left fun p hp' => by simp [findG_mem done hdn p hp']
  have hpd : done.Perm (js.map (fun j => (j, findG done j))) := by
    have := hp.map (fun j => (j, findG done j))
    rw [← he] at this
    exact this
  refine TS.weaken (fun t v hv => ?_) ?_ (k (findG done))
  · have h1 := hpd.map (fun p => (d p.1, V p.1 p.2))
    rw [List.map_map] at h1
    rw [look_perm h1 (by
      rw [List.map_map]
      have := hp.map d
      rw [List.map_map] at this
      exact this.nodup_iff.2 hnd2)]
    exact hv
  · have h1 := hpd.map (fun p => E p.1 p.2)
    rw [List.map_map] at h1
    exact h1.append_right _
end
/-! ### Bags -/
@[irreducible] def Ent.bag (es : HS) : Ent where
  fp g := ∃ e ∈ es, e.fp g
  ok w := (∀ e ∈ es, e.ok w) ∧ es.Pairwise fun (e f : Ent) => ∀ g : Nat, e.fp g → ¬ f.fp g
  loc h k := ⟨fun e he => e.loc (fun g hg => h g ⟨e, he, hg⟩) (k.1 e he), k.2⟩
  lt h g hg := by obtain ⟨e, he, hg⟩ := hg; exact e.lt (h.1 e he) g hg
  nd h g hg c := by obtain ⟨e, he, hg⟩ := hg; exact e.nd (h.1 e he) g hg c
theorem Ent.bag_fp {es : HS} {g : Nat} : (Ent.bag es).fp g ↔ ∃ e ∈ es, e.fp g := by unfold Ent.bag; exact Iff.rfl
theorem Ent.bag_ok {es : HS} {w : World} : (Ent.bag es).ok w ↔ (∀ e ∈ es, e.ok w) ∧ es.Pairwise fun e f => ∀ g, e.fp g → ¬ f.fp g := by unfold Ent.bag; exact Iff.rfl
section
variable {F : Fence} {P : Program} {n : Nat} {B D : World} {M : Nat → Prop} {Q : Exit → Act → World → Prop} {fs : SFs} {hs : HS} {c : Code} {e : Exit} {w : World}
theorem Hp.repl {es es' rest : HS} (h : Hp B M (es ++ rest) w) (hok : ∀ e ∈ es', e.ok w) (hfp : ∀ e ∈ es', ∀ g, e.fp g → ∃ f ∈ es, f.fp g) (hap : es'.Pairwise fun e f => ∀ g, e.fp g → ¬ f.fp g) : Hp B M (es' ++ rest) w :=
  Hp.go (es := es) h (Only.refl (fun _ => False) w) (fun _ _ h => h.elim) hok (fun e he g hg => .inl (hfp e he g hg)) hap
theorem Hp.openB {i a : Nat} {es : HS} {x : Ent} (h : Hp B M hs w) (hi : hs[i]? = some (.bag es)) (ha : es[a]? = some x) : Hp B M (x :: hs.set i (.bag (es.eraseIdx a))) w := by
  have h1 := h.perm (set_perm hi)
  have hb := Ent.bag_ok.1 (h1.own (.bag es) (by simp))
  obtain ⟨hal, rfl⟩ := List.getElem?_eq_some_iff.1 ha
  have hpe := erase_perm es a hal
  have hpw := (hpe.pairwise_iff (fun hxy g hy hx => hxy g hx hy)).1 hb.2
  rw [List.pairwise_cons] at hpw
  have h2 := Hp.repl (es := [.bag es]) (es' := [es[a], .bag (es.eraseIdx a)]) h1 (fun e he => by
      simp only [List.mem_cons, List.not_mem_nil, or_false] at he
      rcases he with rfl | rfl
      · exact hb.1 _ (List.getElem_mem _)
      · exact Ent.bag_ok.2 ⟨fun e he => hb.1 e (List.mem_of_mem_eraseIdx he), hpw.2⟩) (fun e he g hg => by
      simp only [List.mem_cons, List.not_mem_nil, or_false] at he
      refine ⟨_, List.mem_singleton.2 rfl, Ent.bag_fp.2 ?_⟩
      rcases he with rfl | rfl
      · exact ⟨_, List.getElem_mem _, hg⟩
      · obtain ⟨f, hf, hg⟩ := Ent.bag_fp.1 hg
        exact ⟨f, List.mem_of_mem_eraseIdx hf, hg⟩) (by
      refine List.pairwise_cons.2 ⟨fun f hf g hg hfg => ?_, List.pairwise_singleton _ _⟩
      rw [List.mem_singleton.1 hf] at hfg
      obtain ⟨f', hf', hg'⟩ := Ent.bag_fp.1 hfg
      exact hpw.1 f' hf' g hg hg')
  exact h2.perm ((set_perm' hi).cons _)
theorem Hp.closeB {i a : Nat} {es : HS} {x : Ent} (h : Hp B M (x :: hs) w) (hi : hs[i]? = some (.bag (es.eraseIdx a))) (ha : a < es.length) : Hp B M (hs.set i (.bag (es.set a x))) w := by
  have h1 : Hp B M ([x, .bag (es.eraseIdx a)] ++ hs.eraseIdx i) w := h.perm ((set_perm hi).cons _)
  have hb := Ent.bag_ok.1 (h1.own (.bag (es.eraseIdx a)) (by simp))
  have hx := h1.own x (by simp)
  have hxb := (List.pairwise_cons.1 h1.apart).1 (.bag (es.eraseIdx a)) (by simp)
  have hpe : (x :: es.eraseIdx a).Perm (es.set a x) := by
    have := set_perm' (hs := es) (e := es[a]) (e' := x) (i := a) (List.getElem?_eq_getElem ha)
    exact this
  have h2 := Hp.repl (es := [x, .bag (es.eraseIdx a)]) (es' := [.bag (es.set a x)]) h1 (fun e he => by
      rw [List.mem_singleton.1 he]
      refine Ent.bag_ok.2 ⟨fun e he => ?_, (hpe.pairwise_iff (fun hxy g hy hx => hxy g hx hy)).1 (List.pairwise_cons.2 ⟨fun f hf g hg hfg => hxb g hg (Ent.bag_fp.2 ⟨f, hf, hfg⟩), hb.2⟩)⟩
      rcases List.mem_cons.1 (hpe.symm.subset he) with rfl | he
      · exact hx
      · exact hb.1 e he) (fun e he g hg => by
      rw [List.mem_singleton.1 he] at hg
      obtain ⟨f, hf, hfg⟩ := Ent.bag_fp.1 hg
      rcases List.mem_cons.1 (hpe.symm.subset hf) with e1 | hf
      · rw [e1] at hfg; exact ⟨x, by simp, hfg⟩
      · exact ⟨.bag (es.eraseIdx a), by simp, Ent.bag_fp.2 ⟨f, hf, hfg⟩⟩) (List.pairwise_singleton _ _)
  exact h2.perm (set_perm' hi)
theorem T.openB (i a : Nat) {es : HS} {x : Ent} {hs' : HS} (hi : hs[i]? = some (.bag es)) (ha : es[a]? = some x) [hH : SetAt hs i (.bag (es.eraseIdx a)) hs'] (h : T F P n B D M c Q fs (x :: hs')) : T F P n B D M c Q fs hs := ⟨fun a' w ha' hw hm => h.out a' w ha' (by rw [← hH.h]; exact hw.openB hi ha) hm⟩
theorem K.closeB (i a : Nat) {es : HS} {x : Ent} {hs' : HS} (hi : hs[i]? = some (.bag (es.eraseIdx a))) (ha : a < es.length) [hH : SetAt hs i (.bag (es.set a x)) hs'] (h : K n B D M Q e fs hs') : K n B D M Q e fs (x :: hs) := ⟨fun a' w ha' hw hm => h.out a' w ha' (by rw [← hH.h]; exact hw.closeB hi ha) hm⟩
theorem K.closeBE (i a : Nat) {es : HS} (es' : HS) {x : Ent} {hs' : HS} (hi : hs[i]? = some (.bag (es.eraseIdx a))) (ha : a < es.length) (he : es.set a x = es') [hH : SetAt hs i (.bag es') hs'] (h : K n B D M Q e fs hs') : K n B D M Q e fs (x :: hs) := by
  subst he
  exact K.closeB i a hi ha h
theorem Hp.intoB {i : Nat} {es : HS} {x : Ent} (h : Hp B M (x :: hs) w) (hi : hs[i]? = some (.bag es)) : Hp B M (hs.set i (.bag (es ++ [x]))) w := by
  have h1 : Hp B M ([x, .bag es] ++ hs.eraseIdx i) w := h.perm ((set_perm hi).cons _)
  have hb := Ent.bag_ok.1 (h1.own (.bag es) (by simp))
  have hx := h1.own x (by simp)
  have hxb := (List.pairwise_cons.1 h1.apart).1 (.bag es) (by simp)
  have h2 := Hp.repl (es := [x, .bag es]) (es' := [.bag (es ++ [x])]) h1 (fun e he => by
      rw [List.mem_singleton.1 he]
      refine Ent.bag_ok.2 ⟨fun e he => ?_, List.pairwise_append.2 ⟨hb.2, List.pairwise_singleton _ _, fun f hf y hy g hg hyg => ?_⟩⟩
      · rcases List.mem_append.1 he with he | he
        · exact hb.1 e he
        · rw [List.mem_singleton.1 he]; exact hx
      · rw [List.mem_singleton.1 hy] at hyg
        exact hxb g hyg (Ent.bag_fp.2 ⟨f, hf, hg⟩)) (fun e he g hg => by
      rw [List.mem_singleton.1 he] at hg
      obtain ⟨f, hf, hfg⟩ := Ent.bag_fp.1 hg
      rcases List.mem_append.1 hf with hf | hf
      · exact ⟨.bag es, by simp, Ent.bag_fp.2 ⟨f, hf, hfg⟩⟩
      · rw [List.mem_singleton.1 hf] at hfg; exact ⟨x, by simp, hfg⟩) (List.pairwise_singleton _ _)
  exact h2.perm (set_perm' hi)
theorem K.intoBE (i : Nat) {es : HS} (es' : HS) {x : Ent} {hs' : HS} (hi : hs[i]? = some (.bag es)) (he : es ++ [x] = es') [hH : SetAt hs i (.bag es') hs'] (h : K n B D M Q e fs hs') : K n B D M Q e fs (x :: hs) := by
  subst he
  exact ⟨fun a' w ha' hw hm => h.out a' w ha' (by rw [← hH.h]; exact hw.intoB hi) hm⟩
/-- Entries that own nothing yet. -/
theorem Hp.bag0 {es : HS} (h : Hp B M hs w) (hok : ∀ w, ∀ e ∈ es, e.ok w) (hfp : ∀ e ∈ es, ∀ g, ¬ e.fp g) : Hp B M (.bag es :: hs) w :=
  Hp.repl (es := []) (es' := [.bag es]) h (fun e he => by
    rw [List.mem_singleton.1 he]
    exact Ent.bag_ok.2 ⟨hok w, (List.pairwise_iff_forall_sublist).2 (fun {a b} hs g hg => absurd hg (hfp a (hs.subset (by simp)) g))⟩) (fun e he g hg => by
    rw [List.mem_singleton.1 he] at hg
    obtain ⟨f, hf, hg⟩ := Ent.bag_fp.1 hg
    exact absurd hg (hfp f hf g)) (List.pairwise_singleton _ _)
theorem T.bag0 (es : HS) (hok : ∀ w, ∀ e ∈ es, e.ok w) (hfp : ∀ e ∈ es, ∀ g, ¬ e.fp g) (h : T F P n B D M c Q fs (.bag es :: hs)) : T F P n B D M c Q fs hs := ⟨fun a w ha hw hm => h.out a w ha (hw.bag0 hok hfp) hm⟩
end
end Go.Proofs.YtljgejbmimapdaaDoor
