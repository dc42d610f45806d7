/- The records at all places, together. -/
import Derived.Test.YtphpmjnpjnmdmaaK6
set_option maxRecDepth 100000
set_option maxHeartbeats 4000000
set_option linter.unusedSimpArgs false
set_option linter.unusedVariables false
set_option linter.unusedSectionVars false
namespace Go.Proofs.Ytphpmjnpjnmdmaa
open Go.RowKit
/-- Entries as one. -/
@[irreducible] def Ent.star (es : HS) : Ent where
  fp g := ∃ e ∈ es, e.fp g
  ok w := (∀ e ∈ es, e.ok w) ∧ es.Pairwise fun (e f : Ent) => ∀ g : Nat, e.fp g → ¬ f.fp g
  loc h k := ⟨fun e he => e.loc (fun g hg => h g ⟨e, he, hg⟩) (k.1 e he), k.2⟩
  lt h g hg := by obtain ⟨e, he, hg⟩ := hg; exact e.lt (h.1 e he) g hg
  nd h g hg c := by obtain ⟨e, he, hg⟩ := hg; exact e.nd (h.1 e he) g hg c
theorem Ent.star_fp {es : HS} {k : Nat} : (Ent.star es).fp k ↔ ∃ e ∈ es, e.fp k := by unfold Ent.star; exact Iff.rfl
theorem Ent.star_ok {es : HS} {w : World} : (Ent.star es).ok w ↔ (∀ e ∈ es, e.ok w) ∧ es.Pairwise fun e f => ∀ g, e.fp g → ¬ f.fp g := by unfold Ent.star; exact Iff.rfl
theorem Hp.unstar {B w : World} {M : Nat → Prop} {es : HS} (h : Hp B M [Ent.star es] w) : Hp B M es w := by
  obtain ⟨h1, h2⟩ := Ent.star_ok.1 (h.own _ (List.mem_singleton.2 rfl))
  exact ⟨h.os, h.tape, h.output, h.size, h.base, h1, fun e he g hg => h.new _ (List.mem_singleton.2 rfl) g (Ent.star_fp.2 ⟨e, he, hg⟩), h2⟩
theorem Hp.star {B w : World} {M : Nat → Prop} {es : HS} (h : Hp B M es w) : Hp B M [Ent.star es] w :=
  ⟨h.os, h.tape, h.output, h.size, h.base, fun e he => by rw [List.mem_singleton.1 he]; exact Ent.star_ok.2 ⟨h.own, h.apart⟩, fun e he g hg => by
    rw [List.mem_singleton.1 he] at hg
    obtain ⟨f, hf, hg⟩ := Ent.star_fp.1 hg
    exact h.new f hf g hg, List.pairwise_singleton _ _⟩
structure Rc where
  p : Pl
  v : Value
  nb : Nat
  c : List Nat
def rE (r : Rc) : Ent := .sl r.v 98 64 r.nb (u8s r.c)
def kvR (rs : List Rc) : List (Pl × Value) := rs.map fun r => (r.p, r.v)
def rNil (p : Pl) : Rc := ⟨p, .slice none 0 0, 0, []⟩
/-- The record at a place: the first one, or none yet. -/
def rOf : List Rc → Pl → Rc
  | [], p => rNil p
  | r :: t, p => if p = r.p then r else rOf t p
def rSet : List Rc → Rc → List Rc
  | [], x => [x]
  | r :: t, x => if x.p = r.p then x :: t else r :: rSet t x
theorem kvR_set : ∀ (rs : List Rc) (x : Rc), kvR (rSet rs x) = kvSet (kvR rs) x.p x.v
  | [], x => rfl
  | r :: t, x => by
    have ih := kvR_set t x
    by_cases h : x.p = r.p
    · simp [rSet, kvR, kvSet, h]
    · simp only [rSet, kvR, kvSet, h, if_false, List.map_cons] at ih ⊢
      rw [ih]
theorem kvR_get : ∀ (rs : List Rc) (p : Pl), (kvGet (kvR rs) p).getD (.slice none 0 0) = (rOf rs p).v
  | [], p => rfl
  | r :: t, p => by
    have ih := kvR_get t p
    rw [kvR, List.map_cons, kvGet_cons, rOf]
    by_cases h : p = r.p
    · simp [h]
    · simp only [h, if_false]; exact ih
theorem rOf_set : ∀ (rs : List Rc) (x : Rc) (q : Pl), rOf (rSet rs x) q = if q = x.p then x else rOf rs q
  | [], x, q => rfl
  | r :: t, x, q => by
    have ih := rOf_set t x q
    by_cases h : x.p = r.p
    · simp only [rSet, h, if_true, rOf]
      by_cases h2 : q = r.p <;> simp [h2]
    · simp only [rSet, h, if_false, rOf, ih]
      by_cases h2 : q = x.p
      · subst h2; simp [h]
      · simp [h2]
theorem rOf_split : ∀ (rs : List Rc) (x : Rc), (∃ a b, rs = a ++ rOf rs x.p :: b ∧ rSet rs x = a ++ x :: b) ∨ (rOf rs x.p = rNil x.p ∧ rSet rs x = rs ++ [x])
  | [], x => .inr ⟨rfl, rfl⟩
  | r :: t, x => by
    by_cases h : x.p = r.p
    · exact .inl ⟨[], t, by simp [rOf, h], by simp [rSet, h]⟩
    · simp only [rOf, rSet, h, if_false]
      rcases rOf_split t x with ⟨a, b, h1, h2⟩ | ⟨h1, h2⟩
      · exact .inl ⟨r :: a, b, by rw [List.cons_append, ← h1], by rw [List.cons_append, ← h2]⟩
      · exact .inr ⟨h1, by rw [List.cons_append, ← h2]⟩
/-- All the records. -/
def recs (rs : List Rc) : Ent := .star (rs.map rE)
theorem rNil_ok (p : Pl) (w : World) : (rE (rNil p)).ok w := Ent.sl_ok.2 (World.ownsRow_nil w 0 98 64)
theorem rOf_ok {rs : List Rc} {w : World} (h : (recs rs).ok w) (p : Pl) : (rE (rOf rs p)).ok w := by
  rcases rOf_split rs (rNil p) with ⟨a, b, h1, _⟩ | ⟨h1, _⟩
  · refine (Ent.star_ok.1 h).1 _ (List.mem_map_of_mem ?_)
    have : rOf rs p ∈ a ++ rOf rs p :: b := by simp
    rw [show (rNil p).p = p from rfl] at h1
    rwa [← h1] at this
  · rw [show (rNil p).p = p from rfl] at h1
    rw [h1]; exact rNil_ok p w
theorem recs_nil (w : World) : (recs []).ok w := Ent.star_ok.2 ⟨fun e he => by simp at he, List.Pairwise.nil⟩
theorem Hp.recsNil {B w : World} {M : Nat → Prop} {hs : HS} (h : Hp B M hs w) : Hp B M (recs [] :: hs) w :=
  h.fresh (Below.refl _ _) (recs_nil w) (fun g hg => by obtain ⟨e, he, _⟩ := Ent.star_fp.1 hg; simp at he)
section
variable {F : Fence} {P : Program} {n : Nat} {B D : World} {M : Nat → Prop} {Q : Exit → Act → World → Prop} {fs : SFs} {hs : HS}
theorem T.recsNil {c : Code} (h : T F P n B D M c Q fs (recs [] :: hs)) : T F P n B D M c Q fs hs := ⟨fun a w ha hw hm => h.out a w ha hw.recsNil hm⟩
end
/-- One record changes: so do all. -/
theorem recs_set {rs : List Rc} {x : Rc} {w w' : World} (h : (recs rs).ok w) (k : Hp w (rE (rOf rs x.p)).fp [rE x] w') : Hp w (recs rs).fp [recs (rSet rs x)] w' := by
  have h0 : Hp w (recs rs).fp (rs.map rE) w := (Hp.start h).unstar
  refine Hp.star ?_
  rcases rOf_split rs x with ⟨a, b, h1, h2⟩ | ⟨h1, h2⟩
  · rw [h2]
    have p1 : (rs.map rE).Perm (rE (rOf rs x.p) :: (a ++ b).map rE) := by
      have : (rs.map rE) = (a ++ rOf rs x.p :: b).map rE := by rw [← h1]
      rw [this]
      rw [List.map_append, List.map_append, List.map_cons]
      exact List.perm_middle
    have p2 : (rE x :: (a ++ b).map rE).Perm ((a ++ x :: b).map rE) := by
      rw [List.map_append, List.map_append, List.map_cons]
      exact List.perm_middle.symm
    exact ((h0.perm p1).upd k.only (fun g _ hg => hg) (k.own _ (by simp)) (fun g hg => k.new _ (by simp) g hg)).perm p2
  · rw [h2]
    have hno : ∀ g, ¬ (rE (rOf rs x.p)).fp g := fun g hg => by
      rw [h1] at hg
      have := Ent.sl_fp.1 hg
      simp [rNil, Value.ownBlock] at this
    have h3 : Hp w (recs rs).fp (rE x :: rs.map rE) w' := Hp.go (es := []) (es' := [rE x]) (S := (rE (rOf rs x.p)).fp) h0 k.only (fun g _ hg => absurd hg (hno g)) (fun y hy => by rw [List.mem_singleton.1 hy]; exact k.own _ (by simp)) (fun y hy g hg => by
      rw [List.mem_singleton.1 hy] at hg
      exact (k.new _ (by simp) g hg).elim (fun e => absurd e (hno g)) .inr) (List.pairwise_singleton _ _)
    exact h3.perm (by rw [List.map_append]; exact (List.perm_append_singleton (rE x) (rs.map rE)).symm)
/-- The counts of all the records. -/
def Cnt (rs : List Rc) (f : Pl → Nat → Nat) : Prop := ∀ q j, (rOf rs q).c.getD j 0 = f q j
theorem Cnt.nil : Cnt [] (fun _ _ => 0) := fun q j => by simp [rOf, rNil]
theorem Cnt.set {rs : List Rc} {f : Pl → Nat → Nat} (h : Cnt rs f) {x : Rc} {k : Nat} (hx : ∀ j, x.c.getD j 0 = (rOf rs x.p).c.getD j 0 + if j = k then 1 else 0) : Cnt (rSet rs x) (fun q j => f q j + if q = x.p ∧ j = k then 1 else 0) := fun q j => by
  rw [rOf_set]
  by_cases e : q = x.p
  · subst e
    rw [if_pos rfl, hx j, h]
    simp
  · simp only [e, if_false, false_and, Nat.add_zero]; exact h q j
theorem Cnt.congr {rs : List Rc} {f g : Pl → Nat → Nat} (h : Cnt rs f) (e : ∀ q j, f q j = g q j) : Cnt rs g := fun q j => by rw [h q j, e q j]
/-- add, on all the records. -/
theorem add_all (rs : List Rc) (p : Pl) (k : Nat) (w : World) (h : (recs rs).ok w) (hk : k ≤ 1000000) (hc : (rOf rs p).c.getD k 0 ≤ 200) :
    Calls Try.prog 40 #[(rOf rs p).v, .int .i64 (k : Int)] w fun e w' => ∃ y : Value × Nat × List Nat, (∀ j, y.2.2.getD j 0 = (rOf rs p).c.getD j 0 + if j = k then 1 else 0) ∧ e = .returned y.1 ∧ Hp w (recs rs).fp [recs (rSet rs ⟨p, y.1, y.2.1, y.2.2⟩)] w' :=
  (add_ret _ _ _ k w (rOf_ok h p) hk hc).mono fun e w' ⟨y, h1, h2, h3⟩ => ⟨y, h1, h2, recs_set (x := ⟨p, y.1, y.2.1, y.2.2⟩) h h3⟩

/-! ### What is counted -/
/-- After j0 weeks at the first place and j1 at the second. -/
def cAdd (base : Pl → Nat → Nat) (m : Mv) (s : Nat) (j0 j1 : Nat) (q : Pl) (t : Nat) : Nat := base q t + (if q = plOf m 0 ∧ s ≤ t ∧ t < s + j0 then 1 else 0) + (if q = plOf m 1 ∧ s ≤ t ∧ t < s + j1 then 1 else 0)
def cAt (base : Pl → Nat → Nat) (m : Mv) (s wk b j : Nat) : Pl → Nat → Nat := cAdd base m s (if b = 0 then j else wk) (if b = 0 then 0 else j)
theorem cAt_le {base : Pl → Nat → Nat} (hb : ∀ q t, base q t ≤ 64) (m : Mv) (s wk b j : Nat) (q : Pl) (t : Nat) : cAt base m s wk b j q t ≤ 200 := by
  have := hb q t
  have h1 : ∀ (c : Prop) [Decidable c], (if c then 1 else 0 : Nat) ≤ 1 := fun c _ => by split <;> omega
  have a := h1 (q = plOf m 0 ∧ s ≤ t ∧ t < s + if b = 0 then j else wk)
  have b' := h1 (q = plOf m 1 ∧ s ≤ t ∧ t < s + if b = 0 then 0 else j)
  unfold cAt cAdd
  omega
theorem cAt_zero (base : Pl → Nat → Nat) (m : Mv) (s wk : Nat) (q : Pl) (t : Nat) : cAt base m s wk 0 0 q t = base q t := by
  unfold cAt cAdd
  rw [if_neg (by rintro ⟨_, h1, h2⟩; simp at h2; omega), if_neg (by rintro ⟨_, h1, h2⟩; simp at h2; omega)]; rfl
theorem cAt_next (base : Pl → Nat → Nat) (m : Mv) (s wk b : Nat) (hb : b < 2) (q : Pl) (t : Nat) : cAt base m s wk b wk q t = cAt base m s wk (b + 1) 0 q t ∨ b = 1 := by
  rcases (by omega : b = 0 ∨ b = 1) with rfl | rfl
  · left; simp [cAt]
  · right; rfl
theorem plOf_ne (m : Mv) : plOf m 0 ≠ plOf m 1 := by simp [plOf]
theorem cAt_step (base : Pl → Nat → Nat) (m : Mv) (s wk b j : Nat) (hb : b < 2) (q : Pl) (t : Nat) : cAt base m s wk b j q t + (if q = plOf m b ∧ t = s + j then 1 else 0) = cAt base m s wk b (j + 1) q t := by
  have hne := plOf_ne m
  rcases (by omega : b = 0 ∨ b = 1) with rfl | rfl
  · simp only [cAt, cAdd, if_true, Nat.add_zero]
    by_cases h0 : q = plOf m 0
    · have h1 : ¬ q = plOf m 1 := fun e => hne (h0 ▸ e)
      simp only [h0, h1, hne, true_and, false_and, if_false, Nat.add_zero]
      split <;> split <;> split <;> omega
    · simp [h0]
  · simp only [cAt, cAdd, show ¬ (1 = 0) from by omega, if_false]
    by_cases h1 : q = plOf m 1
    · simp only [h1, true_and]
      split <;> split <;> split <;> split <;> omega
    · simp [h1]
def useN (xs : List Mv) (ws : List Wk) (q : Pl) (t : Nat) : Nat := (usedN xs ws (t : Int) q ws.length).toNat
theorem useN_nil (xs : List Mv) : useN xs [] = fun _ _ => 0 := by funext q t; simp [useN, usedN]
theorem useN_add (xs : List Mv) (ws : List Wk) (s : Nat) (hwk : 0 ≤ (nth xs ws.length).wk) (q : Pl) (t : Nat) :
    cAdd (useN xs ws) (nth xs ws.length) s (nth xs ws.length).wk.toNat (nth xs ws.length).wk.toNat q t = useN xs (ws ++ [⟨(nth xs ws.length).st, (s : Int), (s : Int) + (nth xs ws.length).wk⟩]) q t := by
  have h1 := usedN_le xs ws (t : Int) q ws.length
  have h2 : usedN xs (ws ++ [⟨(nth xs ws.length).st, (s : Int), (s : Int) + (nth xs ws.length).wk⟩]) (t : Int) q ws.length = usedN xs ws (t : Int) q ws.length := usedN_congr (t : Int) q ws.length fun j hj => nth_append_left hj
  unfold useN cAdd
  rw [show (ws ++ [(⟨(nth xs ws.length).st, (s : Int), (s : Int) + (nth xs ws.length).wk⟩ : Wk)]).length = ws.length + 1 from by simp, usedN, h2, nth_append_end]
  obtain ⟨b, i⟩ := q
  cases b
  · simp [plOf]
    split <;> split <;> omega
  · simp [plOf]
    split <;> split <;> omega
def cB (base : Pl → Nat → Nat) (m : Mv) (s wk b : Nat) : Pl → Nat → Nat := cAdd base m s (if b = 0 then 0 else wk) (if b ≤ 1 then 0 else wk)
theorem cB_start (base : Pl → Nat → Nat) (m : Mv) (s wk b : Nat) (hb : b < 2) : cB base m s wk b = cAt base m s wk b 0 := by
  rcases (by omega : b = 0 ∨ b = 1) with rfl | rfl <;> rfl
theorem cB_next (base : Pl → Nat → Nat) (m : Mv) (s wk b : Nat) (hb : b < 2) : cAt base m s wk b wk = cB base m s wk (b + 1) := by
  rcases (by omega : b = 0 ∨ b = 1) with rfl | rfl <;> rfl
theorem cB_zero (base : Pl → Nat → Nat) (m : Mv) (s wk : Nat) (q : Pl) (t : Nat) : cB base m s wk 0 q t = base q t := by
  rw [cB_start _ _ _ _ _ (by omega), cAt_zero]
theorem useN_int (xs : List Mv) (ws : List Wk) (q : Pl) (t : Nat) : ((useN xs ws q t : Nat) : Int) = usedN xs ws (t : Int) q ws.length := by
  have := usedN_le xs ws (t : Int) q ws.length
  unfold useN
  omega
theorem useN_le64 {xs : List Mv} {ts cs : List Si} {ws : List Wk} {s : Nat} (hb : ∀ q t, useN xs ws q t ≤ 64) (hf : freeR (freeW xs ws ts cs ws.length) (s : Int) (nth xs ws.length).wk.toNat = true) (hc1 : capOf ts (nth xs ws.length).tw ≤ 64) (hc2 : capOf cs (nth xs ws.length).cr ≤ 64) (hwk : 0 ≤ (nth xs ws.length).wk) :
    ∀ q t, useN xs (ws ++ [⟨(nth xs ws.length).st, (s : Int), (s : Int) + (nth xs ws.length).wk⟩]) q t ≤ 64 := fun q t => by
  rw [← useN_add xs ws s hwk]
  have h0 := hb q t
  have hfree : s ≤ t → t < s + (nth xs ws.length).wk.toNat → usedN xs ws (t : Int) (false, (nth xs ws.length).tw) ws.length < 64 ∧ usedN xs ws (t : Int) (true, (nth xs ws.length).cr) ws.length < 64 := fun h1 h2 => by
    have h3 := (List.all_eq_true.1 hf) (t - s) (by simp; omega)
    rw [show (s : Int) + ((t - s : Nat) : Int) = (t : Int) from by omega] at h3
    simp [freeW] at h3
    omega
  have hn := plOf_ne (nth xs ws.length)
  have e := useN_int xs ws q t
  unfold cAdd
  by_cases a : q = plOf (nth xs ws.length) 0 ∧ s ≤ t ∧ t < s + (nth xs ws.length).wk.toNat
  · have b : ¬ (q = plOf (nth xs ws.length) 1 ∧ s ≤ t ∧ t < s + (nth xs ws.length).wk.toNat) := fun h => hn (a.1 ▸ h.1)
    rw [if_pos a, if_neg b]
    have := (hfree a.2.1 a.2.2).1
    rw [a.1] at e ⊢
    rw [show plOf (nth xs ws.length) 0 = (false, (nth xs ws.length).tw) from rfl] at e ⊢
    omega
  · rw [if_neg a]
    by_cases b : q = plOf (nth xs ws.length) 1 ∧ s ≤ t ∧ t < s + (nth xs ws.length).wk.toNat
    · rw [if_pos b]
      have := (hfree b.2.1 b.2.2).2
      rw [b.1] at e ⊢
      rw [show plOf (nth xs ws.length) 1 = (true, (nth xs ws.length).cr) from rfl] at e ⊢
      omega
    · rw [if_neg b]; omega
theorem free_is {xs : List Mv} {ts cs : List Si} {ws : List Wk} {rs : List Rc} (h : Cnt rs (useN xs ws)) (k : Nat) : freeW xs ws ts cs ws.length (k : Int) = !(decide (capOf ts (nth xs ws.length).tw ≤ (((rOf rs (false, (nth xs ws.length).tw)).c.getD k 0 : Nat) : Int)) || decide (capOf cs (nth xs ws.length).cr ≤ (((rOf rs (true, (nth xs ws.length).cr)).c.getD k 0 : Nat) : Int))) := by
  rw [h, h, useN_int, useN_int]; rfl
section
variable {F : Fence} {P : Program} {n : Nat} {B D : World} {M : Nat → Prop} {Q : Exit → Act → World → Prop} {fs : SFs} {hs : HS}
/-- What the heap tells. -/
theorem T.know {c : Code} {φ : Prop} (k : ∀ w, Hp B M hs w → φ) (h : φ → T F P n B D M c Q fs hs) : T F P n B D M c Q fs hs := ⟨fun a w ha hw hm => (h (k w hw)).out a w ha hw hm⟩
end
theorem rOf_one {rs : List Rc} {w : World} (h : (recs rs).ok w) (p : Pl) : OneC (rOf rs p).v := by
  obtain ⟨_, A, cap, e, _⟩ := rec_form (rOf_ok h p)
  rw [e]; exact inferInstance
theorem range_get {n i x : Nat} (h : (List.range n)[i]? = some x) : x = i ∧ i < n := by
  obtain ⟨h1, h2⟩ := List.getElem?_eq_some_iff.1 h
  simp at h1 h2
  exact ⟨h2.symm, h1⟩
end Go.Proofs.Ytphpmjnpjnmdmaa
