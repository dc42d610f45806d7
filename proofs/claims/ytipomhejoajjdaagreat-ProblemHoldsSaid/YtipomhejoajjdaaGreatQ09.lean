/- Pm Pn Pt Of: shortened and put together by squeeze.py. -/
import Derived.Test.YtipomhejoajjdaaGreatQ08
import Derived.Deep.Slices
import Derived.ChangeArms
set_option maxRecDepth 100000
set_option maxHeartbeats 4000000
set_option linter.unusedVariables false
set_option linter.unusedSectionVars false
set_option linter.unusedSimpArgs false
namespace Go.Proofs.YtipomhejoajjdaaGreat
open Go.RowKit
theorem zgB {α β : Type} (q : α → Bool) (e : α → β) : ∀ (l : List α) (s : List β), l.foldl (fun s x => bif q x then s ++ [e x] else s) s = s ++ (l.filter q).map e
  | [], s => by simp
  | x :: l, s => by
    rw [List.foldl_cons, zgB q e l]
    cases h : q x
    · rw [List.filter_cons_of_neg (by rw [h]; simp)]; rfl
    · rw [List.filter_cons_of_pos h, cond_true, List.map_cons, List.append_assoc]; rfl
abbrev hasS (st : List Int) (n : Int) : Bool := zak st n
theorem zdZ (l : List GChoice) (st : List Int) : zfd l st = l.filter fun x => hasS st x.Station := by
  unfold zfd; rw [Nat.sub_zero]; have := zgB (fun x : GChoice => hasS st x.Station) id l []; rw [List.map_id, List.nil_append] at this; exact (zc6 (l := l) (g := fun (s : List GChoice) x => bif zak st x.Station then s ++ [x] else s) (s := [])).trans this
theorem zgO (st : List Int) : ∀ (l : List GDomain) (s : RS), l.foldl (fun s x => bif zak st x.Station then (s.1 ++ [x], s.2.1, s.2.2.1, s.2.2.2) else (s.1, s.2.1, s.2.2.1, s.2.2.2)) s = (s.1 ++ l.filter (fun x => hasS st x.Station), s.2.1, s.2.2.1, s.2.2.2)
  | [], s => by simp
  | x :: l, s => by
    rw [List.foldl_cons, zgO st l]
    cases h : zak st x.Station
    · rw [List.filter_cons_of_neg (p := fun x : GDomain => hasS st x.Station) (by show ¬ (zak st x.Station) = true; rw [h]; simp)]; rfl
    · rw [List.filter_cons_of_pos (p := fun x : GDomain => hasS st x.Station) h, cond_true, List.append_assoc]; rfl
theorem zgH (st : List Int) : ∀ (l : List GPair) (s : RS), l.foldl (fun s x => bif zak st x.A && zak st x.B then (s.1, s.2.1 ++ [x], s.2.2.1, s.2.2.2) else (s.1, s.2.1, s.2.2.1, s.2.2.2)) s = (s.1, s.2.1 ++ l.filter (fun x => hasS st x.A && hasS st x.B), s.2.2.1, s.2.2.2)
  | [], s => by simp
  | x :: l, s => by
    rw [List.foldl_cons, zgH st l]
    cases h : zak st x.A && zak st x.B
    · rw [List.filter_cons_of_neg (p := fun x : GPair => hasS st x.A && hasS st x.B) (by show ¬ (zak st x.A && zak st x.B) = true; rw [h]; simp)]; rfl
    · rw [List.filter_cons_of_pos (p := fun x : GPair => hasS st x.A && hasS st x.B) h, cond_true, List.append_assoc]; rfl
theorem zgW (st : List Int) : ∀ (l : List GLoad) (s : RS), l.foldl (fun s x => bif zak st x.To && zak st x.From then (s.1, s.2.1, s.2.2.1 ++ [x], s.2.2.2) else (s.1, s.2.1, s.2.2.1, s.2.2.2)) s = (s.1, s.2.1, s.2.2.1 ++ l.filter (fun x => hasS st x.To && hasS st x.From), s.2.2.2)
  | [], s => by simp
  | x :: l, s => by
    rw [List.foldl_cons, zgW st l]
    cases h : zak st x.To && zak st x.From
    · rw [List.filter_cons_of_neg (p := fun x : GLoad => hasS st x.To && hasS st x.From) (by show ¬ (zak st x.To && zak st x.From) = true; rw [h]; simp)]; rfl
    · rw [List.filter_cons_of_pos (p := fun x : GLoad => hasS st x.To && hasS st x.From) h, cond_true, List.append_assoc]; rfl
theorem zgN (st : List Int) : ∀ (l : List GCap) (s : RS), l.foldl (fun s x => bif zak st x.Station then (s.1, s.2.1, s.2.2.1, s.2.2.2 ++ [x]) else (s.1, s.2.1, s.2.2.1, s.2.2.2)) s = (s.1, s.2.1, s.2.2.1, s.2.2.2 ++ l.filter (fun x => hasS st x.Station))
  | [], s => by simp
  | x :: l, s => by
    rw [List.foldl_cons, zgN st l]
    cases h : zak st x.Station
    · rw [List.filter_cons_of_neg (p := fun x : GCap => hasS st x.Station) (by show ¬ (zak st x.Station) = true; rw [h]; simp)]; rfl
    · rw [List.filter_cons_of_pos (p := fun x : GCap => hasS st x.Station) h, cond_true, List.append_assoc]; rfl
theorem zgR (p : GProblem) (st : List Int) : zhQ p st = ⟨p.Domains.filter (fun x => hasS st x.Station), ⟨p.Rules.Pairs.filter (fun x => hasS st x.A && hasS st x.B), p.Rules.Loads.filter (fun x => hasS st x.To && hasS st x.From), p.Rules.Caps.filter (fun x => hasS st x.Station)⟩⟩ := by
  have e : zg7 p st = (p.Domains.filter (fun x => hasS st x.Station), p.Rules.Pairs.filter (fun x => hasS st x.A && hasS st x.B), p.Rules.Loads.filter (fun x => hasS st x.To && hasS st x.From), p.Rules.Caps.filter (fun x => hasS st x.Station)) := by
    unfold zg7 zdr; simp only [Nat.sub_zero]; have h1 : ∀ s : RS, (List.range p.Domains.length).foldl (fun s i => gD p st i s) s = _ := fun s => (zc6 (l := p.Domains) (g := fun (s : RS) x => bif zak st x.Station then (s.1 ++ [x], s.2.1, s.2.2.1, s.2.2.2) else (s.1, s.2.1, s.2.2.1, s.2.2.2)) (s := s)).trans (zgO st _ s); have h2 : ∀ s : RS, (List.range p.Rules.Pairs.length).foldl (fun s i => gP p st i s) s = _ := fun s => (zc6 (l := p.Rules.Pairs) (g := fun (s : RS) x => bif zak st x.A && zak st x.B then (s.1, s.2.1 ++ [x], s.2.2.1, s.2.2.2) else (s.1, s.2.1, s.2.2.1, s.2.2.2)) (s := s)).trans (zgH st _ s); have h3 : ∀ s : RS, (List.range p.Rules.Loads.length).foldl (fun s i => gL p st i s) s = _ := fun s => (zc6 (l := p.Rules.Loads) (g := fun (s : RS) x => bif zak st x.To && zak st x.From then (s.1, s.2.1, s.2.2.1 ++ [x], s.2.2.2) else (s.1, s.2.1, s.2.2.1, s.2.2.2)) (s := s)).trans (zgW st _ s); have h4 : ∀ s : RS, (List.range p.Rules.Caps.length).foldl (fun s i => gC p st i s) s = _ := fun s => (zc6 (l := p.Rules.Caps) (g := fun (s : RS) x => bif zak st x.Station then (s.1, s.2.1, s.2.2.1, s.2.2.2 ++ [x]) else (s.1, s.2.1, s.2.2.1, s.2.2.2)) (s := s)).trans (zgN st _ s); rw [h1, h2, h3, h4]; simp
  unfold zhQ; rw [e]
theorem zgv {α : Type} [Inhabited α] {lt : α → α → Bool} (ht : ∀ a b c, lt a b = true → lt b c = true → lt a c = true) {l : List α} : adjB lt l = true ↔ l.Pairwise (fun a b => lt a b = true) := by
  constructor
  · intro h; have h1 : ∀ i, i + 1 < l.length → lt (nth l i) (nth l (i + 1)) = true := fun i hi => List.all_eq_true.1 h (i + 1) (List.mem_range'_1.2 ⟨by omega, by omega⟩)
    have h2 : ∀ d i, i + d + 1 < l.length → lt (nth l i) (nth l (i + d + 1)) = true := by
      intro d
      induction d with
      | zero => intro i hi; exact h1 i hi
      | succ d ih => intro i hi; exact ht _ _ _ (ih i (by omega)) (h1 (i + d + 1) (by omega))
    refine List.pairwise_iff_getElem.2 fun i j hi hj hij => ?_; rw [← zbe hi, ← zbe hj]; have := h2 (j - i - 1) i (by omega)
    rwa [show i + (j - i - 1) + 1 = j by omega] at this
  · intro h; refine List.all_eq_true.2 fun i hi => ?_; have hi := List.mem_range'_1.1 hi; rw [zbe (show i - 1 < l.length by omega), zbe (show i < l.length by omega)]; exact List.pairwise_iff_getElem.1 h (i - 1) i _ _ (by omega)
theorem zfi {a b : Int} {x y : List Int} : lexL (a :: x) (b :: y) = true ↔ a < b ∨ (a = b ∧ lexL x y = true) := by
  show (bif decide (a = b) then lexL x y else decide (a < b)) = true ↔ _
  by_cases h : a = b
  · rw [decide_eq_true h, cond_true]; exact ⟨fun h1 => .inr ⟨h, h1⟩, fun h1 => h1.elim (fun h2 => absurd h2 (by omega)) (·.2)⟩
  · rw [decide_eq_false h, cond_false, decide_eq_true_eq]; exact ⟨.inl, fun h1 => h1.elim id (fun h2 => absurd h2.1 h)⟩
theorem zfS : ∀ a b c : List Int, lexL a b = true → lexL b c = true → lexL a c = true
  | [], _, _, h, _ => by cases h
  | _ :: _, [], _, h, _ => by cases h
  | _ :: _, _ :: _, [], _, h => by cases h
  | a :: x, b :: y, c :: z, h1, h2 => by
    rw [zfi] at h1 h2 ⊢; rcases h1 with h1 | ⟨h1, h3⟩ <;> rcases h2 with h2 | ⟨h2, h4⟩
    · left; omega
    · left; omega
    · left; omega
    · exact .inr ⟨by omega, zfS x y z h3 h4⟩
theorem zdW {α : Type} [Inhabited α] {lt : α → α → Bool} (ht : ∀ a b c, lt a b = true → lt b c = true → lt a c = true) {l l' : List α} (hs : l'.Sublist l) (h : adjB lt l = true) : adjB lt l' = true := (zgv ht).2 (((zgv ht).1 h).sublist hs)
theorem zi6 {α : Type} {l l' : List α} {q : α → Bool} (hs : l'.Sublist l) (h : l.all q = true) : l'.all q = true := List.all_eq_true.2 fun x hx => List.all_eq_true.1 h x (hs.subset hx)
theorem zda {a b : Bool} (ha : a = true) (hb : b = true) : (a && b) = true := by rw [ha, hb]; rfl
structure RulesP (r : GRules) : Prop where
  g : RulesGood r
  ip : adjB (fun a b => lexL (zdL a) (zdL b)) r.Pairs = true
  il : adjB (fun a b => lexL (zdM a) (zdM b)) r.Loads = true
  ic : adjB (fun a b => lexL (capL a) (capL b)) r.Caps = true
theorem zhl {r : GRules} (h : zes r = true) : RulesP r := by
  have hg := zef h; unfold zes at h; have h1 := zbE h; have h2 := zbE h1; have h3 := zbE h2; have h4 := zbE h3; have h5 := zbE h4; have h6 := zbE h5; have h7 := zbE h6; exact ⟨hg, zbA h2, zbA h5, zbE h7⟩
theorem RulesP.b {r : GRules} (h : RulesP r) : zes r = true := by
  have a := h.g.np; have b := h.g.nl; have c := h.g.nc; exact zda (decide_eq_true (by omega)) (zda (List.all_eq_true.2 h.g.p) (zda h.ip (zda (decide_eq_true (by omega)) (zda (List.all_eq_true.2 h.g.l) (zda h.il (zda (decide_eq_true (by omega)) (zda (List.all_eq_true.2 h.g.c) h.ic)))))))
theorem zhj (a b c : GPair) : lexL (zdL a) (zdL b) = true → lexL (zdL b) (zdL c) = true → lexL (zdL a) (zdL c) = true := zfS _ _ _
theorem zhb (a b c : GLoad) : lexL (zdM a) (zdM b) = true → lexL (zdM b) (zdM c) = true → lexL (zdM a) (zdM c) = true := zfS _ _ _
theorem zja (a b c : GCap) : lexL (capL a) (capL b) = true → lexL (capL b) (capL c) = true → lexL (capL a) (capL c) = true := zfS _ _ _
theorem RulesP.sub {r r' : GRules} (h : RulesP r) (hp : r'.Pairs.Sublist r.Pairs) (hl : r'.Loads.Sublist r.Loads) (hc : r'.Caps.Sublist r.Caps) : RulesP r' := by
  refine ⟨⟨?_, ?_, ?_, fun x hx => h.g.p x (hp.subset hx), fun x hx => h.g.l x (hl.subset hx), fun x hx => h.g.c x (hc.subset hx)⟩, zdW zhj hp h.ip, zdW zhb hl h.il, zdW zja hc h.ic⟩
  · have := hp.length_le; have := h.g.np; omega
  · have := hl.length_le; have := h.g.nl; omega
  · have := hc.length_le; have := h.g.nc; omega
theorem zcZ {p : GProblem} (h : okP p = true) : p.Domains.all okD = true ∧ RulesP p.Rules ∧ incD p = true ∧ zgJ p = true := ⟨zbA h, zhl (zbA (zbE h)), zbA (zbE (zbE h)), zbE (zbE (zbE h))⟩
theorem zgD {p : GProblem} (h1 : p.Domains.all okD = true) (h2 : RulesP p.Rules) (h3 : incD p = true) (h4 : zgJ p = true) : okP p = true := zda h1 (zda h2.b (zda h3 h4))
theorem zdh {p q : GProblem} {st : List Int} {n : Int} (e : q.Domains = p.Domains.filter fun x => hasS st x.Station) (h : hasD p n = true) (hs : hasS st n = true) : hasD q n = true := by
  refine zda (zbA h) ?_; obtain ⟨d, hd, hn⟩ := List.any_eq_true.1 (zbE h); have e2 := of_decide_eq_true hn; rw [e]; exact List.any_eq_true.2 ⟨d, List.mem_filter.2 ⟨hd, by rw [e2]; exact hs⟩, hn⟩
theorem zia {p : GProblem} {st : List Int} (h : okP p = true) : okP (zhQ p st) = true := by
  obtain ⟨h1, h2, h3, h4⟩ := zcZ h; rw [zgR]; refine zgD (zi6 List.filter_sublist h1) (h2.sub List.filter_sublist List.filter_sublist List.filter_sublist) (zdW (fun a b c x y => by rw [decide_eq_true_eq] at *; omega) List.filter_sublist h3) ?_; have a1 := List.all_eq_true.1 (zbA h4); have a2 := List.all_eq_true.1 (zbA (zbE h4)); have a3 := List.all_eq_true.1 (zbE (zbE h4)); refine zda (List.all_eq_true.2 fun c hc => ?_) (zda (List.all_eq_true.2 fun c hc => ?_) (List.all_eq_true.2 fun c hc => ?_))
  · obtain ⟨b1, b2⟩ := List.mem_filter.1 hc; exact zda (zdh rfl (zbA (a1 c b1)) (zbA b2)) (zdh rfl (zbE (a1 c b1)) (zbE b2))
  · obtain ⟨b1, b2⟩ := List.mem_filter.1 hc; exact zda (zdh rfl (zbA (a2 c b1)) (zbA b2)) (zdh rfl (zbE (a2 c b1)) (zbE b2))
  · obtain ⟨b1, b2⟩ := List.mem_filter.1 hc; exact zdh rfl (a3 c b1) b2
theorem ziL {l : List GChoice} (h : VL l) : zax l = true := by
  rw [zgb]; refine List.all_eq_true.2 fun i hi => ?_; have hi := List.mem_range'_1.1 hi; have a := h.st i (by omega); have b := h.ch i (by omega); refine zda (zda (zda (decide_eq_true a.1) (decide_eq_true a.2)) (zda (decide_eq_true b.1) (decide_eq_true b.2))) ?_; rw [Bool.not_eq_true', Bool.and_eq_false_iff, decide_eq_false_iff_not, decide_eq_false_iff_not]; rcases Nat.eq_zero_or_pos i with h0 | h0
  · left; omega
  · right; have := h.lt (i - 1) i (by omega) (by omega); rw [show ((i : Int) - 1).toNat = i - 1 by omega]; omega
theorem zjt {l l' : List GChoice} (h : VL l) (hs : l'.Sublist l) : VL l' := by
  have hm : ∀ x ∈ l, ∃ i, i < l.length ∧ nth l i = x := fun x hx => by
    obtain ⟨i, hi, e⟩ := List.mem_iff_getElem.1 hx; exact ⟨i, hi, by rw [zbe hi, e]⟩
  have hp : l.Pairwise fun a b => a.Station < b.Station := List.pairwise_iff_getElem.2 fun i j hi hj hij => by
    have := h.lt i j hij hj
    rwa [zbe hi, zbe hj] at this
  have hp' := hp.sublist hs; refine ⟨fun i hi => ?_, fun i hi => ?_, fun i j hij hj => ?_⟩
  · obtain ⟨k, hk, e⟩ := hm _ (hs.subset (zby hi)); rw [← e]; exact h.st k hk
  · obtain ⟨k, hk, e⟩ := hm _ (hs.subset (zby hi)); rw [← e]; exact h.ch k hk
  · rw [zbe (show i < l'.length by omega), zbe hj]; exact List.pairwise_iff_getElem.1 hp' i j _ _ hij
theorem zdg (q : Int → Bool) (n : Int) : ∀ l : List GChoice, onL (l.filter fun x => q x.Station) n = bif q n then onL l n else 0
  | [] => by cases q n <;> rfl
  | x :: l => by
    by_cases e : x.Station = n
    · cases h : q n
      · rw [List.filter_cons_of_neg (p := fun x : GChoice => q x.Station) (by show ¬ q x.Station = true; rw [e, h]; simp), zdg q n l, h]; rfl
      · rw [List.filter_cons_of_pos (p := fun x : GChoice => q x.Station) (show q x.Station = true by rw [e]; exact h)]
        show (bif decide (x.Station = n) then x.Channel else _) = (bif decide (x.Station = n) then x.Channel else _)
        rw [decide_eq_true e]; rfl
    · have e2 : onL (x :: l) n = onL l n := by
        show (bif decide (x.Station = n) then x.Channel else onL l n) = _
        rw [decide_eq_false e]; rfl
      rw [e2]
      cases h : q x.Station
      · rw [List.filter_cons_of_neg (p := fun x : GChoice => q x.Station) (by show ¬ q x.Station = true; rw [h]; simp)]; exact zdg q n l
      · rw [List.filter_cons_of_pos (p := fun x : GChoice => q x.Station) h]
        show (bif decide (x.Station = n) then x.Channel else onL _ n) = _
        rw [decide_eq_false e]; exact zdg q n l
theorem zhs {l l' : List GChoice} {n : Int} (e : onL l' n = onL l n) : ∀ {A B : List GLoad}, A.Sublist B → (∀ x ∈ B, 1 ≤ x.Weight ∧ x.Weight ≤ 1073741824) → (∀ x ∈ B, onL l' x.From = onL l n → 2 ≤ onL l n → onL l x.From = onL l n) → 2 ≤ onL l n → ∀ s t : Int, 0 ≤ s → s ≤ t → t + B.length * 1073741824 ≤ 4611686018427387904 → 0 ≤ A.foldl (zdP l' n) s ∧ A.foldl (zdP l' n) s ≤ B.foldl (zdP l n) t := by
  intro A B hs
  induction hs with
  | slnil => intro _ _ _ s t h0 h1 h2; exact ⟨h0, h1⟩
  | @cons A B x hs ih =>
    intro hw hf hn s t h0 h1 h2; have hx := hw x (List.mem_cons_self ..); rw [List.length_cons] at h2; rw [List.foldl_cons]; refine ih (fun y hy => hw y (List.mem_cons_of_mem _ hy)) (fun y hy => hf y (List.mem_cons_of_mem _ hy)) hn s _ h0 ?_ ?_
    · unfold zdP; rw [zer (by omega)]; cases ((decide (x.To = n) && decide (onL l x.From = onL l n)) && decide (x.Low ≤ onL l n)) && decide (onL l n ≤ x.High)
      · exact h1
      · rw [cond_true]; omega
    · unfold zdP; rw [zer (by omega)]; cases ((decide (x.To = n) && decide (onL l x.From = onL l n)) && decide (x.Low ≤ onL l n)) && decide (onL l n ≤ x.High)
      · rw [cond_false]; omega
      · rw [cond_true]; omega
  | @cons_cons A B x hs ih =>
    intro hw hf hn s t h0 h1 h2; have hx := hw x (List.mem_cons_self ..); have hfx := hf x (List.mem_cons_self ..); rw [List.length_cons] at h2; rw [List.foldl_cons, List.foldl_cons]
    have key : ∃ a b : Int, zdP l' n s x = a ∧ zdP l n t x = b ∧ 0 ≤ a ∧ a ≤ b ∧ b ≤ t + 1073741824 := by
      unfold zdP; rw [zer (by omega), zer (by omega), e]
      cases h3 : (((decide (x.To = n)) && (decide (onL l' x.From = onL l n))) && (decide (x.Low ≤ onL l n))) && (decide (onL l n ≤ x.High))
      · cases (((decide (x.To = n)) && (decide (onL l x.From = onL l n))) && (decide (x.Low ≤ onL l n))) && (decide (onL l n ≤ x.High))
        · exact ⟨s, t, rfl, rfl, by omega, by omega, by omega⟩
        · exact ⟨s, t + x.Weight, rfl, rfl, by omega, by omega, by omega⟩
      · have h4 := of_decide_eq_true (zbE (zbA (zbA h3))); rw [decide_eq_true h4] at h3; rw [decide_eq_true (hfx h4 hn), h3]; exact ⟨s + x.Weight, t + x.Weight, rfl, rfl, by omega, by omega, by omega⟩
    obtain ⟨a, b, ha, hb, k1, k2, k3⟩ := key; rw [ha, hb]; exact ih (fun y hy => hw y (List.mem_cons_of_mem _ hy)) (fun y hy => hf y (List.mem_cons_of_mem _ hy)) hn a b k1 k2 (by omega)
theorem zfk (p : GProblem) (c : GCap) (l : List GChoice) (h : 2 ≤ c.Low) : zbb p c l = ((zai (onL l c.Station) c.Low c.High) && decide (c.Max < p.Rules.Loads.foldl (zdP l c.Station) 0)) := by
  unfold zbb zai; rw [on_x, zix]; by_cases h0 : c.Low ≤ onL l c.Station
  · rw [decide_eq_true h0, decide_eq_true (show ¬ onL l c.Station = 0 by omega)]; rfl
  · rw [decide_eq_false h0]; simp
theorem zeR (c : GPair) (l : List GChoice) : za1 c l = true ↔ onL l c.A ≠ 0 ∧ onL l c.B ≠ 0 ∧ c.Low ≤ onL l c.A ∧ onL l c.A ≤ c.High ∧ onL l c.B = wI (onL l c.A + c.Offset) := by
  unfold za1; rw [on_x, on_x]; simp only [Bool.and_eq_true, decide_eq_true_eq, and_assoc, ne_eq]
structure FineP (p : GProblem) (l : List GChoice) (all : Bool) : Prop where
  dm : ∀ d ∈ p.Domains, (((decide (onL l d.Station = 0)) && all) || ((decide (¬ onL l d.Station = 0)) && (!zak d.Channels (onL l d.Station)))) = false
  fo : ∀ x ∈ l, anyD p x.Station = true
  pr : ∀ c ∈ p.Rules.Pairs, za1 c l = false
  cp : ∀ c ∈ p.Rules.Caps, zbb p c l = false
theorem zgd {l l' : List GChoice} {c : GPair} (h : za1 c l = false) (hA : onL l' c.A ≠ 0 → onL l' c.A = onL l c.A) (hB : onL l' c.B ≠ 0 → onL l' c.B = onL l c.B) : za1 c l' = false := by
  cases h1 : za1 c l'
  · rfl
  · exfalso; obtain ⟨a, b, x⟩ := (zeR c l').1 h1; rw [hA a, hB b] at x; rw [hA a] at a; rw [hB b] at b; rw [(zeR c l).2 ⟨a, b, x⟩] at h
    cases h
theorem zf2 {p p' : GProblem} {l l' : List GChoice} {c c' : GCap} (h : zbb p c l = false) (hs : p'.Rules.Loads.Sublist p.Rules.Loads) (hg : RulesGood p.Rules) (h2 : 2 ≤ c.Low) (eS : c'.Station = c.Station) (eL : c'.Low = c.Low) (eH : c'.High = c.High) (hM : c.Max ≤ c'.Max) (hN : ∀ n, onL l' n ≠ 0 → onL l' n = onL l n) : zbb p' c' l' = false := by
  cases h1 : zbb p' c' l'
  · rfl
  · exfalso; rw [zfk _ _ _ (by omega)] at h1; have hb := zfP (zbA h1); have hm := of_decide_eq_true (zbE h1); rw [eS, eL, eH] at hb; have e := hN c.Station (by omega); rw [zfk _ _ _ h2, ← e] at h; have hw := hg.nl
    have := (zhs (l := l) (l' := l') (n := c.Station) e hs (fun x hx => by
      have := zbA (hg.l x hx); have := zfP (zbE (zbA (hg.l x hx)))
      exact this) (fun x hx h3 h4 => by rw [← hN x.From (by omega)]; exact h3) (by omega) 0 0 (by omega) (by omega) (by omega)).2
    rw [eS] at hm; rw [show zai (onL l' c.Station) c.Low c.High = true from zda (decide_eq_true hb.1) (decide_eq_true hb.2), decide_eq_true (by omega)] at h
    cases h
theorem zea {c : GCap} (h : za8 c = true) : 2 ≤ c.Low := (zfH (zbE h)).1
theorem zhL {p : GProblem} {l : List GChoice} {st : List Int} (hp : okP p = true) (h : FineP p l true) : FineP (zhQ p st) (zfd l st) true := by
  have hg := (zcZ hp).2.1.g
  have hN : ∀ n, onL (zfd l st) n ≠ 0 → onL (zfd l st) n = onL l n := fun n hn => by
    rw [zdZ, zdg (hasS st)] at hn ⊢
    cases h1 : hasS st n
    · rw [h1] at hn; exact absurd rfl hn
    · rfl
  rw [zgR]; refine ⟨fun d hd => ?_, fun x hx => ?_, fun c hc => ?_, fun c hc => ?_⟩
  · obtain ⟨a, b⟩ := List.mem_filter.1 hd; rw [zdZ, zdg (hasS st), b]; exact h.dm d a
  · rw [zdZ] at hx; obtain ⟨a, b⟩ := List.mem_filter.1 hx; obtain ⟨d, hd, e⟩ := List.any_eq_true.1 (h.fo x a); exact List.any_eq_true.2 ⟨d, List.mem_filter.2 ⟨hd, by rw [of_decide_eq_true e]; exact b⟩, e⟩
  · exact zgd (h.pr c (List.mem_filter.1 hc).1) (hN _) (hN _)
  · have hc := (List.mem_filter.1 hc).1; exact zf2 (h.cp c hc) List.filter_sublist hg (zea (hg.c c hc)) rfl rfl rfl (Int.le_refl _) hN
theorem zhO {p : GProblem} {l : List GChoice} {st : List Int} (hp : okP p = true) (h : FineP p l true) : FineP p (zfd l st) false := by
  have hg := (zcZ hp).2.1.g
  have hN : ∀ n, onL (zfd l st) n ≠ 0 → onL (zfd l st) n = onL l n := fun n hn => by
    rw [zdZ, zdg (hasS st)] at hn ⊢
    cases h1 : hasS st n
    · rw [h1] at hn; exact absurd rfl hn
    · rfl
  refine ⟨fun d hd => ?_, fun x hx => ?_, fun c hc => ?_, fun c hc => ?_⟩
  · rw [Bool.and_false, Bool.false_or]; by_cases e : onL (zfd l st) d.Station = 0
    · rw [decide_eq_false (fun hn => hn e)]; rfl
    · rw [hN _ e]; have := h.dm d hd; rw [Bool.or_eq_false_iff] at this; exact this.2
  · rw [zdZ] at hx; exact h.fo x (List.mem_filter.1 hx).1
  · exact zgd (h.pr c hc) (hN _) (hN _)
  · exact zf2 (h.cp c hc) (List.Sublist.refl _) hg (zea (hg.c c hc)) rfl rfl rfl (Int.le_refl _) hN
theorem zhv {p q : GProblem} {l : List GChoice} (hp : okP p = true) (h : FineP p l true) (hD : q.Domains = p.Domains) (hP : q.Rules.Pairs.Sublist p.Rules.Pairs) (hL : q.Rules.Loads.Sublist p.Rules.Loads) (hC : ∀ c' ∈ q.Rules.Caps, ∃ c ∈ p.Rules.Caps, c'.Station = c.Station ∧ c'.Low = c.Low ∧ c'.High = c.High ∧ c.Max ≤ c'.Max) : FineP q l true := by
  have hg := (zcZ hp).2.1.g; refine ⟨fun d hd => h.dm d (by rw [← hD]; exact hd), fun x hx => ?_, fun c hc => h.pr c (hP.subset hc), fun c hc => ?_⟩
  · have := h.fo x hx; unfold anyD at this ⊢; rw [hD]; exact this
  · obtain ⟨c0, h0, a, b, d, e⟩ := hC c hc; exact zf2 (h.cp c0 h0) hL hg (zea (hg.c c0 h0)) a b d e (fun _ _ => rfl)
theorem zd0 {n : Nat} {f : Nat → (Int × Int → GViolation) → Int × Int → GViolation} {K : Int × Int → GViolation} {q : Nat → Bool} {c : Int} (hc : c ≠ 0) (hf : ∀ i next s, i < n → f i next s = bif q i then ⟨c, (i : Int)⟩ else next s) (s : Int × Int) : ((zal f K n 0 s).Kind = 0 → (∀ i, i < n → q i = false) ∧ (K s).Kind = 0) ∧ ((∀ i, i < n → q i = false) → zal f K n 0 s = K s) := by
  have key : ∀ m i, i + m = n → ((zal f K m i s).Kind = 0 → (∀ j, i ≤ j → j < n → q j = false) ∧ (K s).Kind = 0) ∧ ((∀ j, i ≤ j → j < n → q j = false) → zal f K m i s = K s) := by
    intro m
    induction m with
    | zero => intro i e; exact ⟨fun h => ⟨fun j h1 h2 => by omega, h⟩, fun _ => rfl⟩
    | succ m ih =>
      intro i e; obtain ⟨a, b⟩ := ih (i + 1) (by omega); have e2 : zal f K (m + 1) i s = bif q i then ⟨c, (i : Int)⟩ else zal f K m (i + 1) s := hf i _ s (by omega); rw [e2]
      cases h : q i
      · rw [cond_false]; refine ⟨fun h1 => ⟨fun j h2 h3 => ?_, (a h1).2⟩, fun h1 => b fun j h2 h3 => h1 j (by omega) h3⟩; rcases Nat.eq_or_lt_of_le h2 with rfl | h4
        · exact h
        · exact (a h1).1 j h4 h3
      · rw [cond_true]; refine ⟨fun h1 => absurd h1 hc, fun h1 => ?_⟩; have := h1 i (Nat.le_refl _) (by omega); rw [h] at this; cases this
  obtain ⟨a, b⟩ := key n 0 (by omega); exact ⟨fun h => ⟨fun i hi => (a h).1 i (Nat.zero_le _) hi, (a h).2⟩, fun h => b fun j _ hj => h j hj⟩
theorem zfR {α : Type} [Inhabited α] {l : List α} {P : α → Prop} (h : ∀ i, i < l.length - 0 → P (nth l i)) : ∀ x ∈ l, P x := fun x hx => by
  obtain ⟨i, hi, e⟩ := List.mem_iff_getElem.1 hx; rw [← e, ← zbe hi]; exact h i (by omega)
theorem first_of {p : GProblem} {l : List GChoice} {all : Bool} : ((zbW p l all).Kind = 0 → FineP p l all) ∧ (FineP p l all → zbW p l all = ⟨0, 0⟩) := by
  have e : zbW p l all = zal (fun (i : Nat) (next : (Int × Int) → GViolation) (s : Int × Int) => bif (((decide (onL l (nth p.Domains i).Station = 0)) && all) || ((decide (¬ onL l (nth p.Domains i).Station = 0)) && (!zak (nth p.Domains i).Channels (onL l (nth p.Domains i).Station)))) then ⟨1, (i : Int)⟩ else next s) (fun s => zal (fun (i : Nat) (next : (Int × Int) → GViolation) (s : Int × Int) => bif !anyD p (nth l i).Station then ⟨2, (i : Int)⟩ else next s) (fun s => zal (fun (i : Nat) (next : (Int × Int) → GViolation) (s : Int × Int) => bif za1 (nth p.Rules.Pairs i) l then ⟨3, (i : Int)⟩ else next s) (fun s => zal (fun (i : Nat) (next : (Int × Int) → GViolation) (s : Int × Int) => bif zbb p (nth p.Rules.Caps i) l then ⟨4, (i : Int)⟩ else next s) (fun s => ⟨0, 0⟩) (p.Rules.Caps.length - 0) 0 s) (p.Rules.Pairs.length - 0) 0 s) (l.length - 0) 0 s) (p.Domains.length - 0) 0 (0, 0) := by
    unfold zbW; simp only [zaW, on_x, ziw]
  rw [e]; have a1 := fun K => zd0 (n := p.Domains.length - 0) (K := K) (q := fun i => (((decide (onL l (nth p.Domains i).Station = 0)) && all) || ((decide (¬ onL l (nth p.Domains i).Station = 0)) && (!zak (nth p.Domains i).Channels (onL l (nth p.Domains i).Station))))) (c := 1) (by decide) (fun i next s hi => rfl) (0, 0); have a2 := fun K s => zd0 (n := l.length - 0) (K := K) (q := fun i => !anyD p (nth l i).Station) (c := 2) (by decide) (fun i next s hi => rfl) s; have a3 := fun K s => zd0 (n := p.Rules.Pairs.length - 0) (K := K) (q := fun i => za1 (nth p.Rules.Pairs i) l) (c := 3) (by decide) (fun i next s hi => rfl) s; have a4 := fun K s => zd0 (n := p.Rules.Caps.length - 0) (K := K) (q := fun i => zbb p (nth p.Rules.Caps i) l) (c := 4) (by decide) (fun i next s hi => rfl) s; refine ⟨fun h => ?_, fun h => ?_⟩
  · obtain ⟨h1, h⟩ := (a1 _).1 h; obtain ⟨h2, h⟩ := (a2 _ _).1 h; obtain ⟨h3, h⟩ := (a3 _ _).1 h; obtain ⟨h4, h⟩ := (a4 _ _).1 h; exact ⟨zfR (P := fun d : GDomain => (((decide (onL l d.Station = 0)) && all) || ((decide (¬ onL l d.Station = 0)) && (!zak d.Channels (onL l d.Station)))) = false) h1, zfR (P := fun x : GChoice => anyD p x.Station = true) fun i hi => by have := h2 i hi; rwa [Bool.not_eq_false'] at this, zfR (P := fun c => za1 c l = false) h3, zfR (P := fun c => zbb p c l = false) h4⟩
  · rw [(a1 _).2 fun i hi => h.dm _ (zby (by omega))]; rw [(a2 _ _).2 fun i hi => by rw [h.fo _ (zby (by omega))]; rfl]; rw [(a3 _ _).2 fun i hi => h.pr _ (zby (by omega))]; rw [(a4 _ _).2 fun i hi => h.cp _ (zby (by omega))]
def encU (n : Nat) : List Int := if h : n < 128 then [(n : Int)] else ((n % 128 + 128 : Nat) : Int) :: encU (n / 128)
termination_by n
decreasing_by omega
theorem zfX {n : Nat} (h : n < 128) : encU n = [(n : Int)] := by rw [encU]; simp [h]
theorem zgA {n : Nat} (h : ¬ n < 128) : encU n = ((n % 128 + 128 : Nat) : Int) :: encU (n / 128) := by rw [encU]; simp [h]
theorem zdn : ∀ (k n : Nat), n < 2 ^ (7 * (k + 1)) → (encU n).length ≤ k + 1
  | 0, n, h => by rw [zfX (by simpa using h)]; simp
  | k + 1, n, h => by
    by_cases h1 : n < 128
    · rw [zfX h1]; simp
    · rw [zgA h1, List.length_cons]
      have := zdn k (n / 128) (by
        rw [Nat.div_lt_iff_lt_mul (by decide)]
        calc n < 2 ^ (7 * (k + 1 + 1)) := h
          _ = 2 ^ (7 * (k + 1)) * 128 := by rw [show 7 * (k + 1 + 1) = 7 * (k + 1) + 7 by omega, Nat.pow_add])
      omega
theorem or128 : ∀ k : Nat, k < 256 → orK .u8 (k : Int) 128 = ((k % 128 + 128 : Nat) : Int) := by
  (have h : ∀ k : Fin 256, orK .u8 ((k.1 : Nat) : Int) 128 = ((k.1 % 128 + 128 : Nat) : Int) := by decide); exact fun k hk => h ⟨k, hk⟩
theorem ziy : ∀ k : Nat, k < 256 → andK .u8 (k : Int) 127 = ((k % 128 : Nat) : Int) := by
  (have h : ∀ k : Fin 256, andK .u8 ((k.1 : Nat) : Int) 127 = ((k.1 % 128 : Nat) : Int) := by decide); exact fun k hk => h ⟨k, hk⟩
theorem zjn (n : Nat) : IntKind.u8.wrap (n : Int) = ((n % 256 : Nat) : Int) := by
  simp [IntKind.wrap, IntKind.signed, IntKind.bits]
theorem shr7 (n : BitVec 64) : (n >>> 7).toNat = n.toNat / 128 := by rw [BitVec.toNat_ushiftRight, Nat.shiftRight_eq_div_pow]
theorem ze4 {fuel : Nat} {l : List Int} {n : BitVec 64} (hf : 20 ≤ fuel) (hl : l.length ≤ 100000) : zbH fuel l n = some (l ++ encU n.toNat) := by
  unfold zbH; simp only [zaW]; have hb : ∀ m : BitVec 64, (encU m.toNat).length ≤ 10 := fun m => zdn 9 _ (Nat.lt_of_lt_of_le m.isLt (by decide)); refine zeE (σ := List Int × BitVec 64) (I := fun s => s.1 ++ encU s.2.toNat = l ++ encU n.toNat) (μ := fun s => (encU s.2.toNat).length) (post := fun o => o = some (l ++ encU n.toNat)) rfl (by have := hb n; show (encU n.toNat).length < fuel; omega) ?_; rintro ⟨a, m⟩ next hI hn; dsimp only at hI hn ⊢
  have hlen : a.length ≤ 100010 := by
    have h1 := congrArg List.length hI; rw [List.length_append, List.length_append] at h1; have := hb n; omega
  by_cases h : m.toNat < 128
  · rw [decide_eq_false (by show ¬ (127 : Int) < _; omega), cond_false, zbd (by unfold room; simp; omega), zjn, Nat.mod_eq_of_lt (by omega), ← zfX h, hI]
  · rw [decide_eq_true (by show (127 : Int) < _; omega), cond_true, zbd (by unfold room; simp; omega), zjn, or128 _ (Nat.mod_lt _ (by decide)), Nat.mod_mod_of_dvd _ (by decide)]; have h2 := zgA h; refine hn _ ?_ ?_
    · show (a ++ [_]) ++ encU (m >>> 7).toNat = _
      rw [shr7, List.append_assoc, List.singleton_append, ← h2, hI]
    · show (encU (m >>> 7).toNat).length < (encU m.toNat).length
      rw [shr7, h2, List.length_cons]; omega
structure RdS (x : GReader) (rest : List Int) : Prop where
  made : x.made = true
  ok : x.fault.first = 0
  pos : 0 ≤ x.at_
  drop : x.in_.drop x.at_.toNat = rest
  len : x.at_.toNat + rest.length = x.in_.length
abbrev adv (x : GReader) (k : Nat) : GReader := ⟨⟨0⟩, x.made, x.in_, x.at_ + (k : Int)⟩
theorem RdS.adv {x : GReader} {a rest : List Int} (h : RdS x (a ++ rest)) : RdS (adv x a.length) rest := by
  have hl := h.len; rw [List.length_append] at hl; have hp := h.pos; refine ⟨h.made, rfl, by show 0 ≤ x.at_ + _; omega, ?_, ?_⟩
  · show x.in_.drop (x.at_ + (a.length : Int)).toNat = rest
    rw [show (x.at_ + (a.length : Int)).toNat = x.at_.toNat + a.length by omega, ← List.drop_drop, h.drop, List.drop_left]
  · show (x.at_ + (a.length : Int)).toNat + rest.length = x.in_.length
    omega
theorem zgG {f : Int} {m : Bool} {l : List Int} {a b : Int} {rest : List Int} (hp : 0 ≤ a) (hd : l.drop a.toNat = b :: rest) : zaQ ⟨⟨f⟩, m, l, a⟩ = some (Dy.ok (b, a + 1)) := by
  have hlt : a.toNat < l.length := by
    rcases Nat.lt_or_ge a.toNat l.length with h | h
    · exact h
    · rw [List.drop_eq_nil_of_le h] at hd; cases hd
  have hb : nth l a.toNat = b := by
    rw [List.drop_eq_getElem_cons hlt] at hd; rw [zbe hlt]; exact (List.cons.inj hd).1
  unfold zaQ; simp only [zaW]; rw [decide_eq_false (by omega), cond_false, zbd ⟨hp, by omega⟩, hb]
theorem zjb {lo p i : Nat} (hlo : lo < 2 ^ (7 * i)) (hi : 7 * i < 64) (hp : p < 2 ^ 64) (hs : p * 2 ^ (7 * i) < 2 ^ 64) : (BitVec.ofNat 64 lo ||| (BitVec.ofNat 64 p <<< (7 * i))) = BitVec.ofNat 64 (lo + p * 2 ^ (7 * i)) := by
  apply BitVec.eq_of_toNat_eq; have h1 : lo < 2 ^ 64 := Nat.lt_trans hlo (Nat.pow_lt_pow_right (by decide) hi); rw [BitVec.toNat_or, BitVec.toNat_shiftLeft, BitVec.toNat_ofNat, BitVec.toNat_ofNat, BitVec.toNat_ofNat, Nat.mod_eq_of_lt h1, Nat.mod_eq_of_lt hp, Nat.shiftLeft_eq, Nat.mod_eq_of_lt hs, Nat.or_comm]; have h2 := Nat.shiftLeft_add_eq_or_of_lt hlo p; rw [Nat.shiftLeft_eq] at h2
  have h3 : p * 2 ^ (7 * i) + lo < 2 ^ 64 := by
    rw [h2]; exact Nat.or_lt_two_pow hs h1
  rw [← h2, Nat.add_comm lo, Nat.mod_eq_of_lt h3]
theorem zfs {x : GReader} {n most : Nat} {rest : List Int} (hm0 : 0 < most) (hm : most ≤ 10) (hn : n < 2 ^ 64) (hn2 : n < 2 ^ (7 * most)) (h : RdS x (encU n ++ rest)) : zaA x (most : Int) = some (Dy.ok (BitVec.ofNat 64 n, x.at_ + ((encU n).length : Int))) := by
  unfold zaA; rw [zbd (by omega)]; simp only [zaW]
  have key : ∀ (m i q lo : Nat) (a : Int) (z : BitVec 64), i + m = most → 0 ≤ a → x.in_.drop a.toNat = encU q ++ rest → n = lo + q * 2 ^ (7 * i) → lo < 2 ^ (7 * i) → (0 < i → 0 < q) → q < 2 ^ (7 * m) →
      zal (fun (i_8 : Nat) (next7 : (BitVec 64 × BitVec 64 × Int) → Option (Dy (BitVec 64 × Int) (Int × Int))) (s7 : BitVec 64 × BitVec 64 × Int) =>
        (zaQ (GReader.mk (Gfault.mk x.fault.first) x.made x.in_ s7.2.2)).bind fun r14 =>
        (bif zcQ r14 then
          (bif ((decide ((i_8 : Int) = 9)) && (decide (((1#64).toNat : Int) < ((BitVec.ofInt 64 (andK .u8 ((okY r14).1) 127)).toNat : Int)))) then
            some (Dy.er (6, ((okY r14).2)))
            else
            (bif decide ((okY r14).1 < 128) then
              (bif ((decide ((okY r14).1 = 0)) && (decide (0 < (i_8 : Int)))) then
                some (Dy.er (6, ((okY r14).2)))
                else
                some (Dy.ok ((s7.2.1 ||| ((BitVec.ofInt 64 (andK .u8 ((okY r14).1) 127)) <<< ((7 * (i_8 : Int)).toNat))), ((okY r14).2))))
              else
              next7 (s7.1, (s7.2.1 ||| ((BitVec.ofInt 64 (andK .u8 ((okY r14).1) 127)) <<< ((7 * (i_8 : Int)).toNat))), (okY r14).2)))
          else
          some (Dy.er ((erY r14).1, ((erY r14).2)))))
      (fun (s7 : BitVec 64 × BitVec 64 × Int) => some (Dy.er (6, s7.2.2))) m i (z, BitVec.ofNat 64 lo, a) = some (Dy.ok (BitVec.ofNat 64 n, a + ((encU q).length : Int))) := by
    intro m
    induction m with
    | zero =>
      intro i q lo a z e ha hd hnq hlo hq hq2; have := hq (by omega); simp at hq2; omega
    | succ m ih =>
      intro i q lo a z e ha hd hnq hlo hq hq2; (have hi7 : 7 * i < 64 := by omega); have hle : q % 128 * 2 ^ (7 * i) ≤ q * 2 ^ (7 * i) := Nat.mul_le_mul_right _ (Nat.mod_le _ _); have hacc : (BitVec.ofNat 64 lo ||| (BitVec.ofNat 64 (q % 128) <<< (7 * i))) = BitVec.ofNat 64 (lo + q % 128 * 2 ^ (7 * i)) := zjb hlo hi7 (Nat.lt_trans (Nat.mod_lt _ (by decide)) (by decide)) (by omega)
      have h9 : ¬ (i = 9 ∧ 1 < q % 128) := fun ⟨h1, h2⟩ => by
        subst h1; have : 2 * 2 ^ (7 * 9) ≤ q % 128 * 2 ^ (7 * 9) := Nat.mul_le_mul_right _ h2; omega
      have hbig : ((decide ((i : Int) = 9)) && (decide (((1#64).toNat : Int) < ((BitVec.ofNat 64 (q % 128)).toNat : Int)))) = false := by
        rw [Bool.and_eq_false_iff, decide_eq_false_iff_not, decide_eq_false_iff_not]; rw [show (BitVec.ofNat 64 (q % 128)).toNat = q % 128 from by rw [BitVec.toNat_ofNat]; exact Nat.mod_eq_of_lt (by omega)]; rcases Nat.lt_or_ge 1 (q % 128) with h1 | h1
        · left; intro h2; exact h9 ⟨by omega, h1⟩
        · right; show ¬ (1 : Int) < _; omega
      by_cases h1 : q < 128
      · rw [zfX h1] at hd ⊢; have hx : q % 128 = q := Nat.mod_eq_of_lt h1
        show (Option.bind (zaQ _) _) = _
        rw [zgG ha hd]
        show (bif (decide ((i : Int) = 9) && decide (((1#64).toNat : Int) < ((BitVec.ofInt 64 (andK .u8 (q : Int) 127)).toNat : Int))) then _ else bif decide ((q : Int) < 128) then (bif decide ((q : Int) = 0) && decide (0 < (i : Int)) then _ else some (Dy.ok ((BitVec.ofNat 64 lo ||| ((BitVec.ofInt 64 (andK .u8 (q : Int) 127)) <<< ((7 * (i : Int)).toNat))), a + 1))) else _) = _
        rw [show (7 * (i : Int)).toNat = 7 * i by omega, ziy q (by omega), BitVec.ofInt_natCast, hbig, cond_false, decide_eq_true (by omega), cond_true, show (decide ((q : Int) = 0) && decide (0 < (i : Int))) = false from by
          rw [Bool.and_eq_false_iff, decide_eq_false_iff_not, decide_eq_false_iff_not]; rcases Nat.eq_zero_or_pos i with h2 | h2
          · right; omega
          · left; have := hq h2; omega, cond_false, hacc, hx, ← hnq]
        rfl
      · rw [zgA h1] at hd ⊢
        show (Option.bind (zaQ _) _) = _
        rw [List.cons_append] at hd; rw [zgG ha hd]
        show (bif (decide ((i : Int) = 9) && decide (((1#64).toNat : Int) < ((BitVec.ofInt 64 (andK .u8 ((q % 128 + 128 : Nat) : Int) 127)).toNat : Int))) then _ else bif decide (((q % 128 + 128 : Nat) : Int) < 128) then _ else zal _ _ m (i + 1) (z, (BitVec.ofNat 64 lo ||| ((BitVec.ofInt 64 (andK .u8 ((q % 128 + 128 : Nat) : Int) 127)) <<< ((7 * (i : Int)).toNat))), a + 1)) = _
        (have hx : (q % 128 + 128) % 128 = q % 128 := by omega); rw [show (7 * (i : Int)).toNat = 7 * i by omega, ziy _ (by omega), BitVec.ofInt_natCast, hx, hbig, cond_false, decide_eq_false (by omega), cond_false, hacc]
        have hd2 : x.in_.drop (a + 1).toNat = encU (q / 128) ++ rest := by
          rw [show (a + 1).toNat = a.toNat + 1 by omega, ← List.drop_drop, hd]; rfl
        (have e7 : 2 ^ (7 * (i + 1)) = 2 ^ (7 * i) * 128 := by rw [show 7 * (i + 1) = 7 * i + 7 by omega, Nat.pow_add]); (have e8 : 2 ^ (7 * (m + 1)) = 2 ^ (7 * m) * 128 := by rw [show 7 * (m + 1) = 7 * m + 7 by omega, Nat.pow_add]); have hdm := Nat.div_add_mod q 128
        have := ih (i + 1) (q / 128) (lo + q % 128 * 2 ^ (7 * i)) (a + 1) z (by omega) (by omega) hd2 (by
          rw [e7, hnq]
          conv => lhs; rw [← hdm]
          rw [Nat.add_mul]; (have : 128 * (q / 128) * 2 ^ (7 * i) = q / 128 * (2 ^ (7 * i) * 128) := by rw [Nat.mul_comm 128, Nat.mul_assoc, Nat.mul_comm 128])
          omega) (by
          rw [e7]; have h3 : q % 128 * 2 ^ (7 * i) ≤ 127 * 2 ^ (7 * i) := Nat.mul_le_mul_right _ (by omega)
          omega) (fun _ => by omega) (by rw [e8] at hq2; omega)
        rw [List.length_cons, show a + (((encU (q / 128)).length + 1 : Nat) : Int) = a + 1 + ((encU (q / 128)).length : Int) by omega]; exact this
  have hk := key most 0 n 0 x.at_ 0#64 (by omega) h.pos h.drop (by omega) (by simp) (by omega) (by simpa using hn2); rw [show ((most : Int)).toNat - 0 = most by omega]; exact hk
theorem zjs {fuel : Nat} {out : List Int} {n : Int} (hf : 20 ≤ fuel) (hn : 0 ≤ n ∧ n ≤ 9223372036854775807) (hl : (out ++ encU n.toNat).length ≤ 65536) : zbm fuel ⟨⟨0⟩, out⟩ n = some (out ++ encU n.toNat) := by
  have hg : zbH fuel out (BitVec.ofInt 64 n) = some (out ++ encU n.toNat) := by
    rw [ze4 hf (by rw [List.length_append] at hl; omega)]; rw [show (BitVec.ofInt 64 n).toNat = n.toNat from by rw [BitVec.toNat_ofInt]; omega]
  unfold zbm
  show (bif decide (n < 0) then none else (zbH fuel out (BitVec.ofInt 64 n)).bind _) = _
  rw [decide_eq_false (by omega), cond_false, hg]
  show (zaG _ _).bind _ = _
  unfold zaG; rw [decide_eq_false (by omega)]; rfl
def zig (n : Int) : Nat := if n < 0 then (-(2 * n) - 1).toNat else (2 * n).toNat
theorem int_w {fuel : Nat} {out : List Int} {n : Int} (hf : 20 ≤ fuel) (hn : -1 ≤ n ∧ n ≤ 1) (hl : (out ++ encU (zig n)).length ≤ 65536) : za9 fuel ⟨⟨0⟩, out⟩ n = some (out ++ encU (zig n)) := by
  (have hl2 : out.length ≤ 100000 := by rw [List.length_append] at hl; omega)
  have hg : zcM fuel out n = some (out ++ encU (zig n)) := by
    unfold zcM; (have h3 : n = -1 ∨ n = 0 ∨ n = 1 := by omega); rcases h3 with rfl | rfl | rfl
    · show (zbH fuel out _).bind _ = _
      rw [ze4 hf hl2]; rfl
    · show (zbH fuel out _).bind _ = _
      rw [ze4 hf hl2]; rfl
    · show (zbH fuel out _).bind _ = _
      rw [ze4 hf hl2]; rfl
  unfold za9
  show (zcM fuel out n).bind _ = _
  rw [hg]
  show (zaG _ _).bind _ = _
  unfold zaG; rw [decide_eq_false (by omega)]; rfl
theorem zhE {ρ α : Type} [Inhabited α] {l : List α} {g : α → List Int} {f : Nat → (List Int → ρ) → List Int → ρ} {k : List Int → ρ} {s0 : List Int} (hl : (s0 ++ l.flatMap g).length ≤ 65536) (hf : ∀ i next s, i < l.length → (s ++ g (nth l i)).length ≤ 65536 → f i next s = next (s ++ g (nth l i))) : zal f k (l.length - 0) 0 s0 = k (s0 ++ l.flatMap g) := by
  have key : ∀ m i s, i + m = l.length → (s ++ (l.drop i).flatMap g).length ≤ 65536 → zal f k m i s = k (s ++ (l.drop i).flatMap g) := by
    intro m
    induction m with
    | zero => intro i s e _; rw [List.drop_eq_nil_of_le (by omega), List.flatMap_nil, List.append_nil]; rfl
    | succ m ih =>
      intro i s e hs; rw [List.drop_eq_getElem_cons (show i < l.length by omega), List.flatMap_cons, ← zbe (show i < l.length by omega), ← List.append_assoc] at hs ⊢; rw [← ih (i + 1) (s ++ g (nth l i)) (by omega) hs]; exact hf i _ s (by omega) (by rw [List.length_append] at hs; omega)
  have := key (l.length - 0) 0 s0 (by omega) (by rw [List.drop_zero]; exact hl)
  rwa [List.drop_zero] at this
def encI (n : Int) : List Int := encU n.toNat
theorem zfN {fuel : Nat} {out l : List Int} (hf : 20 ≤ fuel) (hn : ∀ n ∈ l, 0 ≤ n ∧ n ≤ 9223372036854775807) (hl : (out ++ l.flatMap encI).length ≤ 65536) : zaw fuel l ⟨⟨0⟩, out⟩ = some (out ++ l.flatMap encI) := by
  unfold zaw; refine (zhE (g := encI) hl (fun i next s hi hs => ?_)); rw [zjs hf (hn _ (zby hi)) hs]; rfl
def bitS (s : Nat) (c : Int) : Nat := s ||| 2 ^ (c - 2).toNat
def zeL (l : List Int) : Nat := l.foldl bitS 0
theorem zht {s : Nat} {c : Int} (hs : s < 2 ^ 50) (hc : 2 ≤ c ∧ c ≤ 51) : bitS s c < 2 ^ 50 := Nat.or_lt_two_pow hs (Nat.pow_lt_pow_right (by decide) (by omega))
theorem zhy : ∀ {l : List Int} {s : Nat}, s < 2 ^ 50 → (∀ c ∈ l, 2 ≤ c ∧ c ≤ 51) → l.foldl bitS s < 2 ^ 50
  | [], _, hs, _ => hs
  | c :: l, s, hs, hc => by
    rw [List.foldl_cons]; exact zhy (zht hs (hc c (List.mem_cons_self ..))) fun d hd => hc d (List.mem_cons_of_mem _ hd)
theorem zgs {l : List Int} (hc : ∀ c ∈ l, 2 ≤ c ∧ c ≤ 51) : zeL l < 2 ^ 50 := zhy (by decide) hc
theorem zgL : ∀ (l : List Int) (s k : Nat), (l.foldl bitS s).testBit k = (s.testBit k || l.any fun c => decide ((c - 2).toNat = k))
  | [], s, k => by simp
  | c :: l, s, k => by
    rw [List.foldl_cons, zgL l, List.any_cons, bitS, Nat.testBit_or, Nat.testBit_two_pow, Bool.or_assoc]
theorem zhV (l : List Int) (k : Nat) : (zeL l).testBit k = l.any fun c => decide ((c - 2).toNat = k) := by
  unfold zeL; rw [zgL]; simp
theorem or64 {a b : Nat} (ha : a < 2 ^ 50) (hb : b < 2 ^ 50) : orK .i64 (a : Int) (b : Int) = ((a ||| b : Nat) : Int) := by
  have h := Nat.or_lt_two_pow ha hb
  show IntKind.i64.wrap (((BitVec.ofInt 64 (a : Int) ||| BitVec.ofInt 64 (b : Int)).toNat : Nat) : Int) = _
  rw [BitVec.ofInt_natCast, BitVec.ofInt_natCast, BitVec.toNat_or, BitVec.toNat_ofNat, BitVec.toNat_ofNat, Nat.mod_eq_of_lt (by omega), Nat.mod_eq_of_lt (by omega)]; exact zer (by omega)
theorem shl64 {k : Nat} (hk : k ≤ 49) : shlK .i64 1 (k : Int) = ((2 ^ k : Nat) : Int) := by
  show IntKind.i64.wrap (1 * 2 ^ (min ((k : Int)).toNat 64)) = _
  rw [show min ((k : Int)).toNat 64 = k by omega, Int.one_mul]; have h : 2 ^ k < 2 ^ 50 := Nat.pow_lt_pow_right (by decide) (by omega); (have e : ((2 : Int) ^ k) = ((2 ^ k : Nat) : Int) := by rw [Int.natCast_pow]; rfl); rw [e]; generalize 2 ^ k = x at h; exact zer (by omega)
theorem zhn {ρ : Type} {l : List Int} (hc : ∀ c ∈ l, 2 ≤ c ∧ c ≤ 51) (K : Int → Option ρ) : zal (fun (i : Nat) (next : Int → Option ρ) (s : Int) => grd (0 ≤ wI (nth l i - 2)) <| next (orK .i64 s (shlK .i64 1 (wI (nth l i - 2))))) K (l.length - 0) 0 0 = K ((zeL l : Nat) : Int) := by
  have key : ∀ m i (s : Nat), i + m = l.length → s < 2 ^ 50 → zal (fun (i : Nat) (next : Int → Option ρ) (s : Int) => grd (0 ≤ wI (nth l i - 2)) <| next (orK .i64 s (shlK .i64 1 (wI (nth l i - 2))))) K m i (s : Int) = K (((l.drop i).foldl bitS s : Nat) : Int) := by
    intro m
    induction m with
    | zero => intro i s e _; rw [List.drop_eq_nil_of_le (by omega)]; rfl
    | succ m ih =>
      intro i s e hs; have h := hc _ (zby (show i < l.length by omega))
      show grd _ _ = _
      rw [zer (by omega), zbd (by omega), show nth l i - 2 = (((nth l i - 2).toNat : Nat) : Int) by omega, shl64 (by omega), or64 hs (Nat.pow_lt_pow_right (by decide) (by omega))]; have := ih (i + 1) (bitS s (nth l i)) (by omega) (zht hs h); rw [List.drop_eq_getElem_cons (show i < l.length by omega), List.foldl_cons, ← zbe (show i < l.length by omega), ← this]
      rfl
  have := key (l.length - 0) 0 0 (by omega) (by decide); rw [List.drop_zero] at this; exact this
def encD (d : GDomain) : List Int := [d.Station, ((zeL d.Channels : Nat) : Int)].flatMap encI
def zdp (c : GPair) : List Int := [c.A, c.B].flatMap encI ++ (encU (zig c.Offset) ++ [c.Low, c.High].flatMap encI)
def encL (c : GLoad) : List Int := [c.To, c.From, c.Weight, c.Low, c.High].flatMap encI
def encC (c : GCap) : List Int := [c.Station, c.Max, c.Low, c.High].flatMap encI
def encP (p : GProblem) : List Int := encU p.Domains.length ++ (p.Domains.flatMap encD ++ (encU p.Rules.Pairs.length ++ (p.Rules.Pairs.flatMap zdp ++ (encU p.Rules.Loads.length ++ (p.Rules.Loads.flatMap encL ++ (encU p.Rules.Caps.length ++ p.Rules.Caps.flatMap encC))))))
theorem zcy (k : Nat) {n : Int} (h : n < 2 ^ (7 * (k + 1))) : (encI n).length ≤ k + 1 := zdn k _ (by
  have : (n.toNat : Int) < ((2 ^ (7 * (k + 1)) : Nat) : Int) := by
    rw [Int.natCast_pow]; rcases Int.lt_or_le n 0 with h0 | h0
    · rw [show n.toNat = 0 by omega]; exact Int.pow_pos (by decide)
    · rw [show (n.toNat : Int) = n by omega]; exact h
  exact Int.ofNat_lt.1 this)
theorem zfU {α : Type} {l : List α} {g : α → List Int} {k : Nat} (h : ∀ x ∈ l, (g x).length ≤ k) : (l.flatMap g).length ≤ k * l.length := by
  induction l with
  | nil => simp
  | cons x r ih =>
    rw [List.flatMap_cons, List.length_append, List.length_cons, Nat.mul_add]; have := h x (List.mem_cons_self ..); have := ih fun y hy => h y (List.mem_cons_of_mem _ hy); omega
theorem zga {d : GDomain} (h : okD d = true) : ∀ c ∈ d.Channels, 2 ≤ c ∧ c ≤ 51 := fun c hc => ziS (List.all_eq_true.1 (zbA (zbE h)) c hc)
theorem zhH {d : GDomain} (h : okD d = true) : 0 ≤ d.Station ∧ d.Station ≤ 511 := zbM (zbA h)
structure PairR (c : GPair) : Prop where
  a : 0 ≤ c.A ∧ c.A ≤ 511
  b : 0 ≤ c.B ∧ c.B ≤ 511
  o : -1 ≤ c.Offset ∧ c.Offset ≤ 1
  l : 2 ≤ c.Low ∧ c.Low ≤ 51
  h : 2 ≤ c.High ∧ c.High ≤ 51
theorem zi2 {c : GPair} (h : zbk c = true) : PairR c := by
  have hr := zfH (zbE h); exact ⟨zbM (zdz h).1, zbM (zdz h).2, zfP (zbE (zbA h)), by omega, by omega⟩
structure LoadR (c : GLoad) : Prop where
  a : 0 ≤ c.To ∧ c.To ≤ 511
  b : 0 ≤ c.From ∧ c.From ≤ 511
  w : 1 ≤ c.Weight ∧ c.Weight ≤ 1073741824
  l : 2 ≤ c.Low ∧ c.Low ≤ 51
  h : 2 ≤ c.High ∧ c.High ≤ 51
theorem loadR {c : GLoad} (h : zbc c = true) : LoadR c := by
  have hr := zfH (zbE h); exact ⟨zbM (zeb h).1, zbM (zeb h).2, zfP (zbE (zbA h)), by omega, by omega⟩
structure CapR (c : GCap) : Prop where
  a : 0 ≤ c.Station ∧ c.Station ≤ 511
  m : 0 ≤ c.Max ∧ c.Max ≤ 1099511627776
  l : 2 ≤ c.Low ∧ c.Low ≤ 51
  h : 2 ≤ c.High ∧ c.High ≤ 51
theorem capR {c : GCap} (h : za8 c = true) : CapR c := by
  have hr := zfH (zbE h); exact ⟨zbM (zfM h), zfP (zbE (zbA h)), by omega, by omega⟩
theorem ziv {n : Int} (h : -1 ≤ n ∧ n ≤ 1) : zig n ≤ 2 := by unfold zig; split <;> omega
theorem zh5 {d : GDomain} (h : okD d = true) : (encD d).length ≤ 10 := by
  have h1 := zcy (n := d.Station) 1 (by have := zhH h; omega); have h2 := zcy (n := ((zeL d.Channels : Nat) : Int)) 7 (by have := zgs (zga h); omega); unfold encD; simp only [List.flatMap_cons, List.flatMap_nil, List.length_append, List.length_nil]; omega
theorem zhK {c : GPair} (h : PairR c) : (zdp c).length ≤ 7 := by
  have h1 := zcy (n := c.A) 1 (by have := h.a; omega); have h2 := zcy (n := c.B) 1 (by have := h.b; omega); have h3 := zdn 0 (zig c.Offset) (by have := ziv h.o; omega); have h4 := zcy (n := c.Low) 0 (by have := h.l; omega); have h5 := zcy (n := c.High) 0 (by have := h.h; omega); unfold zdp; simp only [List.flatMap_cons, List.flatMap_nil, List.length_append, List.length_nil]; omega
theorem zio {c : GLoad} (h : LoadR c) : (encL c).length ≤ 11 := by
  have h1 := zcy (n := c.To) 1 (by have := h.a; omega); have h2 := zcy (n := c.From) 1 (by have := h.b; omega); have h3 := zcy (n := c.Weight) 4 (by have := h.w; omega); have h4 := zcy (n := c.Low) 0 (by have := h.l; omega); have h5 := zcy (n := c.High) 0 (by have := h.h; omega); unfold encL; simp only [List.flatMap_cons, List.flatMap_nil, List.length_append, List.length_nil]; omega
theorem zif {c : GCap} (h : CapR c) : (encC c).length ≤ 10 := by
  have h1 := zcy (n := c.Station) 1 (by have := h.a; omega); have h3 := zcy (n := c.Max) 5 (by have := h.m; omega); have h4 := zcy (n := c.Low) 0 (by have := h.l; omega); have h5 := zcy (n := c.High) 0 (by have := h.h; omega); unfold encC; simp only [List.flatMap_cons, List.flatMap_nil, List.length_append, List.length_nil]; omega
theorem zgQ {p : GProblem} (hp : okP p = true) : (encP p).length ≤ 65536 := by
  obtain ⟨hD, hR, hi, _⟩ := zcZ hp; have hl := zeI hD hi; have g := hR.g; have h1 := zfU (l := p.Domains) (g := encD) (k := 10) fun d hd => zh5 (List.all_eq_true.1 hD d hd); have h2 := zfU (l := p.Rules.Pairs) (g := zdp) (k := 7) fun c hc => zhK (zi2 (g.p c hc)); have h3 := zfU (l := p.Rules.Loads) (g := encL) (k := 11) fun c hc => zio (loadR (g.l c hc)); have h4 := zfU (l := p.Rules.Caps) (g := encC) (k := 10) fun c hc => zif (capR (g.c c hc)); have n1 := g.np; have n2 := g.nl; have n3 := g.nc; have k1 := zdn 1 p.Domains.length (by omega); have k2 := zdn 1 p.Rules.Pairs.length (by omega); have k3 := zdn 1 p.Rules.Loads.length (by omega); have k4 := zdn 1 p.Rules.Caps.length (by omega); unfold encP; simp only [List.length_append]; omega
theorem zib {fuel : Nat} {p : GProblem} (hf : 20 ≤ fuel) (hp : okP p = true) : zb6 fuel p = some (encP p, 0) := by
  obtain ⟨hD, hR, hi, _⟩ := zcZ hp; have hl := zeI hD hi; have g := hR.g; have n1 := g.np; have n2 := g.nl; have n3 := g.nc; have hlen := zgQ hp
  have pf : ∀ {a b : List Int}, encP p = a ++ b → a.length ≤ 65536 := fun {a b} e => by
    rw [e, List.length_append] at hlen; omega
  have hw : ∀ (out : List Int) (n : Nat), n ≤ 5000 → (out ++ encU n).length ≤ 65536 → zaw fuel [((n : Nat) : Int)] ⟨⟨0⟩, out⟩ = some (out ++ encU n) := fun out n h1 h2 => by
    (have e : [((n : Nat) : Int)].flatMap encI = encU n := by simp [encI]); rw [zfN hf (fun m hm => by rw [List.mem_singleton] at hm; omega) (by rw [e]; exact h2), e]
  unfold zb6; rw [zeH, hp]
  show (zaw fuel [(p.Domains.length : Int)] _).bind _ = _
  rw [hw [] p.Domains.length (by omega) (pf (b := p.Domains.flatMap encD ++ (encU p.Rules.Pairs.length ++ (p.Rules.Pairs.flatMap zdp ++ (encU p.Rules.Loads.length ++ (p.Rules.Loads.flatMap encL ++ (encU p.Rules.Caps.length ++ p.Rules.Caps.flatMap encC)))))) rfl)]; refine (zhE (l := p.Domains) (g := encD) (pf (b := encU p.Rules.Pairs.length ++ (p.Rules.Pairs.flatMap zdp ++ (encU p.Rules.Loads.length ++ (p.Rules.Loads.flatMap encL ++ (encU p.Rules.Caps.length ++ p.Rules.Caps.flatMap encC))))) (by unfold encP; simp only [List.append_assoc, List.nil_append])) (fun i next s hin hs => ?_)).trans ?_
  · have hd := List.all_eq_true.1 hD _ (zby hin); refine (zhn (zga hd) _).trans ?_
    show (zaw fuel [(nth p.Domains i).Station, ((zeL (nth p.Domains i).Channels : Nat) : Int)] _).bind _ = _
    rw [zfN hf (fun n hn => ?_) hs]
    · rfl
    · have a := zhH hd; have b := zgs (zga hd); rcases List.mem_cons.1 hn with rfl | hn
      · omega
      · rw [List.mem_singleton] at hn; omega
  show (zaw fuel [(p.Rules.Pairs.length : Int)] _).bind _ = _
  rw [hw _ p.Rules.Pairs.length (by omega) (pf (b := p.Rules.Pairs.flatMap zdp ++ (encU p.Rules.Loads.length ++ (p.Rules.Loads.flatMap encL ++ (encU p.Rules.Caps.length ++ p.Rules.Caps.flatMap encC)))) (by unfold encP; simp only [List.append_assoc, List.nil_append]))]; refine (zhE (l := p.Rules.Pairs) (g := zdp) (pf (b := encU p.Rules.Loads.length ++ (p.Rules.Loads.flatMap encL ++ (encU p.Rules.Caps.length ++ p.Rules.Caps.flatMap encC))) (by unfold encP; simp only [List.append_assoc, List.nil_append])) (fun i next s hin hs => ?_)).trans ?_
  · have hc := zi2 (g.p _ (zby hin)); have a := hc.a; have b := hc.b; have c := hc.l; have d := hc.h; unfold zdp at hs ⊢; rw [← List.append_assoc, ← List.append_assoc] at hs ⊢; (have hs2 : (s ++ [(nth p.Rules.Pairs i).A, (nth p.Rules.Pairs i).B].flatMap encI ++ encU (zig (nth p.Rules.Pairs i).Offset)).length ≤ 65536 := by rw [List.length_append] at hs; omega); (have hs3 : (s ++ [(nth p.Rules.Pairs i).A, (nth p.Rules.Pairs i).B].flatMap encI).length ≤ 65536 := by rw [List.length_append] at hs2; omega); rw [zfN hf (fun n hn => by simp only [List.mem_cons, List.not_mem_nil, or_false] at hn; omega) hs3]
    show (za9 fuel _ _).bind _ = _
    rw [int_w hf hc.o hs2]
    show (zaw fuel _ _).bind _ = _
    rw [zfN hf (fun n hn => by simp only [List.mem_cons, List.not_mem_nil, or_false] at hn; omega) hs]
    rfl
  show (zaw fuel [(p.Rules.Loads.length : Int)] _).bind _ = _
  rw [hw _ p.Rules.Loads.length (by omega) (pf (b := p.Rules.Loads.flatMap encL ++ (encU p.Rules.Caps.length ++ p.Rules.Caps.flatMap encC)) (by unfold encP; simp only [List.append_assoc, List.nil_append]))]; refine (zhE (l := p.Rules.Loads) (g := encL) (pf (b := encU p.Rules.Caps.length ++ p.Rules.Caps.flatMap encC) (by unfold encP; simp only [List.append_assoc, List.nil_append])) (fun i next s hin hs => ?_)).trans ?_
  · have hc := loadR (g.l _ (zby hin)); have a := hc.a; have b := hc.b; have c := hc.l; have d := hc.h; have e := hc.w; rw [zfN hf (fun n hn => by simp only [List.mem_cons, List.not_mem_nil, or_false] at hn; omega) hs]
    rfl
  show (zaw fuel [(p.Rules.Caps.length : Int)] _).bind _ = _
  rw [hw _ p.Rules.Caps.length (by omega) (pf (b := p.Rules.Caps.flatMap encC) (by unfold encP; simp only [List.append_assoc, List.nil_append]))]; refine (zhE (l := p.Rules.Caps) (g := encC) (pf (b := []) (by unfold encP; simp only [List.append_assoc, List.nil_append, List.append_nil])) (fun i next s hin hs => ?_)).trans ?_
  · have hc := capR (g.c _ (zby hin)); have a := hc.a; have c := hc.l; have d := hc.h; have e := hc.m; rw [zfN hf (fun n hn => by simp only [List.mem_cons, List.not_mem_nil, or_false] at hn; omega) hs]
    rfl
  (have e : encP p = [] ++ encU p.Domains.length ++ p.Domains.flatMap encD ++ encU p.Rules.Pairs.length ++ p.Rules.Pairs.flatMap zdp ++ encU p.Rules.Loads.length ++ p.Rules.Loads.flatMap encL ++ encU p.Rules.Caps.length ++ p.Rules.Caps.flatMap encC := by unfold encP; simp only [List.append_assoc, List.nil_append])
  show (zbo ⟨⟨0⟩, _⟩).bind _ = _
  rw [← e]; unfold zbo
  show (grd (room ([] ++ encP p).length 1) _).bind _ = _
  rw [zbd (by rw [List.nil_append]; unfold room; omega)]
  rfl
theorem zje {x : GReader} {n : Nat} {rest : List Int} (hn : n < 2 ^ 63) (h : RdS x (encU n ++ rest)) : zad x = some ((n : Int), (0, x.at_ + ((encU n).length : Int))) := by
  have hg := zfs (most := 9) (by decide) (by decide) (by omega) hn h; unfold zad; rw [h.made, h.ok]
  show (zaA x 9).bind _ = _
  rw [show (9 : Int) = ((9 : Nat) : Int) from rfl, hg]
  show some (wI (((BitVec.ofNat 64 n).toNat : Nat) : Int), ((0 : Int), _)) = _
  rw [BitVec.toNat_ofNat, Nat.mod_eq_of_lt (by omega), zer (by omega)]; rfl
def sgF (v : BitVec 64) (a : Int) : Option (Dy (Int × Int) (Int × Int)) := bif decide ((((v &&& (1#64)).toNat : Nat) : Int) = (((1#64).toNat : Nat) : Int)) then some (Dy.ok (wI ((wI (0 - (wI (((v >>> 1).toNat : Nat) : Int)))) - 1), a)) else some (Dy.ok ((wI (((v >>> 1).toNat : Nat) : Int)), a))
theorem sg_m (a : Int) : sgF (BitVec.ofNat 64 1) a = some (Dy.ok (-1, a)) := by kernel_rfl
theorem sg_0 (a : Int) : sgF (BitVec.ofNat 64 0) a = some (Dy.ok (0, a)) := by kernel_rfl
theorem sg_1 (a : Int) : sgF (BitVec.ofNat 64 2) a = some (Dy.ok (1, a)) := by kernel_rfl
theorem int_r {x : GReader} {n : Int} {rest : List Int} (hn : -1 ≤ n ∧ n ≤ 1) (h : RdS x (encU (zig n) ++ rest)) : zba x = some (n, (0, x.at_ + ((encU (zig n)).length : Int))) := by
  have hz := ziv hn; have hg := zfs (most := 10) (by decide) (by decide) (by omega) (by omega) h; unfold zba; rw [h.made, h.ok]
  show (zaU x).bind _ = _
  have hs : zaU x = some (Dy.ok (n, x.at_ + ((encU (zig n)).length : Int))) := by
    unfold zaU; rw [show (10 : Int) = ((10 : Nat) : Int) from rfl, hg]; (have h3 : n = -1 ∨ n = 0 ∨ n = 1 := by omega)
    show sgF (BitVec.ofNat 64 (zig n)) _ = _
    rcases h3 with rfl | rfl | rfl
    · exact sg_m _
    · exact sg_0 _
    · exact sg_1 _
  rw [hs]
  rfl
theorem ziM {x : GReader} {n : Nat} {lim : Int} {rest : List Int} (hn : (n : Int) ≤ lim) (hl : lim ≤ 1000000) (h : RdS x (encU n ++ rest)) : zaz x lim = some ((n : Int), (0, x.at_ + ((encU n).length : Int))) := by
  have hg := zfs (most := 9) (by decide) (by decide) (by omega) (by omega) h; unfold zaz; rw [h.made, h.ok]
  show (zaX x lim).bind _ = _
  have hs : zaX x lim = some (Dy.ok ((n : Int), x.at_ + ((encU n).length : Int))) := by
    unfold zaX; rw [show (9 : Int) = ((9 : Nat) : Int) from rfl, hg]
    show (bif decide (lim < 0) then _ else bif decide (lim < wI (((BitVec.ofNat 64 n).toNat : Nat) : Int)) then _ else some (Dy.ok (wI (((BitVec.ofNat 64 n).toNat : Nat) : Int), _))) = _
    rw [BitVec.toNat_ofNat, Nat.mod_eq_of_lt (by omega), zer (by omega), decide_eq_false (by omega), cond_false, decide_eq_false (by omega), cond_false]; rfl
  rw [hs]
  rfl
theorem zd9 {x : GReader} {n : Int} {rest : List Int} (hn : 0 ≤ n ∧ n ≤ 9223372036854775807) (h : RdS x (encI n ++ rest)) : zad x = some (n, (0, x.at_ + ((encI n).length : Int))) := by
  have := zje (n := n.toNat) (by omega) h; rw [show ((n.toNat : Nat) : Int) = n by omega] at this; exact this
theorem zey {α β : Type} (g : α → List β) (x : α) (l : List α) : (x :: l).flatMap g = g x ++ l.flatMap g := List.flatMap_cons
theorem zjf {x : GReader} {c : GPair} {rest : List Int} (hc : PairR c) (h : RdS x (zdp c ++ rest)) : zca x = some (c, (0, x.at_ + ((zdp c).length : Int))) := by
  have a := hc.a; have b := hc.b; have o := hc.o; have l := hc.l; have hh := hc.h; unfold zdp at h ⊢; simp only [zey, List.flatMap_nil, List.append_nil, List.append_assoc] at h ⊢; have h2 := h.adv; have h3 := h2.adv; have h4 := h3.adv; have h5 := h4.adv; unfold zca; rw [zd9 (by omega) h]
  show (zad (adv x _)).bind _ = _
  rw [zd9 (by omega) h2]
  show (zba (adv (adv x _) _)).bind _ = _
  rw [int_r o h3]
  show (zad (adv (adv (adv x _) _) _)).bind _ = _
  rw [zd9 (by omega) h4]
  show (zad (adv (adv (adv (adv x _) _) _) _)).bind _ = _
  rw [zd9 (by omega) h5]
  show some (c, ((0 : Int), x.at_ + ((encI c.A).length : Int) + ((encI c.B).length : Int) + ((encU (zig c.Offset)).length : Int) + ((encI c.Low).length : Int) + ((encI c.High).length : Int))) = _
  congr 3
  simp only [List.length_append]; omega
theorem zju {x : GReader} {c : GLoad} {rest : List Int} (hc : LoadR c) (h : RdS x (encL c ++ rest)) : zb7 x = some (c, (0, x.at_ + ((encL c).length : Int))) := by
  have a := hc.a; have b := hc.b; have o := hc.w; have l := hc.l; have hh := hc.h; unfold encL at h ⊢; simp only [zey, List.flatMap_nil, List.append_nil, List.append_assoc] at h ⊢; have h2 := h.adv; have h3 := h2.adv; have h4 := h3.adv; have h5 := h4.adv; unfold zb7; rw [zd9 (by omega) h]
  show (zad (adv x _)).bind _ = _
  rw [zd9 (by omega) h2]
  show (zad (adv (adv x _) _)).bind _ = _
  rw [zd9 (by omega) h3]
  show (zad (adv (adv (adv x _) _) _)).bind _ = _
  rw [zd9 (by omega) h4]
  show (zad (adv (adv (adv (adv x _) _) _) _)).bind _ = _
  rw [zd9 (by omega) h5]
  show some (c, ((0 : Int), x.at_ + ((encI c.To).length : Int) + ((encI c.From).length : Int) + ((encI c.Weight).length : Int) + ((encI c.Low).length : Int) + ((encI c.High).length : Int))) = _
  congr 3
  simp only [List.length_append]; omega
theorem cap_r {x : GReader} {c : GCap} {rest : List Int} (hc : CapR c) (h : RdS x (encC c ++ rest)) : zcj x = some (c, (0, x.at_ + ((encC c).length : Int))) := by
  have a := hc.a; have o := hc.m; have l := hc.l; have hh := hc.h; unfold encC at h ⊢; simp only [zey, List.flatMap_nil, List.append_nil, List.append_assoc] at h ⊢; have h2 := h.adv; have h3 := h2.adv; have h4 := h3.adv; unfold zcj; rw [zd9 (by omega) h]
  show (zad (adv x _)).bind _ = _
  rw [zd9 (by omega) h2]
  show (zad (adv (adv x _) _)).bind _ = _
  rw [zd9 (by omega) h3]
  show (zad (adv (adv (adv x _) _) _)).bind _ = _
  rw [zd9 (by omega) h4]
  show some (c, ((0 : Int), x.at_ + ((encI c.Station).length : Int) + ((encI c.Max).length : Int) + ((encI c.Low).length : Int) + ((encI c.High).length : Int))) = _
  congr 3
  simp only [List.length_append]; omega
theorem zjl {s k : Nat} (hs : s < 2 ^ 50) (hk : k ≤ 49) : decide (andK .i64 (shrK .i64 (s : Int) (k : Int)) 1 = 1) = s.testBit k := by
  have e1 : shrK .i64 (s : Int) (k : Int) = ((s >>> k : Nat) : Int) := by
    show (s : Int).fdiv (2 ^ (min ((k : Int)).toNat 64)) = _
    rw [show min ((k : Int)).toNat 64 = k by omega, Nat.shiftRight_eq_div_pow, show ((2 : Int) ^ k) = ((2 ^ k : Nat) : Int) by rw [Int.natCast_pow]; rfl]; rw [Int.fdiv_eq_ediv_of_nonneg _ (Int.natCast_nonneg _)]; exact (Int.natCast_ediv _ _).symm
  (have hlt : s >>> k < 2 ^ 50 := by rw [Nat.shiftRight_eq_div_pow]; exact Nat.lt_of_le_of_lt (Nat.div_le_self _ _) hs); rw [e1]; generalize hz : s >>> k = z at hlt
  have e2 : andK .i64 (z : Int) 1 = ((z % 2 : Nat) : Int) := by
    show IntKind.i64.wrap (((BitVec.ofInt 64 (z : Int) &&& BitVec.ofInt 64 ((1 : Nat) : Int)).toNat : Nat) : Int) = _
    rw [BitVec.ofInt_natCast, BitVec.ofInt_natCast, BitVec.toNat_and, BitVec.toNat_ofNat, BitVec.toNat_ofNat, Nat.mod_eq_of_lt (show z < 2 ^ 64 by omega), Nat.mod_eq_of_lt (show 1 < 2 ^ 64 by decide), Nat.and_one_is_mod]; exact zer (by omega)
  rw [e2, Nat.testBit, hz, Nat.one_and_eq_mod_two]; have := Nat.mod_lt z (show 0 < 2 by decide); generalize z % 2 = y at this ⊢; (have h : y = 0 ∨ y = 1 := by omega); rcases h with rfl | rfl <;> rfl
def chR (s : Nat) : Nat → Int → List Int
  | 0, _ => []
  | m + 1, c => if s.testBit (c - 2).toNat then c :: chR s m (c + 1) else chR s m (c + 1)
theorem chR_mem {s : Nat} : ∀ {m : Nat} {c : Int} {y : Int}, y ∈ chR s m c ↔ (c ≤ y ∧ y < c + m) ∧ s.testBit (y - 2).toNat = true
  | 0, c, y => by simp [chR]; omega
  | m + 1, c, y => by
    unfold chR; have ih := @chR_mem s m (c + 1) y
    split
    · rename_i h; rw [List.mem_cons, ih]; constructor
      · rintro (rfl | ⟨h1, h2⟩)
        · exact ⟨by omega, h⟩
        · exact ⟨by omega, h2⟩
      · rintro ⟨h1, h2⟩; rcases Int.lt_or_eq_of_le h1.1 with h3 | h3
        · exact .inr ⟨by omega, h2⟩
        · exact .inl h3.symm
    · rename_i h; rw [ih]; constructor
      · rintro ⟨h1, h2⟩; exact ⟨by omega, h2⟩
      · rintro ⟨h1, h2⟩; refine ⟨⟨?_, by omega⟩, h2⟩; rcases Int.lt_or_eq_of_le h1.1 with h3 | h3
        · omega
        · rw [h3] at h; exact absurd h2 h
theorem zeN {s : Nat} : ∀ {m : Nat} {c : Int}, (chR s m c).Pairwise (· < ·)
  | 0, _ => List.Pairwise.nil
  | m + 1, c => by
    unfold chR
    split
    · exact List.pairwise_cons.2 ⟨fun y hy => by have := (chR_mem.1 hy).1; omega, zeN⟩
    · exact zeN
theorem zfq : ∀ {a b : List Int}, a.Pairwise (· < ·) → b.Pairwise (· < ·) → (∀ x, x ∈ a ↔ x ∈ b) → a = b
  | [], [], _, _, _ => rfl
  | [], y :: b, _, _, h => absurd ((h y).2 (List.mem_cons_self ..)) (by simp)
  | x :: a, [], _, _, h => absurd ((h x).1 (List.mem_cons_self ..)) (by simp)
  | x :: a, y :: b, ha, hb, h => by
    have h1 := List.pairwise_cons.1 ha; have h2 := List.pairwise_cons.1 hb
    have e : x = y := by
      rcases List.mem_cons.1 ((h x).1 (List.mem_cons_self ..)) with e | hx
      · exact e
      · rcases List.mem_cons.1 ((h y).2 (List.mem_cons_self ..)) with e | hy
        · exact e.symm
        · have := h1.1 y hy; have := h2.1 x hx; omega
    subst e; rw [zfq h1.2 h2.2 fun z => ?_]; constructor
    · intro hz; rcases List.mem_cons.1 ((h z).1 (List.mem_cons_of_mem _ hz)) with e | h3
      · have := h1.1 z hz; omega
      · exact h3
    · intro hz; rcases List.mem_cons.1 ((h z).2 (List.mem_cons_of_mem _ hz)) with e | h3
      · have := h2.1 z hz; omega
      · exact h3
theorem zhU {l : List Int} (hc : ∀ c ∈ l, 2 ≤ c ∧ c ≤ 51) (hs : l.Pairwise (· < ·)) : chR (zeL l) 50 2 = l := by
  refine zfq zeN hs fun y => ?_; rw [chR_mem, zhV, List.any_eq_true]; constructor
  · rintro ⟨h1, c, h2, h3⟩; have := hc c h2; have := of_decide_eq_true h3
    rwa [show y = c by omega]
  · intro hy; have := hc y hy; exact ⟨by omega, y, hy, decide_eq_true rfl⟩
theorem dom_r {fuel : Nat} {x : GReader} {d : GDomain} {rest : List Int} (hf : 100 ≤ fuel) (hd : okD d = true) (h : RdS x (encD d ++ rest)) : zbS fuel x = some (d, (0, x.at_ + ((encD d).length : Int))) := by
  have a := zhH hd; have b := zgs (zga hd)
  have hs : d.Channels.Pairwise (· < ·) := by
    have h2 := (zgv (lt := fun a b : Int => decide (a < b)) (fun a b c x y => by rw [decide_eq_true_eq] at *; omega)).1 (zbE (zbE hd)); exact h2.imp of_decide_eq_true
  unfold encD at h ⊢; simp only [zey, List.flatMap_nil, List.append_nil, List.append_assoc] at h ⊢; have h2 := h.adv; unfold zbS; rw [zd9 (by omega) h]
  show (zad (adv x _)).bind _ = _
  rw [zd9 (by omega) h2]; simp only [zaW, Option.bind_some]; rw [decide_eq_false (show ¬ (1125899906842624 : Int) ≤ ((zeL d.Channels : Nat) : Int) by omega), cond_false]; refine zeE (σ := Int × Int × List Int) (I := fun s => (2 ≤ s.1 ∧ s.1 ≤ 52) ∧ s.2.1 = d.Station ∧ s.2.2 ++ chR (zeL d.Channels) (52 - s.1).toNat s.1 = d.Channels) (μ := fun s => (52 - s.1).toNat) (post := fun o => o = some (d, ((0 : Int), x.at_ + (((encI d.Station ++ encI ((zeL d.Channels : Nat) : Int)).length : Nat) : Int)))) ⟨by omega, rfl, by rw [List.nil_append]; exact zhU (zga hd) hs⟩ (by show (52 - (2 : Int)).toNat < fuel; omega) ?_; rintro ⟨c, st, l⟩ next ⟨hc, rfl, hl⟩ hn; dsimp only at hc hl hn ⊢; by_cases h51 : c ≤ 51
  · rw [decide_eq_true h51, cond_true, zer (by omega), zbd (by omega), show c - 2 = (((c - 2).toNat : Nat) : Int) by omega, zjl b (by omega), zer (by omega)]; (have hm : (52 - c).toNat = (52 - (c + 1)).toNat + 1 := by omega); rw [hm] at hl; unfold chR at hl
    cases hb : (zeL d.Channels).testBit (c - 2).toNat
    · rw [hb, if_neg (by decide)] at hl; exact hn _ ⟨by omega, rfl, hl⟩ (by dsimp only; omega)
    · rw [hb, if_pos rfl] at hl
      have hlen : (l ++ [c]).length ≤ 100 := by
        have h1 := congrArg List.length hl; have h2 := zhw hd; rw [List.length_append, List.length_cons] at h1; rw [List.length_append, List.length_singleton]; omega
      rw [cond_true, zbd (by unfold room; omega)]; exact hn _ ⟨by omega, rfl, by rw [List.append_assoc]; exact hl⟩ (by dsimp only; omega)
  · rw [decide_eq_false h51, cond_false]; (have hm : (52 - c).toNat = 0 := by omega); rw [hm] at hl; unfold chR at hl; rw [List.append_nil] at hl; subst hl
    show some (d, ((0 : Int), x.at_ + ((encI d.Station).length : Int) + ((encI ((zeL d.Channels : Nat) : Int)).length : Int))) = _
    rw [List.length_append]
    congr 3
    omega
theorem zf3 {α : Type} [Inhabited α] {read : GReader → Option (α × (Int × Int))} {enc : α → List Int} {l : List α} {x : GReader} {lim : Int} {sz : Nat} {rest : List Int} (hz : sz ≤ 100) (hr : ∀ v ∈ l, ∀ (x : GReader) (rest : List Int), RdS x (enc v ++ rest) → read x = some (v, (0, x.at_ + ((enc v).length : Int)))) (hl : (l.length : Int) ≤ lim) (hm : lim ≤ 5000) (h : RdS x (encU l.length ++ (l.flatMap enc ++ rest))) :
    ((zaz x lim).bind fun r11 =>
      zaW (fun (s4 : List α × Int × Int) => some (s4.1, (s4.2.1, s4.2.2)))
      (fun k4 =>
        grd (r11.1 ≤ 9223372036854775807) <|
        zal (fun (i_9 : Nat) (next8 : (List α × Int × Int) → Option (List α × (Int × Int))) (s8 : List α × Int × Int) =>
          (read (GReader.mk (Gfault.mk s8.2.1) x.made x.in_ s8.2.2)).bind fun r16 =>
          (bif decide (¬ (zau (GReader.mk (Gfault.mk r16.2.1) x.made x.in_ r16.2.2)) = 0) then
            some ([], (r16.2.1, r16.2.2))
            else
            grd (room (s8.1 ++ [r16.1]).length sz) <|
            next8 ((s8.1 ++ [r16.1]), r16.2.1, r16.2.2)))
        (fun (s8 : List α × Int × Int) =>
          k4 (s8.1, s8.2.1, s8.2.2)) (r11.1.toNat - 0) 0 ([], r11.2.1, r11.2.2))) = some (l, (0, x.at_ + ((encU l.length ++ l.flatMap enc).length : Int))) := by
  rw [ziM hl (by omega) h]
  show grd ((l.length : Int) ≤ 9223372036854775807) (zal _ (fun s8 : List α × Int × Int => some (s8.1, (s8.2.1, s8.2.2))) (((l.length : Int)).toNat - 0) 0 ([], (0 : Int), x.at_ + ((encU l.length).length : Int))) = _
  rw [zbd (by omega), show ((l.length : Int)).toNat - 0 = l.length by omega]
  have key : ∀ m i (a : Int), i + m = l.length → RdS ⟨⟨0⟩, x.made, x.in_, a⟩ ((l.drop i).flatMap enc ++ rest) →
      zal (fun (i_9 : Nat) (next8 : (List α × Int × Int) → Option (List α × (Int × Int))) (s8 : List α × Int × Int) =>
          (read (GReader.mk (Gfault.mk s8.2.1) x.made x.in_ s8.2.2)).bind fun r16 =>
          (bif decide (¬ (zau (GReader.mk (Gfault.mk r16.2.1) x.made x.in_ r16.2.2)) = 0) then
            some ([], (r16.2.1, r16.2.2))
            else
            grd (room (s8.1 ++ [r16.1]).length sz) <|
            next8 ((s8.1 ++ [r16.1]), r16.2.1, r16.2.2))) (fun s8 : List α × Int × Int => some (s8.1, (s8.2.1, s8.2.2))) m i (l.take i, 0, a) = some (l, (0, a + (((l.drop i).flatMap enc).length : Int))) := by
    intro m
    induction m with
    | zero =>
      intro i a e _; rw [List.drop_eq_nil_of_le (by omega), List.take_of_length_le (by omega)]
      show some (l, ((0 : Int), a)) = some (l, ((0 : Int), a + 0))
      rw [Int.add_zero]
    | succ m ih =>
      intro i a e hR; (have hi : i < l.length := by omega); rw [List.drop_eq_getElem_cons hi, List.flatMap_cons, ← zbe hi] at hR ⊢; rw [List.append_assoc] at hR; have h1 := hr _ (zby hi) _ _ hR
      show (read _).bind _ = _
      rw [h1]
      show (bif decide (¬ (zau ⟨⟨0⟩, x.made, x.in_, _⟩) = 0) then _ else grd (room (l.take i ++ [nth l i]).length sz) (zal _ _ m (i + 1) (l.take i ++ [nth l i], (0 : Int), a + ((enc (nth l i)).length : Int)))) = _
      have e1 : ∀ y : Int, zau ⟨⟨0⟩, x.made, x.in_, y⟩ = 0 := fun y => by
        unfold zau zaY; rw [h.made]; rfl
      rw [e1, decide_eq_false (by simp), cond_false, ← zek hi, zbd (by
        rw [List.length_take]; unfold room; have : min (i + 1) l.length * sz ≤ 5000 * 100 := Nat.mul_le_mul (by omega) hz
        omega)]
      rw [ih (i + 1) (a + ((enc (nth l i)).length : Int)) (by omega) hR.adv, List.length_append]
      congr 3
      omega
  have := key l.length 0 (x.at_ + ((encU l.length).length : Int)) (by omega) (by rw [List.drop_zero]; exact h.adv); rw [List.drop_zero, List.take_zero] at this; rw [this, List.length_append]
  congr 3
  omega
theorem zh2 {fuel : Nat} {p : GProblem} (hf : 100 ≤ fuel) (hp : okP p = true) : zcF fuel (encP p) = some (p, 0) := by
  obtain ⟨hD, hR, hi, _⟩ := zcZ hp; have hl := zeI hD hi; have g := hR.g; have n1 := g.np; have n2 := g.nl; have n3 := g.nc; have hlen := zgQ hp; unfold zcF; rw [decide_eq_false (by omega), cond_false]
  have hr : zdj (encP p) = some (some ⟨⟨0⟩, true, encP p, 0⟩) := by
    unfold zdj; rw [List.nil_append, zbd (by unfold room; omega)]
  rw [hr]; simp only [Option.bind_some, Option.isSome_some, cond_true, Option.getD_some]; have h0 : RdS ⟨⟨0⟩, true, encP p, 0⟩ (encU p.Domains.length ++ (p.Domains.flatMap encD ++ (encU p.Rules.Pairs.length ++ (p.Rules.Pairs.flatMap zdp ++ (encU p.Rules.Loads.length ++ (p.Rules.Loads.flatMap encL ++ (encU p.Rules.Caps.length ++ p.Rules.Caps.flatMap encC))))))) := ⟨rfl, rfl, Int.le_refl _, rfl, by show 0 + _ = _; rw [Nat.zero_add]; rfl⟩; have h1 := h0; rw [← List.append_assoc] at h1; have h1 := h1.adv; have h2 := h1; rw [← List.append_assoc] at h2; have h2 := h2.adv; have h3 := h2; rw [← List.append_assoc] at h3; have h3 := h3.adv; have h4 := h3; rw [← List.append_nil (encU p.Rules.Caps.length ++ p.Rules.Caps.flatMap encC)] at h4; have h5 := h4.adv; rw [List.append_assoc] at h4
  show (zaF fuel ⟨⟨0⟩, true, encP p, 0⟩ 512).bind _ = _
  rw [show zaF fuel ⟨⟨0⟩, true, encP p, 0⟩ 512 = _ from zf3 (enc := encD) (by decide) (fun v hv x rest h => dom_r hf (List.all_eq_true.1 hD v hv) h) (by omega) (by decide) h0]; rw [Option.bind_some]
  show (zaO (adv ⟨⟨0⟩, true, encP p, 0⟩ (encU p.Domains.length ++ p.Domains.flatMap encD).length) 4096).bind _ = _
  rw [show zaO (adv ⟨⟨0⟩, true, encP p, 0⟩ (encU p.Domains.length ++ p.Domains.flatMap encD).length) 4096 = _ from zf3 (enc := zdp) (by decide) (fun v hv x rest h => zjf (zi2 (g.p v hv)) h) (by omega) (by decide) h1]; rw [Option.bind_some]
  show (zaM (adv (adv ⟨⟨0⟩, true, encP p, 0⟩ (encU p.Domains.length ++ p.Domains.flatMap encD).length) (encU p.Rules.Pairs.length ++ p.Rules.Pairs.flatMap zdp).length) 1024).bind _ = _
  rw [show zaM (adv (adv ⟨⟨0⟩, true, encP p, 0⟩ (encU p.Domains.length ++ p.Domains.flatMap encD).length) (encU p.Rules.Pairs.length ++ p.Rules.Pairs.flatMap zdp).length) 1024 = _ from zf3 (enc := encL) (by decide) (fun v hv x rest h => zju (loadR (g.l v hv)) h) (by omega) (by decide) h2]; rw [Option.bind_some]
  show (zaT (adv (adv (adv ⟨⟨0⟩, true, encP p, 0⟩ (encU p.Domains.length ++ p.Domains.flatMap encD).length) (encU p.Rules.Pairs.length ++ p.Rules.Pairs.flatMap zdp).length) (encU p.Rules.Loads.length ++ p.Rules.Loads.flatMap encL).length) 1024).bind _ = _
  rw [show zaT (adv (adv (adv ⟨⟨0⟩, true, encP p, 0⟩ (encU p.Domains.length ++ p.Domains.flatMap encD).length) (encU p.Rules.Pairs.length ++ p.Rules.Pairs.flatMap zdp).length) (encU p.Rules.Loads.length ++ p.Rules.Loads.flatMap encL).length) 1024 = _ from zf3 (enc := encC) (by decide) (fun v hv x rest h => cap_r (capR (g.c v hv)) h) (by omega) (by decide) h4]
  have he : za3 (adv (adv (adv (adv ⟨⟨0⟩, true, encP p, 0⟩ (encU p.Domains.length ++ p.Domains.flatMap encD).length) (encU p.Rules.Pairs.length ++ p.Rules.Pairs.flatMap zdp).length) (encU p.Rules.Loads.length ++ p.Rules.Loads.flatMap encL).length) (encU p.Rules.Caps.length ++ p.Rules.Caps.flatMap encC).length) = 0 := by
    have k1 := h5.len; have k2 := h5.pos; unfold za3; rw [show zaY (adv (adv (adv (adv ⟨⟨0⟩, true, encP p, 0⟩ (encU p.Domains.length ++ p.Domains.flatMap encD).length) (encU p.Rules.Pairs.length ++ p.Rules.Pairs.flatMap zdp).length) (encU p.Rules.Loads.length ++ p.Rules.Loads.flatMap encL).length) (encU p.Rules.Caps.length ++ p.Rules.Caps.flatMap encC).length) = true from rfl]; rw [decide_eq_false (p := _ < _) (by rw [List.length_nil] at k1; omega), Bool.and_false]; rfl
  rw [Option.bind_some]
  show zaW _ (fun k4 => bif decide (¬ za3 (adv (adv (adv (adv ⟨⟨0⟩, true, encP p, 0⟩ _) _) _) _) = 0) then _ else (zbn p).bind _) = _
  rw [he, zeH, hp]; rfl
theorem loopI {σ ρ : Type} {f : Nat → (σ → ρ) → σ → ρ} {k : σ → ρ} {n : Nat} {s : σ} (I : Nat → σ → Prop) (h0 : I 0 s) (hf : ∀ i next s, i < n → I i s → ∃ s', I (i + 1) s' ∧ f i next s = next s') : ∃ s', I n s' ∧ zal f k n 0 s = k s' := by
  have key : ∀ m i s, i + m = n → I i s → ∃ s', I n s' ∧ zal f k m i s = k s' := by
    intro m
    induction m with
    | zero => intro i s e h; exact ⟨s, by rw [← e]; exact h, rfl⟩
    | succ m ih =>
      intro i s e h; obtain ⟨s1, h1, e1⟩ := hf i (zal f k m (i + 1)) s (by omega) h; obtain ⟨s2, h2, e2⟩ := ih (i + 1) s1 (by omega) h1; exact ⟨s2, h2, Eq.trans e1 e2⟩
  exact key n 0 s (by omega) h0
theorem zgU {α : Type} [Inhabited α] {l s : List α} {i : Nat} (hi : i < l.length) (h : s.Sublist (l.take i)) : s.Sublist (l.take (i + 1)) ∧ (s ++ [nth l i]).Sublist (l.take (i + 1)) := by
  rw [zek hi]; exact ⟨h.trans (List.sublist_append_left _ _), h.append (List.Sublist.refl _)⟩
theorem zho {α : Type} {l s : List α} {i : Nat} (h : s.Sublist (l.take i)) : s.length ≤ l.length := by
  have := h.length_le; rw [List.length_take] at this; omega
def capQ (r : GRules) (at_ more : Int) (i : Nat) : Prop := (i : Int) = at_ ∧ (nth r.Caps i).Max + more ≤ 1099511627776 ∧ (i + 1 = r.Caps.length ∨ (nth r.Caps (i + 1)).Station ≠ (nth r.Caps i).Station)
open Classical in
noncomputable def capW (r : GRules) (at_ more : Int) (i : Nat) : GCap := if capQ r at_ more i then ⟨(nth r.Caps i).Station, (nth r.Caps i).Max + more, (nth r.Caps i).Low, (nth r.Caps i).High⟩ else nth r.Caps i
theorem ziZ {σ ρ : Type} (I : Nat → σ → Prop) (Q : ρ → Prop) {f : Nat → (σ → ρ) → σ → ρ} {k : σ → ρ} {n : Nat} {s : σ} (h0 : I 0 s) (hf : ∀ i next s, i < n → I i s → ∃ s', I (i + 1) s' ∧ f i next s = next s') (hk : ∀ s, I n s → Q (k s)) : Q (zal f k n 0 s) := by
  obtain ⟨s', h, e⟩ := loopI (k := k) I h0 hf; rw [e]; exact hk s' h
theorem zhf {r : GRules} {at_ more : Int} (hr : RulesP r) (hm : 0 ≤ more ∧ more ≤ 1073741824) : ∃ r', zcK r at_ more = some r' ∧ r'.Pairs.Sublist r.Pairs ∧ r'.Loads.Sublist r.Loads ∧ r'.Caps = (List.range r.Caps.length).map (capW r at_ more) := by
  have n1 := hr.g.np; have n2 := hr.g.nl; have n3 := hr.g.nc; unfold zcK; simp only [zaW]; refine ziZ (σ := List GPair × List GLoad × List GCap) (fun i s => s.1.Sublist (r.Pairs.take i) ∧ s.2 = ([], [])) (fun o : Option GRules => ∃ r' : GRules, o = some r' ∧ r'.Pairs.Sublist r.Pairs ∧ r'.Loads.Sublist r.Loads ∧ r'.Caps = (List.range r.Caps.length).map (capW r at_ more)) ⟨List.Sublist.refl _, rfl⟩ (fun i next s hi hI => ?_) (fun s1 h1 => ?_)
  · have h := zgU (show i < r.Pairs.length by omega) hI.1; have hl := zho hI.1
    cases decide (¬ (i : Int) = at_)
    · exact ⟨s, ⟨h.1, hI.2⟩, rfl⟩
    · refine ⟨(s.1 ++ [nth r.Pairs i], s.2.1, s.2.2), ⟨h.2, hI.2⟩, ?_⟩; rw [cond_true, zbd (by unfold room; rw [List.length_append]; simp; omega)]
  obtain ⟨P1, s1⟩ := s1; obtain ⟨h1, rfl⟩ := h1
  have h1 : P1.Sublist r.Pairs := by
    have h1 : P1.Sublist (r.Pairs.take (r.Pairs.length - 0)) := h1
    rwa [Nat.sub_zero, List.take_length] at h1
  refine ziZ (σ := List GPair × List GLoad × List GCap) (fun i s => s.1 = P1 ∧ s.2.1.Sublist (r.Loads.take i) ∧ s.2.2 = []) (fun o : Option GRules => ∃ r' : GRules, o = some r' ∧ r'.Pairs.Sublist r.Pairs ∧ r'.Loads.Sublist r.Loads ∧ r'.Caps = (List.range r.Caps.length).map (capW r at_ more)) ⟨rfl, List.Sublist.refl _, rfl⟩ (fun i next s hi hI => ?_) (fun s2 h2 => ?_)
  · have h := zgU (show i < r.Loads.length by omega) hI.2.1; have hl := zho hI.2.1
    cases decide (¬ (i : Int) = at_)
    · exact ⟨s, ⟨hI.1, h.1, hI.2.2⟩, rfl⟩
    · refine ⟨(s.1, s.2.1 ++ [nth r.Loads i], s.2.2), ⟨hI.1, h.2, hI.2.2⟩, ?_⟩; rw [cond_true, zbd (by unfold room; rw [List.length_append]; simp; omega)]
  obtain ⟨P2, L2, C2⟩ := s2; obtain ⟨rfl, h2, rfl⟩ := h2
  have h2' : L2.Sublist r.Loads := by
    have h2 : L2.Sublist (r.Loads.take (r.Loads.length - 0)) := h2
    rwa [Nat.sub_zero, List.take_length] at h2
  refine ziZ (σ := List GPair × List GLoad × List GCap) (fun i s => s.1 = P2 ∧ s.2.1 = L2 ∧ s.2.2 = (List.range i).map (capW r at_ more)) (fun o : Option GRules => ∃ r' : GRules, o = some r' ∧ r'.Pairs.Sublist r.Pairs ∧ r'.Loads.Sublist r.Loads ∧ r'.Caps = (List.range r.Caps.length).map (capW r at_ more)) ⟨rfl, rfl, rfl⟩ (fun i next s hi hI => ?_) (fun s3 h3 => ?_)
  · obtain ⟨P3, L3, C3⟩ := s; obtain ⟨rfl, rfl, rfl⟩ := hI; refine ⟨(_, _, (List.range (i + 1)).map (capW r at_ more)), ⟨rfl, rfl, rfl⟩, ?_⟩; have hmx := (capR (hr.g.c _ (zby (show i < r.Caps.length by omega)))).m; (have e : (List.range (i + 1)).map (capW r at_ more) = (List.range i).map (capW r at_ more) ++ [capW r at_ more i] := by rw [List.range_succ, List.map_append]; rfl); (have hroom : ∀ c : GCap, room ((List.range i).map (capW r at_ more) ++ [c]).length 32 := fun c => by unfold room; rw [List.length_append]; simp; omega); rw [e]; dsimp only; (have yes : capQ r at_ more i → capW r at_ more i = ⟨(nth r.Caps i).Station, (nth r.Caps i).Max + more, (nth r.Caps i).Low, (nth r.Caps i).High⟩ := fun h => by unfold capW; rw [if_pos h]); (have no : ¬ capQ r at_ more i → capW r at_ more i = nth r.Caps i := fun h => by unfold capW; rw [if_neg h]); rw [zer (by omega)]; by_cases a : (i : Int) = at_
    · rw [decide_eq_true a, cond_true]; by_cases b : (nth r.Caps i).Max + more ≤ 1099511627776
      · rw [decide_eq_true b, cond_true]; by_cases c : (i : Int) + 1 = (r.Caps.length : Int)
        · rw [decide_eq_true c, cond_true, cond_true, zbd (hroom _), yes ⟨a, b, .inl (by omega)⟩]
        · rw [decide_eq_false c, cond_false, zbd ⟨by omega, by omega⟩]; by_cases d : (nth r.Caps (i + 1)).Station = (nth r.Caps i).Station
          · rw [decide_eq_false (fun h => h d), cond_false, zbd (hroom _), no fun h => h.2.2.elim (fun h => by omega) (fun h => h d)]
          · rw [decide_eq_true d, cond_true, zbd (hroom _), yes ⟨a, b, .inr d⟩]
      · rw [decide_eq_false b, cond_false, cond_false, zbd (hroom _), no fun h => b h.2.1]
    · rw [decide_eq_false a, cond_false, cond_false, zbd (hroom _), no fun h => a h.1]
  obtain ⟨P3, L3, C3⟩ := s3; obtain ⟨rfl, rfl, rfl⟩ := h3; exact ⟨_, rfl, h1, h2', by rw [Nat.sub_zero]⟩
theorem zf4 (r : GRules) (at_ more : Int) (i : Nat) : (capW r at_ more i).Station = (nth r.Caps i).Station := by unfold capW; split <;> rfl
theorem zf7 (r : GRules) (at_ more : Int) (i : Nat) : (capW r at_ more i).Low = (nth r.Caps i).Low := by unfold capW; split <;> rfl
theorem zfo (r : GRules) (at_ more : Int) (i : Nat) : (capW r at_ more i).High = (nth r.Caps i).High := by unfold capW; split <;> rfl
theorem zgX {r : GRules} {at_ more : Int} (hm : 0 ≤ more) (i : Nat) : (nth r.Caps i).Max ≤ (capW r at_ more i).Max := by
  unfold capW; split
  · dsimp only; omega
  · exact Int.le_refl _
theorem zha {r : GRules} {at_ more : Int} (hm : 0 ≤ more) {i : Nat} (h : za8 (nth r.Caps i) = true) : za8 (capW r at_ more i) = true := by
  unfold capW; split
  · rename_i q; have hmx := (capR h).m; exact zda (zda (zbA (zbA h)) (zda (decide_eq_true (by dsimp only; omega)) (decide_eq_true q.2.1))) (zbE h)
  · exact h
theorem ziE {a b : GCap} : lexL (capL a) (capL b) = true ↔ a.Station < b.Station ∨ (a.Station = b.Station ∧ (a.Max < b.Max ∨ (a.Max = b.Max ∧ lexL [a.Low, a.High] [b.Low, b.High] = true))) := by
  unfold capL; rw [zfi, zfi]
theorem zhW {r : GRules} {at_ more : Int} (hm : 0 ≤ more) {i : Nat} (h0 : 0 < i) (hi : i < r.Caps.length) (h : lexL (capL (nth r.Caps (i - 1))) (capL (nth r.Caps i)) = true) : lexL (capL (capW r at_ more (i - 1))) (capL (capW r at_ more i)) = true := by
  have hmx := zgX (r := r) (at_ := at_) hm i; rw [ziE] at h ⊢; rw [zf4, zf4, zf7, zf7, zfo, zfo]; by_cases q : capQ r at_ more (i - 1)
  · rcases h with h | ⟨h, _⟩
    · exact .inl h
    · have := q.2.2; rw [show i - 1 + 1 = i by omega] at this; rcases this with h1 | h1
      · omega
      · exact absurd h.symm h1
  · rw [show capW r at_ more (i - 1) = nth r.Caps (i - 1) by unfold capW; rw [if_neg q]]; rcases h with h | ⟨h, h1 | ⟨h1, h2⟩⟩
    · exact .inl h
    · exact .inr ⟨h, .inl (by omega)⟩
    · refine .inr ⟨h, ?_⟩; rcases Int.lt_or_eq_of_le hmx with h3 | h3
      · exact .inl (by omega)
      · exact .inr ⟨by omega, h2⟩
theorem zev {α : Type} [Inhabited α] {g : Nat → α} {n i : Nat} (h : i < n) : nth ((List.range n).map g) i = g i := by
  rw [zbe (by simpa using h)]; simp
theorem ziH {p : GProblem} {r' : GRules} {at_ more : Int} (hp : okP p = true) (hm : 0 ≤ more) (hP : r'.Pairs.Sublist p.Rules.Pairs) (hL : r'.Loads.Sublist p.Rules.Loads) (hC : r'.Caps = (List.range p.Rules.Caps.length).map (capW p.Rules at_ more)) : okP ⟨p.Domains, ⟨r'.Pairs, r'.Loads, r'.Caps⟩⟩ = true := by
  obtain ⟨h1, h2, h3, h4⟩ := zcZ hp; have a1 := List.all_eq_true.1 (zbA h4); have a2 := List.all_eq_true.1 (zbA (zbE h4)); have a3 := List.all_eq_true.1 (zbE (zbE h4)); (have hlen : r'.Caps.length = p.Rules.Caps.length := by rw [hC]; simp)
  have hmem : ∀ c ∈ r'.Caps, ∃ i, i < p.Rules.Caps.length ∧ c = capW p.Rules at_ more i := fun c hc => by
    rw [hC] at hc; obtain ⟨i, hi, e⟩ := List.mem_map.1 hc; exact ⟨i, List.mem_range.1 hi, e.symm⟩
  refine zgD (p := ⟨p.Domains, ⟨r'.Pairs, r'.Loads, r'.Caps⟩⟩) h1 ⟨⟨?_, ?_, ?_, fun x hx => h2.g.p x (hP.subset hx), fun x hx => h2.g.l x (hL.subset hx), fun c hc => ?_⟩, zdW zhj hP h2.ip, zdW zhb hL h2.il, ?_⟩ h3 (zda (List.all_eq_true.2 fun c hc => a1 c (hP.subset hc)) (zda (List.all_eq_true.2 fun c hc => a2 c (hL.subset hc)) (List.all_eq_true.2 fun c hc => ?_)))
  · have := hP.length_le; have := h2.g.np; dsimp only; omega
  · have := hL.length_le; have := h2.g.nl; dsimp only; omega
  · have := h2.g.nc; dsimp only; omega
  · obtain ⟨i, hi, rfl⟩ := hmem c hc; exact zha hm (h2.g.c _ (zby hi))
  · refine List.all_eq_true.2 fun i hi => ?_; have hi := List.mem_range'_1.1 hi; dsimp only at hi ⊢; have := List.all_eq_true.1 h2.ic i (List.mem_range'_1.2 ⟨by omega, by omega⟩); rw [hC, zev (by omega), zev (by omega)]; exact zhW hm (by omega) (by omega) this
  · obtain ⟨i, hi, rfl⟩ := hmem c hc; have := a3 _ (zby hi); rw [← zf4 p.Rules at_ more i] at this; exact this
theorem zgh {n : Nat} (h : 100000 ≤ n) (p : GProblem) (l : List GChoice) (st : List Int) (at_ more : Int) : zcg n p l st at_ more = some true := by
  unfold zcg; obtain ⟨a, ha⟩ := zi5 (p := p) (a := 60) (b := 60) (fuel := n) (by omega); by_cases h7 : 70 < (l.length : Int)
  · simp only [zaW, decide_eq_true h7, cond_true, zfy h, Option.bind_some]
  by_cases h8 : 70 < (st.length : Int)
  · simp only [zaW, decide_eq_false h7, cond_false, decide_eq_true h8, cond_true, zfy h, Option.bind_some]
  simp only [zaW, decide_eq_false h7, decide_eq_false h8, cond_false, ha, Option.bind_some, zfy h, zeH]
  cases a
  · rfl
  by_cases h9 : more < 0
  · simp only [decide_eq_true h9, Bool.not_true, cond_false, cond_true]
  by_cases h10 : 1073741824 < more
  · simp only [decide_eq_true h10, decide_eq_false h9, Bool.not_true, cond_false, cond_true]
  simp only [decide_eq_false h10, decide_eq_false h9, Bool.not_true, cond_false]
  cases hp : okP p
  · rfl
  simp only [Bool.not_true, cond_false]; rw [zib (by omega) hp]; simp only [Option.bind_some]; rw [zh2 (by omega) hp]; simp only [Option.bind_some, ziG, zh6, zi4, zg6, zji (l := l) (st := st) (by omega), zhG, hp, Bool.true_and]; simp only [not_true_eq_false, decide_false, Bool.not_true, Bool.or_self, cond_false]
  cases hl : zax l
  · rfl
  simp only [Bool.true_and, cond_true]; unfold ziX; rw [hp, Bool.true_and]
  cases hs : okS st
  · simp
  simp only [cond_true]
  cases hd : st.all (anyD p)
  · simp
  simp only [cond_true]; simp only [not_true_eq_false, decide_false, Bool.or_self, Bool.false_or]; by_cases hk : (zbW p l true).Kind = 0
  · have hF := first_of.1 hk; have hV := zi1 hl; have hV2 : VL (zfd l st) := zjt hV (by rw [zdZ]; exact List.filter_sublist); obtain ⟨r', e1, e2, e3, e4⟩ := zhf (at_ := at_) (more := more) (zcZ hp).2.1 ⟨by omega, by omega⟩; rw [decide_eq_false (fun hn => hn hk), cond_false, e1]; simp only [Option.bind_some]; have k1 := zia (st := st) hp; have k2 := ziL hV2; have k3 := ziH (at_ := at_) (more := more) hp (by omega) e2 e3 e4; have k4 := first_of.2 (zhL (st := st) hp hF); have k5 := first_of.2 (zhO (st := st) hp hF)
    have k6 := first_of.2 (zhv (q := ⟨p.Domains, ⟨r'.Pairs, r'.Loads, r'.Caps⟩⟩) hp hF rfl e2 e3 (fun c' hc' => by
      dsimp only at hc'; rw [e4] at hc'; obtain ⟨i, hi, e⟩ := List.mem_map.1 hc'; subst e
      exact ⟨nth p.Rules.Caps i, zby (List.mem_range.1 hi), zf4 .., zf7 .., zfo .., zgX (by omega) i⟩))
    simp only [k1, k2, k3, k4, k5, k6, Bool.and_self, cond_true, decide_true]
  · rw [decide_eq_true hk, cond_true]
end Go.Proofs.YtipomhejoajjdaaGreat
namespace Go.Proofs.YtipomhejoajjdaaGreat
open Go.RowKit Go.ChangeShapes Go.WideShapes Go.Deep
def Opens {H : Type} (enc : TypeId × Value → H) (w : World) (base : Nat) (spare : Nat → Bool) (held : Bool) (t : TypeId) {α : Type} (R : List Value → α → Prop) : Prop :=
  ∀ fuel cs y, DataW.trod enc Tryz.prog w base spare held fuel t cs = some y → ∃ x, R cs x
section
variable {H : Type} {enc : TypeId × Value → H} {w : World} {base : Nat} {spare : Nat → Bool} {held : Bool}
theorem Opens.int {t : TypeId} (ht : Tryz.prog.underlying t = some (.int .i64)) : Opens enc w base spare held t (fun cs (x : Int) => cs = [.int .i64 x]) := fun fuel cs y h => by
  obtain ⟨k, hk, _⟩ := DataW.trod_int ht h; exact ⟨k, hk⟩
theorem ziF {a : Addr} {v : Value} (h : w.cell? a = some v) : Cb w a.block := by
  unfold World.cell? at h
  split at h
  all_goals (first | exact ⟨_, _, _, by assumption⟩ | simp at h | skip)
theorem Opens.any {t e : TypeId} {k : Nat} {α : Type} [Inhabited α] {R : List Value → α → Prop} (ht : Tryz.prog.underlying t = some (.slice e)) (hk : Tryz.prog.cellsOf e = k) (hpos : 0 < k) (ho : Opens enc w base spare held e R) :
    Opens enc w base spare held t (fun cs (l : List α) => ∃ v c, cs = [v] ∧ SlC (Frz.all w) v k c ∧ c.length = l.length ∧ ∀ i, i < l.length → R (nth c i) (nth l i)) := fun fuel cs y h => by
  rcases open_slice ht h with ⟨h0, _⟩ | ⟨a, len, cap, m, n, D, Pl, hcs, hb, hl, hm, hmm, _, hx⟩
  · exact ⟨[], _, [], h0, SlC.nil _ _, rfl, fun i hi => absurd hi (Nat.not_lt_zero i)⟩
  · subst hcs; (have hlm : len ≤ m := by rw [hmm]; split <;> omega)
    have each : ∀ i, i < m → ∃ x : List Value × α, x.1.length = k ∧ R x.1 x.2 ∧ ∀ j, j < k → w.cell? (a.add (i * k + j)) = x.1[j]? := fun i hi => by
      obtain ⟨cs', h1, h2⟩ := hx i hi; rw [hk] at h1; obtain ⟨_, hlen, hcell⟩ := World.cells?_some h1; obtain ⟨x, hR⟩ := ho _ _ _ h2; exact ⟨(cs', x), hlen, hR, fun j hj => by rw [← hcell j hj, add_add]⟩
    obtain ⟨X, hX⟩ := choose_lt each
    have hn : ∀ i, i < len → nth ((List.range len).map fun i => (X i).1) i = (X i).1 := fun i hi => by
      rw [zbe (by simpa using hi)]; simp
    have hn2 : ∀ i, i < len → nth ((List.range len).map fun i => (X i).2) i = (X i).2 := fun i hi => by
      rw [zbe (by simpa using hi)]; simp
    refine ⟨(List.range len).map fun i => (X i).2, _, (List.range len).map fun i => (X i).1, rfl, ⟨some a, cap, by simp, by simpa using hl, by unfold maxLen at hm; omega, fun c hc => ?_, fun hp => ?_⟩, by simp, fun i hi => ?_⟩
    · simp at hc; obtain ⟨i, hi, rfl⟩ := hc; exact (hX i (by omega)).1
    · (have hp' : 0 < len := by simpa using hp); have c0 := (hX 0 (by omega)).2.2 0 hpos; have hx0 := (hX 0 (by omega)).1; rw [List.getElem?_eq_getElem (by omega)] at c0; have hcb := ziF c0; have hs := World.cell?_spot c0; simp [Addr.add] at hs hcb; obtain ⟨b, off, sp⟩ := a; simp at hs hcb; subst hs; refine ⟨b, off, rfl, hcb, fun i hi j hj => ?_⟩; simp at hi; rw [hn i hi] at hj ⊢; have hxi := hX i (by omega); have := hxi.2.2 j (by omega); refine Eq.trans ?_ this
      show w.cell? _ = _
      rw [zdA, Nat.add_assoc]
    · simp at hi; rw [hn i hi, hn2 i hi]; exact (hX i (by omega)).2.1
theorem Opens.slC {t e : TypeId} {k : Nat} {α : Type} [Inhabited α] {en : α → List Value} (ht : Tryz.prog.underlying t = some (.slice e)) (hk : Tryz.prog.cellsOf e = k) (hpos : 0 < k) (ho : Opens enc w base spare held e (fun cs (x : α) => cs = en x)) :
    Opens enc w base spare held t (fun cs (l : List α) => ∃ v, cs = [v] ∧ SlC (Frz.all w) v k (l.map en)) := fun fuel cs y h => by
  obtain ⟨l, v, c, h1, h2, h3, h4⟩ := Opens.any ht hk hpos ho _ _ _ h; refine ⟨l, v, h1, ?_⟩
  have : c = l.map en := by
    apply List.ext_getElem (by simpa using h3); intro i hi hi2; rw [← zbe hi, h4 i (by omega), List.getElem_map, zbe (by omega)]
  rw [← this]; exact h2
theorem Opens.slD {t e : TypeId} {k : Nat} {α : Type} [Inhabited α] {rep : Frz → List Value → α → Prop} (ht : Tryz.prog.underlying t = some (.slice e)) (hk : Tryz.prog.cellsOf e = k) (hpos : 0 < k) (ho : Opens enc w base spare held e (rep (Frz.all w))) :
    Opens enc w base spare held t (fun cs (l : List α) => ∃ v c, cs = [v] ∧ SlD rep (Frz.all w) v k c l) := fun fuel cs y h => by
  obtain ⟨l, v, c, h1, h2, h3, h4⟩ := Opens.any ht hk hpos ho _ _ _ h; exact ⟨l, v, c, h1, h2, h3, h4⟩
end
end Go.Proofs.YtipomhejoajjdaaGreat
