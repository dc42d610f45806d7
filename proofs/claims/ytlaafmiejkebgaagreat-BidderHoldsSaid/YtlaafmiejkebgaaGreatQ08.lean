/- Da Db Dc Dd Ko Di Dj Dk Dl Rk Dh Dm Dn Kq: shortened and put together by squeeze.py. -/
import Derived.Test.YtlaafmiejkebgaaGreatQ07
import Derived.ArgAppend
set_option maxRecDepth 100000
set_option maxHeartbeats 4000000
set_option linter.unusedVariables false
set_option linter.unusedSectionVars false
set_option linter.unusedSimpArgs false
namespace Go.Proofs.YtlaafmiejkebgaaGreat
open Go.RowKit
theorem zd1 {σ τ ρ ρ' : Type} {f : Nat → (σ → ρ) → σ → ρ} {k : σ → ρ} {g : Nat → (τ → ρ') → τ → ρ'} {k' : τ → ρ'} {n : Nat} (R : Nat → σ → τ → Prop) (post : ρ → ρ' → Prop) (hk : ∀ s t, R n s t → post (k s) (k' t)) (hf : ∀ i s t next next', i < n → R i s t → (∀ s t, R (i + 1) s t → post (next s) (next' t)) → post (f i next s) (g i next' t)) : ∀ m i s t, i + m = n → R i s t → post (zam f k m i s) (zam g k' m i t)
  | 0, i, s, t, h, hR => hk s t (by rw [← h]; exact hR)
  | m + 1, i, s, t, h, hR => hf i s t _ _ (by omega) hR fun s t hR => zd1 R post hk hf m (i + 1) s t (by omega) hR
theorem zcB {σ τ ρ ρ' : Type} {f : Nat → (σ → ρ) → σ → ρ} {k : σ → ρ} {g : Nat → (τ → ρ') → τ → ρ'} {k' : τ → ρ'} {n : Nat} {s : σ} {t : τ} (R : Nat → σ → τ → Prop) (post : ρ → ρ' → Prop) (h0 : R 0 s t) (hk : ∀ s t, R n s t → post (k s) (k' t)) (hf : ∀ i s t next next', i < n → R i s t → (∀ s t, R (i + 1) s t → post (next s) (next' t)) → post (f i next s) (g i next' t)) : post (zam f k (n - 0) 0 s) (zam g k' (n - 0) 0 t) := zd1 R post hk hf _ _ _ _ (by omega) h0
theorem zgH (a b : Int) : zal a b = if a < b then -1 else if b < a then 1 else 0 := by
  unfold zal zbv; rw [decide_eq_false (show ¬ ¬ a = a by simp), cond_false, decide_eq_false (show ¬ ¬ b = b by simp), cond_false]; by_cases h : a < b
  · rw [decide_eq_true h, cond_true, if_pos h]
  · rw [decide_eq_false h, cond_false, if_neg h]; by_cases h2 : b < a
    · rw [decide_eq_true h2, cond_true, if_pos h2]
    · rw [decide_eq_false h2, cond_false, if_neg h2]
theorem zhA (a b : Int) : zcl [a, b] = if a = 0 then b else a := by
  show (bif decide (¬ a = 0) then a else bif decide (¬ b = 0) then b else 0) = _
  by_cases h : a = 0
  · rw [decide_eq_false (by simp [h]), cond_false, if_pos h]; by_cases h2 : b = 0
    · rw [decide_eq_false (by simp [h2]), cond_false, h2]
    · rw [decide_eq_true h2, cond_true]
  · rw [decide_eq_true h, cond_true, if_neg h]
theorem zk3 (q p : GProduct) : decide (0 ≤ zaO q p) = (decide (p.Area < q.Area) || (decide (p.Area = q.Area) && decide (p.Category ≤ q.Category))) := by
  unfold zaO; rw [zhA, zgH, zgH]; rw [Bool.eq_iff_iff]; simp only [decide_eq_true_eq, Bool.or_eq_true, Bool.and_eq_true]
  repeat' split
  all_goals omega
def okR (p : GProduct) : Bool := !((((((((((decide (p.Area < 0)) || (decide (63 < p.Area))) || (decide (p.Category < 1))) || (decide (2 < p.Category))) || (decide (p.Supply < 1))) || (decide (12 < p.Supply))) || (decide (p.Units < 1))) || (decide (100000 < p.Units))) || (decide (p.Reserve < 0))) || (decide (549755813888 < p.Reserve)))
theorem zdL {p : GProduct} : okR p = true ↔ (0 ≤ p.Area ∧ p.Area ≤ 63 ∧ 1 ≤ p.Category ∧ p.Category ≤ 2 ∧ 1 ≤ p.Supply ∧ p.Supply ≤ 12 ∧ 1 ≤ p.Units ∧ p.Units ≤ 100000 ∧ 0 ≤ p.Reserve ∧ p.Reserve ≤ 549755813888) := by
  unfold okR; simp only [Bool.not_eq_true', Bool.or_eq_false_iff, decide_eq_false_iff_not]; omega
structure InvP (l : List GProduct) (i : Nat) (v : Vec 64 Int) : Prop where
  zero : ∀ a : Nat, a < 64 → (0 < i → (nth l (i - 1)).Area < (a : Int)) → v.get a = 0
  last : 0 < i → okR (nth l (i - 1)) = true ∧ ((nth l (i - 1)).Category = 1 → v.get (nth l (i - 1)).Area.toNat = (nth l (i - 1)).Supply)
def okN (q p : GProduct) : Bool := !((decide (p.Area < q.Area)) || ((decide (p.Area = q.Area)) && ((decide (p.Category ≤ q.Category)) || (decide (12 < wI (p.Supply + q.Supply))))))
theorem zgr {l : List GProduct} {i : Nat} {v : Vec 64 Int} (h : InvP l i v) :
    ∃ r, zbB (nth l i) v = some r ∧ ((okR (nth l i) = true ∧ (0 < i → okN (nth l (i - 1)) (nth l i) = true) ∧ r.1 = true ∧ (0 < i → decide (0 ≤ zaO (nth l (i - 1)) (nth l i)) = false) ∧ InvP l (i + 1) r.2) ∨ ((okR (nth l i) = false ∨ 0 < i ∧ okN (nth l (i - 1)) (nth l i) = false) ∧ (r.1 = false ∨ 0 < i ∧ decide (0 ≤ zaO (nth l (i - 1)) (nth l i)) = true))) := by
  obtain ⟨hz, hl⟩ := h; generalize nth l (i - 1) = q at *; generalize hp : nth l i = p; unfold zbB zaF; by_cases h1 : 0 ≤ p.Area ∧ p.Area ≤ 63 ∧ 1 ≤ p.Category ∧ p.Category ≤ 2 ∧ 1 ≤ p.Supply ∧ p.Supply ≤ 12
  · obtain ⟨a1, a2, a3, a4, a5, a6⟩ := h1; rw [decide_eq_true a1, decide_eq_true a2, decide_eq_true a3, decide_eq_true a4, decide_eq_true a5, decide_eq_true a6]; simp only [Bool.and_self, Bool.not_true, Bool.or_self, cond_false]; (have ha : p.Area.toNat < 64 := by omega); rw [zaj (by omega), Vec.get_put ha, if_pos rfl]; refine ⟨_, rfl, ?_⟩; dsimp only; rw [zk3]
    -- the sum of the area
    have hsum : (0 < i → okR q = true ∧ q.Area ≤ p.Area ∧ (q.Area = p.Area → q.Category < p.Category)) → wI (v.get p.Area.toNat + p.Supply) = if 0 < i ∧ q.Area = p.Area then q.Supply + p.Supply else p.Supply := by
      intro hh; by_cases hi : 0 < i ∧ q.Area = p.Area
      · obtain ⟨b1, b2, b3⟩ := hh hi.1; rw [zdL] at b1; have b4 := (hl hi.1).2 (by have := b3 hi.2; omega); rw [if_pos hi, ← hi.2, b4, zbx (by omega)]
      · rw [if_neg hi, hz p.Area.toNat ha (fun hi0 => by have := (hh hi0).2.1; have : q.Area ≠ p.Area := fun e => hi ⟨hi0, e⟩; omega), zbx (by omega)]; omega
    by_cases hgood : okR p = true ∧ (0 < i → okN q p = true)
    · obtain ⟨g1, g2⟩ := hgood
      have hord : 0 < i → okR q = true ∧ q.Area ≤ p.Area ∧ (q.Area = p.Area → q.Category < p.Category ∧ p.Supply + q.Supply ≤ 12) := by
        intro hi; have := g2 hi; have hq := (hl hi).1; unfold okN at this; simp only [Bool.not_eq_true', Bool.or_eq_false_iff, Bool.and_eq_false_iff, decide_eq_false_iff_not] at this; rw [zdL] at hq; rw [zbx (by omega)] at this; refine ⟨(hl hi).1, by omega, fun e => ?_⟩; omega
      have hs := hsum fun hi => ⟨(hord hi).1, (hord hi).2.1, fun e => ((hord hi).2.2 e).1⟩; refine .inl ⟨g1, g2, ?_, fun hi => ?_, ⟨fun a ha2 h0 => ?_, fun _ => ?_⟩⟩
      · rw [hs]; rw [zdL] at g1; simp only [Bool.and_eq_true, decide_eq_true_eq]
        split
        · rename_i hc; have := (hord hc.1).2.2 hc.2; omega
        · omega
      · have := hord hi; simp only [Bool.or_eq_false_iff, Bool.and_eq_false_iff, decide_eq_false_iff_not]; omega
      · have h9 := h0 (by omega); rw [show i + 1 - 1 = i by omega, hp] at h9; rw [Vec.get_put ha, if_neg (by omega)]; (exact hz a ha2 fun hi => by have := (hord hi).2.1; omega)
      · rw [show i + 1 - 1 = i by omega, hp]; refine ⟨g1, fun hc => ?_⟩; rw [Vec.get_put ha, if_pos rfl, hs, if_neg]; rintro ⟨hi, he⟩; have := (hord hi).2.2 he; have hq := (hord hi).1; rw [zdL] at hq; omega
    · right
      have hbad : okR p = false ∨ 0 < i ∧ okN q p = false := by
        cases h3 : okR p with
        | false => exact .inl rfl
        | true =>
          refine .inr ?_; by_cases hi : 0 < i
          · refine ⟨hi, ?_⟩
            cases h4 : okN q p with
            | false => rfl
            | true => exact absurd ⟨h3, fun _ => h4⟩ hgood
          · exact absurd ⟨h3, fun h => absurd h hi⟩ hgood
      refine ⟨hbad, ?_⟩; by_cases hcmp : 0 < i ∧ ((decide (p.Area < q.Area)) || ((decide (p.Area = q.Area)) && (decide (p.Category ≤ q.Category)))) = true
      · exact .inr hcmp
      · left
        have hord : 0 < i → okR q = true ∧ q.Area ≤ p.Area ∧ (q.Area = p.Area → q.Category < p.Category) := by
          intro hi; have h5 : ¬ ((decide (p.Area < q.Area)) || ((decide (p.Area = q.Area)) && (decide (p.Category ≤ q.Category)))) = true := fun h => hcmp ⟨hi, h⟩; simp only [Bool.or_eq_true, Bool.and_eq_true, decide_eq_true_eq] at h5; exact ⟨(hl hi).1, by omega, fun e => by omega⟩
        rw [hsum hord]; rcases hbad with hb | ⟨hi, hb⟩
        · rw [← Bool.not_eq_true, zdL] at hb; rw [← Bool.not_eq_true]; simp only [Bool.and_eq_true, decide_eq_true_eq]; omega
        · have h6 := hord hi; have hq := h6.1; rw [zdL] at hq; unfold okN at hb; rw [zbx (by omega)] at hb; simp only [Bool.not_eq_false', Bool.or_eq_true, Bool.and_eq_true, decide_eq_true_eq] at hb; rw [← Bool.not_eq_true]; simp only [Bool.and_eq_true, decide_eq_true_eq]; (have he : q.Area = p.Area := by omega); rw [if_pos ⟨hi, he⟩]; have := h6.2.2 he; omega
  · refine ⟨(false, v), ?_, .inr ⟨.inl ?_, .inl rfl⟩⟩
    · rw [show ((((!(decide (0 ≤ p.Area) && decide (p.Area ≤ 63))) || (!(decide (1 ≤ p.Category) && decide (p.Category ≤ 2)))) || (!(decide (1 ≤ p.Supply) && decide (p.Supply ≤ 12))))) = true from ?_, cond_true]; rw [← Bool.not_eq_false]; simp only [Bool.or_eq_false_iff, Bool.not_eq_false', Bool.and_eq_true, decide_eq_true_eq]; omega
    · rw [← Bool.not_eq_true, zdL]; omega
theorem pvalid (l : List GProduct) : zbE l = some (zaq l) := by
  unfold zbE zaz zaq; simp only [zap]
  have h := zcB (n := l.length) (s := Vec.fill 64 (0 : Int)) (t := ())
    (f := fun (i_5 : Nat) (next4 : Vec 64 Int → Option (Bool × Vec 64 Int)) (c_3 : Vec 64 Int) =>
      (zbB (nth l i_5) c_3).bind fun r18 =>
      (bif ((!r18.1) || ((decide (0 < (i_5 : Int))) && (decide (0 ≤ (zaO (nth l (((i_5 : Int) - 1).toNat)) (nth l i_5)))))) then
        some (false, r18.2)
        else
        next4 r18.2)) (k := fun c_3 => some (true, c_3))
    (g := fun (i_3 : Nat) (next2 : Unit → Bool) (_ : Unit) =>
      (bif ((((((((((decide ((nth l i_3).Area < 0)) || (decide (63 < (nth l i_3).Area))) || (decide ((nth l i_3).Category < 1))) || (decide (2 < (nth l i_3).Category))) || (decide ((nth l i_3).Supply < 1))) || (decide (12 < (nth l i_3).Supply))) || (decide ((nth l i_3).Units < 1))) || (decide (100000 < (nth l i_3).Units))) || (decide ((nth l i_3).Reserve < 0))) || (decide (549755813888 < (nth l i_3).Reserve))) then
        false
        else
        (bif decide (0 < (i_3 : Int)) then
          (bif ((decide ((nth l i_3).Area < (nth l (((i_3 : Int) - 1).toNat)).Area)) || ((decide ((nth l i_3).Area = (nth l (((i_3 : Int) - 1).toNat)).Area)) && ((decide ((nth l i_3).Category ≤ (nth l (((i_3 : Int) - 1).toNat)).Category)) || (decide (12 < wI (((nth l i_3).Supply) + ((nth l (((i_3 : Int) - 1).toNat)).Supply))))))) then
            false
            else
            next2 ())
          else
          next2 ()))) (k' := fun _ => true)
    (fun i v _ => InvP l i v) (fun x y => x.map (·.1) = some y)
    ⟨fun a ha _ => Vec.get_fill ha, fun h => absurd h (by omega)⟩ (fun _ _ _ => rfl) (fun i v t next next' hi hR hn => by
      obtain ⟨r, hr, hc⟩ := zgr hR; (try dsimp only); rw [hr, Option.bind_some, show ((i : Int) - 1).toNat = i - 1 by omega]; (have e1 : decide (0 < (i : Int)) = decide (0 < i) := by rw [Bool.eq_iff_iff]; simp); rw [e1]; rcases hc with ⟨h1, h2, h3, h4, h5⟩ | ⟨h1, h2⟩
      · unfold okR at h1; rw [Bool.not_eq_true'] at h1; rw [h1, cond_false, h3, Bool.not_true, Bool.false_or]; by_cases hi0 : 0 < i
        · have h6 := h2 hi0; unfold okN at h6; rw [Bool.not_eq_true'] at h6; rw [h6, h4 hi0, Bool.and_false, cond_false, cond_false, decide_eq_true hi0, cond_true]; exact hn _ _ h5
        · rw [decide_eq_false hi0, Bool.false_and, cond_false, cond_false]; exact hn _ _ h5
      · have e2 : ((!r.1) || ((decide (0 < i)) && (decide (0 ≤ (zaO (nth l (i - 1)) (nth l i)))))) = true := by
          rcases h2 with h2 | ⟨h2, h3⟩
          · rw [h2]; rfl
          · rw [h3, decide_eq_true h2]; simp
        rw [e2, cond_true]; rcases h1 with h1 | ⟨h0, h1⟩
        · unfold okR at h1; rw [Bool.not_eq_false'] at h1; rw [h1, cond_true]; rfl
        · unfold okN at h1; rw [Bool.not_eq_false'] at h1; rw [h1, decide_eq_true h0]
          cases (decide ((nth l i).Area < 0) || decide (63 < (nth l i).Area) || decide ((nth l i).Category < 1) || decide (2 < (nth l i).Category) || decide ((nth l i).Supply < 1) || decide (12 < (nth l i).Supply) || decide ((nth l i).Units < 1) || decide (100000 < (nth l i).Units) || decide ((nth l i).Reserve < 0) || decide (549755813888 < (nth l i).Reserve)) <;> rfl)
  generalize zam _ _ (l.length - 0) 0 (Vec.fill 64 (0 : Int)) = x at h ⊢; generalize zam _ _ (l.length - 0) 0 () = y at h ⊢
  cases x with
  | none => cases h
  | some x => exact h
theorem all_iff {l : List Int} {m : Int} : zbt l m = true ↔ ∀ i, i < l.length → 0 ≤ nth l i ∧ nth l i ≤ m := by
  unfold zbt; simp only [zap]
  rw [show l.length - 0 = l.length from rfl, zd7 (fun i => decide (0 ≤ nth l i) && decide (nth l i ≤ m)) (fun i next hi => by
    rw [Bool.eq_iff_iff]
    cases h : ((decide ((nth l i) < 0)) || (decide (m < (nth l i)))) with
    | true =>
      simp only [Bool.or_eq_true, decide_eq_true_eq] at h; simp only [cond_true, Bool.and_eq_true, decide_eq_true_eq]; constructor
      · intro h2; cases h2
      · rintro ⟨h2, _⟩; omega
    | false =>
      simp only [Bool.or_eq_false_iff, decide_eq_false_iff_not] at h; simp only [cond_false, Bool.and_eq_true, decide_eq_true_eq]; constructor
      · intro h2; exact ⟨by omega, h2⟩
      · rintro ⟨_, h2⟩; exact h2)]
  rw [Bool.and_eq_true, List.all_eq_true]; constructor
  · intro h i hi; have := h.1 i (List.mem_range.2 hi); simpa using this
  · intro h; exact ⟨fun i hi => by simpa using h i (List.mem_range.1 hi), rfl⟩
theorem zfw (l : List Int) (m : Int) : zaH l m = zbt l m := by
  unfold zaH zaG zaM zbt; simp only [zap]
  have h := zcB (n := l.length) (s := ()) (t := ())
    (f := fun (i_3 : Nat) (next2 : Unit → Int) (_ : Unit) => (bif (zbA (nth l i_3) m) then (i_3 : Int) else next2 ())) (k := fun _ => -1)
    (g := fun (i_3 : Nat) (next2 : Unit → Bool) (_ : Unit) => (bif ((decide ((nth l i_3) < 0)) || (decide (m < (nth l i_3)))) then false else next2 ())) (k' := fun _ => true)
    (fun _ _ _ => True) (fun x y => (!decide (0 ≤ x)) = y) trivial (fun _ _ _ => rfl) (fun i s t next next' hi _ hn => by
      unfold zbA
      cases h : ((decide ((nth l i) < 0)) || (decide (m < (nth l i)))) with
      | true => rw [cond_true, cond_true, decide_eq_true (by omega)]; rfl
      | false => rw [cond_false, cond_false]; exact hn () () trivial)
  exact h
theorem zbW {σ ρ : Type} (f : Nat → (σ → ρ) → σ → ρ) (k : σ → ρ) (m i : Nat) (s : σ) : zam f k (m + 1) i s = f i (zam f k m (i + 1)) s := rfl
structure PlanOk (p : GBidderPlan) (l : List GProduct) : Prop where
  prods : zaq l = true
  len : p.Values.length = l.length
  bid : 0 ≤ p.Bidder ∧ p.Bidder ≤ 31
  budget : 0 ≤ p.Budget ∧ p.Budget ≤ 1125899906842624
  vals : ∀ i, i < p.Values.length → (nth p.Values i).length ≤ 12 ∧ (∀ k, k < (nth p.Values i).length → 0 ≤ nth (nth p.Values i) k ∧ nth (nth p.Values i) k ≤ 549755813888) ∧ ∀ k, 0 < k → k < (nth p.Values i).length → nth (nth p.Values i) k ≤ nth (nth p.Values i) (k - 1)
def ze2 (v : List Int) (r : Option Bool) : Option Bool := zam (fun (k : Nat) (next : Unit → Option Bool) (_ : Unit) => grd (0 ≤ ((k : Int) - 1) ∧ ((k : Int) - 1) < (v.length : Int)) <| (bif decide ((nth v (((k : Int) - 1).toNat)) < (nth v k)) then some false else next ())) (fun _ => r) (v.length - 1) 1 ()
def zia (v : List Int) (r : Option Bool) : Option Bool := zam (fun (i : Nat) (next : Unit → Option Bool) (_ : Unit) => (bif ((decide (0 < (i : Int))) && (decide ((nth v (((i : Int) - 1).toNat)) < (nth v i)))) then some false else next ())) (fun _ => r) (v.length - 0) 0 ()
theorem zhK (v : List Int) (r : Option Bool) : zia v r = ze2 v r := by
  unfold zia ze2
  cases hv : v with
  | nil => rfl
  | cons a t =>
    rw [← hv]; (have hl : v.length = t.length + 1 := by rw [hv]; rfl); rw [show v.length - 0 = (v.length - 1) + 1 by omega]; rw [zbW]; (try dsimp only); rw [decide_eq_false (show ¬ 0 < ((0 : Nat) : Int) by omega), Bool.false_and, cond_false]; refine zd1 (n := v.length) (fun i _ _ => 0 < i) (fun x y => x = y) (fun _ _ _ => rfl) (fun i s t next next' hi h0 hn => ?_) _ _ _ _ (by omega) (by omega); (try dsimp only); rw [zaj (by omega), decide_eq_true (show 0 < (i : Int) by omega), Bool.true_and, hn () () (by omega)]
theorem zgl (v : List Int) (r : Option Bool) : ((∀ k, 0 < k → k < v.length → nth v k ≤ nth v (k - 1)) ∧ ze2 v r = r) ∨ ze2 v r = some false := by
  unfold ze2
  have key : ∀ m i, i + m = v.length → 0 < i → ((∀ k, i ≤ k → k < v.length → nth v k ≤ nth v (k - 1)) ∧ zam (fun (k : Nat) (next : Unit → Option Bool) (_ : Unit) => grd (0 ≤ ((k : Int) - 1) ∧ ((k : Int) - 1) < (v.length : Int)) <| (bif decide ((nth v (((k : Int) - 1).toNat)) < (nth v k)) then some false else next ())) (fun _ => r) m i () = r) ∨ zam (fun (k : Nat) (next : Unit → Option Bool) (_ : Unit) => grd (0 ≤ ((k : Int) - 1) ∧ ((k : Int) - 1) < (v.length : Int)) <| (bif decide ((nth v (((k : Int) - 1).toNat)) < (nth v k)) then some false else next ())) (fun _ => r) m i () = some false := by
    intro m
    induction m with
    | zero => intro i hi h0; exact .inl ⟨fun k hk hk2 => by omega, rfl⟩
    | succ m ih =>
      intro i hi h0; have h := ih (i + 1) (by omega) (by omega)
      show (_ ∧ grd _ _ = r) ∨ grd _ _ = some false
      rw [zaj (by omega), show ((i : Int) - 1).toNat = i - 1 by omega]; by_cases hd : nth v (i - 1) < nth v i
      · rw [decide_eq_true hd]; exact .inr rfl
      · rw [decide_eq_false hd, cond_false]; rcases h with ⟨h1, h2⟩ | h2
        · refine .inl ⟨fun k hk hk2 => ?_, h2⟩; by_cases e : k = i
          · subst e; omega
          · exact h1 k (by omega) hk2
        · exact .inr h2
  by_cases hl : v.length = 0
  · rw [show v.length - 1 = 0 by omega]; exact .inl ⟨fun k h1 h2 => by omega, rfl⟩
  · rcases key (v.length - 1) 1 (by omega) (by omega) with ⟨h1, h2⟩ | h2
    · exact .inl ⟨fun k h3 h4 => h1 k (by omega) h4, h2⟩
    · exact .inr h2
def zfD (p : GBidderPlan) (m i : Nat) : Option Bool := zam (fun (i : Nat) (next : Unit → Option Bool) (_ : Unit) => (bif ((decide (12 < ((nth p.Values i).length : Int))) || (!(zbt (nth p.Values i) 549755813888))) then some false else ze2 (nth p.Values i) (next ()))) (fun _ => some true) m i ()
theorem zfe (p : GBidderPlan) : ∀ m i, i + m = p.Values.length → ∃ b, zfD p m i = some b ∧ (b = true → ∀ j, i ≤ j → j < p.Values.length → (nth p.Values j).length ≤ 12 ∧ (∀ k, k < (nth p.Values j).length → 0 ≤ nth (nth p.Values j) k ∧ nth (nth p.Values j) k ≤ 549755813888) ∧ ∀ k, 0 < k → k < (nth p.Values j).length → nth (nth p.Values j) k ≤ nth (nth p.Values j) (k - 1))
  | 0, i, h => ⟨true, rfl, fun _ j h1 h2 => by omega⟩
  | m + 1, i, h => by
    obtain ⟨b, hb, hb2⟩ := zfe p m (i + 1) (by omega)
    show ∃ b, (bif _ then some false else ze2 (nth p.Values i) (zfD p m (i + 1))) = some b ∧ _
    rw [hb]
    cases hc : ((decide (12 < ((nth p.Values i).length : Int))) || (!(zbt (nth p.Values i) 549755813888))) with
    | true => exact ⟨false, rfl, fun e => by cases e⟩
    | false =>
      rw [cond_false]; simp only [Bool.or_eq_false_iff, decide_eq_false_iff_not, Bool.not_eq_false'] at hc; have hal := all_iff.1 hc.2; rcases zgl (nth p.Values i) (some b) with ⟨h1, h2⟩ | h2
      · rw [h2]; refine ⟨b, rfl, fun e j hj hj2 => ?_⟩; by_cases ej : j = i
        · subst ej; exact ⟨by omega, hal, h1⟩
        · exact hb2 e j (by omega) hj2
      · rw [h2]; exact ⟨false, rfl, fun e => by cases e⟩
theorem zdg (p : GBidderPlan) (l : List GProduct) : zaW p l = bif ((((((!(zaq l)) || (decide (¬ (p.Values.length : Int) = (l.length : Int)))) || (decide (p.Bidder < 0))) || (decide (31 < p.Bidder))) || (decide (p.Budget < 0))) || (decide (1125899906842624 < p.Budget))) then some false else zfD p p.Values.length 0 := by
  unfold zaW zfD ze2; simp only [zap]
  rfl
theorem zdS (p : GBidderPlan) (l : List GProduct) : ∃ b, zaW p l = some b ∧ (b = true → PlanOk p l) := by
  rw [zdg]; obtain ⟨b, hb, hb2⟩ := zfe p p.Values.length 0 (by omega); rw [hb]
  cases hc : ((((((!(zaq l)) || (decide (¬ (p.Values.length : Int) = (l.length : Int)))) || (decide (p.Bidder < 0))) || (decide (31 < p.Bidder))) || (decide (p.Budget < 0))) || (decide (1125899906842624 < p.Budget))) with
  | true => exact ⟨false, rfl, fun e => by cases e⟩
  | false =>
    simp only [Bool.or_eq_false_iff, decide_eq_false_iff_not, Bool.not_eq_false'] at hc; exact ⟨b, rfl, fun e => ⟨hc.1.1.1.1.1, by omega, by omega, by omega, fun i hi => hb2 e i (by omega) hi⟩⟩
theorem zib (p : GBidderPlan) : zam (fun (i_9 : Nat) (next8 : Unit → Option Bool) (_ : Unit) => (bif ((decide (12 < ((nth p.Values i_9).length : Int))) || (!(zaH (nth p.Values i_9) 549755813888))) then some false else zia (nth p.Values i_9) (next8 ()))) (fun _ => some true) (p.Values.length - 0) 0 () = zfD p p.Values.length 0 := by
  unfold zfD; refine zcB (n := p.Values.length) (fun _ _ _ => True) (fun x y => x = y) trivial (fun _ _ _ => rfl) (fun i s t next next' hi _ hn => ?_); (try dsimp only); rw [zfw, zhK, hn () () trivial]
theorem zco (p : GBidderPlan) (l : List GProduct) : zaZ p l = zaW p l := by
  rw [zdg]; unfold zaZ; rw [pvalid, Option.bind_some]; simp only [zap]; have h := zib p; unfold zia at h; generalize zam _ _ (p.Values.length - 0) 0 () = x at h ⊢; subst h; generalize zfD p p.Values.length 0 = y; (have e1 : decide (32 ≤ p.Bidder) = decide (31 < p.Bidder) := by rw [Bool.eq_iff_iff]; simp; omega); rw [e1]
  cases zaq l <;> cases decide (p.Bidder < 0) <;> cases decide (31 < p.Bidder) <;> cases decide (p.Budget < 0) <;> cases decide (1125899906842624 < p.Budget) <;> cases decide (¬ (p.Values.length : Int) = (l.length : Int)) <;> rfl
theorem zb8 (l : List GProduct) (prices : List Int) : zai l prices = (decide ((prices.length : Int) = (l.length : Int)) && zbt prices 549755813888) := by
  unfold zai; rw [zfw]
theorem zaL {α : Type} [Inhabited α] {d : List α} {i : Nat} {x : α} (h : i < d.length) : nth (d.set i x) i = x := by
  unfold nth; rw [List.getD_eq_getElem?_getD, List.getElem?_set_self h]; rfl
theorem zbh {α : Type} [Inhabited α] {d : List α} {i j : Nat} {x : α} (h : j ≠ i) : nth (d.set i x) j = nth d j := by
  unfold nth; rw [List.getD_eq_getElem?_getD, List.getD_eq_getElem?_getD, List.getElem?_set_ne (fun e => h e.symm)]
theorem zeM {α : Type} [Inhabited α] {d : List α} {i : Nat} (h : i < d.length) : d.set i (nth d i) = d := by
  rw [zbw h]; exact List.set_getElem_self h
def redN (B pr : Int) : Nat → Int → Nat × Int
  | 0, c => (0, c)
  | n + 1, c => bif decide (B < c) then redN B pr n (c - pr) else (n + 1, c)
def redL (B : Int) (prices : List Int) : Nat → Int → List Int → List Int
  | 0, _, d => d
  | i + 1, c, d => redL B prices i (redN B (nth prices i) (nth d i).toNat c).2 (d.set i ((redN B (nth prices i) (nth d i).toNat c).1 : Int))
theorem ziF {B pr c : Int} {n : Nat} (h : c ≤ B) : redN B pr n c = (n, c) := by
  cases n with
  | zero => rfl
  | succ n => rw [redN, decide_eq_false (by omega), cond_false]
theorem zgd {B pr : Int} (hB : 0 ≤ B) (hp : 0 ≤ pr ∧ pr ≤ 549755813888) : ∀ (n : Nat) (c : Int), -549755813888 ≤ c → c ≤ 1125899906842624 → (redN B pr n c).1 ≤ n ∧ -549755813888 ≤ (redN B pr n c).2 ∧ (redN B pr n c).2 ≤ 1125899906842624
  | 0, c, h1, h2 => ⟨Nat.le_refl _, h1, h2⟩
  | n + 1, c, h1, h2 => by
    rw [redN]; by_cases h : B < c
    · rw [decide_eq_true h, cond_true]; have := zgd hB hp n (c - pr) (by omega) (by omega); omega
    · rw [decide_eq_false h, cond_false]; exact ⟨Nat.le_refl _, h1, h2⟩
theorem zhy {B : Int} {prices : List Int} : ∀ (i : Nat) (c : Int) (d : List Int), c ≤ B → i ≤ d.length → (∀ j, j < d.length → 0 ≤ nth d j) → redL B prices i c d = d
  | 0, c, d, _, _, _ => rfl
  | i + 1, c, d, h, hi, hd => by
    have h0 := hd i (by omega); rw [redL, ziF h]; rw [show (((nth d i).toNat : Nat) : Int) = nth d i by omega, zeM (by omega)]; exact zhy i c d h (by omega) hd
structure DemOk (l : List GProduct) (d : List Int) : Prop where
  len : d.length = l.length
  bd : ∀ j, j < l.length → 0 ≤ nth d j ∧ nth d j ≤ (nth l j).Supply
theorem DemOk.set {l : List GProduct} {d : List Int} (h : DemOk l d) {i : Nat} {x : Int} (h0 : 0 ≤ x) (h1 : x ≤ nth d i) (hi : i < l.length) : DemOk l (d.set i x) := by
  refine ⟨by rw [List.length_set]; exact h.len, fun j hj => ?_⟩; by_cases e : j = i
  · subst e; rw [zaL (by rw [h.len]; exact hj)]; have := h.bd j hj; omega
  · rw [zbh e]; exact h.bd j hj
theorem zgm {B : Int} {prices : List Int} {l : List GProduct} (hB : 0 ≤ B) (hp : ∀ j, j < l.length → 0 ≤ nth prices j ∧ nth prices j ≤ 549755813888) : ∀ (i : Nat) (c : Int) (d : List Int), i ≤ l.length → DemOk l d → -549755813888 ≤ c → c ≤ 1125899906842624 → DemOk l (redL B prices i c d)
  | 0, c, d, _, h, _, _ => h
  | i + 1, c, d, hi, h, h1, h2 => by
    rw [redL]; have hb := zgd hB (hp i (by omega)) (nth d i).toNat c h1 h2; have hd := h.bd i (by omega); exact zgm hB hp i _ _ (by omega) (h.set (by omega) (by omega) (by omega)) hb.2.1 hb.2.2
section
variable {B : Int} {prices : List Int} {l : List GProduct} {ρ : Type}
theorem zil (hB : 0 ≤ B) (hp : ∀ j, j < l.length → 0 ≤ nth prices j ∧ nth prices j ≤ 549755813888) {i : Nat} (hi : i < l.length) (hs : (nth l i).Supply ≤ 12) (K : (Int × List Int) → Option ρ) : ∀ (n fuel : Nat) (c : Int) (d : List Int), DemOk l d → nth d i = (n : Int) → n < fuel → -549755813888 ≤ c → c ≤ 1125899906842624 →
    zaI (fun (next30 : (Int × List Int) → Option ρ) (s30 : Int × List Int) =>
            grd (0 ≤ (i : Int) ∧ (i : Int) < (s30.2.length : Int)) <|
            (bif ((decide (0 < (nth s30.2 i))) && (decide (B < s30.1))) then
              grd (0 ≤ (i : Int) ∧ (i : Int) < (s30.2.length : Int)) <|
              next30 (wI (s30.1 - (nth prices i)), (s30.2.set i (wI ((nth s30.2 i) - 1))))
              else
              K (s30.1, s30.2))) fuel (c, d) = K ((redN B (nth prices i) n c).2, d.set i ((redN B (nth prices i) n c).1 : Int))
  | n, 0, c, d, _, _, h, _, _ => by omega
  | 0, fuel + 1, c, d, hd, hn, _, h1, h2 => by
    show grd _ _ = _
    have hl := hd.len; dsimp only; rw [zaj (by omega), hn, decide_eq_false (by omega), Bool.false_and, cond_false]
    show K (c, d) = K (c, d.set i 0)
    rw [show (0 : Int) = nth d i by omega, zeM (by omega)]
  | n + 1, fuel + 1, c, d, hd, hn, hf, h1, h2 => by
    show grd _ _ = _
    have hl := hd.len; have hb := hd.bd i hi; have hpi := hp i hi; dsimp only; rw [zaj (by omega), decide_eq_true (show 0 < nth d i by omega), Bool.true_and]; by_cases h : B < c
    · rw [decide_eq_true h, cond_true, zaj (by omega), zbx (by omega), zbx (by omega)]; have ih := zil hB hp hi hs K n fuel (c - nth prices i) (d.set i (nth d i - 1)) (hd.set (by omega) (by omega) hi) (by rw [zaL (by omega)]; omega) (by omega) (by omega) (by omega); rw [ih, List.set_set, redN, decide_eq_true h, cond_true]
    · rw [decide_eq_false h, cond_false, redN, decide_eq_false h, cond_false]; dsimp only; rw [← hn, zeM (by omega)]
theorem zhh (hB : 0 ≤ B) (hp : ∀ j, j < l.length → 0 ≤ nth prices j ∧ nth prices j ≤ 549755813888) (hs : ∀ j, j < l.length → (nth l j).Supply ≤ 12) {fuel : Nat} (hf : 12 < fuel) (k : Int × List Int → Option ρ) : ∀ (i : Nat) (c : Int) (d : List Int), i ≤ l.length → DemOk l d → -549755813888 ≤ c → c ≤ 1125899906842624 →
    ∃ c', iterD (fun (i_26 : Nat) (next25 : (Int × List Int) → Option ρ) (s25 : Int × List Int) =>
          zaI (fun (next30 : (Int × List Int) → Option ρ) (s30 : Int × List Int) =>
            grd (0 ≤ (i_26 : Int) ∧ (i_26 : Int) < (s30.2.length : Int)) <|
            (bif ((decide (0 < (nth s30.2 i_26))) && (decide (B < s30.1))) then
              grd (0 ≤ (i_26 : Int) ∧ (i_26 : Int) < (s30.2.length : Int)) <|
              next30 (wI (s30.1 - (nth prices i_26)), (s30.2.set i_26 (wI ((nth s30.2 i_26) - 1))))
              else
              next25 (s30.1, s30.2))) fuel (s25.1, s25.2)) k i (c, d) = k (c', redL B prices i c d)
  | 0, c, d, _, _, _, _ => ⟨c, rfl⟩
  | i + 1, c, d, hi, hd, h1, h2 => by
    have hdi := hd.bd i (by omega); have hsi := hs i (by omega); have hb := zgd hB (hp i (by omega)) (nth d i).toNat c h1 h2; obtain ⟨c', hc⟩ := zhh hB hp hs hf k i (redN B (nth prices i) (nth d i).toNat c).2 (d.set i ((redN B (nth prices i) (nth d i).toNat c).1 : Int)) (by omega) (hd.set (by omega) (by omega) (by omega)) hb.2.1 hb.2.2; refine ⟨c', ?_⟩
    show zaI _ fuel (c, d) = _
    rw [zil hB hp (by omega) hsi _ (nth d i).toNat fuel c d hd (by omega) (by omega) h1 h2]; exact hc
def totL (d : List Int) : Nat → Nat
  | 0 => 0
  | i + 1 => totL d i + (nth d i).toNat
theorem zgP {d : List Int} {x : Int} {i : Nat} : ∀ (m : Nat), m ≤ i → totL (d.set i x) m = totL d m
  | 0, _ => rfl
  | m + 1, h => by rw [totL, totL, zgP m (by omega), zbh (by omega)]
theorem zfo (hB : 0 ≤ B) (hpl : prices.length = l.length) (hp : ∀ j, j < l.length → 0 ≤ nth prices j ∧ nth prices j ≤ 549755813888) (hs : ∀ j, j < l.length → (nth l j).Supply ≤ 12) (k : List Int → Option ρ) : ∀ (fuel i : Nat) (c : Int) (d : List Int), i ≤ l.length → l.length ≤ 1000 → DemOk l d → totL d i + i < fuel → -549755813888 ≤ c → c ≤ 1125899906842624 →
    zaI (fun (next21 : (Int × Int × List Int) → Option ρ) (s21 : Int × Int × List Int) =>
          (bif ((decide (B < s21.1)) && (decide (0 ≤ s21.2.1))) then
            grd (0 ≤ s21.2.1 ∧ s21.2.1 < (s21.2.2.length : Int)) <|
            (bif decide ((nth s21.2.2 s21.2.1.toNat) = 0) then
              next21 (s21.1, wI (s21.2.1 - 1), s21.2.2)
              else
              grd (0 ≤ s21.2.1 ∧ s21.2.1 < (prices.length : Int)) <|
              next21 (wI (s21.1 - (nth prices s21.2.1.toNat)), s21.2.1, (s21.2.2.set s21.2.1.toNat (wI ((nth s21.2.2 s21.2.1.toNat) - 1)))))
            else
            k s21.2.2)) fuel (c, (i : Int) - 1, d) = k (redL B prices i c d)
  | 0, i, c, d, _, _, _, h, _, _ => by omega
  | fuel + 1, i, c, d, hi, hn, hd, hf, h1, h2 => by
    have hl := hd.len
    show (bif _ then _ else _) = _
    dsimp only; by_cases h : B < c
    · rw [decide_eq_true h, Bool.true_and]
      cases i with
      | zero => rw [decide_eq_false (by omega), cond_false]; rfl
      | succ i =>
        have hdi := hd.bd i (by omega); have hsi := hs i (by omega); have hpi := hp i (by omega); rw [decide_eq_true (by omega), cond_true, zaj (by omega), show ((((i + 1 : Nat) : Int) - 1)).toNat = i by omega]; by_cases hz : nth d i = 0
        · rw [decide_eq_true hz, cond_true, zbx (by omega)]; rw [show (((i + 1 : Nat) : Int) - 1 - 1) = (i : Int) - 1 by omega]; rw [zfo hB hpl hp hs k fuel i c d (by omega) hn hd (by rw [totL] at hf; omega) h1 h2]; rw [redL, hz]
          show _ = k (redL B prices i c (d.set i 0))
          rw [← hz, zeM (by omega)]
        · rw [decide_eq_false hz, cond_false, zaj (by omega), zbx (by omega), zbx (by omega)]
          rw [zfo hB hpl hp hs k fuel (i + 1) (c - nth prices i) (d.set i (nth d i - 1)) hi hn (hd.set (by omega) (by omega) (by omega)) (by
            rw [totL] at hf ⊢; rw [zgP i (Nat.le_refl _), zaL (by omega)]
            omega) (by omega) (by omega)]
          rw [redL, redL, zaL (by omega), List.set_set]; obtain ⟨n, hn⟩ : ∃ n : Nat, nth d i = ((n + 1 : Nat) : Int) := ⟨(nth d i).toNat - 1, by omega⟩; rw [hn, show (((n + 1 : Nat) : Int) - 1).toNat = n by omega, show (((n + 1 : Nat) : Int)).toNat = n + 1 by omega]; rw [show redN B (nth prices i) (n + 1) c = redN B (nth prices i) n (c - nth prices i) by rw [redN, decide_eq_true h, cond_true]]
    · rw [decide_eq_false h, Bool.false_and, cond_false, zhy i c d (by omega) (by omega) (fun j hj => (hd.bd j (by omega)).1)]
end
def csum (prices d : List Int) : Nat → Int
  | 0 => 0
  | i + 1 => csum prices d i + nth prices i * nth d i
theorem zfr {prices d : List Int} {x : Int} {i : Nat} : ∀ (m : Nat), m ≤ i → csum prices (d.set i x) m = csum prices d m
  | 0, _ => rfl
  | m + 1, h => by rw [csum, csum, zfr m (by omega), zbh (by omega)]
theorem zij {a b : Int} (h1 : 0 ≤ a) (h2 : a ≤ 549755813888) (h3 : 0 ≤ b) (h4 : b ≤ 12) : 0 ≤ a * b ∧ a * b ≤ 6597069766656 := by
  have h5 := Int.mul_nonneg h1 h3; have h6 := Int.mul_le_mul h2 h4 h3 (by omega : (0 : Int) ≤ 549755813888); omega
theorem zdJ {prices d : List Int} {n : Nat} (hp : ∀ j, j < n → 0 ≤ nth prices j ∧ nth prices j ≤ 549755813888) (hd : ∀ j, j < n → 0 ≤ nth d j ∧ nth d j ≤ 12) : ∀ (m : Nat), m ≤ n → 0 ≤ csum prices d m ∧ csum prices d m ≤ (m : Int) * 6597069766656
  | 0, _ => ⟨Int.le_refl _, by simp [csum]⟩
  | m + 1, h => by
    have h1 := zdJ hp hd m (by omega); have h2 := hp m (by omega); have h3 := hd m (by omega); have h4 := zij h2.1 h2.2 h3.1 h3.2; rw [csum]; generalize nth prices m * nth d m = z at *; omega
structure CntI (l : List GProduct) (i : Nat) (d : List Int) : Prop where
  len : d.length = l.length
  done : ∀ j, j < l.length → 0 ≤ nth d j ∧ nth d j ≤ 12 ∧ (j < i → nth d j ≤ (nth l j).Supply) ∧ (i ≤ j → nth d j = 0)
theorem ok12 {l : List GProduct} (h : ∀ j, j < l.length → okR (nth l j) = true) {j : Nat} (hj : j < l.length) : 1 ≤ (nth l j).Supply ∧ (nth l j).Supply ≤ 12 := by
  have := h j hj; rw [zdL] at this; omega
theorem zix (p : GProduct) : ((((((((((decide (p.Area < 0)) || (decide (63 < p.Area))) || (decide (p.Category < 1))) || (decide (2 < p.Category))) || (decide (p.Supply < 1))) || (decide (12 < p.Supply))) || (decide (p.Units < 1))) || (decide (100000 < p.Units))) || (decide (p.Reserve < 0))) || (decide (549755813888 < p.Reserve))) = !okR p := by unfold okR; rw [Bool.not_not]
theorem zc8 {l : List GProduct} (h : zaq l = true) : ∀ j, j < l.length → okR (nth l j) = true := by
  have key : ∀ m i, i + m = l.length → zam (fun (i_3 : Nat) (next2 : Unit → Bool) (_ : Unit) =>
      (bif ((((((((((decide ((nth l i_3).Area < 0)) || (decide (63 < (nth l i_3).Area))) || (decide ((nth l i_3).Category < 1))) || (decide (2 < (nth l i_3).Category))) || (decide ((nth l i_3).Supply < 1))) || (decide (12 < (nth l i_3).Supply))) || (decide ((nth l i_3).Units < 1))) || (decide (100000 < (nth l i_3).Units))) || (decide ((nth l i_3).Reserve < 0))) || (decide (549755813888 < (nth l i_3).Reserve))) then
        false
        else
        (bif decide (0 < (i_3 : Int)) then
          (bif ((decide ((nth l i_3).Area < (nth l (((i_3 : Int) - 1).toNat)).Area)) || ((decide ((nth l i_3).Area = (nth l (((i_3 : Int) - 1).toNat)).Area)) && ((decide ((nth l i_3).Category ≤ (nth l (((i_3 : Int) - 1).toNat)).Category)) || (decide (12 < wI (((nth l i_3).Supply) + ((nth l (((i_3 : Int) - 1).toNat)).Supply))))))) then
            false
            else
            next2 ())
          else
          next2 ()))) (fun _ => true) m i () = true → ∀ j, i ≤ j → j < l.length → okR (nth l j) = true := by
    intro m
    induction m with
    | zero => intro i hi _ j h1 h2; omega
    | succ m ih =>
      intro i hi h j h1 h2; rw [zbW] at h; (try dsimp only at h); rw [zix] at h
      have e : okR (nth l i) = true := by
        cases hc : okR (nth l i) with
        | true => rfl
        | false => rw [hc] at h; cases h
      rw [e, Bool.not_true, cond_false] at h; have h9 := h; by_cases hj : j = i
      · subst hj; exact e
      · refine ih (i + 1) (by omega) ?_ j (by omega) h2; generalize zam _ _ m (i + 1) () = y at h9 ⊢
        revert h9
        cases decide (0 < (i : Int))
        · exact id
        · rw [cond_true]; generalize (_ || _ : Bool) = z
          cases z
          · exact id
          · intro h; cases h
  unfold zaq at h; simp only [zap] at h; intro j hj; exact key (l.length - 0) 0 (by omega) h j (by omega) hj
theorem zhl {l : List GProduct} {d : List Int} (h : DemOk l d) : zbK l d = true := by
  unfold zbK; rw [decide_eq_false (by have := h.len; omega), cond_false]; simp only [zap]
  rw [show d.length - 0 = d.length from rfl, zd7 (fun _ => true) (fun i next hi => by
    have := h.bd i (by have := h.len; omega)
    rw [decide_eq_false (by omega), decide_eq_false (by omega)]; rfl)]
  simp
theorem zhE {l : List GProduct} {prices d : List Int} (hv : zaq l = true) (hd : DemOk l d) (hpl : prices.length = l.length) (hn : l.length ≤ 100) (hp : ∀ j, j < l.length → 0 ≤ nth prices j ∧ nth prices j ≤ 549755813888) : zb9 l prices d = some (csum prices d l.length, 0) := by
  unfold zb9 zbd; rw [pvalid, Option.bind_some, hv, zhl hd, Option.bind_some]; rw [show (!(true && true) || decide (¬ (prices.length : Int) = (l.length : Int))) = false by rw [hpl]; simp, cond_false]; simp only [zap]; have hl := hd.len; have hok := zc8 hv; (have h12 : ∀ j, j < l.length → 0 ≤ nth d j ∧ nth d j ≤ 12 := fun j hj => by have := hd.bd j hj; have := ok12 hok hj; omega)
  have key : ∀ m i, i + m = l.length → zam (fun (i_7 : Nat) (next6 : Int → Option (Int × Int)) (sum_5 : Int) =>
        (bif ((decide ((nth prices i_7) < 0)) || (decide (549755813888 < (nth prices i_7)))) then
          some (0, 2)
          else
          grd (0 ≤ (i_7 : Int) ∧ (i_7 : Int) < (d.length : Int)) <|
          next6 (wI (sum_5 + (wI ((nth prices i_7) * (nth d i_7))))))) (fun s => some (s, 0)) m i (csum prices d i) = some (csum prices d l.length, 0) := by
    intro m
    induction m with
    | zero => intro i hi; rw [show i = l.length by omega]; rfl
    | succ m ih =>
      intro i hi; have h1 := hp i (by omega); have h2 := h12 i (by omega); have h3 := zij h1.1 h1.2 h2.1 h2.2; have h4 := zdJ hp h12 i (by omega); rw [zbW]; (try dsimp only); rw [decide_eq_false (by omega), decide_eq_false (by omega), Bool.or_self, cond_false, zaj (by omega)]; have h5 := ih (i + 1) (by omega); rw [csum] at h5; generalize nth prices i * nth d i = z at *; rw [zbx (show -9223372036854775808 ≤ z ∧ z ≤ 9223372036854775807 by omega), zbx (by omega)]; exact h5
  rw [hpl]; exact key (l.length - 0) 0 (by omega)
theorem CntI.next {l : List GProduct} {i : Nat} {d : List Int} (h : CntI l i d) (hs : i < l.length → 1 ≤ (nth l i).Supply) : CntI l (i + 1) d :=
  ⟨h.len, fun j hj => by
    have h1 := h.done j hj; refine ⟨h1.1, h1.2.1, fun h2 => ?_, fun h2 => h1.2.2.2 (by omega)⟩; by_cases e : j < i
    · exact h1.2.2.1 e
    · have := h1.2.2.2 (by omega); (have e2 : j = i := by omega); subst e2; have := hs hj
      omega⟩
theorem zfz {p : GBidderPlan} {l : List GProduct} {prices : List Int} {fuel : Nat} (hf : 10000 ≤ fuel) (hn : l.length ≤ 100) :
    (zar fuel p l prices = some ([], 2) ∧ zcu fuel p l prices = some ([], 2) ∧ (zaW p l = some false ∨ zai l prices = false)) ∨
    (zaW p l = some true ∧ zai l prices = true ∧ PlanOk p l ∧ prices.length = l.length ∧ (∀ j, j < l.length → 0 ≤ nth prices j ∧ nth prices j ≤ 549755813888) ∧ ∃ d, CntI l l.length d ∧ DemOk l d ∧ zar fuel p l prices = some (redL p.Budget prices l.length (csum prices d l.length) d, 0) ∧ zcu fuel p l prices = some (redL p.Budget prices l.length (csum prices d l.length) d, 0)) := by
  obtain ⟨b, hb, hok⟩ := zdS p l
  cases hv : (b && zai l prices) with
  | false =>
    left; refine ⟨?_, ?_, ?_⟩
    · unfold zar; rw [zco, hb, Option.bind_some]
      cases b
      · rfl
      · rw [Bool.true_and] at hv; rw [hv]; rfl
    · unfold zcu; rw [hb, Option.bind_some]
      cases b
      · rfl
      · rw [Bool.true_and, zb8] at hv; by_cases hpl : prices.length = l.length
        · rw [decide_eq_true (show (prices.length : Int) = (l.length : Int) by omega), Bool.true_and] at hv; rw [hv]; simp
        · rw [decide_eq_true (show ¬ (prices.length : Int) = (l.length : Int) by omega)]; rfl
    · cases b
      · exact .inl hb
      · exact .inr (by simpa using hv)
  | true =>
      right; rw [Bool.and_eq_true] at hv; obtain ⟨rfl, hvp⟩ := hv; refine ⟨hb, hvp, ?_⟩; rw [zb8, Bool.and_eq_true, decide_eq_true_eq] at hvp; (have hpl : prices.length = l.length := by omega); have hal := hvp.2; unfold zar zcu; rw [zco, zb8, hb, Option.bind_some, Option.bind_some, decide_eq_true (show (prices.length : Int) = (l.length : Int) by omega), decide_eq_false (show ¬ ¬ (prices.length : Int) = (l.length : Int) by omega), hal]; have hpl2 := hok rfl; have hp : ∀ j, j < l.length → 0 ≤ nth prices j ∧ nth prices j ≤ 549755813888 := fun j hj => all_iff.1 hal j (by omega); have hR := zc8 hpl2.prods; refine ⟨hpl2, hpl, hp, ?_⟩; rw [show (!true || !(true && true)) = false from rfl, cond_false, show (!true || false || !true) = false from rfl, cond_false]; unfold zaJ; rw [zaj (show room l.length 8 by unfold room; omega), zaj (show room l.length 8 by unfold room; omega)]; simp only [zap]
      let post : Option (List Int × Int) → Option (List Int × Int) → Prop := fun x y => ∃ d, CntI l l.length d ∧ DemOk l d ∧ (x.bind fun r21 => some (r21.1, r21.2)) = some (redL p.Budget prices l.length (csum prices d l.length) d, 0) ∧ y = some (redL p.Budget prices l.length (csum prices d l.length) d, 0)
      generalize hx : zam _ _ (l.length - 0) 0 (List.replicate l.length (0 : Int)) = x; generalize hy : zam _ _ (l.length - 0) 0 ((0 : Int), List.replicate l.length (0 : Int)) = y
      show post x y
      rw [← hx, ← hy]; refine zcB (n := l.length) (fun i (d : List Int) (s : Int × List Int) => s.2 = d ∧ s.1 = csum prices d i ∧ CntI l i d) post ?_ (fun d s hR2 => ?_) (fun i d s next next' hi hR2 hnx => ?_)
      · refine ⟨rfl, rfl, List.length_replicate, fun j hj => ?_⟩; (have e : nth (List.replicate l.length (0 : Int)) j = 0 := by rw [zbw (by simpa using hj)]; simp); have := ok12 hR hj; rw [e]; omega
      · obtain ⟨h1, h2, h3⟩ := hR2; obtain ⟨c, d'⟩ := s; dsimp only at h1 h2; subst h1 h2; have hd : DemOk l d' := ⟨h3.len, fun j hj => by have := h3.done j hj; exact ⟨this.1, this.2.2.1 (by omega)⟩⟩; (have h12 : ∀ j, j < l.length → 0 ≤ nth d' j ∧ nth d' j ≤ 12 := fun j hj => by have := h3.done j hj; omega); have hcb := zdJ hp h12 l.length (Nat.le_refl _); refine ⟨d', h3, hd, ?_, ?_⟩
        · rw [zhE hpl2.prods hd hpl hn hp, Option.bind_some, decide_eq_false (by simp), cond_false]; (try dsimp only)
          have hpr := zfo (ρ := List Int × Int) hpl2.budget.1 hpl hp (fun j hj => (ok12 hR hj).2) (fun l_16 => some (l_16, 0)) fuel l.length (csum prices d' l.length) d' (Nat.le_refl _) (by omega) hd (by
            have ht : ∀ m, m ≤ l.length → totL d' m ≤ m * 12 := by
              intro m
              induction m with
              | zero => intro _; exact Nat.le_refl _
              | succ m ih =>
                intro hm; have := ih (by omega); have := h12 m (by omega); rw [totL]; omega
            have := ht l.length (Nat.le_refl _)
            omega) (by omega) (by omega)
          rw [hpr]
          rfl
        · obtain ⟨c', hc⟩ := zhh hpl2.budget.1 hp (fun j hj => (ok12 hR hj).2) (show 12 < fuel by omega) (fun (s25 : Int × List Int) => some (s25.2, (0 : Int))) l.length (csum prices d' l.length) d' (Nat.le_refl _) hd (by omega) (by omega); exact hc
      · obtain ⟨h1, h2, h3⟩ := hR2; obtain ⟨c, d'⟩ := s; dsimp only at h1 h2; subst h1 h2; (try dsimp only); have hvl := hpl2.len; have hpi := hp i hi; rw [zaj (by omega), zaj (by omega)]; have hcs := ok12 hR hi; refine zcB (n := (nth p.Values i).length) (fun _ (d : List Int) (s : Int × List Int) => s.2 = d ∧ s.1 = csum prices d (i + 1) ∧ CntI l (i + 1) d) post ?_ (fun d s hR2 => ?_) (fun k d s next next' hk hR2 hnx => ?_)
        · refine ⟨rfl, ?_, h3.next fun _ => hcs.1⟩
          show csum prices d' i = csum prices d' i + nth prices i * nth d' i
          rw [(h3.done i hi).2.2.2 (Nat.le_refl _), Int.mul_zero, Int.add_zero]
        · obtain ⟨h1, h2, h4⟩ := hR2; exact hnx d (s.1, s.2) ⟨h1, h2, h4⟩
        · obtain ⟨h1, h2, h4⟩ := hR2; obtain ⟨c, d'⟩ := s; dsimp only at h1 h2; subst h1 h2; (try dsimp only); have hl4 := h4.len; rw [zaj (by omega)]; by_cases hv : nth prices i ≤ nth (nth p.Values i) k
          · rw [decide_eq_true hv, cond_true, cond_true, zaj (by omega), zaj (by omega)]; by_cases hs : nth d' i < (nth l i).Supply
            · rw [decide_eq_true hs, cond_true, cond_true, zaj (by omega), zaj (by omega)]; have hdi := h4.done i hi; (have h12 : ∀ j, j < l.length → 0 ≤ nth d' j ∧ nth d' j ≤ 12 := fun j hj => by have := h4.done j hj; omega); have hcb := zdJ hp h12 (i + 1) (by omega); rw [zbx (show -9223372036854775808 ≤ nth d' i + 1 ∧ nth d' i + 1 ≤ 9223372036854775807 by omega), zbx (by omega)]; refine hnx _ _ ⟨rfl, ?_, ?_⟩
              · show csum prices d' (i + 1) + nth prices i = csum prices (d'.set i (nth d' i + 1)) (i + 1)
                rw [csum, csum, zfr i (Nat.le_refl _), zaL (by omega), Int.mul_add, Int.mul_one, Int.add_assoc]
              · refine ⟨by rw [List.length_set]; exact h4.len, fun j hj => ?_⟩; by_cases e : j = i
                · subst e; rw [zaL (by omega)]; omega
                · rw [zbh e]; exact h4.done j hj
            · rw [decide_eq_false hs, cond_false, cond_false]
              first | rw [zaj (by omega)] | skip
              exact hnx d' (csum prices d' (i + 1), d') ⟨rfl, rfl, h4⟩
          · rw [decide_eq_false hv, cond_false, cond_false, cond_false, cond_false]; exact hnx d' (csum prices d' (i + 1), d') ⟨rfl, rfl, h4⟩
theorem zhj (n : Nat) : zbO (n + 100000) = some true := by kernel_rfl
theorem zhq {fuel : Nat} (hf : 100000 ≤ fuel) : zbO fuel = some true := by
  obtain ⟨n, rfl⟩ : ∃ n, fuel = n + 100000 := ⟨fuel - 100000, by omega⟩; exact zhj n
theorem ziz {p : GBidderPlan} {l : List GProduct} (h : zci p l = true) : p.Values.length ≤ 8 ∧ l.length ≤ 8 := by
  unfold zci at h; simp only [zap] at h
  have key : ∀ m i, zam (fun (i_3 : Nat) (next2 : Unit → Bool) (_ : Unit) => (bif decide (16 < ((nth p.Values i_3).length : Int)) then false else next2 ())) (fun _ => ((decide ((p.Values.length : Int) ≤ 8)) && (decide ((l.length : Int) ≤ 8)))) m i () = true → p.Values.length ≤ 8 ∧ l.length ≤ 8 := by
    intro m
    induction m with
    | zero => intro i h; have h2 : ((decide ((p.Values.length : Int) ≤ 8)) && (decide ((l.length : Int) ≤ 8))) = true := h; simp only [Bool.and_eq_true, decide_eq_true_eq] at h2; omega
    | succ m ih =>
      intro i h; rw [zbW] at h; (try dsimp only at h)
      cases hc : decide (16 < ((nth p.Values i).length : Int)) with
      | true => rw [hc] at h; cases h
      | false => rw [hc] at h; exact ih (i + 1) h
  exact key _ _ h
theorem zhk (a : List Int) : za2 a a = true := by
  unfold za2; rw [decide_eq_false (by simp), cond_false]; simp only [zap]
  rw [show a.length - 0 = a.length from rfl, zd7 (fun _ => true) (fun i next hi => by
    rw [decide_eq_false (by simp)]; rfl)]
  simp
def valI (v : List Int) (k : Int) : Int := if k < (v.length : Int) then nth v k.toNat else 0
def ptI (v : List Int) (k s c : Int) : Int := if s < c ∧ valI v k < c then (max (valI v k - s) 0 * 1000) / (c - s) else 1000
structure PtIn (v : List Int) (s c : Int) : Prop where
  hv : ∀ k, k < v.length → 0 ≤ nth v k ∧ nth v k ≤ 549755813888
  hs : 0 ≤ s
  hsc : s ≤ c
  hc : c ≤ 549755813888
theorem PtIn.val {v : List Int} {s c : Int} (h : PtIn v s c) (k : Int) (hk : 0 ≤ k) : 0 ≤ valI v k ∧ valI v k ≤ 549755813888 := by
  unfold valI
  split
  · exact h.hv k.toNat (by omega)
  · omega
theorem zhG {v : List Int} {s c k : Int} (h : PtIn v s c) (hk : 0 ≤ k) : 0 ≤ ptI v k s c ∧ ptI v k s c ≤ 1000 := by
  have h1 := h.val k hk; have h2 := h.hs; unfold ptI
  split
  · rename_i hc; constructor
    · exact Int.ediv_nonneg (by omega) (by omega)
    · (have : max (valI v k - s) 0 * 1000 < (c - s) * 1001 := by omega); have h3 := Int.ediv_lt_of_lt_mul (by omega : 0 < c - s) (show max (valI v k - s) 0 * 1000 < 1001 * (c - s) by rw [Int.mul_comm 1001]; exact this); omega
  · omega
theorem ziK {v : List Int} {s c k : Int} (h : PtIn v s c) (hk : 0 ≤ k) : zb6 v k s c = some (ptI v k s c) := by
  have h1 := h.val k hk; have h2 := h.hs; have h3 := h.hsc; have h4 := h.hc
  have e : zb6 v k s c = (bif ((decide (c = s)) || (decide (c ≤ valI v k))) then
      some 1000
      else
      (bif decide (valI v k < s) then
        some 0
        else
        grd (0 ≤ wI ((wI (valI v k - s)) * 1000) ∧ wI ((wI (valI v k - s)) * 1000) ≤ 9223372036854775807 ∧ 1 ≤ wI (c - s)) <|
        some ((wI ((wI (valI v k - s)) * 1000)) / (wI (c - s))))) := by
    unfold zb6 valI; simp only [zap]; by_cases hv : k < (v.length : Int)
    · rw [decide_eq_true hv, cond_true, zaj (by omega), if_pos hv]
    · rw [decide_eq_false hv, cond_false, if_neg hv]
  rw [e]; unfold ptI; generalize valI v k = z at *; by_cases hc : s < c ∧ z < c
  · rw [decide_eq_false (by omega), decide_eq_false (by omega), Bool.or_self, cond_false, if_pos hc]; by_cases hs : z < s
    · rw [decide_eq_true hs, cond_true, show max (z - s) 0 = 0 by omega, Int.zero_mul, Int.zero_ediv]
    · rw [decide_eq_false hs, cond_false]; have w1 : wI (z - s) = z - s := zbx (by omega); have w2 : wI (c - s) = c - s := zbx (by omega); rw [w1, w2]; have w3 : wI ((z - s) * 1000) = (z - s) * 1000 := zbx (by omega); rw [w3, zaj (by omega), show max (z - s) 0 = z - s by omega]
  · rw [if_neg hc]
    rw [show ((decide (c = s)) || (decide (c ≤ z))) = true by
      simp only [Bool.or_eq_true, decide_eq_true_eq]
      omega, cond_true]
def cntU (P : Int → Bool) : Nat → Int → Int
  | 0, _ => 0
  | m + 1, k => (bif P k then 1 else 0) + cntU P m (k + 1)
theorem zgb (P : Int → Bool) : ∀ (m : Nat) (k : Int), 0 ≤ cntU P m k ∧ cntU P m k ≤ m
  | 0, k => ⟨Int.le_refl _, Int.le_refl _⟩
  | m + 1, k => by
    have := zgb P m (k + 1); rw [cntU]
    cases P k
    · rw [cond_false]; omega
    · rw [cond_true]; omega
theorem zgn {ρ : Type} {p : GBidderPlan} {i : Nat} {b at_ s c : Int} {clocks : List Int} (h : PtIn (nth p.Values i) s c) (hi : i < p.Values.length) (hi2 : i < clocks.length) (hb : b ≤ 12) (k25 : Int → Option ρ) : ∀ (m fuel : Nat) (n k : Int), 0 ≤ k → (b - k).toNat = m → m < fuel → 0 ≤ n → n ≤ 12 - (m : Int) →
    zaI (fun (next28 : (Int × Int) → Option ρ) (s28 : Int × Int) =>
                    (bif decide (s28.2 < b) then
                      grd (0 ≤ (i : Int) ∧ (i : Int) < (p.Values.length : Int)) <|
                      grd (0 ≤ (i : Int) ∧ (i : Int) < (clocks.length : Int)) <|
                      (zb6 (nth p.Values i) s28.2 s c).bind fun r121 =>
                      (bif decide (r121 = at_) then
                        next28 (wI (s28.1 + 1), wI (s28.2 + 1))
                        else
                        next28 (s28.1, wI (s28.2 + 1)))
                      else
                      k25 s28.1)) fuel (n, k) = k25 (n + cntU (fun k => decide (ptI (nth p.Values i) k s c = at_)) m k)
  | m, 0, n, k, _, _, hf, _, _ => by omega
  | 0, fuel + 1, n, k, h0, hm, hf, _, _ => by
    show (bif _ then _ else _) = _
    (try dsimp only); rw [decide_eq_false (by omega), cond_false, cntU, Int.add_zero]
  | m + 1, fuel + 1, n, k, h0, hm, hf, n0, n1 => by
    show (bif _ then _ else _) = _
    (try dsimp only); rw [decide_eq_true (by omega), cond_true, zaj (by omega), zaj (by omega), ziK h h0, Option.bind_some, cntU]; rw [zbx (show -9223372036854775808 ≤ k + 1 ∧ k + 1 ≤ 9223372036854775807 by omega)]
    cases hc : decide (ptI (nth p.Values i) k s c = at_) with
    | true =>
      rw [cond_true, cond_true, zbx (by omega), zgn h hi hi2 hb k25 m fuel (n + 1) (k + 1) (by omega) (by omega) (by omega) (by omega) (by omega), Int.add_assoc]
    | false =>
      rw [cond_false, cond_false, zgn h hi hi2 hb k25 m fuel n (k + 1) (by omega) (by omega) (by omega) (by omega) (by omega), Int.zero_add]
theorem ze0 {κ α : Type} [DecidableEq κ] {m : List (κ × α)} {k : κ} {v : α} (h : (m.map (·.1)).Nodup) : ((qset m k v).map (·.1)).Nodup := by
  unfold qset; by_cases hk : m.any (fun e => decide (e.1 = k)) = true
  · rw [hk, cond_true, List.map_map]
    have e : (m.map ((fun x => x.1) ∘ fun e => bif decide (e.1 = k) then (k, v) else e)) = m.map (·.1) := by
      refine List.map_congr_left fun x _ => ?_
      show (bif decide (x.1 = k) then (k, v) else x).1 = x.1
      by_cases hx : x.1 = k
      · rw [decide_eq_true hx, cond_true, hx]
      · rw [decide_eq_false hx, cond_false]
    rw [e]; exact h
  · rw [Bool.not_eq_true] at hk; rw [hk, cond_false, List.map_append, List.map_cons, List.map_nil]; refine List.nodup_append.2 ⟨h, List.nodup_cons.2 ⟨by simp, .nil⟩, fun a ha b hb => ?_⟩; obtain rfl := List.mem_singleton.1 hb; rintro rfl; obtain ⟨x, hx, hxa⟩ := List.mem_map.1 ha; have := List.any_eq_false.1 hk x hx; simp [hxa] at this
theorem zf5 {κ α : Type} [DecidableEq κ] (m : List (κ × α)) (k : κ) (v : α) : qf (qset m k v) k = some v := by
  rw [zdq]; exact zdo _ _ _
theorem ze6 {κ α : Type} [DecidableEq κ] (m : List (κ × α)) {k j : κ} (v : α) (h : j ≠ k) : qf (qset m k v) j = qf m j := by
  rw [zdq]; exact zcp _ _ h
def cO (n : Int) : Option Int := bif decide (n = 0) then none else some n
theorem ziH (n : Int) : (cO n).getD 0 = n := by
  unfold cO; by_cases h : n = 0
  · rw [decide_eq_true h, cond_true, h]; rfl
  · rw [decide_eq_false h, cond_false]; rfl
theorem ziw {n : Int} (h : 0 ≤ n) : cO (n + 1) = some (n + 1) := by
  unfold cO; rw [decide_eq_false (by omega), cond_false]
def atP (v : List Int) (s c t : Int) (k : Int) : Bool := decide (ptI v k s c = t)
theorem zj5 {p : GBidderPlan} {i : Nat} {b d s c : Int} (h : PtIn (nth p.Values i) s c) (hi : i < p.Values.length) (hi9 : i < 1000) (hb : b ≤ 12) (hd : 0 ≤ d) : ∀ (m fuel : Nat) (n : Int) (M : List (Gpoint × Int)), n - d = (m : Int) → m < fuel → n ≤ b → (M.map (·.1)).Nodup →
    (∀ x, qf M x = bif decide (x.product = (i : Int)) then cO (cntU (atP (nth p.Values i) s c x.thousandths) (b - n).toNat n) else none) →
    ∃ M', zaI (fun (next3 : (Int × (List (Gpoint × Int))) → Option (List (Gpoint × Int))) (s3 : Int × (List (Gpoint × Int))) =>
    (bif decide (d < s3.1) then
      grd (0 ≤ (i : Int) ∧ (i : Int) < (p.Values.length : Int)) <|
      zap (fun (value_6 : Int) =>
        zap (fun (s12 : Int × Int) =>
          next3 (wI (s3.1 - 1), (qset s3.2 (Gpoint.mk s12.1 s12.2) (wI (((qf s3.2 (Gpoint.mk s12.1 s12.2)).getD 0) + 1)))))
        (fun k12 =>
          (bif ((decide (s < c)) && (decide (value_6 < c))) then
            grd (0 ≤ wI ((max (wI (value_6 - s)) 0) * 1000) ∧ wI ((max (wI (value_6 - s)) 0) * 1000) ≤ 9223372036854775807 ∧ 1 ≤ wI (c - s)) <|
            k12 ((i : Int), ((wI ((max (wI (value_6 - s)) 0) * 1000)) / (wI (c - s))))
            else
            k12 ((i : Int), 1000))))
      (fun k7 =>
        (bif decide (s3.1 ≤ ((nth p.Values (i : Int).toNat).length : Int)) then
          grd (0 ≤ wI (s3.1 - 1) ∧ wI (s3.1 - 1) < ((nth p.Values (i : Int).toNat).length : Int)) <|
          k7 (nth (nth p.Values (i : Int).toNat) ((wI (s3.1 - 1)).toNat))
          else
          k7 0))
      else
      some s3.2)) fuel (n, M) = some M' ∧ (M'.map (·.1)).Nodup ∧ ∀ x, qf M' x = bif decide (x.product = (i : Int)) then cO (cntU (atP (nth p.Values i) s c x.thousandths) (b - d).toNat d) else none
  | m, 0, n, M, _, hf, _, _, _ => by omega
  | 0, fuel + 1, n, M, hm, _, hn, hnd, hM => by
    refine ⟨M, ?_, hnd, ?_⟩
    · show (bif _ then _ else _) = _
      (try dsimp only); rw [decide_eq_false (by omega), cond_false]
    · rw [show d = n by omega]; exact hM
  | m + 1, fuel + 1, n, M, hm, hf, hn, hnd, hM => by
    have hp := zhG h (k := n - 1) (by omega); have hv := h.val (n - 1) (by omega); have h2 := h.hs; have h3 := h.hsc; have h4 := h.hc
    -- the round
    have key : ∀ (next : (Int × (List (Gpoint × Int))) → Option (List (Gpoint × Int))), (grd (0 ≤ (i : Int) ∧ (i : Int) < (p.Values.length : Int)) <|
      zap (fun (value_6 : Int) =>
        zap (fun (s12 : Int × Int) =>
          next (wI (n - 1), (qset M (Gpoint.mk s12.1 s12.2) (wI (((qf M (Gpoint.mk s12.1 s12.2)).getD 0) + 1)))))
        (fun k12 =>
          (bif ((decide (s < c)) && (decide (value_6 < c))) then
            grd (0 ≤ wI ((max (wI (value_6 - s)) 0) * 1000) ∧ wI ((max (wI (value_6 - s)) 0) * 1000) ≤ 9223372036854775807 ∧ 1 ≤ wI (c - s)) <|
            k12 ((i : Int), ((wI ((max (wI (value_6 - s)) 0) * 1000)) / (wI (c - s))))
            else
            k12 ((i : Int), 1000))))
      (fun k7 =>
        (bif decide (n ≤ ((nth p.Values (i : Int).toNat).length : Int)) then
          grd (0 ≤ wI (n - 1) ∧ wI (n - 1) < ((nth p.Values (i : Int).toNat).length : Int)) <|
          k7 (nth (nth p.Values (i : Int).toNat) ((wI (n - 1)).toNat))
          else
          k7 0))) = next (n - 1, qset M ⟨(i : Int), ptI (nth p.Values i) (n - 1) s c⟩ (wI ((qf M ⟨(i : Int), ptI (nth p.Values i) (n - 1) s c⟩).getD 0 + 1))) := by
      intro next; rw [zaj (by omega), show (i : Int).toNat = i by omega, zbx (show -9223372036854775808 ≤ n - 1 ∧ n - 1 ≤ 9223372036854775807 by omega)]
      have fin : ∀ z, z = valI (nth p.Values i) (n - 1) → (bif ((decide (s < c)) && (decide (z < c))) then
            grd (0 ≤ wI ((max (wI (z - s)) 0) * 1000) ∧ wI ((max (wI (z - s)) 0) * 1000) ≤ 9223372036854775807 ∧ 1 ≤ wI (c - s)) <|
            next (n - 1, (qset M (Gpoint.mk (i : Int) ((wI ((max (wI (z - s)) 0) * 1000)) / (wI (c - s)))) (wI (((qf M (Gpoint.mk (i : Int) ((wI ((max (wI (z - s)) 0) * 1000)) / (wI (c - s))))).getD 0) + 1))))
            else
            next (n - 1, (qset M (Gpoint.mk (i : Int) 1000) (wI (((qf M (Gpoint.mk (i : Int) 1000)).getD 0) + 1))))) = next (n - 1, qset M ⟨(i : Int), ptI (nth p.Values i) (n - 1) s c⟩ (wI ((qf M ⟨(i : Int), ptI (nth p.Values i) (n - 1) s c⟩).getD 0 + 1))) := by
        intro z hz; unfold ptI; rw [← hz]; rw [← hz] at hv; by_cases hc : s < c ∧ z < c
        · rw [decide_eq_true hc.1, decide_eq_true hc.2, Bool.and_self, cond_true, if_pos hc]; have w1 : wI (z - s) = z - s := zbx (by omega); have w2 : wI (c - s) = c - s := zbx (by omega); rw [w1, w2]; have w3 : wI (max (z - s) 0 * 1000) = max (z - s) 0 * 1000 := zbx (by omega); rw [w3, zaj (by omega)]
        · rw [if_neg hc, show ((decide (s < c)) && (decide (z < c))) = false by
            rw [← Bool.not_eq_true]; simp only [Bool.and_eq_true, decide_eq_true_eq]; exact hc, cond_false]
      simp only [zap]; by_cases hl : n ≤ ((nth p.Values i).length : Int)
      · rw [decide_eq_true hl, cond_true, zaj (by omega)]; exact fin _ (by unfold valI; rw [if_pos (by omega)])
      · rw [decide_eq_false hl, cond_false]; exact fin _ (by unfold valI; rw [if_neg (by omega)])
    have hcnt := zgb (atP (nth p.Values i) s c (ptI (nth p.Values i) (n - 1) s c)) (b - n).toNat n; have hq := hM ⟨(i : Int), ptI (nth p.Values i) (n - 1) s c⟩; rw [show decide ((⟨(i : Int), ptI (nth p.Values i) (n - 1) s c⟩ : Gpoint).product = (i : Int)) = true from decide_eq_true rfl, cond_true] at hq
    obtain ⟨M', h5, h6, h7⟩ := zj5 h hi hi9 hb hd m fuel (n - 1) (qset M ⟨(i : Int), ptI (nth p.Values i) (n - 1) s c⟩ (wI ((qf M ⟨(i : Int), ptI (nth p.Values i) (n - 1) s c⟩).getD 0 + 1))) (by omega) (by omega) (by omega) (ze0 hnd) (fun x => by
      (have e1 : (b - (n - 1)).toNat = (b - n).toNat + 1 := by omega); (have e3 : n - 1 + 1 = n := by omega); by_cases hx : x = ⟨(i : Int), ptI (nth p.Values i) (n - 1) s c⟩
      · subst hx; rw [zf5, hq, ziH, decide_eq_true rfl, cond_true, e1, cntU, e3]; dsimp only at hcnt ⊢; rw [show atP (nth p.Values i) s c (ptI (nth p.Values i) (n - 1) s c) (n - 1) = true from decide_eq_true rfl, cond_true, zbx (by omega), Int.add_comm 1, ziw (by omega)]
      · rw [ze6 _ _ hx, hM x]; by_cases hi2 : x.product = (i : Int)
        · rw [decide_eq_true hi2, cond_true, cond_true, e1, cntU, e3, show atP (nth p.Values i) s c x.thousandths (n - 1) = false from decide_eq_false (fun e => hx (by cases x; simp_all)), cond_false, Int.zero_add]
        · rw [decide_eq_false hi2, cond_false, cond_false])
    refine ⟨M', ?_, h6, h7⟩; rw [← h5]
    show (bif _ then _ else _) = _
    (try dsimp only); rw [decide_eq_true (by omega), cond_true]; exact key _
def cntT (p : GBidderPlan) (d blocks starts clocks : List Int) (i : Nat) (t : Int) : Int := cntU (atP (nth p.Values i) (nth starts i) (nth clocks i) t) (nth blocks i - nth d i).toNat (nth d i)
def chgO (p : GBidderPlan) (d blocks starts clocks : List Int) (i : Nat) (t : Int) : Option Int := bif decide (nth blocks i < nth d i) then (bif decide (t = 1000) then some (nth d i - nth blocks i) else none) else (cO (cntT p d blocks starts clocks i t)).map fun n => -n
structure BidsIn (p : GBidderPlan) (l : List GProduct) (d blocks starts clocks : List Int) : Prop where
  n : l.length ≤ 100
  pl : p.Values.length = l.length
  dl : d.length = l.length
  bl : blocks.length = l.length
  sl : starts.length = l.length
  cl : clocks.length = l.length
  db : ∀ i, i < l.length → 0 ≤ nth d i ∧ nth d i ≤ 12
  bb : ∀ i, i < l.length → 0 ≤ nth blocks i ∧ nth blocks i ≤ 12
  pt : ∀ i, i < l.length → PtIn (nth p.Values i) (nth starts i) (nth clocks i)
section
variable {p : GBidderPlan} {l : List GProduct} {d blocks starts clocks : List Int} {ρ : Type}
theorem zeg (h : BidsIn p l d blocks starts clocks) {i : Nat} (hi : i < l.length) (t : Int) : 0 ≤ cntT p d blocks starts clocks i t ∧ cntT p d blocks starts clocks i t ≤ 12 := by
  have h1 := zgb (atP (nth p.Values i) (nth starts i) (nth clocks i) t) (nth blocks i - nth d i).toNat (nth d i); have h2 := h.db i hi; have h3 := h.bb i hi; unfold cntT; omega
structure ChgM (p : GBidderPlan) (d blocks starts clocks : List Int) (i : Nat) (M : List (Gpoint × Int)) : Prop where
  nd : (M.map (·.1)).Nodup
  qf : ∀ x, qf M x = bif decide (0 ≤ x.product ∧ x.product < (i : Int)) then chgO p d blocks starts clocks x.product.toNat x.thousandths else none
theorem ze5 : ∀ (m m2 : List (Gpoint × Int)), (m2.map (·.1)).Nodup → ((zft m m2).map (·.1)).Nodup
  | [], m2, h => h
  | e :: r, m2, h => ze0 (ze5 r m2 h)
theorem ziD (h : BidsIn p l d blocks starts clocks) {i : Nat} (hi : i < l.length) (hdb : nth d i ≤ nth blocks i) {fuel : Nat} (hf : 100 < fuel) : ∃ M', zaS fuel ([] : List (Gpoint × Int)) p (i : Int) (nth blocks i) (nth d i) (nth starts i) (nth clocks i) = some M' ∧ (M'.map (·.1)).Nodup ∧ ∀ x, qf M' x = bif decide (x.product = (i : Int)) then cO (cntT p d blocks starts clocks i x.thousandths) else none := by
  have h1 := h.db i hi; have h2 := h.bb i hi; have hn := h.n
  exact zj5 (h.pt i hi) (by rw [h.pl]; exact hi) (by omega) h2.2 h1.1 (nth blocks i - nth d i).toNat fuel (nth blocks i) [] (by omega) (by omega) (Int.le_refl _) .nil (fun x => by
    rw [show (nth blocks i - nth blocks i).toNat = 0 by omega]
    cases decide (x.product = (i : Int)) <;> rfl)
theorem zfv (h : BidsIn p l d blocks starts clocks) {fuel : Nat} (hf : 100 < fuel) (k : List (Gpoint × Int) → Option ρ) : ∀ (m i : Nat) (M : List (Gpoint × Int)), i + m = l.length → ChgM p d blocks starts clocks i M →
    ∃ M', zam (fun (i_17 : Nat) (next16 : (List (Gpoint × Int)) → Option ρ) (l_15 : List (Gpoint × Int)) =>
              zap (fun (l_19 : List (Gpoint × Int)) =>
                next16 l_19)
              (fun k20 =>
                grd (0 ≤ (i_17 : Int) ∧ (i_17 : Int) < (blocks.length : Int)) <|
                (bif decide ((nth blocks i_17) < (nth d i_17)) then
                  k20 (qset l_15 (Gpoint.mk (i_17 : Int) 1000) (wI ((nth d i_17) - (nth blocks i_17))))
                  else
                  grd (0 ≤ (i_17 : Int) ∧ (i_17 : Int) < (starts.length : Int)) <|
                  grd (0 ≤ (i_17 : Int) ∧ (i_17 : Int) < (clocks.length : Int)) <|
                  (zaS fuel ([] : List (Gpoint × Int)) p (i_17 : Int) (nth blocks i_17) (nth d i_17) (nth starts i_17) (nth clocks i_17)).bind fun r108 =>
                  k20 (zft r108 l_15)))) k m i M = k M' ∧ ChgM p d blocks starts clocks l.length M'
  | 0, i, M, hi, hM => ⟨M, rfl, by rw [← hi]; exact hM⟩
  | m + 1, i, M, hi, hM => by
    have h1 := h.db i (by omega); have h2 := h.bb i (by omega); have e1 := h.bl; have e2 := h.sl; have e3 := h.cl; rw [zbW]; simp only [zap]; rw [zaj (by omega)]; by_cases hb : nth blocks i < nth d i
    · rw [decide_eq_true hb, cond_true, zbx (by omega)]; refine zfv h hf k m (i + 1) _ (by omega) ⟨ze0 hM.nd, fun x => ?_⟩; by_cases hx : x = ⟨(i : Int), 1000⟩
      · subst hx; rw [zf5]; dsimp only; rw [decide_eq_true (by omega), cond_true, show (i : Int).toNat = i by omega]; unfold chgO; rw [decide_eq_true hb, cond_true, decide_eq_true rfl, cond_true]
      · rw [ze6 _ _ hx, hM.qf x]; by_cases hi2 : x.product = (i : Int)
        · rw [decide_eq_false (by omega), cond_false, decide_eq_true (by omega), cond_true, hi2, show (i : Int).toNat = i by omega]; unfold chgO; rw [decide_eq_true hb, cond_true, decide_eq_false (fun e => hx (by cases x; simp_all)), cond_false]
        · rw [show decide (0 ≤ x.product ∧ x.product < (i : Int)) = decide (0 ≤ x.product ∧ x.product < ((i + 1 : Nat) : Int)) from by rw [Bool.eq_iff_iff]; simp only [decide_eq_true_eq]; omega]
    · rw [decide_eq_false hb, cond_false, zaj (by omega), zaj (by omega)]; obtain ⟨M', h5, h6, h7⟩ := ziD h (show i < l.length by omega) (by omega) hf; rw [h5, Option.bind_some]; refine zfv h hf k m (i + 1) _ (by omega) ⟨ze5 _ _ hM.nd, fun x => ?_⟩; rw [zfq]; unfold qneg; rw [h7 x]; by_cases hi2 : x.product = (i : Int)
      · rw [decide_eq_true hi2, cond_true, decide_eq_true (by omega), cond_true, hi2, show (i : Int).toNat = i by omega]; have hct := zeg h (show i < l.length by omega) x.thousandths; unfold chgO; rw [decide_eq_false hb, cond_false]; generalize cntT p d blocks starts clocks i x.thousandths = n at *; have hMx := hM.qf x; rw [decide_eq_false (by omega), cond_false] at hMx; rw [hMx]; unfold cO; by_cases hn0 : n = 0
        · rw [decide_eq_true hn0]; rfl
        · rw [decide_eq_false hn0]
          show some (wI (0 - n)) = some (-n)
          rw [zbx (by omega)]; simp
      · rw [decide_eq_false hi2, cond_false]; (have e : decide (0 ≤ x.product ∧ x.product < (i : Int)) = decide (0 ≤ x.product ∧ x.product < ((i + 1 : Nat) : Int)) := by rw [Bool.eq_iff_iff]; simp only [decide_eq_true_eq]; omega); rw [← e, ← hM.qf x]
        rfl
theorem zeq {σ ρ : Type} (f : (σ → Option ρ) → σ → Option ρ) (m : Nat) (s : σ) : zaI f (m + 1) s = f (zaI f m) s := rfl
def zdH (cnt : Int → Int) (i : Int) : Nat → Int → List GRow
  | 0, _ => []
  | m + 1, t => (bif decide (0 < cnt t) then [⟨i, -cnt t, t⟩] else []) ++ zdH cnt i m (t + 1)
theorem zfS (cnt : Int → Int) (i : Int) : ∀ (m : Nat) (t : Int), (zdH cnt i m t).length ≤ m
  | 0, _ => Nat.le_refl _
  | m + 1, t => by
    have := zfS cnt i m (t + 1); rw [zdH, List.length_append]
    cases decide (0 < cnt t)
    · show 0 + _ ≤ _; omega
    · show 1 + _ ≤ _; omega
def zd0 (p : GBidderPlan) (d blocks starts clocks : List Int) (i : Nat) : List GRow := (bif decide (nth blocks i < nth d i) then [⟨(i : Int), nth d i - nth blocks i, 1000⟩] else []) ++ zdH (cntT p d blocks starts clocks i) (i : Int) 1001 0
theorem zih (h : BidsIn p l d blocks starts clocks) {i : Nat} (hi : i < l.length) {fuel : Nat} (hf : 100 < fuel) (next13 : List GRow → Option ρ) : ∀ (m f2 : Nat) (out : List GRow) (t : Int), 0 ≤ t → 1001 - t = (m : Int) → m < f2 → out.length + m ≤ 1000000 →
    zaI (fun (next21 : (List GRow × Int) → Option ρ) (s21 : List GRow × Int) =>
              (bif decide (s21.2 ≤ 1000) then
                zap (fun (n_24 : Int) =>
                  (bif decide (0 < n_24) then
                    grd (room (s21.1 ++ [(GRow.mk (i : Int) (wI (0 - n_24)) s21.2)]).length 24) <|
                    next21 ((s21.1 ++ [(GRow.mk (i : Int) (wI (0 - n_24)) s21.2)]), wI (s21.2 + 1))
                    else
                    next21 (s21.1, wI (s21.2 + 1))))
                (fun k25 =>
                  zaI (fun (next28 : (Int × Int) → Option ρ) (s28 : Int × Int) =>
                    (bif decide (s28.2 < (nth blocks i)) then
                      grd (0 ≤ (i : Int) ∧ (i : Int) < (p.Values.length : Int)) <|
                      grd (0 ≤ (i : Int) ∧ (i : Int) < (clocks.length : Int)) <|
                      (zb6 (nth p.Values i) s28.2 (nth starts i) (nth clocks i)).bind fun r121 =>
                      (bif decide (r121 = s21.2) then
                        next28 (wI (s28.1 + 1), wI (s28.2 + 1))
                        else
                        next28 (s28.1, wI (s28.2 + 1)))
                      else
                      k25 s28.1)) fuel (0, (nth d i)))
                else
                next13 s21.1)) f2 (out, t) = next13 (out ++ zdH (cntT p d blocks starts clocks i) (i : Int) m t)
  | m, 0, out, t, _, _, hf2, _ => by omega
  | 0, f2 + 1, out, t, h0, hm, _, _ => by
    show (bif _ then _ else _) = _
    (try dsimp only); rw [decide_eq_false (by omega), cond_false, zdH, List.append_nil]
  | m + 1, f2 + 1, out, t, h0, hm, hf2, hl => by
    have h1 := h.db i hi; have h2 := h.bb i hi; have ih := fun out' (ho : out'.length + m ≤ 1000000) => zih h hi hf next13 m f2 out' (t + 1) (by omega) (by omega) (by omega) ho; rw [zeq]; generalize hW : zaI _ f2 = W at ih ⊢; (try dsimp only); rw [decide_eq_true (by omega), cond_true]
    refine Eq.trans (zgn (at_ := t) (h.pt i hi) (by rw [h.pl]; exact hi) (by rw [h.cl]; exact hi) h2.2 (fun n_24 => (bif decide (0 < n_24) then
                    grd (room (out ++ [(GRow.mk (i : Int) (wI (0 - n_24)) t)]).length 24) <|
                    W ((out ++ [(GRow.mk (i : Int) (wI (0 - n_24)) t)]), wI (t + 1))
                    else
                    W (out, wI (t + 1)))) (nth blocks i - nth d i).toNat fuel 0 (nth d i) h1.1 rfl (by omega) (Int.le_refl _) (by omega)) ?_
    rw [Int.zero_add]; rw [show cntU (fun k => decide (ptI (nth p.Values i) k (nth starts i) (nth clocks i) = t)) (nth blocks i - nth d i).toNat (nth d i) = cntT p d blocks starts clocks i t from rfl]; have hct := zeg h hi t; have ht : wI (t + 1) = t + 1 := zbx (by omega); rw [zdH]; by_cases hn : 0 < cntT p d blocks starts clocks i t
    · rw [decide_eq_true hn, cond_true, cond_true, ht, zbx (show -9223372036854775808 ≤ 0 - cntT p d blocks starts clocks i t ∧ 0 - cntT p d blocks starts clocks i t ≤ 9223372036854775807 by omega), Int.zero_sub]; (have hlen : (out ++ [(⟨(i : Int), -cntT p d blocks starts clocks i t, t⟩ : GRow)]).length = out.length + 1 := by rw [List.length_append]; rfl); rw [zaj (by unfold room; rw [hlen]; omega), ih _ (by rw [hlen]; omega), List.append_assoc]
    · rw [decide_eq_false hn, cond_false, cond_false, ht, ih _ (by omega), List.nil_append]
def zcV (p : GBidderPlan) (d blocks starts clocks : List Int) : Nat → Nat → List GRow
  | 0, _ => []
  | m + 1, i => zd0 p d blocks starts clocks i ++ zcV p d blocks starts clocks m (i + 1)
theorem zf6 (p : GBidderPlan) (d blocks starts clocks : List Int) (i : Nat) : (zd0 p d blocks starts clocks i).length ≤ 1002 := by
  have := zfS (cntT p d blocks starts clocks i) (i : Int) 1001 0; unfold zd0; rw [List.length_append]
  cases decide (nth blocks i < nth d i)
  · show 0 + _ ≤ _; omega
  · show 1 + _ ≤ _; omega
theorem zfy (h : BidsIn p l d blocks starts clocks) {fuel : Nat} (hf : 2000 < fuel) (k : List GRow → Option ρ) : ∀ (m i : Nat) (out : List GRow), i + m = l.length → out.length ≤ 1002 * i →
    zam (fun (i_14 : Nat) (next13 : List GRow → Option ρ) (out_12 : List GRow) =>
          grd (0 ≤ (i_14 : Int) ∧ (i_14 : Int) < (d.length : Int)) <|
          grd (0 ≤ (i_14 : Int) ∧ (i_14 : Int) < (blocks.length : Int)) <|
          zap (fun (out_16 : List GRow) =>
            zaI (fun (next21 : (List GRow × Int) → Option ρ) (s21 : List GRow × Int) =>
              (bif decide (s21.2 ≤ 1000) then
                zap (fun (n_24 : Int) =>
                  (bif decide (0 < n_24) then
                    grd (room (s21.1 ++ [(GRow.mk (i_14 : Int) (wI (0 - n_24)) s21.2)]).length 24) <|
                    next21 ((s21.1 ++ [(GRow.mk (i_14 : Int) (wI (0 - n_24)) s21.2)]), wI (s21.2 + 1))
                    else
                    next21 (s21.1, wI (s21.2 + 1))))
                (fun k25 =>
                  zaI (fun (next28 : (Int × Int) → Option ρ) (s28 : Int × Int) =>
                    (bif decide (s28.2 < (nth blocks i_14)) then
                      grd (0 ≤ (i_14 : Int) ∧ (i_14 : Int) < (p.Values.length : Int)) <|
                      grd (0 ≤ (i_14 : Int) ∧ (i_14 : Int) < (clocks.length : Int)) <|
                      (zb6 (nth p.Values i_14) s28.2 (nth starts i_14) (nth clocks i_14)).bind fun r121 =>
                      (bif decide (r121 = s21.2) then
                        next28 (wI (s28.1 + 1), wI (s28.2 + 1))
                        else
                        next28 (s28.1, wI (s28.2 + 1)))
                      else
                      k25 s28.1)) fuel (0, (nth d i_14)))
                else
                next13 s21.1)) fuel (out_16, 0))
          (fun k17 =>
            (bif decide ((nth blocks i_14) < (nth d i_14)) then
              grd (room (out_12 ++ [(GRow.mk (i_14 : Int) (wI ((nth d i_14) - (nth blocks i_14))) 1000)]).length 24) <|
              k17 (out_12 ++ [(GRow.mk (i_14 : Int) (wI ((nth d i_14) - (nth blocks i_14))) 1000)])
              else
              k17 out_12))) k m i out = k (out ++ zcV p d blocks starts clocks m i)
  | 0, i, out, _, _ => by rw [zcV, List.append_nil]; rfl
  | m + 1, i, out, hi, ho => by
    have e1 := h.bl; have e2 := h.dl; have hn := h.n; have h1 := h.db i (by omega); have h2 := h.bb i (by omega); have hri := zf6 p d blocks starts clocks i; rw [zbW]; simp only [zap]; rw [zaj (by omega), zaj (by omega), zcV]; have hat := fun next13 out ho => zih (ρ := ρ) h (show i < l.length by omega) (show 100 < fuel by omega) next13 1001 fuel out 0 (Int.le_refl _) rfl (by omega) ho; simp only [zap] at hat; by_cases hb : nth blocks i < nth d i
    · (have hlen : (out ++ [(⟨(i : Int), nth d i - nth blocks i, 1000⟩ : GRow)]).length = out.length + 1 := by rw [List.length_append]; rfl); rw [decide_eq_true hb, cond_true, zbx (show -9223372036854775808 ≤ nth d i - nth blocks i ∧ nth d i - nth blocks i ≤ 9223372036854775807 by omega), zaj (by unfold room; rw [hlen]; omega), hat _ _ (by rw [hlen]; omega)]
      have e : out ++ [(⟨(i : Int), nth d i - nth blocks i, 1000⟩ : GRow)] ++ zdH (cntT p d blocks starts clocks i) (i : Int) 1001 0 = out ++ zd0 p d blocks starts clocks i := by
        unfold zd0; rw [decide_eq_true hb, cond_true, List.append_assoc]
      rw [e]; have ih := zfy h hf k m (i + 1) (out ++ zd0 p d blocks starts clocks i) (by omega) (by rw [List.length_append]; omega); simp only [zap] at ih; rw [ih, List.append_assoc]
    · rw [decide_eq_false hb, cond_false, hat _ _ (by omega)]
      have e : out ++ zdH (cntT p d blocks starts clocks i) (i : Int) 1001 0 = out ++ zd0 p d blocks starts clocks i := by
        unfold zd0; rw [decide_eq_false hb, cond_false, List.nil_append]
      rw [e]; have ih := zfy h hf k m (i + 1) (out ++ zd0 p d blocks starts clocks i) (by omega) (by rw [List.length_append]; omega); simp only [zap] at ih; rw [ih, List.append_assoc]
end
def kyR (r : GRow) : Gpoint := ⟨r.Product, r.Point⟩
def LtR (a b : GRow) : Prop := a.Product < b.Product ∨ a.Product = b.Product ∧ a.Point < b.Point
theorem zgN {P : Int → Bool} : ∀ (m : Nat) (k : Int), 0 < cntU P m k → ∃ j, k ≤ j ∧ P j = true
  | 0, k, h => absurd h (Int.lt_irrefl _)
  | m + 1, k, h => by
    rw [cntU] at h
    cases hp : P k with
    | true => exact ⟨k, Int.le_refl _, hp⟩
    | false =>
      rw [hp, cond_false, Int.zero_add] at h; obtain ⟨j, h1, h2⟩ := zgN m (k + 1) h; exact ⟨j, by omega, h2⟩
theorem zeb {cnt : Int → Int} {i : Int} {r : GRow} : ∀ (m : Nat) (t : Int), r ∈ zdH cnt i m t ↔ (r.Product = i ∧ t ≤ r.Point ∧ r.Point < t + (m : Int) ∧ 0 < cnt r.Point ∧ r.Change = -cnt r.Point)
  | 0, t => by
    rw [zdH]; constructor
    · intro h; cases h
    · rintro ⟨_, h1, h2, _⟩; omega
  | m + 1, t => by
    rw [zdH, List.mem_append, zeb m (t + 1)]; constructor
    · rintro (h | ⟨h1, h2, h3, h4⟩)
      · by_cases hc : 0 < cnt t
        · rw [decide_eq_true hc, cond_true, List.mem_singleton] at h; subst h; exact ⟨rfl, Int.le_refl _, by show t < t + ((m + 1 : Nat) : Int); omega, hc, rfl⟩
        · rw [decide_eq_false hc, cond_false] at h
          cases h
      · exact ⟨h1, by omega, by omega, h4⟩
    · rintro ⟨h1, h2, h3, h4, h5⟩; by_cases e : r.Point = t
      · left; rw [e] at h4 h5; rw [decide_eq_true h4, cond_true, List.mem_singleton]
        cases r
        simp_all
      · exact .inr ⟨h1, by omega, by omega, h4, h5⟩
theorem zgM {cnt : Int → Int} {i : Int} : ∀ (m : Nat) (t : Int), (zdH cnt i m t).Pairwise LtR
  | 0, _ => .nil
  | m + 1, t => by
    rw [zdH]; refine List.pairwise_append.2 ⟨?_, zgM m (t + 1), fun a ha b hb => ?_⟩
    · cases decide (0 < cnt t)
      · exact .nil
      · exact List.pairwise_singleton _ _
    · have hb := (zeb m (t + 1)).1 hb
      cases hc : decide (0 < cnt t) with
      | false => rw [hc] at ha; cases ha
      | true =>
        rw [hc, cond_true, List.mem_singleton] at ha; subst ha; exact .inr ⟨hb.1.symm, by show t < b.Point; omega⟩
section
variable {p : GBidderPlan} {l : List GProduct} {d blocks starts clocks : List Int}
theorem zgB {i : Nat} (hb : nth blocks i < nth d i) (t : Int) : cntT p d blocks starts clocks i t = 0 := by
  unfold cntT; rw [show (nth blocks i - nth d i).toNat = 0 by omega]; rfl
theorem zio (h : BidsIn p l d blocks starts clocks) {i : Nat} (hi : i < l.length) {t : Int} (hc : 0 < cntT p d blocks starts clocks i t) : 0 ≤ t ∧ t ≤ 1000 := by
  obtain ⟨j, h1, h2⟩ := zgN _ _ hc; have h3 := zhG (h.pt i hi) (k := j) (by have := h.db i hi; omega); have h4 := of_decide_eq_true h2; omega
theorem zfK (h : BidsIn p l d blocks starts clocks) {i : Nat} (hi : i < l.length) {r : GRow} : r ∈ zd0 p d blocks starts clocks i ↔ (r.Product = (i : Int) ∧ chgO p d blocks starts clocks i r.Point = some r.Change) := by
  unfold zd0 chgO; rw [List.mem_append, zeb]; by_cases hb : nth blocks i < nth d i
  · rw [decide_eq_true hb, cond_true, cond_true, List.mem_singleton]; constructor
    · rintro (h1 | ⟨_, _, _, h4, _⟩)
      · subst h1; exact ⟨rfl, by rw [decide_eq_true rfl, cond_true]⟩
      · rw [zgB hb] at h4; exact absurd h4 (Int.lt_irrefl _)
    · rintro ⟨h1, h2⟩; left; by_cases ht : r.Point = 1000
      · rw [decide_eq_true ht, cond_true] at h2; have := Option.some.inj h2
        cases r
        simp_all
      · rw [decide_eq_false ht, cond_false] at h2
        cases h2
  · rw [decide_eq_false hb, cond_false, cond_false]; have hbd := zeg h hi r.Point; constructor
    · rintro (h1 | ⟨h1, _, _, h4, h5⟩)
      · cases h1
      · refine ⟨h1, ?_⟩; unfold cO; rw [decide_eq_false (by omega), cond_false, h5]; rfl
    · rintro ⟨h1, h2⟩; right; unfold cO at h2; by_cases hn : cntT p d blocks starts clocks i r.Point = 0
      · rw [decide_eq_true hn, cond_true] at h2; cases h2
      · rw [decide_eq_false hn, cond_false] at h2; have h3 := Option.some.inj h2; have h4 := zio h hi (t := r.Point) (by omega); exact ⟨h1, h4.1, by omega, by omega, h3.symm⟩
theorem zh2 (h : BidsIn p l d blocks starts clocks) {i : Nat} (hi : i < l.length) : (zd0 p d blocks starts clocks i).Pairwise LtR := by
  unfold zd0; refine List.pairwise_append.2 ⟨?_, zgM _ _, fun a ha b hb => ?_⟩
  · cases decide (nth blocks i < nth d i)
    · exact .nil
    · exact List.pairwise_singleton _ _
  · have hb := (zeb _ _).1 hb
    cases hc : decide (nth blocks i < nth d i) with
    | false => rw [hc] at ha; cases ha
    | true =>
      have := zgB (p := p) (starts := starts) (clocks := clocks) (of_decide_eq_true hc) b.Point; omega
theorem zd2 (h : BidsIn p l d blocks starts clocks) {r : GRow} : ∀ (m i : Nat), i + m = l.length → (r ∈ zcV p d blocks starts clocks m i ↔ ((i : Int) ≤ r.Product ∧ r.Product < (l.length : Int) ∧ chgO p d blocks starts clocks r.Product.toNat r.Point = some r.Change))
  | 0, i, hi => by
    rw [zcV]; constructor
    · intro h; cases h
    · rintro ⟨h1, h2, _⟩; omega
  | m + 1, i, hi => by
    rw [zcV, List.mem_append, zfK h (by omega), zd2 h m (i + 1) (by omega)]; constructor
    · rintro (⟨h1, h2⟩ | ⟨h1, h2, h3⟩)
      · refine ⟨by omega, by omega, ?_⟩; rw [h1, show (i : Int).toNat = i by omega]; exact h2
      · exact ⟨by omega, h2, h3⟩
    · rintro ⟨h1, h2, h3⟩; by_cases e : r.Product = (i : Int)
      · left; rw [e, show (i : Int).toNat = i by omega] at h3; exact ⟨e, h3⟩
      · exact .inr ⟨by omega, h2, h3⟩
theorem zgF (h : BidsIn p l d blocks starts clocks) : ∀ (m i : Nat), i + m = l.length → (zcV p d blocks starts clocks m i).Pairwise LtR
  | 0, _, _ => .nil
  | m + 1, i, hi => by
    rw [zcV]; refine List.pairwise_append.2 ⟨zh2 h (by omega), zgF h m (i + 1) (by omega), fun a ha b hb => ?_⟩; have ha := (zfK h (by omega)).1 ha; have hb := (zd2 h m (i + 1) (by omega)).1 hb; exact .inl (by omega)
theorem zeR (p : GBidderPlan) (d blocks starts clocks : List Int) : ∀ (m i : Nat), (zcV p d blocks starts clocks m i).length ≤ 1002 * m
  | 0, _ => Nat.le_refl _
  | m + 1, i => by
    have h1 := zf6 p d blocks starts clocks i; have h2 := zeR p d blocks starts clocks m (i + 1); rw [zcV, List.length_append]; omega
theorem zgp (h : BidsIn p l d blocks starts clocks) {M : List (Gpoint × Int)} (hM : ChgM p d blocks starts clocks l.length M) :
    zew (M.map (·.1)) = (zcV p d blocks starts clocks l.length 0).map kyR ∧ (∀ r ∈ zcV p d blocks starts clocks l.length 0, qf M (kyR r) = some r.Change ∧ 0 ≤ r.Point ∧ r.Point ≤ 1000) := by
  have hmem := fun r => zd2 h (r := r) l.length 0 (by omega); have hlt := zgF h l.length 0 (by omega)
  have hq : ∀ r ∈ zcV p d blocks starts clocks l.length 0, qf M (kyR r) = some r.Change ∧ 0 ≤ r.Point ∧ r.Point ≤ 1000 := fun r hr => by
    have h1 := (hmem r).1 hr; refine ⟨?_, ?_⟩
    · rw [hM.qf]; unfold kyR; dsimp only; rw [decide_eq_true (by omega), cond_true]; exact h1.2.2
    · have h2 := h1.2.2; unfold chgO at h2; by_cases hb : nth blocks r.Product.toNat < nth d r.Product.toNat
      · rw [decide_eq_true hb, cond_true] at h2; by_cases ht : r.Point = 1000
        · omega
        · rw [decide_eq_false ht, cond_false] at h2; cases h2
      · rw [decide_eq_false hb, cond_false] at h2; unfold cO at h2; have hbd := zeg h (show r.Product.toNat < l.length by omega) r.Point; by_cases hn : cntT p d blocks starts clocks r.Product.toNat r.Point = 0
        · rw [decide_eq_true hn, cond_true] at h2; cases h2
        · exact zio h (show r.Product.toNat < l.length by omega) (by omega)
  refine ⟨?_, hq⟩; generalize zcV p d blocks starts clocks l.length 0 = R at *
  have hnd : (R.map kyR).Nodup := by
    rw [List.Nodup, List.pairwise_map]; refine hlt.imp fun {a b} hab e => ?_; have e1 : a.Product = b.Product := congrArg Gpoint.product e; have e2 : a.Point = b.Point := congrArg Gpoint.thousandths e; rcases hab with hab | hab <;> omega
  refine zgE ((zcy _).trans ((List.perm_ext_iff_of_nodup hM.nd hnd).2 fun x => ?_)) (zcI _) ?_
  · rw [← qf_some, hM.qf x, List.mem_map]; constructor
    · intro hs; by_cases hx : 0 ≤ x.product ∧ x.product < (l.length : Int)
      · rw [decide_eq_true hx, cond_true] at hs; obtain ⟨c, hc⟩ := Option.isSome_iff_exists.1 hs; exact ⟨⟨x.product, c, x.thousandths⟩, (hmem _).2 ⟨by show ((0 : Nat) : Int) ≤ x.product; omega, hx.2, hc⟩, rfl⟩
      · rw [decide_eq_false hx, cond_false] at hs; cases hs
    · rintro ⟨r, hr, rfl⟩; have h1 := (hmem r).1 hr; unfold kyR; dsimp only; rw [decide_eq_true (by omega), cond_true, h1.2.2]; rfl
  · rw [List.pairwise_map]; refine hlt.imp fun {a b} hab => ?_
    show leP (kyR a) (kyR b) = true
    rw [zeV]; unfold kyR; dsimp only; rcases hab with hab | hab <;> omega
end
def eu (F : Nat) : Nat → Bool → List Int → Bool → List Int → Bool
  | 0, _, _, _, _ => false
  | n + 1, a, b, c, d => match zaP F ⟨a, b⟩ ⟨c, d⟩ with
    | none => false
    | some r => match zbs F r.1 r.1 with
      | none => false
      | some e => match zbf r.2.1 with
        | none => false
        | some s => decide (e = 0) && (decide (s = 0) || eu F n c d r.2.1.Neg r.2.1.Digits)
def by9 (n : Nat) : List Int := if n = 0 then [] else if n < 256 then [(n : Int)] else [((n / 256 : Nat) : Int), ((n % 256 : Nat) : Int)]
def litT (t : Nat) : GRatio := ⟨⟨false, by9 (t / Nat.gcd t 1000)⟩, ⟨false, by9 (1000 / Nat.gcd t 1000)⟩⟩
def chkE (t : Nat) : Bool := decide (zbV 100000 (t : Int) 1000 = some (litT t, 0)) && decide (zbM 100000 (litT t) = some true) && eu 100000 30 (litT t).Num.Neg (litT t).Num.Digits (litT t).Den.Neg (litT t).Den.Digits
theorem zhH (F : Nat) : ∀ (m n : Nat) (sg : Int) (a : Bool) (b : List Int) (c : Bool) (d : List Int), m ≤ n → eu F m a b c d = true →
    zaI (fun (next23 : (Int × Bool × List Int × Bool × List Int × Bool × List Int × Bool × List Int) → Option Int) (s23 : Int × Bool × List Int × Bool × List Int × Bool × List Int × Bool × List Int) =>
          (zaP F (GInt.mk s23.2.1 s23.2.2.1) (GInt.mk s23.2.2.2.1 s23.2.2.2.2.1)).bind fun r28 =>
          (zaP F (GInt.mk s23.2.2.2.2.2.1 s23.2.2.2.2.2.2.1) (GInt.mk s23.2.2.2.2.2.2.2.1 s23.2.2.2.2.2.2.2.2)).bind fun r37 =>
          (zbs F r28.1 r37.1).bind fun r43 =>
          (zbf r28.2.1).bind fun r45 =>
          (zbf r37.2.1).bind fun r47 =>
          (bif decide (¬ r43 = 0) then
            some (wI (s23.1 * r43))
            else
            (bif ((decide (r45 = 0)) && (decide (r47 = 0))) then
              some 0
              else
              (bif decide (r45 = 0) then
                some (wI (0 - s23.1))
                else
                (bif decide (r47 = 0) then
                  some s23.1
                  else
                  next23 ((wI (0 - s23.1)), s23.2.2.2.1, s23.2.2.2.2.1, r28.2.1.Neg, r28.2.1.Digits, s23.2.2.2.2.2.2.2.1, s23.2.2.2.2.2.2.2.2, r37.2.1.Neg, r37.2.1.Digits)))))) n (sg, a, b, c, d, a, b, c, d) = some 0
  | 0, n, sg, a, b, c, d, _, h => by cases h
  | m + 1, 0, sg, a, b, c, d, hm, h => absurd hm (by omega)
  | m + 1, n + 1, sg, a, b, c, d, hm, h => by
    rw [eu] at h
    show Option.bind _ _ = _
    (try dsimp only)
    cases h1 : zaP F ⟨a, b⟩ ⟨c, d⟩ with
    | none => rw [h1] at h; cases h
    | some r =>
      rw [h1] at h; dsimp only at h; rw [Option.bind_some, Option.bind_some]
      cases h2 : zbs F r.1 r.1 with
      | none => rw [h2] at h; cases h
      | some e =>
        rw [h2] at h; dsimp only at h; rw [Option.bind_some]
        cases h3 : zbf r.2.1 with
        | none => rw [h3] at h; cases h
        | some s =>
          rw [h3] at h; dsimp only at h; rw [Option.bind_some, Option.bind_some]; rw [Bool.and_eq_true, Bool.or_eq_true, decide_eq_true_eq, decide_eq_true_eq] at h; obtain ⟨he, hs⟩ := h; rw [decide_eq_false (show ¬ ¬ e = 0 by simp [he]), cond_false]; by_cases h0 : s = 0
          · rw [decide_eq_true h0]; rfl
          · rw [decide_eq_false h0, Bool.and_self, cond_false, cond_false, cond_false]; exact zhH F m n _ _ _ _ _ (by omega) (hs.resolve_left h0)
theorem zit {F t : Nat} (hF : F = 100000) (h : chkE t = true) : zbV F (t : Int) 1000 = some (litT t, 0) ∧ zbM F (litT t) = some true ∧ zb2 F (litT t) (litT t) = some 0 := by
  unfold chkE at h; rw [← hF] at h; rw [Bool.and_eq_true, Bool.and_eq_true, decide_eq_true_eq, decide_eq_true_eq] at h; obtain ⟨⟨h1, h2⟩, h3⟩ := h; refine ⟨h1, h2, ?_⟩; unfold zb2; rw [h2, Option.bind_some]; simp only [zap]; rw [Bool.not_true, cond_false, Option.bind_some, Bool.not_true, cond_false]; exact zhH F 30 F 1 _ _ _ _ (by omega) h3
abbrev upE (a : Nat) : Prop := ∀ i, i < a → chkE i = true
theorem zad {a m b : Nat} (h : upE a) (h2 : (List.range' a m).all chkE = true) (e : b = a + m) : upE b := fun i hi => by
  by_cases h3 : i < a
  · exact h i h3
  · exact List.all_eq_true.1 h2 i (List.mem_range'_1.2 ⟨by omega, by omega⟩)
theorem up_0 : upE 0 := fun i hi => absurd hi (Nat.not_lt_zero _)
theorem ck_0 : (List.range' 0 7).all chkE = true := by kernel_rfl
theorem up_7 : upE 7 := zad up_0 ck_0 rfl
theorem ck_7 : (List.range' 7 7).all chkE = true := by kernel_rfl
theorem up_14 : upE 14 := zad up_7 ck_7 rfl
theorem ck_14 : (List.range' 14 7).all chkE = true := by kernel_rfl
theorem up_21 : upE 21 := zad up_14 ck_14 rfl
theorem ck_21 : (List.range' 21 7).all chkE = true := by kernel_rfl
theorem up_28 : upE 28 := zad up_21 ck_21 rfl
theorem ck_28 : (List.range' 28 7).all chkE = true := by kernel_rfl
theorem up_35 : upE 35 := zad up_28 ck_28 rfl
theorem ck_35 : (List.range' 35 7).all chkE = true := by kernel_rfl
theorem up_42 : upE 42 := zad up_35 ck_35 rfl
theorem ck_42 : (List.range' 42 7).all chkE = true := by kernel_rfl
theorem up_49 : upE 49 := zad up_42 ck_42 rfl
theorem ck_49 : (List.range' 49 7).all chkE = true := by kernel_rfl
theorem up_56 : upE 56 := zad up_49 ck_49 rfl
theorem ck_56 : (List.range' 56 7).all chkE = true := by kernel_rfl
theorem up_63 : upE 63 := zad up_56 ck_56 rfl
theorem ck_63 : (List.range' 63 7).all chkE = true := by kernel_rfl
theorem up_70 : upE 70 := zad up_63 ck_63 rfl
theorem ck_70 : (List.range' 70 7).all chkE = true := by kernel_rfl
theorem up_77 : upE 77 := zad up_70 ck_70 rfl
theorem ck_77 : (List.range' 77 7).all chkE = true := by kernel_rfl
theorem up_84 : upE 84 := zad up_77 ck_77 rfl
theorem ck_84 : (List.range' 84 7).all chkE = true := by kernel_rfl
theorem up_91 : upE 91 := zad up_84 ck_84 rfl
theorem ck_91 : (List.range' 91 7).all chkE = true := by kernel_rfl
theorem up_98 : upE 98 := zad up_91 ck_91 rfl
theorem ck_98 : (List.range' 98 7).all chkE = true := by kernel_rfl
theorem zmH : upE 105 := zad up_98 ck_98 rfl
theorem zkw : (List.range' 105 7).all chkE = true := by kernel_rfl
theorem zkr : upE 112 := zad zmH zkw rfl
theorem ziY : (List.range' 112 7).all chkE = true := by kernel_rfl
theorem zlj : upE 119 := zad zkr ziY rfl
theorem zlD : (List.range' 119 7).all chkE = true := by kernel_rfl
theorem zmr : upE 126 := zad zlj zlD rfl
theorem zlf : (List.range' 126 7).all chkE = true := by kernel_rfl
theorem zjy : upE 133 := zad zmr zlf rfl
theorem zkI : (List.range' 133 7).all chkE = true := by kernel_rfl
theorem zjG : upE 140 := zad zjy zkI rfl
theorem zmA : (List.range' 140 7).all chkE = true := by kernel_rfl
theorem zmF : upE 147 := zad zjG zmA rfl
theorem zl4 : (List.range' 147 7).all chkE = true := by kernel_rfl
theorem zlE : upE 154 := zad zmF zl4 rfl
theorem zmI : (List.range' 154 7).all chkE = true := by kernel_rfl
theorem zmM : upE 161 := zad zlE zmI rfl
theorem zkJ : (List.range' 161 7).all chkE = true := by kernel_rfl
theorem zm8 : upE 168 := zad zmM zkJ rfl
theorem ziM : (List.range' 168 7).all chkE = true := by kernel_rfl
theorem zlu : upE 175 := zad zm8 ziM rfl
theorem zi8 : (List.range' 175 7).all chkE = true := by kernel_rfl
theorem zkA : upE 182 := zad zlu zi8 rfl
theorem zkM : (List.range' 182 7).all chkE = true := by kernel_rfl
theorem zmQ : upE 189 := zad zkA zkM rfl
theorem zje : (List.range' 189 7).all chkE = true := by kernel_rfl
theorem zjC : upE 196 := zad zmQ zje rfl
theorem zko : (List.range' 196 7).all chkE = true := by kernel_rfl
theorem zm4 : upE 203 := zad zjC zko rfl
theorem znd : (List.range' 203 7).all chkE = true := by kernel_rfl
theorem ziR : upE 210 := zad zm4 znd rfl
theorem zj6 : (List.range' 210 7).all chkE = true := by kernel_rfl
theorem zl0 : upE 217 := zad ziR zj6 rfl
theorem zlX : (List.range' 217 7).all chkE = true := by kernel_rfl
theorem zkG : upE 224 := zad zl0 zlX rfl
theorem zm1 : (List.range' 224 7).all chkE = true := by kernel_rfl
theorem zls : upE 231 := zad zkG zm1 rfl
theorem ziV : (List.range' 231 7).all chkE = true := by kernel_rfl
theorem zi2 : upE 238 := zad zls ziV rfl
theorem zjE : (List.range' 238 7).all chkE = true := by kernel_rfl
theorem zkZ : upE 245 := zad zi2 zjE rfl
theorem zmX : (List.range' 245 7).all chkE = true := by kernel_rfl
theorem zi7 : upE 252 := zad zkZ zmX rfl
theorem zjk : (List.range' 252 7).all chkE = true := by kernel_rfl
theorem zlO : upE 259 := zad zi7 zjk rfl
theorem zjS : (List.range' 259 7).all chkE = true := by kernel_rfl
theorem zkL : upE 266 := zad zlO zjS rfl
theorem zlh : (List.range' 266 7).all chkE = true := by kernel_rfl
theorem zkh : upE 273 := zad zkL zlh rfl
theorem zjt : (List.range' 273 7).all chkE = true := by kernel_rfl
theorem zm7 : upE 280 := zad zkh zjt rfl
theorem zjB : (List.range' 280 7).all chkE = true := by kernel_rfl
theorem zk5 : upE 287 := zad zm7 zjB rfl
theorem zj3 : (List.range' 287 7).all chkE = true := by kernel_rfl
theorem zjs : upE 294 := zad zk5 zj3 rfl
theorem ziZ : (List.range' 294 7).all chkE = true := by kernel_rfl
theorem ziW : upE 301 := zad zjs ziZ rfl
theorem zjl : (List.range' 301 7).all chkE = true := by kernel_rfl
theorem zjK : upE 308 := zad ziW zjl rfl
theorem zkK : (List.range' 308 7).all chkE = true := by kernel_rfl
theorem zlV : upE 315 := zad zjK zkK rfl
theorem zms : (List.range' 315 7).all chkE = true := by kernel_rfl
theorem zkP : upE 322 := zad zlV zms rfl
theorem zmR : (List.range' 322 7).all chkE = true := by kernel_rfl
theorem ziT : upE 329 := zad zkP zmR rfl
theorem zlc : (List.range' 329 7).all chkE = true := by kernel_rfl
theorem zlK : upE 336 := zad ziT zlc rfl
theorem zjp : (List.range' 336 7).all chkE = true := by kernel_rfl
theorem zkO : upE 343 := zad zlK zjp rfl
theorem zkx : (List.range' 343 7).all chkE = true := by kernel_rfl
theorem zjn : upE 350 := zad zkO zkx rfl
theorem zlZ : (List.range' 350 7).all chkE = true := by kernel_rfl
theorem zml : upE 357 := zad zjn zlZ rfl
theorem zlq : (List.range' 357 7).all chkE = true := by kernel_rfl
theorem zjc : upE 364 := zad zml zlq rfl
theorem zjA : (List.range' 364 7).all chkE = true := by kernel_rfl
theorem zj9 : upE 371 := zad zjc zjA rfl
theorem zk9 : (List.range' 371 7).all chkE = true := by kernel_rfl
theorem zja : upE 378 := zad zj9 zk9 rfl
theorem zmV : (List.range' 378 7).all chkE = true := by kernel_rfl
theorem zm5 : upE 385 := zad zja zmV rfl
theorem zlL : (List.range' 385 7).all chkE = true := by kernel_rfl
theorem zmq : upE 392 := zad zm5 zlL rfl
theorem zks : (List.range' 392 7).all chkE = true := by kernel_rfl
theorem zmw : upE 399 := zad zmq zks rfl
theorem zkp : (List.range' 399 7).all chkE = true := by kernel_rfl
theorem zky : upE 406 := zad zmw zkp rfl
theorem zmT : (List.range' 406 7).all chkE = true := by kernel_rfl
theorem zjH : upE 413 := zad zky zmT rfl
theorem zlJ : (List.range' 413 7).all chkE = true := by kernel_rfl
theorem zkj : upE 420 := zad zjH zlJ rfl
theorem zmf : (List.range' 420 7).all chkE = true := by kernel_rfl
theorem zj1 : upE 427 := zad zkj zmf rfl
theorem zld : (List.range' 427 7).all chkE = true := by kernel_rfl
theorem zmO : upE 434 := zad zj1 zld rfl
theorem zli : (List.range' 434 7).all chkE = true := by kernel_rfl
theorem zkl : upE 441 := zad zmO zli rfl
theorem zj4 : (List.range' 441 7).all chkE = true := by kernel_rfl
theorem zmU : upE 448 := zad zkl zj4 rfl
theorem zkd : (List.range' 448 7).all chkE = true := by kernel_rfl
theorem zm0 : upE 455 := zad zmU zkd rfl
theorem znj : (List.range' 455 7).all chkE = true := by kernel_rfl
theorem zjN : upE 462 := zad zm0 znj rfl
theorem znf : (List.range' 462 7).all chkE = true := by kernel_rfl
theorem zkU : upE 469 := zad zjN znf rfl
theorem zlQ : (List.range' 469 7).all chkE = true := by kernel_rfl
theorem ziP : upE 476 := zad zkU zlQ rfl
theorem ziN : (List.range' 476 7).all chkE = true := by kernel_rfl
theorem zkf : upE 483 := zad ziP ziN rfl
theorem zlo : (List.range' 483 7).all chkE = true := by kernel_rfl
theorem zlG : upE 490 := zad zkf zlo rfl
theorem zjX : (List.range' 490 7).all chkE = true := by kernel_rfl
theorem zkc : upE 497 := zad zlG zjX rfl
theorem zmd : (List.range' 497 7).all chkE = true := by kernel_rfl
theorem zk8 : upE 504 := zad zkc zmd rfl
theorem zm6 : (List.range' 504 7).all chkE = true := by kernel_rfl
theorem zkm : upE 511 := zad zk8 zm6 rfl
theorem zni : (List.range' 511 7).all chkE = true := by kernel_rfl
theorem zll : upE 518 := zad zkm zni rfl
theorem zmS : (List.range' 518 7).all chkE = true := by kernel_rfl
theorem zlw : upE 525 := zad zll zmS rfl
theorem zmC : (List.range' 525 7).all chkE = true := by kernel_rfl
theorem zm9 : upE 532 := zad zlw zmC rfl
theorem ziX : (List.range' 532 7).all chkE = true := by kernel_rfl
theorem zmJ : upE 539 := zad zm9 ziX rfl
theorem zk6 : (List.range' 539 7).all chkE = true := by kernel_rfl
theorem zl9 : upE 546 := zad zmJ zk6 rfl
theorem zjo : (List.range' 546 7).all chkE = true := by kernel_rfl
theorem zk7 : upE 553 := zad zl9 zjo rfl
theorem zj0 : (List.range' 553 7).all chkE = true := by kernel_rfl
theorem zlH : upE 560 := zad zk7 zj0 rfl
theorem zmm : (List.range' 560 7).all chkE = true := by kernel_rfl
theorem zl2 : upE 567 := zad zlH zmm rfl
theorem zmZ : (List.range' 567 7).all chkE = true := by kernel_rfl
theorem zjO : upE 574 := zad zl2 zmZ rfl
theorem zmy : (List.range' 574 7).all chkE = true := by kernel_rfl
theorem zkX : upE 581 := zad zjO zmy rfl
theorem zng : (List.range' 581 7).all chkE = true := by kernel_rfl
theorem zkR : upE 588 := zad zkX zng rfl
theorem zl7 : (List.range' 588 7).all chkE = true := by kernel_rfl
theorem zlv : upE 595 := zad zkR zl7 rfl
theorem zmu : (List.range' 595 7).all chkE = true := by kernel_rfl
theorem zlU : upE 602 := zad zlv zmu rfl
theorem zi3 : (List.range' 602 7).all chkE = true := by kernel_rfl
theorem zka : upE 609 := zad zlU zi3 rfl
theorem zla : (List.range' 609 7).all chkE = true := by kernel_rfl
theorem zjj : upE 616 := zad zka zla rfl
theorem zkN : (List.range' 616 7).all chkE = true := by kernel_rfl
theorem zkV : upE 623 := zad zjj zkN rfl
theorem zjD : (List.range' 623 7).all chkE = true := by kernel_rfl
theorem zlP : upE 630 := zad zkV zjD rfl
theorem zjq : (List.range' 630 7).all chkE = true := by kernel_rfl
theorem zkH : upE 637 := zad zlP zjq rfl
theorem zjT : (List.range' 637 7).all chkE = true := by kernel_rfl
theorem zjQ : upE 644 := zad zkH zjT rfl
theorem zl6 : (List.range' 644 7).all chkE = true := by kernel_rfl
theorem zkt : upE 651 := zad zjQ zl6 rfl
theorem zkT : (List.range' 651 7).all chkE = true := by kernel_rfl
theorem zji : upE 658 := zad zkt zkT rfl
theorem ziS : (List.range' 658 7).all chkE = true := by kernel_rfl
theorem zjb : upE 665 := zad zji ziS rfl
theorem zmx : (List.range' 665 7).all chkE = true := by kernel_rfl
theorem zi1 : upE 672 := zad zjb zmx rfl
theorem zlz : (List.range' 672 7).all chkE = true := by kernel_rfl
theorem zkC : upE 679 := zad zi1 zlz rfl
theorem zlA : (List.range' 679 7).all chkE = true := by kernel_rfl
theorem zmj : upE 686 := zad zkC zlA rfl
theorem zj2 : (List.range' 686 7).all chkE = true := by kernel_rfl
theorem zna : upE 693 := zad zmj zj2 rfl
theorem zmY : (List.range' 693 7).all chkE = true := by kernel_rfl
theorem zlT : upE 700 := zad zna zmY rfl
theorem zjL : (List.range' 700 7).all chkE = true := by kernel_rfl
theorem zjU : upE 707 := zad zlT zjL rfl
theorem zly : (List.range' 707 7).all chkE = true := by kernel_rfl
theorem zk1 : upE 714 := zad zjU zly rfl
theorem zkn : (List.range' 714 7).all chkE = true := by kernel_rfl
theorem znb : upE 721 := zad zk1 zkn rfl
theorem zkW : (List.range' 721 7).all chkE = true := by kernel_rfl
theorem zlk : upE 728 := zad znb zkW rfl
theorem zjg : (List.range' 728 7).all chkE = true := by kernel_rfl
theorem zmi : upE 735 := zad zlk zjg rfl
theorem zjY : (List.range' 735 7).all chkE = true := by kernel_rfl
theorem zjv : upE 742 := zad zmi zjY rfl
theorem zl1 : (List.range' 742 7).all chkE = true := by kernel_rfl
theorem zmt : upE 749 := zad zjv zl1 rfl
theorem zlY : (List.range' 749 7).all chkE = true := by kernel_rfl
theorem zmo : upE 756 := zad zmt zlY rfl
theorem zlB : (List.range' 756 7).all chkE = true := by kernel_rfl
theorem zmE : upE 763 := zad zmo zlB rfl
theorem zi0 : (List.range' 763 7).all chkE = true := by kernel_rfl
theorem zjW : upE 770 := zad zmE zi0 rfl
theorem zkk : (List.range' 770 7).all chkE = true := by kernel_rfl
theorem zmP : upE 777 := zad zjW zkk rfl
theorem zmB : (List.range' 777 7).all chkE = true := by kernel_rfl
theorem zlx : upE 784 := zad zmP zmB rfl
theorem zkv : (List.range' 784 7).all chkE = true := by kernel_rfl
theorem zl3 : upE 791 := zad zlx zkv rfl
theorem zjd : (List.range' 791 7).all chkE = true := by kernel_rfl
theorem zmK : upE 798 := zad zl3 zjd rfl
theorem zlC : (List.range' 798 7).all chkE = true := by kernel_rfl
theorem zne : upE 805 := zad zmK zlC rfl
theorem zmp : (List.range' 805 7).all chkE = true := by kernel_rfl
theorem ziQ : upE 812 := zad zne zmp rfl
theorem ziU : (List.range' 812 7).all chkE = true := by kernel_rfl
theorem zln : upE 819 := zad ziQ ziU rfl
theorem zjJ : (List.range' 819 7).all chkE = true := by kernel_rfl
theorem zkg : upE 826 := zad zln zjJ rfl
theorem zlb : (List.range' 826 7).all chkE = true := by kernel_rfl
theorem zjF : upE 833 := zad zkg zlb rfl
theorem zjf : (List.range' 833 7).all chkE = true := by kernel_rfl
theorem zi5 : upE 840 := zad zjF zjf rfl
theorem zkF : (List.range' 840 7).all chkE = true := by kernel_rfl
theorem zmN : upE 847 := zad zi5 zkF rfl
theorem zlF : (List.range' 847 7).all chkE = true := by kernel_rfl
theorem zkY : upE 854 := zad zmN zlF rfl
theorem zlS : (List.range' 854 7).all chkE = true := by kernel_rfl
theorem zjx : upE 861 := zad zkY zlS rfl
theorem zmb : (List.range' 861 7).all chkE = true := by kernel_rfl
theorem zi4 : upE 868 := zad zjx zmb rfl
theorem zkb : (List.range' 868 7).all chkE = true := by kernel_rfl
theorem zjP : upE 875 := zad zi4 zkb rfl
theorem zlR : (List.range' 875 7).all chkE = true := by kernel_rfl
theorem zlM : upE 882 := zad zjP zlR rfl
theorem zlm : (List.range' 882 7).all chkE = true := by kernel_rfl
theorem zjM : upE 889 := zad zlM zlm rfl
theorem zi9 : (List.range' 889 7).all chkE = true := by kernel_rfl
theorem zmG : upE 896 := zad zjM zi9 rfl
theorem zlg : (List.range' 896 7).all chkE = true := by kernel_rfl
theorem zme : upE 903 := zad zmG zlg rfl
theorem zki : (List.range' 903 7).all chkE = true := by kernel_rfl
theorem zju : upE 910 := zad zme zki rfl
theorem zmh : (List.range' 910 7).all chkE = true := by kernel_rfl
theorem zkz : upE 917 := zad zju zmh rfl
theorem zkS : (List.range' 917 7).all chkE = true := by kernel_rfl
theorem zjw : upE 924 := zad zkz zkS rfl
theorem zm2 : (List.range' 924 7).all chkE = true := by kernel_rfl
theorem zmn : upE 931 := zad zjw zm2 rfl
theorem zlN : (List.range' 931 7).all chkE = true := by kernel_rfl
theorem zl5 : upE 938 := zad zmn zlN rfl
theorem zi6 : (List.range' 938 7).all chkE = true := by kernel_rfl
theorem zjV : upE 945 := zad zl5 zi6 rfl
theorem zl8 : (List.range' 945 7).all chkE = true := by kernel_rfl
theorem zkq : upE 952 := zad zjV zl8 rfl
theorem zmg : (List.range' 952 7).all chkE = true := by kernel_rfl
theorem zmD : upE 959 := zad zkq zmg rfl
theorem zlr : (List.range' 959 7).all chkE = true := by kernel_rfl
theorem znc : upE 966 := zad zmD zlr rfl
theorem zlt : (List.range' 966 7).all chkE = true := by kernel_rfl
theorem zjR : upE 973 := zad znc zlt rfl
theorem zjr : (List.range' 973 7).all chkE = true := by kernel_rfl
theorem zm3 : upE 980 := zad zjR zjr rfl
theorem zkB : (List.range' 980 7).all chkE = true := by kernel_rfl
theorem zle : upE 987 := zad zm3 zkB rfl
theorem zkD : (List.range' 987 7).all chkE = true := by kernel_rfl
theorem ziO : upE 994 := zad zle zkD rfl
theorem zjm : (List.range' 994 7).all chkE = true := by kernel_rfl
theorem ziB : upE 1001 := zad ziO zjm rfl
theorem ziG {i : Nat} (h : i ≤ 1000) : chkE i = true := ziB i (by omega)
def rt (t : Int) : GRatio := litT t.toNat
theorem rt_x {t : Int} (h1 : 0 ≤ t) (h2 : t ≤ 1000) : zbV 100000 t 1000 = some (rt t, 0) ∧ zbM 100000 (rt t) = some true ∧ zb2 100000 (rt t) (rt t) = some 0 := by
  have h := zit (F := 100000) (t := t.toNat) rfl (ziG (by omega)); rw [show ((t.toNat : Nat) : Int) = t by omega] at h; exact h
attribute [irreducible] rt
def zfn (id : Int) (r : GRow) : GBid := ⟨id, r.Product, r.Change, rt r.Point⟩
theorem zgC {α β : Type} [Inhabited α] [Inhabited β] {f : α → β} {xs : List α} {i : Nat} (h : i < xs.length) : nth (xs.map f) i = f (nth xs i) := zfE h
theorem zgL {α : Type} [Inhabited α] {xs : List α} {i : Nat} (h : i < xs.length) : nth xs i ∈ xs := by rw [zbw h]; exact List.getElem_mem _
section
variable {p : GBidderPlan} {l : List GProduct} {d blocks starts clocks : List Int}
theorem zha (h : BidsIn p l d blocks starts clocks) {M : List (Gpoint × Int)} (hM : ChgM p d blocks starts clocks l.length M) (id : Int) : za9 100000 id M = some ((zcV p d blocks starts clocks l.length 0).map (zfn id), 0) := by
  obtain ⟨hs, hq⟩ := zgp h hM; have hlen := zeR p d blocks starts clocks l.length 0; have hn := h.n
  have hkl : (M.map (·.1)).length = (zcV p d blocks starts clocks l.length 0).length := by
    have e := congrArg List.length hs; rw [(zcy _).length_eq, List.length_map (f := kyR)] at e; exact e
  generalize zcV p d blocks starts clocks l.length 0 = R at *; unfold za9 zd3; rw [zaj ⟨hM.nd, by unfold room; rw [hkl]; omega⟩, zaj (by rw [hkl]; omega), Option.bind_some, hs]; simp only [zap]
  have key : ∀ m i (out : List GBid), i + m = R.length → out ++ (R.drop i).map (zfn id) = R.map (zfn id) → zam (fun (i_6 : Nat) (next5 : List GBid → Option (List GBid × Int)) (bids_4 : List GBid) =>
      (zbV 100000 ((nth (R.map kyR) i_6).thousandths) 1000).bind fun r34 =>
      (bif decide (¬ r34.2 = 0) then
        some ([], r34.2)
        else
        grd (room (bids_4 ++ [(GBid.mk id ((nth (R.map kyR) i_6).product) ((qf M (nth (R.map kyR) i_6)).getD 0) (GRatio.mk (GInt.mk r34.1.Num.Neg r34.1.Num.Digits) (GInt.mk r34.1.Den.Neg r34.1.Den.Digits)))]).length 88) <|
        next5 (bids_4 ++ [(GBid.mk id ((nth (R.map kyR) i_6).product) ((qf M (nth (R.map kyR) i_6)).getD 0) (GRatio.mk (GInt.mk r34.1.Num.Neg r34.1.Num.Digits) (GInt.mk r34.1.Den.Neg r34.1.Den.Digits)))])))
    (fun (bids_4 : List GBid) => some (bids_4, 0)) m i out = some (R.map (zfn id), 0) := by
    intro m
    induction m with
    | zero =>
      intro i out hi ho; rw [List.drop_eq_nil_of_le (by omega), List.map_nil, List.append_nil] at ho; rw [← ho]; rfl
    | succ m ih =>
      intro i out hi ho; (have hir : i < R.length := by omega); obtain ⟨h1, h2, h3⟩ := hq (nth R i) (zgL hir); have h4 := (rt_x h2 h3).1; rw [zbW]; (try dsimp only); rw [zgC hir, h1, show (kyR (nth R i)).thousandths = (nth R i).Point from rfl, h4, Option.bind_some, decide_eq_false (by simp), cond_false]
      have hol : out.length + (R.length - i) = R.length := by
        have := congrArg List.length ho; simpa using this
      rw [zaj (by unfold room; rw [List.length_append]; show (out.length + 1) * 88 ≤ _; omega)]; refine ih (i + 1) _ (by omega) ?_; rw [List.append_assoc, ← ho, List.drop_eq_getElem_cons hir, List.map_cons, ← zbw hir]
      rfl
  exact key (R.map kyR).length 0 [] (by rw [List.length_map]; omega) rfl
theorem zgZ (l : List GProduct) (blocks : List Int) : zbd l blocks = some (zbL l blocks) := by
  unfold zbd zbL zbK; rw [pvalid, Option.bind_some]; by_cases hl : blocks.length = l.length
  · rw [hl]
    cases zaq l
    · rfl
    · rw [decide_eq_false (by simp)]; rfl
  · rw [decide_eq_true (show ¬ (blocks.length : Int) = (l.length : Int) by omega)]
    cases zaq l <;> rfl
theorem zjh {l : List GProduct} {blocks : List Int} (h : zbL l blocks = true) : DemOk l blocks := by
  unfold zbL at h
  cases hc : ((!(zaq l)) || (decide (¬ (blocks.length : Int) = (l.length : Int)))) with
  | true => rw [hc] at h; cases h
  | false =>
    rw [hc, cond_false] at h; rw [Bool.or_eq_false_iff, decide_eq_false_iff_not] at hc; simp only [zap] at h
    rw [show l.length - 0 = l.length from rfl, zd7 (fun i => decide (0 ≤ nth blocks i) && decide (nth blocks i ≤ (nth l i).Supply)) (fun i next hi => by
      cases hc2 : ((decide ((nth blocks i) < 0)) || (decide ((nth l i).Supply < (nth blocks i)))) with
      | true =>
        rw [cond_true]; rw [Bool.or_eq_true, decide_eq_true_eq, decide_eq_true_eq] at hc2
        rw [show (decide (0 ≤ nth blocks i) && decide (nth blocks i ≤ (nth l i).Supply)) = false by
          rw [← Bool.not_eq_true, Bool.and_eq_true, decide_eq_true_eq, decide_eq_true_eq]; omega]
        rfl
      | false =>
        rw [cond_false]; rw [Bool.or_eq_false_iff, decide_eq_false_iff_not, decide_eq_false_iff_not] at hc2
        rw [decide_eq_true (by omega), decide_eq_true (by omega)]; rfl), Bool.and_true, List.all_eq_true] at h
    refine ⟨by omega, fun j hj => ?_⟩; have := h j (List.mem_range.2 hj); rw [Bool.and_eq_true, decide_eq_true_eq, decide_eq_true_eq] at this; exact this
theorem loopP {ρ : Type} {n : Nat} (hc : clocks.length = n) (hs : starts.length = n) (x : Option ρ) (k : Unit → Option ρ) : zam (fun (i_9 : Nat) (next8 : Unit → Option ρ) (_ : Unit) =>
          grd (0 ≤ (i_9 : Int) ∧ (i_9 : Int) < (clocks.length : Int)) <|
          grd (0 ≤ (i_9 : Int) ∧ (i_9 : Int) < (starts.length : Int)) <|
          (bif decide ((nth clocks i_9) < (nth starts i_9)) then x else next8 ())) k (n - 0) 0 () = zam (fun (i_7 : Nat) (next6 : Unit → Option ρ) (_ : Unit) =>
        grd (0 ≤ (i_7 : Int) ∧ (i_7 : Int) < (clocks.length : Int)) <|
        (bif decide ((nth clocks i_7) < (nth starts i_7)) then x else next6 ())) k (n - 0) 0 () := by
  refine zcB (n := n) (fun _ _ _ => True) (fun a b => a = b) trivial (fun _ _ _ => rfl) (fun i s t next next' hi _ hn => ?_); (try dsimp only); rw [zaj (by omega), zaj (by omega), zaj (by omega), hn () () trivial]
theorem loopR {n : Nat} (hc : clocks.length = n) : ((∀ j, j < n → nth starts j ≤ nth clocks j) ∧ ∀ {ρ : Type} (x : Option ρ) (k : Unit → Option ρ), zam (fun (i_7 : Nat) (next6 : Unit → Option ρ) (_ : Unit) =>
        grd (0 ≤ (i_7 : Int) ∧ (i_7 : Int) < (clocks.length : Int)) <|
        (bif decide ((nth clocks i_7) < (nth starts i_7)) then x else next6 ())) k (n - 0) 0 () = k ()) ∨ ∀ {ρ : Type} (x : Option ρ) (k : Unit → Option ρ), zam (fun (i_7 : Nat) (next6 : Unit → Option ρ) (_ : Unit) =>
        grd (0 ≤ (i_7 : Int) ∧ (i_7 : Int) < (clocks.length : Int)) <|
        (bif decide ((nth clocks i_7) < (nth starts i_7)) then x else next6 ())) k (n - 0) 0 () = x := by
  have key : ∀ m i, i + m = n → ((∀ j, i ≤ j → j < n → nth starts j ≤ nth clocks j) ∧ ∀ {ρ : Type} (x : Option ρ) (k : Unit → Option ρ), zam (fun (i_7 : Nat) (next6 : Unit → Option ρ) (_ : Unit) =>
        grd (0 ≤ (i_7 : Int) ∧ (i_7 : Int) < (clocks.length : Int)) <|
        (bif decide ((nth clocks i_7) < (nth starts i_7)) then x else next6 ())) k m i () = k ()) ∨ ∀ {ρ : Type} (x : Option ρ) (k : Unit → Option ρ), zam (fun (i_7 : Nat) (next6 : Unit → Option ρ) (_ : Unit) =>
        grd (0 ≤ (i_7 : Int) ∧ (i_7 : Int) < (clocks.length : Int)) <|
        (bif decide ((nth clocks i_7) < (nth starts i_7)) then x else next6 ())) k m i () = x := by
    intro m
    induction m with
    | zero => intro i hi; exact .inl ⟨fun j h1 h2 => by omega, fun _ _ => rfl⟩
    | succ m ih =>
      intro i hi; by_cases hlt : nth clocks i < nth starts i
      · right; intro ρ x k; rw [zbW]; (try dsimp only); rw [zaj (by omega), decide_eq_true hlt, cond_true]
      · rcases ih (i + 1) (by omega) with ⟨h1, h2⟩ | h2
        · left; refine ⟨fun j hj hj2 => ?_, fun {ρ} x k => ?_⟩
          · by_cases e : j = i
            · subst e; omega
            · exact h1 j (by omega) hj2
          · rw [zbW]; (try dsimp only); rw [zaj (by omega), decide_eq_false hlt, cond_false]; exact h2 x k
        · right; intro ρ x k; rw [zbW]; (try dsimp only); rw [zaj (by omega), decide_eq_false hlt, cond_false]; exact h2 x k
  rcases key (n - 0) 0 (by omega) with ⟨h1, h2⟩ | h2
  · exact .inl ⟨fun j hj => h1 j (by omega) hj, fun x k => h2 x k⟩
  · exact .inr fun x k => h2 x k
end
theorem zjZ {F : Nat} (hF : F = 100000) {p : GBidderPlan} {l : List GProduct} {blocks starts clocks : List Int} (hn : l.length ≤ 100) :
    (za0 F p l blocks starts clocks = some ([], 2) ∧ zdF F p l blocks starts clocks = some ([], 2)) ∨
    ∃ d, BidsIn p l d blocks starts clocks ∧ DemOk l d ∧ zar F p l clocks = some (d, 0) ∧ za0 F p l blocks starts clocks = some ((zcV p d blocks starts clocks l.length 0).map (zfn p.Bidder), 0) ∧ zdF F p l blocks starts clocks = some (zcV p d blocks starts clocks l.length 0, 0) ∧ ∃ M, ChgM p d blocks starts clocks l.length M := by
  have hB : za0 F p l blocks starts clocks = (zaW p l).bind fun r23 => bif (!r23) || (!(zbL l blocks)) || (!(zai l starts)) || (!(zai l clocks)) then some ([], 2) else
      zam (fun (i_9 : Nat) (next8 : Unit → Option (List GBid × Int)) (_ : Unit) =>
          grd (0 ≤ (i_9 : Int) ∧ (i_9 : Int) < (clocks.length : Int)) <|
          grd (0 ≤ (i_9 : Int) ∧ (i_9 : Int) < (starts.length : Int)) <|
          (bif decide ((nth clocks i_9) < (nth starts i_9)) then
            some ([], 2)
            else
            next8 ()))
        (fun (_ : Unit) =>
          (zaJ F p l clocks).bind fun r62 =>
        (bif decide (¬ r62.2 = 0) then
          some ([], r62.2)
          else
          zam (fun (i_17 : Nat) (next16 : (List (Gpoint × Int)) → Option (List GBid × Int)) (l_15 : List (Gpoint × Int)) =>
              zap (fun (l_19 : List (Gpoint × Int)) =>
                next16 l_19)
              (fun k20 =>
                grd (0 ≤ (i_17 : Int) ∧ (i_17 : Int) < (blocks.length : Int)) <|
                (bif decide ((nth blocks i_17) < (nth r62.1 i_17)) then
                  k20 (qset l_15 (Gpoint.mk (i_17 : Int) 1000) (wI ((nth r62.1 i_17) - (nth blocks i_17))))
                  else
                  grd (0 ≤ (i_17 : Int) ∧ (i_17 : Int) < (starts.length : Int)) <|
                  grd (0 ≤ (i_17 : Int) ∧ (i_17 : Int) < (clocks.length : Int)) <|
                  (zaS F ([] : List (Gpoint × Int)) p (i_17 : Int) (nth blocks i_17) (nth r62.1 i_17) (nth starts i_17) (nth clocks i_17)).bind fun r108 =>
                  k20 (zft r108 l_15))))
            (fun (l_15 : List (Gpoint × Int)) =>
              (za9 F p.Bidder l_15).bind fun r124 =>
            some (r124.1, r124.2)) (r62.1.length - 0) 0 ([] : List (Gpoint × Int)))) (l.length - 0) 0 () := by
    unfold za0; rw [zco]
    congr 1
    funext r23
    rw [zgZ]
    cases r23
    · rfl
    · cases zbL l blocks
      · rfl
      · cases zai l starts
        · rfl
        · cases zai l clocks <;> rfl
  rw [hB]; clear hB; unfold zdF; rcases zfz (p := p) (prices := clocks) (fuel := F) (by omega) hn with ⟨_, hd, hc⟩ | ⟨hb, hvc, hpl, hcl, hcp, d0, hcnt, hdem, h1, h2⟩
  · left; rw [hd, Option.bind_some]; refine ⟨?_, rfl⟩; rcases hc with hc | hc
    · rw [hc]; rfl
    · obtain ⟨b, hb, _⟩ := zdS p l; rw [hb, Option.bind_some, hc, Bool.not_false, Bool.or_true, cond_true]
  · rw [hb, Option.bind_some, h2, Option.bind_some, hvc, Bool.not_true, Bool.or_false, Bool.false_or]; have hR := zc8 hpl.prods
    have hdok := zgm (l := l) (B := p.Budget) (prices := clocks) hpl.budget.1 hcp l.length (csum clocks d0 l.length) d0 (Nat.le_refl _) hdem (by
      (have h12 : ∀ j, j < l.length → 0 ≤ nth d0 j ∧ nth d0 j ≤ 12 := fun j hj => by have := hdem.bd j hj; have := ok12 hR hj; omega); have := zdJ hcp h12 l.length (Nat.le_refl _)
      omega) (by
      (have h12 : ∀ j, j < l.length → 0 ≤ nth d0 j ∧ nth d0 j ≤ 12 := fun j hj => by have := hdem.bd j hj; have := ok12 hR hj; omega); have := zdJ hcp h12 l.length (Nat.le_refl _)
      omega)
    generalize redL p.Budget clocks l.length (csum clocks d0 l.length) d0 = d at *
    have hbo : zaJ F p l clocks = some (d, 0) := by
      unfold zar at h1; rw [zco, hb, Option.bind_some, hvc] at h1; generalize zaJ F p l clocks = y at h1 ⊢
      cases y with
      | none => cases h1
      | some y => exact h1
    rw [decide_eq_false (show ¬ ¬ (0 : Int) = 0 by simp), Bool.false_or]
    cases hvb : zbL l blocks with
    | false => exact .inl ⟨rfl, rfl⟩
    | true =>
      rw [Bool.not_true, Bool.false_or, Bool.false_or]; have hbd := zjh hvb; rw [zb8]; by_cases hsl : ¬ starts.length = l.length
      · rw [decide_eq_false (show ¬ (starts.length : Int) = (l.length : Int) by omega), decide_eq_true (show ¬ (starts.length : Int) = (l.length : Int) by omega)]; exact .inl ⟨rfl, rfl⟩
      · have hsl := Decidable.not_not.1 hsl; rw [decide_eq_true (show (starts.length : Int) = (l.length : Int) by omega), decide_eq_false (show ¬ ¬ (starts.length : Int) = (l.length : Int) by omega), Bool.true_and, Bool.false_or]
        cases hal : zbt starts 549755813888 with
        | false => exact .inl ⟨rfl, rfl⟩
        | true =>
          rw [Bool.not_true, cond_false, cond_false, loopP hcl hsl]; rcases loopR (starts := starts) (clocks := clocks) (n := l.length) hcl with ⟨hsc, hk⟩ | hk
          · right; have hsp := all_iff.1 hal; have hIn : BidsIn p l d blocks starts clocks := ⟨hn, hpl.len, hdok.len, hbd.len, hsl, hcl, fun i hi => by have := hdok.bd i hi; have := ok12 hR hi; omega, fun i hi => by have := hbd.bd i hi; have := ok12 hR hi; omega, fun i hi => ⟨(hpl.vals i (by rw [hpl.len]; exact hi)).2.1, (hsp i (by omega)).1, hsc i hi, (hcp i hi).2⟩⟩; rw [hk, hbo, Option.bind_some]; rw [decide_eq_false (show ¬ ¬ (0 : Int) = 0 by simp), cond_false]
            obtain ⟨M, h5, h6⟩ := zfv hIn (fuel := F) (by omega) (fun (l_15 : List (Gpoint × Int)) =>
              (za9 F p.Bidder l_15).bind fun r124 =>
            some (r124.1, r124.2)) l.length 0 [] (by omega) ⟨.nil, fun x => by
              rw [decide_eq_false (by omega), cond_false]; rfl⟩
            have hdl := hdok.len; have hbe := zha hIn h6 p.Bidder; rw [← hF] at hbe; refine ⟨d, hIn, hdok, h1, ?_, ?_, M, h6⟩
            · rw [show ((d, (0 : Int)).1.length - 0) = l.length from hdl, h5, hbe, Option.bind_some]
            · simp only [zap]; have hr := zfy hIn (fuel := F) (by omega) (fun (out_10 : List GRow) => some (out_10, (0 : Int))) l.length 0 [] (by omega) (Nat.zero_le _); rw [List.nil_append] at hr; simp only [zap] at hr; rw [hk]; exact hr
          · left; simp only [zap]; exact ⟨hk _ _, hk _ _⟩
theorem zgK {prices d : List Int} {x : Int} {i : Nat} (hi : i < d.length) : ∀ (m : Nat), i < m → csum prices (d.set i x) m = csum prices d m + nth prices i * (x - nth d i)
  | 0, h => by omega
  | m + 1, h => by
    rw [csum, csum]; by_cases e : i = m
    · subst e; rw [zfr i (Nat.le_refl _), zaL hi, Int.mul_sub]; omega
    · rw [zgK hi m (by omega), zbh (by omega)]; omega
theorem zfL {prices d : List Int} : ∀ (m : Nat), (∀ j, j < m → nth d j = 0) → csum prices d m = 0
  | 0, _ => rfl
  | m + 1, h => by rw [csum, zfL m (fun j hj => h j (by omega)), h m (by omega), Int.mul_zero]; rfl
theorem zfY {B pr : Int} : ∀ (n : Nat) (c : Int), (redN B pr n c).2 = c + pr * (((redN B pr n c).1 : Int) - (n : Int)) ∧ (B < (redN B pr n c).2 → (redN B pr n c).1 = 0 ∧ B < c ∨ B < c ∧ (redN B pr n c).1 = 0)
  | 0, c => by
    refine ⟨?_, fun h => .inl ⟨rfl, h⟩⟩
    show c = c + pr * (((0 : Nat) : Int) - ((0 : Nat) : Int))
    rw [Int.sub_self, Int.mul_zero, Int.add_zero]
  | n + 1, c => by
    rw [redN]; by_cases h : B < c
    · rw [decide_eq_true h, cond_true]; have ih := zfY (B := B) (pr := pr) n (c - pr); refine ⟨?_, fun h2 => ?_⟩
      · rw [ih.1]; generalize ((redN B pr n (c - pr)).1 : Int) = z; rw [Int.mul_sub, Int.mul_sub, show ((n + 1 : Nat) : Int) = (n : Int) + 1 by omega, Int.mul_add, Int.mul_one]; omega
      · rcases ih.2 h2 with h3 | h3
        · exact .inl ⟨h3.1, h⟩
        · exact .inl ⟨h3.2, h⟩
    · rw [decide_eq_false h, cond_false]; refine ⟨?_, fun h2 => absurd h2 h⟩
      show c = c + pr * (((n + 1 : Nat) : Int) - ((n + 1 : Nat) : Int))
      rw [Int.sub_self, Int.mul_zero, Int.add_zero]
theorem zfW {B : Int} {prices : List Int} {n : Nat} (hB : 0 ≤ B) : ∀ (i : Nat) (c : Int) (d : List Int), i ≤ n → d.length = n → c = csum prices d n → (B < c → ∀ j, i ≤ j → j < n → nth d j = 0) → (∀ j, j < n → 0 ≤ nth d j) → csum prices (redL B prices i c d) n ≤ B
  | 0, c, d, _, _, hc, hz, _ => by
    rw [redL, ← hc]; rcases Int.lt_or_le B c with h | h
    · rw [hc, zfL n (fun j hj => hz h j (Nat.zero_le _) hj)]; exact hB
    · exact h
  | i + 1, c, d, hi, hd, hc, hz, h0 => by
    rw [redL]; have hr := zfY (B := B) (pr := nth prices i) (nth d i).toNat c; have hi0 := h0 i (by omega); refine zfW hB i _ _ (by omega) (by rw [List.length_set]; exact hd) ?_ (fun hlt j h1 h2 => ?_) (fun j hj => ?_)
    · rw [zgK (by omega) n (by omega), hr.1, hc, show (((nth d i).toNat : Nat) : Int) = nth d i by omega]
    · have h3 : (redN B (nth prices i) (nth d i).toNat c).1 = 0 ∧ B < c := by
        rcases hr.2 hlt with h | h
        · exact h
        · exact ⟨h.2, h.1⟩
      by_cases e : j = i
      · subst e; rw [zaL (by omega), h3.1]; rfl
      · rw [zbh e]; exact hz h3.2 j (by omega) h2
    · by_cases e : j = i
      · subst e; rw [zaL (by omega)]; omega
      · rw [zbh e]; exact h0 j hj
def capC (v : List Int) (pr s : Int) : Nat → Int
  | 0 => 0
  | k + 1 => if pr ≤ nth v k ∧ capC v pr s k < s then capC v pr s k + 1 else capC v pr s k
theorem zge (v : List Int) (pr s : Int) : ∀ k, 0 ≤ capC v pr s k ∧ (0 ≤ s → capC v pr s k ≤ s)
  | 0 => ⟨Int.le_refl _, fun h => h⟩
  | k + 1 => by
    have ih := zge v pr s k; rw [capC]
    split
    · exact ⟨by omega, fun h => by omega⟩
    · exact ih
theorem zfJ (v : List Int) {pr pr' : Int} (s : Int) (h : pr ≤ pr') : ∀ k, capC v pr' s k ≤ capC v pr s k
  | 0 => Int.le_refl _
  | k + 1 => by
    have ih := zfJ v s h k; rw [capC, capC]
    split
    · split <;> omega
    · split <;> omega
def sumM (f : Int → Int) : Nat → Int → Int
  | 0, _ => 0
  | m + 1, t => f t + sumM f m (t + 1)
theorem zgJ (f g : Int → Int) : ∀ (m : Nat) (t : Int), sumM (fun t => f t + g t) m t = sumM f m t + sumM g m t
  | 0, _ => rfl
  | m + 1, t => by rw [sumM, sumM, sumM, zgJ f g m (t + 1)]; omega
theorem zfX : ∀ (m : Nat) (t : Int), sumM (fun _ => 0) m t = 0
  | 0, _ => rfl
  | m + 1, t => by rw [sumM, zfX m (t + 1)]; rfl
theorem zgG (z : Int) : ∀ (m : Nat) (t : Int), sumM (fun t => bif decide (z = t) then 1 else 0) m t = if t ≤ z ∧ z < t + (m : Int) then 1 else 0
  | 0, t => by rw [if_neg (by omega)]; rfl
  | m + 1, t => by
    rw [sumM, zgG z m (t + 1)]; by_cases e : z = t
    · rw [decide_eq_true e, cond_true, if_neg (by omega), if_pos (by omega)]; rfl
    · rw [decide_eq_false e, cond_false]; by_cases h : t ≤ z ∧ z < t + ((m + 1 : Nat) : Int)
      · rw [if_pos (by omega), if_pos h]; rfl
      · rw [if_neg (by omega), if_neg h]; rfl
theorem zgO {v : List Int} {s c : Int} (h : PtIn v s c) : ∀ (m : Nat) (k : Int), 0 ≤ k → sumM (fun t => cntU (atP v s c t) m k) 1001 0 = (m : Int)
  | 0, k, _ => zfX _ _
  | m + 1, k, hk => by
    have hp := zhG h hk
    have e : (fun t => cntU (atP v s c t) (m + 1) k) = fun t => (bif decide (ptI v k s c = t) then 1 else 0) + cntU (atP v s c t) m (k + 1) := by
      funext t
      rw [cntU]; rfl
    rw [e, zgJ, zgG, if_pos (by omega), zgO h m (k + 1) (by omega)]; omega
def addR (S : List Int) (r : GRow) : List Int := S.set r.Product.toNat (nth S r.Product.toNat + r.Change)
theorem zdO {cnt : Int → Int} {i : Nat} : ∀ (m : Nat) (t : Int) (S : List Int), i < S.length → (zdH cnt (i : Int) m t).foldl addR S = S.set i (nth S i - sumM (fun t => max (cnt t) 0) m t)
  | 0, t, S, hi => by rw [zdH, sumM, Int.sub_zero, zeM hi]; rfl
  | m + 1, t, S, hi => by
    rw [zdH, sumM, List.foldl_append]; by_cases hc : 0 < cnt t
    · rw [decide_eq_true hc, cond_true]
      show List.foldl addR (addR S ⟨(i : Int), -cnt t, t⟩) _ = _
      unfold addR; dsimp only; rw [show (i : Int).toNat = i by omega]; have ih := zdO (cnt := cnt) m (t + 1) (S.set i (nth S i + -cnt t)) (by rw [List.length_set]; exact hi); unfold addR at ih; rw [ih, zaL hi, List.set_set, show max (cnt t) 0 = cnt t by omega]
      congr 1
      omega
    · rw [decide_eq_false hc, cond_false]
      show List.foldl addR S _ = _
      rw [zdO m (t + 1) S hi, show max (cnt t) 0 = 0 by omega, Int.zero_add]
section
variable {p : GBidderPlan} {l : List GProduct} {d blocks starts clocks : List Int}
theorem zgT (h : BidsIn p l d blocks starts clocks) {i : Nat} (hi : i < l.length) {S : List Int} (hS : i < S.length) (hv : nth S i = nth blocks i) : (zd0 p d blocks starts clocks i).foldl addR S = S.set i (nth d i) := by
  unfold zd0; rw [List.foldl_append]
  have e : (fun t => max (cntT p d blocks starts clocks i t) 0) = cntT p d blocks starts clocks i := by
    funext t
    have := zeg h hi t; omega
  have hs : sumM (cntT p d blocks starts clocks i) 1001 0 = ((nth blocks i - nth d i).toNat : Int) := zgO (h.pt i hi) _ _ (h.db i hi).1; by_cases hb : nth blocks i < nth d i
  · rw [decide_eq_true hb, cond_true]
    show List.foldl addR (addR S ⟨(i : Int), nth d i - nth blocks i, 1000⟩) _ = _
    unfold addR; dsimp only; rw [show (i : Int).toNat = i by omega]; have ih := zdO (cnt := cntT p d blocks starts clocks i) (i := i) 1001 0 (S.set i (nth S i + (nth d i - nth blocks i))) (by rw [List.length_set]; exact hS); unfold addR at ih; rw [ih, zaL hS, List.set_set, e, hs, hv]
    congr 1
    omega
  · rw [decide_eq_false hb, cond_false]
    show List.foldl addR S _ = _
    rw [zdO 1001 0 S hS, e, hs, hv]
    congr 1
    omega
theorem zfg (h : BidsIn p l d blocks starts clocks) : ∀ (m i : Nat) (S : List Int), i + m = l.length → S.length = l.length → (∀ j, i ≤ j → j < l.length → nth S j = nth blocks j) → (∀ j, j < i → nth S j = nth d j) → (zcV p d blocks starts clocks m i).foldl addR S = d
  | 0, i, S, hi, hS, _, h2 => by
    rw [zcV]
    show S = d
    refine List.ext_getElem (by rw [hS, h.dl]) fun j h3 h4 => ?_; have := h2 j (by omega); rw [zbw h3, zbw h4] at this; exact this
  | m + 1, i, S, hi, hS, h1, h2 => by
    rw [zcV, List.foldl_append, zgT h (by omega) (by omega) (h1 i (Nat.le_refl _) (by omega))]; refine zfg h m (i + 1) _ (by omega) (by rw [List.length_set]; exact hS) (fun j h3 h4 => ?_) (fun j h3 => ?_)
    · rw [zbh (by omega)]; exact h1 j (by omega) h4
    · by_cases e : j = i
      · subst e; exact zaL (by omega)
      · rw [zbh e]; exact h2 j (by omega)
theorem zhQ (h : BidsIn p l d blocks starts clocks) {r : GRow} (hr : r ∈ zcV p d blocks starts clocks l.length 0) : 0 ≤ r.Product ∧ r.Product < (l.length : Int) ∧ -12 ≤ r.Change ∧ r.Change ≤ 12 := by
  have h1 := (zd2 h l.length 0 (by omega)).1 hr; refine ⟨by omega, h1.2.1, ?_⟩; (have hi : r.Product.toNat < l.length := by omega); have h2 := h1.2.2; have h3 := h.db _ hi; have h4 := h.bb _ hi; unfold chgO at h2; by_cases hb : nth blocks r.Product.toNat < nth d r.Product.toNat
  · rw [decide_eq_true hb, cond_true] at h2; by_cases ht : r.Point = 1000
    · rw [decide_eq_true ht, cond_true] at h2; have := Option.some.inj h2; omega
    · rw [decide_eq_false ht, cond_false] at h2; cases h2
  · rw [decide_eq_false hb, cond_false] at h2; have hbd := zeg h hi r.Point; unfold cO at h2; by_cases hn : cntT p d blocks starts clocks r.Product.toNat r.Point = 0
    · rw [decide_eq_true hn, cond_true] at h2; cases h2
    · rw [decide_eq_false hn, cond_false] at h2; have := Option.some.inj h2; dsimp only at this; omega
end
section
variable {Fe : Fence} [hFe : Calm Fe] {P : Program} {n : Nat} {B D : World} {M S0 : Nat → Prop} {Q : Exit → Act → World → Prop} {fs : SFs} {hs : HS} {ops : Array Oper} {rest : List Oper} {o : Oper} {v val : Value}
theorem Ew.bp (i j ix : Nat) {F : FzB B M S0} {s x : Operand} {t e u : TypeId} {size bytes k k' g : Nat} {z l l' : List Value} {cs : List (List Value)} {hs' : Value → HS} [hT : TyE P t e size bytes z] [hT2 : TySl P t e size] (ho : o.op = .call { callee := .builtin .append, args := #[s, x], argTypes := #[t, t] })
    (hs1 : ev fs s = some (.slice (some ⟨g, 0, none⟩) k k)) (hx : ev fs x = some v) (hi : hs[i]? = some (.row g u l)) (hl : l.length = k * size) (hj : hs[j]? = some (.sl (.slice none 0 0) e size 0 [])) (hF : hs[ix]? = some (.fr F)) (h : SlC F.toFrz v size cs) (hk : k + cs.length = k') (hl' : l ++ cs.flatten = l') (hb : k' * bytes ≤ 140737488355328) (hbs : 0 < bytes)
    [hH : ∀ v', SetAt hs j (.sl v' e size k' l') (hs' v')] : Ew P n B M fs hs o (fun v hs'' => (cs = [] ∧ v = .slice (some ⟨g, 0, none⟩) k k ∧ hs'' = hs) ∨ (OneC v ∧ hs'' = hs' v)) := by
  obtain ⟨inf, zv, hU, hinf, hz, hzc, h6, h7, hzs, hpos⟩ := hT.get; rcases Nat.eq_zero_or_pos cs.length with h0 | h0
  · obtain rfl := List.eq_nil_of_length_eq_zero h0; obtain ⟨A, cap, hv, _⟩ := h; simp at hv; subst hv; refine Ew.aD fun a w ha hp => ?_; refine ⟨.slice (some ⟨g, 0, none⟩) k k, w, hs, ?_, Kp.refl w, hp, .inl ⟨rfl, rfl, rfl⟩⟩; unfold execOp; simp [ho, resolve, invoke, builtin, ha.ev hs1, ha.ev hx, zdC (P := P) (t := t) (Nat.le_refl k)]
  · obtain ⟨g2, off, cap, rfl, hg, hc⟩ := h.addr h0; (have hr : ∀ c ∈ cs, c.length = size := by obtain ⟨_, _, _, _, _, h4, _⟩ := h; exact h4); refine Ew.aD fun a w ha hp => ?_; have hcs := Cs.flat (by omega) hr (fun i hi => Cs.at (hp.fr hF) hg (hc i hi))
    have hcl : cs.flatten.length = cs.length * size := by
      clear hcs hc hl' hx hk h0 h
      induction cs with
      | nil => simp
      | cons c r ih => rw [List.flatten_cons, List.length_append, ih (fun c' h' => hr c' (by simp [h'])), hr c (by simp), List.length_cons, Nat.add_mul]; omega
    have hrow := Ent.row_ok.1 (hp.get hi); have h140 : k' ≤ 140737488355328 := Nat.le_trans (Nat.le_mul_of_pos_right _ hbs) hb
    obtain ⟨v', w', hr2, hown, hgr⟩ := run_append_arg_grows (P := P) w t o.type e inf zv size bytes hU hinf hz h6 h7 hzs hpos ⟨g, 0, none⟩ k k l hl (fun q u hq => by
      rw [zc0, zdN hrow]; rw [Nat.zero_add]; exact hq) ⟨g2, off, none⟩ cs.length cap cs.flatten hcl (fun q u hq => by
      rw [zc0]
      exact (hcs q (List.getElem?_eq_some_iff.1 hq).1).trans hq) (by omega) (by unfold maxLen; omega) (by rw [hk]; exact hb)
    (have ho1 : OneC v' := by rcases hown.2 with ⟨rfl, _⟩ | ⟨_, _, _, rfl, _⟩ <;> exact ⟨rfl⟩); refine ⟨v', w', hs' v', ?_, Kp.only (zcQ hgr) (fun g hg c => by cases hg), ?_, .inr ⟨ho1, rfl⟩⟩
    · unfold execOp; simp [ho, resolve, invoke, builtin, ha.ev hs1, ha.ev hx, hr2]
    · rw [← (hH v').h]; subst hk hl'; refine hp.updAt hj (zcQ hgr) (fun q _ hq => by cases hq) (Ent.sl_ok.2 ⟨hown.1, hown.2.imp id fun ⟨g3, cap3, cur3, a1, a2, a3⟩ => ⟨g3, cap3, cur3, a1, Nat.zero_le _, a3⟩⟩) (fun q hq => ?_); have hq := Ent.sl_fp.1 hq; rcases hown.2 with ⟨h1, _⟩ | ⟨g3, _, _, h1, h2, _⟩
      · rw [h1] at hq; cases hq
      · rw [h1] at hq; cases hq; exact .inr h2
theorem Yv.bM {t e c k g m : Nat} {z0 z : Int} {x lo hi mx : Operand} [hT : TyAr P t c e k] (ho : o.op = .slice t x (some lo) (some hi) (some mx)) (hx : ev fs x = some (.pointer (some ⟨g, 0, none⟩))) (hlo : ev fs lo = some (.int .i64 z0)) (hhi : ev fs hi = some (.int .i64 z)) (hmx : ev fs mx = some (.int .i64 z)) (hz0 : z0 = 0) (hz : z = (m : Int)) (hc : c = m) (hm : 0 < m) : Yv P n B M fs hs o (.slice (some ⟨g, 0, none⟩) m m) := fun a w ha _ => by
  have h := hT.h; unfold zh0 at h
  split at h
  · rename_i cc el hU
    cases hi' : P.info? el with
    | none => rw [hi'] at h; cases h
    | some inf =>
      rw [hi'] at h
      cases h
      subst hz0 hz hc; unfold execOp; simp [ho, ha.ev hx, ha.ev hlo, ha.ev hhi, ha.ev hmx, Instr.sliceAt, underlying, hU, Instr.sureAddr, Instr.sliceBounds, run_sliceBound, sizeOf, typeInfo, hi', zc0]
  · cases h
end
def zcd (b : GStationBid) : Option (List Int) := grd (room (b.Preferred :: b.Fallbacks).length 8) <| some (b.Preferred :: b.Fallbacks)
theorem zdR (F0 : Frz) (w : World) (hF0 : F0.At w) (b : GStationBid) (vb_2 : Value) (hb_2 : SlC F0 vb_2 1 (b.Fallbacks.map eI)) (r : List Int) (hr : zcd b = some r) : Calls Tryz.prog 54 #[.agg [.int .i64 b.Station, .int .i64 b.Preferred, vb_2].toArray] w fun e w' => ∃ (y : Value) (G : Frz), (SlC G y 1 (r.map eI)) ∧ e = .returned y ∧ Fx F0 w G w' := by
  have hk := hr; unfold zcd at hk; haveI := hb_2.oneC; obtain ⟨S0, F1, rfl, hS0, hp0⟩ := zag hF0; obtain ⟨hroom, hk⟩ := zaf hk; obtain rfl := Option.some.inj hk; refine zak Tryz.func54 rfl rfl rfl hp0 ?_; refine T.sr ?_; refine TL.e (Ew.aw rfl rfl) ?_; rintro _ _ ⟨g1, rfl, rfl⟩; refine TL.run 1 rfl ?_; refine TL.nx ?_; refine TL.y (Yv.fieldAddr rfl rfl) ?_; refine TL.y (Yv.af 0 rfl rfl rfl rfl) ?_; refine TL.y ((Yv.bB (z := [.int .i64 0]) (l := [.int .i64 b.Preferred]) rfl rfl).eq rfl) ?_; refine TL.e (Ew.bu (l := [.int .i64 0]) rfl rfl) ?_; rintro _ _ ⟨g3, rfl, rfl⟩; refine TL.e0 (Ew.ag 0 rfl rfl rfl rfl rfl rfl) ?_; rintro _ _ ⟨rfl, rfl⟩; refine TL.ns (T.seq ?_); refine T.ax (.still 0 (.still 1 (.still 2 (.eff 3 (.still 4 .done))))) [.row g3 132 [.int .i64 b.Preferred], .row g1 52 [.int .i64 b.Station, .int .i64 b.Preferred, vb_2], .fr F1] (by kernel_rfl) (List.Sublist.refl _) ?_; refine TS.y rfl (Yv.bM (m := 1) rfl rfl rfl rfl rfl rfl rfl rfl (by decide)) ?_; refine TS.y rfl (Yv.fieldAddr rfl rfl) ?_; refine TS.y rfl (Yv.af 1 rfl rfl rfl rfl) ?_; refine TS.eff ?_; refine TSo.slNil 3 1 ?_; refine TSo.aC rfl (Wt.none rfl) rfl rfl (Ew.bp 1 0 3 (k' := (b.Preferred :: b.Fallbacks).length) (l' := (b.Preferred :: b.Fallbacks).flatMap eI) rfl rfl rfl rfl rfl rfl rfl hb_2 (by simp [Nat.add_comm]) (by rw [List.flatMap_cons, List.flatMap_def]) hroom (by decide)) ?_; rintro v10 _ (⟨hc, rfl, rfl⟩ | ⟨h1, rfl⟩)
  · refine ⟨(fun w hw => hw.sub Sx), ?_⟩; refine TS.run 1 rfl ?_; refine TS.done ?_; refine K.seq (T.ret ?_); refine K.aA (fun w hw => hw.freezeR (i := 3) (j := 1) (by decide) rfl rfl) ?_; rintro F2 ⟨le2, hz2⟩; dsimp only [List.set, List.eraseIdx]; have hf := (SlK.lit (k := 1) (c := 1) (size := 1) hz2 rfl (Nat.le_refl _) (by decide)).toF (enc := eI) (xs := [b.Preferred]) rfl (fun _ => rfl); (have hb : b.Fallbacks = [] := by simpa using hc); rw [hb]; exact K.ah rfl rfl (fun w' hw => ⟨_, F2.toFrz, hf, rfl, Fx.of hw (i := 2) rfl hS0 le2⟩)
  · refine ⟨(fun w hw => hw.sub Sx), ?_⟩; refine TS.run 1 rfl ?_; refine TS.done ?_; refine K.seq (T.ret ?_); refine K.aA (fun w hw => hw.freezeS (i := 3) (j := 0) (by decide) rfl rfl) ?_; rintro F2 ⟨le2, hz2⟩; dsimp only [List.set, List.eraseIdx]; have hf := hz2.toF rfl (fun _ => rfl); exact K.ah rfl rfl (fun w' hw => ⟨_, F2.toFrz, hf, rfl, Fx.of hw (i := 2) rfl hS0 le2⟩)
end Go.Proofs.YtlaafmiejkebgaaGreat
