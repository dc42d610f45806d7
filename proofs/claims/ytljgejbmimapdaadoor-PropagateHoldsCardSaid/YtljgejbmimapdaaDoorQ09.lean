/- Cv Sc Yr Lc Pb Sd Yp Lp Gg M13 Se Ps M9: shortened and put together by squeeze.py. -/
import Derived.Test.YtljgejbmimapdaaDoorQ08
set_option maxRecDepth 100000
set_option maxHeartbeats 4000000
set_option linter.unusedVariables false
set_option linter.unusedSectionVars false
set_option linter.unusedSimpArgs false
namespace Go.Proofs.YtljgejbmimapdaaDoor
open Go.RowKit
theorem iterK_allO {ρ : Type} {f : Nat → (Unit → ρ) → Unit → ρ} {k : Unit → ρ} {n : Nat} {z : ρ} (q : Nat → Bool) (hf : ∀ i next, i < n → f i next () = bif q i then next () else z) : iterK f k n 0 () = bif (List.range n).all q then k () else z := by
  have key : ∀ m i, i + m = n → iterK f k m i () = bif (List.range' i m).all q then k () else z := by
    intro m
    induction m with
    | zero => intro i _; rfl
    | succ m ih =>
      intro i e
      show f i (iterK f k m (i + 1)) () = _
      rw [hf i _ (by omega), ih (i + 1) (by omega), List.range'_succ, List.all_cons]
      cases q i <;> rfl
  rw [key n 0 (by omega), List.range_eq_range']
theorem station_x {n : Int} : ref17_station_x n = inB n 0 511 := rfl
theorem span_x {a b : Int} : ref17_span_x a b = rngB a b := by
  unfold ref17_span_x rngB; by_cases h1 : 2 ≤ a <;> by_cases h2 : a ≤ b <;> by_cases h3 : b ≤ 51 <;> simp [h1, h2, h3]
theorem less_x {a b : List Int} (h : a.length = b.length) : ref17_Less_x a b = some (lessL a b) := by
  unfold ref17_Less_x; simp only [joinK, Nat.sub_zero]
  have key : ∀ m i, i + m = a.length → iterK (fun (i : Nat) (next : Unit → Option Bool) (_ : Unit) => grd (0 ≤ (i : Int) ∧ (i : Int) < (b.length : Int)) (bif decide (¬ nth a i = nth b i) then some (decide (nth a i < nth b i)) else next ())) (fun _ => some false) m i () = some (lessL (a.drop i) (b.drop i)) := by
    intro m
    induction m with
    | zero => intro i e; rw [List.drop_eq_nil_of_le (show a.length ≤ i by omega)]; rfl
    | succ m ih =>
      intro i e; have h2 := ih (i + 1) (by omega)
      show grd _ _ = _
      rw [grd_pos ⟨by omega, by omega⟩, lessL_drop (by omega) (by omega)]; by_cases e2 : nth a i = nth b i
      · rw [if_pos e2, decide_eq_false (fun hn => hn e2), cond_false]; exact h2
      · rw [if_neg e2, decide_eq_true e2, cond_true]
  exact key a.length 0 (by omega)
def hasS (p : GProblem) (s : Int) : Bool := p.Domains.any fun d => decide (d.Station = s)
theorem find_x {p : GProblem} {s : Int} : ref17_Find_x p s < 0 ↔ hasS p s = false := by
  unfold ref17_Find_x hasS; simp only [joinK, Nat.sub_zero]
  have key : ∀ m i, i + m = p.Domains.length → (iterK (fun (i : Nat) (next : Unit → Int) (_ : Unit) => bif decide ((nth p.Domains i).Station = s) then (i : Int) else next ()) (fun _ => (-1)) m i () < 0 ↔ ((p.Domains.drop i).any fun d => decide (d.Station = s)) = false) := by
    intro m
    induction m with
    | zero => intro i e; rw [List.drop_eq_nil_of_le (show p.Domains.length ≤ i by omega)]; exact ⟨fun _ => rfl, fun _ => by show (-1 : Int) < 0; omega⟩
    | succ m ih =>
      intro i e; have h2 := ih (i + 1) (by omega); rw [List.drop_eq_getElem_cons (show i < p.Domains.length by omega), List.any_cons, ← nth_eq (show i < p.Domains.length by omega)]
      show (bif decide ((nth p.Domains i).Station = s) then (i : Int) else _) < 0 ↔ _
      cases decide ((nth p.Domains i).Station = s) with
      | true => simp
      | false => rw [cond_false, Bool.false_or]; exact h2
  have := key p.Domains.length 0 (by omega)
  rwa [List.drop_zero] at this
theorem toNat_pred (i : Nat) : ((i : Int) - 1).toNat = i - 1 := by omega
theorem vrulesP {p : GProblem} {i : Nat} {next : Unit → Option Bool} (hi : i < p.Rules.Pairs.length) :
    (bif !(ref17_station_x ((nth p.Rules.Pairs i).A)) then (bif true then some false else next ()) else
      (bif !(ref17_station_x ((nth p.Rules.Pairs i).B)) then (bif true then some false else next ()) else
      (bif decide ((nth p.Rules.Pairs i).B ≤ (nth p.Rules.Pairs i).A) then (bif true then some false else next ()) else
      (bif decide ((nth p.Rules.Pairs i).Offset < (-1)) then (bif true then some false else next ()) else
      (bif decide (1 < (nth p.Rules.Pairs i).Offset) then (bif true then some false else next ()) else
      (bif !(ref17_span_x ((nth p.Rules.Pairs i).Low) ((nth p.Rules.Pairs i).High)) then (bif true then some false else next ()) else
      (bif decide (0 < (i : Int)) then (ref17_Less_x (ref17_PairOf_x (nth p.Rules.Pairs (((i : Int) - 1).toNat))) (ref17_PairOf_x (nth p.Rules.Pairs i))).bind fun r => (bif !r then some false else next ()) else (bif false then some false else next ())))))))) = bif refPr (pbG p).ps i then next () else some false := by
  have e1 : nth (pbG p).ps i = (nth p.Rules.Pairs i).b := nth_mapF hi; have e2 : nth (pbG p).ps (i - 1) = (nth p.Rules.Pairs (i - 1)).b := nth_mapF (by omega); rw [toNat_pred, less_x (by rfl), Option.bind_some]; simp only [station_x, span_x]
  have hr : refPr (pbG p).ps i = (inB (nth p.Rules.Pairs i).A 0 511 && (inB (nth p.Rules.Pairs i).B 0 511 && (!decide ((nth p.Rules.Pairs i).B ≤ (nth p.Rules.Pairs i).A) && (!decide ((nth p.Rules.Pairs i).Offset < (-1)) && (!decide (1 < (nth p.Rules.Pairs i).Offset) && (rngB (nth p.Rules.Pairs i).Low (nth p.Rules.Pairs i).High && (!decide (0 < (i : Int)) || lessL (ref17_PairOf_x (nth p.Rules.Pairs (i - 1))) (ref17_PairOf_x (nth p.Rules.Pairs i))))))))) := by
    unfold refPr; rw [e1, e2, Bool.eq_iff_iff, decide_eq_true_eq]; simp only [Bool.and_eq_true, Bool.or_eq_true, Bool.not_eq_true', decide_eq_false_iff_not, GPair.b, ref17_PairOf_x]; constructor
    · rintro ⟨⟨h1, h2, h3, h4, h5, h6⟩, h9⟩; refine ⟨h1, h2, by omega, by omega, by omega, h6, ?_⟩; rcases Nat.eq_zero_or_pos i with h | h
      · exact .inl (by omega)
      · exact .inr (h9 h)
    · rintro ⟨h1, h2, h3, h4, h5, h6, h9⟩; refine ⟨⟨h1, h2, by omega, by omega, by omega, h6⟩, fun h => ?_⟩; rcases h9 with h9 | h9
      · omega
      · exact h9
  rw [hr]
  cases inB (nth p.Rules.Pairs i).A 0 511
  · rfl
  cases inB (nth p.Rules.Pairs i).B 0 511
  · rfl
  cases decide ((nth p.Rules.Pairs i).B ≤ (nth p.Rules.Pairs i).A)
  rotate_left
  · rfl
  cases decide ((nth p.Rules.Pairs i).Offset < (-1))
  rotate_left
  · rfl
  cases decide (1 < (nth p.Rules.Pairs i).Offset)
  rotate_left
  · rfl
  cases rngB (nth p.Rules.Pairs i).Low (nth p.Rules.Pairs i).High
  · rfl
  cases decide (0 < (i : Int))
  · rfl
  cases lessL (ref17_PairOf_x (nth p.Rules.Pairs (i - 1))) (ref17_PairOf_x (nth p.Rules.Pairs i)) <;> rfl
theorem vrulesL {p : GProblem} {i : Nat} {next : Unit → Option Bool} (hi : i < p.Rules.Loads.length) :
    (bif !(ref17_station_x ((nth p.Rules.Loads i).To)) then (bif true then some false else next ()) else
      (bif !(ref17_station_x ((nth p.Rules.Loads i).From)) then (bif true then some false else next ()) else
      (bif decide ((nth p.Rules.Loads i).To = (nth p.Rules.Loads i).From) then (bif true then some false else next ()) else
      (bif decide ((nth p.Rules.Loads i).Weight < 1) then (bif true then some false else next ()) else
      (bif decide (1073741824 < (nth p.Rules.Loads i).Weight) then (bif true then some false else next ()) else
      (bif !(ref17_span_x ((nth p.Rules.Loads i).Low) ((nth p.Rules.Loads i).High)) then (bif true then some false else next ()) else
      (bif decide (0 < (i : Int)) then (ref17_Less_x (ref17_LoadOf_x (nth p.Rules.Loads (((i : Int) - 1).toNat))) (ref17_LoadOf_x (nth p.Rules.Loads i))).bind fun r => (bif !r then some false else next ()) else (bif false then some false else next ())))))))) = bif refLd (pbG p).ls i then next () else some false := by
  have e1 : nth (pbG p).ls i = (nth p.Rules.Loads i).b := nth_mapF hi; have e2 : nth (pbG p).ls (i - 1) = (nth p.Rules.Loads (i - 1)).b := nth_mapF (by omega); rw [toNat_pred, less_x (by rfl), Option.bind_some]; simp only [station_x, span_x]
  have hr : refLd (pbG p).ls i = (inB (nth p.Rules.Loads i).To 0 511 && (inB (nth p.Rules.Loads i).From 0 511 && (!decide ((nth p.Rules.Loads i).To = (nth p.Rules.Loads i).From) && (!decide ((nth p.Rules.Loads i).Weight < 1) && (!decide (1073741824 < (nth p.Rules.Loads i).Weight) && (rngB (nth p.Rules.Loads i).Low (nth p.Rules.Loads i).High && (!decide (0 < (i : Int)) || lessL (ref17_LoadOf_x (nth p.Rules.Loads (i - 1))) (ref17_LoadOf_x (nth p.Rules.Loads i))))))))) := by
    unfold refLd; rw [e1, e2, Bool.eq_iff_iff, decide_eq_true_eq]; simp only [Bool.and_eq_true, Bool.or_eq_true, Bool.not_eq_true', decide_eq_false_iff_not, GLoad.b, ref17_LoadOf_x]; constructor
    · rintro ⟨⟨h1, h2, h3, h4, h5, h6⟩, h9⟩; refine ⟨h1, h2, by omega, by omega, by omega, h6, ?_⟩; rcases Nat.eq_zero_or_pos i with h | h
      · exact .inl (by omega)
      · exact .inr (h9 h)
    · rintro ⟨h1, h2, h3, h4, h5, h6, h9⟩; refine ⟨⟨h1, h2, by omega, by omega, by omega, h6⟩, fun h => ?_⟩; rcases h9 with h9 | h9
      · omega
      · exact h9
  rw [hr]
  cases inB (nth p.Rules.Loads i).To 0 511
  · rfl
  cases inB (nth p.Rules.Loads i).From 0 511
  · rfl
  cases decide ((nth p.Rules.Loads i).To = (nth p.Rules.Loads i).From)
  rotate_left
  · rfl
  cases decide ((nth p.Rules.Loads i).Weight < 1)
  rotate_left
  · rfl
  cases decide (1073741824 < (nth p.Rules.Loads i).Weight)
  rotate_left
  · rfl
  cases rngB (nth p.Rules.Loads i).Low (nth p.Rules.Loads i).High
  · rfl
  cases decide (0 < (i : Int))
  · rfl
  cases lessL (ref17_LoadOf_x (nth p.Rules.Loads (i - 1))) (ref17_LoadOf_x (nth p.Rules.Loads i)) <;> rfl
theorem vrulesC {p : GProblem} {i : Nat} {next : Unit → Option Bool} (hi : i < p.Rules.Caps.length) :
    (bif !(ref17_station_x ((nth p.Rules.Caps i).Station)) then (bif true then some false else next ()) else
      (bif decide ((nth p.Rules.Caps i).Max < 0) then (bif true then some false else next ()) else
      (bif decide (1099511627776 < (nth p.Rules.Caps i).Max) then (bif true then some false else next ()) else
      (bif !(ref17_span_x ((nth p.Rules.Caps i).Low) ((nth p.Rules.Caps i).High)) then (bif true then some false else next ()) else
      (bif decide (0 < (i : Int)) then (ref17_Less_x (ref17_CapOf_x (nth p.Rules.Caps (((i : Int) - 1).toNat))) (ref17_CapOf_x (nth p.Rules.Caps i))).bind fun r => (bif !r then some false else next ()) else (bif false then some false else next ())))))) = bif refCp (pbG p).cs i then next () else some false := by
  have e1 : nth (pbG p).cs i = (nth p.Rules.Caps i).b := nth_mapF hi; have e2 : nth (pbG p).cs (i - 1) = (nth p.Rules.Caps (i - 1)).b := nth_mapF (by omega); rw [toNat_pred, less_x (by rfl), Option.bind_some]; simp only [station_x, span_x]
  have hr : refCp (pbG p).cs i = (inB (nth p.Rules.Caps i).Station 0 511 && (!decide ((nth p.Rules.Caps i).Max < 0) && (!decide (1099511627776 < (nth p.Rules.Caps i).Max) && (rngB (nth p.Rules.Caps i).Low (nth p.Rules.Caps i).High && (!decide (0 < (i : Int)) || lessL (ref17_CapOf_x (nth p.Rules.Caps (i - 1))) (ref17_CapOf_x (nth p.Rules.Caps i))))))) := by
    unfold refCp; rw [e1, e2, Bool.eq_iff_iff, decide_eq_true_eq]; simp only [Bool.and_eq_true, Bool.or_eq_true, Bool.not_eq_true', decide_eq_false_iff_not, GCap.b, ref17_CapOf_x]; constructor
    · rintro ⟨⟨h1, h2, h3, h4⟩, h9⟩; refine ⟨h1, by omega, by omega, h4, ?_⟩; rcases Nat.eq_zero_or_pos i with h | h
      · exact .inl (by omega)
      · exact .inr (h9 h)
    · rintro ⟨h1, h2, h3, h4, h9⟩; refine ⟨⟨h1, by omega, by omega, h4⟩, fun h => ?_⟩; rcases h9 with h9 | h9
      · omega
      · exact h9
  rw [hr]
  cases inB (nth p.Rules.Caps i).Station 0 511
  · rfl
  cases decide ((nth p.Rules.Caps i).Max < 0)
  rotate_left
  · rfl
  cases decide (1099511627776 < (nth p.Rules.Caps i).Max)
  rotate_left
  · rfl
  cases rngB (nth p.Rules.Caps i).Low (nth p.Rules.Caps i).High
  · rfl
  cases decide (0 < (i : Int))
  · rfl
  cases lessL (ref17_CapOf_x (nth p.Rules.Caps (i - 1))) (ref17_CapOf_x (nth p.Rules.Caps i)) <;> rfl
theorem validRules_x {p : GProblem} : ref17_ValidRules_x p.Rules = some (rulesR (pbG p)) := by
  unfold ref17_ValidRules_x; simp only [joinK, Nat.sub_zero]; rw [iterK_allO (n := p.Rules.Pairs.length) (z := some false) (refPr (pbG p).ps) (fun i next hi => vrulesP hi), iterK_allO (n := p.Rules.Loads.length) (z := some false) (refLd (pbG p).ls) (fun i next hi => vrulesL hi), iterK_allO (n := p.Rules.Caps.length) (z := some false) (refCp (pbG p).cs) (fun i next hi => vrulesC hi)]; have l1 : (pbG p).ps.length = p.Rules.Pairs.length := List.length_map _; have l2 : (pbG p).ls.length = p.Rules.Loads.length := List.length_map _; have l3 : (pbG p).cs.length = p.Rules.Caps.length := List.length_map _; unfold rulesR; rw [l1, l2, l3]; by_cases h : p.Rules.Pairs.length ≤ 4096 ∧ p.Rules.Loads.length ≤ 1024 ∧ p.Rules.Caps.length ≤ 1024
  · rw [decide_eq_true h, decide_eq_false (by omega), decide_eq_false (by omega), decide_eq_false (by omega)]
    cases (List.range p.Rules.Pairs.length).all (refPr (pbG p).ps)
    · rfl
    cases (List.range p.Rules.Loads.length).all (refLd (pbG p).ls)
    · rfl
    cases (List.range p.Rules.Caps.length).all (refCp (pbG p).cs) <;> rfl
  · rw [decide_eq_false h]; by_cases h1 : (4096 : Int) < p.Rules.Pairs.length
    · rw [decide_eq_true h1]; rfl
    · by_cases h2 : (1024 : Int) < p.Rules.Loads.length
      · rw [decide_eq_true h2, Bool.or_true]; rfl
      · rw [decide_eq_true (show (1024 : Int) < p.Rules.Caps.length by omega), Bool.or_true]; rfl
theorem find_er {p : GProblem} {s : Int} : ref17_Find_x p s < 0 ↔ ¬ 0 ≤ findD (pbG p).ds s := by
  rw [find_x, findD_iff]; unfold hasS; rw [List.any_eq_false]; have l : (pbG p).ds.length = p.Domains.length := List.length_map _; constructor
  · rintro h ⟨i, hi, e⟩; rw [l] at hi; have e1 : nth (pbG p).ds i = (nth p.Domains i).b := nth_mapF hi; rw [e1] at e; exact h _ (nth_memG hi) (decide_eq_true e)
  · intro h x hx hd; obtain ⟨i, hi, rfl⟩ := mem_nth hx; refine h ⟨i, by rw [l]; exact hi, ?_⟩; have e1 : nth (pbG p).ds i = (nth p.Domains i).b := nth_mapF hi; rw [e1]; exact of_decide_eq_true hd
theorem valid_x {p : GProblem} : ref17_Valid_x p = some (okG p) := by
  have l0 : (pbG p).ds.length = p.Domains.length := List.length_map _; have l1 : (pbG p).ps.length = p.Rules.Pairs.length := List.length_map _; have l2 : (pbG p).ls.length = p.Rules.Loads.length := List.length_map _; have l3 : (pbG p).cs.length = p.Rules.Caps.length := List.length_map _; have n0 : ∀ k, k < p.Domains.length → nth (pbG p).ds k = (nth p.Domains k).b := fun k hk => nth_mapF hk; have n1 : ∀ k, k < p.Rules.Pairs.length → nth (pbG p).ps k = (nth p.Rules.Pairs k).b := fun k hk => nth_mapF hk; have n2 : ∀ k, k < p.Rules.Loads.length → nth (pbG p).ls k = (nth p.Rules.Loads k).b := fun k hk => nth_mapF hk; have n3 : ∀ k, k < p.Rules.Caps.length → nth (pbG p).cs k = (nth p.Rules.Caps k).b := fun k hk => nth_mapF hk; unfold ref17_Valid_x okG; rw [← validR_eq]; simp only [joinK, Nat.sub_zero, validRules_x, Option.bind_some]; rw [iterK_allO (n := p.Domains.length) (z := some false) (refDo (pbG p).ds) (fun i next hi => ?_), iterK_allO (n := p.Rules.Pairs.length) (z := some false) (refFp (pbG p)) (fun i next hi => ?_), iterK_allO (n := p.Rules.Loads.length) (z := some false) (refFl (pbG p)) (fun i next hi => ?_), iterK_allO (n := p.Rules.Caps.length) (z := some false) (refFc (pbG p)) (fun i next hi => ?_)]
  · unfold validR; rw [l0, l1, l2, l3]; by_cases h : p.Domains.length ≤ 512
    · rw [decide_eq_true h, decide_eq_false (by omega)]
      cases rulesR (pbG p)
      · rfl
      cases (List.range p.Domains.length).all (refDo (pbG p).ds)
      · rfl
      cases (List.range p.Rules.Pairs.length).all (refFp (pbG p))
      · rfl
      cases (List.range p.Rules.Loads.length).all (refFl (pbG p))
      · rfl
      cases (List.range p.Rules.Caps.length).all (refFc (pbG p)) <;> rfl
    · rw [decide_eq_false h, decide_eq_true (by omega)]; rfl
  · have hr : refFc (pbG p) i = !decide (ref17_Find_x p (nth p.Rules.Caps i).Station < 0) := by
      unfold refFc; rw [n3 i hi, Bool.eq_iff_iff, decide_eq_true_eq]; simp only [Bool.not_eq_true', decide_eq_false_iff_not, find_er, Decidable.not_not, GCap.b]
    rw [hr]
    cases decide (ref17_Find_x p (nth p.Rules.Caps i).Station < 0) <;> rfl
  · have hr : refFl (pbG p) i = (!decide (ref17_Find_x p (nth p.Rules.Loads i).To < 0) && !decide (ref17_Find_x p (nth p.Rules.Loads i).From < 0)) := by
      unfold refFl; rw [n2 i hi, Bool.eq_iff_iff, decide_eq_true_eq]; simp only [Bool.and_eq_true, Bool.not_eq_true', decide_eq_false_iff_not, find_er, Decidable.not_not, GLoad.b]
    rw [hr]
    cases decide (ref17_Find_x p (nth p.Rules.Loads i).To < 0) <;> cases decide (ref17_Find_x p (nth p.Rules.Loads i).From < 0) <;> rfl
  · have hr : refFp (pbG p) i = (!decide (ref17_Find_x p (nth p.Rules.Pairs i).A < 0) && !decide (ref17_Find_x p (nth p.Rules.Pairs i).B < 0)) := by
      unfold refFp; rw [n1 i hi, Bool.eq_iff_iff, decide_eq_true_eq]; simp only [Bool.and_eq_true, Bool.not_eq_true', decide_eq_false_iff_not, find_er, Decidable.not_not, GPair.b]
    rw [hr]
    cases decide (ref17_Find_x p (nth p.Rules.Pairs i).A < 0) <;> cases decide (ref17_Find_x p (nth p.Rules.Pairs i).B < 0) <;> rfl
  · rw [iterK_allO (n := (nth p.Domains i).Channels.length) (z := some false) (refCh (nth p.Domains i).Channels) (fun k nx hk => ?_)]
    · have hr : refDo (pbG p).ds i = (inB (nth p.Domains i).Station 0 511 && (!(decide (0 < (i : Int)) && decide ((nth p.Domains i).Station ≤ (nth p.Domains (i - 1)).Station)) && (!decide (50 < ((nth p.Domains i).Channels.length : Int)) && (List.range (nth p.Domains i).Channels.length).all (refCh (nth p.Domains i).Channels)))) := by
        unfold refDo; rw [n0 i hi, n0 (i - 1) (by omega), Bool.eq_iff_iff, decide_eq_true_eq]; simp only [Bool.and_eq_true, Bool.not_eq_true', Bool.and_eq_false_iff, decide_eq_false_iff_not, GDomain.b]; constructor
        · rintro ⟨⟨h1, h2, h3⟩, h4⟩; exact ⟨h1, by rcases Nat.eq_zero_or_pos i with h | h; exact .inl (by omega); exact .inr (by have := h2 h; omega), by omega, h4⟩
        · rintro ⟨h1, h2, h3, h4⟩; exact ⟨⟨h1, fun h => by omega, by omega⟩, h4⟩
      rw [hr, toNat_pred, station_x]
      cases inB (nth p.Domains i).Station 0 511
      · rfl
      cases (decide (0 < (i : Int)) && decide ((nth p.Domains i).Station ≤ (nth p.Domains (i - 1)).Station))
      rotate_left
      · rfl
      cases decide (50 < ((nth p.Domains i).Channels.length : Int))
      rotate_left
      · rfl
      rfl
    · have hr : refCh (nth p.Domains i).Channels k = (!decide (nth (nth p.Domains i).Channels k < 2) && (!decide (51 < nth (nth p.Domains i).Channels k) && !(decide (0 < (k : Int)) && decide (nth (nth p.Domains i).Channels k ≤ nth (nth p.Domains i).Channels (k - 1))))) := by
        unfold refCh; rw [Bool.eq_iff_iff, decide_eq_true_eq]; simp only [Bool.and_eq_true, Bool.not_eq_true', Bool.and_eq_false_iff, decide_eq_false_iff_not]; omega
      rw [hr, toNat_pred]
      cases decide (nth (nth p.Domains i).Channels k < 2)
      rotate_left
      · rfl
      cases decide (51 < nth (nth p.Domains i).Channels k)
      rotate_left
      · rfl
      cases (decide (0 < (k : Int)) && decide (nth (nth p.Domains i).Channels k ≤ nth (nth p.Domains i).Channels (k - 1))) <;> rfl
end Go.Proofs.YtljgejbmimapdaaDoor
namespace Go.Proofs.YtljgejbmimapdaaDoor
open Go.RowKit
def hasSt (p : GProblem) (s : Int) : Bool := p.Domains.any fun d => decide (d.Station = s)
def goodC (c : GChoice) : Bool := decide (0 ≤ c.Station ∧ c.Station < 512 ∧ 2 ≤ c.Channel ∧ c.Channel ≤ 51)
def stAct (fuel : Nat) (p : GProblem) (m : List GDomain × Bool) (keep : Bool) (c : GChoice) : Option ((List GDomain × Bool) × Int) :=
  bif !goodC c then some (m, 2) else
  bif !m.2 then some (m, 8) else
  bif !hasSt p c.Station then some (m, 9) else
  (bif keep then ref18_Keep_x m.1 c.Station c.Channel else ref18_Drop_x m.1 c.Station c.Channel).bind fun d => (ref18_Propagate_x fuel p d).bind fun r => some (r, 0)
section
variable {p : GProblem} {m : List GDomain × Bool} {k : SK} {L : Ws} {w : World} {F0 : Frz}
theorem SI.stF (h : SI p m k L) {b : Bool} (hok : (stE k L b).ok w) (htab : Tab w) : StF k.w0 w k.sp k.gl k.tp k.Y L b := by
  obtain ⟨h1, h2⟩ := Ent.bag_ok.1 hok; exact StF.of (Hp.startL h1 h2) h.tb (Ent.fz_ok.1 (h1 _ (by simp))) htab 0 1 rfl rfl h.len
theorem st_conflict (h : SI p m k L) (hok : (stE k L (!m.2)).ok w) (htab : Tab w) : Calls Tryd.prog 19 #[.pointer (some ⟨k.sp, 0, none⟩)] w fun e w' => e = .returned (.bool (!m.2)) ∧ Below w.heap.size w w' :=
  conflict_ret k.sp k.Y L (!m.2) w (h.stF hok htab).st
theorem SI.ok (h : SI p m k L) : k.Y.Ok := by obtain ⟨P, _, hok, hY⟩ := h.pb; exact hY.ok (Pb.good hok)
theorem ixAt_no {ds : List Dx} {j : Nat} : ∀ k, (∀ i, i < k → (nth ds i).st.toNat ≠ j) → ixAt ds k j = 0
  | 0, _ => rfl
  | k + 1, h => by
    unfold ixAt; rw [if_neg (fun e => h k (by omega) e.symm)]; exact ixAt_no k (fun i hi => h i (by omega))
theorem at_yes {P : Pb} {Y : Tb} (hok : P.ok = true) (hY : TbOf P Y) {i : Nat} (hi : i < Y.n) : atF Y (nth Y.st i) = ((i : Int), true) := by
  have hG := Pb.good hok; have h1 := hG.st (nth P.ds i) (nth_memG (by rw [← hY.n]; exact hi)); rw [← hY.nth_st hi] at h1; have h2 := ix_st hG hY hi; unfold Pb.ix at h2; unfold atF; rw [hY.ix, if_neg (by omega)]
  congr 1
theorem at_no {P : Pb} {Y : Tb} (hok : P.ok = true) (hY : TbOf P Y) {s : Int} (h : ∀ i, i < Y.n → nth Y.st i ≠ s) : atF Y s = (0, false) := by
  have hG := Pb.good hok; unfold atF; by_cases hs : s < 0 ∨ 512 ≤ s
  · rw [if_pos (by rcases hs with h1 | h1; exact .inl h1; exact .inr (.inl h1))]
  · have h0 : Y.ix s.toNat = 0 := by
      rw [hY.ix]; refine ixAt_no _ fun i hi e => ?_; (have hi' : i < Y.n := by rw [hY.n]; exact hi); have h1 := hG.st (nth P.ds i) (nth_memG hi); apply h i hi'; rw [hY.nth_st hi']; omega
    rw [if_pos (.inr (.inr h0))]
theorem hasSt_iff {P : Pb} {Y : Tb} (hY : TbOf P Y) {s : Int} : hasSt P.er s = true ↔ ∃ i, i < Y.n ∧ nth Y.st i = s := by
  unfold hasSt; rw [List.any_eq_true]
  show (∃ x ∈ P.ds.map Dx.er, _) ↔ _
  constructor
  · rintro ⟨x, hx, h⟩; obtain ⟨i, hi, rfl⟩ := mem_nth hx; rw [List.length_map] at hi; rw [nth_mapG hi] at h; (have hi' : i < Y.n := by rw [hY.n]; exact hi); exact ⟨i, hi', by rw [hY.nth_st hi']; exact of_decide_eq_true h⟩
  · rintro ⟨i, hi, rfl⟩; (have hi' : i < P.ds.length := by rw [← hY.n]; exact hi); exact ⟨Dx.er (nth P.ds i), List.mem_map.2 ⟨_, nth_memG hi', rfl⟩, decide_eq_true (hY.nth_st hi).symm⟩
theorem gd_cut {Y : Tb} {L : Ws} {i : Nat} {g : BitVec 64} {f : GDomain → GDomain} (hl : L.length = Y.n) (hi : i < Y.n) (h1 : f (nth (gd Y L) i) = ⟨nth Y.st i, (chansN (nth L i &&& ~~~g)).map fun j : Nat => (j : Int)⟩) (h2 : ∀ j, j < Y.n → j ≠ i → f (nth (gd Y L) j) = nth (gd Y L) j) : (gd Y L).map f = gd Y (cutL L i g) := by
  refine ext_nth (by rw [List.length_map, gd_len, gd_len]) fun j hj => ?_; rw [List.length_map, gd_len] at hj; rw [nth_mapG (by rw [gd_len]; exact hj), gd_nth (L := cutL L i g) hj]; unfold cutL; rw [set_nth (by omega)]; by_cases e : j = i
  · subst e; rw [if_pos rfl, h1]
  · rw [if_neg e, h2 j hj e, gd_nth hj]
theorem bit_keep {b : BitVec 64} {c j : Nat} (hc : c < 64) : (b &&& ~~~(~~~(1#64 <<< c))).getLsbD j = (b.getLsbD j && decide (c = j)) := by
  rw [BitVec.not_not, BitVec.getLsbD_and]; by_cases hj : j < 64
  · rw [one_bit hj]
  · rw [BitVec.getLsbD_of_ge b j (by omega)]; simp
theorem bit_drop {b : BitVec 64} {c j : Nat} (hc : c < 64) : (b &&& ~~~(1#64 <<< c)).getLsbD j = (b.getLsbD j && !decide (c = j)) := by
  rw [BitVec.getLsbD_and]; by_cases hj : j < 64
  · rw [BitVec.getLsbD_not, one_bit hj]; simp [hj]
  · rw [BitVec.getLsbD_of_ge b j (by omega)]; simp
theorem chans_keep {b : BitVec 64} {c : Nat} (hc : c < 64) : chansN (b &&& ~~~(~~~(1#64 <<< c))) = if b.getLsbD c then [c] else [] := by
  have h : ∀ j, j ∈ chansN (b &&& ~~~(~~~(1#64 <<< c))) ↔ j ∈ (if b.getLsbD c then [c] else []) := fun j => by
    rw [chansN_mem, bit_keep hc]
    cases hb : b.getLsbD c with
    | false =>
      simp; intro h e; subst e; rw [hb] at h; cases h
    | true =>
      simp; constructor
      · rintro ⟨_, rfl⟩; rfl
      · rintro rfl; exact ⟨hb, rfl⟩
  refine sublist_ext chansN_sub ?_ List.nodup_range' h
  split
  · exact List.singleton_sublist.2 (List.mem_range'_1.2 ⟨by omega, by omega⟩)
  · exact List.nil_sublist _
theorem keep_nth {Y : Tb} {L : Ws} {i c : Nat} (hl : L.length = Y.n) (hi : i < Y.n) (hinj : ∀ j, j < Y.n → nth Y.st j = nth Y.st i → j = i) (hc : c < 64) : (gd Y L).map (keepD (nth Y.st i) c) = gd Y (cutL L i (~~~(1#64 <<< c))) := by
  refine gd_cut hl hi ?_ (fun j hj hne => ?_)
  · rw [gd_nth hi, chans_keep hc]; unfold keepD; dsimp only; rw [decide_eq_true rfl, cond_true]
    congr 1
    have e : ((chansN (nth L i)).map fun j : Nat => (j : Int)).any (fun k => decide (k = (c : Int))) = (nth L i).getLsbD c := by
      rw [Bool.eq_iff_iff, List.any_eq_true]; constructor
      · rintro ⟨q, hq, h⟩; obtain ⟨j, hj, rfl⟩ := mapI_mem.1 hq; have := of_decide_eq_true h; rw [show c = j by omega]; exact chansN_mem.1 hj
      · intro h; exact ⟨c, mapI_mem.2 ⟨c, chansN_mem.2 h, rfl⟩, by simp⟩
    rw [e]
    cases (nth L i).getLsbD c <;> rfl
  · rw [gd_nth hj]; unfold keepD; dsimp only; rw [decide_eq_false (fun e => hne (hinj j hj e)), cond_false]
theorem drop_nth {Y : Tb} {L : Ws} {i c : Nat} (hl : L.length = Y.n) (hi : i < Y.n) (hinj : ∀ j, j < Y.n → nth Y.st j = nth Y.st i → j = i) (hc : c < 64) : (gd Y L).map (dropD (nth Y.st i) c) = gd Y (cutL L i (1#64 <<< c)) := by
  refine gd_cut hl hi ?_ (fun j hj hne => ?_)
  · rw [gd_nth hi]; unfold dropD; dsimp only
    congr 1
    rw [chansN_filter (b := nth L i) (c := nth L i &&& ~~~(1#64 <<< c)) (fun j hj => by rw [bit_drop hc, Bool.and_eq_true] at hj; exact hj.1), List.filter_map]
    congr 1
    apply List.filter_congr; intro j hj; rw [bit_drop hc, chansN_mem.1 hj]; simp only [Function.comp, Bool.true_and, not_true_eq_false, decide_false, Bool.false_or]; by_cases e : c = j
    · subst e; simp
    · (have : ¬ (j : Int) = (c : Int) := by omega); simp [e, this]
  · rw [gd_nth hj]; unfold dropD; dsimp only
    congr 1
    rw [List.filter_eq_self]; intro q _; rw [Bool.or_eq_true]; exact .inl (decide_eq_true (fun e => hne (hinj j hj e)))
theorem SI.two (h : SI p m k L) {b : Bool} (hok : (stE k L b).ok w) (htab : Tab w) : Hp w (fps [sRow k.sp k.gl k.tp k.Y.n b, sLeft k.gl k.Y.n L]) [sRow k.sp k.gl k.tp k.Y.n b, sLeft k.gl k.Y.n L] w ∧ (∀ g, fps [sRow k.sp k.gl k.tp k.Y.n b, sLeft k.gl k.Y.n L] g → ¬ IsC k.w0 g) ∧ ¬ fps [sRow k.sp k.gl k.tp k.Y.n b, sLeft k.gl k.Y.n L] 0 ∧ Fz k.w0 w := by
  obtain ⟨h1, h2⟩ := Ent.bag_ok.1 hok; have h3 : ([sRow k.sp k.gl k.tp k.Y.n b, sLeft k.gl k.Y.n L] ++ [Ent.fz k.w0]).Pairwise fun e f => ∀ g, e.fp g → ¬ f.fp g := h2; obtain ⟨a1, a2, a3⟩ := List.pairwise_append.1 h3; refine ⟨Hp.startL (fun e he => h1 e (by simp at he ⊢; rcases he with h | h <;> simp [h])) a1, fun g ⟨e, he, hg⟩ hc => a3 e he _ (by simp) g hg (Ent.fz_fp.2 hc), ?_, Ent.fz_ok.1 (h1 _ (by simp))⟩; rintro ⟨e, he, hg⟩; have hT := htab 0 (by decide); simp at he; rcases he with rfl | rfl
  · have h4 := Ent.row_fp.1 hg; have h5 := Ent.row_ok.1 (h1 (sRow k.sp k.gl k.tp k.Y.n b) (by simp)); rw [← h4] at h5; rw [row_cell h5] at hT
    cases hT
  · have h4 := Ent.sl_fp.1 hg; have h5 := Ent.sl_ok.1 (h1 (sLeft k.gl k.Y.n L) (by simp)); (have e0 : k.gl = 0 := by simpa [sV, Value.ownBlock] using h4); rcases h5.2 with ⟨h6, _⟩ | ⟨g, cap, cur, h6, hb, hgg, hnc, hcm, hcs, htake⟩
    · simp [sV] at h6
    · simp only [sV, Value.slice.injEq, Option.some.injEq, Addr.mk.injEq, and_true, true_and] at h6; obtain ⟨h7, h8⟩ := h6; subst h8; rcases Nat.eq_zero_or_pos k.Y.n with hz | hz
      · (have : cur.size = 0 := by rw [hcs, hz, Nat.zero_mul]); have hcur : cur = #[] := Array.eq_empty_of_size_eq_zero this; rw [← h7, e0, hcur] at hgg; unfold World.cell? at hT; rw [hgg] at hT; simp at hT
      · have h9 := World.ownsRow.cellAt (by have := h5; unfold sV at this; exact this) 0 (by omega); rw [e0] at h9; rw [hT] at h9
        cases L with
        | nil => have := h.len; simp at this; omega
        | cons x r => simp [Ws.cells] at h9
theorem st_fits (h : SI p m k L) {c : GChoice} : checkF k.Y (!m.2) c.b = bif !goodC c then (0, 2) else bif !m.2 then (0, 8) else bif !hasSt p c.Station then (0, 9) else ((atF k.Y c.Station).1, 0) := by
  obtain ⟨P, rfl, hok, hY⟩ := h.pb; unfold checkF GChoice.b goodC; dsimp only; by_cases h1 : c.Station < 0 ∨ 512 ≤ c.Station ∨ c.Channel < 2 ∨ 51 < c.Channel
  · rw [if_pos h1, decide_eq_false (by omega)]; rfl
  · rw [if_neg h1, decide_eq_true (by omega)]; simp only [Bool.not_true, cond_false]
    cases m.2 with
    | false => rfl
    | true =>
      simp only [Bool.not_true, cond_false, Bool.false_eq_true, if_false]
      cases hh : hasSt P.er c.Station with
      | true =>
        obtain ⟨i, hi, e⟩ := (hasSt_iff hY).1 hh; rw [← e, at_yes hok hY hi]; rfl
      | false =>
        rw [at_no hok hY (s := c.Station) (fun i hi e => by rw [(hasSt_iff hY).2 ⟨i, hi, e⟩] at hh; cases hh)]; rfl
theorem st_act (kp : Bool) (num : FuncId) (h : SI p m k L) (hok : (stE k L (!m.2)).ok w) (htab : Tab w) {fuel : Nat} (hf : 100000 ≤ fuel) (c : GChoice) {r : (List GDomain × Bool) × Int} (hr : stAct fuel p m kp c = some r)
    (hE : (checkF k.Y (!m.2) c.b).2 ≠ 0 → Calls Tryd.prog num #[.pointer (some ⟨k.sp, 0, none⟩), .agg (Ch.cells c.b).toArray] w fun e w' => e = .returned (.int .i64 (checkF k.Y (!m.2) c.b).2) ∧ Below w.heap.size w w')
    (hO : m.2 = true → (checkF k.Y false c.b).2 = 0 → Calls Tryd.prog num #[.pointer (some ⟨k.sp, 0, none⟩), .agg (Ch.cells c.b).toArray] w fun e w' => ∃ y : Ws × Bool, SPost k.Y (cutL L (checkF k.Y false c.b).1.toNat (bif kp then ~~~(1#64 <<< c.Channel.toNat) else 1#64 <<< c.Channel.toNat)) y.1 y.2 ∧ e = .returned (.int .i64 0) ∧ Hp w (fps [sRow k.sp k.gl k.tp k.Y.n false, sLeft k.gl k.Y.n L]) [sRow k.sp k.gl k.tp k.Y.n y.2, sLeft k.gl k.Y.n y.1] w') :
    Calls Tryd.prog num #[.pointer (some ⟨k.sp, 0, none⟩), .agg [.int .i64 c.Station, .int .i64 c.Channel].toArray] w fun e w' => ∃ L', SI p r.1 k L' ∧ e = .returned (.int .i64 r.2) ∧ Hp w (stE k L (!m.2)).fp [stE k L' (!r.1.2)] w' := by
  have hfit := st_fits h (c := c)
  have keepE : ∀ {n : Int}, r = (m, n) → (checkF k.Y (!m.2) c.b).2 = n → n ≠ 0 → Calls Tryd.prog num #[.pointer (some ⟨k.sp, 0, none⟩), .agg [.int .i64 c.Station, .int .i64 c.Channel].toArray] w fun e w' => ∃ L', SI p r.1 k L' ∧ e = .returned (.int .i64 r.2) ∧ Hp w (stE k L (!m.2)).fp [stE k L' (!r.1.2)] w' := by
    intro n hr hc hn; subst hr; refine (hE (by rw [hc]; exact hn)).mono ?_; rintro e w' ⟨rfl, hb⟩; exact ⟨L, h, by rw [hc], (Hp.start hok).below hb⟩
  unfold stAct at hr
  cases hg : goodC c with
  | false => rw [hg] at hr hfit; exact keepE (Option.some.inj hr).symm (by rw [hfit]; rfl) (by decide)
  | true =>
    rw [hg] at hr hfit; simp only [Bool.not_true, cond_false] at hr hfit
    cases hm : m.2 with
    | false => rw [hm] at hr hfit; rw [← hm]; exact keepE (Option.some.inj hr).symm (by rw [hm]; rw [hfit]; rfl) (by decide)
    | true =>
      rw [hm] at hr hfit; simp only [Bool.not_true, cond_false] at hr hfit
      cases hh : hasSt p c.Station with
      | false => rw [hh] at hr hfit; rw [← hm]; exact keepE (Option.some.inj hr).symm (by rw [hm, Bool.not_true, hfit]; rfl) (by decide)
      | true =>
        rw [hh] at hr hfit; simp only [Bool.not_true, cond_false] at hr hfit; obtain ⟨P, rfl, hok', hY⟩ := h.pb; have hG := Pb.good hok'; obtain ⟨i, hi, e⟩ := (hasSt_iff hY).1 hh; rw [← e, at_yes hok' hY hi] at hfit; obtain ⟨hC, hb, hd⟩ := h.good hm; (have hch : 2 ≤ c.Channel ∧ c.Channel ≤ 51 := by have := of_decide_eq_true hg; omega); have hn := hY.n; have h512 := hG.n; have hbd : Bd (gd k.Y L) := gd_bd (by omega); have hinj : ∀ j, j < k.Y.n → nth k.Y.st j = nth k.Y.st i → j = i := fun j hj e' => st_inj hG hY hj hi e'; have hcn : ((c.Channel.toNat : Nat) : Int) = c.Channel := Int.toNat_of_nonneg (by omega)
        -- the domains after the cut
        have hdom : (bif kp then ref18_Keep_x m.1 c.Station c.Channel else ref18_Drop_x m.1 c.Station c.Channel) = some (gd k.Y (cutL L i (bif kp then ~~~(1#64 <<< c.Channel.toNat) else 1#64 <<< c.Channel.toNat))) := by
          rw [hd, ← e]
          cases kp with
          | true => rw [cond_true, cond_true, keep_x hbd.len (fun x hx => (hbd.ch x hx).1), ← keep_nth h.len hi hinj (by omega), hcn]
          | false => rw [cond_false, cond_false, drop_x hbd.len (fun x hx => (hbd.ch x hx).1), ← drop_nth h.len hi hinj (by omega), hcn]
        rw [hdom, Option.bind_some] at hr; obtain ⟨q, hq, hr⟩ := bind_open hr; obtain rfl := Option.some.inj hr; refine (hO hm (by rw [hfit])).mono ?_; rintro e' w' ⟨⟨L', c'⟩, hp, rfl, hw⟩; rw [hfit] at hp; dsimp only at hp hw ⊢; rw [Int.toNat_natCast] at hp; (have hlen : (cutL L i (bif kp then ~~~(1#64 <<< c.Channel.toNat) else 1#64 <<< c.Channel.toNat)).length = k.Y.n := by unfold cutL; rw [List.length_set, h.len]); obtain ⟨h3, h4⟩ := SI.of hok' hY h.tb hlen (hb.le cutL_le) (Is.of (hY.ok hG) hlen hp) hf hq; refine ⟨L', h3, rfl, ?_⟩; rw [← h4]; (have hok2 : (Ent.bag ([sRow k.sp k.gl k.tp k.Y.n false, sLeft k.gl k.Y.n L] ++ [Ent.fz k.w0])).ok w := by rw [hm] at hok; exact hok); exact bag_call hok2 hw
theorem st_assume (h : SI p m k L) (hok : (stE k L (!m.2)).ok w) (htab : Tab w) {fuel : Nat} (hf : 100000 ≤ fuel) (c : GChoice) {r : (List GDomain × Bool) × Int} (hr : stAct fuel p m true c = some r) :
    Calls Tryd.prog 29 #[.pointer (some ⟨k.sp, 0, none⟩), .agg [.int .i64 c.Station, .int .i64 c.Channel].toArray] w fun e w' => ∃ L', SI p r.1 k L' ∧ e = .returned (.int .i64 r.2) ∧ Hp w (stE k L (!m.2)).fp [stE k L' (!r.1.2)] w' := by
  have hs := (h.stF hok htab).st; obtain ⟨P, hP, hok', hY⟩ := h.pb; have hix := hY.ixn; refine st_act true _ h hok htab hf c hr (fun he => assume_err k.sp k.Y L (!m.2) c.b w hs (k.Y.ix512 h.ok hix) he) (fun hm he => ?_); have hok2 := hok; rw [hm] at hok2; obtain ⟨h1, h2, h3, h4⟩ := h.two hok2 htab; exact assume_ok k.w0 k.sp k.gl k.tp k.Y L w h.tb h.ok h4 htab h1 h2 h3 h.len (h.good hm).1.calm hix c.b he
theorem st_forbid (h : SI p m k L) (hok : (stE k L (!m.2)).ok w) (htab : Tab w) {fuel : Nat} (hf : 100000 ≤ fuel) (c : GChoice) {r : (List GDomain × Bool) × Int} (hr : stAct fuel p m false c = some r) :
    Calls Tryd.prog 30 #[.pointer (some ⟨k.sp, 0, none⟩), .agg [.int .i64 c.Station, .int .i64 c.Channel].toArray] w fun e w' => ∃ L', SI p r.1 k L' ∧ e = .returned (.int .i64 r.2) ∧ Hp w (stE k L (!m.2)).fp [stE k L' (!r.1.2)] w' := by
  have hs := (h.stF hok htab).st; obtain ⟨P, hP, hok', hY⟩ := h.pb; have hix := hY.ixn; refine st_act false _ h hok htab hf c hr (fun he => forbid_err k.sp k.Y L (!m.2) c.b w hs (k.Y.ix512 h.ok hix) he) (fun hm he => ?_); have hok2 := hok; rw [hm] at hok2; obtain ⟨h1, h2, h3, h4⟩ := h.two hok2 htab; exact forbid_ok k.w0 k.sp k.gl k.tp k.Y L w h.tb h.ok h4 htab h1 h2 h3 h.len (h.good hm).1.calm hix c.b he
end
end Go.Proofs.YtljgejbmimapdaaDoor
namespace Go.Proofs.YtljgejbmimapdaaDoor
open Go.RowKit
end Go.Proofs.YtljgejbmimapdaaDoor
namespace Go.Proofs.YtljgejbmimapdaaDoor
open Go.RowKit
theorem small_x {p : GProblem} {a b : Int} {fuel : Nat} (hf : 1000 ≤ fuel) : ∃ r, ref17_Small_x fuel p a b = some r := by
  unfold ref17_Small_x; simp only [joinK]; refine whileK_inv (σ := Int) (I := fun i => 0 ≤ i ∧ i ≤ 600) (μ := fun i => (600 - i).toNat) (post := fun o => ∃ r, o = some r) ⟨by omega, by omega⟩ (by omega) ?_; intro i next hi hn; by_cases h1 : i < (p.Domains.length : Int) <;> by_cases h2 : i < 600
  · rw [decide_eq_true h1, decide_eq_true h2, Bool.and_true, cond_true, grd_pos ⟨hi.1, h1⟩]
    cases decide (60 < ((nth p.Domains i.toNat).Channels.length : Int))
    · exact hn _ ⟨by omega, by omega⟩ (by omega)
    · exact ⟨_, rfl⟩
  · rw [decide_eq_false h2, Bool.and_false, cond_false]; exact ⟨_, rfl⟩
  · rw [decide_eq_false h1, Bool.false_and, cond_false]; exact ⟨_, rfl⟩
  · rw [decide_eq_false h1, Bool.false_and, cond_false]; exact ⟨_, rfl⟩
theorem keepD_mem {s c : Int} {x : GDomain} {q : Int} : q ∈ (keepD s c x).Channels ↔ q ∈ x.Channels ∧ (x.Station = s → q = c) := by
  unfold keepD; dsimp only; by_cases hs : x.Station = s
  · rw [decide_eq_true hs, cond_true]
    cases ha : x.Channels.any (fun k => decide (k = c)) with
    | true =>
      rw [cond_true]; obtain ⟨k, hk, he⟩ := List.any_eq_true.1 ha; have := of_decide_eq_true he; subst this; simp only [List.mem_singleton]; exact ⟨fun h => by subst h; exact ⟨hk, fun _ => rfl⟩, fun h => h.2 hs⟩
    | false =>
      rw [cond_false]; refine ⟨(fun h => by cases h), fun h => ?_⟩; have := h.2 hs; subst this; have := List.any_eq_false.1 ha q h.1; simp at this
  · rw [decide_eq_false hs, cond_false]; exact ⟨fun h => ⟨h, fun h2 => absurd h2 hs⟩, fun h => h.1⟩
theorem keepD_sub {s c : Int} {x : GDomain} : (keepD s c x).Channels.Sublist x.Channels := by
  unfold keepD; dsimp only
  cases decide (x.Station = s)
  · exact List.Sublist.refl _
  · cases ha : x.Channels.any (fun k => decide (k = c))
    · exact List.nil_sublist _
    · obtain ⟨k, hk, he⟩ := List.any_eq_true.1 ha; have := of_decide_eq_true he; subst this; exact List.singleton_sublist.2 hk
section
variable {p : GProblem} {a b d : List GDomain}
theorem keep_sub {s c : Int} : SubD (d.map (keepD s c)) d ∧ OrdD (d.map (keepD s c)) d := by
  refine ⟨⟨List.length_map _, fun i hi => ?_⟩, fun i hi => ?_⟩
  · rw [nth_mapG hi]; exact ⟨rfl, fun k hk => (keepD_mem.1 hk).1⟩
  · rw [nth_mapG hi]; exact keepD_sub
theorem keep_mono {s c : Int} (h : SubD a b) : SubD (a.map (keepD s c)) (b.map (keepD s c)) := by
  refine ⟨by rw [List.length_map, List.length_map, h.1], fun i hi => ?_⟩; rw [List.length_map] at hi; rw [nth_mapG hi, nth_mapG (by rw [h.1]; exact hi)]; have h2 := h.2 i hi; refine ⟨h2.1, fun k hk => ?_⟩; rw [keepD_mem] at hk ⊢; exact ⟨h2.2 k hk.1, fun e => hk.2 (h2.1.trans e)⟩
theorem OrdD.trans {c : List GDomain} (h : OrdD a b) (k : OrdD b c) (hl : b.length = c.length) : OrdD a c := fun i hi => (h i (by rw [hl]; exact hi)).trans (k i hi)
theorem Bd.ord (hb : Bd b) (hl : a.length = b.length) (h : OrdD a b) : Bd a := by
  refine ⟨by rw [hl]; exact hb.len, fun x hx => ?_⟩; obtain ⟨i, hi, rfl⟩ := mem_nth hx; (have hi' : i < b.length := by rw [← hl]; exact hi); have h2 := hb.ch _ (nth_memG hi'); exact ⟨Nat.le_trans (h i hi').length_le h2.1, h2.2.sublist (h i hi')⟩
theorem totG_ord : ∀ {a b : List GDomain}, a.length = b.length → OrdD a b → totG a ≤ totG b
  | [], [], _, _ => Nat.le_refl _
  | x :: r, y :: q, hl, h => by
    have h0 := (h 0 (by simp)).length_le
    have ih := totG_ord (a := r) (b := q) (by simpa using hl) (fun i hi => by
      have := h (i + 1) (by simp; omega)
      simpa [nth] using this)
    simp only [totG, List.map_cons, List.sum_cons] at ih ⊢; have e1 : nth (x :: r) 0 = x := rfl; have e2 : nth (y :: q) 0 = y := rfl; rw [e1, e2] at h0; omega
theorem PropD.eq {r r' : List GDomain × Bool} (hb : Bd d) (h : PropD p d r) (h' : PropD p d r') : r = r' := by
  rcases h with ⟨h1, h2, h3, h4⟩ | ⟨h1, h2⟩
  · rcases h' with ⟨g1, g2, g3, g4⟩ | ⟨g1, g2⟩
    · have e1 := h4 _ g2 g3.1; have e2 := g4 _ h2 h3.1
      have : r.1 = r'.1 := by
        refine ext_nth (by rw [e2.1]) fun i hi => ?_; (have hi1 : i < r'.1.length := by rw [← e2.1]; exact hi); (have hid : i < d.length := by rw [← h3.1.1]; exact hi); have a1 := e1.2 i hi; have a2 := e2.2 i hi1; have hch : (nth r.1 i).Channels = (nth r'.1 i).Channels := sublist_ext (h3.2 i hid) (g3.2 i hid) (hb.ch _ (nth_memG hid)).2 (fun x => ⟨a2.2 x, a1.2 x⟩)
        cases hx : nth r.1 i with
        | mk s1 c1 =>
          cases hy : nth r'.1 i with
          | mk s2 c2 =>
            have b1 := a2.1; rw [hx, hy] at b1 hch; simp only at b1 hch; rw [b1, hch]
      exact Prod.ext this (h1.trans g1.symm)
    · exact absurd h3.1 (g2 _ h2)
  · rcases h' with ⟨g1, g2, g3, g4⟩ | ⟨g1, g2⟩
    · exact absurd g3.1 (h2 _ g2)
    · rw [h1, g1]
theorem PropD.keep {m r : List GDomain × Bool} {s c : Int} (h : PropD p d m) (hm : m.2 = true) (hr : PropD p (m.1.map (keepD s c)) r) : PropD p (d.map (keepD s c)) r := by
  rcases h with ⟨_, h2, h3, h4⟩ | ⟨h1, _⟩
  · have hsup : ∀ S, ClosedD p S → SubD S (d.map (keepD s c)) → SubD S (m.1.map (keepD s c)) := fun S hS hs => by
      have h5 := h4 S hS (hs.trans keep_sub.1); refine ⟨by rw [List.length_map]; exact h5.1, fun i hi => ?_⟩; rw [List.length_map] at hi; (have hid : i < d.length := by rw [← h3.1.1]; exact hi); rw [nth_mapG hi]; have h6 := h5.2 i hi; refine ⟨h6.1, fun k hk => keepD_mem.2 ⟨h6.2 k hk, fun e => ?_⟩⟩; have h7 := (hs.2 i (by rw [List.length_map]; exact hid)).2 k hk; rw [nth_mapG hid] at h7; exact (keepD_mem.1 h7).2 (by rw [← (h3.1.2 i hid).1]; exact e)
    rcases hr with ⟨g1, g2, g3, g4⟩ | ⟨g1, g2⟩
    · refine .inl ⟨g1, g2, ⟨g3.1.trans (keep_mono h3.1), fun i hi => ?_⟩, fun S hS hs => g4 S hS (hsup S hS hs)⟩; rw [List.length_map] at hi; (have hi' : i < m.1.length := by rw [h3.1.1]; exact hi); have h8 := g3.2 i (by rw [List.length_map]; exact hi'); rw [nth_mapG hi'] at h8; rw [nth_mapG hi]; refine h8.trans ?_; have hst := (h3.1.2 i hi).1; have hsb := h3.2 i hi; unfold keepD; dsimp only; rw [hst]
      cases decide ((nth d i).Station = s)
      · exact hsb
      · cases ha : (nth m.1 i).Channels.any (fun k => decide (k = c))
        · exact List.nil_sublist _
        · obtain ⟨k, hk, he⟩ := List.any_eq_true.1 ha; rw [List.any_eq_true.2 ⟨k, hsb.subset hk, he⟩]; exact List.Sublist.refl _
    · exact .inr ⟨g1, fun S hS hs => g2 S hS (hsup S hS hs)⟩
  · rw [h1] at hm; cases hm
theorem PropD.keepBad {m : List GDomain × Bool} {d' : List GDomain} (h : PropD p d m) (hm : m.2 = false) (hs : SubD d' d) : PropD p d' m := by
  rcases h with ⟨h1, _⟩ | ⟨h1, h2⟩
  · rw [h1] at hm; cases hm
  · exact .inr ⟨h1, fun S hS hh => h2 S hS (hh.trans hs)⟩
theorem PropD.ord {m : List GDomain × Bool} (h : PropD p d m) (hm : m.2 = true) : m.1.length = d.length ∧ OrdD m.1 d := by
  rcases h with ⟨_, _, h3, _⟩ | ⟨h1, _⟩
  · exact ⟨h3.1.1, h3.2⟩
  · rw [h1] at hm; cases hm
def chOkG (l : List GChoice) (i : Nat) : Bool := inB (nth l i).Station 0 511 && (inB (nth l i).Channel 2 51 && !(decide (0 < (i : Int)) && decide ((nth l i).Station ≤ (nth l (i - 1)).Station)))
theorem rvalidList_x {l : List GChoice} : ref17_ValidList_x l = (List.range l.length).all (chOkG l) := by
  unfold ref17_ValidList_x; simp only [joinK, Nat.sub_zero]; rw [iterK_all (chOkG l) (fun i next _ => ?_), Bool.and_true]; rw [toNat_pred, station_x]
  have e : chOkG l i = (inB (nth l i).Station 0 511 && (!decide ((nth l i).Channel < 2) && (!decide (51 < (nth l i).Channel) && !(decide (0 < (i : Int)) && decide ((nth l i).Station ≤ (nth l (i - 1)).Station))))) := by
    unfold chOkG; rw [← Bool.and_assoc (!decide _)]
    congr 1
    congr 1
    unfold inB; by_cases h1 : 2 ≤ (nth l i).Channel <;> by_cases h2 : (nth l i).Channel ≤ 51 <;> simp [h1, h2, Int.not_lt, Int.not_le] <;> omega
  rw [e]
  cases inB (nth l i).Station 0 511 <;> cases decide ((nth l i).Channel < 2) <;> cases decide (51 < (nth l i).Channel) <;> cases (decide (0 < (i : Int)) && decide ((nth l i).Station ≤ (nth l (i - 1)).Station)) <;> rfl
theorem pbG_er (p : GProblem) : (pbG p).er = p := by
  unfold pbG Pb.er; dsimp only; rw [map_er (g := Dx.er) (fun _ => rfl), map_er (g := Pr.er) (fun _ => rfl), map_er (g := Ld.er) (fun _ => rfl), map_er (g := Cp.er) (fun _ => rfl)]
theorem totG_le_mul {d : List GDomain} {n : Nat} (h : ∀ x ∈ d, x.Channels.length ≤ n) : totG d ≤ d.length * n := by
  induction d with
  | nil => simp [totG]
  | cons x r ih =>
    have h1 := h x (by simp); have h2 := ih (fun y hy => h y (by simp [hy])); simp only [totG, List.map_cons, List.sum_cons, List.length_cons, Nat.add_mul] at h2 ⊢; omega
theorem okG_bd (h : okG p = true) : WtP p ∧ Bd p.Domains ∧ totG p.Domains ≤ 30000 ∧ p.Domains.length ≤ 512 := by
  have hG := Pb.good h; have hw := wt_er h; rw [pbG_er] at hw; have hl : (pbG p).ds.length = p.Domains.length := List.length_map _; (have hn : p.Domains.length ≤ 512 := by rw [← hl]; exact hG.n)
  have hc : ∀ x ∈ p.Domains, x.Channels.length ≤ 52 ∧ x.Channels.Nodup := fun x hx => by
    obtain ⟨i, hi, rfl⟩ := mem_nth hx; have e : nth (pbG p).ds i = (nth p.Domains i).b := nth_mapF hi; have h1 := hG.chs _ (nth_memG (show i < (pbG p).ds.length by rw [hl]; exact hi)); have h2 := inc_sub h (i := i) (by rw [hl]; exact hi); rw [e] at h1 h2; exact ⟨h1.1, (mapI_nodup List.nodup_range').sublist h2⟩
  refine ⟨hw, ⟨by omega, fun x hx => ⟨by have := (hc x hx).1; omega, (hc x hx).2⟩⟩, ?_, hn⟩; have := totG_le_mul (d := p.Domains) (n := 52) (fun x hx => (hc x hx).1); omega
end
end Go.Proofs.YtljgejbmimapdaaDoor
namespace Go.Proofs.YtljgejbmimapdaaDoor
open Go.RowKit
def hv : List Nat → Nat
  | [] => 0
  | d :: r => d + 256 * hv r
end Go.Proofs.YtljgejbmimapdaaDoor
namespace Go.Proofs.YtljgejbmimapdaaDoor
open Go.RowKit
theorem fps_one {e : Ent} : fps [e] = e.fp := by
  funext g
  unfold fps; simp
theorem startFM_ex {F : Frz} {w : World} {e : Ent} (hF : F.At w) (h : e.ok w) (hM : ∀ g, e.fp g → ¬ F.S g) : ∃ (S0 : Nat → Prop) (G : FzB w e.fp S0), G.toFrz = F ∧ (∀ g, S0 g → F.S g) ∧ Hp w e.fp [e, .fr G] w := by
  refine ⟨F.S, Frz.inB hF _, rfl, fun _ h => h, ?_⟩; have := Hp.startFM (es := [e]) hF (by rw [fps_one]; exact Hp.start h) (by rw [fps_one]; exact hM); rw [fps_one] at this; exact this
section
variable {B w : World} {M S0 : Nat → Prop} {hs : HS} {F : FzB B M S0} {e : Ent} {i j : Nat}
theorem Hp.newAt (hw : Hp B M hs w) (hi : hs[i]? = some e) {g : Nat} (hg : e.fp g) : M g ∨ B.heap.size ≤ g := hw.new e (List.mem_of_getElem? hi) g hg
theorem Hp.apartF (hw : Hp B M hs w) (hi : hs[i]? = some e) (hj : hs[j]? = some (.fr F)) (hij : i < j) : ∀ g, e.fp g → ¬ F.toFrz.S g := fun g hg hS =>
  hw.ne hij hi hj hg (Ent.fr_fp.2 ⟨hS, hw.newAt hi hg⟩)
theorem Hp.not0 (hw : Hp B (fun _ => False) hs w) (hi : hs[i]? = some e) (htab : Tab B) : ¬ e.fp 0 := fun hg => by
  rcases hw.newAt hi hg with h | h
  · exact h
  · have h0 := htab 0 (by decide); unfold World.cell? at h0; rw [Array.getElem?_eq_none (by simpa using h)] at h0; simp at h0
end
end Go.Proofs.YtljgejbmimapdaaDoor
namespace Go.Proofs.YtljgejbmimapdaaDoor
open Go.RowKit
structure GAct where
  Kind : Int
  Choice : GChoice
deriving DecidableEq, Inhabited
abbrev GAct.enc (x : GAct) : List Value := [.int .i64 x.Kind, .int .i64 x.Choice.Station, .int .i64 x.Choice.Channel]
theorem GAct.len (x : GAct) : (GAct.enc x).length = 3 := rfl
def law18_perform_x (fuel : Nat) (p0_ : GProblem) (m0_ : List GDomain × Bool) (l : List GAct) : Option (List GDomain × Bool) :=
  iterK (fun (i_3 : Nat) (next2 : (List GDomain × Bool) → Option (List GDomain × Bool)) (m_1 : List GDomain × Bool) =>
    (bif decide ((nth l i_3).Kind = 0) then
      (stAct fuel p0_ m_1 true ((nth l i_3).Choice)).bind fun r23 =>
      next2 r23.1
      else
      (stAct fuel p0_ m_1 false ((nth l i_3).Choice)).bind fun r30 =>
      next2 r30.1))
  (fun (m_1 : List GDomain × Bool) =>
    some m_1) (l.length - 0) 0 m0_
theorem law18_perform_c (F0 : Frz) (w : World) (hF0 : F0.At w) (p0_ : GProblem) (m0_ : List GDomain × Bool) (k0_ : SK) (L0_ : Ws) (hs0_ : SI p0_ m0_ k0_ L0_) (ho0_ : (stE k0_ L0_ (!m0_.2)).ok w) (ha0_ : ∀ g, (stE k0_ L0_ (!m0_.2)).fp g → ¬ F0.S g) (hz0_ : ¬ (stE k0_ L0_ (!m0_.2)).fp 0) (l : List GAct) (vl : Value) (hl : SlC F0 vl 3 (l.map GAct.enc)) (htab : Tab w) (fuel : Nat) (hfu : 100000 ≤ fuel) (r : (List GDomain × Bool)) (hr : law18_perform_x fuel p0_ m0_ l = some r) : Calls Tryd.prog 18 #[.pointer (some ⟨k0_.sp, 0, none⟩), vl] w fun e w' => ∃ L, SI p0_ r k0_ L ∧ e = .returned (.tuple #[]) ∧ Hp w (stE k0_ L0_ (!m0_.2)).fp [stE k0_ L (!r.2)] w' := by
  have hk := hr; unfold law18_perform_x at hk; haveI := hl.oneC; obtain ⟨S0, F1, rfl, hS0, hp0⟩ := startFM_ex hF0 ho0_ ha0_; refine calls_T (M := (stE k0_ L0_ (!m0_.2)).fp) (hs := [stE k0_ L0_ (!m0_.2), .fr F1]) Tryd.func18 rfl rfl rfl hp0 ?_; refine T.seq (T.region ?_); refine TL.run 1 rfl ?_; refine TL.nil (K.seq ?_); have hq := iterK_open hk; clear hk; obtain ⟨f2, kk2, hf2, hkk2, hk⟩ := hq; refine T.block ?_; refine T.loop (ι := Nat × (List GDomain × Bool) × Ws) (fun z => [(0, .pointer (some ⟨k0_.sp, 0, none⟩)), (1, vl), (4, .int .i64 (z.1 : Int))]) (fun z => [stE k0_ z.2.2 (!z.2.1.2), .fr F1]) (fun z => iterK f2 kk2 (l.length - z.1) z.1 z.2.1 = some r ∧ SI p0_ z.2.1 k0_ z.2.2) (fun z => l.length - z.1) (0, m0_, L0_) ?_ ?_ ?_ ?_
  · exact ⟨hk, hs0_⟩
  · exact (.c (.c (.c .nil)))
  · exact List.Sublist.refl _
  · rintro ⟨i_3, m_1, Lm_1⟩ ⟨hk, hsm_1⟩; (try dsimp only at *); refine T.seq (T.seq (T.region ?_)); refine TL.run 2 rfl ?_; refine TL.y (Yv.lenR rfl rfl hl (List.length_map _)) ?_; have hm7 : l.length ≤ 9223372036854775807 := (List.length_map _) ▸ hl.max; refine TL.run 1 rfl ?_; refine TL.nil (K.seq ?_); refine T.cond rfl (fun h4 => ?_) (fun h4 => ?_)
    · have p4 := of_decide_eq_true h4; rw [iterK_lt (by omega)] at hk; generalize hn2 : iterK f2 kk2 (l.length - (i_3 + 1)) (i_3 + 1) = next2 at hk; rw [← hf2] at hk; (try dsimp only at hk); refine T.skip (K.seq (T.seq (T.block (T.seq (T.region ?_))))); refine TL.run 2 rfl ?_; refine TL.y (Yv.idxR (i := i_3) rfl rfl rfl hl (List.length_map _) rfl (by omega)) ?_; refine TL.y (Yv.fldR rfl rfl hl (List.length_map _) (by omega)) ?_; refine TL.y (Yv.loadRF 1 (i := i_3) (j := 0) rfl rfl rfl hl (by omega) rfl rfl) ?_; refine TL.run 1 rfl ?_; refine TL.nil (K.seq ?_); refine T.cond rfl (fun h5 => ?_) (fun h5 => ?_)
      · have p5 := of_decide_eq_true h5; replace hk := condT_open hk h5; have hq := bind_open hk; clear hk; obtain ⟨r23, hr23, hk⟩ := hq; (try dsimp only at hk); refine T.region ?_; refine TL.run 3 rfl ?_; refine TL.y (Yv.idxR (i := i_3) rfl rfl rfl hl (List.length_map _) rfl (by omega)) ?_; refine TL.y (Yv.fldR rfl rfl hl (List.length_map _) (by omega)) ?_; refine TL.y (Yv.loadRFP 1 (i := i_3) (j := 1) rfl rfl rfl hl (by omega) rfl rfl rfl) ?_; refine TL.e (Ew.callM 0 rfl rfl rfl rfl (fun w hw => st_assume hsm_1 (hw.get (i := 0) rfl) (htab.kept hw hz0_) hfu ((nth l i_3).Choice) hr23)) ?_; rintro _ _ ⟨L23_, hs23, rfl, rfl⟩; refine TL.nil (K.blk_normal (K.seq (T.region ?_))); refine TL.run 1 rfl ?_; refine TL.y (Yv.addI rfl rfl rfl (by omega)) ?_; refine TL.run 1 rfl ?_; refine TL.nil ?_; rw [← hn2] at hk; exact K.next ((i_3 + 1), r23.1, L23_) ⟨hk, hs23⟩ (by dsimp only; omega) (.c (.c (.c .nil))) (List.Sublist.refl _)
      · have p5 := of_decide_eq_false h5; replace hk := condF_open hk h5; have hq := bind_open hk; clear hk; obtain ⟨r30, hr30, hk⟩ := hq; (try dsimp only at hk); refine T.region ?_; refine TL.run 3 rfl ?_; refine TL.y (Yv.idxR (i := i_3) rfl rfl rfl hl (List.length_map _) rfl (by omega)) ?_; refine TL.y (Yv.fldR rfl rfl hl (List.length_map _) (by omega)) ?_; refine TL.y (Yv.loadRFP 1 (i := i_3) (j := 1) rfl rfl rfl hl (by omega) rfl rfl rfl) ?_; refine TL.e (Ew.callM 0 rfl rfl rfl rfl (fun w hw => st_forbid hsm_1 (hw.get (i := 0) rfl) (htab.kept hw hz0_) hfu ((nth l i_3).Choice) hr30)) ?_; rintro _ _ ⟨L30_, hs30, rfl, rfl⟩; refine TL.nil (K.blk_normal (K.seq (T.region ?_))); refine TL.run 1 rfl ?_; refine TL.y (Yv.addI rfl rfl rfl (by omega)) ?_; refine TL.run 1 rfl ?_; refine TL.nil ?_; rw [← hn2] at hk; exact K.next ((i_3 + 1), r30.1, L30_) ⟨hk, hs30⟩ (by dsimp only; omega) (.c (.c (.c .nil))) (List.Sublist.refl _)
    · have p4 := of_decide_eq_false h4; rw [iterK_ge (by omega), ← hkk2] at hk; (try dsimp only at hk); refine T.exit (K.then_exit (K.then_exit (K.blk_exit_eq ?_))); obtain rfl := Option.some.inj hk; exact K.end0 rfl (fun w' hw => ⟨Lm_1, hsm_1, rfl, hw.sub (by repeat first | exact S0 | exact S1 | refine S2 ?_ | refine S3 ?_)⟩)
def law18_valid_x (c : GChoice) : Bool :=
  (ref17_ValidList_x [c])
theorem law18_valid_c (F0 : Frz) (w : World) (hF0 : F0.At w) (c : GChoice) : Calls Tryd.prog 52 #[.agg [.int .i64 c.Station, .int .i64 c.Channel].toArray] w fun e w' => e = .returned (.bool (law18_valid_x c)) ∧ Below w.heap.size w w' := by
  obtain ⟨r, hk⟩ : ∃ r, law18_valid_x c = r := ⟨_, rfl⟩; rw [hk]; unfold law18_valid_x at hk; obtain ⟨S0, F1, rfl, hS0, hp0⟩ := startF_ex hF0; refine calls_T (M := fun _ => False) (hs := [.fr F1]) Tryd.func52 rfl rfl rfl hp0 ?_; refine T.seq (T.region ?_); refine TL.e (Ew.boxA rfl rfl) ?_; rintro _ _ ⟨g1, rfl, rfl⟩; refine TL.run 1 rfl ?_; refine TL.nil (K.seq (T.seq (T.region ?_))); refine TL.y (Yv.loadAO 0 rfl rfl rfl rfl) ?_; refine TL.e (Ew.buildSlice rfl rfl rfl (by decide)) ?_; rintro _ _ ⟨g4, rfl, rfl⟩; refine TL.exH (fun w hw => hw.freezeR (i := 2) (j := 0) (by decide) rfl rfl) ?_; rintro F2 ⟨le1_2, hz2⟩; dsimp only [List.set, List.eraseIdx]; have hf2 : SlC F2.toFrz (.slice (some ⟨g4, 0, none⟩) 1 1) 2 ([c].map GChoice.enc) := (SlK.lit hz2 rfl (Nat.le_refl _) (by decide)).toF (xs := [c]) rfl GChoice.len; refine TL.e (Ew.callD rfl rfl rfl (fun w hw => ref17_ValidList_c _ w (hw.fr (i := 1) rfl) [c] (.slice (some ⟨g4, 0, none⟩) 1 1) hf2)) ?_; rintro _ _ ⟨rfl, rfl⟩; refine TL.run 1 rfl ?_; refine TL.nil (K.seq (T.ret ?_)); subst hk; exact K.ret1 rfl rfl (fun w' hw => ⟨rfl, hw.isBelow⟩)
def law18_agrees_x (l : List GChoice) (calls : List GAct) : Bool :=
  joinK (fun (_ : Unit) =>
    true)
  (fun k1 =>
    iterK (fun (i_3 : Nat) (next2 : Unit → Bool) (_ : Unit) =>
      (bif (((law18_valid_x ((nth calls i_3).Choice)) && (decide (¬ (ref17_On_x l ((nth calls i_3).Choice.Station)) = 0))) && (!((decide ((ref17_On_x l ((nth calls i_3).Choice.Station)) = (nth calls i_3).Choice.Channel)) == (decide ((nth calls i_3).Kind = 0))))) then
        false
        else
        next2 ()))
    (fun (_ : Unit) =>
      k1 ()) (calls.length - 0) 0 ())
theorem law18_agrees_c (F0 : Frz) (w : World) (hF0 : F0.At w) (l : List GChoice) (vl : Value) (hl : SlC F0 vl 2 (l.map GChoice.enc)) (calls : List GAct) (vcalls : Value) (hcalls : SlC F0 vcalls 3 (calls.map GAct.enc)) : Calls Tryd.prog 25 #[vl, vcalls] w fun e w' => e = .returned (.bool (law18_agrees_x l calls)) ∧ Below w.heap.size w w' := by
  obtain ⟨r, hk⟩ : ∃ r, law18_agrees_x l calls = r := ⟨_, rfl⟩; rw [hk]; unfold law18_agrees_x at hk; haveI := hl.oneC; haveI := hcalls.oneC; obtain ⟨S0, F1, rfl, hS0, hp0⟩ := startF_ex hF0; refine calls_T (M := fun _ => False) (hs := [.fr F1]) Tryd.func25 rfl rfl rfl hp0 ?_; refine T.seq (T.region ?_); refine TL.run 1 rfl ?_; refine TL.nil (K.seq (T.seq (T.seq (T.region ?_)))); refine TL.run 1 rfl ?_; refine TL.nil (K.seq ?_); have hq := joinK_open hk; clear hk; obtain ⟨k1, hk1, hk⟩ := hq; (try dsimp only at hk); refine T.cutXK (ι := Unit) (fun z => []) (fun z => [.fr F1]) (fun z => k1 () = r) ?_ ?_
  · have hq := iterK_open hk; clear hk; obtain ⟨f2, kk2, hf2, hkk2, hk⟩ := hq; refine T.block ?_; refine T.loop (ι := Nat) (fun z => [(0, vl), (1, vcalls), (5, .int .i64 (z : Int))]) (fun z => [.fr F1]) (fun z => iterK f2 kk2 (calls.length - z) z () = r) (fun z => calls.length - z) 0 ?_ ?_ ?_ ?_
    · exact hk
    · exact (.c (.c (.c .nil)))
    · exact List.Sublist.refl _
    · rintro i_3 hk; refine T.seq (T.seq (T.region ?_)); refine TL.run 2 rfl ?_; refine TL.y (Yv.lenR rfl rfl hcalls (List.length_map _)) ?_; have hm9 : calls.length ≤ 9223372036854775807 := (List.length_map _) ▸ hcalls.max; refine TL.run 1 rfl ?_; refine TL.nil (K.seq ?_); refine T.cond rfl (fun h4 => ?_) (fun h4 => ?_)
      · have p4 := of_decide_eq_true h4; rw [iterK_lt (by omega)] at hk; generalize hn2 : iterK f2 kk2 (calls.length - (i_3 + 1)) (i_3 + 1) = next2 at hk; rw [← hf2] at hk; (try dsimp only at hk); refine T.skip (K.seq (T.seq (T.block (T.seq (T.region ?_))))); refine TL.run 3 rfl ?_; refine TL.y (Yv.idxR (i := i_3) rfl rfl rfl hcalls (List.length_map _) rfl (by omega)) ?_; refine TL.y (Yv.fldR rfl rfl hcalls (List.length_map _) (by omega)) ?_; refine TL.y (Yv.fldR rfl rfl hcalls (List.length_map _) (by omega)) ?_; refine TL.y (Yv.loadRF 0 (i := i_3) (j := 1) rfl rfl rfl hcalls (by omega) rfl rfl) ?_; refine TL.e (Ew.callD rfl rfl rfl (fun w hw => ref17_On_c _ w (hw.fr (i := 0) rfl) l vl hl ((nth calls i_3).Choice.Station))) ?_; rintro _ _ ⟨rfl, rfl⟩; refine TL.run 1 rfl ?_; refine TL.nil (K.seq (T.seq ?_)); refine T.cutXK (ι := Unit) (fun z => [(0, vl), (1, vcalls), (5, .int .i64 (i_3 : Int)), (47, .bool (((law18_valid_x ((nth calls i_3).Choice)) && (decide (¬ (ref17_On_x l ((nth calls i_3).Choice.Station)) = 0))) && (!((decide ((ref17_On_x l ((nth calls i_3).Choice.Station)) = (nth calls i_3).Choice.Channel)) == (decide ((nth calls i_3).Kind = 0))))))]) (fun z => [.fr F1]) (fun z => True) ?_ ?_
        · refine T.draw (.still 0 (.still 1 (.still 2 (.still 3 (.still 4 (.eff 5 (.still 6 (.still 7 (.still 8 (.still 9 (.still 10 (.still 11 (.still 12 (.still 13 (.still 14 (.still 15 (.still 16 (.still 17 (.still 18 (.still 19 (.still 20 (.still 21 (.still 22 (.still 23 (.still 24 (.still 25 (.still 26 .done))))))))))))))))))))))))))) _ (by kernel_rfl) (List.Sublist.refl _) ?_; refine TS.run 2 rfl ?_; refine TS.y rfl (Yv.idxR (i := i_3) rfl rfl rfl hcalls (List.length_map _) rfl (by omega)) ?_; refine TS.y rfl (Yv.fldR rfl rfl hcalls (List.length_map _) (by omega)) ?_; refine TS.y rfl (Yv.loadRFP 0 (i := i_3) (j := 1) rfl rfl rfl hcalls (by omega) rfl rfl rfl) ?_; refine TS.eff ?_; refine TSo.ewG rfl (Wt.none rfl) rfl rfl (Ew.callD rfl rfl rfl (fun w hw => law18_valid_c _ w (hw.fr (i := 0) rfl) ((nth calls i_3).Choice))) ?_; rintro _ _ ⟨rfl, rfl⟩; refine ⟨(fun w hw => hw.sub (by repeat first | exact S0 | exact S1 | refine S2 ?_ | refine S3 ?_)), ?_⟩; refine TS.run 1 rfl ?_; refine TS.gs rfl rfl rfl rfl (fun h5 => ?_) (fun h5 => ?_)
          · have p5 := h5; (try simp only [nfB] at p5); refine TS.run 4 rfl ?_; refine TS.gs rfl rfl rfl rfl (fun h6 => ?_) (fun h6 => ?_)
            · have p6 := of_decide_eq_true h6; refine TS.run 3 rfl ?_; refine TS.y rfl (Yv.idxR (i := i_3) rfl rfl rfl hcalls (List.length_map _) rfl (by omega)) ?_; refine TS.y rfl (Yv.fldR rfl rfl hcalls (List.length_map _) (by omega)) ?_; refine TS.y rfl (Yv.fldR rfl rfl hcalls (List.length_map _) (by omega)) ?_; refine TS.y rfl (Yv.loadRF 0 (i := i_3) (j := 2) rfl rfl rfl hcalls (by omega) rfl rfl) ?_; refine TS.run 3 rfl ?_; refine TS.y rfl (Yv.idxR (i := i_3) rfl rfl rfl hcalls (List.length_map _) rfl (by omega)) ?_; refine TS.y rfl (Yv.fldR rfl rfl hcalls (List.length_map _) (by omega)) ?_; refine TS.y rfl (Yv.loadRF 0 (i := i_3) (j := 0) rfl rfl rfl hcalls (by omega) rfl rfl) ?_; refine TS.run 1 rfl ?_; refine TS.y rfl (Yv.neB (by kernel_rfl) rfl rfl rfl) ?_; refine TS.run 1 rfl ?_; refine TS.done ?_; exact K.atX () trivial (.c (.c (.c (.b (and_t (and_tx h5 h6)) .nil)))) (List.Sublist.refl _)
            · have p6 := of_decide_eq_false h6; refine TS.run 16 rfl ?_; refine TS.done ?_; exact K.atX () trivial (.c (.c (.c (.b (and_ff (and_tx h5 h6)).symm .nil)))) (List.Sublist.refl _)
          · have p5 := h5; (try simp only [nfB] at p5); refine TS.run 20 rfl ?_; refine TS.done ?_; exact K.atX () trivial (.c (.c (.c (.b (and_ff (and_ff h5)).symm .nil)))) (List.Sublist.refl _)
        · rintro _ _; refine T.cond rfl (fun h7 => ?_) (fun h7 => ?_)
          · have p7 := h7; (try simp only [nfB] at p7); replace hk := condT_open hk h7; refine T.seq (T.region ?_); refine TL.run 1 rfl ?_; refine TL.nil (K.seq (T.ret (K.blk_ret (K.then_ret (K.then_ret (K.blk_ret (K.then_ret ?_))))))); subst hk; exact K.ret1 rfl rfl (fun w' hw => ⟨rfl, hw.isBelow⟩)
          · have p7 := h7; (try simp only [nfB] at p7); replace hk := condF_open hk h7; refine T.skip (K.blk_normal (K.seq (T.region ?_))); refine TL.run 1 rfl ?_; refine TL.y (Yv.addI rfl rfl rfl (by omega)) ?_; refine TL.run 1 rfl ?_; refine TL.nil ?_; rw [← hn2] at hk; exact K.next (i_3 + 1) hk (by omega) (.c (.c (.c .nil))) (List.Sublist.refl _)
      · have p4 := of_decide_eq_false h4; rw [iterK_ge (by omega), ← hkk2] at hk; (try dsimp only at hk); refine T.exit (K.then_exit (K.then_exit (K.blk_exit_eq ?_))); exact K.atX () hk .nil (List.Sublist.refl _)
  · rintro _ hk; rw [← hk1] at hk; (try dsimp only at hk); refine T.seq (T.region ?_); refine TL.run 1 rfl ?_; refine TL.nil (K.seq (T.ret ?_)); subst hk; exact K.ret1 rfl rfl (fun w' hw => ⟨rfl, hw.isBelow⟩)
end Go.Proofs.YtljgejbmimapdaaDoor
namespace Go.Proofs.YtljgejbmimapdaaDoor
open Go.RowKit
structure FiltD (f : GDomain → GDomain) (φ : Int → Int → Prop) : Prop where
  st : ∀ x, (f x).Station = x.Station
  mem : ∀ x q, q ∈ (f x).Channels ↔ q ∈ x.Channels ∧ φ x.Station q
  sub : ∀ x, (f x).Channels.Sublist x.Channels
  mono : ∀ x y, x.Station = y.Station → x.Channels.Sublist y.Channels → (f x).Channels.Sublist (f y).Channels
theorem FiltD.id : FiltD id (fun _ _ => True) := ⟨fun _ => rfl, fun _ _ => by simp, fun _ => List.Sublist.refl _, fun _ _ _ h => h⟩
theorem FiltD.keep (s c : Int) : FiltD (keepD s c) (fun t q => t = s → q = c) := by
  refine ⟨fun _ => rfl, fun _ _ => keepD_mem, fun _ => keepD_sub, fun x y hst hsb => ?_⟩; unfold keepD; dsimp only; rw [hst]
  cases decide (y.Station = s)
  · exact hsb
  · cases ha : x.Channels.any (fun k => decide (k = c))
    · exact List.nil_sublist _
    · obtain ⟨k, hk, he⟩ := List.any_eq_true.1 ha; rw [List.any_eq_true.2 ⟨k, hsb.subset hk, he⟩]; exact List.Sublist.refl _
theorem FiltD.drop (s c : Int) : FiltD (dropD s c) (fun t q => ¬ t = s ∨ ¬ q = c) := by
  refine ⟨fun _ => rfl, fun x q => ?_, fun _ => List.filter_sublist, fun x y hst hsb => ?_⟩
  · unfold dropD; simp only [List.mem_filter, Bool.or_eq_true, decide_eq_true_eq]
  · unfold dropD; dsimp only; rw [hst]; exact hsb.filter _
section
variable {p : GProblem} {a b d : List GDomain} {f : GDomain → GDomain} {φ : Int → Int → Prop}
theorem FiltD.subD (h : FiltD f φ) : SubD (d.map f) d ∧ OrdD (d.map f) d := by
  refine ⟨⟨List.length_map _, fun i hi => ?_⟩, fun i hi => ?_⟩
  · rw [nth_mapG hi]; exact ⟨h.st _, fun c hc => ((h.mem _ _).1 hc).1⟩
  · rw [nth_mapG hi]; exact h.sub _
theorem FiltD.monoD (h : FiltD f φ) (hs : SubD a b) : SubD (a.map f) (b.map f) := by
  refine ⟨by rw [List.length_map, List.length_map]; exact hs.1, fun i hi => ?_⟩; rw [List.length_map] at hi; rw [nth_mapG hi, nth_mapG (by rw [hs.1]; exact hi)]; have h2 := hs.2 i hi; refine ⟨by rw [h.st, h.st]; exact h2.1, fun c hc => ?_⟩; have h3 := (h.mem _ _).1 hc; exact (h.mem _ _).2 ⟨h2.2 c h3.1, by rw [← h2.1]; exact h3.2⟩
theorem PropD.filt {m r : List GDomain × Bool} (hf : FiltD f φ) (h : PropD p d m) (hm : m.2 = true) (hr : PropD p (m.1.map f) r) : PropD p (d.map f) r := by
  rcases h with ⟨_, h2, h3, h4⟩ | ⟨h1, _⟩
  · have hsup : ∀ S, ClosedD p S → SubD S (d.map f) → SubD S (m.1.map f) := fun S hS hs => by
      have h5 := h4 S hS (hs.trans hf.subD.1); refine ⟨by rw [List.length_map]; exact h5.1, fun i hi => ?_⟩; rw [List.length_map] at hi; (have hid : i < d.length := by rw [← h3.1.1]; exact hi); rw [nth_mapG hi]; have h6 := h5.2 i hi; refine ⟨by rw [hf.st]; exact h6.1, fun k hk => (hf.mem _ _).2 ⟨h6.2 k hk, ?_⟩⟩; have h7 := (hs.2 i (by rw [List.length_map]; exact hid)).2 k hk; rw [nth_mapG hid] at h7; rw [(h3.1.2 i hid).1]; exact ((hf.mem _ _).1 h7).2
    rcases hr with ⟨g1, g2, g3, g4⟩ | ⟨g1, g2⟩
    · refine .inl ⟨g1, g2, ⟨g3.1.trans (hf.monoD h3.1), fun i hi => ?_⟩, fun S hS hs => g4 S hS (hsup S hS hs)⟩; rw [List.length_map] at hi; (have hi' : i < m.1.length := by rw [h3.1.1]; exact hi); have h8 := g3.2 i (by rw [List.length_map]; exact hi'); rw [nth_mapG hi'] at h8; rw [nth_mapG hi]; exact h8.trans (hf.mono _ _ (h3.1.2 i hi).1 (h3.2 i hi))
    · exact .inr ⟨g1, fun S hS hs => g2 S hS (hsup S hS hs)⟩
  · rw [h1] at hm; cases hm
def actC (keep : Bool) (c : GChoice) : GDomain → GDomain := bif goodC c then (bif keep then keepD c.Station c.Channel else dropD c.Station c.Channel) else id
def actQ (keep : Bool) (c : GChoice) (s q : Int) : Prop := goodC c = true → s = c.Station → (q = c.Channel ↔ keep = true)
theorem filt_act (keep : Bool) (c : GChoice) : FiltD (actC keep c) (actQ keep c) := by
  have key : ∀ {φ ψ : Int → Int → Prop} {f : GDomain → GDomain}, FiltD f φ → (∀ s q, φ s q ↔ ψ s q) → FiltD f ψ := fun h k => ⟨h.st, fun x q => by rw [h.mem, k], h.sub, h.mono⟩; unfold actC actQ
  cases goodC c
  · exact key FiltD.id (fun s q => by simp)
  · cases keep
    · exact key (FiltD.drop _ _) (fun s q => by simp; constructor <;> intro h <;> by_cases e : s = c.Station <;> simp_all)
    · exact key (FiltD.keep _ _) (fun s q => by simp)
theorem stAct_x {fuel : Nat} (hf : 100000 ≤ fuel) (hok : okG p = true) (hd : SubD d p.Domains ∧ OrdD d p.Domains) {m : List GDomain × Bool} (h : PropD p d m) (keep : Bool) (c : GChoice) : ∃ r, stAct fuel p m keep c = some (r, bif !goodC c then 2 else bif !m.2 then 8 else bif !hasSt p c.Station then 9 else 0) ∧ PropD p (d.map (actC keep c)) r := by
  obtain ⟨hw, hbd, ht, hn⟩ := okG_bd hok; unfold stAct
  cases hg : goodC c
  · refine ⟨m, rfl, ?_⟩; (have e : actC keep c = id := by unfold actC; rw [hg]; rfl); rw [e, List.map_id]; exact h
  · cases hm : m.2
    · exact ⟨m, rfl, h.keepBad hm (filt_act keep c).subD.1⟩
    · cases hh : hasSt p c.Station
      · refine ⟨m, rfl, ?_⟩
        have e : d.map (actC keep c) = d := by
          refine (List.map_congr_left (g := id) fun x hx => ?_).trans (List.map_id _); obtain ⟨i, hi, rfl⟩ := mem_nth hx; (have hi' : i < p.Domains.length := by rw [← hd.1.1]; exact hi)
          have hne : ¬ (nth d i).Station = c.Station := by
            rw [(hd.1.2 i hi').1]; intro e; have : hasSt p c.Station = true := List.any_eq_true.2 ⟨_, nth_memG hi', by simpa using e⟩; rw [hh] at this; cases this
          unfold actC; rw [hg, cond_true]
          cases keep
          · show dropD _ _ _ = _
            unfold dropD; have : (nth d i).Channels.filter (fun k => decide (¬ (nth d i).Station = c.Station) || decide (¬ k = c.Channel)) = (nth d i).Channels := List.filter_eq_self.2 (fun k _ => by simp [hne]); rw [this]; rfl
          · show keepD _ _ _ = _
            unfold keepD; rw [decide_eq_false hne]; rfl
        rw [e]; exact h
      · have ho := h.ord hm; have hol := ho.2.trans hd.2 hd.1.1; have hlen : m.1.length = p.Domains.length := ho.1.trans hd.1.1; have hb1 := hbd.ord hlen hol; have ht1 := totG_ord hlen hol; have hs := (filt_act keep c).subD (d := m.1); have hb2 := hb1.ord hs.1.1 hs.2; have ht2 := totG_ord hs.1.1 hs.2; obtain ⟨r, h5, h6⟩ := propagate_x (fuel := fuel) hw hb2 (by rw [hs.1.1]; omega) (by omega); refine ⟨r, ?_, PropD.filt (filt_act keep c) h hm h6⟩
        have e : (bif keep then ref18_Keep_x m.1 c.Station c.Channel else ref18_Drop_x m.1 c.Station c.Channel) = some (m.1.map (actC keep c)) := by
          unfold actC; rw [hg]
          cases keep
          · exact drop_x hb1.len (fun x hx => (hb1.ch x hx).1)
          · exact keep_x hb1.len (fun x hx => (hb1.ch x hx).1)
        simp only [Bool.not_true, cond_false]; rw [e, Option.bind_some, h5]; rfl
def actD (x : GAct) : GDomain → GDomain := actC (decide (x.Kind = 0)) x.Choice
def actL (d : List GDomain) (l : List GAct) : List GDomain := l.foldl (fun d x => d.map (actD x)) d
def actP (l : List GAct) (s q : Int) : Prop := ∀ x ∈ l, actQ (decide (x.Kind = 0)) x.Choice s q
theorem actL_sub {l : List GAct} : SubD (actL d l) d ∧ OrdD (actL d l) d := by
  induction l generalizing d with
  | nil => exact ⟨SubD.refl _, fun _ _ => List.Sublist.refl _⟩
  | cons x r ih =>
    have h1 := (filt_act (decide (x.Kind = 0)) x.Choice).subD (d := d); have h2 := ih (d := d.map (actD x)); exact ⟨h2.1.trans h1.1, h2.2.trans h1.2 h1.1.1⟩
theorem actL_mem {l : List GAct} {i : Nat} (hi : i < d.length) {q : Int} : q ∈ (nth (actL d l) i).Channels ↔ q ∈ (nth d i).Channels ∧ actP l (nth d i).Station q := by
  induction l generalizing d with
  | nil => simp [actL, actP]
  | cons x r ih =>
    show q ∈ (nth (actL (d.map (actD x)) r) i).Channels ↔ _
    rw [ih (by rw [List.length_map]; exact hi), nth_mapG hi]; have hF := filt_act (decide (x.Kind = 0)) x.Choice
    show q ∈ (actC _ _ _).Channels ∧ actP r (actC _ _ _).Station q ↔ _
    rw [hF.mem, hF.st]; unfold actP; simp only [List.mem_cons, forall_eq_or_imp, and_assoc]
theorem perform_x {fuel : Nat} (hf : 100000 ≤ fuel) (hok : okG p = true) {l : List GAct} {m : List GDomain × Bool} (h : PropD p p.Domains m) : ∃ r, law18_perform_x fuel p m l = some r ∧ PropD p (actL p.Domains l) r := by
  unfold law18_perform_x; rw [Nat.sub_zero]; refine iterK_inv (fun i s => PropD p (actL p.Domains (l.take i)) s) (fun o => ∃ r, o = some r ∧ PropD p (actL p.Domains l) r) (by simpa [actL] using h) (fun s hs => ⟨s, rfl, by rw [List.take_of_length_le (Nat.le_refl _)] at hs; exact hs⟩) (fun i s next hi hs hn => ?_)
  have hstep : actL p.Domains (l.take (i + 1)) = (actL p.Domains (l.take i)).map (actD (nth l i)) := by
    unfold actL; rw [List.take_succ_eq_append_getElem hi, nth_eq hi, List.foldl_append]; rfl
  have key : ∀ keep, decide ((nth l i).Kind = 0) = keep → ∃ r, ((stAct fuel p s keep (nth l i).Choice).bind fun x => next x.1) = some r ∧ PropD p (actL p.Domains l) r := fun keep hk => by
    obtain ⟨r, h1, h2⟩ := stAct_x hf hok actL_sub hs keep (nth l i).Choice; rw [h1, Option.bind_some]; refine hn r ?_; rw [hstep]; unfold actD; rw [hk]; exact h2
  cases hk : decide ((nth l i).Kind = 0)
  · exact key false hk
  · exact key true hk
end
end Go.Proofs.YtljgejbmimapdaaDoor
namespace Go.Proofs.YtljgejbmimapdaaDoor
open Go.RowKit
structure GG (p : GProblem) : Prop where
  n : p.Domains.length ≤ 512
  st : ∀ x ∈ p.Domains, 0 ≤ x.Station ∧ x.Station ≤ 511
  chs : ∀ x ∈ p.Domains, x.Channels.length ≤ 52 ∧ ∀ c ∈ x.Channels, 2 ≤ c ∧ c ≤ 51
  inc : ∀ i j, i < j → j < p.Domains.length → (nth p.Domains i).Station < (nth p.Domains j).Station
  ps : ∀ x ∈ p.Rules.Pairs, (hasSt p x.A = true ∧ hasSt p x.B = true) ∧ (x.A < x.B ∧ -1 ≤ x.Offset ∧ x.Offset ≤ 1) ∧ 2 ≤ x.Low ∧ x.Low ≤ x.High ∧ x.High ≤ 51
  ls : ∀ x ∈ p.Rules.Loads, (hasSt p x.To = true ∧ hasSt p x.From = true) ∧ (x.To ≠ x.From ∧ 1 ≤ x.Weight ∧ x.Weight ≤ 1073741824) ∧ 2 ≤ x.Low ∧ x.Low ≤ x.High ∧ x.High ≤ 51
  cs : ∀ x ∈ p.Rules.Caps, hasSt p x.Station = true ∧ (0 ≤ x.Max ∧ x.Max ≤ 1099511627776) ∧ 2 ≤ x.Low ∧ x.Low ≤ x.High ∧ x.High ≤ 51
  lls : p.Rules.Loads.length ≤ 1024
theorem hasSt_ex {p : GProblem} {s : Int} : hasSt p s = true ↔ ∃ x ∈ p.Domains, x.Station = s := by
  unfold hasSt; rw [List.any_eq_true]; simp only [decide_eq_true_eq]
theorem okG_gg {p : GProblem} (h : okG p = true) : GG p := by
  have hG := Pb.good h; have hl : (pbG p).ds.length = p.Domains.length := List.length_map _; have hn : ∀ i, i < p.Domains.length → nth (pbG p).ds i = (nth p.Domains i).b := fun i hi => nth_mapG hi
  have hs : ∀ {s : Int}, (∃ i, i < (pbG p).ds.length ∧ s = (nth (pbG p).ds i).st) → hasSt p s = true := fun ⟨i, hi, e⟩ => by
    rw [hl] at hi; rw [hn i hi] at e; exact hasSt_ex.2 ⟨_, nth_memG hi, e.symm⟩
  refine ⟨by rw [← hl]; exact hG.n, fun x hx => hG.st x.b (List.mem_map.2 ⟨x, hx, rfl⟩), fun x hx => hG.chs x.b (List.mem_map.2 ⟨x, hx, rfl⟩), fun i j hij hj => ?_, fun x hx => ?_, fun x hx => ?_, fun x hx => ?_, ?_⟩
  · have := hG.inc i j hij (by rw [hl]; exact hj); rw [hn i (by omega), hn j hj] at this; exact this
  · obtain ⟨h1, h2, h3⟩ := hG.ps x.b (List.mem_map.2 ⟨x, hx, rfl⟩); simp only [Pr.ok, rngB, inB, Bool.and_eq_true, decide_eq_true_eq] at h1; exact ⟨⟨hs h2, hs h3⟩, by show x.A < x.B ∧ _; exact ⟨h1.2.2.1, h1.2.2.2.1.1, h1.2.2.2.1.2⟩, h1.2.2.2.2.1, h1.2.2.2.2.2.1, h1.2.2.2.2.2.2⟩
  · obtain ⟨h1, h2, h3⟩ := hG.ls x.b (List.mem_map.2 ⟨x, hx, rfl⟩); simp only [Ld.ok, rngB, inB, Bool.and_eq_true, decide_eq_true_eq] at h1; exact ⟨⟨hs h2, hs h3⟩, ⟨h1.2.2.1, h1.2.2.2.1.1, h1.2.2.2.1.2⟩, h1.2.2.2.2.1, h1.2.2.2.2.2.1, h1.2.2.2.2.2.2⟩
  · obtain ⟨h1, h2⟩ := hG.cs x.b (List.mem_map.2 ⟨x, hx, rfl⟩); simp only [Cp.ok, rngB, inB, Bool.and_eq_true, decide_eq_true_eq] at h1; exact ⟨hs h2, ⟨h1.2.1.1, h1.2.1.2⟩, h1.2.2.1, h1.2.2.2.1, h1.2.2.2.2⟩
  · have := hG.lls; have e : (pbG p).ls.length = p.Rules.Loads.length := List.length_map _; omega
theorem iterK_findS {σ ρ : Type} {f : Nat → (σ → ρ) → σ → ρ} {k : σ → ρ} {n : Nat} {s : σ} (q : Nat → Bool) (v : Nat → ρ) (hf : ∀ i next, i < n → f i next s = bif q i then v i else next s) : iterK f k n 0 s = match (List.range n).find? q with | some i => v i | none => k s := by
  have key : ∀ m i, i + m = n → iterK f k m i s = match (List.range' i m).find? q with | some i => v i | none => k s := by
    intro m
    induction m with
    | zero => intro i _; rfl
    | succ m ih =>
      intro i e
      show f i (iterK f k m (i + 1)) s = _
      rw [hf i _ (by omega), ih (i + 1) (by omega), List.range'_succ, List.find?_cons]
      cases q i <;> rfl
  rw [key n 0 (by omega), List.range_eq_range']
def onP (l : List GChoice) (n : Int) : Int := match l.find? (fun c => decide (c.Station = n)) with | some c => c.Channel | none => 0
theorem find_range {α : Type} [Inhabited α] {l : List α} {q : α → Bool} : ((List.range l.length).find? fun i => q (nth l i)).map (nth l) = l.find? q := by
  induction l with
  | nil => rfl
  | cons x r ih =>
    rw [List.length_cons, List.range_succ_eq_map, List.find?_cons, List.find?_cons]; have e : nth (x :: r) 0 = x := rfl; rw [e]
    cases q x with
    | true => rfl
    | false =>
      show Option.map (nth (x :: r)) (List.find? (fun i => q (nth (x :: r) i)) ((List.range r.length).map Nat.succ)) = r.find? q
      rw [List.find?_map, Option.map_map, ← ih]
      congr 1
theorem on_x {l : List GChoice} {n : Int} : ref17_On_x l n = onP l n := by
  unfold ref17_On_x onP; simp only [joinK, Nat.sub_zero]; rw [iterK_findS (fun i => decide ((nth l i).Station = n)) (fun i => (nth l i).Channel) (fun i next _ => rfl), ← find_range (l := l) (q := fun c => decide (c.Station = n))]
  cases (List.range l.length).find? fun i => decide ((nth l i).Station = n) <;> rfl
structure ValidL (l : List GChoice) : Prop where
  good : ∀ c ∈ l, 0 ≤ c.Station ∧ c.Station ≤ 511 ∧ 2 ≤ c.Channel ∧ c.Channel ≤ 51
  inc : ∀ i j, i < j → j < l.length → (nth l i).Station < (nth l j).Station
theorem validL_iff {l : List GChoice} : (List.range l.length).all (chOkG l) = true ↔ ValidL l := by
  rw [List.all_eq_true]; simp only [List.mem_range, chOkG, inB, Bool.and_eq_true, decide_eq_true_eq, Bool.not_eq_true', Bool.and_eq_false_iff, decide_eq_false_iff_not]; constructor
  · intro h; refine ⟨fun c hc => ?_, fun i j hij hj => ?_⟩
    · obtain ⟨i, hi, rfl⟩ := mem_nth hc; have := h i hi; omega
    · have key : ∀ m, i + m + 1 < l.length → (nth l i).Station < (nth l (i + m + 1)).Station := by
        intro m
        induction m with
        | zero => intro hm; have := (h (i + 1) hm).2.2; rw [show i + 1 - 1 = i by omega] at this; rw [Nat.add_zero]; omega
        | succ m ih => intro hm; have h1 := ih (by omega); have := (h (i + (m + 1) + 1) hm).2.2; rw [show i + (m + 1) + 1 - 1 = i + m + 1 by omega] at this; omega
      have := key (j - i - 1) (by omega)
      rwa [show i + (j - i - 1) + 1 = j by omega] at this
  · intro h i hi; have := h.good _ (nth_memG hi); refine ⟨by omega, by omega, ?_⟩; rcases Nat.eq_zero_or_pos i with h0 | h0
    · subst h0; left; omega
    · right; have := h.inc (i - 1) i (by omega) hi; omega
theorem ValidL.inj {l : List GChoice} (h : ValidL l) {a b : GChoice} (ha : a ∈ l) (hb : b ∈ l) (e : a.Station = b.Station) : a = b := by
  obtain ⟨i, hi, rfl⟩ := mem_nth ha; obtain ⟨j, hj, rfl⟩ := mem_nth hb; rcases Nat.lt_trichotomy i j with h1 | h1 | h1
  · have := h.inc i j h1 hj; omega
  · rw [h1]
  · have := h.inc j i h1 hi; omega
theorem onP_some {l : List GChoice} (h : ValidL l) {c : GChoice} (hc : c ∈ l) : onP l c.Station = c.Channel := by
  unfold onP
  cases hf : l.find? (fun d => decide (d.Station = c.Station)) with
  | none => have := List.find?_eq_none.1 hf c hc; simp at this
  | some d =>
    have h1 := List.find?_some hf; have h2 := List.mem_of_find?_eq_some hf; rw [h.inj h2 hc (by simpa using h1)]
def lossP (p : GProblem) (f : Int → Int) (t c : Int) : Int := p.Rules.Loads.foldl (fun n x => bif decide (x.To = t) && decide (f x.From = c) && decide (x.Low ≤ c) && decide (c ≤ x.High) then wI (n + x.Weight) else n) 0
theorem loss_x {p : GProblem} {l : List GChoice} {t c : Int} : ref17_Loss_x p t c l = lossP p (onP l) t c := by
  unfold ref17_Loss_x lossP; simp only [joinK, Nat.sub_zero, on_x]; rw [iterK_fold (fun i n => bif decide ((nth p.Rules.Loads i).To = t) && decide (onP l (nth p.Rules.Loads i).From = c) && decide ((nth p.Rules.Loads i).Low ≤ c) && decide (c ≤ (nth p.Rules.Loads i).High) then wI (n + (nth p.Rules.Loads i).Weight) else n) (fun i next n _ => ?_), range_foldl (l := p.Rules.Loads) (g := fun n x => bif decide (x.To = t) && decide (onP l x.From = c) && decide (x.Low ≤ c) && decide (c ≤ x.High) then wI (n + x.Weight) else n)]
  cases (decide ((nth p.Rules.Loads i).To = t) && decide (onP l (nth p.Rules.Loads i).From = c) && decide ((nth p.Rules.Loads i).Low ≤ c) && decide (c ≤ (nth p.Rules.Loads i).High)) <;> rfl
def brP (f : Int → Int) (x : GPair) : Bool := decide (¬ f x.A = 0) && decide (¬ f x.B = 0) && decide (x.Low ≤ f x.A) && decide (f x.A ≤ x.High) && decide (f x.B = wI (f x.A + x.Offset))
def brC (p : GProblem) (f : Int → Int) (x : GCap) : Bool := decide (¬ f x.Station = 0) && decide (x.Low ≤ f x.Station) && decide (f x.Station ≤ x.High) && decide (x.Max < lossP p f x.Station (f x.Station))
theorem brP_x {l : List GChoice} {x : GPair} : ref17_BreaksPair_x x l = brP (onP l) x := by unfold ref17_BreaksPair_x brP; simp only [on_x]
theorem brC_x {p : GProblem} {l : List GChoice} {x : GCap} : ref17_BreaksCap_x p x l = brC p (onP l) x := by unfold ref17_BreaksCap_x brC; simp only [on_x, loss_x]
def domX (l : List GChoice) (all : Bool) (x : GDomain) : Bool := (decide (onP l x.Station = 0) && all) || (decide (¬ onP l x.Station = 0) && !(x.Channels.any fun k => decide (k = onP l x.Station)))
def orV (k : Int) (o : Option Nat) (r : GViolation) : GViolation := match o with
  | some i => ⟨k, (i : Int)⟩
  | none => r
theorem orV_none {k : Int} {o : Option Nat} {r : GViolation} (hk : k ≠ 0) : orV k o r = ⟨0, 0⟩ ↔ o = none ∧ r = ⟨0, 0⟩ := by
  cases o <;> simp [orV, hk]
theorem orV_kind {k : Int} {o : Option Nat} {r : GViolation} (hk : k ≠ 0) (hr : r.Kind = 0 → r = ⟨0, 0⟩) : (orV k o r).Kind = 0 → orV k o r = ⟨0, 0⟩ := by
  cases o
  · exact hr
  · intro h; exact absurd h hk
def firstP (p : GProblem) (l : List GChoice) (all : Bool) : GViolation :=
  orV 1 ((List.range p.Domains.length).find? fun i => domX l all (nth p.Domains i)) <|
  orV 2 ((List.range l.length).find? fun i => !hasSt p (nth l i).Station) <|
  orV 3 ((List.range p.Rules.Pairs.length).find? fun i => brP (onP l) (nth p.Rules.Pairs i)) <|
  orV 4 ((List.range p.Rules.Caps.length).find? fun i => brC p (onP l) (nth p.Rules.Caps i)) ⟨0, 0⟩
theorem find_lt {p : GProblem} {s : Int} : decide (ref17_Find_x p s < 0) = !hasSt p s := by
  have := find_x (p := p) (s := s); unfold hasS at this; unfold hasSt
  cases h : p.Domains.any fun d => decide (d.Station = s) with
  | true =>
    rw [h] at this; exact decide_eq_false (fun e => by have := this.1 e; cases this)
  | false => exact decide_eq_true (this.2 h)
theorem first_x {p : GProblem} {l : List GChoice} {all : Bool} : ref17_First_x p l all = firstP p l all := by
  unfold ref17_First_x firstP; simp only [joinK, Nat.sub_zero, on_x, has_x, find_lt, brP_x, brC_x]; rw [iterK_findS (fun i => domX l all (nth p.Domains i)) (fun i => GViolation.mk 1 (i : Int)) (fun i next _ => rfl)]
  cases (List.range p.Domains.length).find? (fun i => domX l all (nth p.Domains i)) with
  | some i => rfl
  | none =>
    dsimp only; rw [iterK_findS (fun i => !hasSt p (nth l i).Station) (fun i => GViolation.mk 2 (i : Int)) (fun i next _ => rfl)]
    cases (List.range l.length).find? (fun i => !hasSt p (nth l i).Station) with
    | some i => rfl
    | none =>
      dsimp only; rw [iterK_findS (fun i => brP (onP l) (nth p.Rules.Pairs i)) (fun i => GViolation.mk 3 (i : Int)) (fun i next _ => rfl)]
      cases (List.range p.Rules.Pairs.length).find? (fun i => brP (onP l) (nth p.Rules.Pairs i)) with
      | some i => rfl
      | none =>
        dsimp only; rw [iterK_findS (fun i => brC p (onP l) (nth p.Rules.Caps i)) (fun i => GViolation.mk 4 (i : Int)) (fun i next _ => rfl)]
        cases (List.range p.Rules.Caps.length).find? (fun i => brC p (onP l) (nth p.Rules.Caps i)) <;> rfl
theorem find_nil {α : Type} [Inhabited α] {l : List α} {q : α → Bool} : (List.range l.length).find? (fun i => q (nth l i)) = none ↔ ∀ x ∈ l, q x = false := by
  rw [List.find?_eq_none]; constructor
  · intro h x hx; obtain ⟨i, hi, rfl⟩ := mem_nth hx; simpa using h i (List.mem_range.2 hi)
  · intro h i hi; simpa using h _ (nth_memG (List.mem_range.1 hi))
structure FineP (p : GProblem) (l : List GChoice) : Prop where
  val : ValidL l
  dom : ∀ x ∈ p.Domains, onP l x.Station ∈ x.Channels ∧ onP l x.Station ≠ 0
  own : ∀ c ∈ l, hasSt p c.Station = true
  pr : ∀ x ∈ p.Rules.Pairs, brP (onP l) x = false
  cp : ∀ x ∈ p.Rules.Caps, brC p (onP l) x = false
theorem first_none {p : GProblem} {l : List GChoice} {all : Bool} : firstP p l all = ⟨0, 0⟩ ↔ (∀ x ∈ p.Domains, domX l all x = false) ∧ (∀ c ∈ l, hasSt p c.Station = true) ∧ (∀ x ∈ p.Rules.Pairs, brP (onP l) x = false) ∧ ∀ x ∈ p.Rules.Caps, brC p (onP l) x = false := by
  rw [← find_nil, ← find_nil (q := brP (onP l)), ← find_nil (q := brC p (onP l))]
  have e : (∀ c ∈ l, hasSt p c.Station = true) ↔ (List.range l.length).find? (fun i => !hasSt p (nth l i).Station) = none := by
    rw [find_nil (q := fun c : GChoice => !hasSt p c.Station)]; simp
  rw [e]; unfold firstP; rw [orV_none (by decide), orV_none (by decide), orV_none (by decide), orV_none (by decide)]; simp
theorem first_kind {p : GProblem} {l : List GChoice} {all : Bool} : (firstP p l all).Kind = 0 → firstP p l all = ⟨0, 0⟩ := by
  unfold firstP; exact orV_kind (by decide) (orV_kind (by decide) (orV_kind (by decide) (orV_kind (by decide) fun _ => rfl)))
theorem domX_all {l : List GChoice} {x : GDomain} : domX l true x = false ↔ onP l x.Station ∈ x.Channels ∧ onP l x.Station ≠ 0 := by
  unfold domX; by_cases h : onP l x.Station = 0 <;> simp [h]
theorem fine_x {p : GProblem} {l : List GChoice} : ref17_Fine_x p l = true ↔ FineP p l := by
  unfold ref17_Fine_x; rw [rvalidList_x, first_x, Bool.and_eq_true, validL_iff, Bool.and_eq_true, decide_eq_true_eq, decide_eq_true_eq]; have e : ((firstP p l true).Kind = 0 ∧ (firstP p l true).At = 0) ↔ firstP p l true = ⟨0, 0⟩ := ⟨fun h => first_kind h.1, fun h => by rw [h]; exact ⟨rfl, rfl⟩⟩; rw [e, first_none]; simp only [domX_all]; exact ⟨fun ⟨h1, h2, h3, h4, h5⟩ => ⟨h1, h2, h3, h4, h5⟩, fun h => ⟨h.val, h.dom, h.own, h.pr, h.cp⟩⟩
def sing (d : List GDomain) (f : Int → Int) : List GDomain := d.map fun x => ⟨x.Station, [f x.Station]⟩
section
variable {p : GProblem} {f : Int → Int}
theorem only_sing {s c : Int} (h : hasSt p s = true) : onlyP (sing p.Domains f) s c = decide (f s = c) := by
  rw [Bool.eq_iff_iff, onlyP_iff, decide_eq_true_eq]; obtain ⟨x, hx, rfl⟩ := hasSt_ex.1 h; constructor
  · intro h1; exact h1 _ (List.mem_map.2 ⟨x, hx, rfl⟩) rfl _ (by simp)
  · intro e y hy hs k hk; obtain ⟨z, hz, rfl⟩ := List.mem_map.1 hy; simp at hk; dsimp only at hs; rw [hk, hs, e]
theorem foldl_congrM {α β : Type} {g h : β → α → β} : ∀ {l : List α} {b : β}, (∀ x ∈ l, ∀ b, g b x = h b x) → l.foldl g b = l.foldl h b
  | [], _, _ => rfl
  | x :: r, b, e => by rw [List.foldl_cons, List.foldl_cons, e x (by simp), foldl_congrM (fun y hy => e y (by simp [hy]))]
theorem sum_sing (hG : GG p) {t c fr : Int} (hfr : fr < 0 ∨ f fr = c) : sumP p (sing p.Domains f) t c fr = lossP p f t c := by
  unfold sumP lossP; refine foldl_congrM fun x hx n => ?_; obtain ⟨⟨h1, h2⟩, _⟩ := hG.ls x hx
  congr 1
  unfold loadC; rw [only_sing h2, Bool.eq_iff_iff]; simp only [Bool.and_eq_true, Bool.or_eq_true, decide_eq_true_eq]; constructor
  · rintro ⟨⟨a1, a2, a3⟩, a4⟩; refine ⟨⟨⟨a1, ?_⟩, a2⟩, a3⟩; rcases a4 with a4 | a4
    · rcases hfr with h3 | h3
      · obtain ⟨y, hy, e⟩ := hasSt_ex.1 h2; have := (hG.st y hy).1; omega
      · rw [a4]; exact h3
    · exact a4
  · rintro ⟨⟨⟨a1, a2⟩, a3⟩, a4⟩; exact ⟨⟨a1, a3, a4⟩, .inr a2⟩
theorem over_iff {s c l : Int} : overP p s c l = true ↔ ∃ x ∈ p.Rules.Caps, (x.Station = s ∧ x.Low ≤ c ∧ c ≤ x.High) ∧ x.Max < l := by
  unfold overP; rw [List.any_eq_true]; simp only [Bool.and_eq_true, decide_eq_true_eq]
theorem closed_sing (hG : GG p) (hf : ∀ x ∈ p.Domains, 1 ≤ f x.Station ∧ f x.Station ≤ 1000) : ClosedD p (sing p.Domains f) ↔ (∀ x ∈ p.Rules.Pairs, brP f x = false) ∧ ∀ x ∈ p.Rules.Caps, brC p f x = false := by
  have hfs : ∀ {s}, hasSt p s = true → 1 ≤ f s ∧ f s ≤ 1000 := fun h => by
    obtain ⟨x, hx, rfl⟩ := hasSt_ex.1 h; exact hf x hx
  constructor
  · intro h
    have calm : ∀ {s}, hasSt p s = true → remP p (sing p.Domains f) s (f s) = false := fun hs => by
      obtain ⟨x, hx, rfl⟩ := hasSt_ex.1 hs; exact h.calm ⟨x.Station, [f x.Station]⟩ (List.mem_map.2 ⟨x, hx, rfl⟩) _ (by simp)
    refine ⟨fun x hx => ?_, fun x hx => ?_⟩
    · obtain ⟨⟨h1, h2⟩, _⟩ := hG.ps x hx
      cases hb : brP f x with
      | false => rfl
      | true =>
        unfold brP at hb; simp only [Bool.and_eq_true, decide_eq_true_eq] at hb; have h3 := calm h1
        have h4 : pairR (sing p.Domains f) x.A (f x.A) x = true := by
          unfold pairR; rw [only_sing h2]; simp only [Bool.or_eq_true, Bool.and_eq_true, decide_eq_true_eq]; exact .inl ⟨⟨trivial, hb.1.1.2, hb.1.2⟩, hb.2⟩
        unfold remP at h3; rw [List.any_eq_true.2 ⟨x, hx, h4⟩] at h3
        cases h3
    · obtain ⟨h1, _⟩ := hG.cs x hx
      cases hb : brC p f x with
      | false => rfl
      | true =>
        unfold brC at hb; simp only [Bool.and_eq_true, decide_eq_true_eq] at hb; have h3 := calm h1
        have h4 : overP p x.Station (f x.Station) (sumP p (sing p.Domains f) x.Station (f x.Station) (-1)) = true := by
          rw [sum_sing hG (.inl (by omega))]; exact over_iff.2 ⟨x, hx, ⟨rfl, hb.1.1.2, hb.1.2⟩, hb.2⟩
        unfold remP at h3; rw [h4] at h3; simp at h3
  · rintro ⟨hp, hc⟩
    have hov : ∀ {s}, hasSt p s = true → overP p s (f s) (lossP p f s (f s)) = false := fun {s} hs => by
      cases ho : overP p s (f s) (lossP p f s (f s)) with
      | false => rfl
      | true =>
        obtain ⟨x, hx, ⟨rfl, h2, h3⟩, h4⟩ := over_iff.1 ho; have h5 := hc x hx; have := hfs hs; unfold brC at h5; rw [decide_eq_true (show ¬ f x.Station = 0 by omega), decide_eq_true h2, decide_eq_true h3, decide_eq_true h4] at h5
        cases h5
    refine ⟨fun x hx => ?_, fun x hx c hcx => ?_⟩
    · obtain ⟨y, hy, rfl⟩ := List.mem_map.1 hx; simp
    · obtain ⟨y, hy, rfl⟩ := List.mem_map.1 hx; simp at hcx; subst hcx; have hs : hasSt p y.Station = true := hasSt_ex.2 ⟨y, hy, rfl⟩; have hfy := hfs hs; dsimp only; unfold remP; rw [sum_sing hG (.inl (by omega)), hov hs, Bool.or_false, Bool.or_eq_false_iff, List.any_eq_false, List.any_eq_false]; refine ⟨fun x hx => ?_, fun x hx => ?_⟩
      · obtain ⟨⟨h1, h2⟩, ⟨_, h3, h4⟩, _⟩ := hG.ps x hx; have h5 := hp x hx; have hA := hfs h1; have hB := hfs h2; unfold pairR; rw [only_sing h1, only_sing h2]; intro hh; simp only [Bool.or_eq_true, Bool.and_eq_true, decide_eq_true_eq] at hh; unfold brP at h5; rw [wI_in (by omega)] at h5; simp only [Bool.and_eq_false_iff, decide_eq_false_iff_not] at h5; rcases hh with ⟨⟨a1, a2, a3⟩, a4⟩ | ⟨⟨a1, a2, a3⟩, a4⟩
        · subst_vars
          rw [wI_in (by omega)] at a4; rw [← a1] at a2 a3 a4; omega
        · rw [wI_in (by omega)] at a2 a3 a4; rw [← a1] at a2 a3 a4; omega
      · obtain ⟨⟨h1, h2⟩, _⟩ := hG.ls x hx; unfold loadR; rw [only_sing h1]; intro hh; simp only [Bool.and_eq_true, decide_eq_true_eq] at hh; obtain ⟨⟨⟨a1, a2⟩, a3⟩, a4⟩ := hh; have h6 := hov h1; rw [sum_sing hG (.inr rfl), ← a3] at a4; rw [h6] at a4
        cases a4
end
end Go.Proofs.YtljgejbmimapdaaDoor
namespace Go.Proofs.YtljgejbmimapdaaDoor
open Go.RowKit
def stHasF (Y : Tb) (L : Ws) (c : Bool) (x : Ch) : Bool := if c = true ∨ x.ch < 2 ∨ 51 < x.ch then false else if (atF Y x.st).2 = false then false else (nth L (atF Y x.st).1.toNat).getLsbD x.ch.toNat
theorem shas_ret (sp : Nat) (Y : Tb) (L : Ws) (c : Bool) (x : Ch) (w : World) (h : StateAt w sp Y L c) (hok : Y.Ok) (hix : ∀ j, 0 ≤ Y.ix j ∧ Y.ix j ≤ Y.n) : Calls Tryd.prog 26 #[.pointer (some ⟨sp, 0, none⟩), .agg (Ch.cells x).toArray] w fun e w' => e = .returned (.bool (stHasF Y L c x)) ∧ Below w.heap.size w w' := by
  obtain ⟨tp, hsp0, hT⟩ := h.tb; obtain ⟨vL, hsp1, hL⟩ := h.left; obtain ⟨AL, capL, rfl, hLs⟩ := hL.op; have hLn := h.len; have hcon := h.con; refine calls_T (M := fun _ => False) (hs := []) Tryd.func26 rfl rfl rfl (Hp.refl _ _) ?_; simp only [Ch.cells]; refine T.seq (T.region ?_)
  first | (refine TL.ew (Wt.none rfl) rfl rfl (Ew.box rfl rfl) ?_; rintro _ _ ⟨g3, rfl, rfl⟩) | (refine TL.ew (Wt.none rfl) rfl rfl (Ew.boxA rfl rfl) ?_; rintro _ _ ⟨g3, rfl, rfl⟩)
  refine TL.run 1 rfl ?_; refine TL.nil (K.seq (T.seq (T.seq (T.region ?_)))); refine TL.run 1 rfl ?_; (refine TL.ew (Wt.none rfl) rfl rfl (Ew.callD rfl rfl rfl (fun w hw => missing_ret sp Y L c w (h.kept hw))) ?_; rintro _ _ ⟨rfl, rfl⟩); refine TL.run 1 rfl ?_; refine TL.yv (Wt.some rfl rfl rfl rfl) rfl rfl (Yv.pur rfl) ?_; refine TL.yv (Wt.some rfl rfl rfl rfl) rfl rfl (Yv.pur rfl) ?_; refine TL.yv (Wt.some rfl rfl rfl rfl) rfl rfl (Yv.fieldAddr rfl rfl) ?_
  first | refine TL.yv (Wt.some rfl rfl rfl rfl) rfl rfl (Yv.loadB rfl rfl hcon (fun h => h)) ?_ | refine TL.yv (Wt.some rfl rfl rfl rfl) rfl rfl (Yv.loadB rfl rfl hsp0 (fun h => h)) ?_ | refine TL.yv (Wt.some rfl rfl rfl rfl) rfl rfl (Yv.loadB rfl rfl hsp1 (fun h => h)) ?_ | refine TL.yv (Wt.some rfl rfl rfl rfl) rfl rfl (Yv.loadC (j := 0) rfl rfl hk rfl rfl (fun h => h)) ?_ | refine TL.yv (Wt.some rfl rfl rfl rfl) rfl rfl (Yv.loadO 0 rfl rfl rfl rfl) ?_ | refine TL.yv (Wt.some rfl rfl rfl rfl) rfl rfl (Yv.loadO 1 rfl rfl rfl rfl) ?_ | refine TL.yv (Wt.some rfl rfl rfl rfl) rfl rfl (Yv.loadO 2 rfl rfl rfl rfl) ?_ | refine TL.yv (Wt.some rfl rfl rfl rfl) rfl rfl (Yv.loadB rfl rfl (by assumption) (fun h => h)) ?_ | refine TL.yv (Wt.some rfl rfl rfl rfl) rfl rfl (Yv.loadS 0 rfl rfl rfl (by first | rfl | assumption)) ?_ | refine TL.yv (Wt.some rfl rfl rfl rfl) rfl rfl (Yv.loadS 1 rfl rfl rfl (by first | rfl | assumption)) ?_ | refine TL.yv (Wt.some rfl rfl rfl rfl) rfl rfl (Yv.loadS 2 rfl rfl rfl (by first | rfl | assumption)) ?_
  refine TL.run 2 rfl ?_; refine TL.gsplit rfl rfl rfl (fun h1 => ?_) (fun h1 => ?_)
  · have p1 := h1; (try simp only [nfB] at p1); refine TL.off (Wt.not rfl rfl rfl h1) rfl rfl ?_; refine TL.off (Wt.not rfl rfl rfl h1) rfl rfl ?_; refine TL.off (Wt.not rfl rfl rfl h1) rfl rfl ?_; refine TL.y (Yv.pickT rfl rfl h1 rfl) ?_; refine TL.run 5 rfl ?_; refine TL.nil (K.seq ?_); refine T.condT rfl rfl ?_; refine T.seq (T.region ?_); refine TL.run 1 rfl ?_; refine TL.nil (K.seq (T.ret (K.then_ret ?_))); refine K.ret1 rfl rfl (fun w' hw => ⟨?_, hw.isBelow⟩)
    first | exact ret_bool (by rw [stHasF, if_pos (by first | (left; assumption) | (right; omega))]) | exact ret_bool (by rw [stHasF, if_neg (fun h => by rcases h with h | h | h; (rw [p1] at h; cases h); omega; omega), if_pos (by assumption)]) | exact ret_bool (by rw [stHasF, if_neg (fun h => by rcases h with h | h | h; (rw [p1] at h; cases h); omega; omega), if_neg (by rw [p4]; simp), bit_is])
  · have p1 := h1; (try simp only [nfB] at p1); refine TL.yv (Wt.some rfl rfl rfl h1) rfl rfl (Yv.fieldAddr rfl rfl) ?_
    first | refine TL.yv (Wt.some rfl rfl rfl h1) rfl rfl (Yv.loadB rfl rfl hcon (fun h => h)) ?_ | refine TL.yv (Wt.some rfl rfl rfl h1) rfl rfl (Yv.loadB rfl rfl hsp0 (fun h => h)) ?_ | refine TL.yv (Wt.some rfl rfl rfl h1) rfl rfl (Yv.loadB rfl rfl hsp1 (fun h => h)) ?_ | refine TL.yv (Wt.some rfl rfl rfl h1) rfl rfl (Yv.loadC (j := 0) rfl rfl hk rfl rfl (fun h => h)) ?_ | refine TL.yv (Wt.some rfl rfl rfl h1) rfl rfl (Yv.loadO 0 rfl rfl rfl rfl) ?_ | refine TL.yv (Wt.some rfl rfl rfl h1) rfl rfl (Yv.loadO 1 rfl rfl rfl rfl) ?_ | refine TL.yv (Wt.some rfl rfl rfl h1) rfl rfl (Yv.loadO 2 rfl rfl rfl rfl) ?_ | refine TL.yv (Wt.some rfl rfl rfl h1) rfl rfl (Yv.loadB rfl rfl (by assumption) (fun h => h)) ?_ | refine TL.yv (Wt.some rfl rfl rfl h1) rfl rfl (Yv.loadS 0 rfl rfl rfl (by first | rfl | assumption)) ?_ | refine TL.yv (Wt.some rfl rfl rfl h1) rfl rfl (Yv.loadS 1 rfl rfl rfl (by first | rfl | assumption)) ?_ | refine TL.yv (Wt.some rfl rfl rfl h1) rfl rfl (Yv.loadS 2 rfl rfl rfl (by first | rfl | assumption)) ?_
    refine TL.yv (Wt.some rfl rfl rfl h1) rfl rfl (Yv.pur rfl) ?_; refine TL.y (Yv.pickF rfl rfl h1 rfl) ?_; refine TL.run 1 rfl ?_; refine TL.gsplit rfl rfl rfl (fun h2 => ?_) (fun h2 => ?_)
    · have p2 := h2; (try simp only [nfB] at p2); refine TL.off (Wt.not rfl rfl rfl h2) rfl rfl ?_; refine TL.off (Wt.not rfl rfl rfl h2) rfl rfl ?_; refine TL.off (Wt.not rfl rfl rfl h2) rfl rfl ?_; refine TL.y (Yv.pickT rfl rfl h2 rfl) ?_; refine TL.nil (K.seq ?_); refine T.condT rfl rfl ?_; refine T.seq (T.region ?_); refine TL.run 1 rfl ?_; refine TL.nil (K.seq (T.ret (K.then_ret ?_))); refine K.ret1 rfl rfl (fun w' hw => ⟨?_, hw.isBelow⟩)
      first | exact ret_bool (by rw [stHasF, if_pos (by first | (left; assumption) | (right; omega))]) | exact ret_bool (by rw [stHasF, if_neg (fun h => by rcases h with h | h | h; (rw [p1] at h; cases h); omega; omega), if_pos (by assumption)]) | exact ret_bool (by rw [stHasF, if_neg (fun h => by rcases h with h | h | h; (rw [p1] at h; cases h); omega; omega), if_neg (by rw [p4]; simp), bit_is])
    · have p2 := h2; (try simp only [nfB] at p2); refine TL.yv (Wt.some rfl rfl rfl h2) rfl rfl (Yv.fieldAddr rfl rfl) ?_
      first | refine TL.yv (Wt.some rfl rfl rfl h2) rfl rfl (Yv.loadB rfl rfl hcon (fun h => h)) ?_ | refine TL.yv (Wt.some rfl rfl rfl h2) rfl rfl (Yv.loadB rfl rfl hsp0 (fun h => h)) ?_ | refine TL.yv (Wt.some rfl rfl rfl h2) rfl rfl (Yv.loadB rfl rfl hsp1 (fun h => h)) ?_ | refine TL.yv (Wt.some rfl rfl rfl h2) rfl rfl (Yv.loadC (j := 0) rfl rfl hk rfl rfl (fun h => h)) ?_ | refine TL.yv (Wt.some rfl rfl rfl h2) rfl rfl (Yv.loadO 0 rfl rfl rfl rfl) ?_ | refine TL.yv (Wt.some rfl rfl rfl h2) rfl rfl (Yv.loadO 1 rfl rfl rfl rfl) ?_ | refine TL.yv (Wt.some rfl rfl rfl h2) rfl rfl (Yv.loadO 2 rfl rfl rfl rfl) ?_ | refine TL.yv (Wt.some rfl rfl rfl h2) rfl rfl (Yv.loadB rfl rfl (by assumption) (fun h => h)) ?_ | refine TL.yv (Wt.some rfl rfl rfl h2) rfl rfl (Yv.loadS 0 rfl rfl rfl (by first | rfl | assumption)) ?_ | refine TL.yv (Wt.some rfl rfl rfl h2) rfl rfl (Yv.loadS 1 rfl rfl rfl (by first | rfl | assumption)) ?_ | refine TL.yv (Wt.some rfl rfl rfl h2) rfl rfl (Yv.loadS 2 rfl rfl rfl (by first | rfl | assumption)) ?_
      refine TL.yv (Wt.some rfl rfl rfl h2) rfl rfl (Yv.pur rfl) ?_; refine TL.y (Yv.pickF rfl rfl h2 rfl) ?_; refine TL.nil (K.seq ?_); refine T.cond rfl (fun h3 => ?_) (fun h3 => ?_)
      · have p3 := h3; (try simp only [nfB] at p3); refine T.seq (T.region ?_); refine TL.run 1 rfl ?_; refine TL.nil (K.seq (T.ret (K.then_ret ?_))); refine K.ret1 rfl rfl (fun w' hw => ⟨?_, hw.isBelow⟩)
        first | exact ret_bool (by rw [stHasF, if_pos (by first | (left; assumption) | (right; omega))]) | exact ret_bool (by rw [stHasF, if_neg (fun h => by rcases h with h | h | h; (rw [p1] at h; cases h); omega; omega), if_pos (by assumption)]) | exact ret_bool (by rw [stHasF, if_neg (fun h => by rcases h with h | h | h; (rw [p1] at h; cases h); omega; omega), if_neg (by rw [p4]; simp), bit_is])
      · have p3 := h3; (try simp only [nfB] at p3); refine T.skip (K.seq (T.seq ?_)); refine T.draw (.still 0 (.still 1 (.still 2 (.still 3 (.still 4 (.still 5 (.eff 6 (.still 7 (.still 8 (.still 9 (.still 10 (.still 11 .done)))))))))))) _ (by kernel_rfl) (List.Sublist.refl _) ?_; refine TS.run 2 rfl ?_; refine TS.y rfl (Yv.fieldAddr rfl rfl) ?_
        first | refine TS.y rfl (Yv.loadB rfl rfl hcon (fun h => h)) ?_ | refine TS.y rfl (Yv.loadB rfl rfl hsp0 (fun h => h)) ?_ | refine TS.y rfl (Yv.loadB rfl rfl hsp1 (fun h => h)) ?_ | refine TS.y rfl (Yv.loadC (j := 0) rfl rfl hk rfl rfl (fun h => h)) ?_ | refine TS.y rfl (Yv.loadO 0 rfl rfl rfl rfl) ?_ | refine TS.y rfl (Yv.loadO 1 rfl rfl rfl rfl) ?_ | refine TS.y rfl (Yv.loadO 2 rfl rfl rfl rfl) ?_ | refine TS.y rfl (Yv.loadB rfl rfl (by assumption) (fun h => h)) ?_ | refine TS.y rfl (Yv.loadS 0 rfl rfl rfl (by first | rfl | assumption)) ?_ | refine TS.y rfl (Yv.loadS 1 rfl rfl rfl (by first | rfl | assumption)) ?_ | refine TS.y rfl (Yv.loadS 2 rfl rfl rfl (by first | rfl | assumption)) ?_
        refine TS.y rfl (Yv.fieldAddr rfl rfl) ?_
        first | refine TS.y rfl (Yv.loadB rfl rfl hcon (fun h => h)) ?_ | refine TS.y rfl (Yv.loadB rfl rfl hsp0 (fun h => h)) ?_ | refine TS.y rfl (Yv.loadB rfl rfl hsp1 (fun h => h)) ?_ | refine TS.y rfl (Yv.loadC (j := 0) rfl rfl hk rfl rfl (fun h => h)) ?_ | refine TS.y rfl (Yv.loadO 0 rfl rfl rfl rfl) ?_ | refine TS.y rfl (Yv.loadO 1 rfl rfl rfl rfl) ?_ | refine TS.y rfl (Yv.loadO 2 rfl rfl rfl rfl) ?_ | refine TS.y rfl (Yv.loadB rfl rfl (by assumption) (fun h => h)) ?_ | refine TS.y rfl (Yv.loadS 0 rfl rfl rfl (by first | rfl | assumption)) ?_ | refine TS.y rfl (Yv.loadS 1 rfl rfl rfl (by first | rfl | assumption)) ?_ | refine TS.y rfl (Yv.loadS 2 rfl rfl rfl (by first | rfl | assumption)) ?_
        refine TS.eff ?_; (refine TSo.ew rfl (Wt.none rfl) rfl rfl (Ew.callD rfl rfl rfl (fun w hw => at_ret tp Y x.st w (hT.later (Fz.of_below hw.isBelow)) (Y.ix512 hok hix))) ?_; rintro _ _ ⟨rfl, rfl⟩; refine ⟨(by repeat first | exact S0 | exact S1 | refine S2 ?_ | refine S3 ?_), ?_⟩); refine TS.run 5 rfl ?_; refine TS.done ?_; refine K.seq (T.seq ?_); refine T.draw (.still 0 (.still 1 (.still 2 (.still 3 (.still 4 (.still 5 (.still 6 (.still 7 (.still 8 (.still 9 (.still 10 (.still 11 (.still 12 (.still 13 (.still 14 (.still 15 .done)))))))))))))))) _ (by kernel_rfl) (List.Sublist.refl _) ?_; refine TS.run 2 rfl ?_; refine TS.gsplit rfl rfl rfl rfl (fun h4 => ?_) (fun h4 => ?_)
        · have p4 := h4; (try simp only [nfB] at p4); (try (have hat := at_facts hix (s := x.st) (by assumption); obtain ⟨gL, oL, rfl, hc⟩ := hLs (by omega); have hk := hc (atF Y x.st).1.toNat (by omega); simp only [Le] at hk)); refine TS.still rfl (Wt.some rfl rfl rfl h4) rfl rfl (Yv.pur rfl) ?_; refine TS.still rfl (Wt.some rfl rfl rfl h4) rfl rfl (Yv.pur rfl) ?_; refine TS.still rfl (Wt.some rfl rfl rfl h4) rfl rfl (Yv.fieldAddr rfl rfl) ?_
          first | refine TS.still rfl (Wt.some rfl rfl rfl h4) rfl rfl (Yv.loadB rfl rfl hcon (fun h => h)) ?_ | refine TS.still rfl (Wt.some rfl rfl rfl h4) rfl rfl (Yv.loadB rfl rfl hsp0 (fun h => h)) ?_ | refine TS.still rfl (Wt.some rfl rfl rfl h4) rfl rfl (Yv.loadB rfl rfl hsp1 (fun h => h)) ?_ | refine TS.still rfl (Wt.some rfl rfl rfl h4) rfl rfl (Yv.loadC (j := 0) rfl rfl hk rfl rfl (fun h => h)) ?_ | refine TS.still rfl (Wt.some rfl rfl rfl h4) rfl rfl (Yv.loadO 0 rfl rfl rfl rfl) ?_ | refine TS.still rfl (Wt.some rfl rfl rfl h4) rfl rfl (Yv.loadO 1 rfl rfl rfl rfl) ?_ | refine TS.still rfl (Wt.some rfl rfl rfl h4) rfl rfl (Yv.loadO 2 rfl rfl rfl rfl) ?_ | refine TS.still rfl (Wt.some rfl rfl rfl h4) rfl rfl (Yv.loadB rfl rfl (by assumption) (fun h => h)) ?_ | refine TS.still rfl (Wt.some rfl rfl rfl h4) rfl rfl (Yv.loadS 0 rfl rfl rfl (by first | rfl | assumption)) ?_ | refine TS.still rfl (Wt.some rfl rfl rfl h4) rfl rfl (Yv.loadS 1 rfl rfl rfl (by first | rfl | assumption)) ?_ | refine TS.still rfl (Wt.some rfl rfl rfl h4) rfl rfl (Yv.loadS 2 rfl rfl rfl (by first | rfl | assumption)) ?_
          refine TS.still rfl (Wt.some rfl rfl rfl h4) rfl rfl (Yv.pur rfl) ?_
          first | refine TS.still rfl (Wt.some rfl rfl rfl h4) rfl rfl (Yv.indexSl rfl rfl rfl rfl (by omega)) ?_ | refine TS.still rfl (Wt.some rfl rfl rfl h4) rfl rfl (Yv.indexAr rfl rfl rfl rfl (by omega)) ?_ | refine TS.still rfl (Wt.some rfl rfl rfl h4) rfl rfl (Yv.indexSl rfl rfl rfl (show (atF Y x.st).1 = (((atF Y x.st).1.toNat : Nat) : Int) from by omega) (by omega)) ?_ | refine TS.still rfl (Wt.some rfl rfl rfl h4) rfl rfl (Yv.indexAr rfl rfl rfl (show (atF Y x.st).1 = (((atF Y x.st).1.toNat : Nat) : Int) from by omega) (by omega)) ?_
          first | refine TS.still rfl (Wt.some rfl rfl rfl h4) rfl rfl (Yv.loadB rfl rfl hcon (fun h => h)) ?_ | refine TS.still rfl (Wt.some rfl rfl rfl h4) rfl rfl (Yv.loadB rfl rfl hsp0 (fun h => h)) ?_ | refine TS.still rfl (Wt.some rfl rfl rfl h4) rfl rfl (Yv.loadB rfl rfl hsp1 (fun h => h)) ?_ | refine TS.still rfl (Wt.some rfl rfl rfl h4) rfl rfl (Yv.loadC (j := 0) rfl rfl hk rfl rfl (fun h => h)) ?_ | refine TS.still rfl (Wt.some rfl rfl rfl h4) rfl rfl (Yv.loadO 0 rfl rfl rfl rfl) ?_ | refine TS.still rfl (Wt.some rfl rfl rfl h4) rfl rfl (Yv.loadO 1 rfl rfl rfl rfl) ?_ | refine TS.still rfl (Wt.some rfl rfl rfl h4) rfl rfl (Yv.loadO 2 rfl rfl rfl rfl) ?_ | refine TS.still rfl (Wt.some rfl rfl rfl h4) rfl rfl (Yv.loadB rfl rfl (by assumption) (fun h => h)) ?_ | refine TS.still rfl (Wt.some rfl rfl rfl h4) rfl rfl (Yv.loadS 0 rfl rfl rfl (by first | rfl | assumption)) ?_ | refine TS.still rfl (Wt.some rfl rfl rfl h4) rfl rfl (Yv.loadS 1 rfl rfl rfl (by first | rfl | assumption)) ?_ | refine TS.still rfl (Wt.some rfl rfl rfl h4) rfl rfl (Yv.loadS 2 rfl rfl rfl (by first | rfl | assumption)) ?_
          refine TS.still rfl (Wt.some rfl rfl rfl h4) rfl rfl (Yv.fieldAddr rfl rfl) ?_
          first | refine TS.still rfl (Wt.some rfl rfl rfl h4) rfl rfl (Yv.loadB rfl rfl hcon (fun h => h)) ?_ | refine TS.still rfl (Wt.some rfl rfl rfl h4) rfl rfl (Yv.loadB rfl rfl hsp0 (fun h => h)) ?_ | refine TS.still rfl (Wt.some rfl rfl rfl h4) rfl rfl (Yv.loadB rfl rfl hsp1 (fun h => h)) ?_ | refine TS.still rfl (Wt.some rfl rfl rfl h4) rfl rfl (Yv.loadC (j := 0) rfl rfl hk rfl rfl (fun h => h)) ?_ | refine TS.still rfl (Wt.some rfl rfl rfl h4) rfl rfl (Yv.loadO 0 rfl rfl rfl rfl) ?_ | refine TS.still rfl (Wt.some rfl rfl rfl h4) rfl rfl (Yv.loadO 1 rfl rfl rfl rfl) ?_ | refine TS.still rfl (Wt.some rfl rfl rfl h4) rfl rfl (Yv.loadO 2 rfl rfl rfl rfl) ?_ | refine TS.still rfl (Wt.some rfl rfl rfl h4) rfl rfl (Yv.loadB rfl rfl (by assumption) (fun h => h)) ?_ | refine TS.still rfl (Wt.some rfl rfl rfl h4) rfl rfl (Yv.loadS 0 rfl rfl rfl (by first | rfl | assumption)) ?_ | refine TS.still rfl (Wt.some rfl rfl rfl h4) rfl rfl (Yv.loadS 1 rfl rfl rfl (by first | rfl | assumption)) ?_ | refine TS.still rfl (Wt.some rfl rfl rfl h4) rfl rfl (Yv.loadS 2 rfl rfl rfl (by first | rfl | assumption)) ?_
          first | refine TS.still rfl (Wt.some rfl rfl rfl h4) rfl rfl (Yv.shrV x.ch.toNat rfl rfl rfl (by omega) (by omega)) ?_ | refine TS.still rfl (Wt.some rfl rfl rfl h4) rfl rfl (Yv.shrU rfl rfl rfl (by omega)) ?_ | refine TS.still rfl (Wt.some rfl rfl rfl h4) rfl rfl (Yv.shrU rfl rfl rfl) ?_
          first | refine TS.still rfl (Wt.some rfl rfl rfl h4) rfl rfl (Yv.andV (b := 1#64) rfl rfl rfl) ?_ | refine TS.still rfl (Wt.some rfl rfl rfl h4) rfl rfl (Yv.andU rfl rfl rfl (by omega)) ?_ | refine TS.still rfl (Wt.some rfl rfl rfl h4) rfl rfl (Yv.andU rfl rfl rfl) ?_
          first | refine TS.still rfl (Wt.some rfl rfl rfl h4) rfl rfl (Yv.pur rfl) ?_ | refine TS.still rfl (Wt.some rfl rfl rfl h4) rfl rfl (Yv.eqB rfl rfl rfl rfl) ?_
          refine TS.y rfl (Yv.pickT rfl rfl h4 rfl) ?_; refine TS.run 1 rfl ?_; refine TS.done ?_; refine K.seq (T.ret ?_); refine K.ret1 rfl rfl (fun w' hw => ⟨?_, hw.isBelow⟩)
          first | exact ret_bool (by rw [stHasF, if_pos (by first | (left; assumption) | (right; omega))]) | exact ret_bool (by rw [stHasF, if_neg (fun h => by rcases h with h | h | h; (rw [p1] at h; cases h); omega; omega), if_pos (by assumption)]) | exact ret_bool (by rw [stHasF, if_neg (fun h => by rcases h with h | h | h; (rw [p1] at h; cases h); omega; omega), if_neg (by rw [p4]; simp), bit_is])
        · have p4 := h4; (try simp only [nfB] at p4); (try (have hat := at_facts hix (s := x.st) (by assumption); obtain ⟨gL, oL, rfl, hc⟩ := hLs (by omega); have hk := hc (atF Y x.st).1.toNat (by omega); simp only [Le] at hk)); refine TS.stillOff rfl (Wt.not rfl rfl rfl h4) rfl rfl ?_; refine TS.stillOff rfl (Wt.not rfl rfl rfl h4) rfl rfl ?_; refine TS.stillOff rfl (Wt.not rfl rfl rfl h4) rfl rfl ?_; refine TS.stillOff rfl (Wt.not rfl rfl rfl h4) rfl rfl ?_; refine TS.stillOff rfl (Wt.not rfl rfl rfl h4) rfl rfl ?_; refine TS.stillOff rfl (Wt.not rfl rfl rfl h4) rfl rfl ?_; refine TS.stillOff rfl (Wt.not rfl rfl rfl h4) rfl rfl ?_; refine TS.stillOff rfl (Wt.not rfl rfl rfl h4) rfl rfl ?_; refine TS.stillOff rfl (Wt.not rfl rfl rfl h4) rfl rfl ?_; refine TS.stillOff rfl (Wt.not rfl rfl rfl h4) rfl rfl ?_; refine TS.stillOff rfl (Wt.not rfl rfl rfl h4) rfl rfl ?_; refine TS.stillOff rfl (Wt.not rfl rfl rfl h4) rfl rfl ?_; refine TS.y rfl (Yv.pickF rfl rfl h4 rfl) ?_; refine TS.run 1 rfl ?_; refine TS.done ?_; refine K.seq (T.ret ?_); refine K.ret1 rfl rfl (fun w' hw => ⟨?_, hw.isBelow⟩)
          first | exact ret_bool (by rw [stHasF, if_pos (by first | (left; assumption) | (right; omega))]) | exact ret_bool (by rw [stHasF, if_neg (fun h => by rcases h with h | h | h; (rw [p1] at h; cases h); omega; omega), if_pos (by assumption)]) | exact ret_bool (by rw [stHasF, if_neg (fun h => by rcases h with h | h | h; (rw [p1] at h; cases h); omega; omega), if_neg (by rw [p4]; simp), bit_is])
theorem fixed_bad (sp : Nat) (Y : Tb) (L : Ws) (w : World) (h : StateAt w sp Y L true) : Calls Tryd.prog 23 #[.pointer (some ⟨sp, 0, none⟩)] w fun e w' => e = .returned (.slice none 0 0) ∧ Below w.heap.size w w' := by
  have hcon := h.con; refine calls_T (M := fun _ => False) (hs := []) Tryd.func23 rfl rfl rfl (Hp.refl _ _) ?_; refine T.seq (T.region ?_); refine TL.run 1 rfl ?_; refine TL.nil (K.seq (T.seq (T.seq (T.region ?_)))); refine TL.run 1 rfl ?_; (refine TL.ew (Wt.none rfl) rfl rfl (Ew.callD rfl rfl rfl (fun w hw => missing_ret sp Y L true w (h.kept hw))) ?_; rintro _ _ ⟨rfl, rfl⟩); refine TL.run 1 rfl ?_; refine TL.yv (Wt.some rfl rfl rfl rfl) rfl rfl (Yv.pur rfl) ?_; refine TL.yv (Wt.some rfl rfl rfl rfl) rfl rfl (Yv.pur rfl) ?_; refine TL.yv (Wt.some rfl rfl rfl rfl) rfl rfl (Yv.fieldAddr rfl rfl) ?_
  first | refine TL.yv (Wt.some rfl rfl rfl rfl) rfl rfl (Yv.loadB rfl rfl hcon (fun h => h)) ?_ | refine TL.yv (Wt.some rfl rfl rfl rfl) rfl rfl (Yv.loadO 0 rfl rfl rfl rfl) ?_ | refine TL.yv (Wt.some rfl rfl rfl rfl) rfl rfl (Yv.loadO 1 rfl rfl rfl rfl) ?_ | refine TL.yv (Wt.some rfl rfl rfl rfl) rfl rfl (Yv.loadO 2 rfl rfl rfl rfl) ?_ | refine TL.yv (Wt.some rfl rfl rfl rfl) rfl rfl (Yv.loadB rfl rfl (by assumption) (fun h => h)) ?_ | refine TL.yv (Wt.some rfl rfl rfl rfl) rfl rfl (Yv.loadS 0 rfl rfl rfl (by first | rfl | assumption)) ?_ | refine TL.yv (Wt.some rfl rfl rfl rfl) rfl rfl (Yv.loadS 1 rfl rfl rfl (by first | rfl | assumption)) ?_ | refine TL.yv (Wt.some rfl rfl rfl rfl) rfl rfl (Yv.loadS 2 rfl rfl rfl (by first | rfl | assumption)) ?_
  refine TL.run 1 rfl ?_; refine TL.nil (K.seq ?_); refine T.condT rfl rfl ?_; refine T.seq (T.region ?_); refine TL.run 1 rfl ?_; refine TL.nil (K.seq (T.ret (K.then_ret ?_))); refine K.ret1 rfl rfl (fun w' hw => ⟨?_, hw.isBelow⟩)
  rfl
end Go.Proofs.YtljgejbmimapdaaDoor
namespace Go.Proofs.YtljgejbmimapdaaDoor
open Go.RowKit
def fixD (d : List GDomain) : List GChoice := (d.filter fun x => decide (x.Channels.length = 1)).map fun x => ⟨x.Station, nth x.Channels 0⟩
def stFix (m : List GDomain × Bool) : List GChoice := bif m.2 then fixD m.1 else []
def stHas (m : List GDomain × Bool) (c : GChoice) : Bool := m.2 && m.1.any fun x => decide (x.Station = c.Station) && x.Channels.any fun k => decide (k = c.Channel)
theorem fixD_snoc {d : List GDomain} {x : GDomain} : fixD (d ++ [x]) = fixD d ++ (if x.Channels.length = 1 then [⟨x.Station, nth x.Channels 0⟩] else []) := by
  unfold fixD; rw [List.filter_append, List.map_append]
  congr 1
  by_cases h : x.Channels.length = 1 <;> simp [h]
theorem only_one {b : BitVec 64} (hb : b ≠ 0#64) (h0 : b.getLsbD 0 = false) : (onlyB b ≠ 0 ↔ (chansN b).length = 1) ∧ (onlyB b ≠ 0 → chansN b = [onlyB b]) := by
  have key : onlyB b ≠ 0 → chansN b = [onlyB b] := fun h => by
    have h1 := (only_iff hb (c := ((onlyB b : Nat) : Int)) (by omega)).2 rfl
    cases hc : chansN b with
    | nil => exact absurd hc (chansN_ne hb)
    | cons j r =>
      have hj := h1 j (by rw [hc]; simp)
      cases r with
      | nil => rw [show j = onlyB b by omega]
      | cons k s =>
        have hk := h1 k (by rw [hc]; simp); have hn := chansN_nodup b; rw [hc, List.nodup_cons] at hn; exact absurd (by simp; left; omega) hn.1
  refine ⟨⟨fun h => by rw [key h]; rfl, fun h hz => ?_⟩, key⟩; obtain ⟨j, hj⟩ := List.length_eq_one_iff.1 h
  have hj0 : j ≠ 0 := fun e => by
    (have : j ∈ chansN b := by rw [hj]; simp); rw [chansN_mem, e, h0] at this
    cases this
  have := (only_iff hb (c := (j : Int)) (by omega)).1 (fun k hk => by rw [hj] at hk; simp at hk; omega); omega
theorem fix_gd {Y : Tb} {L : Ws} (hl : L.length = Y.n) (hne : ∀ i, i < Y.n → nth L i ≠ 0#64) (hb : In51 L) : ∀ k, k ≤ Y.n → (fixF Y L k).map Ch.er = fixD ((gd Y L).take k)
  | 0, _ => by simp [fixF, fixD]
  | k + 1, h => by
    have h0 : (nth L k).getLsbD 0 = false := by
      cases e : (nth L k).getLsbD 0 with
      | false => rfl
      | true => have := hb k 0 e; omega
    obtain ⟨h1, h2⟩ := only_one (hne k (by omega)) h0; rw [fixF_succ, List.map_append, fix_gd hl hne hb k (by omega), List.take_succ_eq_append_getElem (by rw [gd_len]; omega), ← nth_eq (by rw [gd_len]; omega), gd_nth (by omega), fixD_snoc]
    congr 1
    show List.map Ch.er (if onlyB (nth L k) ≠ 0 then [⟨nth Y.st k, (onlyB (nth L k) : Int)⟩] else []) = _
    dsimp only; rw [List.length_map]; by_cases e : onlyB (nth L k) = 0
    · rw [if_neg (by simpa using e), if_neg (fun q => (h1.2 q) e)]; rfl
    · rw [if_pos e, if_pos (h1.1 e), h2 e]; rfl
section
variable {p : GProblem} {m : List GDomain × Bool} {k : SK} {L : Ws} {w : World} {F0 : Frz}
theorem SI.ne (h : SI p m k L) (hm : m.2 = true) : ∀ i, i < k.Y.n → nth L i ≠ 0#64 := fun i hi => (h.good hm).1.ne i hi
theorem st_fixed (hF0 : F0.At w) (h : SI p m k L) (hok : (stE k L (!m.2)).ok w) (htab : Tab w) : Calls Tryd.prog 23 #[.pointer (some ⟨k.sp, 0, none⟩)] w fun e w' => ∃ (y : Value) (G : Frz), SlC G y 2 ((stFix m).map GChoice.enc) ∧ e = .returned y ∧ Fx F0 w G w' := by
  have hs := (h.stF hok htab).st
  cases hm : m.2 with
  | false =>
    rw [hm] at hs; refine (fixed_bad k.sp k.Y L w hs).mono ?_; rintro e w' ⟨rfl, hb⟩; exact ⟨.slice none 0 0, F0, by unfold stFix; rw [hm]; exact SlC.nil _ 2, rfl, Fx.refl hF0 hb⟩
  | true =>
    rw [hm] at hs; refine (fixed_ret k.sp k.Y L w hs h.ok).mono ?_; rintro e w' ⟨v, -, rfl, hw⟩; obtain ⟨G, h1, h2⟩ := chs_frz hF0 hw; refine ⟨v, G, ?_, rfl, h1⟩
    have e : stFix m = (fixF k.Y L k.Y.n).map Ch.er := by
      unfold stFix; rw [hm, cond_true, fix_gd h.len (h.ne hm) (h.good hm).2.1 _ (Nat.le_refl _), (h.good hm).2.2, List.take_of_length_le (by rw [gd_len]; exact Nat.le_refl _)]
    rw [e]; exact h2
theorem st_has (h : SI p m k L) (hok : (stE k L (!m.2)).ok w) (htab : Tab w) (c : GChoice) : Calls Tryd.prog 26 #[.pointer (some ⟨k.sp, 0, none⟩), .agg [.int .i64 c.Station, .int .i64 c.Channel].toArray] w fun e w' => e = .returned (.bool (stHas m c)) ∧ Below w.heap.size w w' := by
  have hs := (h.stF hok htab).st; obtain ⟨P, hP, hok', hY⟩ := h.pb; have hG := Pb.good hok'; refine (shas_ret k.sp k.Y L (!m.2) c.b w hs h.ok hY.ixn).mono ?_; rintro e w' ⟨rfl, hb⟩; refine ⟨?_, hb⟩
  congr 2
  unfold stHasF stHas
  cases hm : m.2 with
  | false => rw [if_pos (.inl rfl)]; rfl
  | true =>
    obtain ⟨-, h51, hd⟩ := h.good hm; rw [Bool.true_and, hd]
    have hany : ∀ q, (gd k.Y L).any (fun x => decide (x.Station = c.Station) && x.Channels.any fun k => decide (k = c.Channel)) = q ↔ ((∃ i, i < k.Y.n ∧ nth k.Y.st i = c.Station ∧ ∃ j : Nat, (nth L i).getLsbD j = true ∧ (j : Int) = c.Channel) ↔ q = true) := fun q => by
      have e1 : (gd k.Y L).any (fun x => decide (x.Station = c.Station) && x.Channels.any fun k => decide (k = c.Channel)) = true ↔ (∃ i, i < k.Y.n ∧ nth k.Y.st i = c.Station ∧ ∃ j : Nat, (nth L i).getLsbD j = true ∧ (j : Int) = c.Channel) := by
        rw [List.any_eq_true]; constructor
        · rintro ⟨x, hx, hh⟩; obtain ⟨i, hi, rfl⟩ := mem_nth hx; rw [gd_len] at hi; rw [Bool.and_eq_true, decide_eq_true_eq, List.any_eq_true] at hh; obtain ⟨h1, q, hq, h2⟩ := hh; obtain ⟨j, hj, rfl⟩ := (gd_mem hi).1 hq; rw [gd_nth hi] at h1; exact ⟨i, hi, h1, j, hj, of_decide_eq_true h2⟩
        · rintro ⟨i, hi, h1, j, hj, h2⟩; refine ⟨_, nth_memG (by rw [gd_len]; exact hi), ?_⟩; rw [Bool.and_eq_true, decide_eq_true_eq, List.any_eq_true]; exact ⟨by rw [gd_nth hi]; exact h1, (j : Int), (gd_mem hi).2 ⟨j, hj, rfl⟩, decide_eq_true h2⟩
      rw [← e1]
      cases (gd k.Y L).any (fun x => decide (x.Station = c.Station) && x.Channels.any fun k => decide (k = c.Channel)) <;> cases q <;> simp
    symm
    rw [hany]
    show _ ↔ (if (!true) = true ∨ c.Channel < 2 ∨ 51 < c.Channel then false else if (atF k.Y c.Station).2 = false then false else (nth L (atF k.Y c.Station).1.toNat).getLsbD c.Channel.toNat) = true
    by_cases hc : c.Channel < 2 ∨ 51 < c.Channel
    · rw [if_pos (.inr hc)]; refine ⟨fun ⟨i, hi, _, j, hj, h2⟩ => ?_, fun h => by cases h⟩; have := h51 i j hj; omega
    · rw [if_neg (by simpa using hc)]
      cases hh : hasSt P.er c.Station with
      | true =>
        obtain ⟨i, hi, e⟩ := (hasSt_iff hY).1 hh; rw [← e, at_yes hok' hY hi]; simp only [Bool.true_eq_false, if_false, Int.toNat_natCast]; constructor
        · rintro ⟨i', hi', h1, j, hj, h2⟩; rw [st_inj hG hY hi hi' h1.symm, ← h2, Int.toNat_natCast]; exact hj
        · intro h; exact ⟨i, hi, rfl, c.Channel.toNat, h, by omega⟩
      | false =>
        (have hno : ∀ i, i < k.Y.n → nth k.Y.st i ≠ c.Station := fun i hi e => by rw [(hasSt_iff hY).2 ⟨i, hi, e⟩] at hh; cases hh); rw [at_no hok' hY hno]; simp only [if_true]; exact ⟨fun ⟨i, hi, h1, _⟩ => absurd h1 (hno i hi), fun h => by cases h⟩
end
end Go.Proofs.YtljgejbmimapdaaDoor
namespace Go.Proofs.YtljgejbmimapdaaDoor
open Go.RowKit
def nv : Value := .slice none 0 0
def Y0 : Tb := ⟨[1, 2, 3], ixAt (smp nv nv nv).ds 3, 7, [], (smp nv nv nv).psA 2, [], (smp nv nv nv).csA 1, [], (smp nv nv nv).inA 2, [], (smp nv nv nv).ouA 2⟩
section
variable {a b c : Value} {Y : Tb} (h : TbOf (smp a b c) Y)
include h
theorem sm_ps : Y.ps = Y0.ps := h.ps.trans rfl
theorem sm_cs : Y.cs = Y0.cs := h.cs.trans rfl
theorem sm_in : Y.inn = Y0.inn := h.inn.trans rfl
theorem sm_out : Y.out = Y0.out := h.out.trans rfl
theorem sm_n : Y.n = 3 := h.n
theorem sm_gone (L : Ws) (i : Nat) : goneF Y L i = goneF Y0 L i := by
  have h1 := sm_ps h; have h2 := sm_cs h; have h3 := sm_in h; have h4 := sm_out h; (have e1 : pairsF Y L i = pairsF Y0 L i := by unfold pairsF; rw [h1]); (have e2 : capsF Y L i = capsF Y0 L i := by unfold capsF; rw [h2, h3])
  have e3 : loadsF Y L i = loadsF Y0 L i := by
    unfold loadsF; rw [h4]; apply foldl_congr'; intro x _ s; unfold loadStep; rw [h2, h3]
  unfold goneF; rw [e1, e2, e3]
end
def l0 : Ws := [49152#64, 49152#64, 114688#64]
def k1 : Ws := [16384#64, 32768#64, 65536#64]
theorem sm_left (a b c : Value) : (smp a b c).left = l0 := by
  show [maskOf [14, 15], maskOf [14, 15], maskOf [14, 15, 16]] = l0
  decide
theorem sm_ok (a b c : Value) : (smp a b c).ok = true := by
  have e : (smp a b c).ok = (smp nv nv nv).ok := rfl; rw [e]; decide +kernel
theorem closed0 : ∀ i, i < 3 → nth l0 i ≠ 0#64 ∧ nth l0 i &&& goneF Y0 l0 i = 0#64 := by decide +kernel
theorem closed1 : ∀ i, i < 3 → nth k1 i ≠ 0#64 ∧ nth k1 i &&& goneF Y0 k1 i = 0#64 := by decide +kernel
def stepG (L : Ws) (i : Nat) : Ws := L.set i (nth L i &&& ~~~(goneF Y0 L i))
def t1 : Ws := [16384#64, 49152#64, 114688#64]
def t3 : Ws := [49152#64, 49152#64, 32768#64]
theorem steps1 : stepG (stepG t1 1) 2 = k1 := by decide +kernel
theorem steps3 : nth (stepG (stepG t3 1) 0) 0 = 0#64 := by decide +kernel
section
variable {a b c : Value} {Y : Tb} (h : TbOf (smp a b c) Y)
include h
theorem sm_tok : Y.Ok := h.ok (Pb.good (sm_ok a b c))
theorem sm_closed {K : Ws} (hl : K.length = 3) (hc : ∀ i, i < 3 → nth K i ≠ 0#64 ∧ nth K i &&& goneF Y0 K i = 0#64) : Closed Y K := ⟨by rw [hl, sm_n h], fun i hi => by
  rw [sm_n h] at hi; have := hc i hi
  exact ⟨this.1, by rw [sm_gone h]; exact this.2⟩⟩
theorem sm_reach {T M : Ws} {i : Nat} (hr : Reach Y T M) (hi : i < 3) : Reach Y T (stepG M i) := by
  unfold stepG; rw [← sm_gone h]; exact .step hr (by rw [sm_n h]; exact hi) (fun _ hj => hj)
theorem sm_new {L : Ws} {d : Bool} (hI : Is Y (smp a b c).left L d) : L = l0 ∧ d = false := by
  rw [sm_left] at hI; exact hI.eq (sm_tok h) (sm_closed h rfl closed0) .refl
theorem sm_check {x : Ch} : checkF Y false x = checkF Y0 false x := by
  unfold checkF atF; rw [h.ix]; rfl
theorem sm_asm1 : asm Y (smp a b c).left ⟨1, 14⟩ = t1 := by
  unfold asm; rw [sm_check h, sm_left]; decide +kernel
theorem sm_asm3 : asm Y (smp a b c).left ⟨3, 15⟩ = t3 := by
  unfold asm; rw [sm_check h, sm_left]; decide +kernel
theorem sm_fbd1 : fbd Y (smp a b c).left ⟨1, 15⟩ = t1 := by
  unfold fbd; rw [sm_check h, sm_left]; decide +kernel
theorem sm_one {L : Ws} {d : Bool} (hI : Is Y t1 L d) : L = k1 ∧ d = false := by
  refine hI.eq (sm_tok h) (sm_closed h rfl closed1) ?_; rw [← steps1]; exact sm_reach h (sm_reach h .refl (by decide)) (by decide)
theorem sm_three {L : Ws} {d : Bool} (hI : Is Y t3 L d) : d = true :=
  hI.conflict (sm_tok h) (i := 0) (by rw [sm_n h]; decide) steps3 (sm_reach h (sm_reach h .refl (by decide)) (by decide))
theorem sm_total : Y.total = 7 := h.total.trans rfl
theorem sm_st : Y.st = [1, 2, 3] := h.st.trans rfl
theorem sm_doms0 : domsF Y l0 Y.n = [(1, [14, 15]), (2, [14, 15]), (3, [14, 15, 16])] := by
  unfold domsF; rw [sm_n h, sm_st h]; (have e : ∀ m : BitVec 64, chansN m = (List.range' 0 64).filter m.getLsbD := fun m => by unfold chansN; rfl); simp only [e]
  decide +kernel
theorem sm_doms1 : domsF Y k1 Y.n = [(1, [14]), (2, [15]), (3, [16])] := by
  unfold domsF; rw [sm_n h, sm_st h]; (have e : ∀ m : BitVec 64, chansN m = (List.range' 0 64).filter m.getLsbD := fun m => by unfold chansN; rfl); simp only [e]
  decide +kernel
theorem sm_fix1 : fixF Y k1 Y.n = [⟨1, 14⟩, ⟨2, 15⟩, ⟨3, 16⟩] := by
  unfold fixF; rw [sm_n h, sm_st h]; decide +kernel
theorem sm_rem0 : removedF Y l0 false = 0 := by unfold removedF; rw [sm_total h]; decide +kernel
theorem sm_rem1 : removedF Y k1 false = 4 := by unfold removedF; rw [sm_total h]; decide +kernel
end
theorem dfix_pl (xs : List Dx) : dfix xs xs.length = ((xs.map Dx.pl).filter fun p => decide (p.2.length = 1)).map fun p => ⟨p.1, nth p.2 0⟩ := by
  unfold dfix; rw [List.take_length, List.filter_map, List.map_map]
  rfl
theorem pl_len {xs : List Dx} {l : List (Int × List Int)} (h : xs.map Dx.pl = l) : xs.length = l.length := by rw [← h, List.length_map]
theorem pl_chs {xs : List Dx} {l : List (Int × List Int)} (h : xs.map Dx.pl = l) (n : Nat) (hl : ∀ p ∈ l, p.2.length ≤ n) : ∀ d ∈ xs, d.chs.length ≤ n := fun d hd => hl (Dx.pl d) (by rw [← h]; exact List.mem_map.2 ⟨d, hd, rfl⟩)
def want : List Ch := [⟨1, 14⟩, ⟨2, 15⟩, ⟨3, 16⟩]
end Go.Proofs.YtljgejbmimapdaaDoor
namespace Go.Proofs.YtljgejbmimapdaaDoor
open Go.RowKit
theorem known_ret (w : World) (htab : Tab w) : Calls Tryd.prog 10 #[] w fun e w' => e = .returned (.bool true) ∧ Below w.heap.size w w' := by
  refine calls_T (M := fun _ => False) (hs := []) Tryd.func10 rfl rfl rfl (Hp.refl _ _) ?_; refine T.seq (T.region ?_); refine TL.run 1 rfl ?_; refine TL.nil (K.seq (T.seq (T.region ?_))); (refine TL.ew (Wt.none rfl) rfl rfl (Ew.callH rfl rfl rfl (fun w hw => sample_ret _)) ?_; rintro _ _ ⟨s1, -, rfl, rfl⟩); (refine TL.ew (Wt.none rfl) rfl rfl (Ew.callH rfl rfl rfl (fun w hw => new_ok s1.pb _ _ _ _ w (s1.prob hw) (htab.keptF hw) (sm_ok _ _ _))) ?_; rintro _ _ ⟨⟨g1, gl, tp, Y, L0, c0, w0⟩, hN, rfl, rfl⟩); dsimp only at hN; dsimp only [List.cons_append, List.nil_append]; have hTb := hN.tb; have hYok := sm_tok hTb; have hYn := sm_n hTb; have hI0 := hN.is (Pb.good (sm_ok _ _ _)); obtain ⟨rfl, rfl⟩ := sm_new hTb hI0; have hT := hN.at'; rw [show s1.pb.ds.length = 3 from rfl]; refine TL.run 5 rfl ?_; refine TL.nil (K.seq (T.seq (T.seq (T.region ?_)))); refine TL.run 1 rfl ?_; refine TL.y (Yv.binR rfl rfl rfl (eq46s _ _ _)) ?_; refine TL.run 1 rfl ?_; refine TL.yv (Wt.some rfl rfl rfl rfl) rfl rfl (Yv.pur rfl) ?_; refine TL.yv (Wt.some rfl rfl rfl rfl) rfl rfl (Yv.pur rfl) ?_; refine TL.run 2 rfl ?_; refine TL.yv (Wt.some rfl rfl rfl rfl) rfl rfl (Yv.pur rfl) ?_; (refine TL.ew (Wt.some rfl rfl rfl rfl) rfl rfl (Ew.callD rfl rfl rfl (fun w hw => removed_ret g1 Y l0 false w (StF.of (Y := Y) hw hT (Ent.fz_ok.1 (hw.own (Ent.fz w0) (by simp))) (htab.keptF hw) 0 1 (by rw [hYn]; rfl) (by rw [hYn]; rfl) (by rw [hYn]; rfl)).st hYok (by rw [sm_total hTb]; decide))) ?_; rintro _ _ ⟨rfl, rfl⟩); rw [sm_rem0 hTb]; refine TL.yv (Wt.some rfl rfl rfl rfl) rfl rfl (Yv.pur rfl) ?_; refine TL.run 2 rfl ?_; refine TL.yv (Wt.some rfl rfl rfl rfl) rfl rfl (Yv.pur rfl) ?_; (refine TL.ew (Wt.some rfl rfl rfl rfl) rfl rfl (Ew.callH rfl rfl rfl (fun w hw => domains_ok g1 Y l0 w (StF.of (Y := Y) hw hT (Ent.fz_ok.1 (hw.own (Ent.fz w0) (by simp))) (htab.keptF hw) 0 1 (by rw [hYn]; rfl) (by rw [hYn]; rfl) (by rw [hYn]; rfl)).st hYok)) ?_; rintro _ _ ⟨y24, hd24, rfl, rfl⟩); dsimp only [List.cons_append, List.nil_append]; rw [sm_doms0 hTb] at hd24; (refine TL.ew (Wt.some rfl rfl rfl rfl) rfl rfl (Ew.callH rfl rfl rfl (fun w hw => sample_ret _)) ?_; rintro _ _ ⟨s2, -, rfl, rfl⟩); refine TL.yv (Wt.some rfl rfl rfl rfl) rfl rfl (Yv.field rfl rfl rfl) ?_; (refine TL.ew (Wt.some rfl rfl rfl rfl) rfl rfl (Ew.callD rfl rfl rfl (fun w hw => sameDomains_ret y24.2 s2.pb.ds _ _ w (DomsAt.own hw 7 8 rfl rfl) (s2.prob hw).ds (by rw [pl_len hd24]; decide) (pl_chs hd24 _ (by decide)))) ?_; rintro _ _ ⟨rfl, rfl⟩); rw [show decide (y24.2.map Dx.pl = s2.pb.ds.map Dx.pl) = true from decide_eq_true (by rw [hd24]; rfl)]; refine TL.yv (Wt.some rfl rfl rfl rfl) rfl rfl (Yv.pur rfl) ?_; refine TL.run 1 rfl ?_; refine TL.nil (K.seq ?_); refine T.condF rfl rfl ?_; refine T.skip (K.seq (T.seq ?_)); refine T.weaken (hs' := [sRow g1 gl tp 3 false, sLeft gl 3 l0, Ent.fz w0]) Sub.refl (by repeat first | exact S0 | exact S1 | refine S2 ?_ | refine S3 ?_) ?_; refine T.region ?_; (refine TL.ew (Wt.none rfl) rfl rfl (Ew.callH rfl rfl rfl (fun w hw => sample_ret _)) ?_; rintro _ _ ⟨s3, -, rfl, rfl⟩); refine TL.y (Yv.build rfl rfl) ?_; (refine TL.ew (Wt.none rfl) rfl rfl (Ew.buildSlice rfl rfl rfl (by decide)) ?_; rintro _ _ ⟨g33, rfl, rfl⟩); (refine TL.ew (Wt.none rfl) rfl rfl (Ew.callH rfl rfl rfl (fun w hw => run_fine s3.pb _ _ _ _ ⟨1, 14⟩ _ w (s3.prob (by exact hw.sub (List.sublist_cons_self _ _))) (SlOf.lit (enc := Ch.cells) (size := 2) (fun _ => rfl) [⟨1, 14⟩] (Ent.row_ok.1 (hw.get (i := 0) rfl)) rfl rfl) (htab.keptF hw) (sm_ok _ _ _) (by decide) (fun Z hZ => by rw [sm_check hZ]; decide +kernel) (fun Z K d hZ hI => (sm_new hZ hI).2) (fun Z K d hZ hI => by rw [show s3.pb.left = (smp _ _ _).left from rfl, sm_asm1 hZ] at hI; exact (sm_one hZ hI).2))) ?_; rintro _ _ ⟨y34, ⟨Y1, L1, hT1, hI1, hd1⟩, rfl, rfl⟩); dsimp only [List.cons_append, List.nil_append]; (have hL1 : L1 = k1 := by rw [show s3.pb.left = (smp _ _ _).left from rfl, sm_asm1 hT1] at hI1; exact (sm_one hT1 hI1).1); subst hL1; rw [sm_doms1 hT1] at hd1; have hlen34 : y34.2.length = 3 := pl_len hd1; refine TL.run 7 rfl ?_; refine TL.nil (K.seq (T.seq ?_)); refine T.weaken (hs' := [.sl y34.1 64 2 y34.2.length (y34.2.flatMap Dx.cells), .bag (y34.2.map dE), sRow g1 gl tp 3 false, sLeft gl 3 l0, Ent.fz w0]) Sub.refl (by repeat first | exact S0 | exact S1 | refine S2 ?_ | refine S3 ?_) ?_; refine T.region ?_; refine TL.y (Yv.build rfl rfl) ?_; refine TL.y (Yv.build rfl rfl) ?_; refine TL.y (Yv.build rfl rfl) ?_; (refine TL.ew (Wt.none rfl) rfl rfl (Ew.buildSlice rfl rfl rfl (by decide)) ?_; rintro _ _ ⟨g41, rfl, rfl⟩); refine TL.run 1 rfl ?_; refine TL.nil (K.seq (T.seq (T.seq (T.region ?_)))); refine TL.run 3 rfl ?_; refine TL.yv (Wt.some rfl rfl rfl rfl) rfl rfl (Yv.pur rfl) ?_; refine TL.run 2 rfl ?_; refine TL.yv (Wt.some rfl rfl rfl rfl) rfl rfl (Yv.pur rfl) ?_; refine TL.yv (Wt.some rfl rfl rfl rfl) rfl rfl (Yv.lenE 1 rfl rfl rfl) ?_; refine TL.yv (Wt.some rfl rfl rfl rfl) rfl rfl (Yv.pur rfl) ?_; refine TL.run 2 rfl ?_; refine TL.yv (Wt.some rfl rfl rfl (by rw [hlen34]; rfl)) rfl rfl (Yv.pur rfl) ?_; (refine TL.ew (Wt.some rfl rfl rfl (by rw [hlen34]; rfl)) rfl rfl (Ew.callH rfl rfl rfl (fun w hw => dfixed_ret y34.2 _ w (DomsAt.own hw 1 2 rfl rfl) (by omega))) ?_; rintro v54 _ ⟨_, -, rfl, rfl⟩); dsimp only [List.cons_append, List.nil_append]; rw [show dfix y34.2 y34.2.length = want from by rw [dfix_pl, hd1]; decide]; refine TL.yv (Wt.some rfl rfl rfl (by rw [hlen34]; rfl)) rfl rfl (Yv.pur rfl) ?_; (refine TL.ew (Wt.some rfl rfl rfl (by rw [hlen34]; rfl)) rfl rfl (Ew.callD rfl rfl rfl (fun w hw => sameList_ret want want _ _ w (SlOf.ownAt (enc := Ch.cells) (fun _ => rfl) hw 0 rfl rfl) (SlOf.lit (enc := Ch.cells) (size := 2) (fun _ => rfl) want (Ent.row_ok.1 (hw.get (i := 1) rfl)) rfl rfl) (by decide))) ?_; rintro _ _ ⟨rfl, rfl⟩); rw [show decide (want = want) = true from decide_eq_true rfl]; refine TL.yv (Wt.some rfl rfl rfl (by rw [hlen34]; rfl)) rfl rfl (Yv.pur rfl) ?_; refine TL.y (Yv.pickF rfl rfl (by rw [hlen34]; rfl) rfl) ?_; refine TL.nil (K.seq ?_); refine T.condF rfl rfl ?_; refine T.skip (K.seq (T.seq ?_)); refine T.weaken (hs' := [.row g41 40 (want.flatMap Ch.cells), sRow g1 gl tp 3 false, sLeft gl 3 l0, Ent.fz w0]) Sub.refl (by repeat first | exact S0 | exact S1 | refine S2 ?_ | refine S3 ?_) ?_; refine T.region ?_; (refine TL.ew (Wt.none rfl) rfl rfl (Ew.callH rfl rfl rfl (fun w hw => sample_ret _)) ?_; rintro _ _ ⟨s4, -, rfl, rfl⟩); refine TL.y (Yv.build rfl rfl) ?_; (refine TL.ew (Wt.none rfl) rfl rfl (Ew.buildSlice rfl rfl rfl (by decide)) ?_; rintro _ _ ⟨g62, rfl, rfl⟩); (refine TL.ew (Wt.none rfl) rfl rfl (Ew.callD rfl rfl rfl (fun w hw => run_conf s4.pb _ _ _ _ ⟨3, 15⟩ _ w (s4.prob (by exact hw.sub (List.sublist_cons_self _ _))) (SlOf.lit (enc := Ch.cells) (size := 2) (fun _ => rfl) [⟨3, 15⟩] (Ent.row_ok.1 (hw.get (i := 0) rfl)) rfl rfl) (htab.keptF hw) (sm_ok _ _ _) (by decide) (fun Z hZ => by rw [sm_check hZ]; decide +kernel) (fun Z K d hZ hI => (sm_new hZ hI).2) (fun Z K d hZ hI => by rw [show s4.pb.left = (smp _ _ _).left from rfl, sm_asm3 hZ] at hI; exact sm_three hZ hI))) ?_; rintro _ _ ⟨rfl, rfl⟩); refine TL.run 7 rfl ?_; refine TL.nil (K.seq (T.seq ?_)); refine T.weaken (hs' := [.row g41 40 (want.flatMap Ch.cells), sRow g1 gl tp 3 false, sLeft gl 3 l0, Ent.fz w0]) Sub.refl (by repeat first | exact S0 | exact S1 | refine S2 ?_ | refine S3 ?_) ?_; refine T.permH (List.perm_append_comm (l₁ := [Ent.row g41 40 (want.flatMap Ch.cells)])) ?_; dsimp only [List.cons_append, List.nil_append]; refine T.region ?_; refine TL.run 3 rfl ?_; refine TL.yv (Wt.some rfl rfl rfl rfl) rfl rfl (Yv.pur rfl) ?_; refine TL.run 2 rfl ?_; refine TL.yv (Wt.some rfl rfl rfl rfl) rfl rfl (Yv.pur rfl) ?_; refine TL.yv (Wt.some rfl rfl rfl rfl) rfl rfl (Yv.lenSl rfl rfl) ?_; refine TL.yv (Wt.some rfl rfl rfl rfl) rfl rfl (Yv.pur rfl) ?_; refine TL.run 2 rfl ?_; refine TL.yv (Wt.some rfl rfl rfl rfl) rfl rfl (Yv.pur rfl) ?_; refine TL.yv (Wt.some rfl rfl rfl rfl) rfl rfl (Yv.build rfl rfl) ?_; rw [← hYn]; (refine TL.ew (Wt.some rfl rfl rfl rfl) rfl rfl (Ew.callL [sRow g1 gl tp Y.n false, sLeft gl Y.n l0] [Ent.fz w0, Ent.row g41 40 (want.flatMap Ch.cells)] rfl rfl rfl (List.Perm.refl _) (fun w hw hw2 => forbid_ok w0 g1 gl tp Y l0 w hT hYok (Ent.fz_ok.1 (hw2.own (Ent.fz w0) (by simp))) (htab.keptF hw) hw2.part (fun g hg hc => hw2.sep (f := Ent.fz w0) (by simp) g hg (Ent.fz_fp.2 hc)) (hw2.no0 htab) (by rw [hYn]; rfl) (sm_closed hTb rfl closed0).calm hTb.ixn ⟨1, 15⟩ (by rw [sm_check hTb]; decide +kernel))) ?_; rintro _ _ ⟨y80, hpost, rfl, rfl⟩); dsimp only [List.cons_append, List.nil_append]; rw [hYn]; have hI80 := hI0.cut hYok (by rw [sm_check hTb, hYn]; decide +kernel) (Is.of hYok (by unfold cutL; rw [List.length_set, hYn]; rfl) hpost); obtain ⟨L8, c8⟩ := y80; dsimp only at hI80 ⊢; (have hI81 : Is Y t1 L8 c8 := by rw [← sm_fbd1 hTb]; exact hI80); obtain ⟨rfl, rfl⟩ := sm_one hTb hI81; refine TL.yv (Wt.some rfl rfl rfl rfl) rfl rfl (Yv.pur rfl) ?_; refine TL.run 2 rfl ?_; refine TL.yv (Wt.some rfl rfl rfl rfl) rfl rfl (Yv.pur rfl) ?_; (refine TL.ew (Wt.some rfl rfl rfl rfl) rfl rfl (Ew.callH rfl rfl rfl (fun w hw => fixed_ret g1 Y k1 w (StF.of (Y := Y) hw hT (Ent.fz_ok.1 (hw.own (Ent.fz w0) (by simp))) (htab.keptF hw) 0 1 (by rw [hYn]; rfl) (by rw [hYn]; rfl) (by rw [hYn]; rfl)).st hYok)) ?_; rintro v85 _ ⟨_, -, rfl, rfl⟩); dsimp only [List.cons_append, List.nil_append]; rw [sm_fix1 hTb]; refine TL.yv (Wt.some rfl rfl rfl rfl) rfl rfl (Yv.pur rfl) ?_; (refine TL.ew (Wt.some rfl rfl rfl rfl) rfl rfl (Ew.callD rfl rfl rfl (fun w hw => sameList_ret want want _ _ w (SlOf.ownAt (enc := Ch.cells) (fun _ => rfl) hw 0 rfl rfl) (SlOf.lit (enc := Ch.cells) (size := 2) (fun _ => rfl) want (Ent.row_ok.1 (hw.get (i := 4) rfl)) rfl rfl) (by decide))) ?_; rintro _ _ ⟨rfl, rfl⟩); rw [show decide (want = want) = true from decide_eq_true rfl]; refine TL.run 2 rfl ?_; refine TL.yv (Wt.some rfl rfl rfl rfl) rfl rfl (Yv.pur rfl) ?_; (refine TL.ew (Wt.some rfl rfl rfl rfl) rfl rfl (Ew.callD rfl rfl rfl (fun w hw => removed_ret g1 Y k1 false w (StF.of (Y := Y) hw hT (Ent.fz_ok.1 (hw.own (Ent.fz w0) (by simp))) (htab.keptF hw) 1 2 (by rw [hYn]; rfl) (by rw [hYn]; rfl) (by rw [hYn]; rfl)).st hYok (by rw [sm_total hTb]; decide))) ?_; rintro _ _ ⟨rfl, rfl⟩); rw [sm_rem1 hTb]; refine TL.yv (Wt.some rfl rfl rfl rfl) rfl rfl (Yv.pur rfl) ?_; refine TL.run 2 rfl ?_; refine TL.yv (Wt.some rfl rfl rfl rfl) rfl rfl (Yv.pur rfl) ?_; (refine TL.ew (Wt.some rfl rfl rfl rfl) rfl rfl (Ew.callD rfl rfl rfl (fun w hw => conflict_ret g1 Y k1 false w (StF.of (Y := Y) hw hT (Ent.fz_ok.1 (hw.own (Ent.fz w0) (by simp))) (htab.keptF hw) 1 2 (by rw [hYn]; rfl) (by rw [hYn]; rfl) (by rw [hYn]; rfl)).st)) ?_; rintro _ _ ⟨rfl, rfl⟩); refine TL.yv (Wt.some rfl rfl rfl rfl) rfl rfl (Yv.pur rfl) ?_; refine TL.run 2 rfl ?_; refine TL.nil (K.seq (T.ret ?_)); refine K.ret1 rfl rfl (fun w' hw => ⟨?_, hw.isBelow⟩)
  rfl
end Go.Proofs.YtljgejbmimapdaaDoor
