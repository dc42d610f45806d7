/- Cv Sc Yr Ps M9 Ys Lr Of: shortened and put together by squeeze.py. -/
import Derived.Test.YtljgejbmimapdaaDoorQ10
import Derived.Deep.Slices
import Derived.ChangeArms
set_option maxRecDepth 100000
set_option maxHeartbeats 4000000
set_option linter.unusedVariables false
set_option linter.unusedSectionVars false
set_option linter.unusedSimpArgs false
namespace Go.Proofs.YtljgejbmimapdaaDoor
open Go.RowKit
theorem iterK_allO {ρ : Type} {f : Nat → (Unit → ρ) → Unit → ρ} {k : Unit → ρ} {n : Nat} {z : ρ} (q : Nat → Bool) (hf : ∀ i next, i < n → f i next () = bif q i then next () else z) : iterK f k n 0 () = bif (List.range n).all q then k () else z := by
  have key : ∀ m i, i + m = n → iterK f k m i () = bif (List.range' i m).all q then k () else z := by
    intro m
    induction m with
    | zero => intro i _; rfl
    | succ m ih =>
      intro i e
      show f i (iterK f k m (i + 1)) () = _
      rw [hf i _ (by omega), ih (i + 1) (by omega), List.range'_succ, List.all_cons]
      cases q i <;> rfl
  rw [key n 0 (by omega), List.range_eq_range']
theorem station_x {n : Int} : ref17_station_x n = inB n 0 511 := rfl
theorem span_x {a b : Int} : ref17_span_x a b = rngB a b := by
  unfold ref17_span_x rngB; by_cases h1 : 2 ≤ a <;> by_cases h2 : a ≤ b <;> by_cases h3 : b ≤ 51 <;> simp [h1, h2, h3]
theorem less_x {a b : List Int} (h : a.length = b.length) : ref17_Less_x a b = some (lessL a b) := by
  unfold ref17_Less_x; simp only [joinK, Nat.sub_zero]
  have key : ∀ m i, i + m = a.length → iterK (fun (i : Nat) (next : Unit → Option Bool) (_ : Unit) => grd (0 ≤ (i : Int) ∧ (i : Int) < (b.length : Int)) (bif decide (¬ nth a i = nth b i) then some (decide (nth a i < nth b i)) else next ())) (fun _ => some false) m i () = some (lessL (a.drop i) (b.drop i)) := by
    intro m
    induction m with
    | zero => intro i e; rw [List.drop_eq_nil_of_le (show a.length ≤ i by omega)]; rfl
    | succ m ih =>
      intro i e; have h2 := ih (i + 1) (by omega)
      show grd _ _ = _
      rw [grd_pos ⟨by omega, by omega⟩, lessL_drop (by omega) (by omega)]; by_cases e2 : nth a i = nth b i
      · rw [if_pos e2, decide_eq_false (fun hn => hn e2), cond_false]; exact h2
      · rw [if_neg e2, decide_eq_true e2, cond_true]
  exact key a.length 0 (by omega)
def hasS (p : GProblem) (s : Int) : Bool := p.Domains.any fun d => decide (d.Station = s)
theorem find_x {p : GProblem} {s : Int} : ref17_Find_x p s < 0 ↔ hasS p s = false := by
  unfold ref17_Find_x hasS; simp only [joinK, Nat.sub_zero]
  have key : ∀ m i, i + m = p.Domains.length → (iterK (fun (i : Nat) (next : Unit → Int) (_ : Unit) => bif decide ((nth p.Domains i).Station = s) then (i : Int) else next ()) (fun _ => (-1)) m i () < 0 ↔ ((p.Domains.drop i).any fun d => decide (d.Station = s)) = false) := by
    intro m
    induction m with
    | zero => intro i e; rw [List.drop_eq_nil_of_le (show p.Domains.length ≤ i by omega)]; exact ⟨fun _ => rfl, fun _ => by show (-1 : Int) < 0; omega⟩
    | succ m ih =>
      intro i e; have h2 := ih (i + 1) (by omega); rw [List.drop_eq_getElem_cons (show i < p.Domains.length by omega), List.any_cons, ← nth_eq (show i < p.Domains.length by omega)]
      show (bif decide ((nth p.Domains i).Station = s) then (i : Int) else _) < 0 ↔ _
      cases decide ((nth p.Domains i).Station = s) with
      | true => simp
      | false => rw [cond_false, Bool.false_or]; exact h2
  have := key p.Domains.length 0 (by omega)
  rwa [List.drop_zero] at this
theorem toNat_pred (i : Nat) : ((i : Int) - 1).toNat = i - 1 := by omega
theorem vrulesP {p : GProblem} {i : Nat} {next : Unit → Option Bool} (hi : i < p.Rules.Pairs.length) :
    (bif !(ref17_station_x ((nth p.Rules.Pairs i).A)) then (bif true then some false else next ()) else
      (bif !(ref17_station_x ((nth p.Rules.Pairs i).B)) then (bif true then some false else next ()) else
      (bif decide ((nth p.Rules.Pairs i).B ≤ (nth p.Rules.Pairs i).A) then (bif true then some false else next ()) else
      (bif decide ((nth p.Rules.Pairs i).Offset < (-1)) then (bif true then some false else next ()) else
      (bif decide (1 < (nth p.Rules.Pairs i).Offset) then (bif true then some false else next ()) else
      (bif !(ref17_span_x ((nth p.Rules.Pairs i).Low) ((nth p.Rules.Pairs i).High)) then (bif true then some false else next ()) else
      (bif decide (0 < (i : Int)) then (ref17_Less_x (ref17_PairOf_x (nth p.Rules.Pairs (((i : Int) - 1).toNat))) (ref17_PairOf_x (nth p.Rules.Pairs i))).bind fun r => (bif !r then some false else next ()) else (bif false then some false else next ())))))))) = bif refPr (pbG p).ps i then next () else some false := by
  have e1 : nth (pbG p).ps i = (nth p.Rules.Pairs i).b := nth_mapF hi; have e2 : nth (pbG p).ps (i - 1) = (nth p.Rules.Pairs (i - 1)).b := nth_mapF (by omega); rw [toNat_pred, less_x (by rfl), Option.bind_some]; simp only [station_x, span_x]
  have hr : refPr (pbG p).ps i = (inB (nth p.Rules.Pairs i).A 0 511 && (inB (nth p.Rules.Pairs i).B 0 511 && (!decide ((nth p.Rules.Pairs i).B ≤ (nth p.Rules.Pairs i).A) && (!decide ((nth p.Rules.Pairs i).Offset < (-1)) && (!decide (1 < (nth p.Rules.Pairs i).Offset) && (rngB (nth p.Rules.Pairs i).Low (nth p.Rules.Pairs i).High && (!decide (0 < (i : Int)) || lessL (ref17_PairOf_x (nth p.Rules.Pairs (i - 1))) (ref17_PairOf_x (nth p.Rules.Pairs i))))))))) := by
    unfold refPr; rw [e1, e2, Bool.eq_iff_iff, decide_eq_true_eq]; simp only [Bool.and_eq_true, Bool.or_eq_true, Bool.not_eq_true', decide_eq_false_iff_not, GPair.b, ref17_PairOf_x]; constructor
    · rintro ⟨⟨h1, h2, h3, h4, h5, h6⟩, h9⟩; refine ⟨h1, h2, by omega, by omega, by omega, h6, ?_⟩; rcases Nat.eq_zero_or_pos i with h | h
      · exact .inl (by omega)
      · exact .inr (h9 h)
    · rintro ⟨h1, h2, h3, h4, h5, h6, h9⟩; refine ⟨⟨h1, h2, by omega, by omega, by omega, h6⟩, fun h => ?_⟩; rcases h9 with h9 | h9
      · omega
      · exact h9
  rw [hr]
  cases inB (nth p.Rules.Pairs i).A 0 511
  · rfl
  cases inB (nth p.Rules.Pairs i).B 0 511
  · rfl
  cases decide ((nth p.Rules.Pairs i).B ≤ (nth p.Rules.Pairs i).A)
  rotate_left
  · rfl
  cases decide ((nth p.Rules.Pairs i).Offset < (-1))
  rotate_left
  · rfl
  cases decide (1 < (nth p.Rules.Pairs i).Offset)
  rotate_left
  · rfl
  cases rngB (nth p.Rules.Pairs i).Low (nth p.Rules.Pairs i).High
  · rfl
  cases decide (0 < (i : Int))
  · rfl
  cases lessL (ref17_PairOf_x (nth p.Rules.Pairs (i - 1))) (ref17_PairOf_x (nth p.Rules.Pairs i)) <;> rfl
theorem vrulesL {p : GProblem} {i : Nat} {next : Unit → Option Bool} (hi : i < p.Rules.Loads.length) :
    (bif !(ref17_station_x ((nth p.Rules.Loads i).To)) then (bif true then some false else next ()) else
      (bif !(ref17_station_x ((nth p.Rules.Loads i).From)) then (bif true then some false else next ()) else
      (bif decide ((nth p.Rules.Loads i).To = (nth p.Rules.Loads i).From) then (bif true then some false else next ()) else
      (bif decide ((nth p.Rules.Loads i).Weight < 1) then (bif true then some false else next ()) else
      (bif decide (1073741824 < (nth p.Rules.Loads i).Weight) then (bif true then some false else next ()) else
      (bif !(ref17_span_x ((nth p.Rules.Loads i).Low) ((nth p.Rules.Loads i).High)) then (bif true then some false else next ()) else
      (bif decide (0 < (i : Int)) then (ref17_Less_x (ref17_LoadOf_x (nth p.Rules.Loads (((i : Int) - 1).toNat))) (ref17_LoadOf_x (nth p.Rules.Loads i))).bind fun r => (bif !r then some false else next ()) else (bif false then some false else next ())))))))) = bif refLd (pbG p).ls i then next () else some false := by
  have e1 : nth (pbG p).ls i = (nth p.Rules.Loads i).b := nth_mapF hi; have e2 : nth (pbG p).ls (i - 1) = (nth p.Rules.Loads (i - 1)).b := nth_mapF (by omega); rw [toNat_pred, less_x (by rfl), Option.bind_some]; simp only [station_x, span_x]
  have hr : refLd (pbG p).ls i = (inB (nth p.Rules.Loads i).To 0 511 && (inB (nth p.Rules.Loads i).From 0 511 && (!decide ((nth p.Rules.Loads i).To = (nth p.Rules.Loads i).From) && (!decide ((nth p.Rules.Loads i).Weight < 1) && (!decide (1073741824 < (nth p.Rules.Loads i).Weight) && (rngB (nth p.Rules.Loads i).Low (nth p.Rules.Loads i).High && (!decide (0 < (i : Int)) || lessL (ref17_LoadOf_x (nth p.Rules.Loads (i - 1))) (ref17_LoadOf_x (nth p.Rules.Loads i))))))))) := by
    unfold refLd; rw [e1, e2, Bool.eq_iff_iff, decide_eq_true_eq]; simp only [Bool.and_eq_true, Bool.or_eq_true, Bool.not_eq_true', decide_eq_false_iff_not, GLoad.b, ref17_LoadOf_x]; constructor
    · rintro ⟨⟨h1, h2, h3, h4, h5, h6⟩, h9⟩; refine ⟨h1, h2, by omega, by omega, by omega, h6, ?_⟩; rcases Nat.eq_zero_or_pos i with h | h
      · exact .inl (by omega)
      · exact .inr (h9 h)
    · rintro ⟨h1, h2, h3, h4, h5, h6, h9⟩; refine ⟨⟨h1, h2, by omega, by omega, by omega, h6⟩, fun h => ?_⟩; rcases h9 with h9 | h9
      · omega
      · exact h9
  rw [hr]
  cases inB (nth p.Rules.Loads i).To 0 511
  · rfl
  cases inB (nth p.Rules.Loads i).From 0 511
  · rfl
  cases decide ((nth p.Rules.Loads i).To = (nth p.Rules.Loads i).From)
  rotate_left
  · rfl
  cases decide ((nth p.Rules.Loads i).Weight < 1)
  rotate_left
  · rfl
  cases decide (1073741824 < (nth p.Rules.Loads i).Weight)
  rotate_left
  · rfl
  cases rngB (nth p.Rules.Loads i).Low (nth p.Rules.Loads i).High
  · rfl
  cases decide (0 < (i : Int))
  · rfl
  cases lessL (ref17_LoadOf_x (nth p.Rules.Loads (i - 1))) (ref17_LoadOf_x (nth p.Rules.Loads i)) <;> rfl
theorem vrulesC {p : GProblem} {i : Nat} {next : Unit → Option Bool} (hi : i < p.Rules.Caps.length) :
    (bif !(ref17_station_x ((nth p.Rules.Caps i).Station)) then (bif true then some false else next ()) else
      (bif decide ((nth p.Rules.Caps i).Max < 0) then (bif true then some false else next ()) else
      (bif decide (1099511627776 < (nth p.Rules.Caps i).Max) then (bif true then some false else next ()) else
      (bif !(ref17_span_x ((nth p.Rules.Caps i).Low) ((nth p.Rules.Caps i).High)) then (bif true then some false else next ()) else
      (bif decide (0 < (i : Int)) then (ref17_Less_x (ref17_CapOf_x (nth p.Rules.Caps (((i : Int) - 1).toNat))) (ref17_CapOf_x (nth p.Rules.Caps i))).bind fun r => (bif !r then some false else next ()) else (bif false then some false else next ())))))) = bif refCp (pbG p).cs i then next () else some false := by
  have e1 : nth (pbG p).cs i = (nth p.Rules.Caps i).b := nth_mapF hi; have e2 : nth (pbG p).cs (i - 1) = (nth p.Rules.Caps (i - 1)).b := nth_mapF (by omega); rw [toNat_pred, less_x (by rfl), Option.bind_some]; simp only [station_x, span_x]
  have hr : refCp (pbG p).cs i = (inB (nth p.Rules.Caps i).Station 0 511 && (!decide ((nth p.Rules.Caps i).Max < 0) && (!decide (1099511627776 < (nth p.Rules.Caps i).Max) && (rngB (nth p.Rules.Caps i).Low (nth p.Rules.Caps i).High && (!decide (0 < (i : Int)) || lessL (ref17_CapOf_x (nth p.Rules.Caps (i - 1))) (ref17_CapOf_x (nth p.Rules.Caps i))))))) := by
    unfold refCp; rw [e1, e2, Bool.eq_iff_iff, decide_eq_true_eq]; simp only [Bool.and_eq_true, Bool.or_eq_true, Bool.not_eq_true', decide_eq_false_iff_not, GCap.b, ref17_CapOf_x]; constructor
    · rintro ⟨⟨h1, h2, h3, h4⟩, h9⟩; refine ⟨h1, by omega, by omega, h4, ?_⟩; rcases Nat.eq_zero_or_pos i with h | h
      · exact .inl (by omega)
      · exact .inr (h9 h)
    · rintro ⟨h1, h2, h3, h4, h9⟩; refine ⟨⟨h1, by omega, by omega, h4⟩, fun h => ?_⟩; rcases h9 with h9 | h9
      · omega
      · exact h9
  rw [hr]
  cases inB (nth p.Rules.Caps i).Station 0 511
  · rfl
  cases decide ((nth p.Rules.Caps i).Max < 0)
  rotate_left
  · rfl
  cases decide (1099511627776 < (nth p.Rules.Caps i).Max)
  rotate_left
  · rfl
  cases rngB (nth p.Rules.Caps i).Low (nth p.Rules.Caps i).High
  · rfl
  cases decide (0 < (i : Int))
  · rfl
  cases lessL (ref17_CapOf_x (nth p.Rules.Caps (i - 1))) (ref17_CapOf_x (nth p.Rules.Caps i)) <;> rfl
theorem validRules_x {p : GProblem} : ref17_ValidRules_x p.Rules = some (rulesR (pbG p)) := by
  unfold ref17_ValidRules_x; simp only [joinK, Nat.sub_zero]; rw [iterK_allO (n := p.Rules.Pairs.length) (z := some false) (refPr (pbG p).ps) (fun i next hi => vrulesP hi), iterK_allO (n := p.Rules.Loads.length) (z := some false) (refLd (pbG p).ls) (fun i next hi => vrulesL hi), iterK_allO (n := p.Rules.Caps.length) (z := some false) (refCp (pbG p).cs) (fun i next hi => vrulesC hi)]; have l1 : (pbG p).ps.length = p.Rules.Pairs.length := List.length_map _; have l2 : (pbG p).ls.length = p.Rules.Loads.length := List.length_map _; have l3 : (pbG p).cs.length = p.Rules.Caps.length := List.length_map _; unfold rulesR; rw [l1, l2, l3]; by_cases h : p.Rules.Pairs.length ≤ 4096 ∧ p.Rules.Loads.length ≤ 1024 ∧ p.Rules.Caps.length ≤ 1024
  · rw [decide_eq_true h, decide_eq_false (by omega), decide_eq_false (by omega), decide_eq_false (by omega)]
    cases (List.range p.Rules.Pairs.length).all (refPr (pbG p).ps)
    · rfl
    cases (List.range p.Rules.Loads.length).all (refLd (pbG p).ls)
    · rfl
    cases (List.range p.Rules.Caps.length).all (refCp (pbG p).cs) <;> rfl
  · rw [decide_eq_false h]; by_cases h1 : (4096 : Int) < p.Rules.Pairs.length
    · rw [decide_eq_true h1]; rfl
    · by_cases h2 : (1024 : Int) < p.Rules.Loads.length
      · rw [decide_eq_true h2, Bool.or_true]; rfl
      · rw [decide_eq_true (show (1024 : Int) < p.Rules.Caps.length by omega), Bool.or_true]; rfl
theorem find_er {p : GProblem} {s : Int} : ref17_Find_x p s < 0 ↔ ¬ 0 ≤ findD (pbG p).ds s := by
  rw [find_x, findD_iff]; unfold hasS; rw [List.any_eq_false]; have l : (pbG p).ds.length = p.Domains.length := List.length_map _; constructor
  · rintro h ⟨i, hi, e⟩; rw [l] at hi; have e1 : nth (pbG p).ds i = (nth p.Domains i).b := nth_mapF hi; rw [e1] at e; exact h _ (nth_memG hi) (decide_eq_true e)
  · intro h x hx hd; obtain ⟨i, hi, rfl⟩ := mem_nth hx; refine h ⟨i, by rw [l]; exact hi, ?_⟩; have e1 : nth (pbG p).ds i = (nth p.Domains i).b := nth_mapF hi; rw [e1]; exact of_decide_eq_true hd
theorem valid_x {p : GProblem} : ref17_Valid_x p = some (okG p) := by
  have l0 : (pbG p).ds.length = p.Domains.length := List.length_map _; have l1 : (pbG p).ps.length = p.Rules.Pairs.length := List.length_map _; have l2 : (pbG p).ls.length = p.Rules.Loads.length := List.length_map _; have l3 : (pbG p).cs.length = p.Rules.Caps.length := List.length_map _; have n0 : ∀ k, k < p.Domains.length → nth (pbG p).ds k = (nth p.Domains k).b := fun k hk => nth_mapF hk; have n1 : ∀ k, k < p.Rules.Pairs.length → nth (pbG p).ps k = (nth p.Rules.Pairs k).b := fun k hk => nth_mapF hk; have n2 : ∀ k, k < p.Rules.Loads.length → nth (pbG p).ls k = (nth p.Rules.Loads k).b := fun k hk => nth_mapF hk; have n3 : ∀ k, k < p.Rules.Caps.length → nth (pbG p).cs k = (nth p.Rules.Caps k).b := fun k hk => nth_mapF hk; unfold ref17_Valid_x okG; rw [← validR_eq]; simp only [joinK, Nat.sub_zero, validRules_x, Option.bind_some]; rw [iterK_allO (n := p.Domains.length) (z := some false) (refDo (pbG p).ds) (fun i next hi => ?_), iterK_allO (n := p.Rules.Pairs.length) (z := some false) (refFp (pbG p)) (fun i next hi => ?_), iterK_allO (n := p.Rules.Loads.length) (z := some false) (refFl (pbG p)) (fun i next hi => ?_), iterK_allO (n := p.Rules.Caps.length) (z := some false) (refFc (pbG p)) (fun i next hi => ?_)]
  · unfold validR; rw [l0, l1, l2, l3]; by_cases h : p.Domains.length ≤ 512
    · rw [decide_eq_true h, decide_eq_false (by omega)]
      cases rulesR (pbG p)
      · rfl
      cases (List.range p.Domains.length).all (refDo (pbG p).ds)
      · rfl
      cases (List.range p.Rules.Pairs.length).all (refFp (pbG p))
      · rfl
      cases (List.range p.Rules.Loads.length).all (refFl (pbG p))
      · rfl
      cases (List.range p.Rules.Caps.length).all (refFc (pbG p)) <;> rfl
    · rw [decide_eq_false h, decide_eq_true (by omega)]; rfl
  · have hr : refFc (pbG p) i = !decide (ref17_Find_x p (nth p.Rules.Caps i).Station < 0) := by
      unfold refFc; rw [n3 i hi, Bool.eq_iff_iff, decide_eq_true_eq]; simp only [Bool.not_eq_true', decide_eq_false_iff_not, find_er, Decidable.not_not, GCap.b]
    rw [hr]
    cases decide (ref17_Find_x p (nth p.Rules.Caps i).Station < 0) <;> rfl
  · have hr : refFl (pbG p) i = (!decide (ref17_Find_x p (nth p.Rules.Loads i).To < 0) && !decide (ref17_Find_x p (nth p.Rules.Loads i).From < 0)) := by
      unfold refFl; rw [n2 i hi, Bool.eq_iff_iff, decide_eq_true_eq]; simp only [Bool.and_eq_true, Bool.not_eq_true', decide_eq_false_iff_not, find_er, Decidable.not_not, GLoad.b]
    rw [hr]
    cases decide (ref17_Find_x p (nth p.Rules.Loads i).To < 0) <;> cases decide (ref17_Find_x p (nth p.Rules.Loads i).From < 0) <;> rfl
  · have hr : refFp (pbG p) i = (!decide (ref17_Find_x p (nth p.Rules.Pairs i).A < 0) && !decide (ref17_Find_x p (nth p.Rules.Pairs i).B < 0)) := by
      unfold refFp; rw [n1 i hi, Bool.eq_iff_iff, decide_eq_true_eq]; simp only [Bool.and_eq_true, Bool.not_eq_true', decide_eq_false_iff_not, find_er, Decidable.not_not, GPair.b]
    rw [hr]
    cases decide (ref17_Find_x p (nth p.Rules.Pairs i).A < 0) <;> cases decide (ref17_Find_x p (nth p.Rules.Pairs i).B < 0) <;> rfl
  · rw [iterK_allO (n := (nth p.Domains i).Channels.length) (z := some false) (refCh (nth p.Domains i).Channels) (fun k nx hk => ?_)]
    · have hr : refDo (pbG p).ds i = (inB (nth p.Domains i).Station 0 511 && (!(decide (0 < (i : Int)) && decide ((nth p.Domains i).Station ≤ (nth p.Domains (i - 1)).Station)) && (!decide (50 < ((nth p.Domains i).Channels.length : Int)) && (List.range (nth p.Domains i).Channels.length).all (refCh (nth p.Domains i).Channels)))) := by
        unfold refDo; rw [n0 i hi, n0 (i - 1) (by omega), Bool.eq_iff_iff, decide_eq_true_eq]; simp only [Bool.and_eq_true, Bool.not_eq_true', Bool.and_eq_false_iff, decide_eq_false_iff_not, GDomain.b]; constructor
        · rintro ⟨⟨h1, h2, h3⟩, h4⟩; exact ⟨h1, by rcases Nat.eq_zero_or_pos i with h | h; exact .inl (by omega); exact .inr (by have := h2 h; omega), by omega, h4⟩
        · rintro ⟨h1, h2, h3, h4⟩; exact ⟨⟨h1, fun h => by omega, by omega⟩, h4⟩
      rw [hr, toNat_pred, station_x]
      cases inB (nth p.Domains i).Station 0 511
      · rfl
      cases (decide (0 < (i : Int)) && decide ((nth p.Domains i).Station ≤ (nth p.Domains (i - 1)).Station))
      rotate_left
      · rfl
      cases decide (50 < ((nth p.Domains i).Channels.length : Int))
      rotate_left
      · rfl
      rfl
    · have hr : refCh (nth p.Domains i).Channels k = (!decide (nth (nth p.Domains i).Channels k < 2) && (!decide (51 < nth (nth p.Domains i).Channels k) && !(decide (0 < (k : Int)) && decide (nth (nth p.Domains i).Channels k ≤ nth (nth p.Domains i).Channels (k - 1))))) := by
        unfold refCh; rw [Bool.eq_iff_iff, decide_eq_true_eq]; simp only [Bool.and_eq_true, Bool.not_eq_true', Bool.and_eq_false_iff, decide_eq_false_iff_not]; omega
      rw [hr, toNat_pred]
      cases decide (nth (nth p.Domains i).Channels k < 2)
      rotate_left
      · rfl
      cases decide (51 < nth (nth p.Domains i).Channels k)
      rotate_left
      · rfl
      cases (decide (0 < (k : Int)) && decide (nth (nth p.Domains i).Channels k ≤ nth (nth p.Domains i).Channels (k - 1))) <;> rfl
end Go.Proofs.YtljgejbmimapdaaDoor
namespace Go.Proofs.YtljgejbmimapdaaDoor
open Go.RowKit
def hasSt (p : GProblem) (s : Int) : Bool := p.Domains.any fun d => decide (d.Station = s)
def goodC (c : GChoice) : Bool := decide (0 ≤ c.Station ∧ c.Station < 512 ∧ 2 ≤ c.Channel ∧ c.Channel ≤ 51)
/-- What Assume (keep) or Forbid makes of a model, and the error. -/
def stAct (fuel : Nat) (p : GProblem) (m : List GDomain × Bool) (keep : Bool) (c : GChoice) : Option ((List GDomain × Bool) × Int) :=
  bif !goodC c then some (m, 2) else
  bif !m.2 then some (m, 8) else
  bif !hasSt p c.Station then some (m, 9) else
  (bif keep then ref18_Keep_x m.1 c.Station c.Channel else ref18_Drop_x m.1 c.Station c.Channel).bind fun d => (ref18_Propagate_x fuel p d).bind fun r => some (r, 0)
section
variable {p : GProblem} {m : List GDomain × Bool} {k : SK} {L : Ws} {w : World} {F0 : Frz}
theorem SI.stF (h : SI p m k L) {b : Bool} (hok : (stE k L b).ok w) (htab : Tab w) : StF k.w0 w k.sp k.gl k.tp k.Y L b := by
  obtain ⟨h1, h2⟩ := Ent.bag_ok.1 hok; exact StF.of (Hp.startL h1 h2) h.tb (Ent.fz_ok.1 (h1 _ (by simp))) htab 0 1 rfl rfl h.len
theorem st_conflict (h : SI p m k L) (hok : (stE k L (!m.2)).ok w) (htab : Tab w) : Calls Tryd.prog 19 #[.pointer (some ⟨k.sp, 0, none⟩)] w fun e w' => e = .returned (.bool (!m.2)) ∧ Below w.heap.size w w' :=
  conflict_ret k.sp k.Y L (!m.2) w (h.stF hok htab).st
theorem SI.ok (h : SI p m k L) : k.Y.Ok := by obtain ⟨P, _, hok, hY⟩ := h.pb; exact hY.ok (Pb.good hok)
theorem er_pl {xs : List Dx} {Y : Tb} {L : Ws} (h : xs.map Dx.pl = domsF Y L Y.n) : xs.map Dx.er = gd Y L := by
  (have e : xs.map Dx.er = (xs.map Dx.pl).map fun q => (⟨q.1, q.2⟩ : GDomain) := by rw [List.map_map]; rfl); rw [e, h]; unfold domsF gd; rw [List.map_map]; rfl
theorem st_domains (hF0 : F0.At w) (h : SI p m k L) (hok : (stE k L (!m.2)).ok w) (htab : Tab w) : Calls Tryd.prog 20 #[.pointer (some ⟨k.sp, 0, none⟩)] w fun e w' => ∃ (y : Value × List (List Value)) (G : Frz), SlD GDomain.rep G y.1 2 y.2 m.1 ∧ e = .returned y.1 ∧ Fx F0 w G w' := by
  have hs := (h.stF hok htab).st
  cases hm : m.2 with
  | false =>
    rw [hm] at hs; refine (domains_bad k.sp k.Y L w hs).mono ?_; rintro e w' ⟨rfl, hb⟩; exact ⟨(.slice none 0 0, []), F0, by rw [h.bad hm]; exact SlD.nil _ _ 2, rfl, Fx.refl hF0 hb⟩
  | true =>
    rw [hm] at hs; refine (domains_ok k.sp k.Y L w hs h.ok).mono ?_; rintro e w' ⟨⟨v, xs⟩, hp, rfl, hw⟩; obtain ⟨G, h1, cs, h2⟩ := doms_frz hF0 hw; refine ⟨(v, cs), G, ?_, rfl, h1⟩; rw [(h.good hm).2.2, ← er_pl hp]; exact h2
theorem ixAt_no {ds : List Dx} {j : Nat} : ∀ k, (∀ i, i < k → (nth ds i).st.toNat ≠ j) → ixAt ds k j = 0
  | 0, _ => rfl
  | k + 1, h => by
    unfold ixAt; rw [if_neg (fun e => h k (by omega) e.symm)]; exact ixAt_no k (fun i hi => h i (by omega))
theorem at_yes {P : Pb} {Y : Tb} (hok : P.ok = true) (hY : TbOf P Y) {i : Nat} (hi : i < Y.n) : atF Y (nth Y.st i) = ((i : Int), true) := by
  have hG := Pb.good hok; have h1 := hG.st (nth P.ds i) (nth_memG (by rw [← hY.n]; exact hi)); rw [← hY.nth_st hi] at h1; have h2 := ix_st hG hY hi; unfold Pb.ix at h2; unfold atF; rw [hY.ix, if_neg (by omega)]
  congr 1
theorem at_no {P : Pb} {Y : Tb} (hok : P.ok = true) (hY : TbOf P Y) {s : Int} (h : ∀ i, i < Y.n → nth Y.st i ≠ s) : atF Y s = (0, false) := by
  have hG := Pb.good hok; unfold atF; by_cases hs : s < 0 ∨ 512 ≤ s
  · rw [if_pos (by rcases hs with h1 | h1; exact .inl h1; exact .inr (.inl h1))]
  · have h0 : Y.ix s.toNat = 0 := by
      rw [hY.ix]; refine ixAt_no _ fun i hi e => ?_; (have hi' : i < Y.n := by rw [hY.n]; exact hi); have h1 := hG.st (nth P.ds i) (nth_memG hi); apply h i hi'; rw [hY.nth_st hi']; omega
    rw [if_pos (.inr (.inr h0))]
theorem hasSt_iff {P : Pb} {Y : Tb} (hY : TbOf P Y) {s : Int} : hasSt P.er s = true ↔ ∃ i, i < Y.n ∧ nth Y.st i = s := by
  unfold hasSt; rw [List.any_eq_true]
  show (∃ x ∈ P.ds.map Dx.er, _) ↔ _
  constructor
  · rintro ⟨x, hx, h⟩; obtain ⟨i, hi, rfl⟩ := mem_nth hx; rw [List.length_map] at hi; rw [nth_mapG hi] at h; (have hi' : i < Y.n := by rw [hY.n]; exact hi); exact ⟨i, hi', by rw [hY.nth_st hi']; exact of_decide_eq_true h⟩
  · rintro ⟨i, hi, rfl⟩; (have hi' : i < P.ds.length := by rw [← hY.n]; exact hi); exact ⟨Dx.er (nth P.ds i), List.mem_map.2 ⟨_, nth_memG hi', rfl⟩, decide_eq_true (hY.nth_st hi).symm⟩
theorem gd_cut {Y : Tb} {L : Ws} {i : Nat} {g : BitVec 64} {f : GDomain → GDomain} (hl : L.length = Y.n) (hi : i < Y.n) (h1 : f (nth (gd Y L) i) = ⟨nth Y.st i, (chansN (nth L i &&& ~~~g)).map fun j : Nat => (j : Int)⟩) (h2 : ∀ j, j < Y.n → j ≠ i → f (nth (gd Y L) j) = nth (gd Y L) j) : (gd Y L).map f = gd Y (cutL L i g) := by
  refine ext_nth (by rw [List.length_map, gd_len, gd_len]) fun j hj => ?_; rw [List.length_map, gd_len] at hj; rw [nth_mapG (by rw [gd_len]; exact hj), gd_nth (L := cutL L i g) hj]; unfold cutL; rw [set_nth (by omega)]; by_cases e : j = i
  · subst e; rw [if_pos rfl, h1]
  · rw [if_neg e, h2 j hj e, gd_nth hj]
theorem bit_keep {b : BitVec 64} {c j : Nat} (hc : c < 64) : (b &&& ~~~(~~~(1#64 <<< c))).getLsbD j = (b.getLsbD j && decide (c = j)) := by
  rw [BitVec.not_not, BitVec.getLsbD_and]; by_cases hj : j < 64
  · rw [one_bit hj]
  · rw [BitVec.getLsbD_of_ge b j (by omega)]; simp
theorem bit_drop {b : BitVec 64} {c j : Nat} (hc : c < 64) : (b &&& ~~~(1#64 <<< c)).getLsbD j = (b.getLsbD j && !decide (c = j)) := by
  rw [BitVec.getLsbD_and]; by_cases hj : j < 64
  · rw [BitVec.getLsbD_not, one_bit hj]; simp [hj]
  · rw [BitVec.getLsbD_of_ge b j (by omega)]; simp
theorem chans_keep {b : BitVec 64} {c : Nat} (hc : c < 64) : chansN (b &&& ~~~(~~~(1#64 <<< c))) = if b.getLsbD c then [c] else [] := by
  have h : ∀ j, j ∈ chansN (b &&& ~~~(~~~(1#64 <<< c))) ↔ j ∈ (if b.getLsbD c then [c] else []) := fun j => by
    rw [chansN_mem, bit_keep hc]
    cases hb : b.getLsbD c with
    | false =>
      simp; intro h e; subst e; rw [hb] at h; cases h
    | true =>
      simp; constructor
      · rintro ⟨_, rfl⟩; rfl
      · rintro rfl; exact ⟨hb, rfl⟩
  refine sublist_ext chansN_sub ?_ List.nodup_range' h
  split
  · exact List.singleton_sublist.2 (List.mem_range'_1.2 ⟨by omega, by omega⟩)
  · exact List.nil_sublist _
theorem keep_nth {Y : Tb} {L : Ws} {i c : Nat} (hl : L.length = Y.n) (hi : i < Y.n) (hinj : ∀ j, j < Y.n → nth Y.st j = nth Y.st i → j = i) (hc : c < 64) : (gd Y L).map (keepD (nth Y.st i) c) = gd Y (cutL L i (~~~(1#64 <<< c))) := by
  refine gd_cut hl hi ?_ (fun j hj hne => ?_)
  · rw [gd_nth hi, chans_keep hc]; unfold keepD; dsimp only; rw [decide_eq_true rfl, cond_true]
    congr 1
    have e : ((chansN (nth L i)).map fun j : Nat => (j : Int)).any (fun k => decide (k = (c : Int))) = (nth L i).getLsbD c := by
      rw [Bool.eq_iff_iff, List.any_eq_true]; constructor
      · rintro ⟨q, hq, h⟩; obtain ⟨j, hj, rfl⟩ := mapI_mem.1 hq; have := of_decide_eq_true h; rw [show c = j by omega]; exact chansN_mem.1 hj
      · intro h; exact ⟨c, mapI_mem.2 ⟨c, chansN_mem.2 h, rfl⟩, by simp⟩
    rw [e]
    cases (nth L i).getLsbD c <;> rfl
  · rw [gd_nth hj]; unfold keepD; dsimp only; rw [decide_eq_false (fun e => hne (hinj j hj e)), cond_false]
theorem drop_nth {Y : Tb} {L : Ws} {i c : Nat} (hl : L.length = Y.n) (hi : i < Y.n) (hinj : ∀ j, j < Y.n → nth Y.st j = nth Y.st i → j = i) (hc : c < 64) : (gd Y L).map (dropD (nth Y.st i) c) = gd Y (cutL L i (1#64 <<< c)) := by
  refine gd_cut hl hi ?_ (fun j hj hne => ?_)
  · rw [gd_nth hi]; unfold dropD; dsimp only
    congr 1
    rw [chansN_filter (b := nth L i) (c := nth L i &&& ~~~(1#64 <<< c)) (fun j hj => by rw [bit_drop hc, Bool.and_eq_true] at hj; exact hj.1), List.filter_map]
    congr 1
    apply List.filter_congr; intro j hj; rw [bit_drop hc, chansN_mem.1 hj]; simp only [Function.comp, Bool.true_and, not_true_eq_false, decide_false, Bool.false_or]; by_cases e : c = j
    · subst e; simp
    · (have : ¬ (j : Int) = (c : Int) := by omega); simp [e, this]
  · rw [gd_nth hj]; unfold dropD; dsimp only
    congr 1
    rw [List.filter_eq_self]; intro q _; rw [Bool.or_eq_true]; exact .inl (decide_eq_true (fun e => hne (hinj j hj e)))
theorem SI.two (h : SI p m k L) {b : Bool} (hok : (stE k L b).ok w) (htab : Tab w) : Hp w (fps [sRow k.sp k.gl k.tp k.Y.n b, sLeft k.gl k.Y.n L]) [sRow k.sp k.gl k.tp k.Y.n b, sLeft k.gl k.Y.n L] w ∧ (∀ g, fps [sRow k.sp k.gl k.tp k.Y.n b, sLeft k.gl k.Y.n L] g → ¬ IsC k.w0 g) ∧ ¬ fps [sRow k.sp k.gl k.tp k.Y.n b, sLeft k.gl k.Y.n L] 0 ∧ Fz k.w0 w := by
  obtain ⟨h1, h2⟩ := Ent.bag_ok.1 hok; have h3 : ([sRow k.sp k.gl k.tp k.Y.n b, sLeft k.gl k.Y.n L] ++ [Ent.fz k.w0]).Pairwise fun e f => ∀ g, e.fp g → ¬ f.fp g := h2; obtain ⟨a1, a2, a3⟩ := List.pairwise_append.1 h3; refine ⟨Hp.startL (fun e he => h1 e (by simp at he ⊢; rcases he with h | h <;> simp [h])) a1, fun g ⟨e, he, hg⟩ hc => a3 e he _ (by simp) g hg (Ent.fz_fp.2 hc), ?_, Ent.fz_ok.1 (h1 _ (by simp))⟩; rintro ⟨e, he, hg⟩; have hT := htab 0 (by decide); simp at he; rcases he with rfl | rfl
  · have h4 := Ent.row_fp.1 hg; have h5 := Ent.row_ok.1 (h1 (sRow k.sp k.gl k.tp k.Y.n b) (by simp)); rw [← h4] at h5; rw [row_cell h5] at hT
    cases hT
  · have h4 := Ent.sl_fp.1 hg; have h5 := Ent.sl_ok.1 (h1 (sLeft k.gl k.Y.n L) (by simp)); (have e0 : k.gl = 0 := by simpa [sV, Value.ownBlock] using h4); rcases h5.2 with ⟨h6, _⟩ | ⟨g, cap, cur, h6, hb, hgg, hnc, hcm, hcs, htake⟩
    · simp [sV] at h6
    · simp only [sV, Value.slice.injEq, Option.some.injEq, Addr.mk.injEq, and_true, true_and] at h6; obtain ⟨h7, h8⟩ := h6; subst h8; rcases Nat.eq_zero_or_pos k.Y.n with hz | hz
      · (have : cur.size = 0 := by rw [hcs, hz, Nat.zero_mul]); have hcur : cur = #[] := Array.eq_empty_of_size_eq_zero this; rw [← h7, e0, hcur] at hgg; unfold World.cell? at hT; rw [hgg] at hT; simp at hT
      · have h9 := World.ownsRow.cellAt (by have := h5; unfold sV at this; exact this) 0 (by omega); rw [e0] at h9; rw [hT] at h9
        cases L with
        | nil => have := h.len; simp at this; omega
        | cons x r => simp [Ws.cells] at h9
def stIx (p : GProblem) (s : Int) : Int := match p.Domains.findIdx? (fun d => decide (d.Station = s)) with | some i => (i : Int) | none => 0
theorem st_at (h : SI p m k L) (hok : (stE k L (!m.2)).ok w) (htab : Tab w) (s : Int) : Calls Tryd.prog 36 #[.pointer (some ⟨k.tp, 0, none⟩), .int .i64 s] w fun e w' => e = .returned (.tuple #[.int .i64 (stIx p s), .bool (hasSt p s)]) ∧ Below w.heap.size w w' := by
  obtain ⟨P, rfl, hok', hY⟩ := h.pb; have hG := Pb.good hok'; have hn := hY.n
  have hst : ∀ i, i < P.ds.length → (nth P.er.Domains i).Station = nth k.Y.st i := fun i hi => by
    show (nth (P.ds.map Dx.er) i).Station = _
    rw [nth_mapG hi, hY.nth_st (by omega)]; rfl
  (have hlen : P.er.Domains.length = P.ds.length := by show (P.ds.map Dx.er).length = _; simp)
  have e : atF k.Y s = (stIx P.er s, hasSt P.er s) := by
    cases hh : hasSt P.er s with
    | true =>
      obtain ⟨i, hi, rfl⟩ := (hasSt_iff hY).1 hh; rw [at_yes hok' hY hi]; unfold stIx; rw [show P.er.Domains.findIdx? (fun d => decide (d.Station = nth k.Y.st i)) = some i from ?_]; rw [List.findIdx?_eq_some_iff_getElem]; refine ⟨by omega, ?_, fun j hj => ?_⟩
      · rw [← nth_eq (by omega), hst i (by omega)]; simp
      · rw [← nth_eq (by omega), hst j (by omega)]; (have : nth k.Y.st j ≠ nth k.Y.st i := fun e => by have := st_inj hG hY (by omega) hi e; omega); simpa using this
    | false =>
      rw [at_no hok' hY (s := s) (fun i hi e => by rw [(hasSt_iff hY).2 ⟨i, hi, e⟩] at hh; cases hh)]; unfold stIx; rw [show P.er.Domains.findIdx? (fun d => decide (d.Station = s)) = none from ?_]; rw [List.findIdx?_eq_none_iff]; intro d hd; unfold hasSt at hh; rw [List.any_eq_false] at hh; have := hh d hd; simpa using this
  have hT := (h.stF hok htab); have := at_ret k.tp k.Y s w (h.tb.later hT.fr) (k.Y.ix512 h.ok hY.ixn); rw [e] at this; exact this
theorem st_fits (h : SI p m k L) {c : GChoice} : checkF k.Y (!m.2) c.b = bif !goodC c then (0, 2) else bif !m.2 then (0, 8) else bif !hasSt p c.Station then (0, 9) else ((atF k.Y c.Station).1, 0) := by
  obtain ⟨P, rfl, hok, hY⟩ := h.pb; unfold checkF GChoice.b goodC; dsimp only; by_cases h1 : c.Station < 0 ∨ 512 ≤ c.Station ∨ c.Channel < 2 ∨ 51 < c.Channel
  · rw [if_pos h1, decide_eq_false (by omega)]; rfl
  · rw [if_neg h1, decide_eq_true (by omega)]; simp only [Bool.not_true, cond_false]
    cases m.2 with
    | false => rfl
    | true =>
      simp only [Bool.not_true, cond_false, Bool.false_eq_true, if_false]
      cases hh : hasSt P.er c.Station with
      | true =>
        obtain ⟨i, hi, e⟩ := (hasSt_iff hY).1 hh; rw [← e, at_yes hok hY hi]; rfl
      | false =>
        rw [at_no hok hY (s := c.Station) (fun i hi e => by rw [(hasSt_iff hY).2 ⟨i, hi, e⟩] at hh; cases hh)]; rfl
theorem st_act (kp : Bool) (num : FuncId) (h : SI p m k L) (hok : (stE k L (!m.2)).ok w) (htab : Tab w) {fuel : Nat} (hf : 100000 ≤ fuel) (c : GChoice) {r : (List GDomain × Bool) × Int} (hr : stAct fuel p m kp c = some r)
    (hE : (checkF k.Y (!m.2) c.b).2 ≠ 0 → Calls Tryd.prog num #[.pointer (some ⟨k.sp, 0, none⟩), .agg (Ch.cells c.b).toArray] w fun e w' => e = .returned (.int .i64 (checkF k.Y (!m.2) c.b).2) ∧ Below w.heap.size w w')
    (hO : m.2 = true → (checkF k.Y false c.b).2 = 0 → Calls Tryd.prog num #[.pointer (some ⟨k.sp, 0, none⟩), .agg (Ch.cells c.b).toArray] w fun e w' => ∃ y : Ws × Bool, SPost k.Y (cutL L (checkF k.Y false c.b).1.toNat (bif kp then ~~~(1#64 <<< c.Channel.toNat) else 1#64 <<< c.Channel.toNat)) y.1 y.2 ∧ e = .returned (.int .i64 0) ∧ Hp w (fps [sRow k.sp k.gl k.tp k.Y.n false, sLeft k.gl k.Y.n L]) [sRow k.sp k.gl k.tp k.Y.n y.2, sLeft k.gl k.Y.n y.1] w') :
    Calls Tryd.prog num #[.pointer (some ⟨k.sp, 0, none⟩), .agg [.int .i64 c.Station, .int .i64 c.Channel].toArray] w fun e w' => ∃ L', SI p r.1 k L' ∧ e = .returned (.int .i64 r.2) ∧ Hp w (stE k L (!m.2)).fp [stE k L' (!r.1.2)] w' := by
  have hfit := st_fits h (c := c)
  have keepE : ∀ {n : Int}, r = (m, n) → (checkF k.Y (!m.2) c.b).2 = n → n ≠ 0 → Calls Tryd.prog num #[.pointer (some ⟨k.sp, 0, none⟩), .agg [.int .i64 c.Station, .int .i64 c.Channel].toArray] w fun e w' => ∃ L', SI p r.1 k L' ∧ e = .returned (.int .i64 r.2) ∧ Hp w (stE k L (!m.2)).fp [stE k L' (!r.1.2)] w' := by
    intro n hr hc hn; subst hr; refine (hE (by rw [hc]; exact hn)).mono ?_; rintro e w' ⟨rfl, hb⟩; exact ⟨L, h, by rw [hc], (Hp.start hok).below hb⟩
  unfold stAct at hr
  cases hg : goodC c with
  | false => rw [hg] at hr hfit; exact keepE (Option.some.inj hr).symm (by rw [hfit]; rfl) (by decide)
  | true =>
    rw [hg] at hr hfit; simp only [Bool.not_true, cond_false] at hr hfit
    cases hm : m.2 with
    | false => rw [hm] at hr hfit; rw [← hm]; exact keepE (Option.some.inj hr).symm (by rw [hm]; rw [hfit]; rfl) (by decide)
    | true =>
      rw [hm] at hr hfit; simp only [Bool.not_true, cond_false] at hr hfit
      cases hh : hasSt p c.Station with
      | false => rw [hh] at hr hfit; rw [← hm]; exact keepE (Option.some.inj hr).symm (by rw [hm, Bool.not_true, hfit]; rfl) (by decide)
      | true =>
        rw [hh] at hr hfit; simp only [Bool.not_true, cond_false] at hr hfit; obtain ⟨P, rfl, hok', hY⟩ := h.pb; have hG := Pb.good hok'; obtain ⟨i, hi, e⟩ := (hasSt_iff hY).1 hh; rw [← e, at_yes hok' hY hi] at hfit; obtain ⟨hC, hb, hd⟩ := h.good hm; (have hch : 2 ≤ c.Channel ∧ c.Channel ≤ 51 := by have := of_decide_eq_true hg; omega); have hn := hY.n; have h512 := hG.n; have hbd : Bd (gd k.Y L) := gd_bd (by omega); have hinj : ∀ j, j < k.Y.n → nth k.Y.st j = nth k.Y.st i → j = i := fun j hj e' => st_inj hG hY hj hi e'; have hcn : ((c.Channel.toNat : Nat) : Int) = c.Channel := Int.toNat_of_nonneg (by omega)
        -- the domains after the cut
        have hdom : (bif kp then ref18_Keep_x m.1 c.Station c.Channel else ref18_Drop_x m.1 c.Station c.Channel) = some (gd k.Y (cutL L i (bif kp then ~~~(1#64 <<< c.Channel.toNat) else 1#64 <<< c.Channel.toNat))) := by
          rw [hd, ← e]
          cases kp with
          | true => rw [cond_true, cond_true, keep_x hbd.len (fun x hx => (hbd.ch x hx).1), ← keep_nth h.len hi hinj (by omega), hcn]
          | false => rw [cond_false, cond_false, drop_x hbd.len (fun x hx => (hbd.ch x hx).1), ← drop_nth h.len hi hinj (by omega), hcn]
        rw [hdom, Option.bind_some] at hr; obtain ⟨q, hq, hr⟩ := bind_open hr; obtain rfl := Option.some.inj hr; refine (hO hm (by rw [hfit])).mono ?_; rintro e' w' ⟨⟨L', c'⟩, hp, rfl, hw⟩; rw [hfit] at hp; dsimp only at hp hw ⊢; rw [Int.toNat_natCast] at hp; (have hlen : (cutL L i (bif kp then ~~~(1#64 <<< c.Channel.toNat) else 1#64 <<< c.Channel.toNat)).length = k.Y.n := by unfold cutL; rw [List.length_set, h.len]); obtain ⟨h3, h4⟩ := SI.of hok' hY h.tb hlen (hb.le cutL_le) (Is.of (hY.ok hG) hlen hp) hf hq; refine ⟨L', h3, rfl, ?_⟩; rw [← h4]; (have hok2 : (Ent.bag ([sRow k.sp k.gl k.tp k.Y.n false, sLeft k.gl k.Y.n L] ++ [Ent.fz k.w0])).ok w := by rw [hm] at hok; exact hok); exact bag_call hok2 hw
theorem st_assume (h : SI p m k L) (hok : (stE k L (!m.2)).ok w) (htab : Tab w) {fuel : Nat} (hf : 100000 ≤ fuel) (c : GChoice) {r : (List GDomain × Bool) × Int} (hr : stAct fuel p m true c = some r) :
    Calls Tryd.prog 29 #[.pointer (some ⟨k.sp, 0, none⟩), .agg [.int .i64 c.Station, .int .i64 c.Channel].toArray] w fun e w' => ∃ L', SI p r.1 k L' ∧ e = .returned (.int .i64 r.2) ∧ Hp w (stE k L (!m.2)).fp [stE k L' (!r.1.2)] w' := by
  have hs := (h.stF hok htab).st; obtain ⟨P, hP, hok', hY⟩ := h.pb; have hix := hY.ixn; refine st_act true _ h hok htab hf c hr (fun he => assume_err k.sp k.Y L (!m.2) c.b w hs (k.Y.ix512 h.ok hix) he) (fun hm he => ?_); have hok2 := hok; rw [hm] at hok2; obtain ⟨h1, h2, h3, h4⟩ := h.two hok2 htab; exact assume_ok k.w0 k.sp k.gl k.tp k.Y L w h.tb h.ok h4 htab h1 h2 h3 h.len (h.good hm).1.calm hix c.b he
theorem st_forbid (h : SI p m k L) (hok : (stE k L (!m.2)).ok w) (htab : Tab w) {fuel : Nat} (hf : 100000 ≤ fuel) (c : GChoice) {r : (List GDomain × Bool) × Int} (hr : stAct fuel p m false c = some r) :
    Calls Tryd.prog 30 #[.pointer (some ⟨k.sp, 0, none⟩), .agg [.int .i64 c.Station, .int .i64 c.Channel].toArray] w fun e w' => ∃ L', SI p r.1 k L' ∧ e = .returned (.int .i64 r.2) ∧ Hp w (stE k L (!m.2)).fp [stE k L' (!r.1.2)] w' := by
  have hs := (h.stF hok htab).st; obtain ⟨P, hP, hok', hY⟩ := h.pb; have hix := hY.ixn; refine st_act false _ h hok htab hf c hr (fun he => forbid_err k.sp k.Y L (!m.2) c.b w hs (k.Y.ix512 h.ok hix) he) (fun hm he => ?_); have hok2 := hok; rw [hm] at hok2; obtain ⟨h1, h2, h3, h4⟩ := h.two hok2 htab; exact forbid_ok k.w0 k.sp k.gl k.tp k.Y L w h.tb h.ok h4 htab h1 h2 h3 h.len (h.good hm).1.calm hix c.b he
end
end Go.Proofs.YtljgejbmimapdaaDoor
namespace Go.Proofs.YtljgejbmimapdaaDoor
open Go.RowKit
def problem_between_x (n : Int) (low : Int) (high : Int) : Bool :=
  ((decide (low ≤ n)) && (decide (n ≤ high)))
theorem problem_between_c (F0 : Frz) (w : World) (hF0 : F0.At w) (n : Int) (low : Int) (high : Int) : Calls Tryd.prog 56 #[.int .i64 n, .int .i64 low, .int .i64 high] w fun e w' => e = .returned (.bool (problem_between_x n low high)) ∧ Below w.heap.size w w' := by
  obtain ⟨r, hk⟩ : ∃ r, problem_between_x n low high = r := ⟨_, rfl⟩; rw [hk]; unfold problem_between_x at hk; obtain ⟨S0, F1, rfl, hS0, hp0⟩ := startF_ex hF0; refine calls_T (M := fun _ => False) (hs := [.fr F1]) Tryd.func56 rfl rfl rfl hp0 ?_; refine T.seq (T.region ?_); refine TL.run 1 rfl ?_; refine TL.nil (K.seq (T.seq ?_)); refine T.cutXK (ι := Unit) (fun z => [(6, .bool ((decide (low ≤ n)) && (decide (n ≤ high))))]) (fun z => [.fr F1]) (fun z => True) ?_ ?_
  · refine T.region ?_; refine TL.run 4 rfl ?_; refine TL.gs rfl rfl rfl (fun h1 => ?_) (fun h1 => ?_)
    · have p1 := of_decide_eq_true h1; refine TL.run 5 rfl ?_; refine TL.nil ?_; exact K.atX () trivial (.b (and_t h1) .nil) (List.Sublist.refl _)
    · have p1 := of_decide_eq_false h1; refine TL.run 5 rfl ?_; refine TL.nil ?_; exact K.atX () trivial (.b (and_ff h1).symm .nil) (List.Sublist.refl _)
  · rintro _ _; refine T.ret ?_; subst hk; exact K.ret1 rfl rfl (fun w' hw => ⟨rfl, hw.isBelow⟩)
def problem_isStation_x (n : Int) : Bool :=
  (problem_between_x n 0 511)
theorem problem_isStation_c (F0 : Frz) (w : World) (hF0 : F0.At w) (n : Int) : Calls Tryd.prog 55 #[.int .i64 n] w fun e w' => e = .returned (.bool (problem_isStation_x n)) ∧ Below w.heap.size w w' := by
  obtain ⟨r, hk⟩ : ∃ r, problem_isStation_x n = r := ⟨_, rfl⟩; rw [hk]; unfold problem_isStation_x at hk; obtain ⟨S0, F1, rfl, hS0, hp0⟩ := startF_ex hF0; refine calls_T (M := fun _ => False) (hs := [.fr F1]) Tryd.func55 rfl rfl rfl hp0 ?_; refine T.seq (T.region ?_); refine TL.run 1 rfl ?_; refine TL.nil (K.seq (T.seq (T.region ?_))); refine TL.run 1 rfl ?_; refine TL.e (Ew.callD rfl rfl rfl (fun w hw => problem_between_c _ w (hw.fr (i := 0) rfl) n 0 511)) ?_; rintro _ _ ⟨rfl, rfl⟩; refine TL.run 1 rfl ?_; refine TL.nil (K.seq (T.ret ?_)); subst hk; exact K.ret1 rfl rfl (fun w' hw => ⟨rfl, hw.isBelow⟩)
def problem_ValidList_x (l : List GChoice) : Bool :=
  joinK (fun (_ : Unit) =>
    true)
  (fun k1 =>
    iterK (fun (i_3 : Nat) (next2 : Unit → Bool) (_ : Unit) =>
      (bif ((!(problem_isStation_x ((nth l i_3).Station))) || (!(problem_between_x ((nth l i_3).Channel) 2 51))) then
        false
        else
        (bif ((decide (0 < (i_3 : Int))) && (decide ((nth l i_3).Station ≤ (nth l (((i_3 : Int) - 1).toNat)).Station))) then
          false
          else
          next2 ())))
    (fun (_ : Unit) =>
      k1 ()) (l.length - 0) 0 ())
theorem problem_ValidList_c (F0 : Frz) (w : World) (hF0 : F0.At w) (l : List GChoice) (vl : Value) (hl : SlC F0 vl 2 (l.map GChoice.enc)) : Calls Tryd.prog 35 #[vl] w fun e w' => e = .returned (.bool (problem_ValidList_x l)) ∧ Below w.heap.size w w' := by
  obtain ⟨r, hk⟩ : ∃ r, problem_ValidList_x l = r := ⟨_, rfl⟩; rw [hk]; unfold problem_ValidList_x at hk; haveI := hl.oneC; obtain ⟨S0, F1, rfl, hS0, hp0⟩ := startF_ex hF0; refine calls_T (M := fun _ => False) (hs := [.fr F1]) Tryd.func35 rfl rfl rfl hp0 ?_; refine T.seq (T.region ?_); refine TL.run 1 rfl ?_; refine TL.nil (K.seq (T.seq (T.seq (T.region ?_)))); refine TL.run 1 rfl ?_; refine TL.y (Yv.lenR rfl rfl hl (List.length_map _)) ?_; have hm6 : l.length ≤ 9223372036854775807 := (List.length_map _) ▸ hl.max; refine TL.run 1 rfl ?_; refine TL.nil (K.seq ?_); have hq := joinK_open hk; clear hk; obtain ⟨k1, hk1, hk⟩ := hq; (try dsimp only at hk); refine T.cutXK (ι := Unit) (fun z => []) (fun z => [.fr F1]) (fun z => k1 () = r) ?_ ?_
  · have hq := iterK_open hk; clear hk; obtain ⟨f2, kk2, hf2, hkk2, hk⟩ := hq; refine T.block ?_; refine T.loop (ι := Nat) (fun z => [(0, vl), (5, vl), (6, .int .i64 (l.length : Int)), (7, .int .i64 (z : Int))]) (fun z => [.fr F1]) (fun z => iterK f2 kk2 (l.length - z) z () = r) (fun z => l.length - z) 0 ?_ ?_ ?_ ?_
    · exact hk
    · exact (.c (.c (.c (.c .nil))))
    · exact List.Sublist.refl _
    · rintro i_3 hk; refine T.seq (T.region ?_); refine TL.run 1 rfl ?_; refine TL.nil (K.seq (T.seq ?_)); refine T.cond rfl (fun h4 => ?_) (fun h4 => ?_)
      · have p4 := of_decide_eq_true h4; rw [iterK_lt (by omega)] at hk; generalize hn2 : iterK f2 kk2 (l.length - (i_3 + 1)) (i_3 + 1) = next2 at hk; rw [← hf2] at hk; (try dsimp only at hk); refine T.skip (K.seq (T.seq (T.block (T.seq (T.region ?_))))); refine TL.run 1 rfl ?_; refine TL.y (Yv.idxR (i := i_3) rfl rfl rfl hl (List.length_map _) rfl (by omega)) ?_; refine TL.y (Yv.loadRFA 0 (i := i_3) rfl rfl rfl hl (by omega) rfl rfl rfl) ?_; refine TL.e (Ew.alloc rfl) ?_; rintro _ _ ⟨g4, rfl, rfl⟩; refine TL.run 1 rfl ?_; refine TL.e0 (Ew.storeAll 0 rfl rfl rfl rfl rfl rfl) ?_; rintro _ _ ⟨rfl, rfl⟩; refine TL.nil (K.seq (T.seq (T.seq ?_))); refine T.cutXK (ι := Unit) (fun z => [(0, vl), (3, .int .i64 (i_3 : Int)), (4, .pointer (some ⟨g4, 0, none⟩)), (5, vl), (6, .int .i64 (l.length : Int)), (7, .int .i64 (i_3 : Int)), (21, .bool ((!(problem_isStation_x ((nth l i_3).Station))) || (!(problem_between_x ((nth l i_3).Channel) 2 51))))]) (fun z => [.row g4 40 [.int .i64 ((nth l i_3).Station), .int .i64 ((nth l i_3).Channel)], .fr F1]) (fun z => True) ?_ ?_
        · refine T.region ?_; refine TL.y (Yv.fieldAddr rfl rfl) ?_; refine TL.y (Yv.loadO 0 rfl rfl rfl rfl) ?_; refine TL.e (Ew.callD rfl rfl rfl (fun w hw => problem_isStation_c _ w (hw.fr (i := 1) rfl) ((nth l i_3).Station))) ?_; rintro _ _ ⟨rfl, rfl⟩; refine TL.run 2 rfl ?_; refine TL.gs rfl rfl rfl (fun h5 => ?_) (fun h5 => ?_)
          · have p5 := h5; (try simp only [nfB] at p5); refine TL.run 5 rfl ?_; refine TL.nil ?_; exact K.atX () trivial (.c (.c (.c (.c (.c (.c (.b (or_tt h5).symm .nil))))))) (List.Sublist.refl _)
          · have p5 := h5; (try simp only [nfB] at p5); refine TL.y (Yv.fieldAddr rfl rfl) ?_; refine TL.y (Yv.loadO 0 rfl rfl rfl rfl) ?_; refine TL.e (Ew.callD rfl rfl rfl (fun w hw => problem_between_c _ w (hw.fr (i := 1) rfl) ((nth l i_3).Channel) 2 51)) ?_; rintro _ _ ⟨rfl, rfl⟩; refine TL.run 2 rfl ?_; refine TL.nil ?_; exact K.atX () trivial (.c (.c (.c (.c (.c (.c (.b (or_f h5) .nil))))))) (List.Sublist.refl _)
        · rintro _ _; refine T.cond rfl (fun h6 => ?_) (fun h6 => ?_)
          · have p6 := h6; (try simp only [nfB] at p6); replace hk := condT_open hk h6; refine T.seq (T.region ?_); refine TL.run 1 rfl ?_; refine TL.nil (K.seq (T.ret (K.then_ret (K.blk_ret (K.then_ret (K.then_ret (K.blk_ret (K.then_ret ?_)))))))); subst hk; exact K.ret1 rfl rfl (fun w' hw => ⟨rfl, hw.isBelow⟩)
          · have p6 := h6; (try simp only [nfB] at p6); replace hk := condF_open hk h6; refine T.skip (K.seq (T.seq ?_)); refine T.cutXK (ι := Unit) (fun z => [(0, vl), (5, vl), (6, .int .i64 (l.length : Int)), (7, .int .i64 (i_3 : Int)), (34, .bool ((decide (0 < (i_3 : Int))) && (decide ((nth l i_3).Station ≤ (nth l (((i_3 : Int) - 1).toNat)).Station))))]) (fun z => [.row g4 40 [.int .i64 ((nth l i_3).Station), .int .i64 ((nth l i_3).Channel)], .fr F1]) (fun z => True) ?_ ?_
            · refine T.draw (.still 0 (.still 1 (.still 2 (.still 3 (.still 4 (.still 5 (.still 6 (.still 7 (.still 8 (.still 9 (.still 10 (.still 11 (.still 12 .done))))))))))))) _ (by kernel_rfl) (List.Sublist.refl _) ?_; refine TS.run 3 rfl ?_; refine TS.gs rfl rfl rfl rfl (fun h7 => ?_) (fun h7 => ?_)
              · have p7 := of_decide_eq_true h7; refine TS.run 2 rfl ?_; refine TS.y rfl (Yv.subI rfl rfl rfl (by omega)) ?_; refine TS.y rfl (Yv.idxR (i := ((i_3 : Int) - 1).toNat) rfl rfl rfl hl (List.length_map _) (by omega) (by omega)) ?_; refine TS.y rfl (Yv.fldR rfl rfl hl (List.length_map _) (by omega)) ?_; refine TS.y rfl (Yv.loadRF 1 (i := ((i_3 : Int) - 1).toNat) (j := 0) rfl rfl rfl hl (by omega) rfl rfl) ?_; refine TS.y rfl (Yv.fieldAddr rfl rfl) ?_; refine TS.y rfl (Yv.loadO 0 rfl rfl rfl rfl) ?_; refine TS.run 2 rfl ?_; refine TS.done ?_; exact K.atX () trivial (.c (.c (.c (.c (.b (and_t h7) .nil))))) (List.Sublist.refl _)
              · have p7 := of_decide_eq_false h7; refine TS.run 10 rfl ?_; refine TS.done ?_; exact K.atX () trivial (.c (.c (.c (.c (.b (and_ff h7).symm .nil))))) (List.Sublist.refl _)
            · rintro _ _; refine T.cond rfl (fun h8 => ?_) (fun h8 => ?_)
              · have p8 := h8; (try simp only [nfB] at p8); replace hk := condT_open hk h8; refine T.seq (T.region ?_); refine TL.run 1 rfl ?_; refine TL.nil (K.seq (T.ret (K.blk_ret (K.then_ret (K.then_ret (K.blk_ret (K.then_ret ?_))))))); subst hk; exact K.ret1 rfl rfl (fun w' hw => ⟨rfl, hw.isBelow⟩)
              · have p8 := h8; (try simp only [nfB] at p8); replace hk := condF_open hk h8; refine T.skip (K.blk_normal (K.seq (T.region ?_))); refine TL.y (Yv.addI rfl rfl rfl (by omega)) ?_; refine TL.run 1 rfl ?_; refine TL.nil ?_; rw [← hn2] at hk; refine K.pick [1] rfl (by decide) ?_; exact K.next (i_3 + 1) hk (by omega) (.c (.c (.c (.c .nil)))) (List.Sublist.refl _)
      · have p4 := of_decide_eq_false h4; rw [iterK_ge (by omega), ← hkk2] at hk; (try dsimp only at hk); refine T.exit (K.then_exit (K.then_exit (K.blk_exit_eq ?_))); exact K.atX () hk .nil (List.Sublist.refl _)
  · rintro _ hk; rw [← hk1] at hk; (try dsimp only at hk); refine T.seq (T.region ?_); refine TL.run 1 rfl ?_; refine TL.nil (K.seq (T.ret ?_)); subst hk; exact K.ret1 rfl rfl (fun w' hw => ⟨rfl, hw.isBelow⟩)
def Run_x (fuel : Nat) (p : GProblem) (l : List GChoice) : Option (List GDomain × Bool × Int) :=
  (bif okG p then
    (ref18_Propagate_x fuel p p.Domains).bind fun r17 =>
    (bif !(problem_ValidList_x l) then
      some ([], false, 2)
      else
      joinK (fun (_ : Unit) =>
        joinK (fun (m_8 : List GDomain × Bool) =>
          some (m_8.1, !m_8.2, 0))
        (fun k9 =>
          iterK (fun (i_12 : Nat) (next11 : (List GDomain × Bool) → Option (List GDomain × Bool × Int)) (m_10 : List GDomain × Bool) =>
            (bif !m_10.2 then
              k9 m_10
              else
              (stAct fuel p m_10 true (nth l i_12)).bind fun r57 =>
              next11 r57.1))
          (fun (m_10 : List GDomain × Bool) =>
            k9 m_10) (l.length - 0) 0 r17))
      (fun k3 =>
        iterK (fun (i_5 : Nat) (next4 : Unit → Option (List GDomain × Bool × Int)) (_ : Unit) =>
          (bif !(hasSt p ((nth l i_5).Station)) then
            some ([], false, 9)
            else
            next4 ()))
        (fun (_ : Unit) =>
          k3 ()) (l.length - 0) 0 ()))
    else
    some ([], false, 2))
theorem Run_c (F0 : Frz) (w : World) (hF0 : F0.At w) (p : GProblem) (vp_0 : Value) (cp_0 : List (List Value)) (hp_0 : SlD GDomain.rep F0 vp_0 2 cp_0 p.Domains) (vp_1 : Value) (hp_1 : SlC F0 vp_1 5 (p.Rules.Pairs.map GPair.enc)) (vp_2 : Value) (hp_2 : SlC F0 vp_2 5 (p.Rules.Loads.map GLoad.enc)) (vp_3 : Value) (hp_3 : SlC F0 vp_3 4 (p.Rules.Caps.map GCap.enc)) (l : List GChoice) (vl : Value) (hl : SlC F0 vl 2 (l.map GChoice.enc)) (htab : Tab w) (fuel : Nat) (hfu : 100000 ≤ fuel) (r : List GDomain × Bool × Int) (hr : Run_x fuel p l = some r) : Calls Tryd.prog 11 #[.agg [vp_0, vp_1, vp_2, vp_3].toArray, vl] w fun e w' => ∃ (y : Value × List (List Value)) (G : Frz), (SlD GDomain.rep G y.1 2 y.2 r.1) ∧ e = .returned (.tuple #[y.1, .bool r.2.1, .int .i64 r.2.2]) ∧ Fx F0 w G w' := by
  have hk := hr; unfold Run_x at hk; haveI := hp_0.1.oneC; haveI := hp_1.oneC; haveI := hp_2.oneC; haveI := hp_3.oneC; haveI := hl.oneC; obtain ⟨S0, F1, rfl, hS0, hp0⟩ := startF_ex hF0; refine calls_T (M := fun _ => False) (hs := [.fr F1]) Tryd.func11 rfl rfl rfl hp0 ?_; refine T.seq (T.region ?_); refine TL.e (Ew.boxA rfl rfl) ?_; rintro _ _ ⟨g2, rfl, rfl⟩; refine TL.run 3 rfl ?_; refine TL.nil (K.seq (T.seq ?_)); refine T.splitB (okG p) (fun h1 => ?_) (fun h1 => ?_)
  · replace hk := condT_open hk h1; have hq := bind_open hk; clear hk; obtain ⟨r17, hr17, hk⟩ := hq; (try dsimp only at hk); refine T.region ?_; refine TL.y (Yv.loadAO 0 rfl rfl rfl rfl) ?_; refine TL.e (Ew.callH rfl rfl rfl (fun w hw => st_new (hw.fr (i := 1) rfl) ⟨hp_0, hp_1, hp_2, hp_3⟩ (htab.keptF hw) h1 hfu hr17)) ?_; rintro _ _ ⟨⟨k17_, L17_⟩, hs17, rfl, rfl⟩; dsimp only [List.cons_append, List.nil_append]; dsimp only at hs17; refine TL.run 5 rfl ?_; refine TL.nil (K.seq (T.seq (T.seq (T.region ?_)))); refine TL.run 2 rfl ?_; refine TL.nil (K.seq ?_); refine T.condF rfl rfl ?_; refine T.skip (K.seq (T.seq (T.seq (T.region ?_)))); refine TL.run 1 rfl ?_; refine TL.e (Ew.callD rfl rfl rfl (fun w hw => problem_ValidList_c _ w (hw.fr (i := 2) rfl) l vl hl)) ?_; rintro _ _ ⟨rfl, rfl⟩; refine TL.run 1 rfl ?_; refine TL.nil (K.seq ?_); refine T.cond rfl (fun h2 => ?_) (fun h2 => ?_)
    · have p2 := h2; (try simp only [nfB] at p2); replace hk := condT_open hk h2; refine T.seq (T.region ?_); refine TL.run 3 rfl ?_; refine TL.nil (K.seq (T.ret (K.then_ret ?_))); obtain rfl := Option.some.inj hk; exact K.retF3 rfl rfl rfl rfl (fun w' hw => ⟨((.slice none 0 0), []), F1.toFrz, (SlD.nil _ _ 2), rfl, Fx.of hw (i := 2) rfl hS0 (Frz.Le.refl _)⟩)
    · have p2 := h2; (try simp only [nfB] at p2); replace hk := condF_open hk h2; refine T.skip (K.seq (T.seq (T.seq (T.region ?_)))); refine TL.run 1 rfl ?_; refine TL.y (Yv.lenR rfl rfl hl (List.length_map _)) ?_; have hm27 : l.length ≤ 9223372036854775807 := (List.length_map _) ▸ hl.max; refine TL.run 1 rfl ?_; refine TL.nil (K.seq ?_); have hq := joinK_open hk; clear hk; obtain ⟨k3, hk3, hk⟩ := hq; (try dsimp only at hk); refine T.cutXK (ι := Unit) (fun z => [(1, vl), (7, .pointer (some ⟨k17_.sp, 0, none⟩))]) (fun z => [stE k17_ L17_ (!r17.2), .fr F1]) (fun z => k3 () = some r) ?_ ?_
      · have hq := iterK_open hk; clear hk; obtain ⟨f4, kk4, hf4, hkk4, hk⟩ := hq; refine T.block ?_; refine T.pick [0, 2] rfl (by decide) ?_; refine T.loop (ι := Nat) (fun z => [(1, vl), (7, .pointer (some ⟨k17_.sp, 0, none⟩)), (26, vl), (27, .int .i64 (l.length : Int)), (28, .int .i64 (z : Int))]) (fun z => [stE k17_ L17_ (!r17.2), .fr F1]) (fun z => iterK f4 kk4 (l.length - z) z () = some r) (fun z => l.length - z) 0 ?_ ?_ ?_ ?_
        · exact hk
        · exact (.c (.c (.c (.c (.c .nil)))))
        · exact List.Sublist.refl _
        · rintro i_5 hk; refine T.seq (T.region ?_); refine TL.run 1 rfl ?_; refine TL.nil (K.seq (T.seq ?_)); refine T.cond rfl (fun h6 => ?_) (fun h6 => ?_)
          · have p6 := of_decide_eq_true h6; rw [iterK_lt (by omega)] at hk; generalize hn4 : iterK f4 kk4 (l.length - (i_5 + 1)) (i_5 + 1) = next4 at hk; rw [← hf4] at hk; (try dsimp only at hk); refine T.skip (K.seq (T.seq (T.block (T.seq (T.region ?_))))); refine TL.y (Yv.idxR (i := i_5) rfl rfl rfl hl (List.length_map _) rfl (by omega)) ?_; refine TL.y (Yv.loadRFA 1 (i := i_5) rfl rfl rfl hl (by omega) rfl rfl rfl) ?_; refine TL.e (Ew.alloc rfl) ?_; rintro _ _ ⟨g10, rfl, rfl⟩; refine TL.e0 (Ew.storeAll 0 rfl rfl rfl rfl rfl rfl) ?_; rintro _ _ ⟨rfl, rfl⟩; refine TL.nil (K.seq (T.seq ?_)); refine T.draw (.still 0 (.still 1 (.still 2 (.still 3 (.still 4 (.still 5 (.eff 6 (.still 7 (.still 8 (.still 9 (.still 10 (.still 11 .done)))))))))))) _ (by kernel_rfl) (List.Sublist.refl _) ?_; refine TS.run 2 rfl ?_; refine TS.y rfl (Yv.fieldAddr rfl rfl) ?_; refine TS.y rfl (Yv.loadBag 1 0 rfl rfl rfl rfl rfl) ?_; refine TS.y rfl (Yv.fieldAddr rfl rfl) ?_; refine TS.y rfl (Yv.loadO 0 rfl rfl rfl rfl) ?_; refine TS.eff ?_; refine TSo.ewG rfl (Wt.none rfl) rfl rfl (Ew.callD rfl rfl rfl (fun w hw => st_at hs17 (hw.get (i := 1) rfl) (htab.keptF hw) ((nth l i_5).Station))) ?_; rintro _ _ ⟨rfl, rfl⟩; refine ⟨(fun w hw => hw.sub (by repeat first | exact S0 | exact S1 | refine S2 ?_ | refine S3 ?_)), ?_⟩; refine TS.run 5 rfl ?_; refine TS.done ?_; refine K.seq (T.seq (T.region ?_)); refine TL.run 2 rfl ?_; refine TL.nil (K.seq ?_); refine T.cond rfl (fun h7 => ?_) (fun h7 => ?_)
            · have p7 := h7; (try simp only [nfB] at p7); replace hk := condT_open hk h7; refine T.seq (T.region ?_); refine TL.run 3 rfl ?_; refine TL.nil (K.seq (T.ret (K.blk_ret (K.then_ret (K.then_ret (K.blk_ret (K.then_ret ?_))))))); obtain rfl := Option.some.inj hk; exact K.retF3 rfl rfl rfl rfl (fun w' hw => ⟨((.slice none 0 0), []), F1.toFrz, (SlD.nil _ _ 2), rfl, Fx.of hw (i := 2) rfl hS0 (Frz.Le.refl _)⟩)
            · have p7 := h7; (try simp only [nfB] at p7); replace hk := condF_open hk h7; refine T.skip (K.blk_normal (K.seq (T.region ?_))); refine TL.y (Yv.addI rfl rfl rfl (by omega)) ?_; refine TL.run 1 rfl ?_; refine TL.nil ?_; rw [← hn4] at hk; refine K.pick [1, 2] rfl (by decide) ?_; exact K.next (i_5 + 1) hk (by omega) (.c (.c (.c (.c (.c .nil))))) (List.Sublist.refl _)
          · have p6 := of_decide_eq_false h6; rw [iterK_ge (by omega), ← hkk4] at hk; (try dsimp only at hk); refine T.exit (K.then_exit (K.then_exit (K.blk_exit_eq ?_))); exact K.atX () hk (.c (.c .nil)) (List.Sublist.refl _)
      · rintro _ hk; rw [← hk3] at hk; (try dsimp only at hk); refine T.seq (T.seq (T.region ?_)); refine TL.run 1 rfl ?_; refine TL.y (Yv.lenR rfl rfl hl (List.length_map _)) ?_; refine TL.run 1 rfl ?_; refine TL.nil (K.seq ?_); have hq := joinK_open hk; clear hk; obtain ⟨k9, hk9, hk⟩ := hq; (try dsimp only at hk); refine T.cutXK (ι := (List GDomain × Bool) × Ws) (fun z => [(7, .pointer (some ⟨k17_.sp, 0, none⟩))]) (fun z => [stE k17_ z.2 (!z.1.2), .fr F1]) (fun z => k9 z.1 = some r ∧ SI p z.1 k17_ z.2) ?_ ?_
        · have hq := iterK_open hk; clear hk; obtain ⟨f11, kk11, hf11, hkk11, hk⟩ := hq; refine T.block ?_; refine T.loop (ι := Nat × (List GDomain × Bool) × Ws) (fun z => [(7, .pointer (some ⟨k17_.sp, 0, none⟩)), (45, vl), (46, .int .i64 (l.length : Int)), (47, .int .i64 (z.1 : Int))]) (fun z => [stE k17_ z.2.2 (!z.2.1.2), .fr F1]) (fun z => iterK f11 kk11 (l.length - z.1) z.1 z.2.1 = some r ∧ SI p z.2.1 k17_ z.2.2) (fun z => l.length - z.1) (0, r17, L17_) ?_ ?_ ?_ ?_
          · exact ⟨hk, hs17⟩
          · exact (.c (.c (.c (.c .nil))))
          · exact List.Sublist.refl _
          · rintro ⟨i_12, m_10, Lm_10⟩ ⟨hk, hsm_10⟩; (try dsimp only at *); refine T.seq (T.region ?_); refine TL.run 1 rfl ?_; refine TL.nil (K.seq (T.seq ?_)); refine T.cond rfl (fun h13 => ?_) (fun h13 => ?_)
            · have p13 := of_decide_eq_true h13; rw [iterK_lt (by omega)] at hk; generalize hn11 : iterK f11 kk11 (l.length - (i_12 + 1)) (i_12 + 1) = next11 at hk; rw [← hf11] at hk; (try dsimp only at hk); refine T.skip (K.seq (T.seq (T.block (T.seq (T.region ?_))))); refine TL.y (Yv.idxR (i := i_12) rfl rfl rfl hl (List.length_map _) rfl (by omega)) ?_; refine TL.y (Yv.loadRFA 1 (i := i_12) rfl rfl rfl hl (by omega) rfl rfl rfl) ?_; refine TL.e (Ew.alloc rfl) ?_; rintro _ _ ⟨g14, rfl, rfl⟩; refine TL.e0 (Ew.storeAll 0 rfl rfl rfl rfl rfl rfl) ?_; rintro _ _ ⟨rfl, rfl⟩; refine TL.nil (K.seq (T.seq (T.seq (T.region ?_)))); refine TL.run 2 rfl ?_; refine TL.y (Yv.fieldAddr rfl rfl) ?_; refine TL.y (Yv.loadBag 1 0 rfl rfl rfl rfl rfl) ?_; refine TL.nil (K.seq ?_); refine T.cond rfl (fun h14 => ?_) (fun h14 => ?_)
              · have p14 := h14; (try simp only [nfB] at p14); replace hk := condT_open hk h14; refine T.exit (K.then_exit ?_); refine K.blk_exit_ne rfl ?_; refine K.then_exit (K.then_exit (K.blk_exit_eq ?_)); refine K.pick [1, 2] rfl (by decide) ?_; exact K.atX (m_10, Lm_10) ⟨hk, hsm_10⟩ (.c .nil) (List.Sublist.refl _)
              · have p14 := h14; (try simp only [nfB] at p14); replace hk := condF_open hk h14; refine T.skip (K.seq ?_); have hq := bind_open hk; clear hk; obtain ⟨r57, hr57, hk⟩ := hq; (try dsimp only at hk); refine T.region ?_; refine TL.run 1 rfl ?_; refine TL.y (Yv.loadAO 0 rfl rfl rfl rfl) ?_; refine TL.e (Ew.callM 1 rfl rfl rfl rfl (fun w hw => st_assume hsm_10 (hw.get (i := 1) rfl) (htab.keptF hw) hfu (nth l i_12) hr57)) ?_; rintro _ _ ⟨L57_, hs57, rfl, rfl⟩; refine TL.nil (K.blk_normal (K.seq (T.region ?_))); refine TL.y (Yv.addI rfl rfl rfl (by omega)) ?_; refine TL.run 1 rfl ?_; refine TL.nil ?_; rw [← hn11] at hk; refine K.pick [1, 2] rfl (by decide) ?_; exact K.next ((i_12 + 1), r57.1, L57_) ⟨hk, hs57⟩ (by dsimp only; omega) (.c (.c (.c (.c .nil)))) (List.Sublist.refl _)
            · have p13 := of_decide_eq_false h13; rw [iterK_ge (by omega), ← hkk11] at hk; (try dsimp only at hk); refine T.exit (K.then_exit (K.then_exit (K.blk_exit_eq ?_))); exact K.atX (m_10, Lm_10) ⟨hk, hsm_10⟩ (.c .nil) (List.Sublist.refl _)
        · rintro ⟨m_8, Lm_8⟩ ⟨hk, hsm_8⟩; (try dsimp only at *); rw [← hk9] at hk; (try dsimp only at hk); refine T.seq ?_; refine T.draw (.still 0 (.still 2 (.still 3 (.still 4 (.still 5 (.eff 1 (.still 6 (.still 7 (.still 8 .done))))))))) _ (by kernel_rfl) (List.Sublist.refl _) ?_; refine TS.run 3 rfl ?_; refine TS.y rfl (Yv.fieldAddr rfl rfl) ?_; refine TS.y rfl (Yv.loadBag 0 0 rfl rfl rfl rfl rfl) ?_; refine TS.eff ?_; refine TSo.ewG rfl (Wt.none rfl) rfl rfl (Ew.callR 1 rfl rfl rfl rfl (fun w hw hF => st_domains hF hsm_8 (hw.get (i := 0) rfl) (htab.keptF hw))) ?_; rintro _ _ ⟨⟨v60_, c60_⟩, F2, le1_2, hf60, hq, rfl⟩; obtain rfl := hq.symm; dsimp only at hf60 ⊢; haveI := hf60.1.oneC; refine ⟨(fun w hw => (hw.frLe (i := 1) rfl le1_2).sub (by repeat first | exact S0 | exact S1 | refine S2 ?_ | refine S3 ?_)), ?_⟩; refine TS.run 3 rfl ?_; refine TS.done ?_; refine K.seq (T.ret ?_); obtain rfl := Option.some.inj hk; exact K.retF3 rfl rfl rfl rfl (fun w' hw => ⟨(v60_, c60_), F2.toFrz, hf60, rfl, Fx.of hw (i := 1) rfl hS0 le1_2⟩)
  · replace hk := condF_open hk h1; refine T.region ?_; refine TL.y (Yv.loadAO 0 rfl rfl rfl rfl) ?_; refine TL.e (Ew.callD rfl rfl rfl (fun w hw => st_newbad (hw.fr (i := 1) rfl) ⟨hp_0, hp_1, hp_2, hp_3⟩ h1)) ?_; rintro _ _ ⟨rfl, rfl⟩; refine TL.run 5 rfl ?_; refine TL.nil (K.seq (T.seq (T.seq (T.region ?_)))); refine TL.run 2 rfl ?_; refine TL.nil (K.seq ?_); refine T.condT rfl rfl ?_; refine T.seq (T.region ?_); refine TL.run 4 rfl ?_; refine TL.nil (K.seq (T.ret (K.then_ret ?_))); obtain rfl := Option.some.inj hk; exact K.retF3 rfl rfl rfl rfl (fun w' hw => ⟨((.slice none 0 0), []), F1.toFrz, (SlD.nil _ _ 2), rfl, Fx.of hw (i := 1) rfl hS0 (Frz.Le.refl _)⟩)
end Go.Proofs.YtljgejbmimapdaaDoor
namespace Go.Proofs.YtljgejbmimapdaaDoor
open Go.RowKit
def nv : Value := .slice none 0 0
/-- The tables of the sample, without the values. -/
def Y0 : Tb := ⟨[1, 2, 3], ixAt (smp nv nv nv).ds 3, 7, [], (smp nv nv nv).psA 2, [], (smp nv nv nv).csA 1, [], (smp nv nv nv).inA 2, [], (smp nv nv nv).ouA 2⟩
section
variable {a b c : Value} {Y : Tb} (h : TbOf (smp a b c) Y)
include h
theorem sm_ps : Y.ps = Y0.ps := h.ps.trans rfl
theorem sm_cs : Y.cs = Y0.cs := h.cs.trans rfl
theorem sm_in : Y.inn = Y0.inn := h.inn.trans rfl
theorem sm_out : Y.out = Y0.out := h.out.trans rfl
theorem sm_n : Y.n = 3 := h.n
theorem sm_gone (L : Ws) (i : Nat) : goneF Y L i = goneF Y0 L i := by
  have h1 := sm_ps h; have h2 := sm_cs h; have h3 := sm_in h; have h4 := sm_out h; (have e1 : pairsF Y L i = pairsF Y0 L i := by unfold pairsF; rw [h1]); (have e2 : capsF Y L i = capsF Y0 L i := by unfold capsF; rw [h2, h3])
  have e3 : loadsF Y L i = loadsF Y0 L i := by
    unfold loadsF; rw [h4]; apply foldl_congr'; intro x _ s; unfold loadStep; rw [h2, h3]
  unfold goneF; rw [e1, e2, e3]
end
def l0 : Ws := [49152#64, 49152#64, 114688#64]
def k1 : Ws := [16384#64, 32768#64, 65536#64]
theorem sm_left (a b c : Value) : (smp a b c).left = l0 := by
  show [maskOf [14, 15], maskOf [14, 15], maskOf [14, 15, 16]] = l0
  decide
theorem sm_ok (a b c : Value) : (smp a b c).ok = true := by
  have e : (smp a b c).ok = (smp nv nv nv).ok := rfl; rw [e]; decide +kernel
theorem closed0 : ∀ i, i < 3 → nth l0 i ≠ 0#64 ∧ nth l0 i &&& goneF Y0 l0 i = 0#64 := by decide +kernel
theorem closed1 : ∀ i, i < 3 → nth k1 i ≠ 0#64 ∧ nth k1 i &&& goneF Y0 k1 i = 0#64 := by decide +kernel
def stepG (L : Ws) (i : Nat) : Ws := L.set i (nth L i &&& ~~~(goneF Y0 L i))
def t1 : Ws := [16384#64, 49152#64, 114688#64]
def t3 : Ws := [49152#64, 49152#64, 32768#64]
theorem steps1 : stepG (stepG t1 1) 2 = k1 := by decide +kernel
theorem steps3 : nth (stepG (stepG t3 1) 0) 0 = 0#64 := by decide +kernel
section
variable {a b c : Value} {Y : Tb} (h : TbOf (smp a b c) Y)
include h
theorem sm_tok : Y.Ok := h.ok (Pb.good (sm_ok a b c))
theorem sm_closed {K : Ws} (hl : K.length = 3) (hc : ∀ i, i < 3 → nth K i ≠ 0#64 ∧ nth K i &&& goneF Y0 K i = 0#64) : Closed Y K := ⟨by rw [hl, sm_n h], fun i hi => by
  rw [sm_n h] at hi; have := hc i hi
  exact ⟨this.1, by rw [sm_gone h]; exact this.2⟩⟩
theorem sm_reach {T M : Ws} {i : Nat} (hr : Reach Y T M) (hi : i < 3) : Reach Y T (stepG M i) := by
  unfold stepG; rw [← sm_gone h]; exact .step hr (by rw [sm_n h]; exact hi) (fun _ hj => hj)
theorem sm_new {L : Ws} {d : Bool} (hI : Is Y (smp a b c).left L d) : L = l0 ∧ d = false := by
  rw [sm_left] at hI; exact hI.eq (sm_tok h) (sm_closed h rfl closed0) .refl
theorem sm_check {x : Ch} : checkF Y false x = checkF Y0 false x := by
  unfold checkF atF; rw [h.ix]; rfl
theorem sm_asm1 : asm Y (smp a b c).left ⟨1, 14⟩ = t1 := by
  unfold asm; rw [sm_check h, sm_left]; decide +kernel
theorem sm_asm3 : asm Y (smp a b c).left ⟨3, 15⟩ = t3 := by
  unfold asm; rw [sm_check h, sm_left]; decide +kernel
theorem sm_fbd1 : fbd Y (smp a b c).left ⟨1, 15⟩ = t1 := by
  unfold fbd; rw [sm_check h, sm_left]; decide +kernel
theorem sm_one {L : Ws} {d : Bool} (hI : Is Y t1 L d) : L = k1 ∧ d = false := by
  refine hI.eq (sm_tok h) (sm_closed h rfl closed1) ?_; rw [← steps1]; exact sm_reach h (sm_reach h .refl (by decide)) (by decide)
theorem sm_three {L : Ws} {d : Bool} (hI : Is Y t3 L d) : d = true :=
  hI.conflict (sm_tok h) (i := 0) (by rw [sm_n h]; decide) steps3 (sm_reach h (sm_reach h .refl (by decide)) (by decide))
theorem sm_total : Y.total = 7 := h.total.trans rfl
theorem sm_st : Y.st = [1, 2, 3] := h.st.trans rfl
theorem sm_doms0 : domsF Y l0 Y.n = [(1, [14, 15]), (2, [14, 15]), (3, [14, 15, 16])] := by
  unfold domsF; rw [sm_n h, sm_st h]; (have e : ∀ m : BitVec 64, chansN m = (List.range' 0 64).filter m.getLsbD := fun m => by unfold chansN; rfl); simp only [e]
  decide +kernel
theorem sm_doms1 : domsF Y k1 Y.n = [(1, [14]), (2, [15]), (3, [16])] := by
  unfold domsF; rw [sm_n h, sm_st h]; (have e : ∀ m : BitVec 64, chansN m = (List.range' 0 64).filter m.getLsbD := fun m => by unfold chansN; rfl); simp only [e]
  decide +kernel
theorem sm_fix1 : fixF Y k1 Y.n = [⟨1, 14⟩, ⟨2, 15⟩, ⟨3, 16⟩] := by
  unfold fixF; rw [sm_n h, sm_st h]; decide +kernel
theorem sm_rem0 : removedF Y l0 false = 0 := by unfold removedF; rw [sm_total h]; decide +kernel
theorem sm_rem1 : removedF Y k1 false = 4 := by unfold removedF; rw [sm_total h]; decide +kernel
end
theorem dfix_pl (xs : List Dx) : dfix xs xs.length = ((xs.map Dx.pl).filter fun p => decide (p.2.length = 1)).map fun p => ⟨p.1, nth p.2 0⟩ := by
  unfold dfix; rw [List.take_length, List.filter_map, List.map_map]
  rfl
theorem pl_len {xs : List Dx} {l : List (Int × List Int)} (h : xs.map Dx.pl = l) : xs.length = l.length := by rw [← h, List.length_map]
theorem pl_chs {xs : List Dx} {l : List (Int × List Int)} (h : xs.map Dx.pl = l) (n : Nat) (hl : ∀ p ∈ l, p.2.length ≤ n) : ∀ d ∈ xs, d.chs.length ≤ n := fun d hd => hl (Dx.pl d) (by rw [← h]; exact List.mem_map.2 ⟨d, hd, rfl⟩)
def want : List Ch := [⟨1, 14⟩, ⟨2, 15⟩, ⟨3, 16⟩]
end Go.Proofs.YtljgejbmimapdaaDoor
namespace Go.Proofs.YtljgejbmimapdaaDoor
open Go.RowKit
theorem known_ret (w : World) (htab : Tab w) : Calls Tryd.prog 10 #[] w fun e w' => e = .returned (.bool true) ∧ Below w.heap.size w w' := by
  refine calls_T (M := fun _ => False) (hs := []) Tryd.func10 rfl rfl rfl (Hp.refl _ _) ?_; refine T.seq (T.region ?_); refine TL.run 1 rfl ?_; refine TL.nil (K.seq (T.seq (T.region ?_))); (refine TL.ew (Wt.none rfl) rfl rfl (Ew.callH rfl rfl rfl (fun w hw => sample_ret _)) ?_; rintro _ _ ⟨s1, -, rfl, rfl⟩); (refine TL.ew (Wt.none rfl) rfl rfl (Ew.callH rfl rfl rfl (fun w hw => new_ok s1.pb _ _ _ _ w (s1.prob hw) (htab.keptF hw) (sm_ok _ _ _))) ?_; rintro _ _ ⟨⟨g1, gl, tp, Y, L0, c0, w0⟩, hN, rfl, rfl⟩); dsimp only at hN; dsimp only [List.cons_append, List.nil_append]; have hTb := hN.tb; have hYok := sm_tok hTb; have hYn := sm_n hTb; have hI0 := hN.is (Pb.good (sm_ok _ _ _)); obtain ⟨rfl, rfl⟩ := sm_new hTb hI0; have hT := hN.at'; rw [show s1.pb.ds.length = 3 from rfl]; refine TL.run 5 rfl ?_; refine TL.nil (K.seq (T.seq (T.seq (T.region ?_)))); refine TL.run 1 rfl ?_; refine TL.y (Yv.binR rfl rfl rfl (eq46s _ _ _)) ?_; refine TL.run 1 rfl ?_; refine TL.yv (Wt.some rfl rfl rfl rfl) rfl rfl (Yv.pur rfl) ?_; refine TL.yv (Wt.some rfl rfl rfl rfl) rfl rfl (Yv.pur rfl) ?_; refine TL.run 2 rfl ?_; refine TL.yv (Wt.some rfl rfl rfl rfl) rfl rfl (Yv.pur rfl) ?_; (refine TL.ew (Wt.some rfl rfl rfl rfl) rfl rfl (Ew.callD rfl rfl rfl (fun w hw => removed_ret g1 Y l0 false w (StF.of (Y := Y) hw hT (Ent.fz_ok.1 (hw.own (Ent.fz w0) (by simp))) (htab.keptF hw) 0 1 (by rw [hYn]; rfl) (by rw [hYn]; rfl) (by rw [hYn]; rfl)).st hYok (by rw [sm_total hTb]; decide))) ?_; rintro _ _ ⟨rfl, rfl⟩); rw [sm_rem0 hTb]; refine TL.yv (Wt.some rfl rfl rfl rfl) rfl rfl (Yv.pur rfl) ?_; refine TL.run 2 rfl ?_; refine TL.yv (Wt.some rfl rfl rfl rfl) rfl rfl (Yv.pur rfl) ?_; (refine TL.ew (Wt.some rfl rfl rfl rfl) rfl rfl (Ew.callH rfl rfl rfl (fun w hw => domains_ok g1 Y l0 w (StF.of (Y := Y) hw hT (Ent.fz_ok.1 (hw.own (Ent.fz w0) (by simp))) (htab.keptF hw) 0 1 (by rw [hYn]; rfl) (by rw [hYn]; rfl) (by rw [hYn]; rfl)).st hYok)) ?_; rintro _ _ ⟨y24, hd24, rfl, rfl⟩); dsimp only [List.cons_append, List.nil_append]; rw [sm_doms0 hTb] at hd24; (refine TL.ew (Wt.some rfl rfl rfl rfl) rfl rfl (Ew.callH rfl rfl rfl (fun w hw => sample_ret _)) ?_; rintro _ _ ⟨s2, -, rfl, rfl⟩); refine TL.yv (Wt.some rfl rfl rfl rfl) rfl rfl (Yv.field rfl rfl rfl) ?_; (refine TL.ew (Wt.some rfl rfl rfl rfl) rfl rfl (Ew.callD rfl rfl rfl (fun w hw => sameDomains_ret y24.2 s2.pb.ds _ _ w (DomsAt.own hw 7 8 rfl rfl) (s2.prob hw).ds (by rw [pl_len hd24]; decide) (pl_chs hd24 _ (by decide)))) ?_; rintro _ _ ⟨rfl, rfl⟩); rw [show decide (y24.2.map Dx.pl = s2.pb.ds.map Dx.pl) = true from decide_eq_true (by rw [hd24]; rfl)]; refine TL.yv (Wt.some rfl rfl rfl rfl) rfl rfl (Yv.pur rfl) ?_; refine TL.run 1 rfl ?_; refine TL.nil (K.seq ?_); refine T.condF rfl rfl ?_; refine T.skip (K.seq (T.seq ?_)); refine T.weaken (hs' := [sRow g1 gl tp 3 false, sLeft gl 3 l0, Ent.fz w0]) Sub.refl (by repeat first | exact S0 | exact S1 | refine S2 ?_ | refine S3 ?_) ?_; refine T.region ?_; (refine TL.ew (Wt.none rfl) rfl rfl (Ew.callH rfl rfl rfl (fun w hw => sample_ret _)) ?_; rintro _ _ ⟨s3, -, rfl, rfl⟩); refine TL.y (Yv.build rfl rfl) ?_; (refine TL.ew (Wt.none rfl) rfl rfl (Ew.buildSlice rfl rfl rfl (by decide)) ?_; rintro _ _ ⟨g33, rfl, rfl⟩); (refine TL.ew (Wt.none rfl) rfl rfl (Ew.callH rfl rfl rfl (fun w hw => run_fine s3.pb _ _ _ _ ⟨1, 14⟩ _ w (s3.prob (by exact hw.sub (List.sublist_cons_self _ _))) (SlOf.lit (enc := Ch.cells) (size := 2) (fun _ => rfl) [⟨1, 14⟩] (Ent.row_ok.1 (hw.get (i := 0) rfl)) rfl rfl) (htab.keptF hw) (sm_ok _ _ _) (by decide) (fun Z hZ => by rw [sm_check hZ]; decide +kernel) (fun Z K d hZ hI => (sm_new hZ hI).2) (fun Z K d hZ hI => by rw [show s3.pb.left = (smp _ _ _).left from rfl, sm_asm1 hZ] at hI; exact (sm_one hZ hI).2))) ?_; rintro _ _ ⟨y34, ⟨Y1, L1, hT1, hI1, hd1⟩, rfl, rfl⟩); dsimp only [List.cons_append, List.nil_append]; (have hL1 : L1 = k1 := by rw [show s3.pb.left = (smp _ _ _).left from rfl, sm_asm1 hT1] at hI1; exact (sm_one hT1 hI1).1); subst hL1; rw [sm_doms1 hT1] at hd1; have hlen34 : y34.2.length = 3 := pl_len hd1; refine TL.run 7 rfl ?_; refine TL.nil (K.seq (T.seq ?_)); refine T.weaken (hs' := [.sl y34.1 64 2 y34.2.length (y34.2.flatMap Dx.cells), .bag (y34.2.map dE), sRow g1 gl tp 3 false, sLeft gl 3 l0, Ent.fz w0]) Sub.refl (by repeat first | exact S0 | exact S1 | refine S2 ?_ | refine S3 ?_) ?_; refine T.region ?_; refine TL.y (Yv.build rfl rfl) ?_; refine TL.y (Yv.build rfl rfl) ?_; refine TL.y (Yv.build rfl rfl) ?_; (refine TL.ew (Wt.none rfl) rfl rfl (Ew.buildSlice rfl rfl rfl (by decide)) ?_; rintro _ _ ⟨g41, rfl, rfl⟩); refine TL.run 1 rfl ?_; refine TL.nil (K.seq (T.seq (T.seq (T.region ?_)))); refine TL.run 3 rfl ?_; refine TL.yv (Wt.some rfl rfl rfl rfl) rfl rfl (Yv.pur rfl) ?_; refine TL.run 2 rfl ?_; refine TL.yv (Wt.some rfl rfl rfl rfl) rfl rfl (Yv.pur rfl) ?_; refine TL.yv (Wt.some rfl rfl rfl rfl) rfl rfl (Yv.lenE 1 rfl rfl rfl) ?_; refine TL.yv (Wt.some rfl rfl rfl rfl) rfl rfl (Yv.pur rfl) ?_; refine TL.run 2 rfl ?_; refine TL.yv (Wt.some rfl rfl rfl (by rw [hlen34]; rfl)) rfl rfl (Yv.pur rfl) ?_; (refine TL.ew (Wt.some rfl rfl rfl (by rw [hlen34]; rfl)) rfl rfl (Ew.callH rfl rfl rfl (fun w hw => dfixed_ret y34.2 _ w (DomsAt.own hw 1 2 rfl rfl) (by omega))) ?_; rintro v54 _ ⟨_, -, rfl, rfl⟩); dsimp only [List.cons_append, List.nil_append]; rw [show dfix y34.2 y34.2.length = want from by rw [dfix_pl, hd1]; decide]; refine TL.yv (Wt.some rfl rfl rfl (by rw [hlen34]; rfl)) rfl rfl (Yv.pur rfl) ?_; (refine TL.ew (Wt.some rfl rfl rfl (by rw [hlen34]; rfl)) rfl rfl (Ew.callD rfl rfl rfl (fun w hw => sameList_ret want want _ _ w (SlOf.ownAt (enc := Ch.cells) (fun _ => rfl) hw 0 rfl rfl) (SlOf.lit (enc := Ch.cells) (size := 2) (fun _ => rfl) want (Ent.row_ok.1 (hw.get (i := 1) rfl)) rfl rfl) (by decide))) ?_; rintro _ _ ⟨rfl, rfl⟩); rw [show decide (want = want) = true from decide_eq_true rfl]; refine TL.yv (Wt.some rfl rfl rfl (by rw [hlen34]; rfl)) rfl rfl (Yv.pur rfl) ?_; refine TL.y (Yv.pickF rfl rfl (by rw [hlen34]; rfl) rfl) ?_; refine TL.nil (K.seq ?_); refine T.condF rfl rfl ?_; refine T.skip (K.seq (T.seq ?_)); refine T.weaken (hs' := [.row g41 40 (want.flatMap Ch.cells), sRow g1 gl tp 3 false, sLeft gl 3 l0, Ent.fz w0]) Sub.refl (by repeat first | exact S0 | exact S1 | refine S2 ?_ | refine S3 ?_) ?_; refine T.region ?_; (refine TL.ew (Wt.none rfl) rfl rfl (Ew.callH rfl rfl rfl (fun w hw => sample_ret _)) ?_; rintro _ _ ⟨s4, -, rfl, rfl⟩); refine TL.y (Yv.build rfl rfl) ?_; (refine TL.ew (Wt.none rfl) rfl rfl (Ew.buildSlice rfl rfl rfl (by decide)) ?_; rintro _ _ ⟨g62, rfl, rfl⟩); (refine TL.ew (Wt.none rfl) rfl rfl (Ew.callD rfl rfl rfl (fun w hw => run_conf s4.pb _ _ _ _ ⟨3, 15⟩ _ w (s4.prob (by exact hw.sub (List.sublist_cons_self _ _))) (SlOf.lit (enc := Ch.cells) (size := 2) (fun _ => rfl) [⟨3, 15⟩] (Ent.row_ok.1 (hw.get (i := 0) rfl)) rfl rfl) (htab.keptF hw) (sm_ok _ _ _) (by decide) (fun Z hZ => by rw [sm_check hZ]; decide +kernel) (fun Z K d hZ hI => (sm_new hZ hI).2) (fun Z K d hZ hI => by rw [show s4.pb.left = (smp _ _ _).left from rfl, sm_asm3 hZ] at hI; exact sm_three hZ hI))) ?_; rintro _ _ ⟨rfl, rfl⟩); refine TL.run 7 rfl ?_; refine TL.nil (K.seq (T.seq ?_)); refine T.weaken (hs' := [.row g41 40 (want.flatMap Ch.cells), sRow g1 gl tp 3 false, sLeft gl 3 l0, Ent.fz w0]) Sub.refl (by repeat first | exact S0 | exact S1 | refine S2 ?_ | refine S3 ?_) ?_; refine T.permH (List.perm_append_comm (l₁ := [Ent.row g41 40 (want.flatMap Ch.cells)])) ?_; dsimp only [List.cons_append, List.nil_append]; refine T.region ?_; refine TL.run 3 rfl ?_; refine TL.yv (Wt.some rfl rfl rfl rfl) rfl rfl (Yv.pur rfl) ?_; refine TL.run 2 rfl ?_; refine TL.yv (Wt.some rfl rfl rfl rfl) rfl rfl (Yv.pur rfl) ?_; refine TL.yv (Wt.some rfl rfl rfl rfl) rfl rfl (Yv.lenSl rfl rfl) ?_; refine TL.yv (Wt.some rfl rfl rfl rfl) rfl rfl (Yv.pur rfl) ?_; refine TL.run 2 rfl ?_; refine TL.yv (Wt.some rfl rfl rfl rfl) rfl rfl (Yv.pur rfl) ?_; refine TL.yv (Wt.some rfl rfl rfl rfl) rfl rfl (Yv.build rfl rfl) ?_; rw [← hYn]; (refine TL.ew (Wt.some rfl rfl rfl rfl) rfl rfl (Ew.callL [sRow g1 gl tp Y.n false, sLeft gl Y.n l0] [Ent.fz w0, Ent.row g41 40 (want.flatMap Ch.cells)] rfl rfl rfl (List.Perm.refl _) (fun w hw hw2 => forbid_ok w0 g1 gl tp Y l0 w hT hYok (Ent.fz_ok.1 (hw2.own (Ent.fz w0) (by simp))) (htab.keptF hw) hw2.part (fun g hg hc => hw2.sep (f := Ent.fz w0) (by simp) g hg (Ent.fz_fp.2 hc)) (hw2.no0 htab) (by rw [hYn]; rfl) (sm_closed hTb rfl closed0).calm hTb.ixn ⟨1, 15⟩ (by rw [sm_check hTb]; decide +kernel))) ?_; rintro _ _ ⟨y80, hpost, rfl, rfl⟩); dsimp only [List.cons_append, List.nil_append]; rw [hYn]; have hI80 := hI0.cut hYok (by rw [sm_check hTb, hYn]; decide +kernel) (Is.of hYok (by unfold cutL; rw [List.length_set, hYn]; rfl) hpost); obtain ⟨L8, c8⟩ := y80; dsimp only at hI80 ⊢; (have hI81 : Is Y t1 L8 c8 := by rw [← sm_fbd1 hTb]; exact hI80); obtain ⟨rfl, rfl⟩ := sm_one hTb hI81; refine TL.yv (Wt.some rfl rfl rfl rfl) rfl rfl (Yv.pur rfl) ?_; refine TL.run 2 rfl ?_; refine TL.yv (Wt.some rfl rfl rfl rfl) rfl rfl (Yv.pur rfl) ?_; (refine TL.ew (Wt.some rfl rfl rfl rfl) rfl rfl (Ew.callH rfl rfl rfl (fun w hw => fixed_ret g1 Y k1 w (StF.of (Y := Y) hw hT (Ent.fz_ok.1 (hw.own (Ent.fz w0) (by simp))) (htab.keptF hw) 0 1 (by rw [hYn]; rfl) (by rw [hYn]; rfl) (by rw [hYn]; rfl)).st hYok)) ?_; rintro v85 _ ⟨_, -, rfl, rfl⟩); dsimp only [List.cons_append, List.nil_append]; rw [sm_fix1 hTb]; refine TL.yv (Wt.some rfl rfl rfl rfl) rfl rfl (Yv.pur rfl) ?_; (refine TL.ew (Wt.some rfl rfl rfl rfl) rfl rfl (Ew.callD rfl rfl rfl (fun w hw => sameList_ret want want _ _ w (SlOf.ownAt (enc := Ch.cells) (fun _ => rfl) hw 0 rfl rfl) (SlOf.lit (enc := Ch.cells) (size := 2) (fun _ => rfl) want (Ent.row_ok.1 (hw.get (i := 4) rfl)) rfl rfl) (by decide))) ?_; rintro _ _ ⟨rfl, rfl⟩); rw [show decide (want = want) = true from decide_eq_true rfl]; refine TL.run 2 rfl ?_; refine TL.yv (Wt.some rfl rfl rfl rfl) rfl rfl (Yv.pur rfl) ?_; (refine TL.ew (Wt.some rfl rfl rfl rfl) rfl rfl (Ew.callD rfl rfl rfl (fun w hw => removed_ret g1 Y k1 false w (StF.of (Y := Y) hw hT (Ent.fz_ok.1 (hw.own (Ent.fz w0) (by simp))) (htab.keptF hw) 1 2 (by rw [hYn]; rfl) (by rw [hYn]; rfl) (by rw [hYn]; rfl)).st hYok (by rw [sm_total hTb]; decide))) ?_; rintro _ _ ⟨rfl, rfl⟩); rw [sm_rem1 hTb]; refine TL.yv (Wt.some rfl rfl rfl rfl) rfl rfl (Yv.pur rfl) ?_; refine TL.run 2 rfl ?_; refine TL.yv (Wt.some rfl rfl rfl rfl) rfl rfl (Yv.pur rfl) ?_; (refine TL.ew (Wt.some rfl rfl rfl rfl) rfl rfl (Ew.callD rfl rfl rfl (fun w hw => conflict_ret g1 Y k1 false w (StF.of (Y := Y) hw hT (Ent.fz_ok.1 (hw.own (Ent.fz w0) (by simp))) (htab.keptF hw) 1 2 (by rw [hYn]; rfl) (by rw [hYn]; rfl) (by rw [hYn]; rfl)).st)) ?_; rintro _ _ ⟨rfl, rfl⟩); refine TL.yv (Wt.some rfl rfl rfl rfl) rfl rfl (Yv.pur rfl) ?_; refine TL.run 2 rfl ?_; refine TL.nil (K.seq (T.ret ?_)); refine K.ret1 rfl rfl (fun w' hw => ⟨?_, hw.isBelow⟩)
  rfl
end Go.Proofs.YtljgejbmimapdaaDoor
namespace Go.Proofs.YtljgejbmimapdaaDoor
open Go.RowKit
def law18_PropagateRuns_x (fuel : Nat) (p : GProblem) (l : List GChoice) : Option Bool :=
  (ref17_Small_x fuel p 10 40).bind fun r12 =>
  (bif ((!r12) || (decide (20 < (l.length : Int)))) then
    some true
    else
    (Run_x fuel p l).bind fun r23 =>
    (ref17_Valid_x p).bind fun r28 =>
    (bif ((!r28) || (!(ref17_ValidList_x l))) then
      some ((((decide ((r23.1.length : Int) = 0)) && (!r23.2.1)) && (decide (r23.2.2 = 2))) || false)
      else
      joinK (fun (_ : Unit) =>
        (ref18_Run_x fuel p l).bind fun r80 =>
        some ((((decide (r23.2.2 = 0)) && (!(r23.2.1 == r80.2))) && (ref17_SameDomains_x r23.1 r80.1)) || false))
      (fun k8 =>
        iterK (fun (i_10 : Nat) (next9 : Unit → Option Bool) (_ : Unit) =>
          (bif decide ((ref17_Find_x p ((nth l i_10).Station)) < 0) then
            some ((((decide ((r23.1.length : Int) = 0)) && (!r23.2.1)) && (decide (r23.2.2 = 9))) || false)
            else
            next9 ()))
        (fun (_ : Unit) =>
          k8 ()) (l.length - 0) 0 ())))
theorem law18_PropagateRuns_c (F0 : Frz) (w : World) (hF0 : F0.At w) (p : GProblem) (vp_0 : Value) (cp_0 : List (List Value)) (hp_0 : SlD GDomain.rep F0 vp_0 2 cp_0 p.Domains) (vp_1 : Value) (hp_1 : SlC F0 vp_1 5 (p.Rules.Pairs.map GPair.enc)) (vp_2 : Value) (hp_2 : SlC F0 vp_2 5 (p.Rules.Loads.map GLoad.enc)) (vp_3 : Value) (hp_3 : SlC F0 vp_3 4 (p.Rules.Caps.map GCap.enc)) (l : List GChoice) (vl : Value) (hl : SlC F0 vl 2 (l.map GChoice.enc)) (htab : Tab w) (fuel : Nat) (hfu : 100000 ≤ fuel) (r : Bool) (hr : law18_PropagateRuns_x fuel p l = some r) : Calls Tryd.prog 3 #[.agg [vp_0, vp_1, vp_2, vp_3].toArray, vl] w fun e w' => e = .returned (.bool r) ∧ Below w.heap.size w w' := by
  have hk := hr; unfold law18_PropagateRuns_x at hk; haveI := hp_0.1.oneC; haveI := hp_1.oneC; haveI := hp_2.oneC; haveI := hp_3.oneC; haveI := hl.oneC; obtain ⟨S0, F1, rfl, hS0, hp0⟩ := startF_ex hF0; refine calls_T (M := fun _ => False) (hs := [.fr F1]) Tryd.func3 rfl rfl rfl hp0 ?_; refine T.seq (T.region ?_); refine TL.e (Ew.boxA rfl rfl) ?_; rintro _ _ ⟨g2, rfl, rfl⟩; refine TL.run 1 rfl ?_; refine TL.nil (K.seq (T.seq (T.seq ?_))); have hq := bind_open hk; clear hk; obtain ⟨r12, hr12, hk⟩ := hq; (try dsimp only at hk); refine T.cutXK (ι := Unit) (fun z => [(1, vl), (2, .pointer (some ⟨g2, 0, none⟩)), (18, .bool ((!r12) || (decide (20 < (l.length : Int)))))]) (fun z => [.row g2 29 [vp_0, vp_1, vp_2, vp_3], .fr F1]) (fun z => True) ?_ ?_
  · refine T.region ?_; refine TL.y (Yv.loadAO 0 rfl rfl rfl rfl) ?_; refine TL.e (Ew.callD rfl rfl rfl (fun w hw => ref17_Small_c _ w (hw.fr (i := 1) rfl) p vp_0 cp_0 hp_0 vp_1 hp_1 vp_2 hp_2 vp_3 hp_3 10 40 fuel r12 hr12)) ?_; rintro _ _ ⟨rfl, rfl⟩; refine TL.run 2 rfl ?_; refine TL.gs rfl rfl rfl (fun h1 => ?_) (fun h1 => ?_)
    · have p1 := h1; (try simp only [nfB] at p1); refine TL.run 4 rfl ?_; refine TL.nil ?_; exact K.atX () trivial (.c (.c (.b (or_tt h1).symm .nil))) (List.Sublist.refl _)
    · have p1 := h1; (try simp only [nfB] at p1); refine TL.run 1 rfl ?_; refine TL.y (Yv.lenR rfl rfl hl (List.length_map _)) ?_; have hm16 : l.length ≤ 9223372036854775807 := (List.length_map _) ▸ hl.max; refine TL.run 2 rfl ?_; refine TL.nil ?_; exact K.atX () trivial (.c (.c (.b (or_f h1) .nil))) (List.Sublist.refl _)
  · rintro _ _; refine T.cond rfl (fun h2 => ?_) (fun h2 => ?_)
    · have p2 := h2; (try simp only [nfB] at p2); replace hk := condT_open hk h2; refine T.seq (T.region ?_); refine TL.e (Ew.callD rfl rfl rfl (fun w hw => known_ret w (htab.keptF hw))) ?_; rintro _ _ ⟨rfl, rfl⟩; refine TL.run 1 rfl ?_; refine TL.nil (K.seq (T.ret (K.then_ret ?_))); obtain rfl := Option.some.inj hk; exact K.ret1 rfl rfl (fun w' hw => ⟨rfl, hw.isBelow⟩)
    · have p2 := h2; (try simp only [nfB] at p2); replace hk := condF_open hk h2; refine T.skip (K.seq (T.seq ?_)); have hq := bind_open hk; clear hk; obtain ⟨r23, hr23, hk⟩ := hq; (try dsimp only at hk); refine T.region ?_; refine TL.y (Yv.loadAO 0 rfl rfl rfl rfl) ?_; refine TL.run 1 rfl ?_; refine TL.e (Ew.callR 1 rfl rfl rfl rfl (fun w hw hF => Run_c _ w hF p vp_0 cp_0 hp_0 vp_1 hp_1 vp_2 hp_2 vp_3 hp_3 l vl hl (htab.keptF hw) fuel hfu r23 hr23)) ?_; rintro _ _ ⟨⟨v23_0_0, cs23_0_0⟩, F2, le1_2, hf23_0_0, rfl, rfl⟩; dsimp only at hf23_0_0 ⊢; haveI := hf23_0_0.1.oneC; refine TL.run 7 rfl ?_; refine TL.nil (K.seq (T.seq (T.seq ?_))); have hq := bind_open hk; clear hk; obtain ⟨r28, hr28, hk⟩ := hq; (try dsimp only at hk); refine T.cutXK (ι := Unit) (fun z => [(1, vl), (2, .pointer (some ⟨g2, 0, none⟩)), (5, v23_0_0), (6, .bool r23.2.1), (7, .int .i64 r23.2.2), (34, .bool ((!r28) || (!(ref17_ValidList_x l))))]) (fun z => [.row g2 29 [vp_0, vp_1, vp_2, vp_3], .fr F2]) (fun z => True) ?_ ?_
      · refine T.region ?_; refine TL.y (Yv.loadAO 0 rfl rfl rfl rfl) ?_; refine TL.e (Ew.callD rfl rfl rfl (fun w hw => ref17_Valid_c _ w (hw.fr (i := 1) rfl) p vp_0 cp_0 (SlD.mono (rep := GDomain.rep) (fun _ _ _ _ => GDomain.mono) hp_0 le1_2) vp_1 (SlC.mono hp_1 le1_2) vp_2 (SlC.mono hp_2 le1_2) vp_3 (SlC.mono hp_3 le1_2) r28 hr28)) ?_; rintro _ _ ⟨rfl, rfl⟩; refine TL.run 2 rfl ?_; refine TL.gs rfl rfl rfl (fun h3 => ?_) (fun h3 => ?_)
        · have p3 := h3; (try simp only [nfB] at p3); refine TL.run 4 rfl ?_; refine TL.nil ?_; exact K.atX () trivial (.c (.c (.c (.c (.c (.b (or_tt h3).symm .nil)))))) (List.Sublist.refl _)
        · have p3 := h3; (try simp only [nfB] at p3); refine TL.run 1 rfl ?_; refine TL.e (Ew.callD rfl rfl rfl (fun w hw => ref17_ValidList_c _ w (hw.fr (i := 1) rfl) l vl (SlC.mono hl le1_2))) ?_; rintro _ _ ⟨rfl, rfl⟩; refine TL.run 2 rfl ?_; refine TL.nil ?_; exact K.atX () trivial (.c (.c (.c (.c (.c (.b (or_f h3) .nil)))))) (List.Sublist.refl _)
      · rintro _ _; refine T.cond rfl (fun h4 => ?_) (fun h4 => ?_)
        · have p4 := h4; (try simp only [nfB] at p4); replace hk := condT_open hk h4; refine T.seq ?_; refine T.cutXK (ι := Unit) (fun z => [(4, .bool ((((decide ((r23.1.length : Int) = 0)) && (!r23.2.1)) && (decide (r23.2.2 = 2))) || false))]) (fun z => [.row g2 29 [vp_0, vp_1, vp_2, vp_3], .fr F2]) (fun z => True) ?_ ?_
          · refine T.region ?_; refine TL.run 1 rfl ?_; refine TL.y (Yv.lenR rfl rfl hf23_0_0.1 hf23_0_0.2.1) ?_; have hm36 : r23.1.length ≤ 9223372036854775807 := hf23_0_0.2.1 ▸ hf23_0_0.1.max; refine TL.run 2 rfl ?_; refine TL.gs rfl rfl rfl (fun h5 => ?_) (fun h5 => ?_)
            · have p5 := of_decide_eq_true h5; refine TL.run 4 rfl ?_; refine TL.gs rfl rfl rfl (fun h6 => ?_) (fun h6 => ?_)
              · have p6 := h6; (try simp only [nfB] at p6); refine TL.run 4 rfl ?_; refine TL.gs rfl rfl rfl (fun h7 => ?_) (fun h7 => ?_)
                · have p7 := of_decide_eq_true h7; refine TL.e (Ew.callD rfl rfl rfl (fun w hw => known_ret w (htab.keptF hw))) ?_; rintro _ _ ⟨rfl, rfl⟩; refine TL.run 2 rfl ?_; refine TL.nil ?_; exact K.atX () trivial (.b (or_tt (and_tx (and_tx h5 h6) h7)).symm .nil) (List.Sublist.refl _)
                · have p7 := of_decide_eq_false h7; refine TL.run 3 rfl ?_; refine TL.nil ?_; exact K.atX () trivial (.b (or_fx (and_tx (and_tx h5 h6) h7) rfl).symm .nil) (List.Sublist.refl _)
              · have p6 := h6; (try simp only [nfB] at p6); refine TL.run 7 rfl ?_; refine TL.nil ?_; exact K.atX () trivial (.b (or_fx (and_ff (and_tx h5 h6)) rfl).symm .nil) (List.Sublist.refl _)
            · have p5 := of_decide_eq_false h5; refine TL.run 11 rfl ?_; refine TL.nil ?_; exact K.atX () trivial (.b (or_fx (and_ff (and_ff h5)) rfl).symm .nil) (List.Sublist.refl _)
          · rintro _ _; refine T.ret (K.then_ret ?_); obtain rfl := Option.some.inj hk; exact K.ret1 rfl rfl (fun w' hw => ⟨rfl, hw.isBelow⟩)
        · have p4 := h4; (try simp only [nfB] at p4); replace hk := condF_open hk h4; refine T.skip (K.seq (T.seq (T.seq (T.region ?_)))); refine TL.run 1 rfl ?_; refine TL.nil (K.seq ?_); have hq := joinK_open hk; clear hk; obtain ⟨k8, hk8, hk⟩ := hq; (try dsimp only at hk); refine T.cutXK (ι := Unit) (fun z => [(1, vl), (2, .pointer (some ⟨g2, 0, none⟩)), (5, v23_0_0), (6, .bool r23.2.1), (7, .int .i64 r23.2.2)]) (fun z => [.row g2 29 [vp_0, vp_1, vp_2, vp_3], .fr F2]) (fun z => k8 () = some r) ?_ ?_
          · have hq := iterK_open hk; clear hk; obtain ⟨f9, kk9, hf9, hkk9, hk⟩ := hq; refine T.block ?_; refine T.loop (ι := Nat) (fun z => [(1, vl), (2, .pointer (some ⟨g2, 0, none⟩)), (5, v23_0_0), (6, .bool r23.2.1), (7, .int .i64 r23.2.2), (8, .int .i64 (z : Int))]) (fun z => [.row g2 29 [vp_0, vp_1, vp_2, vp_3], .fr F2]) (fun z => iterK f9 kk9 (l.length - z) z () = some r) (fun z => l.length - z) 0 ?_ ?_ ?_ ?_
            · exact hk
            · exact (.c (.c (.c (.c (.c (.c .nil))))))
            · exact List.Sublist.refl _
            · rintro i_10 hk; refine T.seq (T.seq (T.region ?_)); refine TL.run 2 rfl ?_; refine TL.y (Yv.lenR rfl rfl (SlC.mono hl le1_2) (List.length_map _)) ?_; have hm51 : l.length ≤ 9223372036854775807 := (List.length_map _) ▸ (SlC.mono hl le1_2).max; refine TL.run 1 rfl ?_; refine TL.nil (K.seq ?_); refine T.cond rfl (fun h11 => ?_) (fun h11 => ?_)
              · have p11 := of_decide_eq_true h11; rw [iterK_lt (by omega)] at hk; generalize hn9 : iterK f9 kk9 (l.length - (i_10 + 1)) (i_10 + 1) = next9 at hk; rw [← hf9] at hk; (try dsimp only at hk); refine T.skip (K.seq (T.seq (T.block (T.seq ?_)))); refine T.draw (.still 0 (.still 1 (.still 2 (.still 3 (.still 4 (.still 5 (.eff 6 (.still 7 .done)))))))) _ (by kernel_rfl) (List.Sublist.refl _) ?_; refine TS.y rfl (Yv.loadAO 0 rfl rfl rfl rfl) ?_; refine TS.run 2 rfl ?_; refine TS.y rfl (Yv.idxR (i := i_10) rfl rfl rfl (SlC.mono hl le1_2) (List.length_map _) rfl (by omega)) ?_; refine TS.y rfl (Yv.fldR rfl rfl (SlC.mono hl le1_2) (List.length_map _) (by omega)) ?_; refine TS.y rfl (Yv.loadRF 1 (i := i_10) (j := 0) rfl rfl rfl (SlC.mono hl le1_2) (by omega) rfl rfl) ?_; refine TS.eff ?_; refine TSo.ewG rfl (Wt.none rfl) rfl rfl (Ew.callD rfl rfl rfl (fun w hw => ref17_Find_c _ w (hw.fr (i := 1) rfl) p vp_0 cp_0 (SlD.mono (rep := GDomain.rep) (fun _ _ _ _ => GDomain.mono) hp_0 le1_2) vp_1 (SlC.mono hp_1 le1_2) vp_2 (SlC.mono hp_2 le1_2) vp_3 (SlC.mono hp_3 le1_2) ((nth l i_10).Station))) ?_; rintro _ _ ⟨rfl, rfl⟩; refine ⟨(fun w hw => hw.sub (by repeat first | exact S0 | exact S1 | refine S2 ?_ | refine S3 ?_)), ?_⟩; refine TS.run 1 rfl ?_; refine TS.done ?_; refine K.seq ?_; refine T.cond rfl (fun h12 => ?_) (fun h12 => ?_)
                · have p12 := of_decide_eq_true h12; replace hk := condT_open hk h12; refine T.seq ?_; refine T.cutXK (ι := Unit) (fun z => [(4, .bool ((((decide ((r23.1.length : Int) = 0)) && (!r23.2.1)) && (decide (r23.2.2 = 9))) || false))]) (fun z => [.row g2 29 [vp_0, vp_1, vp_2, vp_3], .fr F2]) (fun z => True) ?_ ?_
                  · refine T.region ?_; refine TL.run 1 rfl ?_; refine TL.y (Yv.lenR rfl rfl hf23_0_0.1 hf23_0_0.2.1) ?_; have hm64 : r23.1.length ≤ 9223372036854775807 := hf23_0_0.2.1 ▸ hf23_0_0.1.max; refine TL.run 2 rfl ?_; refine TL.gs rfl rfl rfl (fun h13 => ?_) (fun h13 => ?_)
                    · have p13 := of_decide_eq_true h13; refine TL.run 4 rfl ?_; refine TL.gs rfl rfl rfl (fun h14 => ?_) (fun h14 => ?_)
                      · have p14 := h14; (try simp only [nfB] at p14); refine TL.run 4 rfl ?_; refine TL.gs rfl rfl rfl (fun h15 => ?_) (fun h15 => ?_)
                        · have p15 := of_decide_eq_true h15; refine TL.e (Ew.callD rfl rfl rfl (fun w hw => known_ret w (htab.keptF hw))) ?_; rintro _ _ ⟨rfl, rfl⟩; refine TL.run 2 rfl ?_; refine TL.nil ?_; exact K.atX () trivial (.b (or_tt (and_tx (and_tx h13 h14) h15)).symm .nil) (List.Sublist.refl _)
                        · have p15 := of_decide_eq_false h15; refine TL.run 3 rfl ?_; refine TL.nil ?_; exact K.atX () trivial (.b (or_fx (and_tx (and_tx h13 h14) h15) rfl).symm .nil) (List.Sublist.refl _)
                      · have p14 := h14; (try simp only [nfB] at p14); refine TL.run 7 rfl ?_; refine TL.nil ?_; exact K.atX () trivial (.b (or_fx (and_ff (and_tx h13 h14)) rfl).symm .nil) (List.Sublist.refl _)
                    · have p13 := of_decide_eq_false h13; refine TL.run 11 rfl ?_; refine TL.nil ?_; exact K.atX () trivial (.b (or_fx (and_ff (and_ff h13)) rfl).symm .nil) (List.Sublist.refl _)
                  · rintro _ _; refine T.ret (K.blk_ret (K.then_ret (K.then_ret (K.blk_ret (K.then_ret ?_))))); obtain rfl := Option.some.inj hk; exact K.ret1 rfl rfl (fun w' hw => ⟨rfl, hw.isBelow⟩)
                · have p12 := of_decide_eq_false h12; replace hk := condF_open hk h12; refine T.skip (K.blk_normal (K.seq (T.region ?_))); refine TL.run 1 rfl ?_; refine TL.y (Yv.addI rfl rfl rfl (by omega)) ?_; refine TL.run 1 rfl ?_; refine TL.nil ?_; rw [← hn9] at hk; exact K.next (i_10 + 1) hk (by omega) (.c (.c (.c (.c (.c (.c .nil)))))) (List.Sublist.refl _)
              · have p11 := of_decide_eq_false h11; rw [iterK_ge (by omega), ← hkk9] at hk; (try dsimp only at hk); refine T.exit (K.then_exit (K.then_exit (K.blk_exit_eq ?_))); exact K.atX () hk (.c (.c (.c (.c (.c .nil))))) (List.Sublist.refl _)
          · rintro _ hk; rw [← hk8] at hk; (try dsimp only at hk); refine T.seq ?_; have hq := bind_open hk; clear hk; obtain ⟨r80, hr80, hk⟩ := hq; (try dsimp only at hk); refine T.region ?_; refine TL.y (Yv.loadAO 0 rfl rfl rfl rfl) ?_; refine TL.run 1 rfl ?_; refine TL.e (Ew.callR 1 rfl rfl rfl rfl (fun w hw hF => ref18_Run_c _ w hF p vp_0 cp_0 (SlD.mono (rep := GDomain.rep) (fun _ _ _ _ => GDomain.mono) hp_0 le1_2) vp_1 (SlC.mono hp_1 le1_2) vp_2 (SlC.mono hp_2 le1_2) vp_3 (SlC.mono hp_3 le1_2) l vl (SlC.mono hl le1_2) fuel r80 hr80)) ?_; rintro _ _ ⟨⟨v80_0_0, cs80_0_0⟩, F3, le2_3, hf80_0_0, rfl, rfl⟩; dsimp only at hf80_0_0 ⊢; have le1_3 := le1_2.trans le2_3; haveI := hf80_0_0.1.oneC; refine TL.run 5 rfl ?_; refine TL.nil (K.seq (T.seq ?_)); refine T.cutXK (ι := Unit) (fun z => [(4, .bool ((((decide (r23.2.2 = 0)) && (!(r23.2.1 == r80.2))) && (ref17_SameDomains_x r23.1 r80.1)) || false))]) (fun z => [.row g2 29 [vp_0, vp_1, vp_2, vp_3], .fr F3]) (fun z => True) ?_ ?_
            · refine T.region ?_; refine TL.run 3 rfl ?_; refine TL.gs rfl rfl rfl (fun h16 => ?_) (fun h16 => ?_)
              · have p16 := of_decide_eq_true h16; refine TL.run 2 rfl ?_; refine TL.y (Yv.neB (by kernel_rfl) rfl rfl rfl) ?_; refine TL.run 2 rfl ?_; refine TL.gs rfl rfl rfl (fun h17 => ?_) (fun h17 => ?_)
                · have p17 := h17; (try simp only [nfB] at p17); refine TL.run 2 rfl ?_; refine TL.e (Ew.callD rfl rfl rfl (fun w hw => ref17_SameDomains_c _ w (hw.fr (i := 1) rfl) r23.1 v23_0_0 cs23_0_0 (SlD.mono (rep := GDomain.rep) (fun _ _ _ _ => GDomain.mono) hf23_0_0 le2_3) r80.1 v80_0_0 cs80_0_0 hf80_0_0)) ?_; rintro _ _ ⟨rfl, rfl⟩; refine TL.run 2 rfl ?_; refine TL.gs rfl rfl rfl (fun h18 => ?_) (fun h18 => ?_)
                  · have p18 := h18; (try simp only [nfB] at p18); refine TL.e (Ew.callD rfl rfl rfl (fun w hw => known_ret w (htab.keptF hw))) ?_; rintro _ _ ⟨rfl, rfl⟩; refine TL.run 2 rfl ?_; refine TL.nil ?_; exact K.atX () trivial (.b (or_tt (and_tx (and_tx h16 h17) h18)).symm .nil) (List.Sublist.refl _)
                  · have p18 := h18; (try simp only [nfB] at p18); refine TL.run 3 rfl ?_; refine TL.nil ?_; exact K.atX () trivial (.b (or_fx (and_tx (and_tx h16 h17) h18) rfl).symm .nil) (List.Sublist.refl _)
                · have p17 := h17; (try simp only [nfB] at p17); refine TL.run 8 rfl ?_; refine TL.nil ?_; exact K.atX () trivial (.b (or_fx (and_ff (and_tx h16 h17)) rfl).symm .nil) (List.Sublist.refl _)
              · have p16 := of_decide_eq_false h16; refine TL.run 13 rfl ?_; refine TL.nil ?_; exact K.atX () trivial (.b (or_fx (and_ff (and_ff h16)) rfl).symm .nil) (List.Sublist.refl _)
            · rintro _ _; refine T.ret ?_; obtain rfl := Option.some.inj hk; exact K.ret1 rfl rfl (fun w' hw => ⟨rfl, hw.isBelow⟩)
end Go.Proofs.YtljgejbmimapdaaDoor
namespace Go.Proofs.YtljgejbmimapdaaDoor
open Go.RowKit
theorem small_x {p : GProblem} {a b : Int} {fuel : Nat} (hf : 1000 ≤ fuel) : ∃ r, ref17_Small_x fuel p a b = some r := by
  unfold ref17_Small_x; simp only [joinK]; refine whileK_inv (σ := Int) (I := fun i => 0 ≤ i ∧ i ≤ 600) (μ := fun i => (600 - i).toNat) (post := fun o => ∃ r, o = some r) ⟨by omega, by omega⟩ (by omega) ?_; intro i next hi hn; by_cases h1 : i < (p.Domains.length : Int) <;> by_cases h2 : i < 600
  · rw [decide_eq_true h1, decide_eq_true h2, Bool.and_true, cond_true, grd_pos ⟨hi.1, h1⟩]
    cases decide (60 < ((nth p.Domains i.toNat).Channels.length : Int))
    · exact hn _ ⟨by omega, by omega⟩ (by omega)
    · exact ⟨_, rfl⟩
  · rw [decide_eq_false h2, Bool.and_false, cond_false]; exact ⟨_, rfl⟩
  · rw [decide_eq_false h1, Bool.false_and, cond_false]; exact ⟨_, rfl⟩
  · rw [decide_eq_false h1, Bool.false_and, cond_false]; exact ⟨_, rfl⟩
/-! ### What is kept -/
theorem keepD_st {s c : Int} {x : GDomain} : (keepD s c x).Station = x.Station := rfl
theorem keepD_mem {s c : Int} {x : GDomain} {q : Int} : q ∈ (keepD s c x).Channels ↔ q ∈ x.Channels ∧ (x.Station = s → q = c) := by
  unfold keepD; dsimp only; by_cases hs : x.Station = s
  · rw [decide_eq_true hs, cond_true]
    cases ha : x.Channels.any (fun k => decide (k = c)) with
    | true =>
      rw [cond_true]; obtain ⟨k, hk, he⟩ := List.any_eq_true.1 ha; have := of_decide_eq_true he; subst this; simp only [List.mem_singleton]; exact ⟨fun h => by subst h; exact ⟨hk, fun _ => rfl⟩, fun h => h.2 hs⟩
    | false =>
      rw [cond_false]; refine ⟨(fun h => by cases h), fun h => ?_⟩; have := h.2 hs; subst this; have := List.any_eq_false.1 ha q h.1; simp at this
  · rw [decide_eq_false hs, cond_false]; exact ⟨fun h => ⟨h, fun h2 => absurd h2 hs⟩, fun h => h.1⟩
theorem keepD_sub {s c : Int} {x : GDomain} : (keepD s c x).Channels.Sublist x.Channels := by
  unfold keepD; dsimp only
  cases decide (x.Station = s)
  · exact List.Sublist.refl _
  · cases ha : x.Channels.any (fun k => decide (k = c))
    · exact List.nil_sublist _
    · obtain ⟨k, hk, he⟩ := List.any_eq_true.1 ha; have := of_decide_eq_true he; subst this; exact List.singleton_sublist.2 hk
section
variable {p : GProblem} {a b d : List GDomain}
theorem keep_sub {s c : Int} : SubD (d.map (keepD s c)) d ∧ OrdD (d.map (keepD s c)) d := by
  refine ⟨⟨List.length_map _, fun i hi => ?_⟩, fun i hi => ?_⟩
  · rw [nth_mapG hi]; exact ⟨rfl, fun k hk => (keepD_mem.1 hk).1⟩
  · rw [nth_mapG hi]; exact keepD_sub
theorem keep_mono {s c : Int} (h : SubD a b) : SubD (a.map (keepD s c)) (b.map (keepD s c)) := by
  refine ⟨by rw [List.length_map, List.length_map, h.1], fun i hi => ?_⟩; rw [List.length_map] at hi; rw [nth_mapG hi, nth_mapG (by rw [h.1]; exact hi)]; have h2 := h.2 i hi; refine ⟨h2.1, fun k hk => ?_⟩; rw [keepD_mem] at hk ⊢; exact ⟨h2.2 k hk.1, fun e => hk.2 (h2.1.trans e)⟩
theorem OrdD.trans {c : List GDomain} (h : OrdD a b) (k : OrdD b c) (hl : b.length = c.length) : OrdD a c := fun i hi => (h i (by rw [hl]; exact hi)).trans (k i hi)
theorem Bd.ord (hb : Bd b) (hl : a.length = b.length) (h : OrdD a b) : Bd a := by
  refine ⟨by rw [hl]; exact hb.len, fun x hx => ?_⟩; obtain ⟨i, hi, rfl⟩ := mem_nth hx; (have hi' : i < b.length := by rw [← hl]; exact hi); have h2 := hb.ch _ (nth_memG hi'); exact ⟨Nat.le_trans (h i hi').length_le h2.1, h2.2.sublist (h i hi')⟩
theorem totG_ord : ∀ {a b : List GDomain}, a.length = b.length → OrdD a b → totG a ≤ totG b
  | [], [], _, _ => Nat.le_refl _
  | x :: r, y :: q, hl, h => by
    have h0 := (h 0 (by simp)).length_le
    have ih := totG_ord (a := r) (b := q) (by simpa using hl) (fun i hi => by
      have := h (i + 1) (by simp; omega)
      simpa [nth] using this)
    simp only [totG, List.map_cons, List.sum_cons] at ih ⊢; have e1 : nth (x :: r) 0 = x := rfl; have e2 : nth (y :: q) 0 = y := rfl; rw [e1, e2] at h0; omega
/-- The result is the only one. -/
theorem PropD.eq {r r' : List GDomain × Bool} (hb : Bd d) (h : PropD p d r) (h' : PropD p d r') : r = r' := by
  rcases h with ⟨h1, h2, h3, h4⟩ | ⟨h1, h2⟩
  · rcases h' with ⟨g1, g2, g3, g4⟩ | ⟨g1, g2⟩
    · have e1 := h4 _ g2 g3.1; have e2 := g4 _ h2 h3.1
      have : r.1 = r'.1 := by
        refine ext_nth (by rw [e2.1]) fun i hi => ?_; (have hi1 : i < r'.1.length := by rw [← e2.1]; exact hi); (have hid : i < d.length := by rw [← h3.1.1]; exact hi); have a1 := e1.2 i hi; have a2 := e2.2 i hi1; have hch : (nth r.1 i).Channels = (nth r'.1 i).Channels := sublist_ext (h3.2 i hid) (g3.2 i hid) (hb.ch _ (nth_memG hid)).2 (fun x => ⟨a2.2 x, a1.2 x⟩)
        cases hx : nth r.1 i with
        | mk s1 c1 =>
          cases hy : nth r'.1 i with
          | mk s2 c2 =>
            have b1 := a2.1; rw [hx, hy] at b1 hch; simp only at b1 hch; rw [b1, hch]
      exact Prod.ext this (h1.trans g1.symm)
    · exact absurd h3.1 (g2 _ h2)
  · rcases h' with ⟨g1, g2, g3, g4⟩ | ⟨g1, g2⟩
    · exact absurd g3.1 (h2 _ g2)
    · rw [h1, g1]
/-- A step from what is propagated. -/
theorem PropD.keep {m r : List GDomain × Bool} {s c : Int} (h : PropD p d m) (hm : m.2 = true) (hr : PropD p (m.1.map (keepD s c)) r) : PropD p (d.map (keepD s c)) r := by
  rcases h with ⟨_, h2, h3, h4⟩ | ⟨h1, _⟩
  · have hsup : ∀ S, ClosedD p S → SubD S (d.map (keepD s c)) → SubD S (m.1.map (keepD s c)) := fun S hS hs => by
      have h5 := h4 S hS (hs.trans keep_sub.1); refine ⟨by rw [List.length_map]; exact h5.1, fun i hi => ?_⟩; rw [List.length_map] at hi; (have hid : i < d.length := by rw [← h3.1.1]; exact hi); rw [nth_mapG hi]; have h6 := h5.2 i hi; refine ⟨h6.1, fun k hk => keepD_mem.2 ⟨h6.2 k hk, fun e => ?_⟩⟩; have h7 := (hs.2 i (by rw [List.length_map]; exact hid)).2 k hk; rw [nth_mapG hid] at h7; exact (keepD_mem.1 h7).2 (by rw [← (h3.1.2 i hid).1]; exact e)
    rcases hr with ⟨g1, g2, g3, g4⟩ | ⟨g1, g2⟩
    · refine .inl ⟨g1, g2, ⟨g3.1.trans (keep_mono h3.1), fun i hi => ?_⟩, fun S hS hs => g4 S hS (hsup S hS hs)⟩; rw [List.length_map] at hi; (have hi' : i < m.1.length := by rw [h3.1.1]; exact hi); have h8 := g3.2 i (by rw [List.length_map]; exact hi'); rw [nth_mapG hi'] at h8; rw [nth_mapG hi]; refine h8.trans ?_; have hst := (h3.1.2 i hi).1; have hsb := h3.2 i hi; unfold keepD; dsimp only; rw [hst]
      cases decide ((nth d i).Station = s)
      · exact hsb
      · cases ha : (nth m.1 i).Channels.any (fun k => decide (k = c))
        · exact List.nil_sublist _
        · obtain ⟨k, hk, he⟩ := List.any_eq_true.1 ha; rw [List.any_eq_true.2 ⟨k, hsb.subset hk, he⟩]; exact List.Sublist.refl _
    · exact .inr ⟨g1, fun S hS hs => g2 S hS (hsup S hS hs)⟩
  · rw [h1] at hm; cases hm
theorem PropD.keepBad {m : List GDomain × Bool} {d' : List GDomain} (h : PropD p d m) (hm : m.2 = false) (hs : SubD d' d) : PropD p d' m := by
  rcases h with ⟨h1, _⟩ | ⟨h1, h2⟩
  · rw [h1] at hm; cases hm
  · exact .inr ⟨h1, fun S hS hh => h2 S hS (hh.trans hs)⟩
theorem PropD.ord {m : List GDomain × Bool} (h : PropD p d m) (hm : m.2 = true) : m.1.length = d.length ∧ OrdD m.1 d := by
  rcases h with ⟨_, _, h3, _⟩ | ⟨h1, _⟩
  · exact ⟨h3.1.1, h3.2⟩
  · rw [h1] at hm; cases hm
/-! ### Lists of choices -/
def chOkG (l : List GChoice) (i : Nat) : Bool := inB (nth l i).Station 0 511 && (inB (nth l i).Channel 2 51 && !(decide (0 < (i : Int)) && decide ((nth l i).Station ≤ (nth l (i - 1)).Station)))
theorem pvalidList_x {l : List GChoice} : problem_ValidList_x l = (List.range l.length).all (chOkG l) := by
  unfold problem_ValidList_x; simp only [joinK, Nat.sub_zero]; rw [iterK_all (chOkG l) (fun i next _ => ?_), Bool.and_true]; rw [toNat_pred]; unfold chOkG
  show (bif !(inB (nth l i).Station 0 511) || !(inB (nth l i).Channel 2 51) then false else _) = _
  cases inB (nth l i).Station 0 511 <;> cases inB (nth l i).Channel 2 51 <;> cases (decide (0 < (i : Int)) && decide ((nth l i).Station ≤ (nth l (i - 1)).Station)) <;> rfl
theorem rvalidList_x {l : List GChoice} : ref17_ValidList_x l = (List.range l.length).all (chOkG l) := by
  unfold ref17_ValidList_x; simp only [joinK, Nat.sub_zero]; rw [iterK_all (chOkG l) (fun i next _ => ?_), Bool.and_true]; rw [toNat_pred, station_x]
  have e : chOkG l i = (inB (nth l i).Station 0 511 && (!decide ((nth l i).Channel < 2) && (!decide (51 < (nth l i).Channel) && !(decide (0 < (i : Int)) && decide ((nth l i).Station ≤ (nth l (i - 1)).Station))))) := by
    unfold chOkG; rw [← Bool.and_assoc (!decide _)]
    congr 1
    congr 1
    unfold inB; by_cases h1 : 2 ≤ (nth l i).Channel <;> by_cases h2 : (nth l i).Channel ≤ 51 <;> simp [h1, h2, Int.not_lt, Int.not_le] <;> omega
  rw [e]
  cases inB (nth l i).Station 0 511 <;> cases decide ((nth l i).Channel < 2) <;> cases decide (51 < (nth l i).Channel) <;> cases (decide (0 < (i : Int)) && decide ((nth l i).Station ≤ (nth l (i - 1)).Station)) <;> rfl
theorem chOkG_good {l : List GChoice} (h : (List.range l.length).all (chOkG l) = true) {i : Nat} (hi : i < l.length) : goodC (nth l i) = true := by
  have := List.all_eq_true.1 h i (List.mem_range.2 hi); unfold chOkG inB at this; simp only [Bool.and_eq_true, decide_eq_true_eq] at this; unfold goodC; exact decide_eq_true (by omega)
/-! ### Valid problems -/
theorem pbG_er (p : GProblem) : (pbG p).er = p := by
  unfold pbG Pb.er; dsimp only; rw [map_er (g := Dx.er) (fun _ => rfl), map_er (g := Pr.er) (fun _ => rfl), map_er (g := Ld.er) (fun _ => rfl), map_er (g := Cp.er) (fun _ => rfl)]
theorem totG_le_mul {d : List GDomain} {n : Nat} (h : ∀ x ∈ d, x.Channels.length ≤ n) : totG d ≤ d.length * n := by
  induction d with
  | nil => simp [totG]
  | cons x r ih =>
    have h1 := h x (by simp); have h2 := ih (fun y hy => h y (by simp [hy])); simp only [totG, List.map_cons, List.sum_cons, List.length_cons, Nat.add_mul] at h2 ⊢; omega
theorem okG_bd (h : okG p = true) : WtP p ∧ Bd p.Domains ∧ totG p.Domains ≤ 30000 ∧ p.Domains.length ≤ 512 := by
  have hG := Pb.good h; have hw := wt_er h; rw [pbG_er] at hw; have hl : (pbG p).ds.length = p.Domains.length := List.length_map _; (have hn : p.Domains.length ≤ 512 := by rw [← hl]; exact hG.n)
  have hc : ∀ x ∈ p.Domains, x.Channels.length ≤ 52 ∧ x.Channels.Nodup := fun x hx => by
    obtain ⟨i, hi, rfl⟩ := mem_nth hx; have e : nth (pbG p).ds i = (nth p.Domains i).b := nth_mapF hi; have h1 := hG.chs _ (nth_memG (show i < (pbG p).ds.length by rw [hl]; exact hi)); have h2 := inc_sub h (i := i) (by rw [hl]; exact hi); rw [e] at h1 h2; exact ⟨h1.1, (mapI_nodup List.nodup_range').sublist h2⟩
  refine ⟨hw, ⟨by omega, fun x hx => ⟨by have := (hc x hx).1; omega, (hc x hx).2⟩⟩, ?_, hn⟩; have := totG_le_mul (d := p.Domains) (n := 52) (fun x hx => (hc x hx).1); omega
/-! ### Choices are assumed -/
def keepL (d : List GDomain) (l : List GChoice) : List GDomain := l.foldl (fun d c => d.map (keepD c.Station c.Channel)) d
theorem keepL_take {d : List GDomain} {l : List GChoice} {i : Nat} (hi : i < l.length) : keepL d (l.take (i + 1)) = (keepL d (l.take i)).map (keepD (nth l i).Station (nth l i).Channel) := by
  unfold keepL; rw [List.take_succ_eq_append_getElem hi, nth_eq hi, List.foldl_append]; rfl
theorem keepL_sub {d : List GDomain} : ∀ {l : List GChoice}, SubD (keepL d l) d ∧ OrdD (keepL d l) d := by
  intro l
  induction l generalizing d with
  | nil => exact ⟨.refl _, fun _ _ => List.Sublist.refl _⟩
  | cons c r ih =>
    have h1 := ih (d := d.map (keepD c.Station c.Channel)); have h2 := keep_sub (d := d) (s := c.Station) (c := c.Channel); exact ⟨h1.1.trans h2.1, h1.2.trans h2.2 h2.1.1⟩
theorem keepL_app {d : List GDomain} {l l' : List GChoice} : keepL d (l ++ l') = keepL (keepL d l) l' := by unfold keepL; rw [List.foldl_append]
theorem stAct_keep {fuel : Nat} (hf : 100000 ≤ fuel) (hp : WtP p) (hb : Bd d) (ht : totG d ≤ 30000) (hl : d.length ≤ 512) {c : GChoice} (hg : goodC c = true) (hh : hasSt p c.Station = true) : ∃ r, stAct fuel p (d, true) true c = some (r, 0) ∧ PropD p (d.map (keepD c.Station c.Channel)) r := by
  have hk := keep_sub (d := d) (s := c.Station) (c := c.Channel); have hb' := hb.ord hk.1.1 hk.2; have ht' := totG_ord hk.1.1 hk.2; obtain ⟨r, h1, h2⟩ := propagate_x (fuel := fuel) hp hb' (by rw [hk.1.1]; omega) (by omega); refine ⟨r, ?_, h2⟩; unfold stAct; rw [hg, hh]; simp only [Bool.not_true, cond_false, cond_true]; rw [keep_x hb.len (fun x hx => (hb.ch x hx).1), Option.bind_some, h1, Option.bind_some]
theorem run_x {fuel : Nat} (hf : 100000 ≤ fuel) {l : List GChoice} (hok : okG p = true) (hv : (List.range l.length).all (chOkG l) = true) (hst : ∀ i, i < l.length → hasSt p (nth l i).Station = true) : ∃ m, PropD p (keepL p.Domains l) m ∧ Run_x fuel p l = some (m.1, !m.2, 0) := by
  obtain ⟨hw, hb, ht, hn⟩ := okG_bd hok; obtain ⟨m0, h1, h2⟩ := propagate_x (fuel := fuel) hw hb (by omega) (by omega); unfold Run_x; rw [hok, cond_true, h1, Option.bind_some, pvalidList_x, hv]; simp only [Bool.not_true, cond_false, joinK, Nat.sub_zero]; rw [iterK_allO (n := l.length) (z := some (([] : List GDomain), false, (9 : Int))) (fun i => hasSt p (nth l i).Station) (fun i next hi => by cases hasSt p (nth l i).Station <;> rfl), List.all_eq_true.2 (fun i hi => hst i (List.mem_range.1 hi)), cond_true]; refine iterK_inv (σ := List GDomain × Bool) (I := fun i m => PropD p (keepL p.Domains (l.take i)) m) (post := fun o => ∃ m, PropD p (keepL p.Domains l) m ∧ o = some (m.1, !m.2, 0)) h2 ?_ ?_
  · intro m hm; rw [List.take_length] at hm; exact ⟨m, hm, rfl⟩
  · intro i m next hi hm hnx
    cases hc : m.2 with
    | false =>
      simp only [Bool.not_false, cond_true]; refine ⟨m, hm.keepBad hc ?_, by rw [hc]; rfl⟩; have e : l = l.take i ++ l.drop i := (List.take_append_drop i l).symm
      conv => lhs; rw [e, keepL_app]
      exact keepL_sub.1
    | true =>
      simp only [Bool.not_true, cond_false]; obtain ⟨ho1, ho2⟩ := hm.ord hc; have hk := keepL_sub (d := p.Domains) (l := l.take i); have hbm : Bd m.1 := hb.ord (ho1.trans hk.1.1) (ho2.trans hk.2 hk.1.1); have htm := totG_ord (ho1.trans hk.1.1) (ho2.trans hk.2 hk.1.1); (have hlm : m.1.length ≤ 512 := by rw [ho1, hk.1.1]; exact hn); obtain ⟨r, h3, h4⟩ := stAct_keep hf hw hbm (by omega) hlm (chOkG_good hv hi) (hst i hi); (have e : m = (m.1, true) := by rw [← hc]); rw [e, h3, Option.bind_some]; refine hnx _ ?_; rw [keepL_take hi]; exact hm.keep hc h4
theorem refRun_x {fuel : Nat} {l : List GChoice} (hok : okG p = true) : ref18_Run_x fuel p l = (ref18_Propagate_x fuel p (keepL p.Domains l)).bind fun r => some (r.1, r.2) := by
  obtain ⟨hw, hb, ht, hn⟩ := okG_bd hok; unfold ref18_Run_x; simp only [joinK, Nat.sub_zero]; refine (iterK_foldI (fun _ d => Bd d) (fun i d => d.map (keepD (nth l i).Station (nth l i).Channel)) hb (fun i d _ h => h.ord keep_sub.1.1 keep_sub.2) (fun i next d hi hd => ?_)).1.trans ?_
  · rw [keep_x hd.len (fun x hx => (hd.ch x hx).1), Option.bind_some]
  · rw [range_foldl (l := l) (g := fun (d : List GDomain) (c : GChoice) => d.map (keepD c.Station c.Channel))]; rfl
theorem sameInts_x {a b : List Int} : ref17_SameInts_x a b = decide (a = b) := by
  unfold ref17_SameInts_x; simp only [joinK, Nat.sub_zero]; by_cases hl : a.length = b.length
  · rw [decide_eq_false (by simp [hl]), cond_false, iterK_all (fun i => decide (nth a i = nth b i)) (fun i next _ => by by_cases h : nth a i = nth b i <;> simp [h]), Bool.and_true, Bool.eq_iff_iff, List.all_eq_true, decide_eq_true_eq]; constructor
    · intro h; exact ext_nth hl fun i hi => of_decide_eq_true (h i (List.mem_range.2 hi))
    · rintro rfl i _; simp
  · rw [decide_eq_true (by omega), cond_true, decide_eq_false (fun e => hl (by rw [e]))]
theorem sameDomains_x {a b : List GDomain} : ref17_SameDomains_x a b = decide (a = b) := by
  unfold ref17_SameDomains_x; simp only [joinK, Nat.sub_zero, sameInts_x]; by_cases hl : a.length = b.length
  · rw [decide_eq_false (by simp [hl]), cond_false, iterK_all (fun i => decide (nth a i = nth b i)) (fun i next _ => ?_), Bool.and_true, Bool.eq_iff_iff, List.all_eq_true, decide_eq_true_eq]
    · constructor
      · intro h; exact ext_nth hl fun i hi => of_decide_eq_true (h i (List.mem_range.2 hi))
      · rintro rfl i _; simp
    · have e : decide (nth a i = nth b i) = (decide ((nth a i).Station = (nth b i).Station) && decide ((nth a i).Channels = (nth b i).Channels)) := by
        rw [Bool.eq_iff_iff]; simp only [Bool.and_eq_true, decide_eq_true_eq]; constructor
        · intro h; rw [h]; exact ⟨rfl, rfl⟩
        · intro h
          cases hx : nth a i
          cases hy : nth b i
          rw [hx, hy] at h; simp only at h; rw [h.1, h.2]
      rw [e]; by_cases h1 : (nth a i).Station = (nth b i).Station <;> by_cases h2 : (nth a i).Channels = (nth b i).Channels <;> simp [h1, h2]
  · rw [decide_eq_true (by omega), cond_true, decide_eq_false (fun e => hl (by rw [e]))]
theorem hasSt_find {s : Int} : ref17_Find_x p s < 0 ↔ hasSt p s = false := find_x
theorem runs_true {fuel : Nat} (hf : 100000 ≤ fuel) (l : List GChoice) : law18_PropagateRuns_x fuel p l = some true := by
  unfold law18_PropagateRuns_x; obtain ⟨b, hb⟩ := small_x (p := p) (a := 10) (b := 40) (fuel := fuel) (by omega); rw [hb, Option.bind_some]
  cases (!b || decide (20 < (l.length : Int))) with
  | true => rfl
  | false =>
    rw [cond_false]
    cases hok : okG p with
    | false =>
      (have e : Run_x fuel p l = some ([], false, 2) := by unfold Run_x; rw [hok]; rfl); rw [e, Option.bind_some, valid_x, hok]; rfl
    | true =>
      obtain ⟨hw, hbd, ht, hn⟩ := okG_bd hok; obtain ⟨m0, h1, h2⟩ := propagate_x (fuel := fuel) hw hbd (by omega) (by omega)
      cases hv : (List.range l.length).all (chOkG l) with
      | false =>
        (have e : Run_x fuel p l = some ([], false, 2) := by unfold Run_x; rw [hok, cond_true, h1, Option.bind_some, pvalidList_x, hv]; rfl); rw [e, Option.bind_some, valid_x, hok, rvalidList_x, hv]; rfl
      | true =>
        by_cases hst : ∀ i, i < l.length → hasSt p (nth l i).Station = true
        · obtain ⟨m, h3, h4⟩ := run_x hf hok hv hst; rw [h4, Option.bind_some, valid_x, Option.bind_some, hok, rvalidList_x, hv]; simp only [Bool.not_true, Bool.or_false, cond_false, joinK, Nat.sub_zero]; rw [iterK_allO (n := l.length) (z := some ((((decide ((m.1.length : Int) = 0)) && (!!m.2)) && (decide ((0 : Int) = 9))) || false)) (fun i => hasSt p (nth l i).Station) (fun i next hi => ?_), List.all_eq_true.2 (fun i hi => hst i (List.mem_range.1 hi)), cond_true, refRun_x hok]
          · have hk := keepL_sub (d := p.Domains) (l := l); have hbk := hbd.ord hk.1.1 hk.2; have htk := totG_ord hk.1.1 hk.2; obtain ⟨r, h5, h6⟩ := propagate_x (fuel := fuel) hw hbk (by rw [hk.1.1]; omega) (by omega); have e := h3.eq hbk h6; subst e; rw [h5, Option.bind_some, Option.bind_some, sameDomains_x]
            cases m.2 <;> simp
          · cases hh : hasSt p (nth l i).Station with
            | true => rw [decide_eq_false (fun h => by rw [hasSt_find.1 h] at hh; cases hh)]; rfl
            | false => rw [decide_eq_true (hasSt_find.2 hh)]; simp
        · -- a station that is not there
          have hall : (List.range l.length).all (fun i => hasSt p (nth l i).Station) = false := by
            cases h : (List.range l.length).all (fun i => hasSt p (nth l i).Station) with
            | false => rfl
            | true => exact absurd (fun i hi => List.all_eq_true.1 h i (List.mem_range.2 hi)) hst
          have e : Run_x fuel p l = some ([], false, 9) := by
            unfold Run_x; rw [hok, cond_true, h1, Option.bind_some, pvalidList_x, hv]; simp only [Bool.not_true, cond_false, joinK, Nat.sub_zero]; rw [iterK_allO (n := l.length) (z := some (([] : List GDomain), false, (9 : Int))) (fun i => hasSt p (nth l i).Station) (fun i next hi => by cases hasSt p (nth l i).Station <;> rfl), hall, cond_false]
          rw [e, Option.bind_some, valid_x, Option.bind_some, hok, rvalidList_x, hv]; simp only [Bool.not_true, Bool.or_false, cond_false, joinK, Nat.sub_zero]; rw [iterK_allO (n := l.length) (z := some true) (fun i => hasSt p (nth l i).Station) (fun i next hi => ?_), hall, cond_false]
          cases hh : hasSt p (nth l i).Station with
          | true => rw [decide_eq_false (fun h => by rw [hasSt_find.1 h] at hh; cases hh)]; rfl
          | false => rw [decide_eq_true (hasSt_find.2 hh)]; rfl
end
end Go.Proofs.YtljgejbmimapdaaDoor
namespace Go.Proofs.YtljgejbmimapdaaDoor
open Go.RowKit Go.ChangeShapes Go.WideShapes Go.Deep
/-- What is read at this type stands for something. -/
def Opens {H : Type} (enc : TypeId × Value → H) (w : World) (base : Nat) (spare : Nat → Bool) (held : Bool) (t : TypeId) {α : Type} (R : List Value → α → Prop) : Prop :=
  ∀ fuel cs y, DataW.trod enc Tryd.prog w base spare held fuel t cs = some y → ∃ x, R cs x
section
variable {H : Type} {enc : TypeId × Value → H} {w : World} {base : Nat} {spare : Nat → Bool} {held : Bool}
theorem Opens.int {t : TypeId} (ht : Tryd.prog.underlying t = some (.int .i64)) : Opens enc w base spare held t (fun cs (x : Int) => cs = [.int .i64 x]) := fun fuel cs y h => by
  obtain ⟨k, hk, _⟩ := DataW.trod_int ht h; exact ⟨k, hk⟩
theorem cell_Cb {a : Addr} {v : Value} (h : w.cell? a = some v) : Cb w a.block := by
  unfold World.cell? at h
  split at h
  all_goals (first | exact ⟨_, _, _, by assumption⟩ | simp at h | skip)
theorem Opens.any {t e : TypeId} {k : Nat} {α : Type} [Inhabited α] {R : List Value → α → Prop} (ht : Tryd.prog.underlying t = some (.slice e)) (hk : Tryd.prog.cellsOf e = k) (hpos : 0 < k) (ho : Opens enc w base spare held e R) :
    Opens enc w base spare held t (fun cs (l : List α) => ∃ v c, cs = [v] ∧ SlC (Frz.all w) v k c ∧ c.length = l.length ∧ ∀ i, i < l.length → R (nth c i) (nth l i)) := fun fuel cs y h => by
  rcases open_slice ht h with ⟨h0, _⟩ | ⟨a, len, cap, m, n, D, Pl, hcs, hb, hl, hm, hmm, _, hx⟩
  · exact ⟨[], _, [], h0, SlC.nil _ _, rfl, fun i hi => absurd hi (Nat.not_lt_zero i)⟩
  · subst hcs; (have hlm : len ≤ m := by rw [hmm]; split <;> omega)
    have each : ∀ i, i < m → ∃ x : List Value × α, x.1.length = k ∧ R x.1 x.2 ∧ ∀ j, j < k → w.cell? (a.add (i * k + j)) = x.1[j]? := fun i hi => by
      obtain ⟨cs', h1, h2⟩ := hx i hi; rw [hk] at h1; obtain ⟨_, hlen, hcell⟩ := World.cells?_some h1; obtain ⟨x, hR⟩ := ho _ _ _ h2; exact ⟨(cs', x), hlen, hR, fun j hj => by rw [← hcell j hj, add_add]⟩
    obtain ⟨X, hX⟩ := choose_lt each
    have hn : ∀ i, i < len → nth ((List.range len).map fun i => (X i).1) i = (X i).1 := fun i hi => by
      rw [nth_eq (by simpa using hi)]; simp
    have hn2 : ∀ i, i < len → nth ((List.range len).map fun i => (X i).2) i = (X i).2 := fun i hi => by
      rw [nth_eq (by simpa using hi)]; simp
    refine ⟨(List.range len).map fun i => (X i).2, _, (List.range len).map fun i => (X i).1, rfl, ⟨some a, cap, by simp, by simpa using hl, by unfold maxLen at hm; omega, fun c hc => ?_, fun hp => ?_⟩, by simp, fun i hi => ?_⟩
    · simp at hc; obtain ⟨i, hi, rfl⟩ := hc; exact (hX i (by omega)).1
    · (have hp' : 0 < len := by simpa using hp); have c0 := (hX 0 (by omega)).2.2 0 hpos; have hx0 := (hX 0 (by omega)).1; rw [List.getElem?_eq_getElem (by omega)] at c0; have hcb := cell_Cb c0; have hs := World.cell?_spot c0; simp [Addr.add] at hs hcb; obtain ⟨b, off, sp⟩ := a; simp at hs hcb; subst hs; refine ⟨b, off, rfl, hcb, fun i hi j hj => ?_⟩; simp at hi; rw [hn i hi] at hj ⊢; have hxi := hX i (by omega); have := hxi.2.2 j (by omega); refine Eq.trans ?_ this
      show w.cell? _ = _
      rw [add_off, Nat.add_assoc]
    · simp at hi; rw [hn i hi, hn2 i hi]; exact (hX i (by omega)).2.1
theorem Opens.slC {t e : TypeId} {k : Nat} {α : Type} [Inhabited α] {en : α → List Value} (ht : Tryd.prog.underlying t = some (.slice e)) (hk : Tryd.prog.cellsOf e = k) (hpos : 0 < k) (ho : Opens enc w base spare held e (fun cs (x : α) => cs = en x)) :
    Opens enc w base spare held t (fun cs (l : List α) => ∃ v, cs = [v] ∧ SlC (Frz.all w) v k (l.map en)) := fun fuel cs y h => by
  obtain ⟨l, v, c, h1, h2, h3, h4⟩ := Opens.any ht hk hpos ho _ _ _ h; refine ⟨l, v, h1, ?_⟩
  have : c = l.map en := by
    apply List.ext_getElem (by simpa using h3); intro i hi hi2; rw [← nth_eq hi, h4 i (by omega), List.getElem_map, nth_eq (by omega)]
  rw [← this]; exact h2
theorem Opens.slD {t e : TypeId} {k : Nat} {α : Type} [Inhabited α] {rep : Frz → List Value → α → Prop} (ht : Tryd.prog.underlying t = some (.slice e)) (hk : Tryd.prog.cellsOf e = k) (hpos : 0 < k) (ho : Opens enc w base spare held e (rep (Frz.all w))) :
    Opens enc w base spare held t (fun cs (l : List α) => ∃ v c, cs = [v] ∧ SlD rep (Frz.all w) v k c l) := fun fuel cs y h => by
  obtain ⟨l, v, c, h1, h2, h3, h4⟩ := Opens.any ht hk hpos ho _ _ _ h; exact ⟨l, v, c, h1, h2, h3, h4⟩
end
end Go.Proofs.YtljgejbmimapdaaDoor
