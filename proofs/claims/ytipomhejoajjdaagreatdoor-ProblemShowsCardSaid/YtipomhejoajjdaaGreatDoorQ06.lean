/- Ca Pa Pg Pi Pj Sh Ks Ba Sl: shortened and put together by squeeze.py. -/
import Derived.Test.YtipomhejoajjdaaGreatDoorQ05
import Derived.Shelf.Small.Bits
import Derived.Shelf.Small.Wraps
import Derived.Shelf.Sort.Plain
import Derived.Ground.Names2Prog
import Derived.Shelf.Slices.CompactI
import Derived.Shelf.Slices.In.SortNone
import Derived.Test.YtipomhejoajjdaaGreatDoorProg
import Derived.Sort.OwnSortedInts
import Derived.Lib.SlicesCompact
set_option maxRecDepth 100000
set_option maxHeartbeats 4000000
set_option linter.unusedVariables false
set_option linter.unusedSectionVars false
set_option linter.unusedSimpArgs false
namespace Go.Proofs.YtipomhejoajjdaaGreatDoor
open Go.RowKit
section
variable {σ ρ α : Type}
theorem ze6 {f : Nat → (Unit → Bool) → Unit → Bool} {k : Unit → Bool} {n : Nat} (q : Nat → Bool) (hf : ∀ i next, i < n → f i next () = (q i || next ())) : zah f k n 0 () = ((List.range n).any q || k ()) := by
  have key : ∀ m i, i + m = n → zah f k m i () = ((List.range' i m).any q || k ()) := by
    intro m
    induction m with
    | zero => intro i _; simp [zah]
    | succ m ih =>
      intro i e
      show f i (zah f k m (i + 1)) () = _
      rw [hf i _ (by omega), ih (i + 1) (by omega), List.range'_succ, List.any_cons, Bool.or_assoc]
  rw [key n 0 (by omega), List.range_eq_range']
theorem zeK {f : Nat → (Unit → Bool) → Unit → Bool} {k : Unit → Bool} {n : Nat} (q : Nat → Bool) (hf : ∀ i next, i < n → f i next () = (q i && next ())) : zah f k n 0 () = ((List.range n).all q && k ()) := by
  have key : ∀ m i, i + m = n → zah f k m i () = ((List.range' i m).all q && k ()) := by
    intro m
    induction m with
    | zero => intro i _; simp [zah]
    | succ m ih =>
      intro i e
      show f i (zah f k m (i + 1)) () = _
      rw [hf i _ (by omega), ih (i + 1) (by omega), List.range'_succ, List.all_cons, Bool.and_assoc]
  rw [key n 0 (by omega), List.range_eq_range']
theorem zdU {f : Nat → (σ → ρ) → σ → ρ} {k : σ → ρ} {n : Nat} {s : σ} (I : Nat → σ → Prop) (g : Nat → σ → σ) (h0 : I 0 s) (hI : ∀ i s, i < n → I i s → I (i + 1) (g i s)) (hf : ∀ i next s, i < n → I i s → f i next s = next (g i s)) : zah f k n 0 s = k ((List.range n).foldl (fun s i => g i s) s) ∧ I n ((List.range n).foldl (fun s i => g i s) s) := by
  have key : ∀ m i s, i + m = n → I i s → zah f k m i s = k ((List.range' i m).foldl (fun s i => g i s) s) ∧ I n ((List.range' i m).foldl (fun s i => g i s) s) := by
    intro m
    induction m with
    | zero => intro i s e hs; rw [show i = n by omega] at hs; exact ⟨rfl, hs⟩
    | succ m ih =>
      intro i s e hs; have := ih (i + 1) (g i s) (by omega) (hI i s (by omega) hs); rw [List.range'_succ, List.foldl_cons]; refine ⟨?_, this.2⟩; rw [← this.1]; exact hf i _ s (by omega) hs
  rw [List.range_eq_range']; exact key n 0 s (by omega) h0
theorem zfT {l : List α} [Inhabited α] {q : α → Bool} : ((List.range l.length).any fun i => q (nth l i)) = l.any q := by
  rw [Bool.eq_iff_iff, List.any_eq_true, List.any_eq_true]; constructor
  · rintro ⟨i, hi, h⟩; exact ⟨nth l i, by rw [za1 (List.mem_range.1 hi)]; exact List.getElem_mem _, h⟩
  · rintro ⟨x, hx, h⟩; obtain ⟨i, hi, rfl⟩ := List.mem_iff_getElem.1 hx; exact ⟨i, List.mem_range.2 hi, by rw [za1 hi]; exact h⟩
theorem zcz {l : List α} [Inhabited α] {q : α → Bool} : ((List.range l.length).all fun i => q (nth l i)) = l.all q := by
  have h := zfT (l := l) (q := fun x => !q x); rw [Bool.eq_iff_iff, List.all_eq_true, List.all_eq_true]; constructor
  · intro h x hx; obtain ⟨i, hi, rfl⟩ := List.mem_iff_getElem.1 hx; have := h i (List.mem_range.2 hi)
    rwa [za1 hi] at this
  · intro h i hi; have hi := List.mem_range.1 hi; rw [za1 hi]; exact h _ (List.getElem_mem _)
end
theorem zbU {ρ : Type} {f : Nat → (Unit → ρ) → Unit → ρ} {k : Unit → ρ} {z : ρ} (q : Nat → Bool) {n s : Nat} (hf : ∀ i next, s ≤ i → i < s + n → f i next () = bif q i then next () else z) : zah f k n s () = bif (List.range' s n).all q then k () else z := by
  induction n generalizing s with
  | zero => rfl
  | succ m ih =>
    show f s (zah f k m (s + 1)) () = _
    rw [hf s _ (Nat.le_refl _) (by omega), ih (fun i next h1 h2 => hf i next (by omega) (by omega)), List.range'_succ, List.all_cons]
    cases q s <;> rfl
theorem zgU (n : Nat) (g t : Nat → Bool) : (List.range' 0 n).all (fun i => g i && (bif decide (0 < (i : Int)) then t i else true)) = ((List.range' 0 n).all g && (List.range' 1 (n - 1)).all t) := by
  rw [Bool.eq_iff_iff, Bool.and_eq_true, List.all_eq_true, List.all_eq_true, List.all_eq_true]; constructor
  · intro h; refine ⟨fun i hi => ((Bool.and_eq_true _ _).mp (h i hi)).1, fun i hi => ?_⟩; have hi' := List.mem_range'_1.1 hi; have h2 := ((Bool.and_eq_true _ _).mp (h i (List.mem_range'_1.2 ⟨by omega, by omega⟩))).2
    rwa [decide_eq_true (by omega), cond_true] at h2
  · rintro ⟨h1, h2⟩ i hi; have hi' := List.mem_range'_1.1 hi; rw [Bool.and_eq_true]; refine ⟨h1 i hi, ?_⟩; by_cases h0 : 0 < (i : Int)
    · rw [decide_eq_true h0, cond_true]; exact h2 i (List.mem_range'_1.2 ⟨by omega, by omega⟩)
    · rw [decide_eq_false h0]; rfl
def lexL : List Int → List Int → Bool
  | a :: x, b :: y => bif decide (a = b) then lexL x y else decide (a < b)
  | _, _ => false
theorem zfR {a b : List Int} {i : Nat} (h1 : i < a.length) (h2 : i < b.length) : lexL (a.drop i) (b.drop i) = bif decide (nth a i = nth b i) then lexL (a.drop (i + 1)) (b.drop (i + 1)) else decide (nth a i < nth b i) := by
  rw [List.drop_eq_getElem_cons h1, List.drop_eq_getElem_cons h2, ← za1 h1, ← za1 h2]; rfl
theorem zgb {a b : List Int} (h : a.length = b.length) : zbv a b = some (lexL a b) := by
  have key : ∀ m i, i + m = a.length → zah (fun (i : Nat) (next : Unit → Option Bool) (_ : Unit) => grd (0 ≤ (i : Int) ∧ (i : Int) < (b.length : Int)) (bif decide (¬ nth a i = nth b i) then some (decide (nth a i < nth b i)) else next ())) (fun _ => some false) m i () = some (lexL (a.drop i) (b.drop i)) := by
    intro m
    induction m with
    | zero => intro i e; rw [List.drop_eq_nil_of_le (show a.length ≤ i by omega)]; rfl
    | succ m ih =>
      intro i e; have h2 := ih (i + 1) (by omega)
      show grd _ _ = _
      rw [zbJ ⟨by omega, by omega⟩, zfR (by omega) (by omega)]; by_cases e2 : nth a i = nth b i
      · rw [decide_eq_true e2, decide_eq_false (fun hn => hn e2), cond_false]; exact h2
      · rw [decide_eq_false e2, decide_eq_true e2, cond_true]; rfl
  have := key a.length 0 (by omega); rw [List.drop_zero, List.drop_zero] at this; exact this
def cmpc (a b : Int) : Int := bif decide (a < b) then -1 else bif decide (b < a) then 1 else 0
theorem zgw (a b : Int) : zaa a b = cmpc a b := by
  unfold zaa zbk; rw [decide_eq_false (fun h => h rfl), decide_eq_false (fun h => h rfl)]; rfl
def orL : List Int → Int
  | [] => 0
  | v :: r => bif decide (¬ v = 0) then v else orL r
theorem or_x (l : List Int) : zbN l = orL l := by
  have key : ∀ m i, i + m = l.length → zah (fun (i : Nat) (next : Unit → Int) (_ : Unit) => bif decide (¬ nth l i = 0) then nth l i else next ()) (fun _ => (0 : Int)) m i () = orL (l.drop i) := by
    intro m
    induction m with
    | zero => intro i e; rw [List.drop_eq_nil_of_le (show l.length ≤ i by omega)]; rfl
    | succ m ih =>
      intro i e; have h2 := ih (i + 1) (by omega); rw [List.drop_eq_getElem_cons (show i < l.length by omega), ← za1 (show i < l.length by omega)]
      show (bif decide (¬ nth l i = 0) then nth l i else _) = bif decide (¬ nth l i = 0) then nth l i else _
      rw [← h2]
  have := key l.length 0 (by omega); rw [List.drop_zero] at this; exact this
theorem zfy : ∀ a b : List Int, decide (0 ≤ orL (List.zipWith cmpc a b)) = !lexL a b
  | [], b => by cases b <;> rfl
  | a :: x, [] => rfl
  | a :: x, b :: y => by
    have ih := zfy x y
    show decide (0 ≤ bif decide (¬ cmpc a b = 0) then cmpc a b else orL (List.zipWith cmpc x y)) = !(bif decide (a = b) then lexL x y else decide (a < b))
    unfold cmpc at *; rcases Int.lt_trichotomy a b with h | h | h
    · rw [decide_eq_true h, decide_eq_false (show ¬ a = b by omega)]; rfl
    · subst h; rw [decide_eq_false (Int.lt_irrefl a), decide_eq_true rfl]; exact ih
    · rw [decide_eq_false (show ¬ a < b by omega), decide_eq_true h, decide_eq_false (show ¬ a = b by omega)]; rfl
def zcS (x : GPair) : List Int := [x.A, x.B, x.Offset, x.Low, x.High]
def zcU (x : GLoad) : List Int := [x.To, x.From, x.Weight, x.Low, x.High]
def capL (x : GCap) : List Int := [x.Station, x.Max, x.Low, x.High]
theorem zf7 (a b : GPair) : decide (0 ≤ za4 a b) = !lexL (zcS a) (zcS b) := by
  unfold za4; rw [or_x]; simp only [zgw]; exact zfy (zcS a) (zcS b)
theorem zf9 (a b : GLoad) : decide (0 ≤ za2 a b) = !lexL (zcU a) (zcU b) := by
  unfold za2; rw [or_x]; simp only [zgw]; exact zfy (zcU a) (zcU b)
theorem zgt (a b : GCap) : decide (0 ≤ za8 a b) = !lexL (capL a) (capL b) := by
  unfold za8; rw [or_x]; simp only [zgw]; exact zfy (capL a) (capL b)
def adjB {α : Type} [Inhabited α] (lt : α → α → Bool) (l : List α) : Bool := (List.range' 1 (l.length - 1)).all fun i => lt (nth l (i - 1)) (nth l i)
theorem zfS {α : Type} [Inhabited α] {l : List α} {cmp : α → α → Int} {lt : α → α → Bool} (hc : ∀ a b, decide (0 ≤ cmp a b) = !lt a b) :
    zah (fun (i : Nat) (next : Unit → Option Bool) (_ : Unit) => grd (0 ≤ ((i : Int) - 1) ∧ ((i : Int) - 1) < (l.length : Int)) (bif decide (0 ≤ cmp (nth l (((i : Int) - 1).toNat)) (nth l i)) then some false else next ())) (fun _ => some true) (l.length - 1) 1 () = some (adjB lt l) := by
  rw [zbU (fun i => lt (nth l (i - 1)) (nth l i)) (z := some false) (fun i next h1 h2 => ?_)]
  · unfold adjB; cases (List.range' 1 (l.length - 1)).all fun i => lt (nth l (i - 1)) (nth l i) <;> rfl
  · rw [zbJ ⟨by omega, by omega⟩, hc, show ((i : Int) - 1).toNat = i - 1 by omega]
    cases lt (nth l (i - 1)) (nth l i) <;> rfl
theorem zeC {α : Type} [Inhabited α] {l : List α} {q : α → Bool} : zah (fun (i : Nat) (next : Unit → Bool) (_ : Unit) => bif !(q (nth l i)) then false else next ()) (fun _ => true) (l.length - 0) 0 () = l.all q := by
  rw [Nat.sub_zero, zeK (fun i => q (nth l i)) (fun i next hi => by cases q (nth l i) <;> rfl), zcz, Bool.and_true]
def zcL (r : GRules) : Bool :=
  decide ((r.Pairs.length : Int) ≤ 4096) && (r.Pairs.all zaD && (adjB (fun a b => lexL (zcS a) (zcS b)) r.Pairs && (decide ((r.Loads.length : Int) ≤ 1024) && (r.Loads.all zaE && (adjB (fun a b => lexL (zcU a) (zcU b)) r.Loads && (decide ((r.Caps.length : Int) ≤ 1024) && (r.Caps.all zaI && adjB (fun a b => lexL (capL a) (capL b)) r.Caps)))))))
theorem zeT (r : GRules) : zbn r = some (zcL r) := by
  have e1 : zav r.Pairs = r.Pairs.all zaD := zeC; have e2 : zaw r.Loads = r.Loads.all zaE := zeC; have e3 : zaz r.Caps = r.Caps.all zaI := zeC; have i1 : zau r.Pairs = some (adjB (fun a b => lexL (zcS a) (zcS b)) r.Pairs) := zfS zf7; have i2 : zat r.Loads = some (adjB (fun a b => lexL (zcU a) (zcU b)) r.Loads) := zfS zf9; have i3 : zax r.Caps = some (adjB (fun a b => lexL (capL a) (capL b)) r.Caps) := zfS zgt; unfold zbn zcL; rw [e1, e2, e3, i1, i2, i3]; simp only [zaH, Option.bind_some]
  cases decide ((r.Pairs.length : Int) ≤ 4096) <;> cases r.Pairs.all zaD <;> cases adjB (fun a b => lexL (zcS a) (zcS b)) r.Pairs <;> try rfl
  cases decide ((r.Loads.length : Int) ≤ 1024) <;> cases r.Loads.all zaE <;> cases adjB (fun a b => lexL (zcU a) (zcU b)) r.Loads <;> try rfl
  cases decide ((r.Caps.length : Int) ≤ 1024) <;> cases r.Caps.all zaI <;> rfl
theorem zcR (a b : Int) : decide (a < b) = !decide (b ≤ a) := by
  by_cases h : a < b
  · rw [decide_eq_true h, decide_eq_false (by omega)]; rfl
  · rw [decide_eq_false h, decide_eq_true (by omega)]; rfl
theorem zfV (a b : Int) : decide (a ≤ b) = !decide (b < a) := by
  by_cases h : a ≤ b
  · rw [decide_eq_true h, decide_eq_false (by omega)]; rfl
  · rw [decide_eq_false h, decide_eq_true (by omega)]; rfl
theorem zg1 (a b : Int) : decide (a = b) = !decide (¬ a = b) := by
  by_cases h : a = b
  · rw [decide_eq_true h, decide_eq_false (by omega)]; rfl
  · rw [decide_eq_false h, decide_eq_true h]; rfl
theorem zg8 {ρ : Type} (a b c d e f g t : Bool) (n z : Option ρ) : zaH (fun x => bif x then z else n) (fun (k : Bool → Option ρ) => bif !a then k true else bif !b then k true else bif !c then k true else bif !d then k true else bif !e then k true else bif !f then k true else bif g then (some t).bind fun r => k (!r) else k false) = bif (((((a && b) && c) && (d && e)) && f) && (bif g then t else true)) then n else z := by
  cases a <;> cases b <;> cases c <;> try rfl
  cases d <;> cases e <;> cases f <;> try rfl
  cases g <;> cases t <;> rfl
theorem body4 {ρ : Type} (a d e f g t : Bool) (n z : Option ρ) : zaH (fun x => bif x then z else n) (fun (k : Bool → Option ρ) => bif !a then k true else bif !d then k true else bif !e then k true else bif !f then k true else bif g then (some t).bind fun r => k (!r) else k false) = bif (((a && (d && e)) && f) && (bif g then t else true)) then n else z := by
  cases a <;> cases d <;> cases e <;> cases f <;> try rfl
  cases g <;> cases t <;> rfl
theorem zdn {α : Type} [Inhabited α] (l : List α) (g : α → Bool) (lt : α → α → Bool) : ((List.range' 0 (l.length - 0)).all fun i => g (nth l i) && (bif decide (0 < (i : Int)) then lt (nth l (i - 1)) (nth l i) else true)) = (l.all g && adjB lt l) := by
  rw [Nat.sub_zero, zgU l.length (fun i => g (nth l i)) (fun i => lt (nth l (i - 1)) (nth l i)), ← List.range_eq_range', zcz]; rfl
theorem lessP (x y : GPair) : zbv (zbd x) (zbd y) = some (lexL (zcS x) (zcS y)) := zgb rfl
theorem lessL (x y : GLoad) : zbv (zbf x) (zbf y) = some (lexL (zcU x) (zcU y)) := zgb rfl
theorem lessC (x y : GCap) : zbv (zbq x) (zbq y) = some (lexL (capL x) (capL y)) := zgb rfl
theorem zfH (r : GRules) : zbi r = some (zcL r) := by
  unfold zbi
  show (bif _ then some false else zah _ (fun _ => zah _ (fun _ => zah _ (fun _ => some true) (r.Caps.length - 0) 0 ()) (r.Loads.length - 0) 0 ()) (r.Pairs.length - 0) 0 ()) = _
  rw [zbU (n := r.Pairs.length - 0) (fun i => zaD (nth r.Pairs i) && (bif decide (0 < (i : Int)) then lexL (zcS (nth r.Pairs (i - 1))) (zcS (nth r.Pairs i)) else true)) (z := some false) (fun i next h1 h2 => ?_)]; rw [zbU (n := r.Loads.length - 0) (fun i => zaE (nth r.Loads i) && (bif decide (0 < (i : Int)) then lexL (zcU (nth r.Loads (i - 1))) (zcU (nth r.Loads i)) else true)) (z := some false) (fun i next h1 h2 => ?_)]; rw [zbU (n := r.Caps.length - 0) (fun i => zaI (nth r.Caps i) && (bif decide (0 < (i : Int)) then lexL (capL (nth r.Caps (i - 1))) (capL (nth r.Caps i)) else true)) (z := some false) (fun i next h1 h2 => ?_)]
  · rw [zdn r.Pairs zaD (fun a b => lexL (zcS a) (zcS b)), zdn r.Loads zaE (fun a b => lexL (zcU a) (zcU b)), zdn r.Caps zaI (fun a b => lexL (capL a) (capL b))]; unfold zcL; rw [zcR 4096, zcR 1024, zcR 1024]
    cases decide ((r.Pairs.length : Int) ≤ 4096) <;> cases decide ((r.Loads.length : Int) ≤ 1024) <;> cases decide ((r.Caps.length : Int) ≤ 1024) <;> cases r.Pairs.all zaD <;> try rfl
    all_goals (cases adjB (fun a b => lexL (zcS a) (zcS b)) r.Pairs <;> cases r.Loads.all zaE <;> cases adjB (fun a b => lexL (zcU a) (zcU b)) r.Loads <;> cases r.Caps.all zaI <;> cases adjB (fun a b => lexL (capL a) (capL b)) r.Caps <;> rfl)
  · skip; rw [show ((i : Int) - 1).toNat = i - 1 by omega, lessC, zcR _ 0, zcR 1099511627776]; exact body4 ..
  · skip; rw [show ((i : Int) - 1).toNat = i - 1 by omega, lessL, zg1 (nth r.Loads i).To, zcR _ 1, zcR 1073741824]; exact zg8 ..
  · skip; rw [show ((i : Int) - 1).toNat = i - 1 by omega, lessP, zfV (nth r.Pairs i).B, zcR _ (-1), zcR 1]; exact zg8 ..
theorem zcC {α : Type} [Inhabited α] {l : List α} {i : Nat} (h : i < l.length) : nth l i ∈ l := by rw [za1 h]; exact List.getElem_mem h
theorem zgY {c b : Nat} (hc : c < 64) : ((1#64) <<< c).getLsbD b = decide (b = c) := by
  rw [BitVec.getLsbD_shiftLeft]; by_cases h : b = c
  · subst h; simp [hc, BitVec.getLsbD_one]
  · rw [decide_eq_false h]; by_cases h2 : b < c
    · simp [h2]
    · have e : (1#64).getLsbD (b - c) = false := by
        rw [BitVec.getLsbD_one]; simp; omega
      rw [e, Bool.and_false]
theorem zgN {x : BitVec 64} {c : Nat} : decide ((((x >>> c) &&& (1#64)).toNat : Int) = ((1#64).toNat : Int)) = x.getLsbD c := by
  have e : ((x >>> c) &&& (1#64)) = bif x.getLsbD c then 1#64 else 0#64 := by
    refine BitVec.eq_of_getLsbD_eq fun b hb => ?_; rw [BitVec.getLsbD_and, BitVec.getLsbD_ushiftRight, BitVec.getLsbD_one]; by_cases h0 : b = 0
    · subst h0; cases x.getLsbD c <;> simp
    · cases x.getLsbD c <;> simp [h0]
  rw [e]
  cases x.getLsbD c <;> decide
def inS (s : GSet) (i : Int) : Bool := (decide (0 ≤ i) && decide (i < 512)) && (Vec.get s.words (i / 64).toNat).getLsbD (i % 64).toNat
theorem zfK (s : GSet) (i : Int) : zag s i = some (inS s i) := by
  unfold zag inS za6; by_cases h : 0 ≤ i ∧ i < 512
  · simp only [zaH]; rw [decide_eq_true h.1, decide_eq_true h.2]; simp only [Bool.and_self, cond_true]; rw [zbJ ⟨h.1, by omega, by omega⟩, zbJ ⟨by omega, by omega⟩, zbJ ⟨h.1, by omega⟩, zbJ ⟨by omega, by omega⟩, zgN, Bool.true_and]
  · have e : (decide (0 ≤ i) && decide (i < 512)) = false := by
      rw [Bool.and_eq_false_iff, decide_eq_false_iff_not, decide_eq_false_iff_not]; omega
    simp only [zaH]; rw [e]; rfl
def wS (v : Vec 8 (BitVec 64)) (n : Nat) : Bool := (Vec.get v (n / 64)).getLsbD (n % 64)
theorem zg5 {v : Vec 8 (BitVec 64)} {j n : Nat} (hj : j < 512) : wS (Vec.put v (j / 64) (Vec.get v (j / 64) ||| ((1#64) <<< (j % 64)))) n = (wS v n || decide (n = j)) := by
  unfold wS; rw [Vec.get_put (by omega)]; by_cases h : n / 64 = j / 64
  · rw [if_pos h, BitVec.getLsbD_or, zgY (by omega), h]
    congr 1
    by_cases h2 : n % 64 = j % 64
    · rw [decide_eq_true h2, decide_eq_true (by omega)]
    · rw [decide_eq_false h2, decide_eq_false (by omega)]
  · rw [if_neg h, decide_eq_false (by omega), Bool.or_false]
theorem zgy {l : List Int} {i : Nat} (hi : i < l.length) (q : Int → Bool) : (l.take (i + 1)).any q = ((l.take i).any q || q (nth l i)) := by
  rw [List.take_add_one, List.getElem?_eq_getElem hi, List.any_append, za1 hi]; simp
theorem of_x {l : List Int} (h : ∀ x ∈ l, 0 ≤ x ∧ x < 512) : ∃ s, zb4 l = some (s, 0) ∧ ∀ i : Int, inS s i = ((decide (0 ≤ i) && decide (i < 512)) && l.any fun x => decide (x = i)) := by
  have hn : ∀ i, i < l.length → 0 ≤ nth l i ∧ nth l i < 512 := fun i hi => h _ (zcC hi); unfold zb4
  obtain ⟨h1, h2⟩ := zdU (k := fun s : Vec 8 (BitVec 64) × Vec 8 (BitVec 64) => (some (GSet.mk s.2, 0) : Option (GSet × Int))) (n := l.length) (s := (Vec.fill 8 (0#64), Vec.fill 8 (0#64)))
    (f := fun (i_7 : Nat) (next6 : (Vec 8 (BitVec 64) × Vec 8 (BitVec 64)) → Option (GSet × Int)) (s6 : Vec 8 (BitVec 64) × Vec 8 (BitVec 64)) =>
      (bif !(za6 (nth l i_7)) then
        some ((GSet.mk (Vec.fill 8 (0#64))), 2)
        else
        grd (0 ≤ (nth l i_7) ∧ (nth l i_7) ≤ 9223372036854775807 ∧ 1 ≤ (64 : Int)) <|
        grd (0 ≤ ((nth l i_7) / 64) ∧ ((nth l i_7) / 64) < (8 : Int)) <|
        grd (0 ≤ (nth l i_7) ∧ 1 ≤ (64 : Int)) <|
        grd (0 ≤ ((nth l i_7) % 64) ∧ ((nth l i_7) % 64) < (64 : Int)) <|
        next6 (s6.1, (Vec.put s6.2 (((nth l i_7) / 64).toNat) ((Vec.get s6.2 (((nth l i_7) / 64).toNat)) ||| ((1#64) <<< (((nth l i_7) % 64).toNat)))))))
    (fun i s => ∀ n, n < 512 → wS s.2 n = (l.take i).any fun x => decide (x = (n : Int)))
    (fun i s => (s.1, Vec.put s.2 ((nth l i).toNat / 64) (Vec.get s.2 ((nth l i).toNat / 64) ||| ((1#64) <<< ((nth l i).toNat % 64)))))
    (fun n hn => by
      unfold wS
      rw [Vec.get_fill (by omega)]; simp)
    (fun i s hi hs n hn2 => by
      have := hn i hi; rw [zg5 (by omega), hs n hn2, zgy hi]
      congr 1
      by_cases e : nth l i = (n : Int)
      · rw [decide_eq_true e, decide_eq_true (by omega)]
      · rw [decide_eq_false e, decide_eq_false (by omega)])
    (fun i next s hi hs => by
      have := hn i hi
      have e : za6 (nth l i) = true := by
        unfold za6; rw [decide_eq_true this.1, decide_eq_true this.2]; rfl
      rw [e, Bool.not_true, cond_false, zbJ ⟨this.1, by omega, by omega⟩, zbJ ⟨by omega, by omega⟩, zbJ ⟨this.1, by omega⟩, zbJ ⟨by omega, by omega⟩, show (nth l i / 64).toNat = (nth l i).toNat / 64 by omega, show (nth l i % 64).toNat = (nth l i).toNat % 64 by omega])
  refine ⟨_, h1, fun i => ?_⟩; unfold inS; by_cases hi : 0 ≤ i ∧ i < 512
  · rw [decide_eq_true hi.1, decide_eq_true hi.2, Bool.and_self, Bool.true_and, Bool.true_and]; have h3 := h2 i.toNat (by omega); rw [List.take_length] at h3; unfold wS at h3; rw [show (i / 64).toNat = i.toNat / 64 by omega, show (i % 64).toNat = i.toNat % 64 by omega]; refine h3.trans ?_; rw [show ((i.toNat : Nat) : Int) = i by omega]
  · have e : (decide (0 ≤ i) && decide (i < 512)) = false := by
      rw [Bool.and_eq_false_iff, decide_eq_false_iff_not, decide_eq_false_iff_not]; omega
    rw [e]; rfl
theorem zd0 {p : GProblem} (hr : room p.Domains.length 8) (h : ∀ d ∈ p.Domains, 0 ≤ d.Station ∧ d.Station < 512) : ∃ s, zaZ p = some s ∧ ∀ i : Int, inS s i = ((decide (0 ≤ i) && decide (i < 512)) && p.Domains.any fun d => decide (d.Station = i)) := by
  obtain ⟨s, h1, h2⟩ := of_x (l := p.Domains.map (·.Station)) (fun x hx => by obtain ⟨d, hd, rfl⟩ := List.mem_map.1 hx; exact h d hd); refine ⟨s, ?_, fun i => by rw [h2 i, List.any_map]; rfl⟩; unfold zaZ; rw [zbJ hr]
  have h3 := zdU (k := fun l : List Int => (zb4 l).bind fun r28 => some r28.1) (n := p.Domains.length - 0) (s := List.replicate p.Domains.length (0 : Int))
    (f := fun (i_5 : Nat) (next4 : List Int → Option GSet) (l_3 : List Int) => grd (0 ≤ (i_5 : Int) ∧ (i_5 : Int) < (l_3.length : Int)) <| next4 (l_3.set i_5 ((nth p.Domains i_5).Station)))
    (fun i s => s.length = p.Domains.length ∧ ∀ k, k < i → nth s k = (nth p.Domains k).Station)
    (fun i s => s.set i (nth p.Domains i).Station)
    ⟨List.length_replicate .., fun k hk => by omega⟩
    (fun i s hi hs => ⟨by rw [List.length_set]; exact hs.1, fun k hk => by
      (have h4 : k < s.length := by have := hs.1; omega); rw [za1 (show k < (s.set i _).length by rw [List.length_set]; exact h4), List.getElem_set]; by_cases e : i = k
      · rw [if_pos e, e]
      · rw [if_neg e, ← za1 h4]; exact hs.2 k (by omega)⟩)
    (fun i next s hi hs => by rw [zbJ ⟨by omega, by have := hs.1; omega⟩])
  refine h3.1.trans ?_
  have e : (List.range (p.Domains.length - 0)).foldl (fun s i => s.set i (nth p.Domains i).Station) (List.replicate p.Domains.length (0 : Int)) = p.Domains.map (·.Station) := by
    refine List.ext_getElem (by rw [h3.2.1, List.length_map]) fun k hk1 hk2 => ?_; (have hk : k < p.Domains.length := by rwa [List.length_map] at hk2); have h5 := h3.2.2 k (by omega); rw [za1 hk1, za1 hk] at h5; rw [h5, List.getElem_map]
  rw [e, h1]; rfl
theorem zgD (a b : Int) : decide (0 ≤ zaa a b) = !decide (a < b) := by
  rw [zgw]; unfold cmpc; rcases Int.lt_trichotomy a b with h | h | h
  · rw [decide_eq_true h]; rfl
  · subst h; rw [decide_eq_false (Int.lt_irrefl a)]; rfl
  · rw [decide_eq_false (show ¬ a < b by omega), decide_eq_true h]; rfl
theorem zdQ {α : Type} [Inhabited α] {l : List α} {q : α → Option Bool} {p : α → Bool} (h : ∀ x, q x = some (p x)) : zah (fun (i : Nat) (next : Unit → Option Bool) (_ : Unit) => (q (nth l i)).bind fun r => bif !r then some false else next ()) (fun _ => some true) (l.length - 0) 0 () = some (l.all p) := by
  rw [Nat.sub_zero, zbU (fun i => p (nth l i)) (z := some false) (fun i next h1 h2 => by rw [h]; show (bif !p (nth l i) then _ else _) = _; cases p (nth l i) <;> rfl), ← List.range_eq_range', zcz]
  cases l.all p <;> rfl
def okD (d : GDomain) : Bool := zaf d.Station && (d.Channels.all zal && adjB (fun a b => decide (a < b)) d.Channels)
def hasD (p : GProblem) (i : Int) : Bool := (decide (0 ≤ i) && decide (i < 512)) && p.Domains.any fun d => decide (d.Station = i)
def zeZ (p : GProblem) : Bool := p.Rules.Pairs.all (fun c => hasD p c.A && hasD p c.B) && (p.Rules.Loads.all (fun c => hasD p c.To && hasD p c.From) && p.Rules.Caps.all (fun c => hasD p c.Station))
def incD (p : GProblem) : Bool := adjB (fun a b : GDomain => decide (a.Station < b.Station)) p.Domains
def okP (p : GProblem) : Bool := p.Domains.all okD && (zcL p.Rules && (incD p && zeZ p))
theorem zeJ (d : GDomain) : zbm d = some (okD d) := by
  unfold zbm okD; have e1 : zba d.Channels = d.Channels.all zal := zeC; have e2 : zaU d.Channels = some (adjB (fun a b => decide (a < b)) d.Channels) := zfS zgD; rw [e1, e2]; simp only [zaH, Option.bind_some]
  cases zaf d.Station <;> cases d.Channels.all zal <;> rfl
theorem zew {n : Int} (h : zaf n = true) : 0 ≤ n ∧ n ≤ 511 := by
  unfold zaf zan at h; rw [Bool.and_eq_true, decide_eq_true_eq, decide_eq_true_eq] at h; exact h
theorem zer {p : GProblem} (h : p.Domains.all okD = true) {d : GDomain} (hd : d ∈ p.Domains) : 0 ≤ d.Station ∧ d.Station < 512 := by
  have h1 := List.all_eq_true.1 h d hd; unfold okD at h1; have := zew ((Bool.and_eq_true _ _).mp h1).1; omega
theorem zf3 {p : GProblem} (h : p.Domains.all okD = true) (hi : incD p = true) : ∀ k, k < p.Domains.length → (k : Int) ≤ (nth p.Domains k).Station
  | 0, hk => (zer h (zcC hk)).1
  | k + 1, hk => by
    have h1 := zf3 h hi k (by omega); have h2 := List.all_eq_true.1 hi (k + 1) (List.mem_range'_1.2 ⟨by omega, by omega⟩); have h3 := of_decide_eq_true h2; rw [show k + 1 - 1 = k from rfl] at h3; omega
theorem zfj {p : GProblem} (h : p.Domains.all okD = true) (hi : incD p = true) : p.Domains.length ≤ 512 := by
  rcases Nat.eq_zero_or_pos p.Domains.length with h0 | h0
  · omega
  · have h1 := zf3 h hi (p.Domains.length - 1) (by omega); have h2 := zer h (zcC (show p.Domains.length - 1 < p.Domains.length by omega)); omega
theorem zdH (p : GProblem) : zaW p = some (okP p) := by
  have e1 : zaA p.Domains = some (p.Domains.all okD) := zdQ zeJ; have e2 : zaG p.Domains = some (incD p) := zfS (cmp := zbH) (fun a b => zgD a.Station b.Station); unfold zaW okP; rw [e1, e2, zeT]; simp only [zaH, Option.bind_some]
  cases h1 : p.Domains.all okD
  · rfl
  cases zcL p.Rules
  · rfl
  cases h2 : incD p
  · rfl
  obtain ⟨s, h3, h4⟩ := zd0 (p := p) (by have := zfj h1 h2; unfold room; omega) (fun d hd => zer h1 hd)
  have e3 : zaK p.Rules.Pairs s = some (p.Rules.Pairs.all fun c => hasD p c.A && hasD p c.B) := zdQ (q := fun c => zbI c s) (fun c => by
    unfold zbI; rw [zfK, zfK, h4, h4]
    show (bif hasD p c.A then some (hasD p c.B) else some false) = _
    cases hasD p c.A <;> rfl)
  have e4 : zaL p.Rules.Loads s = some (p.Rules.Loads.all fun c => hasD p c.To && hasD p c.From) := zdQ (q := fun c => zbF c s) (fun c => by
    unfold zbF; rw [zfK, zfK, h4, h4]
    show (bif hasD p c.To then some (hasD p c.From) else some false) = _
    cases hasD p c.To <;> rfl)
  have e5 : zaN p.Rules.Caps s = some (p.Rules.Caps.all fun c => hasD p c.Station) := zdQ (q := fun c => zbC c s) (fun c => by
    unfold zbC
    rw [zfK, h4]; rfl)
  simp only [cond_false, Bool.not_true, h3, Option.bind_some, e3, e4, e5, Bool.true_and, cond_true]; unfold zeZ
  cases p.Rules.Pairs.all fun c => hasD p c.A && hasD p c.B
  · rfl
  cases p.Rules.Loads.all fun c => hasD p c.To && hasD p c.From
  · rfl
  rfl
theorem zdR {α : Type} {l : List α} {f g : α → Bool} (h : ∀ x ∈ l, f x = g x) : l.all f = l.all g := by
  induction l with
  | nil => rfl
  | cons x r ih => rw [List.all_cons, List.all_cons, h x (List.mem_cons_self ..), ih fun y hy => h y (List.mem_cons_of_mem _ hy)]
def anyD (p : GProblem) (s : Int) : Bool := p.Domains.any fun d => decide (d.Station = s)
theorem zen {p : GProblem} {s : Int} : decide (zas p s < 0) = !anyD p s := by
  have key : ∀ m i, i + m = p.Domains.length → (decide (zah (fun (i : Nat) (next : Unit → Int) (_ : Unit) => bif decide ((nth p.Domains i).Station = s) then (i : Int) else next ()) (fun _ => (-1)) m i () < 0) = !((p.Domains.drop i).any fun d => decide (d.Station = s))) := by
    intro m
    induction m with
    | zero => intro i e; rw [List.drop_eq_nil_of_le (show p.Domains.length ≤ i by omega)]; rfl
    | succ m ih =>
      intro i e; have h2 := ih (i + 1) (by omega); rw [List.drop_eq_getElem_cons (show i < p.Domains.length by omega), List.any_cons, ← za1 (show i < p.Domains.length by omega)]
      show decide ((bif decide ((nth p.Domains i).Station = s) then (i : Int) else _) < 0) = _
      cases decide ((nth p.Domains i).Station = s) with
      | true => rw [cond_true, decide_eq_false (by omega)]; rfl
      | false => rw [cond_false, Bool.false_or]; exact h2
  have := key p.Domains.length 0 (by omega); rw [List.drop_zero] at this; exact this
def zep (p : GProblem) : Bool := p.Rules.Pairs.all (fun c => anyD p c.A && anyD p c.B) && (p.Rules.Loads.all (fun c => anyD p c.To && anyD p c.From) && p.Rules.Caps.all (fun c => anyD p c.Station))
theorem zdt {p : GProblem} {s : Int} (h : zaf s = true) : anyD p s = hasD p s := by
  have := zew h; unfold anyD hasD; rw [decide_eq_true this.1, decide_eq_true (show s < 512 by omega)]; rfl
theorem zbY {a b : Bool} (h : (a && b) = true) : a = true := ((Bool.and_eq_true _ _).mp h).1
theorem zcx {a b : Bool} (h : (a && b) = true) : b = true := ((Bool.and_eq_true _ _).mp h).2
theorem zef {c : GPair} (h : zaD c = true) : zaf c.A = true ∧ zaf c.B = true :=
  ⟨zbY (zbY (zbY (zbY h))), zcx (zbY (zbY (zbY h)))⟩
theorem zd5 {c : GLoad} (h : zaE c = true) : zaf c.To = true ∧ zaf c.From = true :=
  ⟨zbY (zbY (zbY (zbY h))), zcx (zbY (zbY (zbY h)))⟩
theorem zfG {c : GCap} (h : zaI c = true) : zaf c.Station = true := zbY (zbY h)
structure RulesGood (r : GRules) : Prop where
  np : r.Pairs.length ≤ 4096
  nl : r.Loads.length ≤ 1024
  nc : r.Caps.length ≤ 1024
  p : ∀ c ∈ r.Pairs, zaD c = true
  l : ∀ c ∈ r.Loads, zaE c = true
  c : ∀ c ∈ r.Caps, zaI c = true
theorem zdg {r : GRules} (h : zcL r = true) : RulesGood r := by
  unfold zcL at h; have h1 := zcx h; have h2 := zcx h1; have h3 := zcx h2; have h4 := zcx h3; have h5 := zcx h4; have h6 := zcx h5; have h7 := zcx h6; have a1 := of_decide_eq_true (zbY h); have a2 := of_decide_eq_true (zbY h3); have a3 := of_decide_eq_true (zbY h6); exact ⟨by omega, by omega, by omega, List.all_eq_true.1 (zbY h1), List.all_eq_true.1 (zbY h4), List.all_eq_true.1 (zbY h7)⟩
theorem zfs {p : GProblem} (h : zcL p.Rules = true) : zep p = zeZ p := by
  have hg := zdg h; (have e1 : (p.Rules.Pairs.all fun c => anyD p c.A && anyD p c.B) = p.Rules.Pairs.all fun c => hasD p c.A && hasD p c.B := zdR fun c hc => by rw [zdt (zef (hg.p c hc)).1, zdt (zef (hg.p c hc)).2]); (have e2 : (p.Rules.Loads.all fun c => anyD p c.To && anyD p c.From) = p.Rules.Loads.all fun c => hasD p c.To && hasD p c.From := zdR fun c hc => by rw [zdt (zd5 (hg.l c hc)).1, zdt (zd5 (hg.l c hc)).2]); have e3 : (p.Rules.Caps.all fun c => anyD p c.Station) = p.Rules.Caps.all fun c => hasD p c.Station := zdR fun c hc => zdt (zfG (hg.c c hc)); unfold zep zeZ; rw [e1, e2, e3]
def okD2 (d : GDomain) : Bool := zaf d.Station && (decide ((d.Channels.length : Int) ≤ 50) && (d.Channels.all zal && adjB (fun a b => decide (a < b)) d.Channels))
theorem zg6 {n : Int} (h : zal n = true) : 2 ≤ n ∧ n ≤ 51 := by
  unfold zal zan at h; rw [Bool.and_eq_true, decide_eq_true_eq, decide_eq_true_eq] at h; exact h
theorem zgC {l : List Int} (h : l.all zal = true) (hi : adjB (fun a b => decide (a < b)) l = true) : ∀ k, k < l.length → (k : Int) + 2 ≤ nth l k
  | 0, hk => by have := zg6 (List.all_eq_true.1 h _ (zcC hk)); omega
  | k + 1, hk => by
    have h1 := zgC h hi k (by omega); have h2 := List.all_eq_true.1 hi (k + 1) (List.mem_range'_1.2 ⟨by omega, by omega⟩); have h3 := of_decide_eq_true h2; rw [show k + 1 - 1 = k from rfl] at h3; omega
theorem zfY (d : GDomain) : okD2 d = okD d := by
  unfold okD2 okD
  cases h1 : d.Channels.all zal
  · rw [Bool.false_and, Bool.and_false]
  cases h2 : adjB (fun a b => decide (a < b)) d.Channels
  · rw [Bool.and_false, Bool.and_false]
  have : d.Channels.length ≤ 50 := by
    rcases Nat.eq_zero_or_pos d.Channels.length with h0 | h0
    · omega
    · have a := zgC h1 h2 (d.Channels.length - 1) (by omega); have b := zg6 (List.all_eq_true.1 h1 _ (zcC (show d.Channels.length - 1 < d.Channels.length by omega))); omega
  rw [decide_eq_true (by omega)]; rfl
theorem chs_x {ρ : Type} {l : List Int} {n z : ρ} : zah (fun (k : Nat) (next : Unit → ρ) (_ : Unit) => bif (((decide (nth l k < 2)) || (decide (51 < nth l k))) || ((decide (0 < (k : Int))) && (decide (nth l k ≤ nth l (((k : Int) - 1).toNat))))) then z else next ()) (fun _ => n) (l.length - 0) 0 () = bif l.all zal && adjB (fun a b => decide (a < b)) l then n else z := by
  rw [zbU (fun k => zal (nth l k) && (bif decide (0 < (k : Int)) then decide (nth l (k - 1) < nth l k) else true)) (z := z) (fun i next h1 h2 => ?_), zdn l zal (fun a b => decide (a < b))]; rw [show ((i : Int) - 1).toNat = i - 1 by omega, zcR _ 2, zfV (nth l i) (nth l (i - 1)), zcR 51]; unfold zal zan
  cases decide (2 ≤ nth l i) <;> cases decide (nth l i ≤ 51) <;> cases decide (0 < (i : Int)) <;> cases decide (nth l (i - 1) < nth l i) <;> rfl
theorem zfE (p : GProblem) : zb7 p = some (okP p) := by
  unfold zb7
  show (bif decide (512 < (p.Domains.length : Int)) then some false else (zbi p.Rules).bind fun r => bif !r then some false else zah _ (fun _ => zah _ (fun _ => zah _ (fun _ => zah _ (fun _ => some true) (p.Rules.Caps.length - 0) 0 ()) (p.Rules.Loads.length - 0) 0 ()) (p.Rules.Pairs.length - 0) 0 ()) (p.Domains.length - 0) 0 ()) = _
  rw [zfH, Option.bind_some]; rw [zbU (n := p.Domains.length - 0) (fun i => okD2 (nth p.Domains i) && (bif decide (0 < (i : Int)) then decide ((nth p.Domains (i - 1)).Station < (nth p.Domains i).Station) else true)) (z := some false) (fun i next h1 h2 => ?_)]; rw [zbU (n := p.Rules.Pairs.length - 0) (fun i => anyD p (nth p.Rules.Pairs i).A && anyD p (nth p.Rules.Pairs i).B) (z := some false) (fun i next h1 h2 => ?_)]; rw [zbU (n := p.Rules.Loads.length - 0) (fun i => anyD p (nth p.Rules.Loads i).To && anyD p (nth p.Rules.Loads i).From) (z := some false) (fun i next h1 h2 => ?_)]; rw [zbU (n := p.Rules.Caps.length - 0) (fun i => anyD p (nth p.Rules.Caps i).Station) (z := some false) (fun i next h1 h2 => ?_)]
  · rw [zdn p.Domains okD2 (fun a b => decide (a.Station < b.Station)), Nat.sub_zero, Nat.sub_zero, Nat.sub_zero, ← List.range_eq_range', ← List.range_eq_range', ← List.range_eq_range',
      zcz (q := fun c : GPair => anyD p c.A && anyD p c.B), zcz (q := fun c : GLoad => anyD p c.To && anyD p c.From), zcz (q := fun c : GCap => anyD p c.Station), zdR (fun d _ => zfY d)]
    have hl : ∀ x : Option Bool, (bif p.Rules.Pairs.all (fun c => anyD p c.A && anyD p c.B) then bif p.Rules.Loads.all (fun c => anyD p c.To && anyD p c.From) then bif p.Rules.Caps.all (fun c => anyD p c.Station) then some true else some false else some false else some false) = some (zep p) := fun _ => by
      unfold zep
      cases p.Rules.Pairs.all (fun c => anyD p c.A && anyD p c.B) <;> cases p.Rules.Loads.all (fun c => anyD p c.To && anyD p c.From) <;> cases p.Rules.Caps.all (fun c => anyD p c.Station) <;> rfl
    rw [hl none]; unfold okP
    show (bif decide (512 < (p.Domains.length : Int)) then some false else bif !zcL p.Rules then some false else bif p.Domains.all okD && incD p then some (zep p) else some false) = _
    cases h1 : zcL p.Rules
    · cases p.Domains.all okD <;> cases decide (512 < (p.Domains.length : Int)) <;> rfl
    cases h2 : p.Domains.all okD
    · cases decide (512 < (p.Domains.length : Int)) <;> rfl
    cases h3 : incD p
    · cases decide (512 < (p.Domains.length : Int)) <;> rfl
    have := zfj h2 h3; rw [decide_eq_false (show ¬ 512 < (p.Domains.length : Int) by omega), zfs h1]; rfl
  · rw [zen]; cases anyD p (nth p.Rules.Caps i).Station <;> rfl
  · rw [zen, zen]; cases anyD p (nth p.Rules.Loads i).To <;> cases anyD p (nth p.Rules.Loads i).From <;> rfl
  · rw [zen, zen]; cases anyD p (nth p.Rules.Pairs i).A <;> cases anyD p (nth p.Rules.Pairs i).B <;> rfl
  · rw [chs_x, show ((i : Int) - 1).toNat = i - 1 by omega, zcR 50, zfV (nth p.Domains i).Station]; unfold okD2
    show (bif ((!zaf (nth p.Domains i).Station || _) || _) then _ else _) = _
    cases zaf (nth p.Domains i).Station <;> cases decide (0 < (i : Int)) <;> cases decide ((nth p.Domains (i - 1)).Station < (nth p.Domains i).Station) <;> cases decide (((nth p.Domains i).Channels.length : Int) ≤ 50) <;> cases ((nth p.Domains i).Channels.all zal && adjB (fun a b => decide (a < b)) (nth p.Domains i).Channels) <;> rfl
end Go.Proofs.YtipomhejoajjdaaGreatDoor
namespace Go.Proofs.YtipomhejoajjdaaGreatDoor
open Go.Shelf
open Go.RowKit in
open Go.RowKit in
def zfe : Go.Shelf.Ren := ⟨fun | 189 => 26 | 125 => 57 | 257 => 56 | 128 => 98 | 129 => 99 | 294 => 89 | 295 => 90 | 296 => 91 | 297 => 92 | 298 => 93 | 299 => 94 | 216 => 95 | 300 => 96 | 301 => 97 | 328 => 104 | 329 => 105 | 330 => 106 | 331 => 107 | 332 => 108 | 215 => 84 | 343 => 109 | n => n, fun | 28 => 32 | 3 => 3 | 46 => 108 | 0 => 0 | 51 => 142 | 53 => 61 | 4 => 4 | 183 => 135 | 182 => 134 | 131 => 139 | 5 => 5 | 9 => 9 | 218 => 146 | 222 => 150 | 228 => 153 | 229 => 154 | n => n, fun | n => n⟩
theorem zfU : Go.Proofs.Lays.n189 Tryz.prog zfe := {
  mixed := by kernel_rfl
  f125 := Tryz.func57.trans (congrArg some (by kernel_rfl))
  f128 := Tryz.func98.trans (congrArg some (by kernel_rfl))
  f129 := Tryz.func99.trans (congrArg some (by kernel_rfl))
  f189 := Tryz.func26.trans (congrArg some (by kernel_rfl))
  f215 := Tryz.func84.trans (congrArg some (by kernel_rfl))
  f216 := Tryz.func95.trans (congrArg some (by kernel_rfl))
  f257 := Tryz.func56.trans (congrArg some (by kernel_rfl))
  f294 := Tryz.func89.trans (congrArg some (by kernel_rfl))
  f295 := Tryz.func90.trans (congrArg some (by kernel_rfl))
  f296 := Tryz.func91.trans (congrArg some (by kernel_rfl))
  f297 := Tryz.func92.trans (congrArg some (by kernel_rfl))
  f298 := Tryz.func93.trans (congrArg some (by kernel_rfl))
  f299 := Tryz.func94.trans (congrArg some (by kernel_rfl))
  f300 := Tryz.func96.trans (congrArg some (by kernel_rfl))
  f301 := Tryz.func97.trans (congrArg some (by kernel_rfl))
  f328 := Tryz.func104.trans (congrArg some (by kernel_rfl))
  f329 := Tryz.func105.trans (congrArg some (by kernel_rfl))
  f330 := Tryz.func106.trans (congrArg some (by kernel_rfl))
  f331 := Tryz.func107.trans (congrArg some (by kernel_rfl))
  f332 := Tryz.func108.trans (congrArg some (by kernel_rfl))
  f343 := Tryz.func109.trans (congrArg some (by kernel_rfl))
  t0 := Tryz.underlying0
  a0 := Tryz.isAgg0
  z0 := Tryz.sizeOf0
  v0 := Tryz.zeroValue0
  t3 := Tryz.underlying3
  a3 := Tryz.isAgg3
  z3 := Tryz.sizeOf3
  v3 := Tryz.zeroValue3
  t4 := Tryz.underlying4
  a4 := Tryz.isAgg4
  z4 := Tryz.sizeOf4
  v4 := Tryz.zeroValue4
  t5 := Tryz.underlying5
  a5 := Tryz.isAgg5
  z5 := Tryz.sizeOf5
  v5 := Tryz.zeroValue5
  t9 := Tryz.underlying9
  a9 := Tryz.isAgg9
  z9 := Tryz.sizeOf9
  v9 := Tryz.zeroValue9
  t28 := Tryz.underlying32
  a28 := Tryz.isAgg32
  z28 := Tryz.sizeOf32
  v28 := Tryz.zeroValue32
  t46 := Tryz.underlying108
  a46 := Tryz.isAgg108
  z46 := Tryz.sizeOf108
  v46 := Tryz.zeroValue108
  t51 := Tryz.underlying142
  a51 := Tryz.isAgg142
  z51 := Tryz.sizeOf142
  v51 := Tryz.zeroValue142
  t53 := Tryz.underlying61
  a53 := Tryz.isAgg61
  z53 := Tryz.sizeOf61
  v53 := Tryz.zeroValue61
  t131 := Tryz.underlying139
  a131 := Tryz.isAgg139
  z131 := Tryz.sizeOf139
  v131 := Tryz.zeroValue139
  t182 := Tryz.underlying134
  a182 := Tryz.isAgg134
  z182 := Tryz.sizeOf134
  v182 := Tryz.zeroValue134
  t183 := Tryz.underlying135
  a183 := Tryz.isAgg135
  z183 := Tryz.sizeOf135
  v183 := Tryz.zeroValue135
  t218 := Tryz.underlying146
  a218 := Tryz.isAgg146
  z218 := Tryz.sizeOf146
  v218 := Tryz.zeroValue146
  t222 := Tryz.underlying150
  a222 := Tryz.isAgg150
  z222 := Tryz.sizeOf150
  v222 := Tryz.zeroValue150
  t228 := Tryz.underlying153
  a228 := Tryz.isAgg153
  z228 := Tryz.sizeOf153
  v228 := Tryz.zeroValue153
  t229 := Tryz.underlying154
  a229 := Tryz.isAgg154
  z229 := Tryz.sizeOf154
  v229 := Tryz.zeroValue154 }
open Go.Sort Go.RowKit in
theorem slices_Sort_int (blk off cap : Nat) (zs : List Int) (w : World) (hH : Holds (Value.int .i64) w blk off zs.toArray) (hblk : blk < w.heap.size) (hsz : zs.length < 4611686018427387904) :
    Calls Tryz.prog 26 #[.slice (some ⟨blk, off, none⟩) zs.length cap] w fun e w' =>
      e = .returned (.tuple #[]) ∧ ∃ n os, w' = grow (putRow (Value.int .i64) (Sort.ahead w n) blk off (zs.mergeSort fun x y => decide (x ≤ y)).toArray) os := Any.slices_Sort_int zfU blk off cap zs w hH hblk hsz
def zeD : Go.Shelf.Ren := ⟨fun | 20 => 27 | n => n, fun | 22 => 32 | 3 => 3 | 4 => 4 | 0 => 0 | n => n, fun | n => n⟩
theorem ze9 : Go.Proofs.Lays2.n20 Tryz.prog zeD := {
  mixed := by kernel_rfl
  f20 := Tryz.func27.trans (congrArg some (by kernel_rfl))
  t0 := Tryz.underlying0
  a0 := Tryz.isAgg0
  z0 := Tryz.sizeOf0
  v0 := Tryz.zeroValue0
  t3 := Tryz.underlying3
  a3 := Tryz.isAgg3
  z3 := Tryz.sizeOf3
  v3 := Tryz.zeroValue3
  t4 := Tryz.underlying4
  a4 := Tryz.isAgg4
  z4 := Tryz.sizeOf4
  v4 := Tryz.zeroValue4
  t22 := Tryz.underlying32
  a22 := Tryz.isAgg32
  z22 := Tryz.sizeOf32
  v22 := Tryz.zeroValue32
  i3 := by kernel_rfl }
open Go.RowKit Go.Lib Go.Sort in
open Go.RowKit Go.Lib Go.Sort in
theorem slices_Compact_int (blk off cap : Nat) (zs : List Int) (w : World) (hH : Holds (Value.int .i64) w blk off zs.toArray) (hsz : zs.length ≤ 9223372036854775807) (hcap : zs.length ≤ cap) :
    Calls Tryz.prog 27 #[.slice (some ⟨blk, off, none⟩) zs.length cap] w fun e w' => e = .returned (.slice (some ⟨blk, off, none⟩) (Lib.compact zs).length cap) ∧ ∃ q, w' = putRow (Value.int .i64) (Sort.ahead w q) blk off (Lib.compact zs ++ List.replicate (zs.length - (Lib.compact zs).length) 0).toArray := Any.slices_Compact_int ze9 blk off cap zs w hH hsz hcap
open Go.RowKit Go.Lib Go.Sort in
theorem slices_Compact_int_empty (a : Option Addr) (cap : Nat) (w : World) :
    Calls Tryz.prog 27 #[.slice a 0 cap] w fun e w' => e = .returned (.slice a 0 cap) ∧ w' = w := Any.slices_Compact_int_empty ze9 a cap w
open Go.RowKit Go.Sort in
theorem slices_Sort_int_none (p : Option Addr) (cap : Nat) (w : World) :
    Calls Tryz.prog 26 #[.slice p 0 cap] w fun e w' => e = .returned (.tuple #[]) ∧ w' = w := Any.slices_Sort_int_none zfU p cap w
end Go.Proofs.YtipomhejoajjdaaGreatDoor
namespace Go.Proofs.YtipomhejoajjdaaGreatDoor
open Go.RowKit Go.Sort
section
variable {P : Program} {n : Nat} {B D : World} {M S0 : Nat → Prop} {fs : SFs} {hs : HS} {o : Oper} {v : Value}
theorem Yv.cf {x : Operand} {t : TypeId} {a : Int} (ho : o.op = .unOp .neg t x) (hx : ev fs x = some (.int .i64 a)) : Yv P n B M fs hs o (.int .i64 (wI (0 - a))) := fun f w ha _ => by
  unfold execOp; simp [ho, ha.ev hx, Op.unary, Op.intArith]
end
def ins (x : Int) : List Int → List Int
  | [] => [x]
  | y :: r => bif decide (x ≤ y) then x :: y :: r else y :: ins x r
def isort (l : List Int) : List Int := l.foldr ins []
theorem zey (x : Int) : ∀ l, (ins x l).Perm (x :: l)
  | [] => .refl _
  | y :: r => by
    unfold ins
    cases decide (x ≤ y)
    · exact ((zey x r).cons y).trans (.swap ..)
    · exact .refl _
theorem zc4 : ∀ l, (isort l).Perm l
  | [] => .refl _
  | x :: l => (zey x _).trans ((zc4 l).cons x)
theorem zeu (x : Int) : ∀ l : List Int, l.Pairwise (· ≤ ·) → (ins x l).Pairwise (· ≤ ·)
  | [], _ => by simp [ins]
  | y :: r, h => by
    have h2 := List.pairwise_cons.1 h; unfold ins; by_cases hxy : x ≤ y
    · rw [decide_eq_true hxy]; refine List.pairwise_cons.2 ⟨fun z hz => ?_, h⟩; rcases List.mem_cons.1 hz with rfl | hz
      · exact hxy
      · exact Int.le_trans hxy (h2.1 z hz)
    · rw [decide_eq_false hxy]; refine List.pairwise_cons.2 ⟨fun z hz => ?_, zeu x r h2.2⟩; rcases List.mem_cons.1 ((zey x r).mem_iff.1 hz) with rfl | hz
      · omega
      · exact h2.1 z hz
theorem zcZ : ∀ l, (isort l).Pairwise (· ≤ ·)
  | [] => .nil
  | x :: l => zeu x _ (zcZ l)
theorem zeg : ∀ {a b : List Int}, a.Perm b → a.Pairwise (· ≤ ·) → b.Pairwise (· ≤ ·) → a = b
  | [], b, h, _, _ => (List.Perm.nil_eq h)
  | x :: a, [], h, _, _ => by cases h.symm.nil_eq
  | x :: a, y :: b, h, ha, hb => by
    have h1 := List.pairwise_cons.1 ha; have h2 := List.pairwise_cons.1 hb; have hx : x ∈ y :: b := h.mem_iff.1 (List.mem_cons_self ..); have hy : y ∈ x :: a := h.mem_iff.2 (List.mem_cons_self ..)
    have e : x = y := by
      rcases List.mem_cons.1 hx with e | hx
      · exact e
      · rcases List.mem_cons.1 hy with e | hy
        · exact e.symm
        · have := h1.1 y hy; have := h2.1 x hx; omega
    subst e; rw [zeg (List.perm_cons x |>.1 h) h1.2 h2.2]
theorem zdV (l : List Int) : (l.mergeSort fun x y => decide (x ≤ y)) = isort l :=
  zeg ((List.mergeSort_perm l _).trans (zc4 l).symm)
    ((List.pairwise_mergeSort (le := fun x y : Int => decide (x ≤ y)) (fun a b c h1 h2 => decide_eq_true (Int.le_trans (of_decide_eq_true h1) (of_decide_eq_true h2))) (fun a b => by
      rcases Int.le_total a b with h | h
      · simp [h]
      · simp [h]) l).imp fun h => of_decide_eq_true h) (zcZ l)
theorem zeb (l : List Int) : l.flatMap eI = l.map (Value.int .i64) := by
  induction l with
  | nil => rfl
  | cons x l ih => rw [List.flatMap_cons, ih]; rfl
theorem FxM.one {F0 : Frz} {w w' : World} {E E' : Ent} (hF0 : F0.At w) (hO : Hp w (fps [E]) [E] w) (hA : ∀ g, fps [E] g → ¬ F0.S g) (ho : Only E.fp w w') (hok : E'.ok w') (hfp : ∀ g, E'.fp g → E.fp g ∨ w.heap.size ≤ g) : FxM F0 w (fps [E]) F0 [E'] w' := by
  obtain ⟨S0, G, rfl, hS, h⟩ := zbh hF0 hO hA; refine FxM.of (es := [E']) (Hp.go (es := [E]) (es' := [E']) (hs := [.fr G]) h ho (fun g _ hg => ⟨E, by simp, hg⟩) (fun e he => ?_) (fun e he g hg => ?_) (List.pairwise_singleton _ _)) hS (Frz.Le.refl _)
  · obtain rfl := List.mem_singleton.1 he; exact hok
  · obtain rfl := List.mem_singleton.1 he; exact (hfp g hg).imp (fun h => ⟨E, by simp, h⟩) id
def zfc (l : List Int) : Option (List Int) := grd (l.length < 4611686018427387904) <| some (isort l)
theorem Only.of_grownBy {w w' : World} {v : Value} {e : TypeId} {size k : Nat} {l : List Value} {g : Nat} (h : w.grownBy w' (some g)) (hv : v.ownBlock = some g) : Only (Ent.sl v e size k l).fp w w' :=
  ⟨h.os, h.tape, h.output, h.size, fun k hk hn => h.block k hk fun e => hn (Ent.sl_fp.2 (by rw [hv, e]))⟩
theorem zgX (F0 : Frz) (w : World) (hF0 : F0.At w) (l0_ : List Int) (v0_ : Value) (hO : Hp w (fps [.sl v0_ 3 1 l0_.length (l0_.flatMap eI)]) [.sl v0_ 3 1 l0_.length (l0_.flatMap eI)] w) (hA : ∀ g, fps [.sl v0_ 3 1 l0_.length (l0_.flatMap eI)] g → ¬ F0.S g) (r : List Int) (hr : zfc l0_ = some r) :
    Calls Tryz.prog 26 #[v0_] w fun e w' => ∃ (y : Unit), (True) ∧ e = .returned (.tuple #[]) ∧ FxM F0 w (fps [.sl v0_ 3 1 l0_.length (l0_.flatMap eI)]) F0 [.sl v0_ 3 1 r.length (r.flatMap eI)] w' := by
  obtain ⟨hsz, hr⟩ := zaC hr; obtain rfl := Option.some.inj hr; have hk := hO.own _ (List.mem_cons_self ..); have ho := Ent.sl_ok.1 hk; have hl : (isort l0_).length = l0_.length := (zc4 l0_).length_eq; rcases ho.2 with ⟨rfl, h0⟩ | ⟨g, cap, cur, rfl, hb, hg, h1, h2, h3, h4⟩
  · obtain rfl := List.eq_nil_of_length_eq_zero h0; refine (slices_Sort_int_none none 0 w).mono ?_; rintro e w' ⟨rfl, rfl⟩; exact ⟨⟨⟩, trivial, rfl, FxM.one hF0 hO hA (Only.refl _ _) hk fun g h => .inl h⟩
  · rw [Nat.mul_one] at h3 h4; rw [zeb] at h4; refine (slices_Sort_int g 0 cap l0_ w (holds_of_blockI hg h4) (Array.getElem?_eq_some_iff.1 hg).1 hsz).mono ?_; rintro e w' ⟨rfl, n, os, rfl⟩; rw [zdV]; refine ⟨⟨⟩, trivial, rfl, FxM.one hF0 hO hA (Only.of_grownBy (grownBy_sortedI _) rfl) (Ent.sl_ok.2 ?_) fun k h => .inl (Ent.sl_fp.2 (show some g = some k from Ent.sl_fp.1 h))⟩; rw [zeb, hl]; exact ownsRow_sortedI hl (Nat.zero_le _) hg h1 h2 (by omega)
def zea (l : List Int) : List Int := Lib.compact l
theorem zfJ (l : List Int) : (Lib.compact l).length ≤ l.length := by
  unfold Lib.compact Lib.compactUpTo; simpa using List.length_filter_le (Lib.keeps l.toArray) (List.range l.length)
theorem zgQ (F0 : Frz) (w : World) (hF0 : F0.At w) (l0_ : List Int) (v0_ : Value) (hO : Hp w (fps [.sl v0_ 3 1 l0_.length (l0_.flatMap eI)]) [.sl v0_ 3 1 l0_.length (l0_.flatMap eI)] w) (hA : ∀ g, fps [.sl v0_ 3 1 l0_.length (l0_.flatMap eI)] g → ¬ F0.S g) :
    Calls Tryz.prog 27 #[v0_] w fun e w' => ∃ (y : Value), (True) ∧ e = .returned y ∧ FxM F0 w (fps [.sl v0_ 3 1 l0_.length (l0_.flatMap eI)]) F0 [.sl y 3 1 (zea l0_).length ((zea l0_).flatMap eI)] w' := by
  have hk := hO.own _ (List.mem_cons_self ..); have ho := Ent.sl_ok.1 hk; rcases ho.2 with ⟨rfl, h0⟩ | ⟨g, cap, cur, rfl, hb, hg, h1, h2, h3, h4⟩
  · obtain rfl := List.eq_nil_of_length_eq_zero h0; refine (slices_Compact_int_empty none 0 w).mono ?_; rintro e w' ⟨rfl, rfl⟩; exact ⟨_, trivial, rfl, FxM.one hF0 hO hA (Only.refl _ _) hk fun g h => .inl h⟩
  · rw [Nat.mul_one] at h3 h4; rw [zeb] at h4; refine (slices_Compact_int g 0 cap l0_ w (holds_of_blockI hg h4) (by unfold maxLen at h2; omega) h1).mono ?_; rintro e w' ⟨rfl, q, rfl⟩; rw [← Sort.grow_empty (putRow _ _ _ _ _)]; have hc := zfJ l0_; refine ⟨_, trivial, rfl, FxM.one hF0 hO hA (Only.of_grownBy (grownBy_sortedI _) rfl) (Ent.sl_ok.2 ⟨?_, .inr ⟨g, cap, _, rfl, Nat.zero_le _, heap_sortedI _ hg, by unfold zea; omega, h2, ?_, ?_⟩⟩) fun k h => .inl (Ent.sl_fp.2 (show some g = some k from Ent.sl_fp.1 h))⟩
    · rw [zeb, List.length_map, Nat.mul_one]
    · simp [putCells, h3]
    · have ht := take_putCellsI cur (Lib.compact l0_ ++ List.replicate (l0_.length - (Lib.compact l0_).length) 0) (by simp; omega); rw [zeb, Nat.mul_one]; have h5 := congrArg (List.take (Lib.compact l0_).length) ht; rw [List.take_take, List.map_append, List.take_left' (by rw [List.length_map]), Nat.min_eq_left (by simp)] at h5; exact h5
end Go.Proofs.YtipomhejoajjdaaGreatDoor
namespace Go.Proofs.YtipomhejoajjdaaGreatDoor
open Go.RowKit
def inB (n a b : Int) : Bool := decide (a ≤ n) && decide (n ≤ b)
def Ie (z : Int) : List Value := [.int .i64 z]
theorem zgH {α : Type} [Inhabited α] {xs : List α} {k : Nat} (h : k < xs.length) : nth xs k ∈ xs := by rw [za1 h]; exact List.getElem_mem _
abbrev Ws := List (BitVec 64)
abbrev Ws.cells (ws : Ws) : List Value := ws.map fun b => U b
def sBit (ws : Ws) (i : Nat) : Bool := (nth ws (i / 64)).getLsbD (i % 64)
theorem Ws.get {ws : Ws} {i p : Nat} (h : i < ws.length) (hp : p = i) : ws.cells[p]? = some (U (nth ws i)) := by
  subst hp; simp [nth, h]
theorem Ws.put {ws : Ws} {i p : Nat} {b : BitVec 64} (hp : p = i) : ws.cells.set p (U b) = Ws.cells (ws.set i b) := by
  subst hp; simp [List.map_set]
def pop1 (a : BitVec 64) : BitVec 64 := ((a >>> 1) &&& 6148914691236517205#64) + (a &&& 6148914691236517205#64)
def pop2 (a : BitVec 64) : BitVec 64 := ((a >>> 2) &&& 3689348814741910323#64) + (a &&& 3689348814741910323#64)
def pop3 (a : BitVec 64) : BitVec 64 := ((a >>> 4) + a) &&& 1085102592571150095#64
def pop4 (k : Nat) (a : BitVec 64) : BitVec 64 := a + (a >>> k)
def zf6 (a : BitVec 64) : Nat := (pop4 32 (pop4 16 (pop4 8 (pop3 (pop2 (pop1 a))))) &&& 127#64).toNat
theorem zfz (a : BitVec 64) : zf6 a ≤ 127 := by
  unfold zf6; rw [BitVec.toNat_and]; exact Nat.and_le_right
theorem zfM (b : BitVec 64) : BitVec.ofInt 64 (IntKind.i64.wrap (b.toNat : Int)) = b := by
  apply BitVec.eq_of_toNat_eq; rw [BitVec.toNat_ofInt, IntKind.wrap_i64]; have := b.isLt; omega
section
variable {P : Program} {n : Nat} {B D : World} {M : Nat → Prop} {fs : SFs} {hs : HS} {o : Oper} {v : Value}
theorem Yv.bW {x : Operand} {a : BitVec 64} (ho : o.op = .convert 61 3 x) (hx : ev fs x = some (U a)) : Yv Tryz.prog n B M fs hs o (.int .i64 (IntKind.i64.wrap (a.toNat : Int))) := fun f w ha _ => by
  (have hr : (convert 61 3 (U a)).run Tryz.prog w = .ok (.int .i64 (IntKind.i64.wrap (a.toNat : Int))) w := by kernel_rfl); unfold execOp; simp only [ho, ha.ev hx]; rw [Sem.run_bind, hr]
  rfl
theorem Yv.aR {x : Operand} {t u : TypeId} {a : BitVec 64} (ho : o.op = .binOp .and t x (.const (.int .i64 127)) u) (hx : ev fs x = some (.int .i64 (IntKind.i64.wrap (a.toNat : Int)))) : Yv P n B M fs hs o (.int .i64 ((a &&& 127#64).toNat : Int)) := fun f w ha _ => by
  have hr : (binOp .and t (.int .i64 (IntKind.i64.wrap (a.toNat : Int))) (.int .i64 127)).run P w = .ok (.int .i64 ((a &&& 127#64).toNat : Int)) w := by
    have e : (binOp .and t (.int .i64 (IntKind.i64.wrap (a.toNat : Int))) (.int .i64 127)).run P w = .ok (.int .i64 (IntKind.i64.wrap ((BitVec.ofInt 64 (IntKind.i64.wrap (a.toNat : Int)) &&& BitVec.ofInt 64 127).toNat : Int))) w := rfl; (have hle : (a &&& 127#64).toNat ≤ 127 := by rw [BitVec.toNat_and]; exact Nat.and_le_right); rw [e, zfM, show BitVec.ofInt 64 127 = 127#64 from rfl, IntWalk.i64_in _ ⟨by omega, by omega⟩]
  unfold execOp; simp only [ho, ha.ev hx, ha.ev (x := .const (.int .i64 127)) rfl]; rw [Sem.run_bind, Sem.run_bind, show (eqGuard .and t x (.const (.int .i64 127)) (.int .i64 (IntKind.i64.wrap (a.toNat : Int))) (.int .i64 127)).run P w = .ok () w from rfl]; simp only [Result.andThen, hr]
  rfl
end
theorem zgs (a : BitVec 64) (w : World) : Calls Tryz.prog 85 #[U a] w fun e w' => e = .returned (.int .i64 (zf6 a : Int)) ∧ Below w.heap.size w w' := by
  refine zak (M := fun _ => False) (hs := []) Tryz.func85 rfl rfl rfl (Hp.refl _ _) ?_; refine T.sr ?_; refine TL.run 1 rfl ?_; refine TL.nx ?_; refine TL.run 1 rfl ?_
  first | refine TL.y (Yv.ay 1 rfl rfl rfl rfl (by decide)) ?_ | refine TL.y (Yv.ay 2 rfl rfl rfl rfl (by decide)) ?_ | refine TL.y (Yv.ay 4 rfl rfl rfl rfl (by decide)) ?_ | refine TL.y (Yv.ay 8 rfl rfl rfl rfl (by decide)) ?_ | refine TL.y (Yv.ay 16 rfl rfl rfl rfl (by decide)) ?_ | refine TL.y (Yv.ay 32 rfl rfl rfl rfl (by decide)) ?_ | refine TL.y (Yv.shrU rfl rfl rfl (by omega)) ?_ | refine TL.y (Yv.shrU rfl rfl rfl) ?_
  first | refine TL.y (Yv.aH (b := 6148914691236517205#64) rfl rfl rfl) ?_ | refine TL.y (Yv.aH (b := 3689348814741910323#64) rfl rfl rfl) ?_ | refine TL.y (Yv.aH (b := 1085102592571150095#64) rfl rfl rfl) ?_ | refine TL.y (Yv.aR rfl rfl) ?_ | refine TL.y (Yv.andU rfl rfl rfl (by omega)) ?_ | refine TL.y (Yv.andU rfl rfl rfl) ?_
  refine TL.run 1 rfl ?_
  first | refine TL.y (Yv.aH (b := 6148914691236517205#64) rfl rfl rfl) ?_ | refine TL.y (Yv.aH (b := 3689348814741910323#64) rfl rfl rfl) ?_ | refine TL.y (Yv.aH (b := 1085102592571150095#64) rfl rfl rfl) ?_ | refine TL.y (Yv.aR rfl rfl) ?_ | refine TL.y (Yv.andU rfl rfl rfl (by omega)) ?_ | refine TL.y (Yv.andU rfl rfl rfl) ?_
  first | refine TL.y (Yv.bb rfl rfl rfl) ?_ | refine TL.y (Yv.an rfl rfl rfl (by omega)) ?_ | refine TL.run 1 rfl ?_
  refine TL.run 1 rfl ?_; refine TL.nx ?_; refine TL.run 1 rfl ?_
  first | refine TL.y (Yv.ay 1 rfl rfl rfl rfl (by decide)) ?_ | refine TL.y (Yv.ay 2 rfl rfl rfl rfl (by decide)) ?_ | refine TL.y (Yv.ay 4 rfl rfl rfl rfl (by decide)) ?_ | refine TL.y (Yv.ay 8 rfl rfl rfl rfl (by decide)) ?_ | refine TL.y (Yv.ay 16 rfl rfl rfl rfl (by decide)) ?_ | refine TL.y (Yv.ay 32 rfl rfl rfl rfl (by decide)) ?_ | refine TL.y (Yv.shrU rfl rfl rfl (by omega)) ?_ | refine TL.y (Yv.shrU rfl rfl rfl) ?_
  first | refine TL.y (Yv.aH (b := 6148914691236517205#64) rfl rfl rfl) ?_ | refine TL.y (Yv.aH (b := 3689348814741910323#64) rfl rfl rfl) ?_ | refine TL.y (Yv.aH (b := 1085102592571150095#64) rfl rfl rfl) ?_ | refine TL.y (Yv.aR rfl rfl) ?_ | refine TL.y (Yv.andU rfl rfl rfl (by omega)) ?_ | refine TL.y (Yv.andU rfl rfl rfl) ?_
  refine TL.run 1 rfl ?_
  first | refine TL.y (Yv.aH (b := 6148914691236517205#64) rfl rfl rfl) ?_ | refine TL.y (Yv.aH (b := 3689348814741910323#64) rfl rfl rfl) ?_ | refine TL.y (Yv.aH (b := 1085102592571150095#64) rfl rfl rfl) ?_ | refine TL.y (Yv.aR rfl rfl) ?_ | refine TL.y (Yv.andU rfl rfl rfl (by omega)) ?_ | refine TL.y (Yv.andU rfl rfl rfl) ?_
  first | refine TL.y (Yv.bb rfl rfl rfl) ?_ | refine TL.y (Yv.an rfl rfl rfl (by omega)) ?_ | refine TL.run 1 rfl ?_
  refine TL.run 1 rfl ?_; refine TL.nx ?_; refine TL.run 1 rfl ?_
  first | refine TL.y (Yv.ay 1 rfl rfl rfl rfl (by decide)) ?_ | refine TL.y (Yv.ay 2 rfl rfl rfl rfl (by decide)) ?_ | refine TL.y (Yv.ay 4 rfl rfl rfl rfl (by decide)) ?_ | refine TL.y (Yv.ay 8 rfl rfl rfl rfl (by decide)) ?_ | refine TL.y (Yv.ay 16 rfl rfl rfl rfl (by decide)) ?_ | refine TL.y (Yv.ay 32 rfl rfl rfl rfl (by decide)) ?_ | refine TL.y (Yv.shrU rfl rfl rfl (by omega)) ?_ | refine TL.y (Yv.shrU rfl rfl rfl) ?_
  refine TL.run 1 rfl ?_
  first | refine TL.y (Yv.bb rfl rfl rfl) ?_ | refine TL.y (Yv.an rfl rfl rfl (by omega)) ?_ | refine TL.run 1 rfl ?_
  first | refine TL.y (Yv.aH (b := 6148914691236517205#64) rfl rfl rfl) ?_ | refine TL.y (Yv.aH (b := 3689348814741910323#64) rfl rfl rfl) ?_ | refine TL.y (Yv.aH (b := 1085102592571150095#64) rfl rfl rfl) ?_ | refine TL.y (Yv.aR rfl rfl) ?_ | refine TL.y (Yv.andU rfl rfl rfl (by omega)) ?_ | refine TL.y (Yv.andU rfl rfl rfl) ?_
  refine TL.run 1 rfl ?_; refine TL.nx ?_; refine TL.run 2 rfl ?_
  first | refine TL.y (Yv.ay 1 rfl rfl rfl rfl (by decide)) ?_ | refine TL.y (Yv.ay 2 rfl rfl rfl rfl (by decide)) ?_ | refine TL.y (Yv.ay 4 rfl rfl rfl rfl (by decide)) ?_ | refine TL.y (Yv.ay 8 rfl rfl rfl rfl (by decide)) ?_ | refine TL.y (Yv.ay 16 rfl rfl rfl rfl (by decide)) ?_ | refine TL.y (Yv.ay 32 rfl rfl rfl rfl (by decide)) ?_ | refine TL.y (Yv.shrU rfl rfl rfl (by omega)) ?_ | refine TL.y (Yv.shrU rfl rfl rfl) ?_
  first | refine TL.y (Yv.bb rfl rfl rfl) ?_ | refine TL.y (Yv.an rfl rfl rfl (by omega)) ?_ | refine TL.run 1 rfl ?_
  refine TL.run 1 rfl ?_; refine TL.nx ?_; refine TL.run 2 rfl ?_
  first | refine TL.y (Yv.ay 1 rfl rfl rfl rfl (by decide)) ?_ | refine TL.y (Yv.ay 2 rfl rfl rfl rfl (by decide)) ?_ | refine TL.y (Yv.ay 4 rfl rfl rfl rfl (by decide)) ?_ | refine TL.y (Yv.ay 8 rfl rfl rfl rfl (by decide)) ?_ | refine TL.y (Yv.ay 16 rfl rfl rfl rfl (by decide)) ?_ | refine TL.y (Yv.ay 32 rfl rfl rfl rfl (by decide)) ?_ | refine TL.y (Yv.shrU rfl rfl rfl (by omega)) ?_ | refine TL.y (Yv.shrU rfl rfl rfl) ?_
  first | refine TL.y (Yv.bb rfl rfl rfl) ?_ | refine TL.y (Yv.an rfl rfl rfl (by omega)) ?_ | refine TL.run 1 rfl ?_
  refine TL.run 1 rfl ?_; refine TL.nx ?_; refine TL.run 2 rfl ?_
  first | refine TL.y (Yv.ay 1 rfl rfl rfl rfl (by decide)) ?_ | refine TL.y (Yv.ay 2 rfl rfl rfl rfl (by decide)) ?_ | refine TL.y (Yv.ay 4 rfl rfl rfl rfl (by decide)) ?_ | refine TL.y (Yv.ay 8 rfl rfl rfl rfl (by decide)) ?_ | refine TL.y (Yv.ay 16 rfl rfl rfl rfl (by decide)) ?_ | refine TL.y (Yv.ay 32 rfl rfl rfl rfl (by decide)) ?_ | refine TL.y (Yv.shrU rfl rfl rfl (by omega)) ?_ | refine TL.y (Yv.shrU rfl rfl rfl) ?_
  first | refine TL.y (Yv.bb rfl rfl rfl) ?_ | refine TL.y (Yv.an rfl rfl rfl (by omega)) ?_ | refine TL.run 1 rfl ?_
  refine TL.run 1 rfl ?_; refine TL.nx ?_; refine TL.run 1 rfl ?_
  first | refine TL.y (Yv.aX rfl rfl rfl) ?_ | refine TL.y (Yv.aX rfl rfl (by first | exact IntWalk.i64_in _ (by omega) | exact IntWalk.u64_in _ (by omega) | exact IntWalk.u8_in _ (by omega))) ?_ | refine TL.y (Yv.bW rfl rfl) ?_
  first | refine TL.y (Yv.aH (b := 6148914691236517205#64) rfl rfl rfl) ?_ | refine TL.y (Yv.aH (b := 3689348814741910323#64) rfl rfl rfl) ?_ | refine TL.y (Yv.aH (b := 1085102592571150095#64) rfl rfl rfl) ?_ | refine TL.y (Yv.aR rfl rfl) ?_ | refine TL.y (Yv.andU rfl rfl rfl (by omega)) ?_ | refine TL.y (Yv.andU rfl rfl rfl) ?_
  refine TL.run 1 rfl ?_; refine TL.ns (T.ret ?_); refine K.ak rfl rfl (fun w' hw => ⟨?_, hw.isBelow⟩)
  rfl
theorem zg9 (a : BitVec 64) (ha : a ≠ 0#64) (w : World) (ht : Tab w) : Calls Tryz.prog 103 #[U a] w fun e w' => e = .returned (.int .i64 (ctz a : Int)) ∧ Below w.heap.size w w' := by
  obtain ⟨hi, htab⟩ := zg4 ha; have hcell := ht _ hi; rw [htab] at hcell; have hlt := zfu ha; refine zak (M := fun _ => False) (hs := []) Tryz.func103 rfl rfl rfl (Hp.refl _ _) ?_; refine T.sr ?_; refine TL.run 1 rfl ?_; refine TL.ns (T.seq (T.sr ?_)); refine TL.run 1 rfl ?_
  first | refine TL.run 1 rfl ?_ | refine TL.y (Yv.bO rfl rfl rfl rfl) ?_
  refine TL.ns ?_; refine T.aW rfl (by rw [zg0]; exact decide_eq_false ha) ?_; refine T.skip (K.seq (T.sr ?_)); refine TL.run 2 rfl ?_
  first | refine TL.run 1 rfl ?_ | refine TL.y (Yv.not rfl rfl) ?_ | refine TL.y (Yv.be rfl rfl) ?_ | refine TL.y (Yv.by rfl rfl) ?_
  first | refine TL.y (Yv.aH rfl rfl rfl) ?_ | refine TL.y (Yv.andU rfl rfl rfl (by omega)) ?_ | refine TL.y (Yv.andU rfl rfl rfl) ?_
  first | refine TL.y (Yv.ca (b := 285870213051353865#64) rfl rfl rfl) ?_ | refine TL.y (Yv.bv rfl rfl rfl (by omega)) ?_ | refine TL.run 1 rfl ?_
  first | refine TL.y (Yv.ay 58 rfl rfl rfl rfl (by decide)) ?_ | refine TL.y (Yv.shrU rfl rfl rfl (by omega)) ?_ | refine TL.y (Yv.shrU rfl rfl rfl) ?_
  first | refine TL.y (Yv.aF rfl rfl rfl rfl (by omega)) ?_ | refine TL.y (Yv.as rfl rfl rfl rfl (by omega)) ?_ | refine TL.y (Yv.aF rfl rfl rfl (rfl) (by omega)) ?_ | refine TL.y (Yv.as rfl rfl rfl (rfl) (by omega)) ?_
  first | refine TL.y (Yv.aT rfl rfl (by rw [show ∀ x : Nat, 0 + x * 1 = x from fun x => by omega]; exact hcell) (fun h => h)) ?_ | refine TL.y (Yv.a 0 rfl rfl rfl rfl) ?_ | refine TL.y (Yv.a 1 rfl rfl rfl rfl) ?_ | refine TL.y (Yv.a 2 rfl rfl rfl rfl) ?_ | refine TL.y (Yv.aT rfl rfl (by assumption) (fun h => h)) ?_ | refine TL.y (Yv.az 0 rfl rfl rfl (by first | rfl | assumption)) ?_ | refine TL.y (Yv.az 1 rfl rfl rfl (by first | rfl | assumption)) ?_ | refine TL.y (Yv.az 2 rfl rfl rfl (by first | rfl | assumption)) ?_
  first | refine TL.y (Yv.aX rfl rfl rfl) ?_ | refine TL.y (Yv.aX rfl rfl (by first | exact IntWalk.i64_in _ (by omega) | exact IntWalk.u64_in _ (by omega) | exact IntWalk.u8_in _ (by omega))) ?_ | refine TL.y (Yv.aX rfl rfl (IntWalk.i64_in _ (by omega))) ?_
  refine TL.run 1 rfl ?_; refine TL.ns (T.ret ?_); refine K.ak rfl rfl (fun w' hw => ⟨?_, hw.isBelow⟩)
  rfl
def slen (ws : Ws) (k : Nat) : Nat := ((ws.take k).map zf6).sum
theorem ze7 {ws : Ws} {k : Nat} (h : k < ws.length) : slen ws (k + 1) = slen ws k + zf6 (nth ws k) := by
  unfold slen; rw [List.take_succ_eq_append_getElem h, za1 h, List.map_append, List.sum_append]; simp
theorem zfm (ws : Ws) : ∀ k, slen ws k ≤ 127 * k
  | 0 => by simp [slen]
  | k + 1 => by
    have := zfm ws k; rcases Nat.lt_or_ge k ws.length with h | h
    · rw [ze7 h]; have := zfz (nth ws k); omega
    · unfold slen at *; rw [List.take_of_length_le (by omega)] at *; omega
@[irreducible] def memF (ws : Ws) (i : Nat) : List Nat := (List.range' i (512 - i)).filter (sBit ws)
abbrev memN (ws : Ws) : List Nat := memF ws 0
def zeO : List Nat → Int
  | [] => -1
  | x :: _ => (x : Int)
theorem ze1 {ws : Ws} {i : Nat} (h : ∀ j, i ≤ j → j < 512 → sBit ws j = false) : memF ws i = [] := by
  unfold memF; rw [List.filter_eq_nil_iff]; intro j hj; obtain ⟨h1, h2⟩ := List.mem_range'_1.1 hj; rw [h j h1 (by omega)]; simp
theorem zeW {ws : Ws} {i r : Nat} (hi : i ≤ r) (hr : r < 512) (hb : sBit ws r = true) (h : ∀ j, i ≤ j → j < r → sBit ws j = false) : memF ws i = r :: memF ws (r + 1) := by
  unfold memF
  have e : List.range' i (512 - i) = List.range' i (r - i) ++ (r :: List.range' (r + 1) (512 - (r + 1))) := by
    rw [show r :: List.range' (r + 1) (512 - (r + 1)) = List.range' r (512 - r) from by rw [show 512 - r = (512 - (r + 1)) + 1 by omega, List.range'_succ]]; have := List.range'_append (s := i) (m := r - i) (n := 512 - r) (step := 1); rw [Nat.one_mul, show i + (r - i) = r by omega, show r - i + (512 - r) = 512 - i by omega] at this; exact this.symm
  rw [e, List.filter_append, List.filter_cons_of_pos (by simpa using hb)]
  have : (List.range' i (r - i)).filter (sBit ws) = [] := by
    rw [List.filter_eq_nil_iff]; intro j hj; obtain ⟨h1, h2⟩ := List.mem_range'_1.1 hj; rw [h j h1 (by omega)]; simp
  rw [this]; rfl
theorem memF_mem {ws : Ws} {i j : Nat} : j ∈ memF ws i ↔ i ≤ j ∧ j < 512 ∧ sBit ws j = true := by
  unfold memF; rw [List.mem_filter, List.mem_range'_1]; constructor
  · rintro ⟨⟨h1, h2⟩, h3⟩; exact ⟨h1, by omega, h3⟩
  · rintro ⟨h1, h2, h3⟩; exact ⟨⟨h1, by omega⟩, h3⟩
theorem zfO {ws : Ws} {i h : Nat} {t : List Nat} (e : memF ws i = h :: t) : i ≤ h ∧ h < 512 ∧ t = memF ws (h + 1) := by
  have hm := memF_mem.1 (show h ∈ memF ws i by rw [e]; simp)
  have hs : memF ws i = h :: memF ws (h + 1) := zeW hm.1 hm.2.1 hm.2.2 (fun j h1 h2 => by
    cases hb : sBit ws j with
    | false => rfl
    | true =>
      have hj : j ∈ memF ws i := memF_mem.2 ⟨h1, by omega, hb⟩; (have hsort : (memF ws i).Pairwise (· < ·) := by unfold memF; exact List.Pairwise.filter _ List.pairwise_lt_range'); rw [e] at hj hsort; rcases List.mem_cons.1 hj with hj | hj
      · omega
      · have := (List.pairwise_cons.1 hsort).1 j hj; omega)
  rw [e] at hs; exact ⟨hm.1, hm.2.1, (List.cons.inj hs).2⟩
theorem zgA (ws : Ws) (i : Nat) : (memF ws i).length ≤ 512 := by
  unfold memF; have := List.length_filter_le (sBit ws) (List.range' i (512 - i)); rw [List.length_range'] at this; omega
theorem zgF (a : BitVec 64) (k j : Nat) (hj : j < 64) : ((a >>> k) <<< k).getLsbD j = (a.getLsbD j && decide (k ≤ j)) := by
  rw [BitVec.getLsbD_shiftLeft, BitVec.getLsbD_ushiftRight]; by_cases h : j < k
  · simp [h]
  · rw [show k + (j - k) = j by omega]; simp [hj, h]; intro _; omega
structure NxInv (ws : Ws) (i at' : Nat) (b : BitVec 64) : Prop where
  lt : at' < 8
  ge : i < 64 * (at' + 1)
  bit : ∀ j, j < 64 → b.getLsbD j = (sBit ws (64 * at' + j) && decide (i ≤ 64 * at' + j))
  none : ∀ j, i ≤ j → j < 64 * at' → sBit ws j = false
theorem NxInv.start {ws : Ws} {i : Nat} (hi : i < 512) : NxInv ws i (i / 64) ((nth ws (i / 64) >>> (i % 64)) <<< (i % 64)) where
  lt := by omega
  ge := by omega
  bit j hj := by
    rw [zgF _ _ _ hj]; unfold sBit; rw [show (64 * (i / 64) + j) / 64 = i / 64 by omega, show (64 * (i / 64) + j) % 64 = j by omega]
    congr 1
    exact decide_eq_decide.2 (by omega)
  none j h1 h2 := by omega
theorem NxInv.next {ws : Ws} {i a : Nat} (h : NxInv ws i a 0#64) (ha : a + 1 < 8) : NxInv ws i (a + 1) (nth ws (a + 1)) where
  lt := ha
  ge := by have := h.ge; omega
  bit j hj := by
    have := h.ge; unfold sBit; rw [show (64 * (a + 1) + j) / 64 = a + 1 by omega, show (64 * (a + 1) + j) % 64 = j by omega, decide_eq_true (by omega), Bool.and_true]
  none j h1 h2 := by
    rcases Nat.lt_or_ge j (64 * a) with hj | hj
    · exact h.none j h1 hj
    · have := h.bit (j - 64 * a) (by omega); rw [show 64 * a + (j - 64 * a) = j by omega, decide_eq_true h1, Bool.and_true, BitVec.getLsbD_zero] at this; exact this.symm
theorem NxInv.found {ws : Ws} {i a : Nat} {b : BitVec 64} (h : NxInv ws i a b) (hb : b ≠ 0#64) : memF ws i = (64 * a + ctz b) :: memF ws (64 * a + ctz b + 1) := by
  have hc := zfu hb; have h1 := (zgd hb 0).1; rw [h.bit _ hc] at h1; simp only [Bool.and_eq_true, decide_eq_true_eq] at h1; have := h.lt; refine zeW h1.2 (by omega) h1.1 (fun j hi hj => ?_); rcases Nat.lt_or_ge j (64 * a) with hj2 | hj2
  · exact h.none j hi hj2
  · have h2 := (zgd hb (j - 64 * a)).2 (by omega); rw [h.bit _ (by omega), show 64 * a + (j - 64 * a) = j by omega, decide_eq_true hi, Bool.and_true] at h2; exact h2
theorem NxInv.over {ws : Ws} {i a : Nat} (h : NxInv ws i a 0#64) (ha : a + 1 = 8) : memF ws i = [] := ze1 fun j h1 h2 => by
  rcases Nat.lt_or_ge j (64 * a) with hj2 | hj2
  · exact h.none j h1 hj2
  · have h3 := h.bit (j - 64 * a) (by omega); rw [show 64 * a + (j - 64 * a) = j by omega, decide_eq_true h1, Bool.and_true, BitVec.getLsbD_zero] at h3; exact h3.symm
theorem ze8 (ws : Ws) : ∀ (k i : Nat), k < (memF ws i).length → memF ws (nth (memF ws i) k + 1) = (memF ws i).drop (k + 1)
  | k, i, hk => by
    cases e : memF ws i with
    | nil => rw [e] at hk; simp at hk
    | cons h t =>
      obtain ⟨h1, h2, h3⟩ := zfO e
      cases k with
      | zero => simp [nth, h3]
      | succ k =>
        rw [e] at hk; subst h3; have := ze8 ws k (h + 1) (by simpa using hk); simpa [nth] using this
theorem zel {xs : List Nat} {k : Nat} (h : k < xs.length) : zeO (xs.drop k) = ((nth xs k : Nat) : Int) := by
  rw [List.drop_eq_getElem_cons h, za1 h]; rfl
theorem zfQ {xs : List Nat} {k : Nat} (h : zeO (xs.drop k) < 0) : xs.length ≤ k := by
  rcases Nat.lt_or_ge k xs.length with hk | hk
  · rw [zel hk] at h; omega
  · exact hk
theorem zgg {xs : List Nat} {k : Nat} (h : 0 ≤ zeO (xs.drop k)) : k < xs.length := by
  rcases Nat.lt_or_ge k xs.length with hk | hk
  · exact hk
  · rw [List.drop_eq_nil_of_le hk] at h; simp [zeO] at h
theorem zgL {α : Type} [Inhabited α] {xs : List α} {k : Nat} (h : k < xs.length) : xs[k]? = some (nth xs k) := by rw [za1 h]; exact List.getElem?_eq_getElem h
theorem zgG {α : Type} [Inhabited α] {xs : List α} {k : Nat} {x : α} (h : xs[k]? = some x) : k < xs.length ∧ x = nth xs k := by
  obtain ⟨h1, h2⟩ := List.getElem?_eq_some_iff.1 h; exact ⟨h1, by rw [za1 h1, h2]⟩
def nums (l : List Nat) : List Value := l.map fun j : Nat => .int .i64 (j : Int)
theorem zgc {l : List Nat} {k : Nat} (h : k < l.length) : nums (l.take (k + 1)) = nums (l.take k) ++ [.int .i64 ((nth l k : Nat) : Int)] := by
  unfold nums; rw [List.take_succ_eq_append_getElem h, za1 h, List.map_append]; rfl
theorem zfP (l : List Nat) : nums l = (l.map fun j : Nat => (j : Int)).flatMap Ie := by
  unfold nums
  induction l with
  | nil => rfl
  | cons x r ih => simp_all [Ie]
theorem zgP (ws : Ws) (hws : ws.length = 8) (w : World) : Calls Tryz.prog 53 #[.agg ws.cells.toArray] w fun e w' => e = .returned (.int .i64 (slen ws 8 : Int)) ∧ Below w.heap.size w w' := by
  refine zak (M := fun _ => False) (hs := []) Tryz.func53 rfl rfl rfl (Hp.refl _ _) ?_; refine T.sr ?_
  first | (refine TL.ew (Wt.none rfl) rfl rfl (Ew.box rfl rfl) ?_; rintro _ _ ⟨g1, rfl, rfl⟩) | (refine TL.ew (Wt.none rfl) rfl rfl (Ew.au rfl rfl) ?_; rintro _ _ ⟨g1, rfl, rfl⟩)
  refine TL.run 1 rfl ?_; refine TL.nx ?_; refine TL.run 1 rfl ?_; refine TL.ns (T.seq (T.sr ?_)); refine TL.y (Yv.fieldAddr rfl rfl) ?_
  first | refine TL.y (Yv.ag 0 rfl rfl rfl (by rw [List.length_map, hws])) ?_ | refine TL.y (Yv.ag 0 rfl rfl rfl rfl) ?_ | refine TL.y (Yv.ag 1 rfl rfl rfl rfl) ?_ | refine TL.y (Yv.ag 2 rfl rfl rfl rfl) ?_ | refine TL.y (Yv.aQ rfl rfl (by assumption) rfl (fun h => h)) ?_
  refine TL.run 1 rfl ?_; refine TL.ns (T.block ?_); refine T.loop (ι := Nat) (fun k => [(3, .int .i64 (slen ws k : Int)), (7, .agg ws.cells.toArray), (8, .int .i64 (k : Int))]) (fun k => []) (fun k => k ≤ 8) (fun k => 8 - k) 0 ?_ ?_ ?_ ?_
  · omega
  · exact (by repeat (first | exact Sub.nil | refine Sub.cons rfl ?_))
  · exact Sx
  · intro k hphi; have hle := zfm ws k; refine T.sr ?_; refine TL.run 1 rfl ?_; refine TL.ns (T.seq ?_); refine T.cond rfl (fun h1 => ?_) (fun h1 => ?_)
    · have p1 := h1; (try simp only [nfB] at p1); have hld := Ws.get (ws := ws) (i := k) (p := k) (by omega) rfl; have hp8 := zfz (nth ws k); refine T.skip (K.seq (T.seq (T.block (T.sr ?_))))
      first | refine TL.y (Yv.bd rfl rfl rfl rfl (by omega) hld) ?_ | refine TL.y (Yv.bD rfl rfl rfl rfl (by omega) rfl) ?_ | refine TL.y (Yv.bd rfl rfl rfl rfl (by omega) rfl) ?_
      refine TL.run 1 rfl ?_; refine TL.ns (T.region ?_); refine TL.run 2 rfl ?_; (refine TL.ew (Wt.none rfl) rfl rfl (Ew.ae rfl rfl rfl (fun w hw => zgs _ w)) ?_; rintro _ _ ⟨rfl, rfl⟩)
      first | refine TL.y (Yv.an rfl rfl rfl (by omega)) ?_ | refine TL.run 1 rfl ?_
      refine TL.run 1 rfl ?_; refine TL.nil (K.ac (K.seq (T.region ?_)))
      first | refine TL.y (Yv.an rfl rfl rfl (by omega)) ?_ | refine TL.run 1 rfl ?_
      refine TL.run 1 rfl ?_; refine TL.nil ?_; exact K.next (k + 1) (by omega) (by omega) (by repeat (first | exact Sub.nil | refine Sub.cons rfl ?_ | (refine Sub.consI rfl (by rw [ze7 (by omega)]; omega) ?_))) Sx
    · have p1 := h1; (try simp only [nfB] at p1); refine T.exit (K.ab (K.ab (K.ad (K.seq (T.sr ?_))))); refine TL.run 2 rfl ?_; refine TL.ns (T.ret ?_); exact K.ak rfl rfl (fun w' hw => ⟨zez (by rw [show k = 8 by omega]), hw.isBelow⟩)
theorem zfr (ws : Ws) (hws : ws.length = 8) (i : Nat) (z : Int) (hz : z = (i : Int)) (w : World) (ht : Tab w) : Calls Tryz.prog 88 #[.agg ws.cells.toArray, .int .i64 z] w fun e w' => e = .returned (.int .i64 (zeO (memF ws i))) ∧ Below w.heap.size w w' := by
  subst hz; refine zak (M := fun _ => False) (hs := []) Tryz.func88 rfl rfl rfl (Hp.refl _ _) ?_; refine T.sr ?_
  first | (refine TL.ew (Wt.none rfl) rfl rfl (Ew.box rfl rfl) ?_; rintro _ _ ⟨g2, rfl, rfl⟩) | (refine TL.ew (Wt.none rfl) rfl rfl (Ew.au rfl rfl) ?_; rintro _ _ ⟨g2, rfl, rfl⟩)
  refine TL.run 1 rfl ?_; refine TL.ns (T.seq (T.sr ?_)); refine TL.run 2 rfl ?_; refine TL.ns ?_; refine T.aW rfl (decide_eq_false (by omega)) ?_; refine T.skip (K.seq (T.seq (T.sr ?_))); refine TL.run 2 rfl ?_; refine TL.ns ?_; refine T.cond rfl (fun h1 => ?_) (fun h1 => ?_)
  · have p1 := h1; (try simp only [nfB] at p1); refine T.sr ?_; refine TL.run 1 rfl ?_; refine TL.ns (T.ret (K.aa ?_)); exact K.ak rfl rfl (fun w' hw => ⟨zez (by rw [ze1 (fun j h1 h2 => by omega)]; rfl), hw.isBelow⟩)
  · have p1 := h1; (try simp only [nfB] at p1); have hld := Ws.get (ws := ws) (i := i / 64) (p := 0 + 0 + i / 64 * 1) (by omega) (by omega); refine T.skip (K.seq (T.sr ?_)); refine TL.run 1 rfl ?_; refine TL.y (Yv.bw rfl rfl rfl (by omega)) ?_; refine TL.run 1 rfl ?_; refine TL.nx ?_; refine TL.run 1 rfl ?_; refine TL.y (Yv.fieldAddr rfl rfl) ?_
    first | refine TL.y (Yv.aF rfl rfl rfl rfl (by omega)) ?_ | refine TL.y (Yv.as rfl rfl rfl rfl (by omega)) ?_ | refine TL.y (Yv.aF rfl rfl rfl (show (i : Int) / 64 = ((i / 64 : Nat) : Int) from by omega) (by omega)) ?_ | refine TL.y (Yv.aF rfl rfl rfl (show (a : Int) + 1 = ((a + 1 : Nat) : Int) from by omega) (by omega)) ?_ | refine TL.y (Yv.as rfl rfl rfl (show (i : Int) / 64 = ((i / 64 : Nat) : Int) from by omega) (by omega)) ?_ | refine TL.y (Yv.as rfl rfl rfl (show (a : Int) + 1 = ((a + 1 : Nat) : Int) from by omega) (by omega)) ?_
    first | refine TL.y (Yv.a 0 rfl rfl rfl hld) ?_ | refine TL.y (Yv.a 0 rfl rfl rfl rfl) ?_ | refine TL.y (Yv.a 1 rfl rfl rfl rfl) ?_ | refine TL.y (Yv.a 2 rfl rfl rfl rfl) ?_ | refine TL.y (Yv.aT rfl rfl (by assumption) (fun h => h)) ?_ | refine TL.y (Yv.az 0 rfl rfl rfl (by first | rfl | assumption)) ?_ | refine TL.y (Yv.az 1 rfl rfl rfl (by first | rfl | assumption)) ?_ | refine TL.y (Yv.az 2 rfl rfl rfl (by first | rfl | assumption)) ?_
    refine TL.run 1 rfl ?_; refine TL.y (Yv.bn rfl rfl rfl (by omega)) ?_
    first | refine TL.y (Yv.ay (i % 64) rfl rfl rfl (by omega) (by omega)) ?_ | refine TL.y (Yv.shrU rfl rfl rfl (by omega)) ?_ | refine TL.y (Yv.shrU rfl rfl rfl) ?_
    refine TL.run 1 rfl ?_; refine TL.y (Yv.bn rfl rfl rfl (by omega)) ?_
    first | refine TL.y (Yv.bq (i % 64) rfl rfl rfl (by omega) (by omega)) ?_ | refine TL.y (Yv.shlU rfl rfl rfl (by omega)) ?_ | refine TL.y (Yv.shlU rfl rfl rfl) ?_
    refine TL.run 1 rfl ?_; refine TL.ns (T.seq (T.block ?_)); refine T.loop (ι := Nat × BitVec 64) (fun x => [(2, .pointer (some ⟨g2, 0, none⟩)), (5, .int .i64 (x.1 : Int)), (6, U x.2)]) (fun x => [.row g2 64 ws.cells]) (fun x => NxInv ws i x.1 x.2) (fun x => 8 - x.1) (i / 64, (nth ws (i / 64) >>> (i % 64)) <<< (i % 64)) ?_ ?_ ?_ ?_
    · exact NxInv.start (by omega)
    · exact (by repeat (first | exact Sub.nil | refine Sub.cons rfl ?_ | (refine Sub.consI rfl (by omega) ?_)))
    · exact Sx
    · intro x hphi; obtain ⟨a, b⟩ := x; dsimp only at hphi ⊢; have hlt0 := hphi.lt; refine T.seq (T.sr ?_); refine TL.run 1 rfl ?_
      first | refine TL.run 1 rfl ?_ | refine TL.y (Yv.bO rfl rfl rfl rfl) ?_
      refine TL.ns ?_; refine T.cond rfl (fun h2 => ?_) (fun h2 => ?_)
      · have p2 := h2; (try simp only [nfB] at p2); (have hb0 : b = 0#64 := by rw [zg0] at h2; exact of_decide_eq_true h2); subst hb0; refine T.skip (K.seq (T.block (T.sr ?_))); refine TL.run 1 rfl ?_
        first | refine TL.y (Yv.an rfl rfl rfl (by omega)) ?_ | refine TL.run 1 rfl ?_
        refine TL.run 1 rfl ?_; refine TL.ns (T.seq (T.sr ?_)); refine TL.run 1 rfl ?_
        first | refine TL.run 1 rfl ?_ | refine TL.y (Yv.bO rfl rfl rfl rfl) ?_
        refine TL.ns ?_; refine T.cond rfl (fun h3 => ?_) (fun h3 => ?_)
        · have p3 := h3; (try simp only [nfB] at p3); refine T.sr ?_; refine TL.run 1 rfl ?_; refine TL.ns (T.ret (K.aa (K.af (K.aa (K.af (K.aa ?_)))))); exact K.ak rfl rfl (fun w' hw => ⟨zez (by rw [hphi.over (by omega)]; rfl), hw.isBelow⟩)
        · have p3 := h3; (try simp only [nfB] at p3); have hlt8 := hphi.lt; have hld := Ws.get (ws := ws) (i := a + 1) (p := 0 + 0 + (a + 1) * 1) (by omega) (by omega); refine T.skip (K.seq (T.region ?_)); refine TL.run 1 rfl ?_; refine TL.y (Yv.fieldAddr rfl rfl) ?_
          first | refine TL.y (Yv.aF rfl rfl rfl rfl (by omega)) ?_ | refine TL.y (Yv.as rfl rfl rfl rfl (by omega)) ?_ | refine TL.y (Yv.aF rfl rfl rfl (show (i : Int) / 64 = ((i / 64 : Nat) : Int) from by omega) (by omega)) ?_ | refine TL.y (Yv.aF rfl rfl rfl (show (a : Int) + 1 = ((a + 1 : Nat) : Int) from by omega) (by omega)) ?_ | refine TL.y (Yv.as rfl rfl rfl (show (i : Int) / 64 = ((i / 64 : Nat) : Int) from by omega) (by omega)) ?_ | refine TL.y (Yv.as rfl rfl rfl (show (a : Int) + 1 = ((a + 1 : Nat) : Int) from by omega) (by omega)) ?_
          first | refine TL.y (Yv.a 0 rfl rfl rfl hld) ?_ | refine TL.y (Yv.a 0 rfl rfl rfl rfl) ?_ | refine TL.y (Yv.a 1 rfl rfl rfl rfl) ?_ | refine TL.y (Yv.a 2 rfl rfl rfl rfl) ?_ | refine TL.y (Yv.aT rfl rfl (by assumption) (fun h => h)) ?_ | refine TL.y (Yv.az 0 rfl rfl rfl (by first | rfl | assumption)) ?_ | refine TL.y (Yv.az 1 rfl rfl rfl (by first | rfl | assumption)) ?_ | refine TL.y (Yv.az 2 rfl rfl rfl (by first | rfl | assumption)) ?_
          refine TL.run 1 rfl ?_; refine TL.nil (K.ac ?_); exact K.next (a + 1, nth ws (a + 1)) (hphi.next (by omega)) (by show 8 - (a + 1) < 8 - a; omega) (by repeat (first | exact Sub.nil | refine Sub.cons rfl ?_ | (refine Sub.consI rfl (by omega) ?_))) Sx
      · have p2 := h2; (try simp only [nfB] at p2); (have hb0 : b ≠ 0#64 := by rw [zg0] at h2; exact of_decide_eq_false h2); have hcz := zfu hb0; have hlt8 := hphi.lt; refine T.exit (K.ab (K.ab (K.ad (K.seq (T.sr ?_))))); refine TL.run 1 rfl ?_
        first | refine TL.y (Yv.bv rfl rfl rfl (by omega)) ?_ | refine TL.y (Yv.bv rfl rfl rfl (by omega)) ?_ | refine TL.run 1 rfl ?_
        refine TL.run 1 rfl ?_; (refine TL.ew (Wt.none rfl) rfl rfl (Ew.ae rfl rfl rfl (fun w hw => zg9 b hb0 w (ht.keptF hw))) ?_; rintro _ _ ⟨rfl, rfl⟩)
        first | refine TL.y (Yv.an rfl rfl rfl (by omega)) ?_ | refine TL.run 1 rfl ?_
        refine TL.run 1 rfl ?_; refine TL.ns (T.ret ?_); exact K.ak rfl rfl (fun w' hw => ⟨zez (by rw [hphi.found hb0]; simp only [zeO]; omega), hw.isBelow⟩)
theorem zgW (ws : Ws) (hws : ws.length = 8) (w : World) (ht : Tab w) : Calls Tryz.prog 87 #[.agg ws.cells.toArray] w fun e w' => e = .returned (.int .i64 (zeO (memN ws))) ∧ Below w.heap.size w w' := by
  refine zak (M := fun _ => False) (hs := []) Tryz.func87 rfl rfl rfl (Hp.refl _ _) ?_; refine T.sr ?_
  first | (refine TL.ew (Wt.none rfl) rfl rfl (Ew.box rfl rfl) ?_; rintro _ _ ⟨g1, rfl, rfl⟩) | (refine TL.ew (Wt.none rfl) rfl rfl (Ew.au rfl rfl) ?_; rintro _ _ ⟨g1, rfl, rfl⟩)
  refine TL.run 1 rfl ?_; refine TL.nx ?_
  first | refine TL.y (Yv.ag 0 rfl rfl rfl (by rw [List.length_map, hws])) ?_ | refine TL.y (Yv.ag 0 rfl rfl rfl rfl) ?_ | refine TL.y (Yv.ag 1 rfl rfl rfl rfl) ?_ | refine TL.y (Yv.ag 2 rfl rfl rfl rfl) ?_ | refine TL.y (Yv.aQ rfl rfl (by assumption) rfl (fun h => h)) ?_
  (refine TL.ew (Wt.none rfl) rfl rfl (Ew.ae rfl rfl rfl (fun w hw => zfr ws hws 0 0 rfl w (ht.keptF hw))) ?_; rintro _ _ ⟨rfl, rfl⟩); refine TL.run 1 rfl ?_; refine TL.ns (T.ret ?_); refine K.ak rfl rfl (fun w' hw => ⟨?_, hw.isBelow⟩)
  rfl
theorem zgO (ws : Ws) (hws : ws.length = 8) (w : World) : Calls Tryz.prog 54 #[.agg ws.cells.toArray] w fun e w' => ∃ x : Nat, True ∧ e = .returned (.func (.func 86) #[] #[.pointer (some ⟨x, 0, none⟩)]) ∧ Hp w (fun _ => False) [.row x 64 ws.cells] w' := by
  refine zak (M := fun _ => False) (hs := []) Tryz.func54 rfl rfl rfl (Hp.refl _ _) ?_; refine T.sr ?_
  first | (refine TL.ew (Wt.none rfl) rfl rfl (Ew.box rfl rfl) ?_; rintro _ _ ⟨g1, rfl, rfl⟩) | (refine TL.ew (Wt.none rfl) rfl rfl (Ew.au rfl rfl) ?_; rintro _ _ ⟨g1, rfl, rfl⟩)
  refine TL.run 1 rfl ?_; refine TL.nx ?_; refine TL.run 2 rfl ?_; refine TL.ns (T.ret ?_); exact K.ak rfl rfl (fun w' hw => ⟨g1, trivial, rfl, hw⟩)
theorem zgn (ws : Ws) (hws : ws.length = 8) (p : Nat) (B : World) (M : Nat → Prop) (ht : Tab B) (hM0 : ¬ M 0) : IterAt Tryz.prog 86 [.pointer (some ⟨p, 0, none⟩)] (fun j : Nat => [.int .i64 (j : Int)]) (memN ws) [.row p 64 ws.cells] B M := by
  intro G Z l W g0 hy hG0 hW; refine zfq (B := B) (M := M) Tryz.func86 rfl rfl rfl hW ?_; refine T.sr ?_
  first | refine TL.y (Yv.ag 0 rfl rfl rfl (by rw [List.length_map, hws])) ?_ | refine TL.y (Yv.ag 0 rfl rfl rfl rfl) ?_ | refine TL.y (Yv.ag 1 rfl rfl rfl rfl) ?_ | refine TL.y (Yv.ag 2 rfl rfl rfl rfl) ?_ | refine TL.y (Yv.aQ rfl rfl (by assumption) rfl (fun h => h)) ?_
  (refine TL.ew (Wt.none rfl) rfl rfl (Ew.ae rfl rfl rfl (fun w hw => zgW ws hws w (ht.kept hw hM0))) ?_; rintro _ _ ⟨rfl, rfl⟩); refine TL.run 1 rfl ?_; refine TL.ns (T.block ?_); refine T.loop (ι := Nat × HS) (fun x => [(0, .func (.yield l) #[] #[]), (1, .pointer (some ⟨p, 0, none⟩)), (3, .int .i64 (zeO ((memN ws).drop x.1)))]) (fun x => [.row p 64 ws.cells] ++ x.2) (fun x => x.1 ≤ (memN ws).length ∧ G x.1 x.2) (fun x => (memN ws).length - x.1) (0, g0) ?_ ?_ ?_ ?_
  · exact ⟨by simp, hG0⟩
  · exact (by repeat (first | exact Sub.nil | refine Sub.cons rfl ?_))
  · exact List.Sublist.refl _
  · intro x hphi; obtain ⟨k, g⟩ := x; dsimp only at hphi ⊢; obtain ⟨hkn, hG⟩ := hphi; refine T.seq (T.sr ?_); refine TL.run 2 rfl ?_; refine TL.ns ?_; refine T.cond rfl (fun h1 => ?_) (fun h1 => ?_)
    · have p1 := h1; (try simp only [nfB] at p1); have hk := zgg p1; have h512 : nth (memN ws) k < 512 := (memF_mem.1 (zgH hk)).2.1; rw [zel hk]; refine T.skip (K.seq (T.seq (T.block (T.sr ?_)))); refine TL.run 2 rfl ?_; refine TL.bE (Wt.none rfl) rfl rfl rfl rfl rfl hy (zgL hk) hG (enc := fun j : Nat => [.int .i64 (j : Int)]) (x := nth (memN ws) k) (i := k) ?_ ?_
      · intro g' hG'
        first | refine TL.run 1 rfl ?_ | refine TL.y (Yv.not rfl rfl) ?_ | refine TL.y (Yv.be rfl rfl) ?_ | refine TL.y (Yv.by rfl rfl) ?_
        refine TL.ns ?_; refine T.aW rfl rfl ?_; refine T.skip (K.ac (K.seq (T.region ?_)))
        first | refine TL.y (Yv.ag 0 rfl rfl rfl (by rw [List.length_map, hws])) ?_ | refine TL.y (Yv.ag 0 rfl rfl rfl rfl) ?_ | refine TL.y (Yv.ag 1 rfl rfl rfl rfl) ?_ | refine TL.y (Yv.ag 2 rfl rfl rfl rfl) ?_ | refine TL.y (Yv.aQ rfl rfl (by assumption) rfl (fun h => h)) ?_
        refine TL.run 1 rfl ?_
        first | refine TL.y (Yv.an rfl rfl rfl (by omega)) ?_ | refine TL.run 1 rfl ?_
        (refine TL.ew (Wt.none rfl) rfl rfl (Ew.ae rfl rfl rfl (fun w hw => zfr ws hws (nth (memN ws) k + 1) _ (by omega) w (ht.kept hw hM0))) ?_; rintro _ _ ⟨rfl, rfl⟩); refine TL.run 1 rfl ?_; refine TL.nil ?_; exact K.next (k + 1, g') ⟨by dsimp only; omega, hG'⟩ (by dsimp only; omega) (by rw [← ze8 ws k 0 hk]; exact (by repeat (first | exact Sub.nil | refine Sub.cons rfl ?_))) (List.Sublist.refl _)
      · intro z hZ
        first | refine TL.run 1 rfl ?_ | refine TL.y (Yv.not rfl rfl) ?_ | refine TL.y (Yv.be rfl rfl) ?_ | refine TL.y (Yv.by rfl rfl) ?_
        refine TL.ns ?_; refine T.bu rfl rfl ?_; refine T.ret (K.af (K.aa (K.aa (K.af ?_)))); exact K.bK rfl (fun w' hw hkp => ⟨⟨_, rfl⟩, hkp, .inr ⟨z, hZ, hw⟩⟩)
    · have p1 := h1; (try simp only [nfB] at p1); have hk := zfQ p1; refine T.exit (K.ab (K.ab (K.ad ?_))); exact K.bL rfl (fun w' hw hkp => ⟨⟨_, rfl⟩, hkp, .inl ⟨g, by rw [show (memN ws).length = k from by omega]; exact hG, hw⟩⟩)
theorem zgk (ws : Ws) (hws : ws.length = 8) (w : World) (ht : Tab w) : Calls Tryz.prog 22 #[.agg ws.cells.toArray] w fun e w' => ∃ v : Value, True ∧ e = .returned v ∧ Hp w (fun _ => False) [.sl v 3 1 (memN ws).length (nums (memN ws))] w' := by
  have hsl8 := zfm ws 8; have hml := zgA ws 0; refine zak (M := fun _ => False) (hs := []) Tryz.func22 rfl rfl rfl (Hp.refl _ _) ?_; refine T.sr ?_
  first | (refine TL.ew (Wt.none rfl) rfl rfl (Ew.box rfl rfl) ?_; rintro _ _ ⟨g1, rfl, rfl⟩) | (refine TL.ew (Wt.none rfl) rfl rfl (Ew.au rfl rfl) ?_; rintro _ _ ⟨g1, rfl, rfl⟩)
  refine TL.run 1 rfl ?_; refine TL.nx ?_
  first | refine TL.y (Yv.ag 0 rfl rfl rfl (by rw [List.length_map, hws])) ?_ | refine TL.y (Yv.ag 1 rfl rfl rfl (by rw [List.length_map, hws])) ?_ | refine TL.y (Yv.ag 2 rfl rfl rfl (by rw [List.length_map, hws])) ?_ | refine TL.y (Yv.ag 0 rfl rfl rfl rfl) ?_ | refine TL.y (Yv.ag 1 rfl rfl rfl rfl) ?_ | refine TL.y (Yv.ag 2 rfl rfl rfl rfl) ?_ | refine TL.y (Yv.aQ rfl rfl (by assumption) rfl (fun h => h)) ?_
  (refine TL.ew (Wt.none rfl) rfl rfl (Ew.ae rfl rfl rfl (fun w hw => zgP ws hws w)) ?_; rintro _ _ ⟨rfl, rfl⟩); (refine TL.ew (Wt.none rfl) rfl rfl (Ew.bi rfl rfl rfl rfl (by omega) (by omega)) ?_; rintro _ _ ⟨g7, rfl, rfl⟩); (refine TL.ew (Wt.none rfl) rfl rfl (Ew.alloc rfl) ?_; rintro _ _ ⟨g3, rfl, rfl⟩)
  first | (refine TL.aE (Wt.none rfl) rfl (Ew.ao 0 rfl rfl rfl rfl (by decide)) ?_; rintro _ _ ⟨rfl, rfl⟩) | (refine TL.aE (Wt.none rfl) rfl (Ew.ao 1 rfl rfl rfl rfl (by decide)) ?_; rintro _ _ ⟨rfl, rfl⟩) | (refine TL.aE (Wt.none rfl) rfl (Ew.ao 2 rfl rfl rfl rfl (by decide)) ?_; rintro _ _ ⟨rfl, rfl⟩) | (refine TL.aE (Wt.none rfl) rfl (Ew.ao 3 rfl rfl rfl rfl (by decide)) ?_; rintro _ _ ⟨rfl, rfl⟩) | (refine TL.aE (Wt.none rfl) rfl (Ew.ao 4 rfl rfl rfl rfl (by decide)) ?_; rintro _ _ ⟨rfl, rfl⟩) | (refine TL.aE (Wt.none rfl) rfl (Ew.ao 0 rfl rfl rfl rfl (by first | omega | simp)) ?_; rintro _ _ ⟨rfl, rfl⟩) | (refine TL.aE (Wt.none rfl) rfl (Ew.ao 1 rfl rfl rfl rfl (by first | omega | simp)) ?_; rintro _ _ ⟨rfl, rfl⟩) | (refine TL.aE (Wt.none rfl) rfl (Ew.ao 2 rfl rfl rfl rfl (by first | omega | simp)) ?_; rintro _ _ ⟨rfl, rfl⟩) | (refine TL.aE (Wt.none rfl) rfl (Ew.ao 3 rfl rfl rfl rfl (by first | omega | simp)) ?_; rintro _ _ ⟨rfl, rfl⟩) | (refine TL.aE (Wt.none rfl) rfl (Ew.ao 4 rfl rfl rfl rfl (by first | omega | simp)) ?_; rintro _ _ ⟨rfl, rfl⟩)
  refine TL.ns (T.seq (T.sr ?_))
  first | refine TL.y (Yv.ag 0 rfl rfl rfl (by rw [List.length_map, hws])) ?_ | refine TL.y (Yv.ag 1 rfl rfl rfl (by rw [List.length_map, hws])) ?_ | refine TL.y (Yv.ag 2 rfl rfl rfl (by rw [List.length_map, hws])) ?_ | refine TL.y (Yv.ag 0 rfl rfl rfl rfl) ?_ | refine TL.y (Yv.ag 1 rfl rfl rfl rfl) ?_ | refine TL.y (Yv.ag 2 rfl rfl rfl rfl) ?_ | refine TL.y (Yv.ag 3 rfl rfl rfl rfl) ?_ | refine TL.y (Yv.ag 4 rfl rfl rfl rfl) ?_ | refine TL.y (Yv.aQ rfl rfl (by assumption) rfl (fun h => h)) ?_
  (refine TL.ew (Wt.none rfl) rfl rfl (Ew.bQ rfl rfl rfl (fun w hw => zgO ws hws _)) ?_; rintro _ _ ⟨b9, -, rfl, rfl⟩); dsimp only [List.cons_append, List.nil_append]; refine TL.ns (T.block ?_); refine T.bh (α := Nat) ((fun j : Nat => [.int .i64 (j : Int)])) (memN ws) ([.row b9 64 ws.cells]) (fun i g => ∃ v, g = [.row g3 32 [v], .sl v 3 1 i (nums ((memN ws).take i))]) (fun _ _ => False) (fun x => [(3, .pointer (some ⟨g3, 0, none⟩)), (4, .int .i64 (x : Int))]) (_) (⟨_, rfl⟩) rfl (zgn ws hws b9 _ _ ht (fun h => h)) (by decide) (fun _ => rfl) (by exact Sx) ?_ ?_ ?_ ?_
  · intro l i x X D g hx; refine T.region ?_; refine TL.run 1 rfl ?_; refine TL.nil ?_; exact K.at (by repeat (first | exact Sub.nil | refine Sub.cons rfl ?_)) (List.Sublist.refl _)
  · intro l i x X D g hx hG; obtain ⟨v, rfl⟩ := hG; obtain ⟨hi, rfl⟩ := zgG hx; have hi2 : i < (memF ws 0).length := hi; dsimp only [List.cons_append, List.nil_append]; refine T.block (T.region ?_)
    first | refine TL.y (Yv.ag 0 rfl rfl rfl (by rw [List.length_map, hws])) ?_ | refine TL.y (Yv.ag 1 rfl rfl rfl (by rw [List.length_map, hws])) ?_ | refine TL.y (Yv.ag 2 rfl rfl rfl (by rw [List.length_map, hws])) ?_ | refine TL.y (Yv.a 0 rfl rfl rfl rfl) ?_ | refine TL.y (Yv.a 1 rfl rfl rfl rfl) ?_ | refine TL.y (Yv.a 2 rfl rfl rfl rfl) ?_ | refine TL.y (Yv.a 3 rfl rfl rfl rfl) ?_ | refine TL.y (Yv.a 4 rfl rfl rfl rfl) ?_ | refine TL.y (Yv.a 5 rfl rfl rfl rfl) ?_ | refine TL.y (Yv.a 6 rfl rfl rfl rfl) ?_ | refine TL.y (Yv.a 7 rfl rfl rfl rfl) ?_ | refine TL.y (Yv.a 8 rfl rfl rfl rfl) ?_ | refine TL.y (Yv.a 9 rfl rfl rfl rfl) ?_ | refine TL.y (Yv.aT rfl rfl (by assumption) (fun h => h)) ?_ | refine TL.y (Yv.az 0 rfl rfl rfl (by first | rfl | assumption)) ?_ | refine TL.y (Yv.az 1 rfl rfl rfl (by first | rfl | assumption)) ?_ | refine TL.y (Yv.az 2 rfl rfl rfl (by first | rfl | assumption)) ?_ | refine TL.y (Yv.az 3 rfl rfl rfl (by first | rfl | assumption)) ?_ | refine TL.y (Yv.az 4 rfl rfl rfl (by first | rfl | assumption)) ?_ | refine TL.y (Yv.az 5 rfl rfl rfl (by first | rfl | assumption)) ?_ | refine TL.y (Yv.az 6 rfl rfl rfl (by first | rfl | assumption)) ?_ | refine TL.y (Yv.az 7 rfl rfl rfl (by first | rfl | assumption)) ?_ | refine TL.y (Yv.az 8 rfl rfl rfl (by first | rfl | assumption)) ?_ | refine TL.y (Yv.az 9 rfl rfl rfl (by first | rfl | assumption)) ?_
    refine TL.run 1 rfl ?_; (refine TL.ew (Wt.none rfl) rfl rfl (Ew.buildSlice rfl rfl rfl (by decide)) ?_; rintro _ _ ⟨g13, rfl, rfl⟩)
    first | (refine TL.ew (Wt.none rfl) rfl rfl (Ew.append 0 1 rfl rfl rfl rfl rfl rfl (by omega) (by omega)) ?_; rintro v14 _ ⟨hv14, rfl⟩) | (refine TL.ew (Wt.none rfl) rfl rfl (Ew.append 0 2 rfl rfl rfl rfl rfl rfl (by omega) (by omega)) ?_; rintro v14 _ ⟨hv14, rfl⟩) | (refine TL.ew (Wt.none rfl) rfl rfl (Ew.append 0 3 rfl rfl rfl rfl rfl rfl (by omega) (by omega)) ?_; rintro v14 _ ⟨hv14, rfl⟩) | (refine TL.ew (Wt.none rfl) rfl rfl (Ew.append 0 4 rfl rfl rfl rfl rfl rfl (by omega) (by omega)) ?_; rintro v14 _ ⟨hv14, rfl⟩) | (refine TL.ew (Wt.none rfl) rfl rfl (Ew.append 0 5 rfl rfl rfl rfl rfl rfl (by omega) (by omega)) ?_; rintro v14 _ ⟨hv14, rfl⟩) | (refine TL.ew (Wt.none rfl) rfl rfl (Ew.append 0 6 rfl rfl rfl rfl rfl rfl (by omega) (by omega)) ?_; rintro v14 _ ⟨hv14, rfl⟩) | (refine TL.ew (Wt.none rfl) rfl rfl (Ew.append 0 7 rfl rfl rfl rfl rfl rfl (by omega) (by omega)) ?_; rintro v14 _ ⟨hv14, rfl⟩) | (refine TL.ew (Wt.none rfl) rfl rfl (Ew.append 0 8 rfl rfl rfl rfl rfl rfl (by omega) (by omega)) ?_; rintro v14 _ ⟨hv14, rfl⟩) | (refine TL.ew (Wt.none rfl) rfl rfl (Ew.append 0 9 rfl rfl rfl rfl rfl rfl (by omega) (by omega)) ?_; rintro v14 _ ⟨hv14, rfl⟩) | (refine TL.ew (Wt.none rfl) rfl rfl (Ew.append 1 0 rfl rfl rfl rfl rfl rfl (by omega) (by omega)) ?_; rintro v14 _ ⟨hv14, rfl⟩) | (refine TL.ew (Wt.none rfl) rfl rfl (Ew.append 1 2 rfl rfl rfl rfl rfl rfl (by omega) (by omega)) ?_; rintro v14 _ ⟨hv14, rfl⟩) | (refine TL.ew (Wt.none rfl) rfl rfl (Ew.append 1 3 rfl rfl rfl rfl rfl rfl (by omega) (by omega)) ?_; rintro v14 _ ⟨hv14, rfl⟩) | (refine TL.ew (Wt.none rfl) rfl rfl (Ew.append 1 4 rfl rfl rfl rfl rfl rfl (by omega) (by omega)) ?_; rintro v14 _ ⟨hv14, rfl⟩) | (refine TL.ew (Wt.none rfl) rfl rfl (Ew.append 1 5 rfl rfl rfl rfl rfl rfl (by omega) (by omega)) ?_; rintro v14 _ ⟨hv14, rfl⟩) | (refine TL.ew (Wt.none rfl) rfl rfl (Ew.append 1 6 rfl rfl rfl rfl rfl rfl (by omega) (by omega)) ?_; rintro v14 _ ⟨hv14, rfl⟩) | (refine TL.ew (Wt.none rfl) rfl rfl (Ew.append 1 7 rfl rfl rfl rfl rfl rfl (by omega) (by omega)) ?_; rintro v14 _ ⟨hv14, rfl⟩) | (refine TL.ew (Wt.none rfl) rfl rfl (Ew.append 1 8 rfl rfl rfl rfl rfl rfl (by omega) (by omega)) ?_; rintro v14 _ ⟨hv14, rfl⟩) | (refine TL.ew (Wt.none rfl) rfl rfl (Ew.append 1 9 rfl rfl rfl rfl rfl rfl (by omega) (by omega)) ?_; rintro v14 _ ⟨hv14, rfl⟩) | (refine TL.ew (Wt.none rfl) rfl rfl (Ew.append 2 0 rfl rfl rfl rfl rfl rfl (by omega) (by omega)) ?_; rintro v14 _ ⟨hv14, rfl⟩) | (refine TL.ew (Wt.none rfl) rfl rfl (Ew.append 2 1 rfl rfl rfl rfl rfl rfl (by omega) (by omega)) ?_; rintro v14 _ ⟨hv14, rfl⟩) | (refine TL.ew (Wt.none rfl) rfl rfl (Ew.append 2 3 rfl rfl rfl rfl rfl rfl (by omega) (by omega)) ?_; rintro v14 _ ⟨hv14, rfl⟩) | (refine TL.ew (Wt.none rfl) rfl rfl (Ew.append 2 4 rfl rfl rfl rfl rfl rfl (by omega) (by omega)) ?_; rintro v14 _ ⟨hv14, rfl⟩) | (refine TL.ew (Wt.none rfl) rfl rfl (Ew.append 2 5 rfl rfl rfl rfl rfl rfl (by omega) (by omega)) ?_; rintro v14 _ ⟨hv14, rfl⟩) | (refine TL.ew (Wt.none rfl) rfl rfl (Ew.append 2 6 rfl rfl rfl rfl rfl rfl (by omega) (by omega)) ?_; rintro v14 _ ⟨hv14, rfl⟩) | (refine TL.ew (Wt.none rfl) rfl rfl (Ew.append 2 7 rfl rfl rfl rfl rfl rfl (by omega) (by omega)) ?_; rintro v14 _ ⟨hv14, rfl⟩) | (refine TL.ew (Wt.none rfl) rfl rfl (Ew.append 2 8 rfl rfl rfl rfl rfl rfl (by omega) (by omega)) ?_; rintro v14 _ ⟨hv14, rfl⟩) | (refine TL.ew (Wt.none rfl) rfl rfl (Ew.append 2 9 rfl rfl rfl rfl rfl rfl (by omega) (by omega)) ?_; rintro v14 _ ⟨hv14, rfl⟩) | (refine TL.ew (Wt.none rfl) rfl rfl (Ew.append 3 0 rfl rfl rfl rfl rfl rfl (by omega) (by omega)) ?_; rintro v14 _ ⟨hv14, rfl⟩) | (refine TL.ew (Wt.none rfl) rfl rfl (Ew.append 3 1 rfl rfl rfl rfl rfl rfl (by omega) (by omega)) ?_; rintro v14 _ ⟨hv14, rfl⟩) | (refine TL.ew (Wt.none rfl) rfl rfl (Ew.append 3 2 rfl rfl rfl rfl rfl rfl (by omega) (by omega)) ?_; rintro v14 _ ⟨hv14, rfl⟩) | (refine TL.ew (Wt.none rfl) rfl rfl (Ew.append 3 4 rfl rfl rfl rfl rfl rfl (by omega) (by omega)) ?_; rintro v14 _ ⟨hv14, rfl⟩) | (refine TL.ew (Wt.none rfl) rfl rfl (Ew.append 3 5 rfl rfl rfl rfl rfl rfl (by omega) (by omega)) ?_; rintro v14 _ ⟨hv14, rfl⟩) | (refine TL.ew (Wt.none rfl) rfl rfl (Ew.append 3 6 rfl rfl rfl rfl rfl rfl (by omega) (by omega)) ?_; rintro v14 _ ⟨hv14, rfl⟩) | (refine TL.ew (Wt.none rfl) rfl rfl (Ew.append 3 7 rfl rfl rfl rfl rfl rfl (by omega) (by omega)) ?_; rintro v14 _ ⟨hv14, rfl⟩) | (refine TL.ew (Wt.none rfl) rfl rfl (Ew.append 3 8 rfl rfl rfl rfl rfl rfl (by omega) (by omega)) ?_; rintro v14 _ ⟨hv14, rfl⟩) | (refine TL.ew (Wt.none rfl) rfl rfl (Ew.append 3 9 rfl rfl rfl rfl rfl rfl (by omega) (by omega)) ?_; rintro v14 _ ⟨hv14, rfl⟩) | (refine TL.ew (Wt.none rfl) rfl rfl (Ew.append 4 0 rfl rfl rfl rfl rfl rfl (by omega) (by omega)) ?_; rintro v14 _ ⟨hv14, rfl⟩) | (refine TL.ew (Wt.none rfl) rfl rfl (Ew.append 4 1 rfl rfl rfl rfl rfl rfl (by omega) (by omega)) ?_; rintro v14 _ ⟨hv14, rfl⟩) | (refine TL.ew (Wt.none rfl) rfl rfl (Ew.append 4 2 rfl rfl rfl rfl rfl rfl (by omega) (by omega)) ?_; rintro v14 _ ⟨hv14, rfl⟩) | (refine TL.ew (Wt.none rfl) rfl rfl (Ew.append 4 3 rfl rfl rfl rfl rfl rfl (by omega) (by omega)) ?_; rintro v14 _ ⟨hv14, rfl⟩) | (refine TL.ew (Wt.none rfl) rfl rfl (Ew.append 4 5 rfl rfl rfl rfl rfl rfl (by omega) (by omega)) ?_; rintro v14 _ ⟨hv14, rfl⟩) | (refine TL.ew (Wt.none rfl) rfl rfl (Ew.append 4 6 rfl rfl rfl rfl rfl rfl (by omega) (by omega)) ?_; rintro v14 _ ⟨hv14, rfl⟩) | (refine TL.ew (Wt.none rfl) rfl rfl (Ew.append 4 7 rfl rfl rfl rfl rfl rfl (by omega) (by omega)) ?_; rintro v14 _ ⟨hv14, rfl⟩) | (refine TL.ew (Wt.none rfl) rfl rfl (Ew.append 4 8 rfl rfl rfl rfl rfl rfl (by omega) (by omega)) ?_; rintro v14 _ ⟨hv14, rfl⟩) | (refine TL.ew (Wt.none rfl) rfl rfl (Ew.append 4 9 rfl rfl rfl rfl rfl rfl (by omega) (by omega)) ?_; rintro v14 _ ⟨hv14, rfl⟩) | (refine TL.ew (Wt.none rfl) rfl rfl (Ew.append 5 0 rfl rfl rfl rfl rfl rfl (by omega) (by omega)) ?_; rintro v14 _ ⟨hv14, rfl⟩) | (refine TL.ew (Wt.none rfl) rfl rfl (Ew.append 5 1 rfl rfl rfl rfl rfl rfl (by omega) (by omega)) ?_; rintro v14 _ ⟨hv14, rfl⟩) | (refine TL.ew (Wt.none rfl) rfl rfl (Ew.append 5 2 rfl rfl rfl rfl rfl rfl (by omega) (by omega)) ?_; rintro v14 _ ⟨hv14, rfl⟩) | (refine TL.ew (Wt.none rfl) rfl rfl (Ew.append 5 3 rfl rfl rfl rfl rfl rfl (by omega) (by omega)) ?_; rintro v14 _ ⟨hv14, rfl⟩) | (refine TL.ew (Wt.none rfl) rfl rfl (Ew.append 5 4 rfl rfl rfl rfl rfl rfl (by omega) (by omega)) ?_; rintro v14 _ ⟨hv14, rfl⟩) | (refine TL.ew (Wt.none rfl) rfl rfl (Ew.append 5 6 rfl rfl rfl rfl rfl rfl (by omega) (by omega)) ?_; rintro v14 _ ⟨hv14, rfl⟩) | (refine TL.ew (Wt.none rfl) rfl rfl (Ew.append 5 7 rfl rfl rfl rfl rfl rfl (by omega) (by omega)) ?_; rintro v14 _ ⟨hv14, rfl⟩) | (refine TL.ew (Wt.none rfl) rfl rfl (Ew.append 5 8 rfl rfl rfl rfl rfl rfl (by omega) (by omega)) ?_; rintro v14 _ ⟨hv14, rfl⟩) | (refine TL.ew (Wt.none rfl) rfl rfl (Ew.append 5 9 rfl rfl rfl rfl rfl rfl (by omega) (by omega)) ?_; rintro v14 _ ⟨hv14, rfl⟩) | (refine TL.ew (Wt.none rfl) rfl rfl (Ew.append 6 0 rfl rfl rfl rfl rfl rfl (by omega) (by omega)) ?_; rintro v14 _ ⟨hv14, rfl⟩) | (refine TL.ew (Wt.none rfl) rfl rfl (Ew.append 6 1 rfl rfl rfl rfl rfl rfl (by omega) (by omega)) ?_; rintro v14 _ ⟨hv14, rfl⟩) | (refine TL.ew (Wt.none rfl) rfl rfl (Ew.append 6 2 rfl rfl rfl rfl rfl rfl (by omega) (by omega)) ?_; rintro v14 _ ⟨hv14, rfl⟩) | (refine TL.ew (Wt.none rfl) rfl rfl (Ew.append 6 3 rfl rfl rfl rfl rfl rfl (by omega) (by omega)) ?_; rintro v14 _ ⟨hv14, rfl⟩) | (refine TL.ew (Wt.none rfl) rfl rfl (Ew.append 6 4 rfl rfl rfl rfl rfl rfl (by omega) (by omega)) ?_; rintro v14 _ ⟨hv14, rfl⟩) | (refine TL.ew (Wt.none rfl) rfl rfl (Ew.append 6 5 rfl rfl rfl rfl rfl rfl (by omega) (by omega)) ?_; rintro v14 _ ⟨hv14, rfl⟩) | (refine TL.ew (Wt.none rfl) rfl rfl (Ew.append 6 7 rfl rfl rfl rfl rfl rfl (by omega) (by omega)) ?_; rintro v14 _ ⟨hv14, rfl⟩) | (refine TL.ew (Wt.none rfl) rfl rfl (Ew.append 6 8 rfl rfl rfl rfl rfl rfl (by omega) (by omega)) ?_; rintro v14 _ ⟨hv14, rfl⟩) | (refine TL.ew (Wt.none rfl) rfl rfl (Ew.append 6 9 rfl rfl rfl rfl rfl rfl (by omega) (by omega)) ?_; rintro v14 _ ⟨hv14, rfl⟩) | (refine TL.ew (Wt.none rfl) rfl rfl (Ew.append 7 0 rfl rfl rfl rfl rfl rfl (by omega) (by omega)) ?_; rintro v14 _ ⟨hv14, rfl⟩) | (refine TL.ew (Wt.none rfl) rfl rfl (Ew.append 7 1 rfl rfl rfl rfl rfl rfl (by omega) (by omega)) ?_; rintro v14 _ ⟨hv14, rfl⟩) | (refine TL.ew (Wt.none rfl) rfl rfl (Ew.append 7 2 rfl rfl rfl rfl rfl rfl (by omega) (by omega)) ?_; rintro v14 _ ⟨hv14, rfl⟩) | (refine TL.ew (Wt.none rfl) rfl rfl (Ew.append 7 3 rfl rfl rfl rfl rfl rfl (by omega) (by omega)) ?_; rintro v14 _ ⟨hv14, rfl⟩) | (refine TL.ew (Wt.none rfl) rfl rfl (Ew.append 7 4 rfl rfl rfl rfl rfl rfl (by omega) (by omega)) ?_; rintro v14 _ ⟨hv14, rfl⟩) | (refine TL.ew (Wt.none rfl) rfl rfl (Ew.append 7 5 rfl rfl rfl rfl rfl rfl (by omega) (by omega)) ?_; rintro v14 _ ⟨hv14, rfl⟩) | (refine TL.ew (Wt.none rfl) rfl rfl (Ew.append 7 6 rfl rfl rfl rfl rfl rfl (by omega) (by omega)) ?_; rintro v14 _ ⟨hv14, rfl⟩) | (refine TL.ew (Wt.none rfl) rfl rfl (Ew.append 7 8 rfl rfl rfl rfl rfl rfl (by omega) (by omega)) ?_; rintro v14 _ ⟨hv14, rfl⟩) | (refine TL.ew (Wt.none rfl) rfl rfl (Ew.append 7 9 rfl rfl rfl rfl rfl rfl (by omega) (by omega)) ?_; rintro v14 _ ⟨hv14, rfl⟩) | (refine TL.ew (Wt.none rfl) rfl rfl (Ew.append 8 0 rfl rfl rfl rfl rfl rfl (by omega) (by omega)) ?_; rintro v14 _ ⟨hv14, rfl⟩) | (refine TL.ew (Wt.none rfl) rfl rfl (Ew.append 8 1 rfl rfl rfl rfl rfl rfl (by omega) (by omega)) ?_; rintro v14 _ ⟨hv14, rfl⟩) | (refine TL.ew (Wt.none rfl) rfl rfl (Ew.append 8 2 rfl rfl rfl rfl rfl rfl (by omega) (by omega)) ?_; rintro v14 _ ⟨hv14, rfl⟩) | (refine TL.ew (Wt.none rfl) rfl rfl (Ew.append 8 3 rfl rfl rfl rfl rfl rfl (by omega) (by omega)) ?_; rintro v14 _ ⟨hv14, rfl⟩) | (refine TL.ew (Wt.none rfl) rfl rfl (Ew.append 8 4 rfl rfl rfl rfl rfl rfl (by omega) (by omega)) ?_; rintro v14 _ ⟨hv14, rfl⟩) | (refine TL.ew (Wt.none rfl) rfl rfl (Ew.append 8 5 rfl rfl rfl rfl rfl rfl (by omega) (by omega)) ?_; rintro v14 _ ⟨hv14, rfl⟩) | (refine TL.ew (Wt.none rfl) rfl rfl (Ew.append 8 6 rfl rfl rfl rfl rfl rfl (by omega) (by omega)) ?_; rintro v14 _ ⟨hv14, rfl⟩) | (refine TL.ew (Wt.none rfl) rfl rfl (Ew.append 8 7 rfl rfl rfl rfl rfl rfl (by omega) (by omega)) ?_; rintro v14 _ ⟨hv14, rfl⟩) | (refine TL.ew (Wt.none rfl) rfl rfl (Ew.append 8 9 rfl rfl rfl rfl rfl rfl (by omega) (by omega)) ?_; rintro v14 _ ⟨hv14, rfl⟩) | (refine TL.ew (Wt.none rfl) rfl rfl (Ew.append 9 0 rfl rfl rfl rfl rfl rfl (by omega) (by omega)) ?_; rintro v14 _ ⟨hv14, rfl⟩) | (refine TL.ew (Wt.none rfl) rfl rfl (Ew.append 9 1 rfl rfl rfl rfl rfl rfl (by omega) (by omega)) ?_; rintro v14 _ ⟨hv14, rfl⟩) | (refine TL.ew (Wt.none rfl) rfl rfl (Ew.append 9 2 rfl rfl rfl rfl rfl rfl (by omega) (by omega)) ?_; rintro v14 _ ⟨hv14, rfl⟩) | (refine TL.ew (Wt.none rfl) rfl rfl (Ew.append 9 3 rfl rfl rfl rfl rfl rfl (by omega) (by omega)) ?_; rintro v14 _ ⟨hv14, rfl⟩) | (refine TL.ew (Wt.none rfl) rfl rfl (Ew.append 9 4 rfl rfl rfl rfl rfl rfl (by omega) (by omega)) ?_; rintro v14 _ ⟨hv14, rfl⟩) | (refine TL.ew (Wt.none rfl) rfl rfl (Ew.append 9 5 rfl rfl rfl rfl rfl rfl (by omega) (by omega)) ?_; rintro v14 _ ⟨hv14, rfl⟩) | (refine TL.ew (Wt.none rfl) rfl rfl (Ew.append 9 6 rfl rfl rfl rfl rfl rfl (by omega) (by omega)) ?_; rintro v14 _ ⟨hv14, rfl⟩) | (refine TL.ew (Wt.none rfl) rfl rfl (Ew.append 9 7 rfl rfl rfl rfl rfl rfl (by omega) (by omega)) ?_; rintro v14 _ ⟨hv14, rfl⟩) | (refine TL.ew (Wt.none rfl) rfl rfl (Ew.append 9 8 rfl rfl rfl rfl rfl rfl (by omega) (by omega)) ?_; rintro v14 _ ⟨hv14, rfl⟩)
    first | (refine TL.aE (Wt.none rfl) rfl (Ew.ao 0 rfl rfl rfl rfl (by decide)) ?_; rintro _ _ ⟨rfl, rfl⟩) | (refine TL.aE (Wt.none rfl) rfl (Ew.ao 1 rfl rfl rfl rfl (by decide)) ?_; rintro _ _ ⟨rfl, rfl⟩) | (refine TL.aE (Wt.none rfl) rfl (Ew.ao 2 rfl rfl rfl rfl (by decide)) ?_; rintro _ _ ⟨rfl, rfl⟩) | (refine TL.aE (Wt.none rfl) rfl (Ew.ao 3 rfl rfl rfl rfl (by decide)) ?_; rintro _ _ ⟨rfl, rfl⟩) | (refine TL.aE (Wt.none rfl) rfl (Ew.ao 4 rfl rfl rfl rfl (by decide)) ?_; rintro _ _ ⟨rfl, rfl⟩) | (refine TL.aE (Wt.none rfl) rfl (Ew.ao 5 rfl rfl rfl rfl (by decide)) ?_; rintro _ _ ⟨rfl, rfl⟩) | (refine TL.aE (Wt.none rfl) rfl (Ew.ao 6 rfl rfl rfl rfl (by decide)) ?_; rintro _ _ ⟨rfl, rfl⟩) | (refine TL.aE (Wt.none rfl) rfl (Ew.ao 7 rfl rfl rfl rfl (by decide)) ?_; rintro _ _ ⟨rfl, rfl⟩) | (refine TL.aE (Wt.none rfl) rfl (Ew.ao 8 rfl rfl rfl rfl (by decide)) ?_; rintro _ _ ⟨rfl, rfl⟩) | (refine TL.aE (Wt.none rfl) rfl (Ew.ao 9 rfl rfl rfl rfl (by decide)) ?_; rintro _ _ ⟨rfl, rfl⟩) | (refine TL.aE (Wt.none rfl) rfl (Ew.ao 10 rfl rfl rfl rfl (by decide)) ?_; rintro _ _ ⟨rfl, rfl⟩) | (refine TL.aE (Wt.none rfl) rfl (Ew.ao 0 rfl rfl rfl rfl (by first | omega | simp)) ?_; rintro _ _ ⟨rfl, rfl⟩) | (refine TL.aE (Wt.none rfl) rfl (Ew.ao 1 rfl rfl rfl rfl (by first | omega | simp)) ?_; rintro _ _ ⟨rfl, rfl⟩) | (refine TL.aE (Wt.none rfl) rfl (Ew.ao 2 rfl rfl rfl rfl (by first | omega | simp)) ?_; rintro _ _ ⟨rfl, rfl⟩) | (refine TL.aE (Wt.none rfl) rfl (Ew.ao 3 rfl rfl rfl rfl (by first | omega | simp)) ?_; rintro _ _ ⟨rfl, rfl⟩) | (refine TL.aE (Wt.none rfl) rfl (Ew.ao 4 rfl rfl rfl rfl (by first | omega | simp)) ?_; rintro _ _ ⟨rfl, rfl⟩) | (refine TL.aE (Wt.none rfl) rfl (Ew.ao 5 rfl rfl rfl rfl (by first | omega | simp)) ?_; rintro _ _ ⟨rfl, rfl⟩) | (refine TL.aE (Wt.none rfl) rfl (Ew.ao 6 rfl rfl rfl rfl (by first | omega | simp)) ?_; rintro _ _ ⟨rfl, rfl⟩) | (refine TL.aE (Wt.none rfl) rfl (Ew.ao 7 rfl rfl rfl rfl (by first | omega | simp)) ?_; rintro _ _ ⟨rfl, rfl⟩) | (refine TL.aE (Wt.none rfl) rfl (Ew.ao 8 rfl rfl rfl rfl (by first | omega | simp)) ?_; rintro _ _ ⟨rfl, rfl⟩) | (refine TL.aE (Wt.none rfl) rfl (Ew.ao 9 rfl rfl rfl rfl (by first | omega | simp)) ?_; rintro _ _ ⟨rfl, rfl⟩) | (refine TL.aE (Wt.none rfl) rfl (Ew.ao 10 rfl rfl rfl rfl (by first | omega | simp)) ?_; rintro _ _ ⟨rfl, rfl⟩)
    refine TL.nil (K.ac ?_); exact K.round _ ⟨_, rfl, v14, rfl⟩ (by rw [zgc hi]; exact Sx)
  · intro g hG; obtain ⟨v, rfl⟩ := hG; dsimp only [List.cons_append, List.nil_append]; rw [List.take_length]; refine K.ac (K.seq (T.sr ?_))
    first | refine TL.y (Yv.ag 0 rfl rfl rfl (by rw [List.length_map, hws])) ?_ | refine TL.y (Yv.ag 1 rfl rfl rfl (by rw [List.length_map, hws])) ?_ | refine TL.y (Yv.ag 2 rfl rfl rfl (by rw [List.length_map, hws])) ?_ | refine TL.y (Yv.a 0 rfl rfl rfl rfl) ?_ | refine TL.y (Yv.a 1 rfl rfl rfl rfl) ?_ | refine TL.y (Yv.a 2 rfl rfl rfl rfl) ?_ | refine TL.y (Yv.a 3 rfl rfl rfl rfl) ?_ | refine TL.y (Yv.a 4 rfl rfl rfl rfl) ?_ | refine TL.y (Yv.a 5 rfl rfl rfl rfl) ?_ | refine TL.y (Yv.aT rfl rfl (by assumption) (fun h => h)) ?_ | refine TL.y (Yv.az 0 rfl rfl rfl (by first | rfl | assumption)) ?_ | refine TL.y (Yv.az 1 rfl rfl rfl (by first | rfl | assumption)) ?_ | refine TL.y (Yv.az 2 rfl rfl rfl (by first | rfl | assumption)) ?_ | refine TL.y (Yv.az 3 rfl rfl rfl (by first | rfl | assumption)) ?_ | refine TL.y (Yv.az 4 rfl rfl rfl (by first | rfl | assumption)) ?_ | refine TL.y (Yv.az 5 rfl rfl rfl (by first | rfl | assumption)) ?_
    refine TL.run 1 rfl ?_; refine TL.ns (T.ret ?_); exact K.ak rfl rfl (fun w' hw => ⟨_, trivial, rfl, hw.sub Sx⟩)
  · intro c y hz; exact hz.elim
def zcu (s : GSet) : List Int := (memN s.words.1).map fun j : Nat => (j : Int)
theorem zgR (F0 : Frz) (w : World) (hF0 : F0.At w) (s : GSet) (htab : Tab w) : Calls Tryz.prog 22 #[.agg (s.words.1.map U).toArray] w fun e w' => ∃ (y : Value) (G : Frz), SlC G y 1 ((zcu s).map eI) ∧ e = .returned y ∧ Fx F0 w G w' := by
  refine (zgk s.words.1 s.words.2 w htab).mono ?_; rintro e w' ⟨v', -, rfl, hw⟩; have e1 : nums (memN s.words.1) = (zcu s).flatMap eI := zfP _; have e2 : (memN s.words.1).length = (zcu s).length := (List.length_map _).symm; rw [e1, e2] at hw; obtain ⟨G, h1, h2, h3⟩ := Fx.hp hF0 hw; have h4 := SlK.ent (G := G) (hw.own (.sl v' 3 1 (zcu s).length ((zcu s).flatMap eI)) (by simp)) h2 (h3 _ (by simp)); exact ⟨v', G, h4.toF rfl (fun _ => rfl), rfl, h1⟩
end Go.Proofs.YtipomhejoajjdaaGreatDoor
