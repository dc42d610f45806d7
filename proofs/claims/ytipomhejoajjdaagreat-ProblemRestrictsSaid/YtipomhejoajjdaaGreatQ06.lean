/- Ca Pa Pg Pi Pj Sh Ks Yq: shortened and put together by squeeze.py. -/
import Derived.Test.YtipomhejoajjdaaGreatQ05
import Derived.Shelf.Small.Bits
import Derived.Shelf.Small.Wraps
import Derived.Shelf.Sort.Plain
import Derived.Ground.Names2Prog
import Derived.Shelf.Slices.CompactI
import Derived.Shelf.Slices.In.SortNone
import Derived.Test.YtipomhejoajjdaaGreatProg
import Derived.Sort.OwnSortedInts
import Derived.Lib.SlicesCompact
set_option maxRecDepth 100000
set_option maxHeartbeats 4000000
set_option linter.unusedVariables false
set_option linter.unusedSectionVars false
set_option linter.unusedSimpArgs false
namespace Go.Proofs.YtipomhejoajjdaaGreat
open Go.RowKit
section
variable {σ ρ α : Type}
theorem zfR {f : Nat → (Unit → Bool) → Unit → Bool} {k : Unit → Bool} {n : Nat} (q : Nat → Bool) (hf : ∀ i next, i < n → f i next () = (q i || next ())) : zah f k n 0 () = ((List.range n).any q || k ()) := by
  have key : ∀ m i, i + m = n → zah f k m i () = ((List.range' i m).any q || k ()) := by
    intro m
    induction m with
    | zero => intro i _; simp [zah]
    | succ m ih =>
      intro i e
      show f i (zah f k m (i + 1)) () = _
      rw [hf i _ (by omega), ih (i + 1) (by omega), List.range'_succ, List.any_cons, Bool.or_assoc]
  rw [key n 0 (by omega), List.range_eq_range']
theorem zel {f : Nat → (Unit → Bool) → Unit → Bool} {k : Unit → Bool} {n : Nat} (q : Nat → Bool) (hf : ∀ i next, i < n → f i next () = (q i && next ())) : zah f k n 0 () = ((List.range n).all q && k ()) := by
  have key : ∀ m i, i + m = n → zah f k m i () = ((List.range' i m).all q && k ()) := by
    intro m
    induction m with
    | zero => intro i _; simp [zah]
    | succ m ih =>
      intro i e
      show f i (zah f k m (i + 1)) () = _
      rw [hf i _ (by omega), ih (i + 1) (by omega), List.range'_succ, List.all_cons, Bool.and_assoc]
  rw [key n 0 (by omega), List.range_eq_range']
theorem zbZ {f : Nat → (σ → ρ) → σ → ρ} {k : σ → ρ} {n : Nat} {s : σ} (I : Nat → σ → Prop) (g : Nat → σ → σ) (h0 : I 0 s) (hI : ∀ i s, i < n → I i s → I (i + 1) (g i s)) (hf : ∀ i next s, i < n → I i s → f i next s = next (g i s)) : zah f k n 0 s = k ((List.range n).foldl (fun s i => g i s) s) ∧ I n ((List.range n).foldl (fun s i => g i s) s) := by
  have key : ∀ m i s, i + m = n → I i s → zah f k m i s = k ((List.range' i m).foldl (fun s i => g i s) s) ∧ I n ((List.range' i m).foldl (fun s i => g i s) s) := by
    intro m
    induction m with
    | zero => intro i s e hs; rw [show i = n by omega] at hs; exact ⟨rfl, hs⟩
    | succ m ih =>
      intro i s e hs; have := ih (i + 1) (g i s) (by omega) (hI i s (by omega) hs); rw [List.range'_succ, List.foldl_cons]; refine ⟨?_, this.2⟩; rw [← this.1]; exact hf i _ s (by omega) hs
  rw [List.range_eq_range']; exact key n 0 s (by omega) h0
theorem zeY {l : List α} [Inhabited α] {q : α → Bool} : ((List.range l.length).any fun i => q (nth l i)) = l.any q := by
  rw [Bool.eq_iff_iff, List.any_eq_true, List.any_eq_true]; constructor
  · rintro ⟨i, hi, h⟩; exact ⟨nth l i, by rw [zbc (List.mem_range.1 hi)]; exact List.getElem_mem _, h⟩
  · rintro ⟨x, hx, h⟩; obtain ⟨i, hi, rfl⟩ := List.mem_iff_getElem.1 hx; exact ⟨i, List.mem_range.2 hi, by rw [zbc hi]; exact h⟩
theorem zcD {l : List α} [Inhabited α] {q : α → Bool} : ((List.range l.length).all fun i => q (nth l i)) = l.all q := by
  have h := zeY (l := l) (q := fun x => !q x); rw [Bool.eq_iff_iff, List.all_eq_true, List.all_eq_true]; constructor
  · intro h x hx; obtain ⟨i, hi, rfl⟩ := List.mem_iff_getElem.1 hx; have := h i (List.mem_range.2 hi)
    rwa [zbc hi] at this
  · intro h i hi; have hi := List.mem_range.1 hi; rw [zbc hi]; exact h _ (List.getElem_mem _)
end
theorem zby {ρ : Type} {f : Nat → (Unit → ρ) → Unit → ρ} {k : Unit → ρ} {z : ρ} (q : Nat → Bool) {n s : Nat} (hf : ∀ i next, s ≤ i → i < s + n → f i next () = bif q i then next () else z) : zah f k n s () = bif (List.range' s n).all q then k () else z := by
  induction n generalizing s with
  | zero => rfl
  | succ m ih =>
    show f s (zah f k m (s + 1)) () = _
    rw [hf s _ (Nat.le_refl _) (by omega), ih (fun i next h1 h2 => hf i next (by omega) (by omega)), List.range'_succ, List.all_cons]
    cases q s <;> rfl
theorem zgL (n : Nat) (g t : Nat → Bool) : (List.range' 0 n).all (fun i => g i && (bif decide (0 < (i : Int)) then t i else true)) = ((List.range' 0 n).all g && (List.range' 1 (n - 1)).all t) := by
  rw [Bool.eq_iff_iff, Bool.and_eq_true, List.all_eq_true, List.all_eq_true, List.all_eq_true]; constructor
  · intro h; refine ⟨fun i hi => ((Bool.and_eq_true _ _).mp (h i hi)).1, fun i hi => ?_⟩; have hi' := List.mem_range'_1.1 hi; have h2 := ((Bool.and_eq_true _ _).mp (h i (List.mem_range'_1.2 ⟨by omega, by omega⟩))).2
    rwa [decide_eq_true (by omega), cond_true] at h2
  · rintro ⟨h1, h2⟩ i hi; have hi' := List.mem_range'_1.1 hi; rw [Bool.and_eq_true]; refine ⟨h1 i hi, ?_⟩; by_cases h0 : 0 < (i : Int)
    · rw [decide_eq_true h0, cond_true]; exact h2 i (List.mem_range'_1.2 ⟨by omega, by omega⟩)
    · rw [decide_eq_false h0]; rfl
def lexL : List Int → List Int → Bool
  | a :: x, b :: y => bif decide (a = b) then lexL x y else decide (a < b)
  | _, _ => false
theorem zfS {a b : List Int} {i : Nat} (h1 : i < a.length) (h2 : i < b.length) : lexL (a.drop i) (b.drop i) = bif decide (nth a i = nth b i) then lexL (a.drop (i + 1)) (b.drop (i + 1)) else decide (nth a i < nth b i) := by
  rw [List.drop_eq_getElem_cons h1, List.drop_eq_getElem_cons h2, ← zbc h1, ← zbc h2]; rfl
theorem zfV {a b : List Int} (h : a.length = b.length) : zbD a b = some (lexL a b) := by
  have key : ∀ m i, i + m = a.length → zah (fun (i : Nat) (next : Unit → Option Bool) (_ : Unit) => grd (0 ≤ (i : Int) ∧ (i : Int) < (b.length : Int)) (bif decide (¬ nth a i = nth b i) then some (decide (nth a i < nth b i)) else next ())) (fun _ => some false) m i () = some (lexL (a.drop i) (b.drop i)) := by
    intro m
    induction m with
    | zero => intro i e; rw [List.drop_eq_nil_of_le (show a.length ≤ i by omega)]; rfl
    | succ m ih =>
      intro i e; have h2 := ih (i + 1) (by omega)
      show grd _ _ = _
      rw [zbp ⟨by omega, by omega⟩, zfS (by omega) (by omega)]; by_cases e2 : nth a i = nth b i
      · rw [decide_eq_true e2, decide_eq_false (fun hn => hn e2), cond_false]; exact h2
      · rw [decide_eq_false e2, decide_eq_true e2, cond_true]; rfl
  have := key a.length 0 (by omega); rw [List.drop_zero, List.drop_zero] at this; exact this
def cmpc (a b : Int) : Int := bif decide (a < b) then -1 else bif decide (b < a) then 1 else 0
theorem zgj (a b : Int) : zac a b = cmpc a b := by
  unfold zac zbo; rw [decide_eq_false (fun h => h rfl), decide_eq_false (fun h => h rfl)]; rfl
def orL : List Int → Int
  | [] => 0
  | v :: r => bif decide (¬ v = 0) then v else orL r
theorem or_x (l : List Int) : zbQ l = orL l := by
  have key : ∀ m i, i + m = l.length → zah (fun (i : Nat) (next : Unit → Int) (_ : Unit) => bif decide (¬ nth l i = 0) then nth l i else next ()) (fun _ => (0 : Int)) m i () = orL (l.drop i) := by
    intro m
    induction m with
    | zero => intro i e; rw [List.drop_eq_nil_of_le (show l.length ≤ i by omega)]; rfl
    | succ m ih =>
      intro i e; have h2 := ih (i + 1) (by omega); rw [List.drop_eq_getElem_cons (show i < l.length by omega), ← zbc (show i < l.length by omega)]
      show (bif decide (¬ nth l i = 0) then nth l i else _) = bif decide (¬ nth l i = 0) then nth l i else _
      rw [← h2]
  have := key l.length 0 (by omega); rw [List.drop_zero] at this; exact this
theorem zfo : ∀ a b : List Int, decide (0 ≤ orL (List.zipWith cmpc a b)) = !lexL a b
  | [], b => by cases b <;> rfl
  | a :: x, [] => rfl
  | a :: x, b :: y => by
    have ih := zfo x y
    show decide (0 ≤ bif decide (¬ cmpc a b = 0) then cmpc a b else orL (List.zipWith cmpc x y)) = !(bif decide (a = b) then lexL x y else decide (a < b))
    unfold cmpc at *; rcases Int.lt_trichotomy a b with h | h | h
    · rw [decide_eq_true h, decide_eq_false (show ¬ a = b by omega)]; rfl
    · subst h; rw [decide_eq_false (Int.lt_irrefl a), decide_eq_true rfl]; exact ih
    · rw [decide_eq_false (show ¬ a < b by omega), decide_eq_true h, decide_eq_false (show ¬ a = b by omega)]; rfl
def zc3 (x : GPair) : List Int := [x.A, x.B, x.Offset, x.Low, x.High]
def zc2 (x : GLoad) : List Int := [x.To, x.From, x.Weight, x.Low, x.High]
def capL (x : GCap) : List Int := [x.Station, x.Max, x.Low, x.High]
theorem zf2 (a b : GPair) : decide (0 ≤ za5 a b) = !lexL (zc3 a) (zc3 b) := by
  unfold za5; rw [or_x]; simp only [zgj]; exact zfo (zc3 a) (zc3 b)
theorem zfL (a b : GLoad) : decide (0 ≤ za6 a b) = !lexL (zc2 a) (zc2 b) := by
  unfold za6; rw [or_x]; simp only [zgj]; exact zfo (zc2 a) (zc2 b)
theorem zgp (a b : GCap) : decide (0 ≤ za8 a b) = !lexL (capL a) (capL b) := by
  unfold za8; rw [or_x]; simp only [zgj]; exact zfo (capL a) (capL b)
def adjB {α : Type} [Inhabited α] (lt : α → α → Bool) (l : List α) : Bool := (List.range' 1 (l.length - 1)).all fun i => lt (nth l (i - 1)) (nth l i)
theorem zfC {α : Type} [Inhabited α] {l : List α} {cmp : α → α → Int} {lt : α → α → Bool} (hc : ∀ a b, decide (0 ≤ cmp a b) = !lt a b) :
    zah (fun (i : Nat) (next : Unit → Option Bool) (_ : Unit) => grd (0 ≤ ((i : Int) - 1) ∧ ((i : Int) - 1) < (l.length : Int)) (bif decide (0 ≤ cmp (nth l (((i : Int) - 1).toNat)) (nth l i)) then some false else next ())) (fun _ => some true) (l.length - 1) 1 () = some (adjB lt l) := by
  rw [zby (fun i => lt (nth l (i - 1)) (nth l i)) (z := some false) (fun i next h1 h2 => ?_)]
  · unfold adjB; cases (List.range' 1 (l.length - 1)).all fun i => lt (nth l (i - 1)) (nth l i) <;> rfl
  · rw [zbp ⟨by omega, by omega⟩, hc, show ((i : Int) - 1).toNat = i - 1 by omega]
    cases lt (nth l (i - 1)) (nth l i) <;> rfl
theorem zen {α : Type} [Inhabited α] {l : List α} {q : α → Bool} : zah (fun (i : Nat) (next : Unit → Bool) (_ : Unit) => bif !(q (nth l i)) then false else next ()) (fun _ => true) (l.length - 0) 0 () = l.all q := by
  rw [Nat.sub_zero, zel (fun i => q (nth l i)) (fun i next hi => by cases q (nth l i) <;> rfl), zcD, Bool.and_true]
def zda (r : GRules) : Bool :=
  decide ((r.Pairs.length : Int) ≤ 4096) && (r.Pairs.all zaK && (adjB (fun a b => lexL (zc3 a) (zc3 b)) r.Pairs && (decide ((r.Loads.length : Int) ≤ 1024) && (r.Loads.all zaJ && (adjB (fun a b => lexL (zc2 a) (zc2 b)) r.Loads && (decide ((r.Caps.length : Int) ≤ 1024) && (r.Caps.all zaL && adjB (fun a b => lexL (capL a) (capL b)) r.Caps)))))))
theorem zfa (r : GRules) : zbt r = some (zda r) := by
  have e1 : zax r.Pairs = r.Pairs.all zaK := zen; have e2 : zay r.Loads = r.Loads.all zaJ := zen; have e3 : zaA r.Caps = r.Caps.all zaL := zen; have i1 : zaw r.Pairs = some (adjB (fun a b => lexL (zc3 a) (zc3 b)) r.Pairs) := zfC zf2; have i2 : zav r.Loads = some (adjB (fun a b => lexL (zc2 a) (zc2 b)) r.Loads) := zfC zfL; have i3 : zaz r.Caps = some (adjB (fun a b => lexL (capL a) (capL b)) r.Caps) := zfC zgp; unfold zbt zda; rw [e1, e2, e3, i1, i2, i3]; simp only [zaI, Option.bind_some]
  cases decide ((r.Pairs.length : Int) ≤ 4096) <;> cases r.Pairs.all zaK <;> cases adjB (fun a b => lexL (zc3 a) (zc3 b)) r.Pairs <;> try rfl
  cases decide ((r.Loads.length : Int) ≤ 1024) <;> cases r.Loads.all zaJ <;> cases adjB (fun a b => lexL (zc2 a) (zc2 b)) r.Loads <;> try rfl
  cases decide ((r.Caps.length : Int) ≤ 1024) <;> cases r.Caps.all zaL <;> rfl
theorem zcF (a b : Int) : decide (a < b) = !decide (b ≤ a) := by
  by_cases h : a < b
  · rw [decide_eq_true h, decide_eq_false (by omega)]; rfl
  · rw [decide_eq_false h, decide_eq_true (by omega)]; rfl
theorem zfu (a b : Int) : decide (a ≤ b) = !decide (b < a) := by
  by_cases h : a ≤ b
  · rw [decide_eq_true h, decide_eq_false (by omega)]; rfl
  · rw [decide_eq_false h, decide_eq_true (by omega)]; rfl
theorem zgV (a b : Int) : decide (a = b) = !decide (¬ a = b) := by
  by_cases h : a = b
  · rw [decide_eq_true h, decide_eq_false (by omega)]; rfl
  · rw [decide_eq_false h, decide_eq_true h]; rfl
theorem zg5 {ρ : Type} (a b c d e f g t : Bool) (n z : Option ρ) : zaI (fun x => bif x then z else n) (fun (k : Bool → Option ρ) => bif !a then k true else bif !b then k true else bif !c then k true else bif !d then k true else bif !e then k true else bif !f then k true else bif g then (some t).bind fun r => k (!r) else k false) = bif (((((a && b) && c) && (d && e)) && f) && (bif g then t else true)) then n else z := by
  cases a <;> cases b <;> cases c <;> try rfl
  cases d <;> cases e <;> cases f <;> try rfl
  cases g <;> cases t <;> rfl
theorem body4 {ρ : Type} (a d e f g t : Bool) (n z : Option ρ) : zaI (fun x => bif x then z else n) (fun (k : Bool → Option ρ) => bif !a then k true else bif !d then k true else bif !e then k true else bif !f then k true else bif g then (some t).bind fun r => k (!r) else k false) = bif (((a && (d && e)) && f) && (bif g then t else true)) then n else z := by
  cases a <;> cases d <;> cases e <;> cases f <;> try rfl
  cases g <;> cases t <;> rfl
theorem zdh {α : Type} [Inhabited α] (l : List α) (g : α → Bool) (lt : α → α → Bool) : ((List.range' 0 (l.length - 0)).all fun i => g (nth l i) && (bif decide (0 < (i : Int)) then lt (nth l (i - 1)) (nth l i) else true)) = (l.all g && adjB lt l) := by
  rw [Nat.sub_zero, zgL l.length (fun i => g (nth l i)) (fun i => lt (nth l (i - 1)) (nth l i)), ← List.range_eq_range', zcD]; rfl
theorem lessP (x y : GPair) : zbD (zbg x) (zbg y) = some (lexL (zc3 x) (zc3 y)) := zfV rfl
theorem lessL (x y : GLoad) : zbD (zbh x) (zbh y) = some (lexL (zc2 x) (zc2 y)) := zfV rfl
theorem lessC (x y : GCap) : zbD (zbw x) (zbw y) = some (lexL (capL x) (capL y)) := zfV rfl
theorem zfG (r : GRules) : zbm r = some (zda r) := by
  unfold zbm
  show (bif _ then some false else zah _ (fun _ => zah _ (fun _ => zah _ (fun _ => some true) (r.Caps.length - 0) 0 ()) (r.Loads.length - 0) 0 ()) (r.Pairs.length - 0) 0 ()) = _
  rw [zby (n := r.Pairs.length - 0) (fun i => zaK (nth r.Pairs i) && (bif decide (0 < (i : Int)) then lexL (zc3 (nth r.Pairs (i - 1))) (zc3 (nth r.Pairs i)) else true)) (z := some false) (fun i next h1 h2 => ?_)]; rw [zby (n := r.Loads.length - 0) (fun i => zaJ (nth r.Loads i) && (bif decide (0 < (i : Int)) then lexL (zc2 (nth r.Loads (i - 1))) (zc2 (nth r.Loads i)) else true)) (z := some false) (fun i next h1 h2 => ?_)]; rw [zby (n := r.Caps.length - 0) (fun i => zaL (nth r.Caps i) && (bif decide (0 < (i : Int)) then lexL (capL (nth r.Caps (i - 1))) (capL (nth r.Caps i)) else true)) (z := some false) (fun i next h1 h2 => ?_)]
  · rw [zdh r.Pairs zaK (fun a b => lexL (zc3 a) (zc3 b)), zdh r.Loads zaJ (fun a b => lexL (zc2 a) (zc2 b)), zdh r.Caps zaL (fun a b => lexL (capL a) (capL b))]; unfold zda; rw [zcF 4096, zcF 1024, zcF 1024]
    cases decide ((r.Pairs.length : Int) ≤ 4096) <;> cases decide ((r.Loads.length : Int) ≤ 1024) <;> cases decide ((r.Caps.length : Int) ≤ 1024) <;> cases r.Pairs.all zaK <;> try rfl
    all_goals (cases adjB (fun a b => lexL (zc3 a) (zc3 b)) r.Pairs <;> cases r.Loads.all zaJ <;> cases adjB (fun a b => lexL (zc2 a) (zc2 b)) r.Loads <;> cases r.Caps.all zaL <;> cases adjB (fun a b => lexL (capL a) (capL b)) r.Caps <;> rfl)
  · skip; rw [show ((i : Int) - 1).toNat = i - 1 by omega, lessC, zcF _ 0, zcF 1099511627776]; exact body4 ..
  · skip; rw [show ((i : Int) - 1).toNat = i - 1 by omega, lessL, zgV (nth r.Loads i).To, zcF _ 1, zcF 1073741824]; exact zg5 ..
  · skip; rw [show ((i : Int) - 1).toNat = i - 1 by omega, lessP, zfu (nth r.Pairs i).B, zcF _ (-1), zcF 1]; exact zg5 ..
theorem zdg {α : Type} [Inhabited α] {l : List α} {i : Nat} (h : i < l.length) : nth l i ∈ l := by rw [zbc h]; exact List.getElem_mem h
theorem zgO {c b : Nat} (hc : c < 64) : ((1#64) <<< c).getLsbD b = decide (b = c) := by
  rw [BitVec.getLsbD_shiftLeft]; by_cases h : b = c
  · subst h; simp [hc, BitVec.getLsbD_one]
  · rw [decide_eq_false h]; by_cases h2 : b < c
    · simp [h2]
    · have e : (1#64).getLsbD (b - c) = false := by
        rw [BitVec.getLsbD_one]; simp; omega
      rw [e, Bool.and_false]
theorem zgN {x : BitVec 64} {c : Nat} : decide ((((x >>> c) &&& (1#64)).toNat : Int) = ((1#64).toNat : Int)) = x.getLsbD c := by
  have e : ((x >>> c) &&& (1#64)) = bif x.getLsbD c then 1#64 else 0#64 := by
    refine BitVec.eq_of_getLsbD_eq fun b hb => ?_; rw [BitVec.getLsbD_and, BitVec.getLsbD_ushiftRight, BitVec.getLsbD_one]; by_cases h0 : b = 0
    · subst h0; cases x.getLsbD c <;> simp
    · cases x.getLsbD c <;> simp [h0]
  rw [e]
  cases x.getLsbD c <;> decide
def inS (s : GSet) (i : Int) : Bool := (decide (0 ≤ i) && decide (i < 512)) && (Vec.get s.words (i / 64).toNat).getLsbD (i % 64).toNat
theorem zdW (s : GSet) (i : Int) : zag s i = some (inS s i) := by
  unfold zag inS za7; by_cases h : 0 ≤ i ∧ i < 512
  · simp only [zaI]; rw [decide_eq_true h.1, decide_eq_true h.2]; simp only [Bool.and_self, cond_true]; rw [zbp ⟨h.1, by omega, by omega⟩, zbp ⟨by omega, by omega⟩, zbp ⟨h.1, by omega⟩, zbp ⟨by omega, by omega⟩, zgN, Bool.true_and]
  · have e : (decide (0 ≤ i) && decide (i < 512)) = false := by
      rw [Bool.and_eq_false_iff, decide_eq_false_iff_not, decide_eq_false_iff_not]; omega
    simp only [zaI]; rw [e]; rfl
def wS (v : Vec 8 (BitVec 64)) (n : Nat) : Bool := (Vec.get v (n / 64)).getLsbD (n % 64)
theorem zgY {v : Vec 8 (BitVec 64)} {j n : Nat} (hj : j < 512) : wS (Vec.put v (j / 64) (Vec.get v (j / 64) ||| ((1#64) <<< (j % 64)))) n = (wS v n || decide (n = j)) := by
  unfold wS; rw [Vec.get_put (by omega)]; by_cases h : n / 64 = j / 64
  · rw [if_pos h, BitVec.getLsbD_or, zgO (by omega), h]
    congr 1
    by_cases h2 : n % 64 = j % 64
    · rw [decide_eq_true h2, decide_eq_true (by omega)]
    · rw [decide_eq_false h2, decide_eq_false (by omega)]
  · rw [if_neg h, decide_eq_false (by omega), Bool.or_false]
theorem zgm {l : List Int} {i : Nat} (hi : i < l.length) (q : Int → Bool) : (l.take (i + 1)).any q = ((l.take i).any q || q (nth l i)) := by
  rw [List.take_add_one, List.getElem?_eq_getElem hi, List.any_append, zbc hi]; simp
theorem of_x {l : List Int} (h : ∀ x ∈ l, 0 ≤ x ∧ x < 512) : ∃ s, zbS l = some (s, 0) ∧ ∀ i : Int, inS s i = ((decide (0 ≤ i) && decide (i < 512)) && l.any fun x => decide (x = i)) := by
  have hn : ∀ i, i < l.length → 0 ≤ nth l i ∧ nth l i < 512 := fun i hi => h _ (zdg hi); unfold zbS
  obtain ⟨h1, h2⟩ := zbZ (k := fun s : Vec 8 (BitVec 64) × Vec 8 (BitVec 64) => (some (GSet.mk s.2, 0) : Option (GSet × Int))) (n := l.length) (s := (Vec.fill 8 (0#64), Vec.fill 8 (0#64)))
    (f := fun (i_7 : Nat) (next6 : (Vec 8 (BitVec 64) × Vec 8 (BitVec 64)) → Option (GSet × Int)) (s6 : Vec 8 (BitVec 64) × Vec 8 (BitVec 64)) =>
      (bif !(za7 (nth l i_7)) then
        some ((GSet.mk (Vec.fill 8 (0#64))), 2)
        else
        grd (0 ≤ (nth l i_7) ∧ (nth l i_7) ≤ 9223372036854775807 ∧ 1 ≤ (64 : Int)) <|
        grd (0 ≤ ((nth l i_7) / 64) ∧ ((nth l i_7) / 64) < (8 : Int)) <|
        grd (0 ≤ (nth l i_7) ∧ 1 ≤ (64 : Int)) <|
        grd (0 ≤ ((nth l i_7) % 64) ∧ ((nth l i_7) % 64) < (64 : Int)) <|
        next6 (s6.1, (Vec.put s6.2 (((nth l i_7) / 64).toNat) ((Vec.get s6.2 (((nth l i_7) / 64).toNat)) ||| ((1#64) <<< (((nth l i_7) % 64).toNat)))))))
    (fun i s => ∀ n, n < 512 → wS s.2 n = (l.take i).any fun x => decide (x = (n : Int)))
    (fun i s => (s.1, Vec.put s.2 ((nth l i).toNat / 64) (Vec.get s.2 ((nth l i).toNat / 64) ||| ((1#64) <<< ((nth l i).toNat % 64)))))
    (fun n hn => by
      unfold wS
      rw [Vec.get_fill (by omega)]; simp)
    (fun i s hi hs n hn2 => by
      have := hn i hi; rw [zgY (by omega), hs n hn2, zgm hi]
      congr 1
      by_cases e : nth l i = (n : Int)
      · rw [decide_eq_true e, decide_eq_true (by omega)]
      · rw [decide_eq_false e, decide_eq_false (by omega)])
    (fun i next s hi hs => by
      have := hn i hi
      have e : za7 (nth l i) = true := by
        unfold za7; rw [decide_eq_true this.1, decide_eq_true this.2]; rfl
      rw [e, Bool.not_true, cond_false, zbp ⟨this.1, by omega, by omega⟩, zbp ⟨by omega, by omega⟩, zbp ⟨this.1, by omega⟩, zbp ⟨by omega, by omega⟩, show (nth l i / 64).toNat = (nth l i).toNat / 64 by omega, show (nth l i % 64).toNat = (nth l i).toNat % 64 by omega])
  refine ⟨_, h1, fun i => ?_⟩; unfold inS; by_cases hi : 0 ≤ i ∧ i < 512
  · rw [decide_eq_true hi.1, decide_eq_true hi.2, Bool.and_self, Bool.true_and, Bool.true_and]; have h3 := h2 i.toNat (by omega); rw [List.take_length] at h3; unfold wS at h3; rw [show (i / 64).toNat = i.toNat / 64 by omega, show (i % 64).toNat = i.toNat % 64 by omega]; refine h3.trans ?_; rw [show ((i.toNat : Nat) : Int) = i by omega]
  · have e : (decide (0 ≤ i) && decide (i < 512)) = false := by
      rw [Bool.and_eq_false_iff, decide_eq_false_iff_not, decide_eq_false_iff_not]; omega
    rw [e]; rfl
theorem ze5 {p : GProblem} (hr : room p.Domains.length 8) (h : ∀ d ∈ p.Domains, 0 ≤ d.Station ∧ d.Station < 512) : ∃ s, za3 p = some s ∧ ∀ i : Int, inS s i = ((decide (0 ≤ i) && decide (i < 512)) && p.Domains.any fun d => decide (d.Station = i)) := by
  obtain ⟨s, h1, h2⟩ := of_x (l := p.Domains.map (·.Station)) (fun x hx => by obtain ⟨d, hd, rfl⟩ := List.mem_map.1 hx; exact h d hd); refine ⟨s, ?_, fun i => by rw [h2 i, List.any_map]; rfl⟩; unfold za3; rw [zbp hr]
  have h3 := zbZ (k := fun l : List Int => (zbS l).bind fun r28 => some r28.1) (n := p.Domains.length - 0) (s := List.replicate p.Domains.length (0 : Int))
    (f := fun (i_5 : Nat) (next4 : List Int → Option GSet) (l_3 : List Int) => grd (0 ≤ (i_5 : Int) ∧ (i_5 : Int) < (l_3.length : Int)) <| next4 (l_3.set i_5 ((nth p.Domains i_5).Station)))
    (fun i s => s.length = p.Domains.length ∧ ∀ k, k < i → nth s k = (nth p.Domains k).Station)
    (fun i s => s.set i (nth p.Domains i).Station)
    ⟨List.length_replicate .., fun k hk => by omega⟩
    (fun i s hi hs => ⟨by rw [List.length_set]; exact hs.1, fun k hk => by
      (have h4 : k < s.length := by have := hs.1; omega); rw [zbc (show k < (s.set i _).length by rw [List.length_set]; exact h4), List.getElem_set]; by_cases e : i = k
      · rw [if_pos e, e]
      · rw [if_neg e, ← zbc h4]; exact hs.2 k (by omega)⟩)
    (fun i next s hi hs => by rw [zbp ⟨by omega, by have := hs.1; omega⟩])
  refine h3.1.trans ?_
  have e : (List.range (p.Domains.length - 0)).foldl (fun s i => s.set i (nth p.Domains i).Station) (List.replicate p.Domains.length (0 : Int)) = p.Domains.map (·.Station) := by
    refine List.ext_getElem (by rw [h3.2.1, List.length_map]) fun k hk1 hk2 => ?_; (have hk : k < p.Domains.length := by rwa [List.length_map] at hk2); have h5 := h3.2.2 k (by omega); rw [zbc hk1, zbc hk] at h5; rw [h5, List.getElem_map]
  rw [e, h1]; rfl
theorem zfZ (a b : Int) : decide (0 ≤ zac a b) = !decide (a < b) := by
  rw [zgj]; unfold cmpc; rcases Int.lt_trichotomy a b with h | h | h
  · rw [decide_eq_true h]; rfl
  · subst h; rw [decide_eq_false (Int.lt_irrefl a)]; rfl
  · rw [decide_eq_false (show ¬ a < b by omega), decide_eq_true h]; rfl
theorem zd5 {α : Type} [Inhabited α] {l : List α} {q : α → Option Bool} {p : α → Bool} (h : ∀ x, q x = some (p x)) : zah (fun (i : Nat) (next : Unit → Option Bool) (_ : Unit) => (q (nth l i)).bind fun r => bif !r then some false else next ()) (fun _ => some true) (l.length - 0) 0 () = some (l.all p) := by
  rw [Nat.sub_zero, zby (fun i => p (nth l i)) (z := some false) (fun i next h1 h2 => by rw [h]; show (bif !p (nth l i) then _ else _) = _; cases p (nth l i) <;> rfl), ← List.range_eq_range', zcD]
  cases l.all p <;> rfl
def okD (d : GDomain) : Bool := zad d.Station && (d.Channels.all zap && adjB (fun a b => decide (a < b)) d.Channels)
def hasD (p : GProblem) (i : Int) : Bool := (decide (0 ≤ i) && decide (i < 512)) && p.Domains.any fun d => decide (d.Station = i)
def zfr (p : GProblem) : Bool := p.Rules.Pairs.all (fun c => hasD p c.A && hasD p c.B) && (p.Rules.Loads.all (fun c => hasD p c.To && hasD p c.From) && p.Rules.Caps.all (fun c => hasD p c.Station))
def incD (p : GProblem) : Bool := adjB (fun a b : GDomain => decide (a.Station < b.Station)) p.Domains
def okP (p : GProblem) : Bool := p.Domains.all okD && (zda p.Rules && (incD p && zfr p))
theorem zfc (d : GDomain) : zbs d = some (okD d) := by
  unfold zbs okD; have e1 : za9 d.Channels = d.Channels.all zap := zen; have e2 : zaR d.Channels = some (adjB (fun a b => decide (a < b)) d.Channels) := zfC zfZ; rw [e1, e2]; simp only [zaI, Option.bind_some]
  cases zad d.Station <;> cases d.Channels.all zap <;> rfl
theorem zdF {n : Int} (h : zad n = true) : 0 ≤ n ∧ n ≤ 511 := by
  unfold zad zam at h; rw [Bool.and_eq_true, decide_eq_true_eq, decide_eq_true_eq] at h; exact h
theorem zfq {p : GProblem} (h : p.Domains.all okD = true) {d : GDomain} (hd : d ∈ p.Domains) : 0 ≤ d.Station ∧ d.Station < 512 := by
  have h1 := List.all_eq_true.1 h d hd; unfold okD at h1; have := zdF ((Bool.and_eq_true _ _).mp h1).1; omega
theorem zf5 {p : GProblem} (h : p.Domains.all okD = true) (hi : incD p = true) : ∀ k, k < p.Domains.length → (k : Int) ≤ (nth p.Domains k).Station
  | 0, hk => (zfq h (zdg hk)).1
  | k + 1, hk => by
    have h1 := zf5 h hi k (by omega); have h2 := List.all_eq_true.1 hi (k + 1) (List.mem_range'_1.2 ⟨by omega, by omega⟩); have h3 := of_decide_eq_true h2; rw [show k + 1 - 1 = k from rfl] at h3; omega
theorem zeQ {p : GProblem} (h : p.Domains.all okD = true) (hi : incD p = true) : p.Domains.length ≤ 512 := by
  rcases Nat.eq_zero_or_pos p.Domains.length with h0 | h0
  · omega
  · have h1 := zf5 h hi (p.Domains.length - 1) (by omega); have h2 := zfq h (zdg (show p.Domains.length - 1 < p.Domains.length by omega)); omega
theorem zgC (p : GProblem) : zba p = some (okP p) := by
  have e1 : zaC p.Domains = some (p.Domains.all okD) := zd5 zfc; have e2 : zaH p.Domains = some (incD p) := zfC (cmp := zbG) (fun a b => zfZ a.Station b.Station); unfold zba okP; rw [e1, e2, zfa]; simp only [zaI, Option.bind_some]
  cases h1 : p.Domains.all okD
  · rfl
  cases zda p.Rules
  · rfl
  cases h2 : incD p
  · rfl
  obtain ⟨s, h3, h4⟩ := ze5 (p := p) (by have := zeQ h1 h2; unfold room; omega) (fun d hd => zfq h1 hd)
  have e3 : zaO p.Rules.Pairs s = some (p.Rules.Pairs.all fun c => hasD p c.A && hasD p c.B) := zd5 (q := fun c => zbH c s) (fun c => by
    unfold zbH; rw [zdW, zdW, h4, h4]
    show (bif hasD p c.A then some (hasD p c.B) else some false) = _
    cases hasD p c.A <;> rfl)
  have e4 : zaP p.Rules.Loads s = some (p.Rules.Loads.all fun c => hasD p c.To && hasD p c.From) := zd5 (q := fun c => zbI c s) (fun c => by
    unfold zbI; rw [zdW, zdW, h4, h4]
    show (bif hasD p c.To then some (hasD p c.From) else some false) = _
    cases hasD p c.To <;> rfl)
  have e5 : zaT p.Rules.Caps s = some (p.Rules.Caps.all fun c => hasD p c.Station) := zd5 (q := fun c => zbL c s) (fun c => by
    unfold zbL
    rw [zdW, h4]; rfl)
  simp only [cond_false, Bool.not_true, h3, Option.bind_some, e3, e4, e5, Bool.true_and, cond_true]; unfold zfr
  cases p.Rules.Pairs.all fun c => hasD p c.A && hasD p c.B
  · rfl
  cases p.Rules.Loads.all fun c => hasD p c.To && hasD p c.From
  · rfl
  rfl
theorem zd2 {α : Type} {l : List α} {f g : α → Bool} (h : ∀ x ∈ l, f x = g x) : l.all f = l.all g := by
  induction l with
  | nil => rfl
  | cons x r ih => rw [List.all_cons, List.all_cons, h x (List.mem_cons_self ..), ih fun y hy => h y (List.mem_cons_of_mem _ hy)]
def anyD (p : GProblem) (s : Int) : Bool := p.Domains.any fun d => decide (d.Station = s)
theorem zey {p : GProblem} {s : Int} : decide (za4 p s < 0) = !anyD p s := by
  have key : ∀ m i, i + m = p.Domains.length → (decide (zah (fun (i : Nat) (next : Unit → Int) (_ : Unit) => bif decide ((nth p.Domains i).Station = s) then (i : Int) else next ()) (fun _ => (-1)) m i () < 0) = !((p.Domains.drop i).any fun d => decide (d.Station = s))) := by
    intro m
    induction m with
    | zero => intro i e; rw [List.drop_eq_nil_of_le (show p.Domains.length ≤ i by omega)]; rfl
    | succ m ih =>
      intro i e; have h2 := ih (i + 1) (by omega); rw [List.drop_eq_getElem_cons (show i < p.Domains.length by omega), List.any_cons, ← zbc (show i < p.Domains.length by omega)]
      show decide ((bif decide ((nth p.Domains i).Station = s) then (i : Int) else _) < 0) = _
      cases decide ((nth p.Domains i).Station = s) with
      | true => rw [cond_true, decide_eq_false (by omega)]; rfl
      | false => rw [cond_false, Bool.false_or]; exact h2
  have := key p.Domains.length 0 (by omega); rw [List.drop_zero] at this; exact this
def ze7 (p : GProblem) : Bool := p.Rules.Pairs.all (fun c => anyD p c.A && anyD p c.B) && (p.Rules.Loads.all (fun c => anyD p c.To && anyD p c.From) && p.Rules.Caps.all (fun c => anyD p c.Station))
theorem zcS {p : GProblem} {s : Int} (h : zad s = true) : anyD p s = hasD p s := by
  have := zdF h; unfold anyD hasD; rw [decide_eq_true this.1, decide_eq_true (show s < 512 by omega)]; rfl
theorem zb9 {a b : Bool} (h : (a && b) = true) : a = true := ((Bool.and_eq_true _ _).mp h).1
theorem zdf {a b : Bool} (h : (a && b) = true) : b = true := ((Bool.and_eq_true _ _).mp h).2
theorem zd8 {c : GPair} (h : zaK c = true) : zad c.A = true ∧ zad c.B = true :=
  ⟨zb9 (zb9 (zb9 (zb9 h))), zdf (zb9 (zb9 (zb9 h)))⟩
theorem zet {c : GLoad} (h : zaJ c = true) : zad c.To = true ∧ zad c.From = true :=
  ⟨zb9 (zb9 (zb9 (zb9 h))), zdf (zb9 (zb9 (zb9 h)))⟩
theorem zfF {c : GCap} (h : zaL c = true) : zad c.Station = true := zb9 (zb9 h)
structure RulesGood (r : GRules) : Prop where
  np : r.Pairs.length ≤ 4096
  nl : r.Loads.length ≤ 1024
  nc : r.Caps.length ≤ 1024
  p : ∀ c ∈ r.Pairs, zaK c = true
  l : ∀ c ∈ r.Loads, zaJ c = true
  c : ∀ c ∈ r.Caps, zaL c = true
theorem zdq {r : GRules} (h : zda r = true) : RulesGood r := by
  unfold zda at h; have h1 := zdf h; have h2 := zdf h1; have h3 := zdf h2; have h4 := zdf h3; have h5 := zdf h4; have h6 := zdf h5; have h7 := zdf h6; have a1 := of_decide_eq_true (zb9 h); have a2 := of_decide_eq_true (zb9 h3); have a3 := of_decide_eq_true (zb9 h6); exact ⟨by omega, by omega, by omega, List.all_eq_true.1 (zb9 h1), List.all_eq_true.1 (zb9 h4), List.all_eq_true.1 (zb9 h7)⟩
theorem zgd {p : GProblem} (h : zda p.Rules = true) : ze7 p = zfr p := by
  have hg := zdq h; (have e1 : (p.Rules.Pairs.all fun c => anyD p c.A && anyD p c.B) = p.Rules.Pairs.all fun c => hasD p c.A && hasD p c.B := zd2 fun c hc => by rw [zcS (zd8 (hg.p c hc)).1, zcS (zd8 (hg.p c hc)).2]); (have e2 : (p.Rules.Loads.all fun c => anyD p c.To && anyD p c.From) = p.Rules.Loads.all fun c => hasD p c.To && hasD p c.From := zd2 fun c hc => by rw [zcS (zet (hg.l c hc)).1, zcS (zet (hg.l c hc)).2]); have e3 : (p.Rules.Caps.all fun c => anyD p c.Station) = p.Rules.Caps.all fun c => hasD p c.Station := zd2 fun c hc => zcS (zfF (hg.c c hc)); unfold ze7 zfr; rw [e1, e2, e3]
def okD2 (d : GDomain) : Bool := zad d.Station && (decide ((d.Channels.length : Int) ≤ 50) && (d.Channels.all zap && adjB (fun a b => decide (a < b)) d.Channels))
theorem zgU {n : Int} (h : zap n = true) : 2 ≤ n ∧ n ≤ 51 := by
  unfold zap zam at h; rw [Bool.and_eq_true, decide_eq_true_eq, decide_eq_true_eq] at h; exact h
theorem zgy {l : List Int} (h : l.all zap = true) (hi : adjB (fun a b => decide (a < b)) l = true) : ∀ k, k < l.length → (k : Int) + 2 ≤ nth l k
  | 0, hk => by have := zgU (List.all_eq_true.1 h _ (zdg hk)); omega
  | k + 1, hk => by
    have h1 := zgy h hi k (by omega); have h2 := List.all_eq_true.1 hi (k + 1) (List.mem_range'_1.2 ⟨by omega, by omega⟩); have h3 := of_decide_eq_true h2; rw [show k + 1 - 1 = k from rfl] at h3; omega
theorem zfM (d : GDomain) : okD2 d = okD d := by
  unfold okD2 okD
  cases h1 : d.Channels.all zap
  · rw [Bool.false_and, Bool.and_false]
  cases h2 : adjB (fun a b => decide (a < b)) d.Channels
  · rw [Bool.and_false, Bool.and_false]
  have : d.Channels.length ≤ 50 := by
    rcases Nat.eq_zero_or_pos d.Channels.length with h0 | h0
    · omega
    · have a := zgy h1 h2 (d.Channels.length - 1) (by omega); have b := zgU (List.all_eq_true.1 h1 _ (zdg (show d.Channels.length - 1 < d.Channels.length by omega))); omega
  rw [decide_eq_true (by omega)]; rfl
theorem chs_x {ρ : Type} {l : List Int} {n z : ρ} : zah (fun (k : Nat) (next : Unit → ρ) (_ : Unit) => bif (((decide (nth l k < 2)) || (decide (51 < nth l k))) || ((decide (0 < (k : Int))) && (decide (nth l k ≤ nth l (((k : Int) - 1).toNat))))) then z else next ()) (fun _ => n) (l.length - 0) 0 () = bif l.all zap && adjB (fun a b => decide (a < b)) l then n else z := by
  rw [zby (fun k => zap (nth l k) && (bif decide (0 < (k : Int)) then decide (nth l (k - 1) < nth l k) else true)) (z := z) (fun i next h1 h2 => ?_), zdh l zap (fun a b => decide (a < b))]; rw [show ((i : Int) - 1).toNat = i - 1 by omega, zcF _ 2, zfu (nth l i) (nth l (i - 1)), zcF 51]; unfold zap zam
  cases decide (2 ≤ nth l i) <;> cases decide (nth l i ≤ 51) <;> cases decide (0 < (i : Int)) <;> cases decide (nth l (i - 1) < nth l i) <;> rfl
theorem zfy (p : GProblem) : zch p = some (okP p) := by
  unfold zch
  show (bif decide (512 < (p.Domains.length : Int)) then some false else (zbm p.Rules).bind fun r => bif !r then some false else zah _ (fun _ => zah _ (fun _ => zah _ (fun _ => zah _ (fun _ => some true) (p.Rules.Caps.length - 0) 0 ()) (p.Rules.Loads.length - 0) 0 ()) (p.Rules.Pairs.length - 0) 0 ()) (p.Domains.length - 0) 0 ()) = _
  rw [zfG, Option.bind_some]; rw [zby (n := p.Domains.length - 0) (fun i => okD2 (nth p.Domains i) && (bif decide (0 < (i : Int)) then decide ((nth p.Domains (i - 1)).Station < (nth p.Domains i).Station) else true)) (z := some false) (fun i next h1 h2 => ?_)]; rw [zby (n := p.Rules.Pairs.length - 0) (fun i => anyD p (nth p.Rules.Pairs i).A && anyD p (nth p.Rules.Pairs i).B) (z := some false) (fun i next h1 h2 => ?_)]; rw [zby (n := p.Rules.Loads.length - 0) (fun i => anyD p (nth p.Rules.Loads i).To && anyD p (nth p.Rules.Loads i).From) (z := some false) (fun i next h1 h2 => ?_)]; rw [zby (n := p.Rules.Caps.length - 0) (fun i => anyD p (nth p.Rules.Caps i).Station) (z := some false) (fun i next h1 h2 => ?_)]
  · rw [zdh p.Domains okD2 (fun a b => decide (a.Station < b.Station)), Nat.sub_zero, Nat.sub_zero, Nat.sub_zero, ← List.range_eq_range', ← List.range_eq_range', ← List.range_eq_range',
      zcD (q := fun c : GPair => anyD p c.A && anyD p c.B), zcD (q := fun c : GLoad => anyD p c.To && anyD p c.From), zcD (q := fun c : GCap => anyD p c.Station), zd2 (fun d _ => zfM d)]
    have hl : ∀ x : Option Bool, (bif p.Rules.Pairs.all (fun c => anyD p c.A && anyD p c.B) then bif p.Rules.Loads.all (fun c => anyD p c.To && anyD p c.From) then bif p.Rules.Caps.all (fun c => anyD p c.Station) then some true else some false else some false else some false) = some (ze7 p) := fun _ => by
      unfold ze7
      cases p.Rules.Pairs.all (fun c => anyD p c.A && anyD p c.B) <;> cases p.Rules.Loads.all (fun c => anyD p c.To && anyD p c.From) <;> cases p.Rules.Caps.all (fun c => anyD p c.Station) <;> rfl
    rw [hl none]; unfold okP
    show (bif decide (512 < (p.Domains.length : Int)) then some false else bif !zda p.Rules then some false else bif p.Domains.all okD && incD p then some (ze7 p) else some false) = _
    cases h1 : zda p.Rules
    · cases p.Domains.all okD <;> cases decide (512 < (p.Domains.length : Int)) <;> rfl
    cases h2 : p.Domains.all okD
    · cases decide (512 < (p.Domains.length : Int)) <;> rfl
    cases h3 : incD p
    · cases decide (512 < (p.Domains.length : Int)) <;> rfl
    have := zeQ h2 h3; rw [decide_eq_false (show ¬ 512 < (p.Domains.length : Int) by omega), zgd h1]; rfl
  · rw [zey]; cases anyD p (nth p.Rules.Caps i).Station <;> rfl
  · rw [zey, zey]; cases anyD p (nth p.Rules.Loads i).To <;> cases anyD p (nth p.Rules.Loads i).From <;> rfl
  · rw [zey, zey]; cases anyD p (nth p.Rules.Pairs i).A <;> cases anyD p (nth p.Rules.Pairs i).B <;> rfl
  · rw [chs_x, show ((i : Int) - 1).toNat = i - 1 by omega, zcF 50, zfu (nth p.Domains i).Station]; unfold okD2
    show (bif ((!zad (nth p.Domains i).Station || _) || _) then _ else _) = _
    cases zad (nth p.Domains i).Station <;> cases decide (0 < (i : Int)) <;> cases decide ((nth p.Domains (i - 1)).Station < (nth p.Domains i).Station) <;> cases decide (((nth p.Domains i).Channels.length : Int) ≤ 50) <;> cases ((nth p.Domains i).Channels.all zap && adjB (fun a b => decide (a < b)) (nth p.Domains i).Channels) <;> rfl
end Go.Proofs.YtipomhejoajjdaaGreat
namespace Go.Proofs.YtipomhejoajjdaaGreat
open Go.Shelf
open Go.RowKit in
open Go.RowKit in
def zfh : Go.Shelf.Ren := ⟨fun | 189 => 106 | 125 => 132 | 257 => 131 | 128 => 150 | 129 => 151 | 294 => 141 | 295 => 142 | 296 => 143 | 297 => 144 | 298 => 145 | 299 => 146 | 216 => 147 | 300 => 148 | 301 => 149 | 328 => 154 | 329 => 155 | 330 => 156 | 331 => 157 | 332 => 158 | 215 => 117 | 343 => 159 | n => n, fun | 28 => 44 | 3 => 3 | 46 => 174 | 0 => 0 | 51 => 188 | 53 => 88 | 4 => 4 | 183 => 181 | 182 => 180 | 131 => 185 | 5 => 5 | 9 => 9 | 218 => 192 | 222 => 196 | 228 => 198 | 229 => 199 | n => n, fun | n => n⟩
theorem zfO : Go.Proofs.Lays.n189 Tryz.prog zfh := {
  mixed := by kernel_rfl
  f125 := Tryz.func132.trans (congrArg some (by kernel_rfl))
  f128 := Tryz.func150.trans (congrArg some (by kernel_rfl))
  f129 := Tryz.func151.trans (congrArg some (by kernel_rfl))
  f189 := Tryz.func106.trans (congrArg some (by kernel_rfl))
  f215 := Tryz.func117.trans (congrArg some (by kernel_rfl))
  f216 := Tryz.func147.trans (congrArg some (by kernel_rfl))
  f257 := Tryz.func131.trans (congrArg some (by kernel_rfl))
  f294 := Tryz.func141.trans (congrArg some (by kernel_rfl))
  f295 := Tryz.func142.trans (congrArg some (by kernel_rfl))
  f296 := Tryz.func143.trans (congrArg some (by kernel_rfl))
  f297 := Tryz.func144.trans (congrArg some (by kernel_rfl))
  f298 := Tryz.func145.trans (congrArg some (by kernel_rfl))
  f299 := Tryz.func146.trans (congrArg some (by kernel_rfl))
  f300 := Tryz.func148.trans (congrArg some (by kernel_rfl))
  f301 := Tryz.func149.trans (congrArg some (by kernel_rfl))
  f328 := Tryz.func154.trans (congrArg some (by kernel_rfl))
  f329 := Tryz.func155.trans (congrArg some (by kernel_rfl))
  f330 := Tryz.func156.trans (congrArg some (by kernel_rfl))
  f331 := Tryz.func157.trans (congrArg some (by kernel_rfl))
  f332 := Tryz.func158.trans (congrArg some (by kernel_rfl))
  f343 := Tryz.func159.trans (congrArg some (by kernel_rfl))
  t0 := Tryz.underlying0
  a0 := Tryz.isAgg0
  z0 := Tryz.sizeOf0
  v0 := Tryz.zeroValue0
  t3 := Tryz.underlying3
  a3 := Tryz.isAgg3
  z3 := Tryz.sizeOf3
  v3 := Tryz.zeroValue3
  t4 := Tryz.underlying4
  a4 := Tryz.isAgg4
  z4 := Tryz.sizeOf4
  v4 := Tryz.zeroValue4
  t5 := Tryz.underlying5
  a5 := Tryz.isAgg5
  z5 := Tryz.sizeOf5
  v5 := Tryz.zeroValue5
  t9 := Tryz.underlying9
  a9 := Tryz.isAgg9
  z9 := Tryz.sizeOf9
  v9 := Tryz.zeroValue9
  t28 := Tryz.underlying44
  a28 := Tryz.isAgg44
  z28 := Tryz.sizeOf44
  v28 := Tryz.zeroValue44
  t46 := Tryz.underlying174
  a46 := Tryz.isAgg174
  z46 := Tryz.sizeOf174
  v46 := Tryz.zeroValue174
  t51 := Tryz.underlying188
  a51 := Tryz.isAgg188
  z51 := Tryz.sizeOf188
  v51 := Tryz.zeroValue188
  t53 := Tryz.underlying88
  a53 := Tryz.isAgg88
  z53 := Tryz.sizeOf88
  v53 := Tryz.zeroValue88
  t131 := Tryz.underlying185
  a131 := Tryz.isAgg185
  z131 := Tryz.sizeOf185
  v131 := Tryz.zeroValue185
  t182 := Tryz.underlying180
  a182 := Tryz.isAgg180
  z182 := Tryz.sizeOf180
  v182 := Tryz.zeroValue180
  t183 := Tryz.underlying181
  a183 := Tryz.isAgg181
  z183 := Tryz.sizeOf181
  v183 := Tryz.zeroValue181
  t218 := Tryz.underlying192
  a218 := Tryz.isAgg192
  z218 := Tryz.sizeOf192
  v218 := Tryz.zeroValue192
  t222 := Tryz.underlying196
  a222 := Tryz.isAgg196
  z222 := Tryz.sizeOf196
  v222 := Tryz.zeroValue196
  t228 := Tryz.underlying198
  a228 := Tryz.isAgg198
  z228 := Tryz.sizeOf198
  v228 := Tryz.zeroValue198
  t229 := Tryz.underlying199
  a229 := Tryz.isAgg199
  z229 := Tryz.sizeOf199
  v229 := Tryz.zeroValue199 }
open Go.Sort Go.RowKit in
theorem slices_Sort_int (blk off cap : Nat) (zs : List Int) (w : World) (hH : Holds (Value.int .i64) w blk off zs.toArray) (hblk : blk < w.heap.size) (hsz : zs.length < 4611686018427387904) :
    Calls Tryz.prog 106 #[.slice (some ⟨blk, off, none⟩) zs.length cap] w fun e w' =>
      e = .returned (.tuple #[]) ∧ ∃ n os, w' = grow (putRow (Value.int .i64) (Sort.ahead w n) blk off (zs.mergeSort fun x y => decide (x ≤ y)).toArray) os := Any.slices_Sort_int zfO blk off cap zs w hH hblk hsz
def zeP : Go.Shelf.Ren := ⟨fun | 20 => 107 | n => n, fun | 22 => 44 | 3 => 3 | 4 => 4 | 0 => 0 | n => n, fun | n => n⟩
theorem zfb : Go.Proofs.Lays2.n20 Tryz.prog zeP := {
  mixed := by kernel_rfl
  f20 := Tryz.func107.trans (congrArg some (by kernel_rfl))
  t0 := Tryz.underlying0
  a0 := Tryz.isAgg0
  z0 := Tryz.sizeOf0
  v0 := Tryz.zeroValue0
  t3 := Tryz.underlying3
  a3 := Tryz.isAgg3
  z3 := Tryz.sizeOf3
  v3 := Tryz.zeroValue3
  t4 := Tryz.underlying4
  a4 := Tryz.isAgg4
  z4 := Tryz.sizeOf4
  v4 := Tryz.zeroValue4
  t22 := Tryz.underlying44
  a22 := Tryz.isAgg44
  z22 := Tryz.sizeOf44
  v22 := Tryz.zeroValue44
  i3 := by kernel_rfl }
open Go.RowKit Go.Lib Go.Sort in
open Go.RowKit Go.Lib Go.Sort in
theorem slices_Compact_int (blk off cap : Nat) (zs : List Int) (w : World) (hH : Holds (Value.int .i64) w blk off zs.toArray) (hsz : zs.length ≤ 9223372036854775807) (hcap : zs.length ≤ cap) :
    Calls Tryz.prog 107 #[.slice (some ⟨blk, off, none⟩) zs.length cap] w fun e w' => e = .returned (.slice (some ⟨blk, off, none⟩) (Lib.compact zs).length cap) ∧ ∃ q, w' = putRow (Value.int .i64) (Sort.ahead w q) blk off (Lib.compact zs ++ List.replicate (zs.length - (Lib.compact zs).length) 0).toArray := Any.slices_Compact_int zfb blk off cap zs w hH hsz hcap
open Go.RowKit Go.Lib Go.Sort in
theorem slices_Compact_int_empty (a : Option Addr) (cap : Nat) (w : World) :
    Calls Tryz.prog 107 #[.slice a 0 cap] w fun e w' => e = .returned (.slice a 0 cap) ∧ w' = w := Any.slices_Compact_int_empty zfb a cap w
open Go.RowKit Go.Sort in
theorem slices_Sort_int_none (p : Option Addr) (cap : Nat) (w : World) :
    Calls Tryz.prog 106 #[.slice p 0 cap] w fun e w' => e = .returned (.tuple #[]) ∧ w' = w := Any.slices_Sort_int_none zfO p cap w
end Go.Proofs.YtipomhejoajjdaaGreat
namespace Go.Proofs.YtipomhejoajjdaaGreat
open Go.RowKit Go.Sort
section
variable {P : Program} {n : Nat} {B D : World} {M S0 : Nat → Prop} {fs : SFs} {hs : HS} {o : Oper} {v : Value}
theorem Yv.bO {x : Operand} {t : TypeId} {a : Int} (ho : o.op = .unOp .neg t x) (hx : ev fs x = some (.int .i64 a)) : Yv P n B M fs hs o (.int .i64 (wI (0 - a))) := fun f w ha _ => by
  unfold execOp; simp [ho, ha.ev hx, Op.unary, Op.intArith]
end
def ins (x : Int) : List Int → List Int
  | [] => [x]
  | y :: r => bif decide (x ≤ y) then x :: y :: r else y :: ins x r
def isort (l : List Int) : List Int := l.foldr ins []
theorem zeM (x : Int) : ∀ l, (ins x l).Perm (x :: l)
  | [] => .refl _
  | y :: r => by
    unfold ins
    cases decide (x ≤ y)
    · exact ((zeM x r).cons y).trans (.swap ..)
    · exact .refl _
theorem zdJ : ∀ l, (isort l).Perm l
  | [] => .refl _
  | x :: l => (zeM x _).trans ((zdJ l).cons x)
theorem zeC (x : Int) : ∀ l : List Int, l.Pairwise (· ≤ ·) → (ins x l).Pairwise (· ≤ ·)
  | [], _ => by simp [ins]
  | y :: r, h => by
    have h2 := List.pairwise_cons.1 h; unfold ins; by_cases hxy : x ≤ y
    · rw [decide_eq_true hxy]; refine List.pairwise_cons.2 ⟨fun z hz => ?_, h⟩; rcases List.mem_cons.1 hz with rfl | hz
      · exact hxy
      · exact Int.le_trans hxy (h2.1 z hz)
    · rw [decide_eq_false hxy]; refine List.pairwise_cons.2 ⟨fun z hz => ?_, zeC x r h2.2⟩; rcases List.mem_cons.1 ((zeM x r).mem_iff.1 hz) with rfl | hz
      · omega
      · exact h2.1 z hz
theorem zdR : ∀ l, (isort l).Pairwise (· ≤ ·)
  | [] => .nil
  | x :: l => zeC x _ (zdR l)
theorem zed : ∀ {a b : List Int}, a.Perm b → a.Pairwise (· ≤ ·) → b.Pairwise (· ≤ ·) → a = b
  | [], b, h, _, _ => (List.Perm.nil_eq h)
  | x :: a, [], h, _, _ => by cases h.symm.nil_eq
  | x :: a, y :: b, h, ha, hb => by
    have h1 := List.pairwise_cons.1 ha; have h2 := List.pairwise_cons.1 hb; have hx : x ∈ y :: b := h.mem_iff.1 (List.mem_cons_self ..); have hy : y ∈ x :: a := h.mem_iff.2 (List.mem_cons_self ..)
    have e : x = y := by
      rcases List.mem_cons.1 hx with e | hx
      · exact e
      · rcases List.mem_cons.1 hy with e | hy
        · exact e.symm
        · have := h1.1 y hy; have := h2.1 x hx; omega
    subst e; rw [zed (List.perm_cons x |>.1 h) h1.2 h2.2]
theorem zec (l : List Int) : (l.mergeSort fun x y => decide (x ≤ y)) = isort l :=
  zed ((List.mergeSort_perm l _).trans (zdJ l).symm)
    ((List.pairwise_mergeSort (le := fun x y : Int => decide (x ≤ y)) (fun a b c h1 h2 => decide_eq_true (Int.le_trans (of_decide_eq_true h1) (of_decide_eq_true h2))) (fun a b => by
      rcases Int.le_total a b with h | h
      · simp [h]
      · simp [h]) l).imp fun h => of_decide_eq_true h) (zdR l)
theorem zd9 (l : List Int) : l.flatMap eI = l.map (Value.int .i64) := by
  induction l with
  | nil => rfl
  | cons x l ih => rw [List.flatMap_cons, ih]; rfl
theorem FxM.one {F0 : Frz} {w w' : World} {E E' : Ent} (hF0 : F0.At w) (hO : Hp w (fps [E]) [E] w) (hA : ∀ g, fps [E] g → ¬ F0.S g) (ho : Only E.fp w w') (hok : E'.ok w') (hfp : ∀ g, E'.fp g → E.fp g ∨ w.heap.size ≤ g) : FxM F0 w (fps [E]) F0 [E'] w' := by
  obtain ⟨S0, G, rfl, hS, h⟩ := zbk hF0 hO hA; refine FxM.of (es := [E']) (Hp.go (es := [E]) (es' := [E']) (hs := [.fr G]) h ho (fun g _ hg => ⟨E, by simp, hg⟩) (fun e he => ?_) (fun e he g hg => ?_) (List.pairwise_singleton _ _)) hS (Frz.Le.refl _)
  · obtain rfl := List.mem_singleton.1 he; exact hok
  · obtain rfl := List.mem_singleton.1 he; exact (hfp g hg).imp (fun h => ⟨E, by simp, h⟩) id
def zf6 (l : List Int) : Option (List Int) := grd (l.length < 4611686018427387904) <| some (isort l)
theorem Only.of_grownBy {w w' : World} {v : Value} {e : TypeId} {size k : Nat} {l : List Value} {g : Nat} (h : w.grownBy w' (some g)) (hv : v.ownBlock = some g) : Only (Ent.sl v e size k l).fp w w' :=
  ⟨h.os, h.tape, h.output, h.size, fun k hk hn => h.block k hk fun e => hn (Ent.sl_fp.2 (by rw [hv, e]))⟩
theorem zgQ (F0 : Frz) (w : World) (hF0 : F0.At w) (l0_ : List Int) (v0_ : Value) (hO : Hp w (fps [.sl v0_ 3 1 l0_.length (l0_.flatMap eI)]) [.sl v0_ 3 1 l0_.length (l0_.flatMap eI)] w) (hA : ∀ g, fps [.sl v0_ 3 1 l0_.length (l0_.flatMap eI)] g → ¬ F0.S g) (r : List Int) (hr : zf6 l0_ = some r) :
    Calls Tryz.prog 106 #[v0_] w fun e w' => ∃ (y : Unit), (True) ∧ e = .returned (.tuple #[]) ∧ FxM F0 w (fps [.sl v0_ 3 1 l0_.length (l0_.flatMap eI)]) F0 [.sl v0_ 3 1 r.length (r.flatMap eI)] w' := by
  obtain ⟨hsz, hr⟩ := zaB hr; obtain rfl := Option.some.inj hr; have hk := hO.own _ (List.mem_cons_self ..); have ho := Ent.sl_ok.1 hk; have hl : (isort l0_).length = l0_.length := (zdJ l0_).length_eq; rcases ho.2 with ⟨rfl, h0⟩ | ⟨g, cap, cur, rfl, hb, hg, h1, h2, h3, h4⟩
  · obtain rfl := List.eq_nil_of_length_eq_zero h0; refine (slices_Sort_int_none none 0 w).mono ?_; rintro e w' ⟨rfl, rfl⟩; exact ⟨⟨⟩, trivial, rfl, FxM.one hF0 hO hA (Only.refl _ _) hk fun g h => .inl h⟩
  · rw [Nat.mul_one] at h3 h4; rw [zd9] at h4; refine (slices_Sort_int g 0 cap l0_ w (holds_of_blockI hg h4) (Array.getElem?_eq_some_iff.1 hg).1 hsz).mono ?_; rintro e w' ⟨rfl, n, os, rfl⟩; rw [zec]; refine ⟨⟨⟩, trivial, rfl, FxM.one hF0 hO hA (Only.of_grownBy (grownBy_sortedI _) rfl) (Ent.sl_ok.2 ?_) fun k h => .inl (Ent.sl_fp.2 (show some g = some k from Ent.sl_fp.1 h))⟩; rw [zd9, hl]; exact ownsRow_sortedI hl (Nat.zero_le _) hg h1 h2 (by omega)
def zeN (l : List Int) : List Int := Lib.compact l
theorem zfI (l : List Int) : (Lib.compact l).length ≤ l.length := by
  unfold Lib.compact Lib.compactUpTo; simpa using List.length_filter_le (Lib.keeps l.toArray) (List.range l.length)
theorem zgH (F0 : Frz) (w : World) (hF0 : F0.At w) (l0_ : List Int) (v0_ : Value) (hO : Hp w (fps [.sl v0_ 3 1 l0_.length (l0_.flatMap eI)]) [.sl v0_ 3 1 l0_.length (l0_.flatMap eI)] w) (hA : ∀ g, fps [.sl v0_ 3 1 l0_.length (l0_.flatMap eI)] g → ¬ F0.S g) :
    Calls Tryz.prog 107 #[v0_] w fun e w' => ∃ (y : Value), (True) ∧ e = .returned y ∧ FxM F0 w (fps [.sl v0_ 3 1 l0_.length (l0_.flatMap eI)]) F0 [.sl y 3 1 (zeN l0_).length ((zeN l0_).flatMap eI)] w' := by
  have hk := hO.own _ (List.mem_cons_self ..); have ho := Ent.sl_ok.1 hk; rcases ho.2 with ⟨rfl, h0⟩ | ⟨g, cap, cur, rfl, hb, hg, h1, h2, h3, h4⟩
  · obtain rfl := List.eq_nil_of_length_eq_zero h0; refine (slices_Compact_int_empty none 0 w).mono ?_; rintro e w' ⟨rfl, rfl⟩; exact ⟨_, trivial, rfl, FxM.one hF0 hO hA (Only.refl _ _) hk fun g h => .inl h⟩
  · rw [Nat.mul_one] at h3 h4; rw [zd9] at h4; refine (slices_Compact_int g 0 cap l0_ w (holds_of_blockI hg h4) (by unfold maxLen at h2; omega) h1).mono ?_; rintro e w' ⟨rfl, q, rfl⟩; rw [← Sort.grow_empty (putRow _ _ _ _ _)]; have hc := zfI l0_; refine ⟨_, trivial, rfl, FxM.one hF0 hO hA (Only.of_grownBy (grownBy_sortedI _) rfl) (Ent.sl_ok.2 ⟨?_, .inr ⟨g, cap, _, rfl, Nat.zero_le _, heap_sortedI _ hg, by unfold zeN; omega, h2, ?_, ?_⟩⟩) fun k h => .inl (Ent.sl_fp.2 (show some g = some k from Ent.sl_fp.1 h))⟩
    · rw [zd9, List.length_map, Nat.mul_one]
    · simp [putCells, h3]
    · have ht := take_putCellsI cur (Lib.compact l0_ ++ List.replicate (l0_.length - (Lib.compact l0_).length) 0) (by simp; omega); rw [zd9, Nat.mul_one]; have h5 := congrArg (List.take (Lib.compact l0_).length) ht; rw [List.take_take, List.map_append, List.take_left' (by rw [List.length_map]), Nat.min_eq_left (by simp)] at h5; exact h5
end Go.Proofs.YtipomhejoajjdaaGreat
namespace Go.Proofs.YtipomhejoajjdaaGreat
open Go.RowKit
structure Gfault where
  first : Int
deriving DecidableEq, Inhabited
abbrev Gfault.enc (x : Gfault) : List Value := [.int .i64 x.first]
theorem Gfault.len (x : Gfault) : (Gfault.enc x).length = 1 := rfl
structure GWriter where
  fault : Gfault
  out : List Int
deriving DecidableEq, Inhabited
def GWriter.rep (F : Frz) (c : List Value) (x : GWriter) : Prop := ∃ (v1 : Value), c = [.int .i64 x.fault.first, v1] ∧ SlC F v1 1 (x.out.map (eK .u8))
theorem GWriter.mono {F G : Frz} {c : List Value} {x : GWriter} (hle : F.Le G) (h : GWriter.rep F c x) : GWriter.rep G c x := by
  obtain ⟨v1, h0, h2⟩ := h; exact ⟨v1, h0, h2.mono hle⟩
theorem GWriter.len {F : Frz} {c : List Value} {x : GWriter} (h : GWriter.rep F c x) : c.length = 2 := by
  obtain ⟨v1, h0, h2⟩ := h; subst h0; rfl
theorem GWriter.one {F : Frz} {c : List Value} {x : GWriter} (h : GWriter.rep F c x) : OneCs c := by
  obtain ⟨v1, h0, h2⟩ := h; subst h0; haveI := h2.oneC
  infer_instance
theorem GWriter.c0 {F : Frz} {c : List Value} {x : GWriter} (h : GWriter.rep F c x) : c[0]? = some (.int .i64 x.fault.first) := by
  obtain ⟨v1, h0, h2⟩ := h; subst h0; rfl
theorem GWriter.c1 {F : Frz} {c : List Value} {x : GWriter} (h : GWriter.rep F c x) : c[1]? = some (nth c 1) ∧ SlC F (nth c 1) 1 (x.out.map (eK .u8)) := by
  obtain ⟨v1, h0, h2⟩ := h; subst h0; exact ⟨rfl, h2⟩
theorem GWriter.form {F : Frz} {c : List Value} {x : GWriter} (h : GWriter.rep F c x) : (c.drop 0).take 2 = [.int .i64 x.fault.first, nth c 1] := by
  obtain ⟨v1, h0, h2⟩ := h; subst h0; rfl
def zcl (fuel : Nat) (l0_ : List Int) (n : BitVec 64) : Option (List Int) :=
  zaI (fun (s3 : List Int × BitVec 64) =>
    grd (room (s3.1 ++ [(IntKind.u8.wrap (s3.2.toNat : Int))]).length 1) <|
    some (s3.1 ++ [(IntKind.u8.wrap (s3.2.toNat : Int))]))
  (fun k3 =>
    zcZ (fun (next6 : (List Int × BitVec 64) → Option (List Int)) (s6 : List Int × BitVec 64) =>
      (bif decide (((127#64).toNat : Int) < (s6.2.toNat : Int)) then
        grd (room (s6.1 ++ [(orK .u8 (IntKind.u8.wrap (s6.2.toNat : Int)) 128)]).length 1) <|
        next6 ((s6.1 ++ [(orK .u8 (IntKind.u8.wrap (s6.2.toNat : Int)) 128)]), (s6.2 >>> 7))
        else
        k3 (s6.1, s6.2))) fuel (l0_, n))
theorem zcP (F0 : Frz) (w : World) (hF0 : F0.At w) (l0_ : List Int) (v0_ : Value) (n : BitVec 64) (hO : Hp w (fps [.sl v0_ 5 1 l0_.length (l0_.flatMap (eK .u8))]) [.sl v0_ 5 1 l0_.length (l0_.flatMap (eK .u8))] w) (hA : ∀ g, fps [.sl v0_ 5 1 l0_.length (l0_.flatMap (eK .u8))] g → ¬ F0.S g) (fuel : Nat) (r : List Int) (hr : zcl fuel l0_ n = some r) : Calls Tryz.prog 129 #[v0_, U n] w fun e w' => ∃ (y : Value), (True) ∧ e = .returned (y) ∧ FxM F0 w (fps [.sl v0_ 5 1 l0_.length (l0_.flatMap (eK .u8))]) F0 [.sl y 5 1 r.length (r.flatMap (eK .u8))] w' := by
  have hk := hr; unfold zcl at hk; haveI := zcV (hO.own (.sl v0_ 5 1 l0_.length (l0_.flatMap (eK .u8))) (by simp)); have hmx0_ := zc0 (hO.own (.sl v0_ 5 1 l0_.length (l0_.flatMap (eK .u8))) (by simp)); obtain ⟨S0, F1, rfl, hS0, hp0⟩ := zbk hF0 hO hA; refine zao (hs := [.sl v0_ 5 1 l0_.length (l0_.flatMap (eK .u8)), .fr F1]) Tryz.func129 rfl rfl rfl hp0 ?_; refine T.sr ?_; refine TL.run 1 rfl ?_; refine TL.slNil 5 1 ?_; refine TL.ns (T.seq ?_); have hq := zae hk; clear hk; obtain ⟨k3, hk3, hk⟩ := hq; (try dsimp only at hk); refine T.ah (ι := List Int × Value × BitVec 64) (fun z => [(0, z.2.1), (1, U z.2.2)]) (fun z => [.sl z.2.1 5 1 z.1.length (z.1.flatMap (eK .u8)), .fr F1]) (fun z => k3 (z.1, z.2.2) = some r ∧ OneC z.2.1) ?_ ?_
  · have hq := zer hk; clear hk; obtain ⟨f6, hf6, hk⟩ := hq; refine T.block ?_; refine T.pick [1, 2] rfl (by decide) ?_; refine T.loop (ι := Nat × List Int × Value × BitVec 64) (fun z => [(0, z.2.2.1), (1, U z.2.2.2)]) (fun z => [.sl z.2.2.1 5 1 z.2.1.length (z.2.1.flatMap (eK .u8)), .fr F1]) (fun z => zcZ f6 z.1 (z.2.1, z.2.2.2) = some r ∧ OneC z.2.2.1) (fun z => z.1) (fuel, l0_, v0_, n) ?_ ?_ ?_ ?_
    · exact ⟨hk, inferInstance⟩
    · exact (.c (.c .nil))
    · exact List.Sublist.refl _
    · rintro ⟨m_7, out_4, vout_4, n_5⟩ ⟨hk, oout_4⟩; (try dsimp only at *); have hq := zeF hk; clear hk; obtain ⟨m_7', rfl, hk⟩ := hq; generalize hn6 : zcZ f6 m_7' = next6 at hk; rw [← hf6] at hk; (try dsimp only at hk); refine T.seq (T.sr ?_); refine TL.run 2 rfl ?_; refine TL.ns ?_; refine T.cond rfl (fun h8 => ?_) (fun h8 => ?_)
      · replace hk := zaa hk h8; refine T.skip (K.seq (T.block (T.seq ?_))); have hq : (room (out_4 ++ [(orK .u8 (IntKind.u8.wrap (n_5.toNat : Int)) 128)]).length 1) ∧ _ := zaB hk; clear hk; obtain ⟨g12, hk⟩ := hq; (try dsimp only at hk); refine T.region ?_; refine TL.run 2 rfl ?_; refine TL.y (Yv.ba (z := (n_5.toNat : Int)) rfl rfl) ?_; refine TL.y (Yv.orK (a := (IntKind.u8.wrap (n_5.toNat : Int))) (b := 128) rfl rfl rfl) ?_; refine TL.e (Ew.buildSlice rfl rfl rfl (by decide)) ?_; rintro _ _ ⟨g11, rfl, rfl⟩; refine TL.e (Ew.av 1 0 rfl rfl rfl rfl rfl rfl (zbK (ys := [(orK .u8 (IntKind.u8.wrap (n_5.toNat : Int)) 128)]) rfl) (zbT (enc := (eK .u8)) (xs := out_4) (ys := [(orK .u8 (IntKind.u8.wrap (n_5.toNat : Int)) 128)])) g12 (by decide)) ?_; rintro v12 _ ⟨hv12, rfl⟩; refine TL.run 1 rfl ?_; refine TL.ns (T.region ?_); refine TL.run 1 rfl ?_; refine TL.y (Yv.bq (a := n_5) 7 rfl rfl rfl (show (7 : Int) = ((7 : Nat) : Int) from rfl) (by omega)) ?_; refine TL.run 1 rfl ?_; refine TL.nil (K.ac ?_); rw [← hn6] at hk; refine K.pick [1, 2] rfl (by decide) ?_; exact K.next (m_7', (out_4 ++ [(orK .u8 (IntKind.u8.wrap (n_5.toNat : Int)) 128)]), v12, (n_5 >>> 7)) ⟨hk, inferInstance⟩ (by dsimp only; omega) (.c (.c .nil)) (List.Sublist.refl _)
      · replace hk := zab hk h8; refine T.exit (K.ab (K.ab (K.ad ?_))); exact K.ag (out_4, vout_4, n_5) ⟨hk, inferInstance⟩ (.c (.c .nil)) (List.Sublist.refl _)
  · rintro ⟨out_1, vout_1, n_2⟩ ⟨hk, oout_1⟩; (try dsimp only at *); rw [← hk3] at hk; (try dsimp only at hk); refine T.seq ?_; have hq : (room (out_1 ++ [(IntKind.u8.wrap (n_2.toNat : Int))]).length 1) ∧ _ := zaB hk; clear hk; obtain ⟨g19, hk⟩ := hq; (try dsimp only at hk); refine T.region ?_; refine TL.run 2 rfl ?_; refine TL.y (Yv.ba (z := (n_2.toNat : Int)) rfl rfl) ?_; refine TL.e (Ew.buildSlice rfl rfl rfl (by decide)) ?_; rintro _ _ ⟨g18, rfl, rfl⟩; refine TL.e (Ew.av 1 0 rfl rfl rfl rfl rfl rfl (zbK (ys := [(IntKind.u8.wrap (n_2.toNat : Int))]) rfl) (zbT (enc := (eK .u8)) (xs := out_1) (ys := [(IntKind.u8.wrap (n_2.toNat : Int))])) g19 (by decide)) ?_; rintro v19 _ ⟨hv19, rfl⟩; refine TL.run 1 rfl ?_; refine TL.ns (T.ret ?_); obtain rfl := Option.some.inj hk; exact K.aj rfl rfl (fun w' hw => ⟨v19, trivial, rfl, FxM.of (hw.pick (idx := [1, 2]) rfl (by decide)) hS0 (Frz.Le.refl _)⟩)
def zcT (fuel : Nat) (l0_ : List Int) (n : Int) : Option (List Int) :=
  (bif decide (n < 0) then
    (zcl fuel l0_ (((BitVec.ofInt 64 (wI (0 - (wI (n + 1))))) <<< 1) ||| (1#64))).bind fun r14 =>
    some r14
    else
    (zcl fuel l0_ ((BitVec.ofInt 64 n) <<< 1)).bind fun r19 =>
    some r19)
theorem zeI (F0 : Frz) (w : World) (hF0 : F0.At w) (l0_ : List Int) (v0_ : Value) (n : Int) (hO : Hp w (fps [.sl v0_ 5 1 l0_.length (l0_.flatMap (eK .u8))]) [.sl v0_ 5 1 l0_.length (l0_.flatMap (eK .u8))] w) (hA : ∀ g, fps [.sl v0_ 5 1 l0_.length (l0_.flatMap (eK .u8))] g → ¬ F0.S g) (fuel : Nat) (r : List Int) (hr : zcT fuel l0_ n = some r) : Calls Tryz.prog 130 #[v0_, .int .i64 n] w fun e w' => ∃ (y : Value), (True) ∧ e = .returned (y) ∧ FxM F0 w (fps [.sl v0_ 5 1 l0_.length (l0_.flatMap (eK .u8))]) F0 [.sl y 5 1 r.length (r.flatMap (eK .u8))] w' := by
  have hk := hr; unfold zcT at hk; haveI := zcV (hO.own (.sl v0_ 5 1 l0_.length (l0_.flatMap (eK .u8))) (by simp)); have hmx0_ := zc0 (hO.own (.sl v0_ 5 1 l0_.length (l0_.flatMap (eK .u8))) (by simp)); obtain ⟨S0, F1, rfl, hS0, hp0⟩ := zbk hF0 hO hA; refine zao (hs := [.sl v0_ 5 1 l0_.length (l0_.flatMap (eK .u8)), .fr F1]) Tryz.func130 rfl rfl rfl hp0 ?_; refine T.sr ?_; refine TL.run 1 rfl ?_; refine TL.ns (T.seq (T.sr ?_)); refine TL.run 2 rfl ?_; refine TL.ns ?_; refine T.cond rfl (fun h1 => ?_) (fun h1 => ?_)
  · have p1 := of_decide_eq_true h1; replace hk := zaa hk h1; refine T.seq ?_; have hq := zaf hk; clear hk; obtain ⟨r14, hr14, hk⟩ := hq; (try dsimp only at hk); refine T.region ?_; refine TL.run 3 rfl ?_; refine TL.y (Yv.bO rfl rfl) ?_; refine TL.y (Yv.aT (z := (wI (0 - (wI (n + 1))))) rfl rfl) ?_; refine TL.y (Yv.bh (a := (BitVec.ofInt 64 (wI (0 - (wI (n + 1)))))) 1 rfl rfl rfl (show (1 : Int) = ((1 : Nat) : Int) from rfl) (by omega)) ?_; refine TL.y (Yv.bI (a := ((BitVec.ofInt 64 (wI (0 - (wI (n + 1))))) <<< 1)) (b := 1#64) rfl rfl rfl) ?_; refine TL.e (Ew.as [0, 1] [.sl v0_ 5 1 l0_.length (l0_.flatMap (eK .u8))] [] rfl rfl rfl rfl (by decide) (fun w hw hw2 hF => zcP _ w hF l0_ v0_ (((BitVec.ofInt 64 (wI (0 - (wI (n + 1))))) <<< 1) ||| (1#64)) hw2.takes.1 hw2.takes.2 fuel r14 hr14)) ?_; rintro v14_0_0 _ ⟨_, -, rfl, rfl⟩; dsimp only [List.cons_append, List.nil_append]; refine TL.aC 0 rfl ?_; intro iv14_0_0 hmv14_0_0; refine TL.run 1 rfl ?_; refine TL.ns (T.ret (K.a ?_)); obtain rfl := Option.some.inj hk; exact K.aj rfl rfl (fun w' hw => ⟨v14_0_0, trivial, rfl, FxM.of (hw.pick (idx := [0, 1]) rfl (by decide)) hS0 (Frz.Le.refl _)⟩)
  · have p1 := of_decide_eq_false h1; replace hk := zab hk h1; refine T.skip (K.seq (T.seq ?_)); have hq := zaf hk; clear hk; obtain ⟨r19, hr19, hk⟩ := hq; (try dsimp only at hk); refine T.region ?_; refine TL.run 2 rfl ?_; refine TL.y (Yv.aT (z := n) rfl rfl) ?_; refine TL.y (Yv.bh (a := (BitVec.ofInt 64 n)) 1 rfl rfl rfl (show (1 : Int) = ((1 : Nat) : Int) from rfl) (by omega)) ?_; refine TL.e (Ew.as [0, 1] [.sl v0_ 5 1 l0_.length (l0_.flatMap (eK .u8))] [] rfl rfl rfl rfl (by decide) (fun w hw hw2 hF => zcP _ w hF l0_ v0_ ((BitVec.ofInt 64 n) <<< 1) hw2.takes.1 hw2.takes.2 fuel r19 hr19)) ?_; rintro v19_0_0 _ ⟨_, -, rfl, rfl⟩; dsimp only [List.cons_append, List.nil_append]; refine TL.aC 0 rfl ?_; intro iv19_0_0 hmv19_0_0; refine TL.run 1 rfl ?_; refine TL.ns (T.ret ?_); obtain rfl := Option.some.inj hk; exact K.aj rfl rfl (fun w' hw => ⟨v19_0_0, trivial, rfl, FxM.of (hw.pick (idx := [0, 1]) rfl (by decide)) hS0 (Frz.Le.refl _)⟩)
def zaQ (x0_ : GWriter) : Bool :=
  (decide (x0_.fault.first = 0))
theorem zbM (F0 : Frz) (w : World) (hF0 : F0.At w) (x0_ : GWriter) (g0_ : Nat) (v0_1 : Value) (hO : Hp w (fps [.row g0_ 144 [.int .i64 x0_.fault.first, v0_1], .sl v0_1 5 1 x0_.out.length (x0_.out.flatMap (eK .u8))]) [.row g0_ 144 [.int .i64 x0_.fault.first, v0_1], .sl v0_1 5 1 x0_.out.length (x0_.out.flatMap (eK .u8))] w) (hA : ∀ g, fps [.row g0_ 144 [.int .i64 x0_.fault.first, v0_1], .sl v0_1 5 1 x0_.out.length (x0_.out.flatMap (eK .u8))] g → ¬ F0.S g) : Calls Tryz.prog 126 #[.pointer (some ⟨g0_, 0, none⟩)] w fun e w' => ∃ (y : Unit), (True) ∧ e = .returned (.bool (zaQ x0_)) ∧ FxM F0 w (fps [.row g0_ 144 [.int .i64 x0_.fault.first, v0_1], .sl v0_1 5 1 x0_.out.length (x0_.out.flatMap (eK .u8))]) F0 [.row g0_ 144 [.int .i64 x0_.fault.first, v0_1], .sl v0_1 5 1 x0_.out.length (x0_.out.flatMap (eK .u8))] w' := by
  obtain ⟨r, hk⟩ : ∃ r, zaQ x0_ = r := ⟨_, rfl⟩; rw [hk]; unfold zaQ at hk; haveI := zcV (hO.own (.sl v0_1 5 1 x0_.out.length (x0_.out.flatMap (eK .u8))) (by simp)); have hmx0_1 := zc0 (hO.own (.sl v0_1 5 1 x0_.out.length (x0_.out.flatMap (eK .u8))) (by simp)); obtain ⟨S0, F1, rfl, hS0, hp0⟩ := zbk hF0 hO hA; refine zao (hs := [.row g0_ 144 [.int .i64 x0_.fault.first, v0_1], .sl v0_1 5 1 x0_.out.length (x0_.out.flatMap (eK .u8)), .fr F1]) Tryz.func126 rfl rfl rfl hp0 ?_; refine T.sr ?_; refine TL.run 1 rfl ?_; refine TL.ns (T.seq ?_); refine T.ah (ι := Unit) (fun z => [(2, .bool (decide (x0_.fault.first = 0)))]) (fun z => [.row g0_ 144 [.int .i64 x0_.fault.first, v0_1], .sl v0_1 5 1 x0_.out.length (x0_.out.flatMap (eK .u8)), .fr F1]) (fun z => True) ?_ ?_
  · refine T.region ?_; refine TL.run 1 rfl ?_; refine TL.y (Yv.bA (e := 144) (by kernel_rfl) rfl rfl rfl) ?_; refine TL.run 3 rfl ?_; refine TL.y (Yv.fieldAddr rfl rfl) ?_; refine TL.y (Yv.fieldAddr rfl rfl) ?_; refine TL.y (Yv.aa 0 rfl rfl rfl rfl) ?_; refine TL.run 3 rfl ?_; refine TL.nil ?_; exact K.ag () trivial (.c .nil) (List.Sublist.refl _)
  · rintro _ _; refine T.ret ?_; subst hk; exact K.aj rfl rfl (fun w' hw => ⟨⟨⟩, trivial, rfl, FxM.of (hw.pick (idx := [0, 1, 2]) rfl (by decide)) hS0 (Frz.Le.refl _)⟩)
def zaX (x0_ : GWriter) (l1_ : List Int) : Option (List Int) :=
  (bif decide (65536 < (l1_.length : Int)) then
    none
    else
    some l1_)
theorem zbF (F0 : Frz) (w : World) (hF0 : F0.At w) (x0_ : GWriter) (g0_ : Nat) (v0_1 : Value) [iv0_1 : OneC v0_1] (l1_ : List Int) (v1_ : Value) (hO : Hp w (fps [.row g0_ 144 [.int .i64 x0_.fault.first, v0_1], .sl v1_ 5 1 l1_.length (l1_.flatMap (eK .u8))]) [.row g0_ 144 [.int .i64 x0_.fault.first, v0_1], .sl v1_ 5 1 l1_.length (l1_.flatMap (eK .u8))] w) (hA : ∀ g, fps [.row g0_ 144 [.int .i64 x0_.fault.first, v0_1], .sl v1_ 5 1 l1_.length (l1_.flatMap (eK .u8))] g → ¬ F0.S g) (r : List Int) (hr : zaX x0_ l1_ = some r) : Calls Tryz.prog 128 #[.pointer (some ⟨g0_, 0, none⟩), v1_] w fun e w' => ∃ (y : Value), (True) ∧ e = .returned (.tuple #[]) ∧ FxM F0 w (fps [.row g0_ 144 [.int .i64 x0_.fault.first, v0_1], .sl v1_ 5 1 l1_.length (l1_.flatMap (eK .u8))]) F0 [.row g0_ 144 [.int .i64 x0_.fault.first, y], .sl y 5 1 r.length (r.flatMap (eK .u8))] w' := by
  have hk := hr; unfold zaX at hk; haveI := zcV (hO.own (.sl v1_ 5 1 l1_.length (l1_.flatMap (eK .u8))) (by simp)); have hmx1_ := zc0 (hO.own (.sl v1_ 5 1 l1_.length (l1_.flatMap (eK .u8))) (by simp)); obtain ⟨S0, F1, rfl, hS0, hp0⟩ := zbk hF0 hO hA; refine zao (hs := [.row g0_ 144 [.int .i64 x0_.fault.first, v0_1], .sl v1_ 5 1 l1_.length (l1_.flatMap (eK .u8)), .fr F1]) Tryz.func128 rfl rfl rfl hp0 ?_; refine T.seq (T.sr ?_); refine TL.run 1 rfl ?_; refine TL.y (Yv.bG 1 rfl rfl rfl) ?_; refine TL.run 1 rfl ?_; refine TL.ns ?_; refine T.cond rfl (fun h1 => ?_) (fun h1 => ?_)
  · have p1 := of_decide_eq_true h1; replace hk := zaa hk h1; refine T.seq ?_; cases hk
  · have p1 := of_decide_eq_false h1; replace hk := zab hk h1; refine T.skip (K.seq (T.region ?_)); refine TL.run 3 rfl ?_; refine TL.y (Yv.fieldAddr rfl rfl) ?_; refine TL.e0 (Ew.aA 0 rfl rfl rfl rfl (by simp)) ?_; rintro _ _ ⟨rfl, rfl⟩; refine TL.nil ?_; obtain rfl := Option.some.inj hk; exact K.aO rfl (fun w' hw => ⟨v1_, trivial, rfl, FxM.of (hw.pick (idx := [0, 1, 2]) rfl (by decide)) hS0 (Frz.Le.refl _)⟩)
def zbi (fuel : Nat) (x0_ : GWriter) (n : Int) : Option (List Int) :=
  (bif !(zaQ x0_) then
    some x0_.out
    else
    (bif decide (n < 0) then
      none
      else
      (zcl fuel x0_.out (BitVec.ofInt 64 n)).bind fun r20 =>
      (zaX x0_ r20).bind fun r21 =>
      some r21))
theorem zcr (F0 : Frz) (w : World) (hF0 : F0.At w) (x0_ : GWriter) (g0_ : Nat) (v0_1 : Value) (n : Int) (hO : Hp w (fps [.row g0_ 144 [.int .i64 x0_.fault.first, v0_1], .sl v0_1 5 1 x0_.out.length (x0_.out.flatMap (eK .u8))]) [.row g0_ 144 [.int .i64 x0_.fault.first, v0_1], .sl v0_1 5 1 x0_.out.length (x0_.out.flatMap (eK .u8))] w) (hA : ∀ g, fps [.row g0_ 144 [.int .i64 x0_.fault.first, v0_1], .sl v0_1 5 1 x0_.out.length (x0_.out.flatMap (eK .u8))] g → ¬ F0.S g) (fuel : Nat) (r : List Int) (hr : zbi fuel x0_ n = some r) : Calls Tryz.prog 99 #[.pointer (some ⟨g0_, 0, none⟩), .int .i64 n] w fun e w' => ∃ (y : Value), (True) ∧ e = .returned (.tuple #[]) ∧ FxM F0 w (fps [.row g0_ 144 [.int .i64 x0_.fault.first, v0_1], .sl v0_1 5 1 x0_.out.length (x0_.out.flatMap (eK .u8))]) F0 [.row g0_ 144 [.int .i64 x0_.fault.first, y], .sl y 5 1 r.length (r.flatMap (eK .u8))] w' := by
  have hk := hr; unfold zbi at hk; haveI := zcV (hO.own (.sl v0_1 5 1 x0_.out.length (x0_.out.flatMap (eK .u8))) (by simp)); have hmx0_1 := zc0 (hO.own (.sl v0_1 5 1 x0_.out.length (x0_.out.flatMap (eK .u8))) (by simp)); obtain ⟨S0, F1, rfl, hS0, hp0⟩ := zbk hF0 hO hA; refine zao (hs := [.row g0_ 144 [.int .i64 x0_.fault.first, v0_1], .sl v0_1 5 1 x0_.out.length (x0_.out.flatMap (eK .u8)), .fr F1]) Tryz.func99 rfl rfl rfl hp0 ?_; refine T.seq (T.sr ?_); refine TL.run 1 rfl ?_; refine TL.e (Ew.as [0, 1, 2] [.row g0_ 144 [.int .i64 x0_.fault.first, v0_1], .sl v0_1 5 1 x0_.out.length (x0_.out.flatMap (eK .u8))] [] rfl rfl rfl rfl (by decide) (fun w hw hw2 hF => zbM _ w hF x0_ g0_ v0_1 hw2.takes.1 hw2.takes.2)) ?_; rintro _ _ ⟨⟨⟩, -, rfl, rfl⟩; dsimp only [List.cons_append, List.nil_append]; refine TL.run 1 rfl ?_; refine TL.ns ?_; refine T.cond rfl (fun h1 => ?_) (fun h1 => ?_)
  · replace hk := zaa hk h1; refine T.ret (K.a ?_); obtain rfl := Option.some.inj hk; exact K.bE rfl (fun w' hw => ⟨v0_1, trivial, rfl, FxM.of (hw.pick (idx := [0, 1, 2]) rfl (by decide)) hS0 (Frz.Le.refl _)⟩)
  · replace hk := zab hk h1; refine T.skip (K.seq (T.seq (T.sr ?_))); refine TL.run 2 rfl ?_; refine TL.ns ?_; refine T.cond rfl (fun h2 => ?_) (fun h2 => ?_)
    · have p2 := of_decide_eq_true h2; replace hk := zaa hk h2; refine T.seq ?_; cases hk
    · have p2 := of_decide_eq_false h2; replace hk := zab hk h2; refine T.skip (K.seq ?_); have hq := zaf hk; clear hk; obtain ⟨r20, hr20, hk⟩ := hq; have hq := zaf hk; clear hk; obtain ⟨r21, hr21, hk⟩ := hq; (try dsimp only at hk); refine T.region ?_; refine TL.run 3 rfl ?_; refine TL.y (Yv.fieldAddr rfl rfl) ?_; refine TL.y (Yv.aa 0 rfl rfl rfl rfl) ?_; refine TL.run 1 rfl ?_; refine TL.y (Yv.aT (z := n) rfl rfl) ?_; refine TL.e (Ew.as [1, 2, 0] [.sl v0_1 5 1 x0_.out.length (x0_.out.flatMap (eK .u8))] [.row g0_ 144 [.int .i64 x0_.fault.first, v0_1]] rfl rfl rfl rfl (by decide) (fun w hw hw2 hF => zcP _ w hF x0_.out v0_1 (BitVec.ofInt 64 n) hw2.takes.1 hw2.takes.2 fuel r20 hr20)) ?_; rintro v20_0_0 _ ⟨_, -, rfl, rfl⟩; dsimp only [List.cons_append, List.nil_append]; refine TL.aC 0 rfl ?_; intro iv20_0_0 hmv20_0_0; refine TL.e (Ew.as [2, 0, 1] [.row g0_ 144 [.int .i64 x0_.fault.first, v0_1], .sl v20_0_0 5 1 r20.length (r20.flatMap (eK .u8))] [] rfl rfl rfl rfl (by decide) (fun w hw hw2 hF => zbF _ w hF x0_ g0_ v0_1 r20 v20_0_0 hw2.takes.1 hw2.takes.2 r21 hr21)) ?_; rintro _ _ ⟨v21_0_1, -, rfl, rfl⟩; dsimp only [List.cons_append, List.nil_append]; refine TL.aC 1 rfl ?_; intro iv21_0_1 hmv21_0_1; refine TL.nil ?_; obtain rfl := Option.some.inj hk; exact K.aO rfl (fun w' hw => ⟨v21_0_1, trivial, rfl, FxM.of (hw.pick (idx := [0, 1, 2]) rfl (by decide)) hS0 (Frz.Le.refl _)⟩)
def zbr (fuel : Nat) (x0_ : GWriter) (n : Int) : Option (List Int) :=
  (bif (zaQ x0_) then
    (zcT fuel x0_.out n).bind fun r12 =>
    (zaX x0_ r12).bind fun r13 =>
    some r13
    else
    some x0_.out)
theorem zcv (F0 : Frz) (w : World) (hF0 : F0.At w) (x0_ : GWriter) (g0_ : Nat) (v0_1 : Value) (n : Int) (hO : Hp w (fps [.row g0_ 144 [.int .i64 x0_.fault.first, v0_1], .sl v0_1 5 1 x0_.out.length (x0_.out.flatMap (eK .u8))]) [.row g0_ 144 [.int .i64 x0_.fault.first, v0_1], .sl v0_1 5 1 x0_.out.length (x0_.out.flatMap (eK .u8))] w) (hA : ∀ g, fps [.row g0_ 144 [.int .i64 x0_.fault.first, v0_1], .sl v0_1 5 1 x0_.out.length (x0_.out.flatMap (eK .u8))] g → ¬ F0.S g) (fuel : Nat) (r : List Int) (hr : zbr fuel x0_ n = some r) : Calls Tryz.prog 100 #[.pointer (some ⟨g0_, 0, none⟩), .int .i64 n] w fun e w' => ∃ (y : Value), (True) ∧ e = .returned (.tuple #[]) ∧ FxM F0 w (fps [.row g0_ 144 [.int .i64 x0_.fault.first, v0_1], .sl v0_1 5 1 x0_.out.length (x0_.out.flatMap (eK .u8))]) F0 [.row g0_ 144 [.int .i64 x0_.fault.first, y], .sl y 5 1 r.length (r.flatMap (eK .u8))] w' := by
  have hk := hr; unfold zbr at hk; haveI := zcV (hO.own (.sl v0_1 5 1 x0_.out.length (x0_.out.flatMap (eK .u8))) (by simp)); have hmx0_1 := zc0 (hO.own (.sl v0_1 5 1 x0_.out.length (x0_.out.flatMap (eK .u8))) (by simp)); obtain ⟨S0, F1, rfl, hS0, hp0⟩ := zbk hF0 hO hA; refine zao (hs := [.row g0_ 144 [.int .i64 x0_.fault.first, v0_1], .sl v0_1 5 1 x0_.out.length (x0_.out.flatMap (eK .u8)), .fr F1]) Tryz.func100 rfl rfl rfl hp0 ?_; refine T.sr ?_; refine TL.run 1 rfl ?_; refine TL.e (Ew.as [0, 1, 2] [.row g0_ 144 [.int .i64 x0_.fault.first, v0_1], .sl v0_1 5 1 x0_.out.length (x0_.out.flatMap (eK .u8))] [] rfl rfl rfl rfl (by decide) (fun w hw hw2 hF => zbM _ w hF x0_ g0_ v0_1 hw2.takes.1 hw2.takes.2)) ?_; rintro _ _ ⟨⟨⟩, -, rfl, rfl⟩; dsimp only [List.cons_append, List.nil_append]; refine TL.ns ?_; refine T.cond rfl (fun h1 => ?_) (fun h1 => ?_)
  · replace hk := zaa hk h1; have hq := zaf hk; clear hk; obtain ⟨r12, hr12, hk⟩ := hq; have hq := zaf hk; clear hk; obtain ⟨r13, hr13, hk⟩ := hq; (try dsimp only at hk); refine T.region ?_; refine TL.run 3 rfl ?_; refine TL.y (Yv.fieldAddr rfl rfl) ?_; refine TL.y (Yv.aa 0 rfl rfl rfl rfl) ?_; refine TL.run 1 rfl ?_; refine TL.e (Ew.as [1, 2, 0] [.sl v0_1 5 1 x0_.out.length (x0_.out.flatMap (eK .u8))] [.row g0_ 144 [.int .i64 x0_.fault.first, v0_1]] rfl rfl rfl rfl (by decide) (fun w hw hw2 hF => zeI _ w hF x0_.out v0_1 n hw2.takes.1 hw2.takes.2 fuel r12 hr12)) ?_; rintro v12_0_0 _ ⟨_, -, rfl, rfl⟩; dsimp only [List.cons_append, List.nil_append]; refine TL.aC 0 rfl ?_; intro iv12_0_0 hmv12_0_0; refine TL.e (Ew.as [2, 0, 1] [.row g0_ 144 [.int .i64 x0_.fault.first, v0_1], .sl v12_0_0 5 1 r12.length (r12.flatMap (eK .u8))] [] rfl rfl rfl rfl (by decide) (fun w hw hw2 hF => zbF _ w hF x0_ g0_ v0_1 r12 v12_0_0 hw2.takes.1 hw2.takes.2 r13 hr13)) ?_; rintro _ _ ⟨v13_0_1, -, rfl, rfl⟩; dsimp only [List.cons_append, List.nil_append]; refine TL.aC 1 rfl ?_; intro iv13_0_1 hmv13_0_1; refine TL.nil ?_; obtain rfl := Option.some.inj hk; exact K.aO rfl (fun w' hw => ⟨v13_0_1, trivial, rfl, FxM.of (hw.pick (idx := [0, 1, 2]) rfl (by decide)) hS0 (Frz.Le.refl _)⟩)
  · replace hk := zab hk h1; refine T.skip ?_; obtain rfl := Option.some.inj hk; exact K.aO rfl (fun w' hw => ⟨v0_1, trivial, rfl, FxM.of (hw.pick (idx := [0, 1, 2]) rfl (by decide)) hS0 (Frz.Le.refl _)⟩)
def zbq (x0_ : GWriter) : Option (List Int × Int) :=
  (bif decide (¬ x0_.fault.first = 0) then
    some ([], x0_.fault.first)
    else
    grd (room ([] ++ x0_.out).length 1) <|
    some (([] ++ x0_.out), 0))
theorem zcy (F0 : Frz) (w : World) (hF0 : F0.At w) (x0_ : GWriter) (g0_ : Nat) (v0_1 : Value) (hO : Hp w (fps [.row g0_ 144 [.int .i64 x0_.fault.first, v0_1], .sl v0_1 5 1 x0_.out.length (x0_.out.flatMap (eK .u8))]) [.row g0_ 144 [.int .i64 x0_.fault.first, v0_1], .sl v0_1 5 1 x0_.out.length (x0_.out.flatMap (eK .u8))] w) (hA : ∀ g, fps [.row g0_ 144 [.int .i64 x0_.fault.first, v0_1], .sl v0_1 5 1 x0_.out.length (x0_.out.flatMap (eK .u8))] g → ¬ F0.S g) (r : List Int × Int) (hr : zbq x0_ = some r) : Calls Tryz.prog 101 #[.pointer (some ⟨g0_, 0, none⟩)] w fun e w' => ∃ (y : Value) (G : Frz), (SlC G y 1 (r.1.map (eK .u8))) ∧ e = .returned (.tuple #[y, .int .i64 r.2]) ∧ FxM F0 w (fps [.row g0_ 144 [.int .i64 x0_.fault.first, v0_1], .sl v0_1 5 1 x0_.out.length (x0_.out.flatMap (eK .u8))]) G [.row g0_ 144 [.int .i64 x0_.fault.first, v0_1], .sl v0_1 5 1 x0_.out.length (x0_.out.flatMap (eK .u8))] w' := by
  have hk := hr; unfold zbq at hk; haveI := zcV (hO.own (.sl v0_1 5 1 x0_.out.length (x0_.out.flatMap (eK .u8))) (by simp)); have hmx0_1 := zc0 (hO.own (.sl v0_1 5 1 x0_.out.length (x0_.out.flatMap (eK .u8))) (by simp)); obtain ⟨S0, F1, rfl, hS0, hp0⟩ := zbk hF0 hO hA; refine zao (hs := [.row g0_ 144 [.int .i64 x0_.fault.first, v0_1], .sl v0_1 5 1 x0_.out.length (x0_.out.flatMap (eK .u8)), .fr F1]) Tryz.func101 rfl rfl rfl hp0 ?_; refine T.sr ?_; refine TL.run 1 rfl ?_; refine TL.slNil 5 1 ?_; refine TL.run 1 rfl ?_; refine TL.ns (T.seq (T.sr ?_)); refine TL.run 1 rfl ?_; refine TL.y (Yv.bz (e := 144) (by kernel_rfl) rfl rfl rfl) ?_; refine TL.ns ?_; refine T.be rfl rfl ?_; refine T.skip (K.seq (T.seq (T.sr ?_))); refine TL.run 2 rfl ?_; refine TL.y (Yv.fieldAddr rfl rfl) ?_; refine TL.y (Yv.fieldAddr rfl rfl) ?_; refine TL.y (Yv.aa 1 rfl rfl rfl rfl) ?_; refine TL.run 1 rfl ?_; refine TL.ns ?_; refine T.cond rfl (fun h1 => ?_) (fun h1 => ?_)
  · have p1 := of_decide_eq_true h1; replace hk := zaa hk h1; refine T.seq ?_; refine T.au (.still 0 (.still 1 (.still 2 (.still 3 (.still 4 (.still 5 (.still 6 .done))))))) _ (by kernel_rfl) (List.Sublist.refl _) ?_; refine TS.run 2 rfl ?_; refine TS.y rfl (Yv.fieldAddr rfl rfl) ?_; refine TS.y rfl (Yv.fieldAddr rfl rfl) ?_; refine TS.y rfl (Yv.aa 1 rfl rfl rfl rfl) ?_; refine TS.run 1 rfl ?_; refine TS.slNil 5 1 ?_; refine TS.run 1 rfl ?_; refine TS.done ?_; refine K.seq (T.ret (K.a ?_)); refine K.ay (fun w hw => hw.freezeS (i := 4) (j := 0) (by decide) rfl rfl) ?_; rintro F2 ⟨le1_2, hz2⟩; dsimp only [List.set, List.eraseIdx]; have hf2 : SlC F2.toFrz (.slice none 0 0) 1 (([] : List Int).map (eK .u8)) := hz2.toF (xs := []) rfl (fun _ => rfl); haveI := hf2.oneC; obtain rfl := Option.some.inj hk; exact K.aL rfl rfl rfl (fun w' hw => ⟨(.slice none 0 0), F2.toFrz, hf2, rfl, FxM.of (hw.pick (idx := [1, 2, 3]) rfl (by decide)) hS0 le1_2⟩)
  · have p1 := of_decide_eq_false h1; replace hk := zab hk h1; refine T.skip (K.seq (T.seq ?_)); have hq : (room ([] ++ x0_.out).length 1) ∧ _ := zaB hk; clear hk; obtain ⟨g21, hk⟩ := hq; (try dsimp only at hk); refine T.region ?_; refine TL.run 2 rfl ?_; refine TL.y (Yv.fieldAddr rfl rfl) ?_; refine TL.y (Yv.aa 1 rfl rfl rfl rfl) ?_; refine TL.slNil 5 1 ?_; refine TL.e (Ew.bj 0 3 (zgi (fun _ => inferInstance)) rfl rfl rfl rfl rfl (zgu ([] : List Int) x0_.out) (zfN (enc := (eK .u8)) ([] : List Int) x0_.out) g21 (by decide)) ?_; rintro v21 _ ⟨hv21, rfl⟩; refine TL.run 2 rfl ?_; refine TL.ns (T.ret ?_); refine K.ay (fun w hw => hw.freezeS (i := 4) (j := 0) (by decide) rfl rfl) ?_; rintro F3 ⟨le1_3, hz3⟩; dsimp only [List.set, List.eraseIdx]; have hf3 := hz3.toF rfl (fun _ => rfl); haveI := hf3.oneC; obtain rfl := Option.some.inj hk; exact K.aL rfl rfl rfl (fun w' hw => ⟨v21, F3.toFrz, hf3, rfl, FxM.of (hw.pick (idx := [1, 2, 3]) rfl (by decide)) hS0 le1_3⟩)
def zaM (fuel : Nat) (l : List Int) (xf0_ : GWriter) : Option (List Int) :=
  zah (fun (i_3 : Nat) (next2 : List Int → Option (List Int)) (c_1 : List Int) =>
    (zbi fuel (GWriter.mk (Gfault.mk xf0_.fault.first) c_1) (nth l i_3)).bind fun r12 =>
    next2 r12)
  (fun (c_1 : List Int) =>
    some c_1) (l.length - 0) 0 xf0_.out
theorem zaW (F0 : Frz) (w : World) (hF0 : F0.At w) (l : List Int) (vl : Value) (hl : SlC F0 vl 1 (l.map eI)) (xf0_ : GWriter) (gf0_ : Nat) (vf0_1 : Value) (hO : Hp w (fps [.row gf0_ 144 [.int .i64 xf0_.fault.first, vf0_1], .sl vf0_1 5 1 xf0_.out.length (xf0_.out.flatMap (eK .u8))]) [.row gf0_ 144 [.int .i64 xf0_.fault.first, vf0_1], .sl vf0_1 5 1 xf0_.out.length (xf0_.out.flatMap (eK .u8))] w) (hA : ∀ g, fps [.row gf0_ 144 [.int .i64 xf0_.fault.first, vf0_1], .sl vf0_1 5 1 xf0_.out.length (xf0_.out.flatMap (eK .u8))] g → ¬ F0.S g) (fuel : Nat) (r : List Int) (hr : zaM fuel l xf0_ = some r) : Calls Tryz.prog 98 #[vl, .pointer (some ⟨gf0_, 0, none⟩)] w fun e w' => ∃ (y : Value), (True) ∧ e = .returned (.tuple #[]) ∧ FxM F0 w (fps [.row gf0_ 144 [.int .i64 xf0_.fault.first, vf0_1], .sl vf0_1 5 1 xf0_.out.length (xf0_.out.flatMap (eK .u8))]) F0 [.row gf0_ 144 [.int .i64 xf0_.fault.first, y], .sl y 5 1 r.length (r.flatMap (eK .u8))] w' := by
  have hk := hr; unfold zaM at hk; haveI := hl.oneC; haveI := zcV (hO.own (.sl vf0_1 5 1 xf0_.out.length (xf0_.out.flatMap (eK .u8))) (by simp)); have hmxf0_1 := zc0 (hO.own (.sl vf0_1 5 1 xf0_.out.length (xf0_.out.flatMap (eK .u8))) (by simp)); obtain ⟨S0, F1, rfl, hS0, hp0⟩ := zbk hF0 hO hA; refine zao (hs := [.row gf0_ 144 [.int .i64 xf0_.fault.first, vf0_1], .sl vf0_1 5 1 xf0_.out.length (xf0_.out.flatMap (eK .u8)), .fr F1]) Tryz.func98 rfl rfl rfl hp0 ?_; refine T.sr ?_; refine TL.run 1 rfl ?_; refine TL.y (Yv.al rfl rfl hl (List.length_map _)) ?_; have hm6 : l.length ≤ 9223372036854775807 := (List.length_map _) ▸ hl.max; refine TL.run 1 rfl ?_; refine TL.ns ?_; have hq := zaj hk; clear hk; obtain ⟨f2, kk2, hf2, hkk2, hk⟩ := hq; refine T.block ?_; refine T.pick [1, 0, 2] rfl (by decide) ?_; refine T.loop (ι := Nat × List Int × Value) (fun z => [(1, .pointer (some ⟨gf0_, 0, none⟩)), (5, vl), (6, .int .i64 (l.length : Int)), (7, .int .i64 (z.1 : Int))]) (fun z => [.sl z.2.2 5 1 z.2.1.length (z.2.1.flatMap (eK .u8)), .row gf0_ 144 [.int .i64 xf0_.fault.first, z.2.2], .fr F1]) (fun z => zah f2 kk2 (l.length - z.1) z.1 z.2.1 = some r ∧ OneC z.2.2) (fun z => l.length - z.1) (0, xf0_.out, vf0_1) ?_ ?_ ?_ ?_
  · exact ⟨hk, inferInstance⟩
  · exact (.c (.c (.c (.c .nil))))
  · exact List.Sublist.refl _
  · rintro ⟨i_3, c_1, vc_1⟩ ⟨hk, oc_1⟩; (try dsimp only at *); refine T.sr ?_; refine TL.run 1 rfl ?_; refine TL.ns (T.seq ?_); refine T.cond rfl (fun h4 => ?_) (fun h4 => ?_)
    · have p4 := of_decide_eq_true h4; rw [zaq (by omega)] at hk; generalize hn2 : zah f2 kk2 (l.length - (i_3 + 1)) (i_3 + 1) = next2 at hk; rw [← hf2] at hk; (try dsimp only at hk); refine T.skip (K.seq (T.seq (T.block (T.sr ?_)))); refine TL.y (Yv.ak (i := i_3) rfl rfl rfl hl (List.length_map _) rfl (by omega)) ?_; refine TL.y (Yv.aq 2 (i := i_3) (j := 0) rfl rfl rfl hl (by omega) rfl rfl) ?_; refine TL.run 1 rfl ?_; refine TL.ns ?_; have hq := zaf hk; clear hk; obtain ⟨r12, hr12, hk⟩ := hq; (try dsimp only at hk); refine T.region ?_; refine TL.run 1 rfl ?_; refine TL.e (Ew.as [1, 0, 2] [.row gf0_ 144 [.int .i64 xf0_.fault.first, vc_1], .sl vc_1 5 1 c_1.length (c_1.flatMap (eK .u8))] [] rfl rfl rfl rfl (by decide) (fun w hw hw2 hF => zcr _ w hF (GWriter.mk (Gfault.mk xf0_.fault.first) c_1) gf0_ vc_1 (nth l i_3) hw2.takes.1 hw2.takes.2 fuel r12 hr12)) ?_; rintro _ _ ⟨v12_0_1, -, rfl, rfl⟩; dsimp only [List.cons_append, List.nil_append]; refine TL.aC 1 rfl ?_; intro iv12_0_1 hmv12_0_1; refine TL.nil (K.ac (K.seq (T.region ?_))); refine TL.y (Yv.ao rfl rfl rfl (by omega)) ?_; refine TL.run 1 rfl ?_; refine TL.nil ?_; rw [← hn2] at hk; refine K.pick [1, 0, 2] rfl (by decide) ?_; exact K.next ((i_3 + 1), r12, v12_0_1) ⟨hk, inferInstance⟩ (by dsimp only; omega) (.c (.c (.c (.c .nil)))) (List.Sublist.refl _)
    · have p4 := of_decide_eq_false h4; rw [zar (by omega), ← hkk2] at hk; (try dsimp only at hk); refine T.exit (K.ab (K.ab (K.ad ?_))); obtain rfl := Option.some.inj hk; exact K.aO rfl (fun w' hw => ⟨vc_1, trivial, rfl, FxM.of (hw.pick (idx := [1, 0, 2]) rfl (by decide)) hS0 (Frz.Le.refl _)⟩)
def zcw (fuel : Nat) (p : GProblem) : Option (List Int × Int) :=
  (zba p).bind fun r18 =>
  (bif !r18 then
    some ([], 2)
    else
    (zaM fuel [(p.Domains.length : Int)] (GWriter.mk (Gfault.mk 0) [])).bind fun r26 =>
    zaI (fun (c_2 : List Int) =>
      (zaM fuel [(p.Rules.Pairs.length : Int)] (GWriter.mk (Gfault.mk 0) c_2)).bind fun r60 =>
      zaI (fun (c_14 : List Int) =>
        (zaM fuel [(p.Rules.Loads.length : Int)] (GWriter.mk (Gfault.mk 0) c_14)).bind fun r93 =>
        zaI (fun (c_20 : List Int) =>
          (zaM fuel [(p.Rules.Caps.length : Int)] (GWriter.mk (Gfault.mk 0) c_20)).bind fun r122 =>
          zaI (fun (c_26 : List Int) =>
            (zbq (GWriter.mk (Gfault.mk 0) c_26)).bind fun r143 =>
            some (r143.1, r143.2))
          (fun k27 =>
            zah (fun (i_30 : Nat) (next29 : List Int → Option (List Int × Int)) (c_28 : List Int) =>
              (zaM fuel [(nth p.Rules.Caps i_30).Station, (nth p.Rules.Caps i_30).Max, (nth p.Rules.Caps i_30).Low, (nth p.Rules.Caps i_30).High] (GWriter.mk (Gfault.mk 0) c_28)).bind fun r141 =>
              next29 r141)
            (fun (c_28 : List Int) =>
              k27 c_28) (p.Rules.Caps.length - 0) 0 r122))
        (fun k21 =>
          zah (fun (i_24 : Nat) (next23 : List Int → Option (List Int × Int)) (c_22 : List Int) =>
            (zaM fuel [(nth p.Rules.Loads i_24).To, (nth p.Rules.Loads i_24).From, (nth p.Rules.Loads i_24).Weight, (nth p.Rules.Loads i_24).Low, (nth p.Rules.Loads i_24).High] (GWriter.mk (Gfault.mk 0) c_22)).bind fun r114 =>
            next23 r114)
          (fun (c_22 : List Int) =>
            k21 c_22) (p.Rules.Loads.length - 0) 0 r93))
      (fun k15 =>
        zah (fun (i_18 : Nat) (next17 : List Int → Option (List Int × Int)) (c_16 : List Int) =>
          (zaM fuel [(nth p.Rules.Pairs i_18).A, (nth p.Rules.Pairs i_18).B] (GWriter.mk (Gfault.mk 0) c_16)).bind fun r75 =>
          (zbr fuel (GWriter.mk (Gfault.mk 0) r75) ((nth p.Rules.Pairs i_18).Offset)).bind fun r78 =>
          (zaM fuel [(nth p.Rules.Pairs i_18).Low, (nth p.Rules.Pairs i_18).High] (GWriter.mk (Gfault.mk 0) r78)).bind fun r85 =>
          next17 r85)
        (fun (c_16 : List Int) =>
          k15 c_16) (p.Rules.Pairs.length - 0) 0 r60))
    (fun k3 =>
      zah (fun (i_6 : Nat) (next5 : List Int → Option (List Int × Int)) (c_4 : List Int) =>
        zaI (fun (set_8 : Int) =>
          (zaM fuel [(nth p.Domains i_6).Station, set_8] (GWriter.mk (Gfault.mk 0) c_4)).bind fun r52 =>
          next5 r52)
        (fun k9 =>
          zah (fun (i_12 : Nat) (next11 : Int → Option (List Int × Int)) (set_10 : Int) =>
            grd (0 ≤ wI ((nth ((nth p.Domains i_6).Channels) i_12) - 2)) <|
            next11 (orK .i64 set_10 (shlK .i64 1 (wI ((nth ((nth p.Domains i_6).Channels) i_12) - 2)))))
          (fun (set_10 : Int) =>
            k9 set_10) ((((nth p.Domains i_6).Channels).length) - 0) 0 0))
      (fun (c_4 : List Int) =>
        k3 c_4) (p.Domains.length - 0) 0 r26))
theorem zdZ (F0 : Frz) (w : World) (hF0 : F0.At w) (p : GProblem) (vp_0 : Value) (cp_0 : List (List Value)) (hp_0 : SlD GDomain.rep F0 vp_0 2 cp_0 p.Domains) (vp_1 : Value) (hp_1 : SlC F0 vp_1 5 (p.Rules.Pairs.map GPair.enc)) (vp_2 : Value) (hp_2 : SlC F0 vp_2 5 (p.Rules.Loads.map GLoad.enc)) (vp_3 : Value) (hp_3 : SlC F0 vp_3 4 (p.Rules.Caps.map GCap.enc)) (fuel : Nat) (r : List Int × Int) (hr : zcw fuel p = some r) : Calls Tryz.prog 31 #[.agg [vp_0, vp_1, vp_2, vp_3].toArray] w fun e w' => ∃ (y : Value) (G : Frz), (SlC G y 1 (r.1.map (eK .u8))) ∧ e = .returned (.tuple #[y, .int .i64 r.2]) ∧ Fx F0 w G w' := by
  have hk := hr; unfold zcw at hk; haveI := hp_0.1.oneC; haveI := hp_1.oneC; haveI := hp_2.oneC; haveI := hp_3.oneC; obtain ⟨S0, F1, rfl, hS0, hp0⟩ := zak hF0; refine zao Tryz.func31 rfl rfl rfl hp0 ?_; refine T.sr ?_; refine TL.e (Ew.aw rfl rfl) ?_; rintro _ _ ⟨g1, rfl, rfl⟩; refine TL.run 2 rfl ?_; refine TL.ns (T.seq (T.seq ?_)); have hq := zaf hk; clear hk; obtain ⟨r18, hr18, hk⟩ := hq; (try dsimp only at hk); refine T.region ?_; refine TL.y (Yv.am 0 rfl rfl rfl rfl) ?_; refine TL.e (Ew.ae rfl rfl rfl (fun w hw => zb2 _ w (hw.fr (i := 1) rfl) p vp_0 cp_0 hp_0 vp_1 hp_1 vp_2 hp_2 vp_3 hp_3 r18 hr18)) ?_; rintro _ _ ⟨rfl, rfl⟩; refine TL.run 1 rfl ?_; refine TL.ns ?_; refine T.cond rfl (fun h1 => ?_) (fun h1 => ?_)
  · replace hk := zaa hk h1; refine T.sr ?_; refine TL.run 2 rfl ?_; refine TL.ns (T.ret (K.a ?_)); obtain rfl := Option.some.inj hk; exact K.aL rfl rfl rfl (fun w' hw => ⟨(.slice none 0 0), F1.toFrz, (SlC.nil _ 1), rfl, Fx.of hw (i := 1) rfl hS0 (Frz.Le.refl _)⟩)
  · replace hk := zab hk h1; refine T.skip (K.seq (T.sr ?_)); refine TL.e (Ew.alloc rfl) ?_; rintro _ _ ⟨g4, rfl, rfl⟩; refine TL.slNil 5 1 ?_; refine TL.nx ?_; refine TL.run 2 rfl ?_; refine TL.ns (T.seq ?_); have hq := zaf hk; clear hk; obtain ⟨r26, hr26, hk⟩ := hq; (try dsimp only at hk); refine T.region ?_; refine TL.run 1 rfl ?_; refine TL.y (Yv.fieldAddr rfl rfl) ?_; refine TL.y (Yv.aa 2 rfl rfl rfl rfl) ?_; refine TL.y (Yv.al rfl rfl hp_0.1 hp_0.2.1) ?_; have hm24 : p.Domains.length ≤ 9223372036854775807 := hp_0.2.1 ▸ hp_0.1.max; refine TL.e (Ew.buildSlice rfl rfl rfl (by decide)) ?_; rintro _ _ ⟨g25, rfl, rfl⟩; refine TL.ay (fun w hw => hw.freezeR (i := 4) (j := 0) (by decide) rfl rfl) ?_; rintro F2 ⟨le1_2, hz2⟩; dsimp only [List.set, List.eraseIdx]; have hf2 : SlC F2.toFrz (.slice (some ⟨g25, 0, none⟩) 1 1) 1 ([(p.Domains.length : Int)].map eI) := (SlK.lit hz2 rfl (Nat.le_refl _) (by decide)).toF (xs := [(p.Domains.length : Int)]) rfl (fun _ => rfl); refine TL.e (Ew.as [1, 0, 3, 2] [.row g4 144 [.int .i64 0, (.slice none 0 0)], .sl (.slice none 0 0) 5 1 ([] : List Int).length ([].flatMap (eK .u8))] [.row g1 29 [vp_0, vp_1, vp_2, vp_3]] rfl rfl rfl rfl (by decide) (fun w hw hw2 hF => zaW _ w hF [(p.Domains.length : Int)] (.slice (some ⟨g25, 0, none⟩) 1 1) hf2 (GWriter.mk (Gfault.mk 0) []) g4 (.slice none 0 0) hw2.takes.1 hw2.takes.2 fuel r26 hr26)) ?_; rintro _ _ ⟨v26_0_1, -, rfl, rfl⟩; dsimp only [List.cons_append, List.nil_append]; refine TL.aC 1 rfl ?_; intro iv26_0_1 hmv26_0_1; refine TL.ns (T.seq (T.sr ?_)); refine TL.y (Yv.fieldAddr rfl rfl) ?_; refine TL.y (Yv.aa 3 rfl rfl rfl rfl) ?_; refine TL.y (Yv.al rfl rfl (SlD.mono (rep := GDomain.rep) (fun _ _ _ _ => GDomain.mono) hp_0 le1_2).1 (SlD.mono (rep := GDomain.rep) (fun _ _ _ _ => GDomain.mono) hp_0 le1_2).2.1) ?_; refine TL.run 1 rfl ?_; refine TL.ns ?_; have hq := zae hk; clear hk; obtain ⟨k3, hk3, hk⟩ := hq; (try dsimp only at hk); refine T.ah (ι := List Int × Value × FzB w (fun _ => False) S0) (fun z => [(1, .pointer (some ⟨g1, 0, none⟩)), (4, .pointer (some ⟨g4, 0, none⟩)), (5, .func (.func 98) #[] #[.pointer (some ⟨g4, 0, none⟩)])]) (fun z => [.sl z.2.1 5 1 z.1.length (z.1.flatMap (eK .u8)), .row g4 144 [.int .i64 0, z.2.1], .row g1 29 [vp_0, vp_1, vp_2, vp_3], .fr z.2.2]) (fun z => k3 z.1 = some r ∧ OneC z.2.1 ∧ F2.toFrz.Le z.2.2.toFrz) ?_ ?_
    · have hq := zaj hk; clear hk; obtain ⟨f5, kk5, hf5, hkk5, hk⟩ := hq; refine T.block ?_; refine T.pick [1, 0, 3, 2] rfl (by decide) ?_; refine T.loop (ι := Nat × List Int × Value × FzB w (fun _ => False) S0) (fun z => [(1, .pointer (some ⟨g1, 0, none⟩)), (4, .pointer (some ⟨g4, 0, none⟩)), (5, .func (.func 98) #[] #[.pointer (some ⟨g4, 0, none⟩)]), (28, vp_0), (29, .int .i64 (p.Domains.length : Int)), (30, .int .i64 (z.1 : Int))]) (fun z => [.sl z.2.2.1 5 1 z.2.1.length (z.2.1.flatMap (eK .u8)), .row g4 144 [.int .i64 0, z.2.2.1], .row g1 29 [vp_0, vp_1, vp_2, vp_3], .fr z.2.2.2]) (fun z => zah f5 kk5 (p.Domains.length - z.1) z.1 z.2.1 = some r ∧ OneC z.2.2.1 ∧ F2.toFrz.Le z.2.2.2.toFrz) (fun z => p.Domains.length - z.1) (0, r26, v26_0_1, F2) ?_ ?_ ?_ ?_
      · exact ⟨hk, inferInstance, (Frz.Le.refl _)⟩
      · exact (.c (.c (.c (.c (.c (.c .nil))))))
      · exact List.Sublist.refl _
      · rintro ⟨i_6, c_4, vc_4, F4⟩ ⟨hk, oc_4, le2_4⟩; (try dsimp only at *); have le1_4 := le1_2.trans le2_4; refine T.sr ?_; refine TL.run 1 rfl ?_; refine TL.ns (T.seq ?_); refine T.cond rfl (fun h7 => ?_) (fun h7 => ?_)
        · have p7 := of_decide_eq_true h7; rw [zaq (by omega)] at hk; generalize hn5 : zah f5 kk5 (p.Domains.length - (i_6 + 1)) (i_6 + 1) = next5 at hk; rw [← hf5] at hk; (try dsimp only at hk); refine T.skip (K.seq (T.seq (T.block (T.sr ?_)))); refine TL.y (Yv.ak (i := i_6) rfl rfl rfl (SlD.mono (rep := GDomain.rep) (fun _ _ _ _ => GDomain.mono) hp_0 le1_4).1 (SlD.mono (rep := GDomain.rep) (fun _ _ _ _ => GDomain.mono) hp_0 le1_4).2.1 rfl (by omega)) ?_; refine TL.y (Yv.aF 3 (i := i_6) (j := 0) rfl rfl rfl (SlD.mono (rep := GDomain.rep) (fun _ _ _ _ => GDomain.mono) hp_0 le1_4).1 (SlD.mono (rep := GDomain.rep) (fun _ _ _ _ => GDomain.mono) hp_0 le1_4).2.1 (by omega) rfl (GDomain.form ((SlD.mono (rep := GDomain.rep) (fun _ _ _ _ => GDomain.mono) hp_0 le1_4).2.2 i_6 (by omega))) rfl) ?_; have hd33_1 := (GDomain.c1 ((SlD.mono (rep := GDomain.rep) (fun _ _ _ _ => GDomain.mono) hp_0 le1_4).2.2 i_6 (by omega))).2; haveI := hd33_1.oneC; refine TL.e (Ew.alloc rfl) ?_; rintro _ _ ⟨g7, rfl, rfl⟩; refine TL.e0 (Ew.ai 0 rfl rfl rfl rfl rfl rfl) ?_; rintro _ _ ⟨rfl, rfl⟩; refine TL.nx ?_; refine TL.run 1 rfl ?_; refine TL.ns (T.seq (T.sr ?_)); refine TL.y (Yv.fieldAddr rfl rfl) ?_; refine TL.y (Yv.aa 0 rfl rfl rfl rfl) ?_; refine TL.y (Yv.al rfl rfl hd33_1 (List.length_map _)) ?_; have hm36 : ((nth p.Domains i_6).Channels).length ≤ 9223372036854775807 := (List.length_map _) ▸ hd33_1.max; refine TL.run 1 rfl ?_; refine TL.ns ?_; have hq := zae hk; clear hk; obtain ⟨k9, hk9, hk⟩ := hq; (try dsimp only at hk); refine T.ah (ι := Int) (fun z => [(1, .pointer (some ⟨g1, 0, none⟩)), (4, .pointer (some ⟨g4, 0, none⟩)), (5, .func (.func 98) #[] #[.pointer (some ⟨g4, 0, none⟩)]), (7, .pointer (some ⟨g7, 0, none⟩)), (8, .int .i64 z), (28, vp_0), (29, .int .i64 (p.Domains.length : Int)), (30, .int .i64 (i_6 : Int))]) (fun z => [.row g7 66 [.int .i64 ((nth p.Domains i_6).Station), (nth (nth cp_0 i_6) 1)], .sl vc_4 5 1 c_4.length (c_4.flatMap (eK .u8)), .row g4 144 [.int .i64 0, vc_4], .row g1 29 [vp_0, vp_1, vp_2, vp_3], .fr F4]) (fun z => k9 z = some r) ?_ ?_
          · have hq := zaj hk; clear hk; obtain ⟨f11, kk11, hf11, hkk11, hk⟩ := hq; refine T.block ?_; refine T.loop (ι := Nat × Int) (fun z => [(1, .pointer (some ⟨g1, 0, none⟩)), (4, .pointer (some ⟨g4, 0, none⟩)), (5, .func (.func 98) #[] #[.pointer (some ⟨g4, 0, none⟩)]), (7, .pointer (some ⟨g7, 0, none⟩)), (8, .int .i64 z.2), (28, vp_0), (29, .int .i64 (p.Domains.length : Int)), (30, .int .i64 (i_6 : Int)), (35, (nth (nth cp_0 i_6) 1)), (36, .int .i64 (((nth p.Domains i_6).Channels).length : Int)), (37, .int .i64 (z.1 : Int))]) (fun z => [.row g7 66 [.int .i64 ((nth p.Domains i_6).Station), (nth (nth cp_0 i_6) 1)], .sl vc_4 5 1 c_4.length (c_4.flatMap (eK .u8)), .row g4 144 [.int .i64 0, vc_4], .row g1 29 [vp_0, vp_1, vp_2, vp_3], .fr F4]) (fun z => zah f11 kk11 ((((nth p.Domains i_6).Channels).length) - z.1) z.1 z.2 = some r) (fun z => (((nth p.Domains i_6).Channels).length) - z.1) (0, 0) ?_ ?_ ?_ ?_
            · exact hk
            · exact (.c (.c (.c (.c (.c (.c (.c (.c (.c (.c (.c .nil)))))))))))
            · exact List.Sublist.refl _
            · rintro ⟨i_12, set_10⟩ hk; (try dsimp only at *); refine T.sr ?_; refine TL.run 1 rfl ?_; refine TL.ns (T.seq ?_); refine T.cond rfl (fun h13 => ?_) (fun h13 => ?_)
              · have p13 := of_decide_eq_true h13; rw [zaq (by omega)] at hk; generalize hn11 : zah f11 kk11 ((((nth p.Domains i_6).Channels).length) - (i_12 + 1)) (i_12 + 1) = next11 at hk; rw [← hf11] at hk; (try dsimp only at hk); refine T.skip (K.seq (T.seq (T.block (T.sr ?_)))); refine TL.y (Yv.ak (i := i_12) rfl rfl rfl hd33_1 (List.length_map _) rfl (by omega)) ?_; refine TL.y (Yv.aq 4 (i := i_12) (j := 0) rfl rfl rfl hd33_1 (by omega) rfl rfl) ?_; refine TL.run 1 rfl ?_; refine TL.ns ?_; have hq : (0 ≤ wI ((nth ((nth p.Domains i_6).Channels) i_12) - 2)) ∧ _ := zaB hk; clear hk; obtain ⟨g44, hk⟩ := hq; (try dsimp only at hk); refine T.region ?_; refine TL.run 3 rfl ?_; refine TL.y (Yv.shlK (a := 1) (b := wI ((nth ((nth p.Domains i_6).Channels) i_12) - 2)) rfl rfl rfl g44) ?_; refine TL.y (Yv.orK (a := set_10) (b := (shlK .i64 1 (wI ((nth ((nth p.Domains i_6).Channels) i_12) - 2)))) rfl rfl rfl) ?_; refine TL.run 1 rfl ?_; refine TL.nil (K.ac (K.seq (T.region ?_))); refine TL.y (Yv.ao rfl rfl rfl (by omega)) ?_; refine TL.run 1 rfl ?_; refine TL.nil ?_; rw [← hn11] at hk; exact K.next ((i_12 + 1), (orK .i64 set_10 (shlK .i64 1 (wI ((nth ((nth p.Domains i_6).Channels) i_12) - 2))))) hk (by dsimp only; omega) (.c (.c (.c (.c (.c (.c (.c (.c (.c (.c (.c .nil))))))))))) (List.Sublist.refl _)
              · have p13 := of_decide_eq_false h13; rw [zar (by omega), ← hkk11] at hk; (try dsimp only at hk); refine T.exit (K.ab (K.ab (K.ad ?_))); exact K.ag set_10 hk (.c (.c (.c (.c (.c (.c (.c (.c .nil)))))))) (List.Sublist.refl _)
          · rintro set_8 hk; rw [← hk9] at hk; (try dsimp only at hk); have hq := zaf hk; clear hk; obtain ⟨r52, hr52, hk⟩ := hq; (try dsimp only at hk); refine T.region ?_; refine TL.run 1 rfl ?_; refine TL.y (Yv.fieldAddr rfl rfl) ?_; refine TL.y (Yv.aa 0 rfl rfl rfl rfl) ?_; refine TL.run 1 rfl ?_; refine TL.e (Ew.buildSlice rfl rfl rfl (by decide)) ?_; rintro _ _ ⟨g51, rfl, rfl⟩; refine TL.ay (fun w hw => hw.freezeR (i := 5) (j := 0) (by decide) rfl rfl) ?_; rintro F5 ⟨le4_5, hz5⟩; dsimp only [List.set, List.eraseIdx]; have le2_5 := le2_4.trans le4_5; have hf5 : SlC F5.toFrz (.slice (some ⟨g51, 0, none⟩) 2 2) 1 ([(nth p.Domains i_6).Station, set_8].map eI) := (SlK.lit hz5 rfl (Nat.le_refl _) (by decide)).toF (xs := [(nth p.Domains i_6).Station, set_8]) rfl (fun _ => rfl); refine TL.e (Ew.as [2, 1, 4, 0, 3] [.row g4 144 [.int .i64 0, vc_4], .sl vc_4 5 1 c_4.length (c_4.flatMap (eK .u8))] [.row g7 66 [.int .i64 ((nth p.Domains i_6).Station), (nth (nth cp_0 i_6) 1)], .row g1 29 [vp_0, vp_1, vp_2, vp_3]] rfl rfl rfl rfl (by decide) (fun w hw hw2 hF => zaW _ w hF [(nth p.Domains i_6).Station, set_8] (.slice (some ⟨g51, 0, none⟩) 2 2) hf5 (GWriter.mk (Gfault.mk 0) c_4) g4 vc_4 hw2.takes.1 hw2.takes.2 fuel r52 hr52)) ?_; rintro _ _ ⟨v52_0_1, -, rfl, rfl⟩; dsimp only [List.cons_append, List.nil_append]; refine TL.aC 1 rfl ?_; intro iv52_0_1 hmv52_0_1; refine TL.nil (K.ac (K.seq (T.region ?_))); refine TL.y (Yv.ao rfl rfl rfl (by omega)) ?_; refine TL.run 1 rfl ?_; refine TL.nil ?_; rw [← hn5] at hk; refine K.pick [1, 0, 4, 2] rfl (by decide) ?_; exact K.next ((i_6 + 1), r52, v52_0_1, F5) ⟨hk, inferInstance, le2_5⟩ (by dsimp only; omega) (.c (.c (.c (.c (.c (.c .nil)))))) (List.Sublist.refl _)
        · have p7 := of_decide_eq_false h7; rw [zar (by omega), ← hkk5] at hk; (try dsimp only at hk); refine T.exit (K.ab (K.ab (K.ad ?_))); exact K.ag (c_4, vc_4, F4) ⟨hk, inferInstance, le2_4⟩ (.c (.c (.c .nil))) (List.Sublist.refl _)
    · rintro ⟨c_2, vc_2, F3⟩ ⟨hk, oc_2, le2_3⟩; (try dsimp only at *); rw [← hk3] at hk; (try dsimp only at hk); have le1_3 := le1_2.trans le2_3; refine T.seq ?_; have hq := zaf hk; clear hk; obtain ⟨r60, hr60, hk⟩ := hq; (try dsimp only at hk); refine T.region ?_; refine TL.run 1 rfl ?_; refine TL.y (Yv.fieldAddr rfl rfl) ?_; refine TL.y (Yv.fieldAddr rfl rfl) ?_; refine TL.y (Yv.aa 2 rfl rfl rfl rfl) ?_; refine TL.y (Yv.al rfl rfl (SlC.mono hp_1 le1_3) (List.length_map _)) ?_; have hm58 : p.Rules.Pairs.length ≤ 9223372036854775807 := (List.length_map _) ▸ (SlC.mono hp_1 le1_3).max; refine TL.e (Ew.buildSlice rfl rfl rfl (by decide)) ?_; rintro _ _ ⟨g59, rfl, rfl⟩; refine TL.ay (fun w hw => hw.freezeR (i := 4) (j := 0) (by decide) rfl rfl) ?_; rintro F6 ⟨le3_6, hz6⟩; dsimp only [List.set, List.eraseIdx]; have le1_6 := le1_3.trans le3_6; have hf6 : SlC F6.toFrz (.slice (some ⟨g59, 0, none⟩) 1 1) 1 ([(p.Rules.Pairs.length : Int)].map eI) := (SlK.lit hz6 rfl (Nat.le_refl _) (by decide)).toF (xs := [(p.Rules.Pairs.length : Int)]) rfl (fun _ => rfl); refine TL.e (Ew.as [1, 0, 3, 2] [.row g4 144 [.int .i64 0, vc_2], .sl vc_2 5 1 c_2.length (c_2.flatMap (eK .u8))] [.row g1 29 [vp_0, vp_1, vp_2, vp_3]] rfl rfl rfl rfl (by decide) (fun w hw hw2 hF => zaW _ w hF [(p.Rules.Pairs.length : Int)] (.slice (some ⟨g59, 0, none⟩) 1 1) hf6 (GWriter.mk (Gfault.mk 0) c_2) g4 vc_2 hw2.takes.1 hw2.takes.2 fuel r60 hr60)) ?_; rintro _ _ ⟨v60_0_1, -, rfl, rfl⟩; dsimp only [List.cons_append, List.nil_append]; refine TL.aC 1 rfl ?_; intro iv60_0_1 hmv60_0_1; refine TL.ns (T.seq (T.sr ?_)); refine TL.y (Yv.fieldAddr rfl rfl) ?_; refine TL.y (Yv.fieldAddr rfl rfl) ?_; refine TL.y (Yv.aa 3 rfl rfl rfl rfl) ?_; refine TL.y (Yv.al rfl rfl (SlC.mono hp_1 le1_6) (List.length_map _)) ?_; refine TL.run 1 rfl ?_; refine TL.ns ?_; have hq := zae hk; clear hk; obtain ⟨k15, hk15, hk⟩ := hq; (try dsimp only at hk); refine T.ah (ι := List Int × Value × FzB w (fun _ => False) S0) (fun z => [(1, .pointer (some ⟨g1, 0, none⟩)), (4, .pointer (some ⟨g4, 0, none⟩)), (5, .func (.func 98) #[] #[.pointer (some ⟨g4, 0, none⟩)])]) (fun z => [.sl z.2.1 5 1 z.1.length (z.1.flatMap (eK .u8)), .row g4 144 [.int .i64 0, z.2.1], .row g1 29 [vp_0, vp_1, vp_2, vp_3], .fr z.2.2]) (fun z => k15 z.1 = some r ∧ OneC z.2.1 ∧ F6.toFrz.Le z.2.2.toFrz) ?_ ?_
      · have hq := zaj hk; clear hk; obtain ⟨f17, kk17, hf17, hkk17, hk⟩ := hq; refine T.block ?_; refine T.pick [1, 0, 3, 2] rfl (by decide) ?_; refine T.loop (ι := Nat × List Int × Value × FzB w (fun _ => False) S0) (fun z => [(1, .pointer (some ⟨g1, 0, none⟩)), (4, .pointer (some ⟨g4, 0, none⟩)), (5, .func (.func 98) #[] #[.pointer (some ⟨g4, 0, none⟩)]), (63, vp_1), (64, .int .i64 (p.Rules.Pairs.length : Int)), (65, .int .i64 (z.1 : Int))]) (fun z => [.sl z.2.2.1 5 1 z.2.1.length (z.2.1.flatMap (eK .u8)), .row g4 144 [.int .i64 0, z.2.2.1], .row g1 29 [vp_0, vp_1, vp_2, vp_3], .fr z.2.2.2]) (fun z => zah f17 kk17 (p.Rules.Pairs.length - z.1) z.1 z.2.1 = some r ∧ OneC z.2.2.1 ∧ F6.toFrz.Le z.2.2.2.toFrz) (fun z => p.Rules.Pairs.length - z.1) (0, r60, v60_0_1, F6) ?_ ?_ ?_ ?_
        · exact ⟨hk, inferInstance, (Frz.Le.refl _)⟩
        · exact (.c (.c (.c (.c (.c (.c .nil))))))
        · exact List.Sublist.refl _
        · rintro ⟨i_18, c_16, vc_16, F8⟩ ⟨hk, oc_16, le6_8⟩; (try dsimp only at *); have le1_8 := le1_6.trans le6_8; refine T.sr ?_; refine TL.run 1 rfl ?_; refine TL.ns (T.seq ?_); refine T.cond rfl (fun h19 => ?_) (fun h19 => ?_)
          · have p19 := of_decide_eq_true h19; rw [zaq (by omega)] at hk; generalize hn17 : zah f17 kk17 (p.Rules.Pairs.length - (i_18 + 1)) (i_18 + 1) = next17 at hk; rw [← hf17] at hk; (try dsimp only at hk); refine T.skip (K.seq (T.seq (T.block (T.sr ?_)))); refine TL.y (Yv.ak (i := i_18) rfl rfl rfl (SlC.mono hp_1 le1_8) (List.length_map _) rfl (by omega)) ?_; refine TL.y (Yv.an 3 (i := i_18) rfl rfl rfl (SlC.mono hp_1 le1_8) (by omega) rfl rfl rfl) ?_; refine TL.e (Ew.alloc rfl) ?_; rintro _ _ ⟨g12, rfl, rfl⟩; refine TL.e0 (Ew.ai 0 rfl rfl rfl rfl rfl rfl) ?_; rintro _ _ ⟨rfl, rfl⟩; refine TL.ns (T.seq ?_); have hq := zaf hk; clear hk; obtain ⟨r75, hr75, hk⟩ := hq; (try dsimp only at hk); refine T.region ?_; refine TL.run 1 rfl ?_; refine TL.y (Yv.fieldAddr rfl rfl) ?_; refine TL.y (Yv.aa 0 rfl rfl rfl rfl) ?_; refine TL.y (Yv.fieldAddr rfl rfl) ?_; refine TL.y (Yv.aa 0 rfl rfl rfl rfl) ?_; refine TL.e (Ew.buildSlice rfl rfl rfl (by decide)) ?_; rintro _ _ ⟨g74, rfl, rfl⟩; refine TL.ay (fun w hw => hw.freezeR (i := 5) (j := 0) (by decide) rfl rfl) ?_; rintro F9 ⟨le8_9, hz9⟩; dsimp only [List.set, List.eraseIdx]; have le6_9 := le6_8.trans le8_9; have hf9 : SlC F9.toFrz (.slice (some ⟨g74, 0, none⟩) 2 2) 1 ([(nth p.Rules.Pairs i_18).A, (nth p.Rules.Pairs i_18).B].map eI) := (SlK.lit hz9 rfl (Nat.le_refl _) (by decide)).toF (xs := [(nth p.Rules.Pairs i_18).A, (nth p.Rules.Pairs i_18).B]) rfl (fun _ => rfl); refine TL.e (Ew.as [2, 1, 4, 0, 3] [.row g4 144 [.int .i64 0, vc_16], .sl vc_16 5 1 c_16.length (c_16.flatMap (eK .u8))] [.row g12 68 [.int .i64 ((nth p.Rules.Pairs i_18).A), .int .i64 ((nth p.Rules.Pairs i_18).B), .int .i64 ((nth p.Rules.Pairs i_18).Offset), .int .i64 ((nth p.Rules.Pairs i_18).Low), .int .i64 ((nth p.Rules.Pairs i_18).High)], .row g1 29 [vp_0, vp_1, vp_2, vp_3]] rfl rfl rfl rfl (by decide) (fun w hw hw2 hF => zaW _ w hF [(nth p.Rules.Pairs i_18).A, (nth p.Rules.Pairs i_18).B] (.slice (some ⟨g74, 0, none⟩) 2 2) hf9 (GWriter.mk (Gfault.mk 0) c_16) g4 vc_16 hw2.takes.1 hw2.takes.2 fuel r75 hr75)) ?_; rintro _ _ ⟨v75_0_1, -, rfl, rfl⟩; dsimp only [List.cons_append, List.nil_append]; refine TL.aC 1 rfl ?_; intro iv75_0_1 hmv75_0_1; refine TL.ns (T.seq ?_); have hq := zaf hk; clear hk; obtain ⟨r78, hr78, hk⟩ := hq; (try dsimp only at hk); refine T.region ?_; refine TL.y (Yv.fieldAddr rfl rfl) ?_; refine TL.y (Yv.aa 3 rfl rfl rfl rfl) ?_; refine TL.e (Ew.as [0, 1, 2, 3, 4] [.row g4 144 [.int .i64 0, v75_0_1], .sl v75_0_1 5 1 r75.length (r75.flatMap (eK .u8))] [.row g12 68 [.int .i64 ((nth p.Rules.Pairs i_18).A), .int .i64 ((nth p.Rules.Pairs i_18).B), .int .i64 ((nth p.Rules.Pairs i_18).Offset), .int .i64 ((nth p.Rules.Pairs i_18).Low), .int .i64 ((nth p.Rules.Pairs i_18).High)], .row g1 29 [vp_0, vp_1, vp_2, vp_3]] rfl rfl rfl rfl (by decide) (fun w hw hw2 hF => zcv _ w hF (GWriter.mk (Gfault.mk 0) r75) g4 v75_0_1 ((nth p.Rules.Pairs i_18).Offset) hw2.takes.1 hw2.takes.2 fuel r78 hr78)) ?_; rintro _ _ ⟨v78_0_1, -, rfl, rfl⟩; dsimp only [List.cons_append, List.nil_append]; refine TL.aC 1 rfl ?_; intro iv78_0_1 hmv78_0_1; refine TL.ns ?_; have hq := zaf hk; clear hk; obtain ⟨r85, hr85, hk⟩ := hq; (try dsimp only at hk); refine T.region ?_; refine TL.run 1 rfl ?_; refine TL.y (Yv.fieldAddr rfl rfl) ?_; refine TL.y (Yv.aa 3 rfl rfl rfl rfl) ?_; refine TL.y (Yv.fieldAddr rfl rfl) ?_; refine TL.y (Yv.aa 3 rfl rfl rfl rfl) ?_; refine TL.e (Ew.buildSlice rfl rfl rfl (by decide)) ?_; rintro _ _ ⟨g84, rfl, rfl⟩; refine TL.ay (fun w hw => hw.freezeR (i := 3) (j := 0) (by decide) rfl rfl) ?_; rintro F10 ⟨le9_10, hz10⟩; dsimp only [List.set, List.eraseIdx]; have le6_10 := le6_9.trans le9_10; have hf10 : SlC F10.toFrz (.slice (some ⟨g84, 0, none⟩) 2 2) 1 ([(nth p.Rules.Pairs i_18).Low, (nth p.Rules.Pairs i_18).High].map eI) := (SlK.lit hz10 rfl (Nat.le_refl _) (by decide)).toF (xs := [(nth p.Rules.Pairs i_18).Low, (nth p.Rules.Pairs i_18).High]) rfl (fun _ => rfl); refine TL.e (Ew.as [0, 1, 2, 3, 4] [.row g4 144 [.int .i64 0, v78_0_1], .sl v78_0_1 5 1 r78.length (r78.flatMap (eK .u8))] [.row g12 68 [.int .i64 ((nth p.Rules.Pairs i_18).A), .int .i64 ((nth p.Rules.Pairs i_18).B), .int .i64 ((nth p.Rules.Pairs i_18).Offset), .int .i64 ((nth p.Rules.Pairs i_18).Low), .int .i64 ((nth p.Rules.Pairs i_18).High)], .row g1 29 [vp_0, vp_1, vp_2, vp_3]] rfl rfl rfl rfl (by decide) (fun w hw hw2 hF => zaW _ w hF [(nth p.Rules.Pairs i_18).Low, (nth p.Rules.Pairs i_18).High] (.slice (some ⟨g84, 0, none⟩) 2 2) hf10 (GWriter.mk (Gfault.mk 0) r78) g4 v78_0_1 hw2.takes.1 hw2.takes.2 fuel r85 hr85)) ?_; rintro _ _ ⟨v85_0_1, -, rfl, rfl⟩; dsimp only [List.cons_append, List.nil_append]; refine TL.aC 1 rfl ?_; intro iv85_0_1 hmv85_0_1; refine TL.nil (K.ac (K.seq (T.region ?_))); refine TL.y (Yv.ao rfl rfl rfl (by omega)) ?_; refine TL.run 1 rfl ?_; refine TL.nil ?_; rw [← hn17] at hk; refine K.pick [1, 0, 4, 2] rfl (by decide) ?_; exact K.next ((i_18 + 1), r85, v85_0_1, F10) ⟨hk, inferInstance, le6_10⟩ (by dsimp only; omega) (.c (.c (.c (.c (.c (.c .nil)))))) (List.Sublist.refl _)
          · have p19 := of_decide_eq_false h19; rw [zar (by omega), ← hkk17] at hk; (try dsimp only at hk); refine T.exit (K.ab (K.ab (K.ad ?_))); exact K.ag (c_16, vc_16, F8) ⟨hk, inferInstance, le6_8⟩ (.c (.c (.c .nil))) (List.Sublist.refl _)
      · rintro ⟨c_14, vc_14, F7⟩ ⟨hk, oc_14, le6_7⟩; (try dsimp only at *); rw [← hk15] at hk; (try dsimp only at hk); have le1_7 := le1_6.trans le6_7; refine T.seq ?_; have hq := zaf hk; clear hk; obtain ⟨r93, hr93, hk⟩ := hq; (try dsimp only at hk); refine T.region ?_; refine TL.run 1 rfl ?_; refine TL.y (Yv.fieldAddr rfl rfl) ?_; refine TL.y (Yv.fieldAddr rfl rfl) ?_; refine TL.y (Yv.aa 2 rfl rfl rfl rfl) ?_; refine TL.y (Yv.al rfl rfl (SlC.mono hp_2 le1_7) (List.length_map _)) ?_; have hm91 : p.Rules.Loads.length ≤ 9223372036854775807 := (List.length_map _) ▸ (SlC.mono hp_2 le1_7).max; refine TL.e (Ew.buildSlice rfl rfl rfl (by decide)) ?_; rintro _ _ ⟨g92, rfl, rfl⟩; refine TL.ay (fun w hw => hw.freezeR (i := 4) (j := 0) (by decide) rfl rfl) ?_; rintro F11 ⟨le7_11, hz11⟩; dsimp only [List.set, List.eraseIdx]; have le1_11 := le1_7.trans le7_11; have hf11 : SlC F11.toFrz (.slice (some ⟨g92, 0, none⟩) 1 1) 1 ([(p.Rules.Loads.length : Int)].map eI) := (SlK.lit hz11 rfl (Nat.le_refl _) (by decide)).toF (xs := [(p.Rules.Loads.length : Int)]) rfl (fun _ => rfl); refine TL.e (Ew.as [1, 0, 3, 2] [.row g4 144 [.int .i64 0, vc_14], .sl vc_14 5 1 c_14.length (c_14.flatMap (eK .u8))] [.row g1 29 [vp_0, vp_1, vp_2, vp_3]] rfl rfl rfl rfl (by decide) (fun w hw hw2 hF => zaW _ w hF [(p.Rules.Loads.length : Int)] (.slice (some ⟨g92, 0, none⟩) 1 1) hf11 (GWriter.mk (Gfault.mk 0) c_14) g4 vc_14 hw2.takes.1 hw2.takes.2 fuel r93 hr93)) ?_; rintro _ _ ⟨v93_0_1, -, rfl, rfl⟩; dsimp only [List.cons_append, List.nil_append]; refine TL.aC 1 rfl ?_; intro iv93_0_1 hmv93_0_1; refine TL.ns (T.seq (T.sr ?_)); refine TL.y (Yv.fieldAddr rfl rfl) ?_; refine TL.y (Yv.fieldAddr rfl rfl) ?_; refine TL.y (Yv.aa 3 rfl rfl rfl rfl) ?_; refine TL.y (Yv.al rfl rfl (SlC.mono hp_2 le1_11) (List.length_map _)) ?_; refine TL.run 1 rfl ?_; refine TL.ns ?_; have hq := zae hk; clear hk; obtain ⟨k21, hk21, hk⟩ := hq; (try dsimp only at hk); refine T.ah (ι := List Int × Value × FzB w (fun _ => False) S0) (fun z => [(1, .pointer (some ⟨g1, 0, none⟩)), (4, .pointer (some ⟨g4, 0, none⟩)), (5, .func (.func 98) #[] #[.pointer (some ⟨g4, 0, none⟩)])]) (fun z => [.sl z.2.1 5 1 z.1.length (z.1.flatMap (eK .u8)), .row g4 144 [.int .i64 0, z.2.1], .row g1 29 [vp_0, vp_1, vp_2, vp_3], .fr z.2.2]) (fun z => k21 z.1 = some r ∧ OneC z.2.1 ∧ F11.toFrz.Le z.2.2.toFrz) ?_ ?_
        · have hq := zaj hk; clear hk; obtain ⟨f23, kk23, hf23, hkk23, hk⟩ := hq; refine T.block ?_; refine T.pick [1, 0, 3, 2] rfl (by decide) ?_; refine T.loop (ι := Nat × List Int × Value × FzB w (fun _ => False) S0) (fun z => [(1, .pointer (some ⟨g1, 0, none⟩)), (4, .pointer (some ⟨g4, 0, none⟩)), (5, .func (.func 98) #[] #[.pointer (some ⟨g4, 0, none⟩)]), (96, vp_2), (97, .int .i64 (p.Rules.Loads.length : Int)), (98, .int .i64 (z.1 : Int))]) (fun z => [.sl z.2.2.1 5 1 z.2.1.length (z.2.1.flatMap (eK .u8)), .row g4 144 [.int .i64 0, z.2.2.1], .row g1 29 [vp_0, vp_1, vp_2, vp_3], .fr z.2.2.2]) (fun z => zah f23 kk23 (p.Rules.Loads.length - z.1) z.1 z.2.1 = some r ∧ OneC z.2.2.1 ∧ F11.toFrz.Le z.2.2.2.toFrz) (fun z => p.Rules.Loads.length - z.1) (0, r93, v93_0_1, F11) ?_ ?_ ?_ ?_
          · exact ⟨hk, inferInstance, (Frz.Le.refl _)⟩
          · exact (.c (.c (.c (.c (.c (.c .nil))))))
          · exact List.Sublist.refl _
          · rintro ⟨i_24, c_22, vc_22, F13⟩ ⟨hk, oc_22, le11_13⟩; (try dsimp only at *); have le1_13 := le1_11.trans le11_13; refine T.sr ?_; refine TL.run 1 rfl ?_; refine TL.ns (T.seq ?_); refine T.cond rfl (fun h25 => ?_) (fun h25 => ?_)
            · have p25 := of_decide_eq_true h25; rw [zaq (by omega)] at hk; generalize hn23 : zah f23 kk23 (p.Rules.Loads.length - (i_24 + 1)) (i_24 + 1) = next23 at hk; rw [← hf23] at hk; (try dsimp only at hk); refine T.skip (K.seq (T.seq (T.block (T.sr ?_)))); refine TL.y (Yv.ak (i := i_24) rfl rfl rfl (SlC.mono hp_2 le1_13) (List.length_map _) rfl (by omega)) ?_; refine TL.y (Yv.an 3 (i := i_24) rfl rfl rfl (SlC.mono hp_2 le1_13) (by omega) rfl rfl rfl) ?_; refine TL.e (Ew.alloc rfl) ?_; rintro _ _ ⟨g14, rfl, rfl⟩; refine TL.e0 (Ew.ai 0 rfl rfl rfl rfl rfl rfl) ?_; rintro _ _ ⟨rfl, rfl⟩; refine TL.ns ?_; have hq := zaf hk; clear hk; obtain ⟨r114, hr114, hk⟩ := hq; (try dsimp only at hk); refine T.region ?_; refine TL.run 1 rfl ?_; refine TL.y (Yv.fieldAddr rfl rfl) ?_; refine TL.y (Yv.aa 0 rfl rfl rfl rfl) ?_; refine TL.y (Yv.fieldAddr rfl rfl) ?_; refine TL.y (Yv.aa 0 rfl rfl rfl rfl) ?_; refine TL.y (Yv.fieldAddr rfl rfl) ?_; refine TL.y (Yv.aa 0 rfl rfl rfl rfl) ?_; refine TL.y (Yv.fieldAddr rfl rfl) ?_; refine TL.y (Yv.aa 0 rfl rfl rfl rfl) ?_; refine TL.y (Yv.fieldAddr rfl rfl) ?_; refine TL.y (Yv.aa 0 rfl rfl rfl rfl) ?_; refine TL.e (Ew.buildSlice rfl rfl rfl (by decide)) ?_; rintro _ _ ⟨g113, rfl, rfl⟩; refine TL.ay (fun w hw => hw.freezeR (i := 5) (j := 0) (by decide) rfl rfl) ?_; rintro F14 ⟨le13_14, hz14⟩; dsimp only [List.set, List.eraseIdx]; have le11_14 := le11_13.trans le13_14; have hf14 : SlC F14.toFrz (.slice (some ⟨g113, 0, none⟩) 5 5) 1 ([(nth p.Rules.Loads i_24).To, (nth p.Rules.Loads i_24).From, (nth p.Rules.Loads i_24).Weight, (nth p.Rules.Loads i_24).Low, (nth p.Rules.Loads i_24).High].map eI) := (SlK.lit hz14 rfl (Nat.le_refl _) (by decide)).toF (xs := [(nth p.Rules.Loads i_24).To, (nth p.Rules.Loads i_24).From, (nth p.Rules.Loads i_24).Weight, (nth p.Rules.Loads i_24).Low, (nth p.Rules.Loads i_24).High]) rfl (fun _ => rfl); refine TL.e (Ew.as [2, 1, 4, 0, 3] [.row g4 144 [.int .i64 0, vc_22], .sl vc_22 5 1 c_22.length (c_22.flatMap (eK .u8))] [.row g14 70 [.int .i64 ((nth p.Rules.Loads i_24).To), .int .i64 ((nth p.Rules.Loads i_24).From), .int .i64 ((nth p.Rules.Loads i_24).Weight), .int .i64 ((nth p.Rules.Loads i_24).Low), .int .i64 ((nth p.Rules.Loads i_24).High)], .row g1 29 [vp_0, vp_1, vp_2, vp_3]] rfl rfl rfl rfl (by decide) (fun w hw hw2 hF => zaW _ w hF [(nth p.Rules.Loads i_24).To, (nth p.Rules.Loads i_24).From, (nth p.Rules.Loads i_24).Weight, (nth p.Rules.Loads i_24).Low, (nth p.Rules.Loads i_24).High] (.slice (some ⟨g113, 0, none⟩) 5 5) hf14 (GWriter.mk (Gfault.mk 0) c_22) g4 vc_22 hw2.takes.1 hw2.takes.2 fuel r114 hr114)) ?_; rintro _ _ ⟨v114_0_1, -, rfl, rfl⟩; dsimp only [List.cons_append, List.nil_append]; refine TL.aC 1 rfl ?_; intro iv114_0_1 hmv114_0_1; refine TL.nil (K.ac (K.seq (T.region ?_))); refine TL.y (Yv.ao rfl rfl rfl (by omega)) ?_; refine TL.run 1 rfl ?_; refine TL.nil ?_; rw [← hn23] at hk; refine K.pick [1, 0, 4, 2] rfl (by decide) ?_; exact K.next ((i_24 + 1), r114, v114_0_1, F14) ⟨hk, inferInstance, le11_14⟩ (by dsimp only; omega) (.c (.c (.c (.c (.c (.c .nil)))))) (List.Sublist.refl _)
            · have p25 := of_decide_eq_false h25; rw [zar (by omega), ← hkk23] at hk; (try dsimp only at hk); refine T.exit (K.ab (K.ab (K.ad ?_))); exact K.ag (c_22, vc_22, F13) ⟨hk, inferInstance, le11_13⟩ (.c (.c (.c .nil))) (List.Sublist.refl _)
        · rintro ⟨c_20, vc_20, F12⟩ ⟨hk, oc_20, le11_12⟩; (try dsimp only at *); rw [← hk21] at hk; (try dsimp only at hk); have le1_12 := le1_11.trans le11_12; refine T.seq ?_; have hq := zaf hk; clear hk; obtain ⟨r122, hr122, hk⟩ := hq; (try dsimp only at hk); refine T.region ?_; refine TL.run 1 rfl ?_; refine TL.y (Yv.fieldAddr rfl rfl) ?_; refine TL.y (Yv.fieldAddr rfl rfl) ?_; refine TL.y (Yv.aa 2 rfl rfl rfl rfl) ?_; refine TL.y (Yv.al rfl rfl (SlC.mono hp_3 le1_12) (List.length_map _)) ?_; have hm120 : p.Rules.Caps.length ≤ 9223372036854775807 := (List.length_map _) ▸ (SlC.mono hp_3 le1_12).max; refine TL.e (Ew.buildSlice rfl rfl rfl (by decide)) ?_; rintro _ _ ⟨g121, rfl, rfl⟩; refine TL.ay (fun w hw => hw.freezeR (i := 4) (j := 0) (by decide) rfl rfl) ?_; rintro F15 ⟨le12_15, hz15⟩; dsimp only [List.set, List.eraseIdx]; have le1_15 := le1_12.trans le12_15; have hf15 : SlC F15.toFrz (.slice (some ⟨g121, 0, none⟩) 1 1) 1 ([(p.Rules.Caps.length : Int)].map eI) := (SlK.lit hz15 rfl (Nat.le_refl _) (by decide)).toF (xs := [(p.Rules.Caps.length : Int)]) rfl (fun _ => rfl); refine TL.e (Ew.as [1, 0, 3, 2] [.row g4 144 [.int .i64 0, vc_20], .sl vc_20 5 1 c_20.length (c_20.flatMap (eK .u8))] [.row g1 29 [vp_0, vp_1, vp_2, vp_3]] rfl rfl rfl rfl (by decide) (fun w hw hw2 hF => zaW _ w hF [(p.Rules.Caps.length : Int)] (.slice (some ⟨g121, 0, none⟩) 1 1) hf15 (GWriter.mk (Gfault.mk 0) c_20) g4 vc_20 hw2.takes.1 hw2.takes.2 fuel r122 hr122)) ?_; rintro _ _ ⟨v122_0_1, -, rfl, rfl⟩; dsimp only [List.cons_append, List.nil_append]; refine TL.aC 1 rfl ?_; intro iv122_0_1 hmv122_0_1; refine TL.ns (T.seq (T.sr ?_)); refine TL.y (Yv.fieldAddr rfl rfl) ?_; refine TL.y (Yv.fieldAddr rfl rfl) ?_; refine TL.y (Yv.aa 3 rfl rfl rfl rfl) ?_; refine TL.y (Yv.al rfl rfl (SlC.mono hp_3 le1_15) (List.length_map _)) ?_; refine TL.run 1 rfl ?_; refine TL.ns ?_; have hq := zae hk; clear hk; obtain ⟨k27, hk27, hk⟩ := hq; (try dsimp only at hk); refine T.ah (ι := List Int × Value × FzB w (fun _ => False) S0) (fun z => [(4, .pointer (some ⟨g4, 0, none⟩))]) (fun z => [.sl z.2.1 5 1 z.1.length (z.1.flatMap (eK .u8)), .row g4 144 [.int .i64 0, z.2.1], .fr z.2.2]) (fun z => k27 z.1 = some r ∧ OneC z.2.1 ∧ F15.toFrz.Le z.2.2.toFrz) ?_ ?_
          · have hq := zaj hk; clear hk; obtain ⟨f29, kk29, hf29, hkk29, hk⟩ := hq; refine T.block ?_; refine T.pick [1, 0, 2] rfl (by decide) ?_; refine T.loop (ι := Nat × List Int × Value × FzB w (fun _ => False) S0) (fun z => [(4, .pointer (some ⟨g4, 0, none⟩)), (5, .func (.func 98) #[] #[.pointer (some ⟨g4, 0, none⟩)]), (125, vp_3), (126, .int .i64 (p.Rules.Caps.length : Int)), (127, .int .i64 (z.1 : Int))]) (fun z => [.sl z.2.2.1 5 1 z.2.1.length (z.2.1.flatMap (eK .u8)), .row g4 144 [.int .i64 0, z.2.2.1], .fr z.2.2.2]) (fun z => zah f29 kk29 (p.Rules.Caps.length - z.1) z.1 z.2.1 = some r ∧ OneC z.2.2.1 ∧ F15.toFrz.Le z.2.2.2.toFrz) (fun z => p.Rules.Caps.length - z.1) (0, r122, v122_0_1, F15) ?_ ?_ ?_ ?_
            · exact ⟨hk, inferInstance, (Frz.Le.refl _)⟩
            · exact (.c (.c (.c (.c (.c .nil)))))
            · exact List.Sublist.refl _
            · rintro ⟨i_30, c_28, vc_28, F17⟩ ⟨hk, oc_28, le15_17⟩; (try dsimp only at *); have le1_17 := le1_15.trans le15_17; refine T.sr ?_; refine TL.run 1 rfl ?_; refine TL.ns (T.seq ?_); refine T.cond rfl (fun h31 => ?_) (fun h31 => ?_)
              · have p31 := of_decide_eq_true h31; rw [zaq (by omega)] at hk; generalize hn29 : zah f29 kk29 (p.Rules.Caps.length - (i_30 + 1)) (i_30 + 1) = next29 at hk; rw [← hf29] at hk; (try dsimp only at hk); refine T.skip (K.seq (T.seq (T.block (T.sr ?_)))); refine TL.y (Yv.ak (i := i_30) rfl rfl rfl (SlC.mono hp_3 le1_17) (List.length_map _) rfl (by omega)) ?_; refine TL.y (Yv.an 2 (i := i_30) rfl rfl rfl (SlC.mono hp_3 le1_17) (by omega) rfl rfl rfl) ?_; refine TL.e (Ew.alloc rfl) ?_; rintro _ _ ⟨g16, rfl, rfl⟩; refine TL.e0 (Ew.ai 0 rfl rfl rfl rfl rfl rfl) ?_; rintro _ _ ⟨rfl, rfl⟩; refine TL.ns ?_; have hq := zaf hk; clear hk; obtain ⟨r141, hr141, hk⟩ := hq; (try dsimp only at hk); refine T.region ?_; refine TL.run 1 rfl ?_; refine TL.y (Yv.fieldAddr rfl rfl) ?_; refine TL.y (Yv.aa 0 rfl rfl rfl rfl) ?_; refine TL.y (Yv.fieldAddr rfl rfl) ?_; refine TL.y (Yv.aa 0 rfl rfl rfl rfl) ?_; refine TL.y (Yv.fieldAddr rfl rfl) ?_; refine TL.y (Yv.aa 0 rfl rfl rfl rfl) ?_; refine TL.y (Yv.fieldAddr rfl rfl) ?_; refine TL.y (Yv.aa 0 rfl rfl rfl rfl) ?_; refine TL.e (Ew.buildSlice rfl rfl rfl (by decide)) ?_; rintro _ _ ⟨g140, rfl, rfl⟩; refine TL.ay (fun w hw => hw.freezeR (i := 4) (j := 0) (by decide) rfl rfl) ?_; rintro F18 ⟨le17_18, hz18⟩; dsimp only [List.set, List.eraseIdx]; have le15_18 := le15_17.trans le17_18; have hf18 : SlC F18.toFrz (.slice (some ⟨g140, 0, none⟩) 4 4) 1 ([(nth p.Rules.Caps i_30).Station, (nth p.Rules.Caps i_30).Max, (nth p.Rules.Caps i_30).Low, (nth p.Rules.Caps i_30).High].map eI) := (SlK.lit hz18 rfl (Nat.le_refl _) (by decide)).toF (xs := [(nth p.Rules.Caps i_30).Station, (nth p.Rules.Caps i_30).Max, (nth p.Rules.Caps i_30).Low, (nth p.Rules.Caps i_30).High]) rfl (fun _ => rfl); refine TL.e (Ew.as [2, 1, 3, 0] [.row g4 144 [.int .i64 0, vc_28], .sl vc_28 5 1 c_28.length (c_28.flatMap (eK .u8))] [.row g16 72 [.int .i64 ((nth p.Rules.Caps i_30).Station), .int .i64 ((nth p.Rules.Caps i_30).Max), .int .i64 ((nth p.Rules.Caps i_30).Low), .int .i64 ((nth p.Rules.Caps i_30).High)]] rfl rfl rfl rfl (by decide) (fun w hw hw2 hF => zaW _ w hF [(nth p.Rules.Caps i_30).Station, (nth p.Rules.Caps i_30).Max, (nth p.Rules.Caps i_30).Low, (nth p.Rules.Caps i_30).High] (.slice (some ⟨g140, 0, none⟩) 4 4) hf18 (GWriter.mk (Gfault.mk 0) c_28) g4 vc_28 hw2.takes.1 hw2.takes.2 fuel r141 hr141)) ?_; rintro _ _ ⟨v141_0_1, -, rfl, rfl⟩; dsimp only [List.cons_append, List.nil_append]; refine TL.aC 1 rfl ?_; intro iv141_0_1 hmv141_0_1; refine TL.nil (K.ac (K.seq (T.region ?_))); refine TL.y (Yv.ao rfl rfl rfl (by omega)) ?_; refine TL.run 1 rfl ?_; refine TL.nil ?_; rw [← hn29] at hk; refine K.pick [1, 0, 2] rfl (by decide) ?_; exact K.next ((i_30 + 1), r141, v141_0_1, F18) ⟨hk, inferInstance, le15_18⟩ (by dsimp only; omega) (.c (.c (.c (.c (.c .nil))))) (List.Sublist.refl _)
              · have p31 := of_decide_eq_false h31; rw [zar (by omega), ← hkk29] at hk; (try dsimp only at hk); refine T.exit (K.ab (K.ab (K.ad ?_))); exact K.ag (c_28, vc_28, F17) ⟨hk, inferInstance, le15_17⟩ (.c .nil) (List.Sublist.refl _)
          · rintro ⟨c_26, vc_26, F16⟩ ⟨hk, oc_26, le15_16⟩; (try dsimp only at *); rw [← hk27] at hk; (try dsimp only at hk); have le1_16 := le1_15.trans le15_16; refine T.seq ?_; have hq := zaf hk; clear hk; obtain ⟨r143, hr143, hk⟩ := hq; (try dsimp only at hk); refine T.region ?_; refine TL.e (Ew.bB [1, 0, 2] [.row g4 144 [.int .i64 0, vc_26], .sl vc_26 5 1 c_26.length (c_26.flatMap (eK .u8))] [] rfl rfl rfl rfl (by decide) (fun w hw hw2 hF => zcy _ w hF (GWriter.mk (Gfault.mk 0) c_26) g4 vc_26 hw2.takes.1 hw2.takes.2 r143 hr143)) ?_; rintro _ _ ⟨v143_0_0, F19, le16_19, hf143_0_0, rfl, rfl⟩; dsimp only [List.cons_append, List.nil_append]; have le1_19 := le1_16.trans le16_19; haveI := hf143_0_0.oneC; refine TL.run 4 rfl ?_; refine TL.ns (T.ret ?_); obtain rfl := Option.some.inj hk; exact K.aL rfl rfl rfl (fun w' hw => ⟨v143_0_0, F19.toFrz, hf143_0_0, rfl, Fx.of hw (i := 2) rfl hS0 le1_19⟩)
def zbB (a : Int) (b : Int) (xf0_ : Int) (xf1_ : List Int) : Option (List Int) :=
  (bif decide (xf0_ = a) then
    grd (room (xf1_ ++ [b]).length 8) <|
    some (xf1_ ++ [b])
    else
    (bif decide (xf0_ = b) then
      grd (room (xf1_ ++ [a]).length 8) <|
      some (xf1_ ++ [a])
      else
      some xf1_))
theorem zcn (F0 : Frz) (w : World) (hF0 : F0.At w) (a : Int) (b : Int) (xf0_ : Int) (gf0_ : Nat) (xf1_ : List Int) (gf1_ : Nat) (vf1_0 : Value) (hO : Hp w (fps [.row gf0_ 3 [.int .i64 xf0_], .row gf1_ 44 [vf1_0], .sl vf1_0 3 1 xf1_.length (xf1_.flatMap eI)]) [.row gf0_ 3 [.int .i64 xf0_], .row gf1_ 44 [vf1_0], .sl vf1_0 3 1 xf1_.length (xf1_.flatMap eI)] w) (hA : ∀ g, fps [.row gf0_ 3 [.int .i64 xf0_], .row gf1_ 44 [vf1_0], .sl vf1_0 3 1 xf1_.length (xf1_.flatMap eI)] g → ¬ F0.S g) (r : List Int) (hr : zbB a b xf0_ xf1_ = some r) : Calls Tryz.prog 105 #[.int .i64 a, .int .i64 b, .pointer (some ⟨gf0_, 0, none⟩), .pointer (some ⟨gf1_, 0, none⟩)] w fun e w' => ∃ (y : Value), (True) ∧ e = .returned (.tuple #[]) ∧ FxM F0 w (fps [.row gf0_ 3 [.int .i64 xf0_], .row gf1_ 44 [vf1_0], .sl vf1_0 3 1 xf1_.length (xf1_.flatMap eI)]) F0 [.row gf0_ 3 [.int .i64 xf0_], .row gf1_ 44 [y], .sl y 3 1 r.length (r.flatMap eI)] w' := by
  have hk := hr; unfold zbB at hk; haveI := zcV (hO.own (.sl vf1_0 3 1 xf1_.length (xf1_.flatMap eI)) (by simp)); have hmxf1_0 := zc0 (hO.own (.sl vf1_0 3 1 xf1_.length (xf1_.flatMap eI)) (by simp)); obtain ⟨S0, F1, rfl, hS0, hp0⟩ := zbk hF0 hO hA; refine zao (hs := [.row gf0_ 3 [.int .i64 xf0_], .row gf1_ 44 [vf1_0], .sl vf1_0 3 1 xf1_.length (xf1_.flatMap eI), .fr F1]) Tryz.func105 rfl rfl rfl hp0 ?_; refine T.sr ?_; refine TL.y (Yv.aa 0 rfl rfl rfl rfl) ?_; refine TL.ns (T.block (T.sr ?_)); refine TL.run 3 rfl ?_; refine TL.ns ?_; refine T.cond rfl (fun h1 => ?_) (fun h1 => ?_)
  · have p1 := of_decide_eq_true h1; replace hk := zaa hk h1; have hq : (room (xf1_ ++ [b]).length 8) ∧ _ := zaB hk; clear hk; obtain ⟨g13, hk⟩ := hq; (try dsimp only at hk); refine T.region ?_; refine TL.y (Yv.aa 1 rfl rfl rfl rfl) ?_; refine TL.run 1 rfl ?_; refine TL.e (Ew.buildSlice rfl rfl rfl (by decide)) ?_; rintro _ _ ⟨g12, rfl, rfl⟩; refine TL.e (Ew.av 3 0 rfl rfl rfl rfl rfl rfl (zbK (ys := [b]) rfl) (zbT (enc := eI) (xs := xf1_) (ys := [b])) g13 (by decide)) ?_; rintro v13 _ ⟨hv13, rfl⟩; refine TL.e0 (Ew.aA 2 rfl rfl rfl rfl (by simp)) ?_; rintro _ _ ⟨rfl, rfl⟩; refine TL.nil (K.ac ?_); obtain rfl := Option.some.inj hk; exact K.aO rfl (fun w' hw => ⟨v13, trivial, rfl, FxM.of (hw.pick (idx := [1, 2, 3, 4]) rfl (by decide)) hS0 (Frz.Le.refl _)⟩)
  · have p1 := of_decide_eq_false h1; replace hk := zab hk h1; refine T.sr ?_; refine TL.run 3 rfl ?_; refine TL.ns ?_; refine T.cond rfl (fun h2 => ?_) (fun h2 => ?_)
    · have p2 := of_decide_eq_true h2; replace hk := zaa hk h2; have hq : (room (xf1_ ++ [a]).length 8) ∧ _ := zaB hk; clear hk; obtain ⟨g20, hk⟩ := hq; (try dsimp only at hk); refine T.region ?_; refine TL.y (Yv.aa 1 rfl rfl rfl rfl) ?_; refine TL.run 1 rfl ?_; refine TL.e (Ew.buildSlice rfl rfl rfl (by decide)) ?_; rintro _ _ ⟨g19, rfl, rfl⟩; refine TL.e (Ew.av 3 0 rfl rfl rfl rfl rfl rfl (zbK (ys := [a]) rfl) (zbT (enc := eI) (xs := xf1_) (ys := [a])) g20 (by decide)) ?_; rintro v20 _ ⟨hv20, rfl⟩; refine TL.e0 (Ew.aA 2 rfl rfl rfl rfl (by simp)) ?_; rintro _ _ ⟨rfl, rfl⟩; refine TL.nil (K.ac ?_); obtain rfl := Option.some.inj hk; exact K.aO rfl (fun w' hw => ⟨v20, trivial, rfl, FxM.of (hw.pick (idx := [1, 2, 3, 4]) rfl (by decide)) hS0 (Frz.Le.refl _)⟩)
    · have p2 := of_decide_eq_false h2; replace hk := zab hk h2; refine T.skip (K.ac ?_); obtain rfl := Option.some.inj hk; exact K.aO rfl (fun w' hw => ⟨vf1_0, trivial, rfl, FxM.of (hw.pick (idx := [0, 1, 2, 3]) rfl (by decide)) hS0 (Frz.Le.refl _)⟩)
def zb7 (p : GProblem) (station : Int) : Option (List Int × Int) :=
  (zba p).bind fun r13 =>
  (bif !r13 then
    some ([], 2)
    else
    (za3 p).bind fun r16 =>
    (zag r16 station).bind fun r18 =>
    (bif !r18 then
      some ([], 9)
      else
      zaI (fun (c_3 : List Int) =>
        zaI (fun (c_9 : List Int) =>
          (zf6 c_9).bind fun r52 =>
          some ((zeN r52), 0))
        (fun k10 =>
          zah (fun (i_13 : Nat) (next12 : List Int → Option (List Int × Int)) (c_11 : List Int) =>
            (zbB ((nth p.Rules.Loads i_13).To) ((nth p.Rules.Loads i_13).From) station c_11).bind fun r49 =>
            next12 r49)
          (fun (c_11 : List Int) =>
            k10 c_11) (p.Rules.Loads.length - 0) 0 c_3))
      (fun k4 =>
        zah (fun (i_7 : Nat) (next6 : List Int → Option (List Int × Int)) (c_5 : List Int) =>
          (zbB ((nth p.Rules.Pairs i_7).A) ((nth p.Rules.Pairs i_7).B) station c_5).bind fun r34 =>
          next6 r34)
        (fun (c_5 : List Int) =>
          k4 c_5) (p.Rules.Pairs.length - 0) 0 [])))
theorem zdl (F0 : Frz) (w : World) (hF0 : F0.At w) (p : GProblem) (vp_0 : Value) (cp_0 : List (List Value)) (hp_0 : SlD GDomain.rep F0 vp_0 2 cp_0 p.Domains) (vp_1 : Value) (hp_1 : SlC F0 vp_1 5 (p.Rules.Pairs.map GPair.enc)) (vp_2 : Value) (hp_2 : SlC F0 vp_2 5 (p.Rules.Loads.map GLoad.enc)) (vp_3 : Value) (hp_3 : SlC F0 vp_3 4 (p.Rules.Caps.map GCap.enc)) (station : Int) (r : List Int × Int) (hr : zb7 p station = some r) : Calls Tryz.prog 37 #[.agg [vp_0, vp_1, vp_2, vp_3].toArray, .int .i64 station] w fun e w' => ∃ (y : Value) (G : Frz), (SlC G y 1 (r.1.map eI)) ∧ e = .returned (.tuple #[y, .int .i64 r.2]) ∧ Fx F0 w G w' := by
  have hk := hr; unfold zb7 at hk; haveI := hp_0.1.oneC; haveI := hp_1.oneC; haveI := hp_2.oneC; haveI := hp_3.oneC; obtain ⟨S0, F1, rfl, hS0, hp0⟩ := zak hF0; refine zao Tryz.func37 rfl rfl rfl hp0 ?_; refine T.sr ?_; refine TL.e (Ew.aw rfl rfl) ?_; rintro _ _ ⟨g2, rfl, rfl⟩; refine TL.e (Ew.box rfl rfl) ?_; rintro _ _ ⟨g3, rfl, rfl⟩; refine TL.run 2 rfl ?_; refine TL.ns (T.seq (T.seq ?_)); have hq := zaf hk; clear hk; obtain ⟨r13, hr13, hk⟩ := hq; (try dsimp only at hk); refine T.region ?_; refine TL.y (Yv.am 1 rfl rfl rfl rfl) ?_; refine TL.e (Ew.ae rfl rfl rfl (fun w hw => zb2 _ w (hw.fr (i := 2) rfl) p vp_0 cp_0 hp_0 vp_1 hp_1 vp_2 hp_2 vp_3 hp_3 r13 hr13)) ?_; rintro _ _ ⟨rfl, rfl⟩; refine TL.run 1 rfl ?_; refine TL.ns ?_; refine T.cond rfl (fun h1 => ?_) (fun h1 => ?_)
  · replace hk := zaa hk h1; refine T.sr ?_; refine TL.run 2 rfl ?_; refine TL.ns (T.ret (K.a ?_)); obtain rfl := Option.some.inj hk; exact K.aL rfl rfl rfl (fun w' hw => ⟨(.slice none 0 0), F1.toFrz, (SlC.nil _ 1), rfl, Fx.of hw (i := 2) rfl hS0 (Frz.Le.refl _)⟩)
  · replace hk := zab hk h1; refine T.skip (K.seq (T.seq (T.seq ?_))); have hq := zaf hk; clear hk; obtain ⟨r16, hr16, hk⟩ := hq; have hq := zaf hk; clear hk; obtain ⟨r18, hr18, hk⟩ := hq; (try dsimp only at hk); refine T.au (.still 0 (.still 2 (.eff 1 (.eff 3 (.still 4 .done))))) _ (by kernel_rfl) (List.Sublist.refl _) ?_; refine TS.y rfl (Yv.am 1 rfl rfl rfl rfl) ?_; refine TS.y rfl (Yv.aa 0 rfl rfl rfl rfl) ?_; refine TS.eff ?_; refine TSo.ar rfl (Wt.none rfl) rfl rfl (Ew.ae rfl rfl rfl (fun w hw => zb4 _ w (hw.fr (i := 2) rfl) p vp_0 cp_0 hp_0 vp_1 hp_1 vp_2 hp_2 vp_3 hp_3 r16 hr16)) ?_; rintro _ _ ⟨rfl, rfl⟩; refine ⟨(fun w hw => hw.sub Sx), ?_⟩; refine TS.eff ?_; refine TSo.ar rfl (Wt.none rfl) rfl rfl (Ew.ae rfl rfl rfl (fun w hw => zan _ w (hw.fr (i := 2) rfl) r16 station r18 hr18)) ?_; rintro _ _ ⟨rfl, rfl⟩; refine ⟨(fun w hw => hw.sub Sx), ?_⟩; refine TS.run 1 rfl ?_; refine TS.done ?_; refine K.seq ?_; refine T.cond rfl (fun h2 => ?_) (fun h2 => ?_)
    · replace hk := zaa hk h2; refine T.sr ?_; refine TL.run 2 rfl ?_; refine TL.ns (T.ret (K.a ?_)); obtain rfl := Option.some.inj hk; exact K.aL rfl rfl rfl (fun w' hw => ⟨(.slice none 0 0), F1.toFrz, (SlC.nil _ 1), rfl, Fx.of hw (i := 2) rfl hS0 (Frz.Le.refl _)⟩)
    · replace hk := zab hk h2; refine T.skip (K.seq (T.sr ?_)); refine TL.e (Ew.alloc rfl) ?_; rintro _ _ ⟨g6, rfl, rfl⟩; refine TL.slNil 3 1 ?_; refine TL.nx ?_; refine TL.run 2 rfl ?_; refine TL.ns (T.seq (T.sr ?_)); refine TL.y (Yv.fieldAddr rfl rfl) ?_; refine TL.y (Yv.fieldAddr rfl rfl) ?_; refine TL.y (Yv.aa 3 rfl rfl rfl rfl) ?_; refine TL.y (Yv.al rfl rfl hp_1 (List.length_map _)) ?_; have hm24 : p.Rules.Pairs.length ≤ 9223372036854775807 := (List.length_map _) ▸ hp_1.max; refine TL.run 1 rfl ?_; refine TL.ns ?_; have hq := zae hk; clear hk; obtain ⟨k4, hk4, hk⟩ := hq; (try dsimp only at hk); refine T.ah (ι := List Int × Value) (fun z => [(2, .pointer (some ⟨g2, 0, none⟩)), (6, .pointer (some ⟨g6, 0, none⟩)), (7, .func (.func 105) #[] #[.pointer (some ⟨g3, 0, none⟩), .pointer (some ⟨g6, 0, none⟩)])]) (fun z => [.sl z.2 3 1 z.1.length (z.1.flatMap eI), .row g6 44 [z.2], .row g3 3 [.int .i64 station], .row g2 29 [vp_0, vp_1, vp_2, vp_3], .fr F1]) (fun z => k4 z.1 = some r ∧ OneC z.2) ?_ ?_
      · have hq := zaj hk; clear hk; obtain ⟨f6, kk6, hf6, hkk6, hk⟩ := hq; refine T.block ?_; refine T.loop (ι := Nat × List Int × Value) (fun z => [(2, .pointer (some ⟨g2, 0, none⟩)), (6, .pointer (some ⟨g6, 0, none⟩)), (7, .func (.func 105) #[] #[.pointer (some ⟨g3, 0, none⟩), .pointer (some ⟨g6, 0, none⟩)]), (23, vp_1), (24, .int .i64 (p.Rules.Pairs.length : Int)), (25, .int .i64 (z.1 : Int))]) (fun z => [.sl z.2.2 3 1 z.2.1.length (z.2.1.flatMap eI), .row g6 44 [z.2.2], .row g3 3 [.int .i64 station], .row g2 29 [vp_0, vp_1, vp_2, vp_3], .fr F1]) (fun z => zah f6 kk6 (p.Rules.Pairs.length - z.1) z.1 z.2.1 = some r ∧ OneC z.2.2) (fun z => p.Rules.Pairs.length - z.1) (0, [], (.slice none 0 0)) ?_ ?_ ?_ ?_
        · exact ⟨hk, inferInstance⟩
        · exact (.c (.c (.c (.c (.c (.c .nil))))))
        · exact List.Sublist.refl _
        · rintro ⟨i_7, c_5, vc_5⟩ ⟨hk, oc_5⟩; (try dsimp only at *); refine T.sr ?_; refine TL.run 1 rfl ?_; refine TL.ns (T.seq ?_); refine T.cond rfl (fun h8 => ?_) (fun h8 => ?_)
          · have p8 := of_decide_eq_true h8; rw [zaq (by omega)] at hk; generalize hn6 : zah f6 kk6 (p.Rules.Pairs.length - (i_7 + 1)) (i_7 + 1) = next6 at hk; rw [← hf6] at hk; (try dsimp only at hk); refine T.skip (K.seq (T.seq (T.block (T.sr ?_)))); refine TL.y (Yv.ak (i := i_7) rfl rfl rfl hp_1 (List.length_map _) rfl (by omega)) ?_; refine TL.y (Yv.an 4 (i := i_7) rfl rfl rfl hp_1 (by omega) rfl rfl rfl) ?_; refine TL.e (Ew.alloc rfl) ?_; rintro _ _ ⟨g9, rfl, rfl⟩; refine TL.e0 (Ew.ai 0 rfl rfl rfl rfl rfl rfl) ?_; rintro _ _ ⟨rfl, rfl⟩; refine TL.ns ?_; have hq := zaf hk; clear hk; obtain ⟨r34, hr34, hk⟩ := hq; (try dsimp only at hk); refine T.region ?_; refine TL.run 1 rfl ?_; refine TL.y (Yv.fieldAddr rfl rfl) ?_; refine TL.y (Yv.aa 0 rfl rfl rfl rfl) ?_; refine TL.y (Yv.fieldAddr rfl rfl) ?_; refine TL.y (Yv.aa 0 rfl rfl rfl rfl) ?_; refine TL.e (Ew.as [3, 2, 1, 5, 0, 4] [.row g3 3 [.int .i64 station], .row g6 44 [vc_5], .sl vc_5 3 1 c_5.length (c_5.flatMap eI)] [.row g9 68 [.int .i64 ((nth p.Rules.Pairs i_7).A), .int .i64 ((nth p.Rules.Pairs i_7).B), .int .i64 ((nth p.Rules.Pairs i_7).Offset), .int .i64 ((nth p.Rules.Pairs i_7).Low), .int .i64 ((nth p.Rules.Pairs i_7).High)], .row g2 29 [vp_0, vp_1, vp_2, vp_3]] rfl rfl rfl rfl (by decide) (fun w hw hw2 hF => zcn _ w hF ((nth p.Rules.Pairs i_7).A) ((nth p.Rules.Pairs i_7).B) station g3 c_5 g6 vc_5 hw2.takes.1 hw2.takes.2 r34 hr34)) ?_; rintro _ _ ⟨v34_0_0, -, rfl, rfl⟩; dsimp only [List.cons_append, List.nil_append]; refine TL.aC 2 rfl ?_; intro iv34_0_0 hmv34_0_0; refine TL.nil (K.ac (K.seq (T.region ?_))); refine TL.y (Yv.ao rfl rfl rfl (by omega)) ?_; refine TL.run 1 rfl ?_; refine TL.nil ?_; rw [← hn6] at hk; refine K.pick [2, 1, 0, 5, 3] rfl (by decide) ?_; exact K.next ((i_7 + 1), r34, v34_0_0) ⟨hk, inferInstance⟩ (by dsimp only; omega) (.c (.c (.c (.c (.c (.c .nil)))))) (List.Sublist.refl _)
          · have p8 := of_decide_eq_false h8; rw [zar (by omega), ← hkk6] at hk; (try dsimp only at hk); refine T.exit (K.ab (K.ab (K.ad ?_))); exact K.ag (c_5, vc_5) ⟨hk, inferInstance⟩ (.c (.c (.c .nil))) (List.Sublist.refl _)
      · rintro ⟨c_3, vc_3⟩ ⟨hk, oc_3⟩; (try dsimp only at *); rw [← hk4] at hk; (try dsimp only at hk); refine T.seq (T.sr ?_); refine TL.y (Yv.fieldAddr rfl rfl) ?_; refine TL.y (Yv.fieldAddr rfl rfl) ?_; refine TL.y (Yv.aa 3 rfl rfl rfl rfl) ?_; refine TL.y (Yv.al rfl rfl hp_2 (List.length_map _)) ?_; have hm39 : p.Rules.Loads.length ≤ 9223372036854775807 := (List.length_map _) ▸ hp_2.max; refine TL.run 1 rfl ?_; refine TL.ns ?_; have hq := zae hk; clear hk; obtain ⟨k10, hk10, hk⟩ := hq; (try dsimp only at hk); refine T.ah (ι := List Int × Value) (fun z => [(6, .pointer (some ⟨g6, 0, none⟩))]) (fun z => [.sl z.2 3 1 z.1.length (z.1.flatMap eI), .row g6 44 [z.2], .fr F1]) (fun z => k10 z.1 = some r ∧ OneC z.2) ?_ ?_
        · have hq := zaj hk; clear hk; obtain ⟨f12, kk12, hf12, hkk12, hk⟩ := hq; refine T.block ?_; refine T.pick [0, 1, 2, 4] rfl (by decide) ?_; refine T.loop (ι := Nat × List Int × Value) (fun z => [(6, .pointer (some ⟨g6, 0, none⟩)), (7, .func (.func 105) #[] #[.pointer (some ⟨g3, 0, none⟩), .pointer (some ⟨g6, 0, none⟩)]), (38, vp_2), (39, .int .i64 (p.Rules.Loads.length : Int)), (40, .int .i64 (z.1 : Int))]) (fun z => [.sl z.2.2 3 1 z.2.1.length (z.2.1.flatMap eI), .row g6 44 [z.2.2], .row g3 3 [.int .i64 station], .fr F1]) (fun z => zah f12 kk12 (p.Rules.Loads.length - z.1) z.1 z.2.1 = some r ∧ OneC z.2.2) (fun z => p.Rules.Loads.length - z.1) (0, c_3, vc_3) ?_ ?_ ?_ ?_
          · exact ⟨hk, inferInstance⟩
          · exact (.c (.c (.c (.c (.c .nil)))))
          · exact List.Sublist.refl _
          · rintro ⟨i_13, c_11, vc_11⟩ ⟨hk, oc_11⟩; (try dsimp only at *); refine T.sr ?_; refine TL.run 1 rfl ?_; refine TL.ns (T.seq ?_); refine T.cond rfl (fun h14 => ?_) (fun h14 => ?_)
            · have p14 := of_decide_eq_true h14; rw [zaq (by omega)] at hk; generalize hn12 : zah f12 kk12 (p.Rules.Loads.length - (i_13 + 1)) (i_13 + 1) = next12 at hk; rw [← hf12] at hk; (try dsimp only at hk); refine T.skip (K.seq (T.seq (T.block (T.sr ?_)))); refine TL.y (Yv.ak (i := i_13) rfl rfl rfl hp_2 (List.length_map _) rfl (by omega)) ?_; refine TL.y (Yv.an 3 (i := i_13) rfl rfl rfl hp_2 (by omega) rfl rfl rfl) ?_; refine TL.e (Ew.alloc rfl) ?_; rintro _ _ ⟨g11, rfl, rfl⟩; refine TL.e0 (Ew.ai 0 rfl rfl rfl rfl rfl rfl) ?_; rintro _ _ ⟨rfl, rfl⟩; refine TL.ns ?_; have hq := zaf hk; clear hk; obtain ⟨r49, hr49, hk⟩ := hq; (try dsimp only at hk); refine T.region ?_; refine TL.run 1 rfl ?_; refine TL.y (Yv.fieldAddr rfl rfl) ?_; refine TL.y (Yv.aa 0 rfl rfl rfl rfl) ?_; refine TL.y (Yv.fieldAddr rfl rfl) ?_; refine TL.y (Yv.aa 0 rfl rfl rfl rfl) ?_; refine TL.e (Ew.as [3, 2, 1, 4, 0] [.row g3 3 [.int .i64 station], .row g6 44 [vc_11], .sl vc_11 3 1 c_11.length (c_11.flatMap eI)] [.row g11 70 [.int .i64 ((nth p.Rules.Loads i_13).To), .int .i64 ((nth p.Rules.Loads i_13).From), .int .i64 ((nth p.Rules.Loads i_13).Weight), .int .i64 ((nth p.Rules.Loads i_13).Low), .int .i64 ((nth p.Rules.Loads i_13).High)]] rfl rfl rfl rfl (by decide) (fun w hw hw2 hF => zcn _ w hF ((nth p.Rules.Loads i_13).To) ((nth p.Rules.Loads i_13).From) station g3 c_11 g6 vc_11 hw2.takes.1 hw2.takes.2 r49 hr49)) ?_; rintro _ _ ⟨v49_0_0, -, rfl, rfl⟩; dsimp only [List.cons_append, List.nil_append]; refine TL.aC 2 rfl ?_; intro iv49_0_0 hmv49_0_0; refine TL.nil (K.ac (K.seq (T.region ?_))); refine TL.y (Yv.ao rfl rfl rfl (by omega)) ?_; refine TL.run 1 rfl ?_; refine TL.nil ?_; rw [← hn12] at hk; refine K.pick [2, 1, 0, 3] rfl (by decide) ?_; exact K.next ((i_13 + 1), r49, v49_0_0) ⟨hk, inferInstance⟩ (by dsimp only; omega) (.c (.c (.c (.c (.c .nil))))) (List.Sublist.refl _)
            · have p14 := of_decide_eq_false h14; rw [zar (by omega), ← hkk12] at hk; (try dsimp only at hk); refine T.exit (K.ab (K.ab (K.ad ?_))); refine K.pick [0, 1, 3] rfl (by decide) ?_; exact K.ag (c_11, vc_11) ⟨hk, inferInstance⟩ (.c .nil) (List.Sublist.refl _)
        · rintro ⟨c_9, vc_9⟩ ⟨hk, oc_9⟩; (try dsimp only at *); rw [← hk10] at hk; (try dsimp only at hk); refine T.seq ?_; have hq := zaf hk; clear hk; obtain ⟨r52, hr52, hk⟩ := hq; (try dsimp only at hk); refine T.region ?_; refine TL.y (Yv.aa 1 rfl rfl rfl rfl) ?_; refine TL.e (Ew.as [0, 2, 1] [.sl vc_9 3 1 c_9.length (c_9.flatMap eI)] [.row g6 44 [vc_9]] rfl rfl rfl rfl (by decide) (fun w hw hw2 hF => zgQ _ w hF c_9 vc_9 hw2.takes.1 hw2.takes.2 r52 hr52)) ?_; rintro _ _ ⟨⟨⟩, -, rfl, rfl⟩; dsimp only [List.cons_append, List.nil_append]; refine TL.nx ?_; refine TL.y (Yv.aa 2 rfl rfl rfl rfl) ?_; refine TL.e (Ew.as [0, 1, 2] [.sl vc_9 3 1 r52.length (r52.flatMap eI)] [.row g6 44 [vc_9]] rfl rfl rfl rfl (by decide) (fun w hw hw2 hF => zgH _ w hF r52 vc_9 hw2.takes.1 hw2.takes.2)) ?_; rintro v54_0_0 _ ⟨_, -, rfl, rfl⟩; dsimp only [List.cons_append, List.nil_append]; refine TL.aC 0 rfl ?_; intro iv54_0_0 hmv54_0_0; refine TL.run 2 rfl ?_; refine TL.ns (T.ret ?_); refine K.ay (fun w hw => hw.freezeS (i := 1) (j := 0) (by decide) rfl rfl) ?_; rintro F2 ⟨le1_2, hz2⟩; dsimp only [List.set, List.eraseIdx]; have hf2 := hz2.toF rfl (fun _ => rfl); haveI := hf2.oneC; obtain rfl := Option.some.inj hk; exact K.aL rfl rfl rfl (fun w' hw => ⟨v54_0_0, F2.toFrz, hf2, rfl, Fx.of hw (i := 0) rfl hS0 le1_2⟩)
end Go.Proofs.YtipomhejoajjdaaGreat
