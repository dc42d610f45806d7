/- Plain laws on works: every start is 0 or an earlier end; no place is overfull; how long the works take. -/
import Derived.Test.YtphpmjnpjnmdmaaL3
set_option maxRecDepth 100000
set_option maxHeartbeats 4000000
set_option linter.unusedSimpArgs false
set_option linter.unusedVariables false
set_option linter.unusedSectionVars false
namespace Go.Proofs.Ytphpmjnpjnmdmaa
open Go.RowKit
/-- What move j adds at a place in a week. -/
def useJ (xs : List Mv) (ws : List Wk) (week : Int) (q : Pl) (j : Nat) : Prop := (plOf (nth xs j) (if q.1 = true then 1 else 0)).2 = q.2 ∧ (nth ws j).start ≤ week ∧ week < (nth ws j).fin
theorem used_drop {xs : List Mv} {ws : List Wk} {t : Int} {q : Pl} : ∀ n, usedN xs ws (t + 1) q n < usedN xs ws t q n → ∃ j, j < n ∧ (nth ws j).fin = t + 1
  | 0, h => by simp [usedN] at h
  | n + 1, h => by
    rw [usedN, usedN] at h
    by_cases hn : (nth ws n).fin = t + 1
    · exact ⟨n, by omega, hn⟩
    · have : usedN xs ws (t + 1) q n < usedN xs ws t q n := by
        revert h
        split <;> split <;> intro h <;> omega
      obtain ⟨j, h1, h2⟩ := used_drop n this
      exact ⟨j, by omega, h2⟩
theorem plOf_snd (m : Mv) (b : Bool) : (plOf m (if b = true then 1 else 0)) = (b, (plOf m (if b = true then 1 else 0)).2) := by cases b <;> rfl
theorem freeR_at {f : Int → Bool} {s t : Int} {n : Nat} (h : freeR f s n = true) (h1 : s ≤ t) (h2 : t < s + n) : f t = true := by
  have := (List.all_eq_true.1 h) (t - s).toNat (by simp; omega)
  rwa [show s + ((t - s).toNat : Int) = t from by omega] at this
/-- Where a start is not 0, an earlier work ends there. -/
theorem WInv.start_end {xs : List Mv} {ts cs : List Si} {ws : List Wk} (h : WInv xs ts cs ws) {k : Nat} (hk : k < ws.length) (hwk : 1 ≤ (nth xs k).wk) (h0 : (nth ws k).start ≠ 0) : ∃ j, j < k ∧ (nth ws j).fin = (nth ws k).start := by
  obtain ⟨hge, hfree, hleast⟩ := h.first k hk
  generalize (nth ws k).start = s at hge hfree hleast h0 ⊢
  have hno := hleast (s - 1) (by omega) (by omega)
  have hs1 : freeW xs ws ts cs k s = true := freeR_at hfree (by omega) (by omega)
  have hs0 : freeW xs ws ts cs k (s - 1) = false := by
    cases hf : freeW xs ws ts cs k (s - 1) with
    | false => rfl
    | true =>
      have : freeR (freeW xs ws ts cs k) (s - 1) (nth xs k).wk.toNat = true := range_true fun d hd => by
        rcases (by omega : d = 0 ∨ 0 < d) with rfl | hd0
        · simpa using hf
        · exact freeR_at hfree (by omega) (by omega)
      rw [this] at hno; cases hno
  have hx : s - 1 + 1 = s := by omega
  simp [freeW] at hs1 hs0
  rcases (by omega : usedN xs ws s (false, (nth xs k).tw) k < usedN xs ws (s - 1) (false, (nth xs k).tw) k ∨ usedN xs ws s (true, (nth xs k).cr) k < usedN xs ws (s - 1) (true, (nth xs k).cr) k) with e | e
  · rw [← hx] at e; obtain ⟨j, h1, h2⟩ := used_drop k (by rw [hx] at e ⊢; exact e); exact ⟨j, h1, by omega⟩
  · rw [← hx] at e; obtain ⟨j, h1, h2⟩ := used_drop k (by rw [hx] at e ⊢; exact e); exact ⟨j, h1, by omega⟩
/-- No place is overfull. -/
theorem WInv.used_le {xs : List Mv} {ts cs : List Si} {ws : List Wk} (h : WInv xs ts cs ws) {q : Pl} (hq : 0 ≤ capP ts cs q) (t : Int) : ∀ n, n ≤ ws.length → usedN xs ws t q n ≤ capP ts cs q
  | 0, _ => by simpa [usedN] using hq
  | n + 1, hn => by
    have ih := h.used_le hq t n (by omega)
    rw [usedN]
    by_cases hu : (plOf (nth xs n) (if q.1 = true then 1 else 0)).2 = q.2 ∧ (nth ws n).start ≤ t ∧ t < (nth ws n).fin
    · rw [if_pos hu]
      have hf := h.first n (by omega)
      have hfin := h.fin n (by omega)
      have hfr := freeR_at hf.free hu.2.1 (by omega)
      obtain ⟨b, i⟩ := q
      have hi := hu.1
      simp [freeW] at hfr
      cases b
      · simp [plOf] at hi
        subst hi
        have e : capP ts cs (false, (nth xs n).tw) = capOf ts (nth xs n).tw := rfl
        omega
      · simp [plOf] at hi
        subst hi
        have e : capP ts cs (true, (nth xs n).cr) = capOf cs (nth xs n).cr := rfl
        omega
    · rw [if_neg hu]; omega
/-- The weeks of the first n moves. -/
def sumW (xs : List Mv) : Nat → Int
  | 0 => 0
  | n + 1 => sumW xs n + (nth xs n).wk
theorem sumW_mono {xs : List Mv} (hwk : ∀ k, k < xs.length → 1 ≤ (nth xs k).wk) : ∀ m n, n ≤ m → m ≤ xs.length → sumW xs n ≤ sumW xs m
  | 0, n, h, _ => by rw [show n = 0 by omega]; omega
  | m + 1, n, h, hm => by
    rcases (by omega : n = m + 1 ∨ n ≤ m) with rfl | e
    · omega
    · have := sumW_mono hwk m n e (by omega)
      have := hwk m (by omega)
      rw [sumW]; omega
theorem sumW_le {xs : List Mv} (hwk : ∀ k, k < xs.length → 1 ≤ (nth xs k).wk ∧ (nth xs k).wk ≤ 52) : ∀ n : Nat, n ≤ xs.length → 0 ≤ sumW xs n ∧ sumW xs n ≤ 52 * n
  | 0, _ => by simp [sumW]
  | n + 1, h => by
    have := sumW_le hwk n (by omega)
    have := hwk n (by omega)
    rw [sumW]; omega
theorem WInv.fin_le {xs : List Mv} {ts cs : List Si} {ws : List Wk} (h : WInv xs ts cs ws) (hl : ws.length = xs.length) (hwk : ∀ k, k < xs.length → 1 ≤ (nth xs k).wk) : ∀ k, k < ws.length → (nth ws k).fin ≤ sumW xs (k + 1) := by
  intro k
  induction k using Nat.strongRecOn with
  | ind k ih =>
    intro hk
    have hf := h.fin k hk
    by_cases h0 : (nth ws k).start = 0
    · have := sumW_mono hwk k 0 (by omega) (by omega)
      simp [sumW] at this
      rw [sumW]; omega
    · obtain ⟨j, h1, h2⟩ := h.start_end hk (hwk k (by omega)) h0
      have h3 := ih j h1 (by omega)
      have h4 := sumW_mono hwk k (j + 1) (by omega) (by omega)
      rw [sumW]; omega
theorem mx_at (g : Nat → Int) : ∀ n k, k < n → g k ≤ mx g n
  | 0, k, h => by omega
  | n + 1, k, h => by
    rw [mx]
    rcases (by omega : k = n ∨ k < n) with rfl | e
    · omega
    · have := mx_at g n k e; omega
theorem WInv.len_le {xs : List Mv} {ts cs : List Si} {ws : List Wk} (h : WInv xs ts cs ws) (hl : ws.length = xs.length) (hwk : ∀ k, k < xs.length → 1 ≤ (nth xs k).wk) : lenM ws ≤ sumW xs xs.length := by
  have h0 := sumW_mono hwk xs.length 0 (by omega) (by omega)
  simp [sumW] at h0
  refine mx_le _ _ h0 _ fun k hk => ?_
  have h1 := h.fin_le hl hwk k hk
  have h2 := sumW_mono hwk xs.length (k + 1) (by omega) (by omega)
  omega
/-! ### Moves that fit start at 0 -/
theorem RP_succ (xs : List Mv) (f : Mv → Int) (n : Nat) (q : Pl) : RP xs f (n + 1) q = RP xs f n q + if (plOf (nth xs n) (if q.1 = true then 1 else 0)).2 = q.2 then f (nth xs n) else 0 := by
  obtain ⟨b, i⟩ := q
  cases b <;> rfl
theorem used_RP (xs : List Mv) (ws : List Wk) (t : Int) (q : Pl) : ∀ n, usedN xs ws t q n ≤ RP xs one n q
  | 0 => by obtain ⟨b, i⟩ := q; cases b <;> exact Int.le_refl _
  | n + 1 => by
    have ih := used_RP xs ws t q n
    rw [usedN, RP_succ]
    by_cases h : (plOf (nth xs n) (if q.1 = true then 1 else 0)).2 = q.2
    · rw [if_pos h]; simp only [one]; split <;> omega
    · rw [if_neg h, if_neg (fun c => h c.1)]; omega
theorem RP_mono (xs : List Mv) (q : Pl) (m : Nat) : ∀ n, RP xs one m q ≤ RP xs one (m + n) q
  | 0 => Int.le_refl _
  | n + 1 => by
    have ih := RP_mono xs q m n
    rw [show m + (n + 1) = m + n + 1 from rfl, RP_succ]
    simp only [one]
    split <;> omega
theorem fits_free {xs : List Mv} {ts cs : List Si} (h : fitsM xs ts cs = true) (ws : List Wk) {k : Nat} (hk : k < xs.length) (t : Int) : freeW xs ws ts cs k t = true := by
  have key : ∀ i, i < 2 → RP xs one k (plOf (nth xs k) i) + 1 ≤ capP ts cs (plOf (nth xs k) i) := fun i hi => by
    have h1 := List.all_eq_true.1 h (2 * k + i) (by simp; omega)
    simp only [decide_eq_true_eq] at h1
    rw [hp_at xs k i hi, SS_RP] at h1
    have h2 := RP_mono xs (plOf (nth xs k) i) (k + 1) (xs.length - (k + 1))
    rw [show k + 1 + (xs.length - (k + 1)) = xs.length by omega, RP_succ] at h2
    have h3 : (plOf (nth xs k) (if (plOf (nth xs k) i).1 = true then 1 else 0)).2 = (plOf (nth xs k) i).2 := by
      rcases (by omega : i = 0 ∨ i = 1) with rfl | rfl <;> rfl
    rw [if_pos h3] at h2
    simp only [one] at h2 h1 ⊢
    omega
  have k0 := key 0 (by omega)
  have k1 := key 1 (by omega)
  have u0 := used_RP xs ws t (plOf (nth xs k) 0) k
  have u1 := used_RP xs ws t (plOf (nth xs k) 1) k
  rw [capP0] at k0
  rw [capP1] at k1
  rw [plOf_zero] at k0 u0
  rw [plOf_one] at k1 u1
  simp [freeW]
  omega
theorem WInv.fits_zero {xs : List Mv} {ts cs : List Si} {ws : List Wk} (h : WInv xs ts cs ws) (hl : ws.length = xs.length) (hf : fitsM xs ts cs = true) {k : Nat} (hk : k < ws.length) : (nth ws k).start = 0 := by
  obtain ⟨hge, hfree, hleast⟩ := h.first k hk
  rcases (by omega : (nth ws k).start = 0 ∨ 0 < (nth ws k).start) with e | e
  · exact e
  · have := hleast 0 (by omega) e
    rw [show freeR (freeW xs ws ts cs k) 0 (nth xs k).wk.toNat = true from range_true fun d _ => fits_free hf ws (by omega) _] at this
    cases this
/-! ### The works are as long as the bound says -/
def sumT (g : Nat → Int) : Nat → Int
  | 0 => 0
  | n + 1 => sumT g n + g n
theorem sumT_add (f g : Nat → Int) : ∀ n, sumT (fun t => f t + g t) n = sumT f n + sumT g n
  | 0 => rfl
  | n + 1 => by rw [sumT, sumT, sumT, sumT_add f g n]; omega
theorem sumT_le {g : Nat → Int} {c : Int} (h : ∀ t, g t ≤ c) : ∀ n : Nat, sumT g n ≤ n * c
  | 0 => by simp [sumT]
  | n + 1 => by
    have := sumT_le h n
    have := h n
    rw [sumT, show ((n + 1 : Nat) : Int) * c = n * c + c from by rw [Int.natCast_add, Int.add_mul]; simp]
    omega
theorem sumT_zero : ∀ n, sumT (fun _ => 0) n = 0
  | 0 => rfl
  | n + 1 => by rw [sumT, sumT_zero n]; rfl
theorem sumT_in {a b : Int} (ha : 0 ≤ a) (hab : a ≤ b) : ∀ n : Nat, sumT (fun t => if a ≤ (t : Int) ∧ (t : Int) < b then 1 else 0) n = max 0 (min b n - a)
  | 0 => by simp [sumT]; omega
  | n + 1 => by
    rw [sumT, sumT_in ha hab n]
    split <;> omega
theorem sum_used {xs : List Mv} {ws : List Wk} {L : Nat} {q : Pl} : ∀ n, (∀ j, j < n → 0 ≤ (nth ws j).start ∧ (nth ws j).fin = (nth ws j).start + (nth xs j).wk ∧ 0 ≤ (nth xs j).wk ∧ (nth ws j).fin ≤ L) → sumT (fun t => usedN xs ws (t : Int) q n) L = RP xs wks n q
  | 0, _ => by
    have : (fun t : Nat => usedN xs ws (t : Int) q 0) = fun _ => 0 := rfl
    rw [this, sumT_zero]
    obtain ⟨b, i⟩ := q; cases b <;> rfl
  | n + 1, h => by
    have ih := sum_used (q := q) n (fun j hj => h j (by omega))
    obtain ⟨h1, h2, h3, h4⟩ := h n (by omega)
    have e : (fun t : Nat => usedN xs ws (t : Int) q (n + 1)) = fun t : Nat => usedN xs ws (t : Int) q n + (if (plOf (nth xs n) (if q.1 = true then 1 else 0)).2 = q.2 ∧ (nth ws n).start ≤ (t : Int) ∧ (t : Int) < (nth ws n).fin then 1 else 0) := rfl
    rw [e, sumT_add, ih, RP_succ]
    by_cases hq : (plOf (nth xs n) (if q.1 = true then 1 else 0)).2 = q.2
    · have e2 : (fun t : Nat => (if (plOf (nth xs n) (if q.1 = true then 1 else 0)).2 = q.2 ∧ (nth ws n).start ≤ (t : Int) ∧ (t : Int) < (nth ws n).fin then (1 : Int) else 0)) = fun t : Nat => if (nth ws n).start ≤ (t : Int) ∧ (t : Int) < (nth ws n).fin then 1 else 0 := by
        funext t; simp only [hq, true_and]
      rw [e2, sumT_in h1 (by omega), if_pos hq]
      show _ = _ + (nth xs n).wk
      omega
    · have e2 : (fun t : Nat => (if (plOf (nth xs n) (if q.1 = true then 1 else 0)).2 = q.2 ∧ (nth ws n).start ≤ (t : Int) ∧ (t : Int) < (nth ws n).fin then (1 : Int) else 0)) = fun _ => 0 := by
        funext t; rw [if_neg (fun c => hq c.1)]
      rw [e2, sumT_zero, if_neg hq]
theorem WInv.bound_le {xs : List Mv} {ts cs : List Si} {ws : List Wk} (h : WInv xs ts cs ws) (hl : ws.length = xs.length) (hwk : ∀ k, k < xs.length → 1 ≤ (nth xs k).wk) (hc : ∀ k, k < xs.length → 1 ≤ capOf ts (nth xs k).tw ∧ 1 ≤ capOf cs (nth xs k).cr) : boundM xs ts cs ≤ lenM ws := by
  have hL := mx_nonneg (fun k => (nth ws k).fin) ws.length
  have hfin : ∀ j, j < ws.length → (nth ws j).fin ≤ lenM ws := fun j hj => le_mx (fun k => (nth ws k).fin) ws.length j hj
  obtain ⟨L, hLe⟩ : ∃ L : Nat, lenM ws = (L : Int) := ⟨(lenM ws).toNat, by unfold lenM; omega⟩
  have hq : ∀ q, 0 ≤ capP ts cs q → RP xs wks xs.length q ≤ lenM ws * capP ts cs q := fun q hq => by
    have e := sum_used (xs := xs) (ws := ws) (L := L) (q := q) xs.length (fun j hj => ⟨(h.first j (by omega)).ge, h.fin j (by omega), by have := hwk j hj; omega, by have := hfin j (by omega); omega⟩)
    rw [← e, hLe]
    exact sumT_le (fun t => h.used_le hq (t : Int) xs.length (by omega)) L
  refine mx_le _ _ (by unfold lenM; exact hL) _ fun k hk => ?_
  have c := hc k hk
  have f := hfin k (by omega)
  have f2 := h.fin k (by omega)
  have f3 := (h.first k (by omega)).ge
  have h1 : ceilD (RT xs wks xs.length (nth xs k).tw) (capOf ts (nth xs k).tw) ≤ lenM ws := (ceilD_spec c.1).2 (hq (false, (nth xs k).tw) (by show 0 ≤ capOf ts (nth xs k).tw; omega))
  have h2 : ceilD (RC xs wks xs.length (nth xs k).cr) (capOf cs (nth xs k).cr) ≤ lenM ws := (ceilD_spec c.2).2 (hq (true, (nth xs k).cr) (by show 0 ≤ capOf cs (nth xs k).cr; omega))
  unfold stepK
  omega
/-- Whether work k starts at 0 or where one of the first j works ends. -/
def tB (ws : List Wk) (k : Nat) : Nat → Bool
  | 0 => decide ((nth ws k).start = 0)
  | j + 1 => tB ws k j || decide ((nth ws j).fin = (nth ws k).start)
theorem tB_of {ws : List Wk} {k j : Nat} (h : (nth ws j).fin = (nth ws k).start) : ∀ n, j < n → tB ws k n = true
  | 0, h => by omega
  | n + 1, hj => by
    rw [tB]
    rcases (by omega : j = n ∨ j < n) with rfl | e
    · simp [h]
    · simp [tB_of h n e]
theorem tB_zero {ws : List Wk} {k : Nat} (h : (nth ws k).start = 0) : ∀ n, tB ws k n = true
  | 0 => by simp [tB, h]
  | n + 1 => by rw [tB, tB_zero h n]; rfl
theorem WInv.tB {xs : List Mv} {ts cs : List Si} {ws : List Wk} (h : WInv xs ts cs ws) {k : Nat} (hk : k < ws.length) (hwk : 1 ≤ (nth xs k).wk) : tB ws k k = true := by
  by_cases h0 : (nth ws k).start = 0
  · exact tB_zero h0 k
  · obtain ⟨j, h1, h2⟩ := h.start_end hk hwk h0
    exact tB_of h2 k h1
theorem wcells_at {ws : List Wk} {k : Nat} (h : k < ws.length) : ((wcells ws).drop (0 + k * 3)).take 3 = [.int .i64 (nth ws k).st, .int .i64 (nth ws k).start, .int .i64 (nth ws k).fin] := by
  apply List.ext_getElem?
  intro j
  rw [List.getElem?_take]
  by_cases hj : j < 3
  · rw [if_pos hj, List.getElem?_drop, Nat.zero_add]
    have := flat_get Wk.cells 3 wk3 ws k h j hj
    rw [nth_eq h]
    exact this
  · rw [if_neg hj]
    exact (List.getElem?_eq_none (by simp; omega)).symm
theorem wcell_fin {ws : List Wk} {k : Nat} (h : k < ws.length) : (wcells ws)[0 + k * 3 + 2]? = some (.int .i64 (nth ws k).fin) := by
  have := flat_get Wk.cells 3 wk3 ws k h 2 (by omega)
  rw [Nat.zero_add, nth_eq h]
  exact this
theorem wcell_start {ws : List Wk} {k : Nat} (h : k < ws.length) : (wcells ws)[0 + k * 3 + 1]? = some (.int .i64 (nth ws k).start) := by
  have := flat_get Wk.cells 3 wk3 ws k h 1 (by omega)
  rw [Nat.zero_add, nth_eq h]
  exact this
section
variable {n : Nat} {B D : World} {M : Nat → Prop} {Q : Exit → Act → World → Prop} {fs : SFs} {hs hs' : HS} {e : Exit}
theorem K.perm (p : hs.Perm hs') (h : K n B D M Q e fs hs') : K n B D M Q e fs hs := ⟨fun a w ha hw hm => h.out a w ha (hw.perm p) hm⟩
end
end Go.Proofs.Ytphpmjnpjnmdmaa
