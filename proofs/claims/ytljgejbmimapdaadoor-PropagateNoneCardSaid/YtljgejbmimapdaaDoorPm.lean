/- Plain laws: what is removed once is removed from every smaller state; states that are settled. -/
import Derived.Test.YtljgejbmimapdaaDoorM7
set_option linter.unusedVariables false
set_option linter.unusedSimpArgs false
namespace Go.Proofs.YtljgejbmimapdaaDoor
open Go.RowKit
theorem foldBit {α : Type} {f : BitVec 64 → α → BitVec 64} {h : α → Bool} {j : Nat} (hf : ∀ g x, (f g x).getLsbD j = (g.getLsbD j || h x)) : ∀ (l : List α) (g : BitVec 64), (l.foldl f g).getLsbD j = (g.getLsbD j || l.any h)
  | [], g => by simp
  | x :: r, g => by rw [List.foldl_cons, foldBit hf r, hf, List.any_cons, Bool.or_assoc]
theorem foldBitM {α : Type} {f : BitVec 64 → α → BitVec 64} {h : α → Bool} {j : Nat} : ∀ (l : List α) (g : BitVec 64), (∀ x ∈ l, ∀ g, (f g x).getLsbD j = (g.getLsbD j || h x)) → (l.foldl f g).getLsbD j = (g.getLsbD j || l.any h)
  | [], g, _ => by simp
  | x :: r, g, hf => by rw [List.foldl_cons, foldBitM r _ (fun y hy => hf y (by simp [hy])), hf x (by simp), List.any_cons, Bool.or_assoc]
theorem one_bit {c j : Nat} (hj : j < 64) : (1#64 <<< c).getLsbD j = decide (c = j) := by
  rw [BitVec.getLsbD_shiftLeft, BitVec.getLsbD_one]
  by_cases h : c = j
  · subst h; simp [hj]
  · by_cases h2 : j < c
    · simp [h2, h]
    · simp [hj, h]; omega
theorem or_bit {g : BitVec 64} {c j : Nat} (hj : j < 64) : (g ||| 1#64 <<< c).getLsbD j = (g.getLsbD j || decide (c = j)) := by rw [BitVec.getLsbD_or, one_bit hj]
def pairHit (L : Ws) (i j : Nat) (x : Pr) : Bool :=
  if x.a = (i : Int) then decide ((only L x.b.toNat : Int) ≠ 0 ∧ x.lo ≤ (only L x.b.toNat : Int) - x.off ∧ (only L x.b.toNat : Int) - x.off ≤ x.hi ∧ ((only L x.b.toNat : Int) - x.off).toNat = j)
  else decide (x.lo ≤ (only L x.a.toNat : Int) ∧ (only L x.a.toNat : Int) ≤ x.hi ∧ ((only L x.a.toNat : Int) + x.off).toNat = j)
theorem pairs_bit {Y : Tb} {L : Ws} {i j : Nat} (hj : j < 64) : (pairsF Y L i).getLsbD j = (Y.ps i).any (pairHit L i j) := by
  unfold pairsF
  rw [foldBit (h := pairHit L i j) (fun g x => ?_), BitVec.getLsbD_zero, Bool.false_or]
  unfold pairStep pairHit
  split
  · split
    · rename_i h; rw [or_bit hj]; congr 1; exact decide_eq_decide.2 ⟨fun hh => ⟨h.1, h.2.1, h.2.2, hh⟩, fun hh => hh.2.2.2⟩
    · rename_i h
      have : ¬ ((only L x.b.toNat : Int) ≠ 0 ∧ x.lo ≤ (only L x.b.toNat : Int) - x.off ∧ (only L x.b.toNat : Int) - x.off ≤ x.hi ∧ ((only L x.b.toNat : Int) - x.off).toNat = j) := fun hh => h ⟨hh.1, hh.2.1, hh.2.2.1⟩
      rw [decide_eq_false this, Bool.or_false]
  · split
    · rename_i h; rw [or_bit hj]; simp [h]
    · rename_i h
      have : ¬ (x.lo ≤ (only L x.a.toNat : Int) ∧ (only L x.a.toNat : Int) ≤ x.hi ∧ ((only L x.a.toNat : Int) + x.off).toNat = j) := fun hh => h ⟨hh.1, hh.2.1⟩
      rw [decide_eq_false this, Bool.or_false]
theorem capStep_bit {f : Nat → Int} {g : BitVec 64} {x : Cp} {j : Nat} (hj : j < 64) (hlo : 0 ≤ x.lo) (hhi : 0 ≤ x.hi) : (capStep f g x).getLsbD j = (g.getLsbD j || decide (x.lo ≤ (j : Int) ∧ (j : Int) ≤ x.hi ∧ x.mx < f j)) := by
  unfold capStep
  rw [foldBit (h := fun d => decide (x.mx < f d) && decide (d = j)) (fun g d => ?_)]
  · congr 1
    rw [Bool.eq_iff_iff, List.any_eq_true, decide_eq_true_eq]
    constructor
    · rintro ⟨d, hd, h⟩
      obtain ⟨h1, h2⟩ := List.mem_range'_1.1 hd
      simp only [Bool.and_eq_true, decide_eq_true_eq] at h
      obtain ⟨h3, rfl⟩ := h
      exact ⟨by omega, by omega, h3⟩
    · rintro ⟨h1, h2, h3⟩
      exact ⟨j, List.mem_range'_1.2 ⟨by omega, by omega⟩, by simp [h3]⟩
  · unfold capBit
    split
    · rename_i h; rw [or_bit hj]; simp [h]
    · rename_i h; simp [h]
theorem caps_bit {Y : Tb} {L : Ws} {i j : Nat} (hok : Y.Ok) (hi : i < Y.n) (hj : j < 64) : (capsF Y L i).getLsbD j = (Y.cs i).any fun x => decide (x.lo ≤ (j : Int) ∧ (j : Int) ≤ x.hi ∧ x.mx < lossOf L (Y.inn i) j) := by
  unfold capsF
  rw [foldBitM (h := fun x => decide (x.lo ≤ (j : Int) ∧ (j : Int) ≤ x.hi ∧ x.mx < lossOf L (Y.inn i) j)) _ _ (fun x hx g => by have := (hok.cs i hi).2 x hx; exact capStep_bit hj (by omega) (by omega)), BitVec.getLsbD_zero, Bool.false_or]
def loadHit (Y : Tb) (L : Ws) (i j : Nat) (x : Ld) : Bool := decide (x.lo ≤ (only L x.to.toNat : Int) ∧ (only L x.to.toNat : Int) ≤ x.hi ∧ only L x.to.toNat = j ∧ ∃ c ∈ Y.cs x.to.toNat, (c.lo ≤ (j : Int) ∧ (j : Int) ≤ c.hi) ∧ c.mx < sumOf L i j (Y.inn x.to.toNat))
theorem lim_bit {lost : Int} {d j : Nat} {l : List Cp} {g : BitVec 64} (hj : j < 64) : (l.foldl (limStep lost d) g).getLsbD j = (g.getLsbD j || (decide (d = j) && decide (∃ c ∈ l, (c.lo ≤ (d : Int) ∧ (d : Int) ≤ c.hi) ∧ c.mx < lost))) := by
  rw [foldBit (h := fun c => decide (d = j) && decide ((c.lo ≤ (d : Int) ∧ (d : Int) ≤ c.hi) ∧ c.mx < lost)) (fun g c => ?_)]
  · congr 1
    rw [Bool.eq_iff_iff, List.any_eq_true]
    simp only [Bool.and_eq_true, decide_eq_true_eq]
    constructor
    · rintro ⟨c, hc, h1, h2⟩; exact ⟨h1, c, hc, h2⟩
    · rintro ⟨h1, c, hc, h2⟩; exact ⟨c, hc, h1, h2⟩
  · unfold limStep
    split
    · rename_i h; rw [or_bit hj]; simp [h]
    · rename_i h; simp [h]
theorem loads_bit {Y : Tb} {L : Ws} {i j : Nat} (hj : j < 64) : (loadsF Y L i).getLsbD j = (Y.out i).any (loadHit Y L i j) := by
  unfold loadsF
  rw [foldBit (h := loadHit Y L i j) (fun g x => ?_), BitVec.getLsbD_zero, Bool.false_or]
  unfold loadStep
  split
  · rename_i h
    rcases h with h | h
    · rw [show loadHit Y L i j x = false from decide_eq_false (fun hh => by omega), Bool.or_false]
    · cases hh : loadHit Y L i j x with
      | false => rw [Bool.or_false]
      | true =>
        have := of_decide_eq_true hh
        rw [this.2.2.1] at h
        rw [h]; rfl
  · rename_i h
    rw [lim_bit hj]
    congr 1
    unfold loadHit
    rw [Bool.eq_iff_iff]
    simp only [Bool.and_eq_true, decide_eq_true_eq]
    constructor
    · rintro ⟨rfl, hc⟩
      exact ⟨by omega, by omega, rfl, hc⟩
    · rintro ⟨_, _, rfl, hc⟩
      exact ⟨rfl, hc⟩
/-- Every channel of S is one of M. -/
def Le' (S M : Ws) : Prop := ∀ i j, (nth S i).getLsbD j = true → (nth M i).getLsbD j = true
theorem only_mono {a b : BitVec 64} (hs : ∀ j, a.getLsbD j = true → b.getLsbD j = true) (ha : a ≠ 0#64) (h : onlyB b ≠ 0) : onlyB a = onlyB b := by
  by_cases e : a = b
  · rw [e]
  · exact absurd (two_bits hs e ha) h
section
variable {Y : Tb} {S M : Ws}
theorem onlyW (hle : Le' S M) (hne : ∀ i, i < Y.n → nth S i ≠ 0#64) {k : Nat} (hk : k < Y.n) (h : only M k ≠ 0) : only S k = only M k := only_mono (hle k) (hne k hk) h
theorem loss_mono (hok : Y.Ok) (hle : Le' S M) (hne : ∀ i, i < Y.n → nth S i ≠ 0#64) {d : Nat} (hd : d ≠ 0) : ∀ (l : List Ld), (∀ x ∈ l, 0 ≤ x.fr ∧ x.fr < Y.n ∧ 1 ≤ x.wt) → ∀ f f' : Nat → Int, f d ≤ f' d → l.foldl (lossStep M) f d ≤ l.foldl (lossStep S) f' d
  | [], _, f, f', h => h
  | x :: r, hx, f, f', h => by
    rw [List.foldl_cons, List.foldl_cons]
    refine loss_mono hok hle hne hd r (fun y hy => hx y (by simp [hy])) _ _ ?_
    have h1 := hx x (by simp)
    unfold lossStep
    by_cases hh : x.lo ≤ (only M x.fr.toNat : Int) ∧ (only M x.fr.toNat : Int) ≤ x.hi ∧ only M x.fr.toNat = d
    · have e := onlyW (Y := Y) hle hne (k := x.fr.toNat) (by omega) (by omega)
      rw [if_pos hh, if_pos (by rw [e]; exact hh)]; omega
    · rw [if_neg hh]; split <;> omega
theorem sum_mono (hok : Y.Ok) (hle : Le' S M) (hne : ∀ i, i < Y.n → nth S i ≠ 0#64) {i d : Nat} (hd : d ≠ 0) : ∀ (l : List Ld), (∀ x ∈ l, 0 ≤ x.fr ∧ x.fr < Y.n ∧ 1 ≤ x.wt) → ∀ s s' : Int, s ≤ s' → l.foldl (sumStep M i d) s ≤ l.foldl (sumStep S i d) s'
  | [], _, s, s', h => h
  | x :: r, hx, s, s', h => by
    rw [List.foldl_cons, List.foldl_cons]
    refine sum_mono hok hle hne hd r (fun y hy => hx y (by simp [hy])) _ _ ?_
    have h1 := hx x (by simp)
    unfold sumStep
    by_cases hh : (x.lo ≤ (d : Int) ∧ (d : Int) ≤ x.hi) ∧ (x.fr = (i : Int) ∨ only M x.fr.toNat = d)
    · rw [if_pos hh, if_pos ⟨hh.1, by
        rcases hh.2 with h2 | h2
        · exact .inl h2
        · exact .inr (by rw [onlyW (Y := Y) hle hne (k := x.fr.toNat) (by omega) (by omega)]; exact h2)⟩]
      omega
    · rw [if_neg hh]; split <;> omega
/-- What is removed from M is removed from every smaller state without an empty domain. -/
theorem gone_mono (hok : Y.Ok) (hle : Le' S M) (hne : ∀ i, i < Y.n → nth S i ≠ 0#64) {i j : Nat} (hi : i < Y.n) (h : (goneF Y M i).getLsbD j = true) : (goneF Y S i).getLsbD j = true := by
  have hj : j < 64 := BitVec.lt_of_getLsbD h
  unfold goneF at h ⊢
  rw [BitVec.getLsbD_or, BitVec.getLsbD_or, pairs_bit hj, caps_bit hok hi hj, loads_bit hj, Bool.or_eq_true, Bool.or_eq_true, List.any_eq_true, List.any_eq_true, List.any_eq_true] at h ⊢
  rcases h with (⟨x, hx, h⟩ | ⟨x, hx, h⟩) | ⟨x, hx, h⟩
  · refine .inl (.inl ⟨x, hx, ?_⟩)
    have hr := (hok.ps i hi).2 x hx
    unfold pairHit at h ⊢
    split at h
    · rename_i ha
      rw [if_pos ha]
      have h1 := of_decide_eq_true h
      have e := onlyW (Y := Y) hle hne (k := x.b.toNat) (by omega) (by omega)
      rw [e]; exact h
    · rename_i ha
      rw [if_neg ha]
      have h1 := of_decide_eq_true h
      have e := onlyW (Y := Y) hle hne (k := x.a.toNat) (by omega) (by omega)
      rw [e]; exact h
  · refine .inl (.inr ⟨x, hx, ?_⟩)
    have hr := (hok.cs i hi).2 x hx
    have h1 := of_decide_eq_true h
    have hm := loss_mono hok hle hne (d := j) (by omega) (Y.inn i) (fun y hy => by have := (hok.inn i hi).2 y hy; omega) (fun _ => 0) (fun _ => 0) (Int.le_refl _)
    exact decide_eq_true ⟨h1.1, h1.2.1, by have : lossOf M (Y.inn i) j ≤ lossOf S (Y.inn i) j := hm; omega⟩
  · refine .inr ⟨x, hx, ?_⟩
    have hr := (hok.out i hi).2 x hx
    have h1 := of_decide_eq_true h
    obtain ⟨h2, h3, h4, c, hc, h5, h6⟩ := h1
    have e := onlyW (Y := Y) hle hne (k := x.to.toNat) (by omega) (by omega)
    have hm := sum_mono hok hle hne (i := i) (d := j) (by omega) (Y.inn x.to.toNat) (fun y hy => by have := (hok.inn _ (show x.to.toNat < Y.n by omega)).2 y hy; omega) 0 0 (Int.le_refl _)
    exact decide_eq_true ⟨by rw [e]; exact h2, by rw [e]; exact h3, by rw [e]; exact h4, c, hc, h5, by have : sumOf M i j (Y.inn x.to.toNat) ≤ sumOf S i j (Y.inn x.to.toNat) := hm; omega⟩
/-- A settled state without an empty domain. -/
structure Closed (Y : Tb) (S : Ws) : Prop where
  len : S.length = Y.n
  calm : ∀ i, i < Y.n → Calm1 Y S i
theorem Closed.ne (h : Closed Y S) : ∀ i, i < Y.n → nth S i ≠ 0#64 := fun i hi => (h.calm i hi).1
theorem Closed.keep (hok : Y.Ok) (h : Closed Y S) {L : Ws} (hl : L.length = Y.n) (hle : Le' S L) (hr : Reach Y L M) : Le' S M := by
  induction hr with
  | refl => exact hle
  | @step M' k b hr hk hb ih =>
    intro i j hij
    rw [set_nth (by rw [hr.len, hl]; exact hk)]
    split
    · rename_i e
      subst e
      rw [BitVec.getLsbD_and, ih i j hij, BitVec.getLsbD_not, Bool.true_and]
      have hj : j < 64 := BitVec.lt_of_getLsbD hij
      cases hbj : b.getLsbD j with
      | false => simp [hj]
      | true =>
        have h1 := gone_mono hok ih h.ne hk (hb j hbj)
        have h2 := congrArg (fun v => BitVec.getLsbD v j) (h.calm i hk).2
        simp only [BitVec.getLsbD_and, BitVec.getLsbD_zero] at h2
        rw [hij, h1] at h2
        cases h2
    · exact ih i j hij
/-- The state that belongs to the channels T. -/
structure Is (Y : Tb) (T L : Ws) (c : Bool) : Prop where
  tlen : T.length = Y.n
  len : L.length = Y.n
  sub : Le' L T
  best : ∀ S, Closed Y S → Le' S T → Le' S L
  bad : c = true → ∃ i, i < Y.n ∧ nth L i = 0#64
  good : c = false → Closed Y L
theorem Is.of {T L : Ws} {c : Bool} (hok : Y.Ok) (hl : T.length = Y.n) (h : SPost Y T L c) : Is Y T L c :=
  ⟨hl, h.2.1, h.1.sub hl, fun S hS hle => hS.keep hok hl hle h.1, h.2.2.1, fun hc => ⟨h.2.1, h.2.2.2 hc⟩⟩
theorem Le'.antisymm (h1 : Le' S M) (h2 : Le' M S) (hl : S.length = M.length) : S = M := by
  apply List.ext_getElem hl
  intro i hi1 hi2
  have a1 := h1 i
  have a2 := h2 i
  rw [nth_eq hi1, nth_eq hi2] at a1 a2
  apply BitVec.eq_of_getLsbD_eq
  intro j _
  cases h : S[i].getLsbD j with
  | true => rw [a1 j h]
  | false =>
    cases h' : M[i].getLsbD j with
    | false => rfl
    | true => rw [a2 j h'] at h; cases h
/-- A smaller start. -/
theorem Is.cut {T L L' : Ws} {c : Bool} {i : Nat} {g : BitVec 64} (hok : Y.Ok) (hi : i < Y.n) (h : Is Y T L false) (k : Is Y (cutL L i g) L' c) : Is Y (cutL T i g) L' c where
  tlen := by unfold cutL; rw [List.length_set, h.tlen]
  len := k.len
  sub a j hj := by
    have h1 := k.sub a j hj
    unfold cutL at h1 ⊢
    rw [set_nth (by rw [h.len]; exact hi)] at h1
    rw [set_nth (by rw [h.tlen]; exact hi)]
    split at h1
    · rename_i e
      rw [if_pos e]
      rw [BitVec.getLsbD_and, Bool.and_eq_true] at h1 ⊢
      exact ⟨h.sub _ _ h1.1, h1.2⟩
    · rename_i e
      rw [if_neg e]; exact h.sub _ _ h1
  best S hS hle := k.best S hS (fun a j hj => by
    have h0 : Le' S T := fun a j hj => by
      have := hle a j hj
      unfold cutL at this
      rw [set_nth (by rw [h.tlen]; exact hi)] at this
      split at this
      · rename_i e; subst e; rw [BitVec.getLsbD_and, Bool.and_eq_true] at this; exact this.1
      · exact this
    have h1 := h.best S hS h0 a j hj
    have h2 := hle a j hj
    unfold cutL at h2 ⊢
    rw [set_nth (by rw [h.tlen]; exact hi)] at h2
    rw [set_nth (by rw [h.len]; exact hi)]
    split at h2
    · rename_i e
      rw [if_pos e]
      subst e
      rw [BitVec.getLsbD_and, Bool.and_eq_true] at h2 ⊢
      exact ⟨h1, h2.2⟩
    · rename_i e; rw [if_neg e]; exact h1)
  bad := k.bad
  good := k.good
/-- Which state it is, if one is known that is settled and is reached. -/
theorem Is.eq {T L K : Ws} {c : Bool} (hok : Y.Ok) (h : Is Y T L c) (hK : Closed Y K) (hr : Reach Y T K) : L = K ∧ c = false := by
  have hKT : Le' K T := hr.sub h.tlen
  have h1 := h.best K hK hKT
  have hc : c = false := by
    cases c with
    | false => rfl
    | true =>
      obtain ⟨i, hi, h0⟩ := h.bad rfl
      exfalso
      apply hK.ne i hi
      apply BitVec.eq_of_getLsbD_eq
      intro j _
      cases hh : (nth K i).getLsbD j with
      | false => rw [BitVec.getLsbD_zero]
      | true => have := h1 i j hh; rw [h0, BitVec.getLsbD_zero] at this; cases this
  subst hc
  exact ⟨Le'.antisymm ((h.good rfl).keep hok h.tlen h.sub hr) h1 (by rw [h.len, hK.len]), rfl⟩
theorem Is.conflict {T L K : Ws} {c : Bool} {i : Nat} (hok : Y.Ok) (h : Is Y T L c) (hi : i < Y.n) (h0 : nth K i = 0#64) (hr : Reach Y T K) : c = true := by
  cases c with
  | true => rfl
  | false =>
    have hL := h.good rfl
    have h1 := hL.keep hok h.tlen h.sub hr
    exfalso
    apply hL.ne i hi
    apply BitVec.eq_of_getLsbD_eq
    intro j _
    cases hh : (nth L i).getLsbD j with
    | false => rw [BitVec.getLsbD_zero]
    | true => have := h1 i j hh; rw [h0, BitVec.getLsbD_zero] at this; cases this
end
end Go.Proofs.YtljgejbmimapdaaDoor
