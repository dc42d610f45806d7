/- Plain laws: what settling a queue of stations keeps. -/
import Derived.Test.YtljgejbmimapdaaDoorH1
set_option linter.unusedVariables false
set_option linter.unusedSimpArgs false
namespace Go.Proofs.YtljgejbmimapdaaDoor
open Go.RowKit

/-- What the rules remove from a station. -/
def goneF (Y : Tb) (L : Ws) (i : Nat) : BitVec 64 := pairsF Y L i ||| capsF Y L i ||| loadsF Y L i

theorem foldl_congr' {α β : Type} {f g : β → α → β} : ∀ (l : List α) (z : β), (∀ x ∈ l, ∀ s, f s x = g s x) → l.foldl f z = l.foldl g z
  | [], _, _ => rfl
  | x :: r, z, h => by rw [List.foldl_cons, List.foldl_cons, h x (by simp) z]; exact foldl_congr' r _ (fun y hy => h y (by simp [hy]))

/-- Two states that look alike to station k. -/
structure Alike (Y : Tb) (L L' : Ws) (k : Nat) : Prop where
  ps : ∀ x ∈ Y.ps k, (x.a = (k : Int) → only L' x.b.toNat = only L x.b.toNat) ∧ (x.a ≠ (k : Int) → only L' x.a.toNat = only L x.a.toNat)
  inn : ∀ x ∈ Y.inn k, only L' x.fr.toNat = only L x.fr.toNat
  out : ∀ x ∈ Y.out k, only L' x.to.toNat = only L x.to.toNat ∧ (only L x.to.toNat ≠ 0 → ∀ o ∈ Y.inn x.to.toNat, o.fr ≠ (k : Int) → only L' o.fr.toNat = only L o.fr.toNat)

theorem goneF_alike {Y : Tb} {L L' : Ws} {k : Nat} (h : Alike Y L L' k) (hlo : ∀ x ∈ Y.out k, 2 ≤ x.lo) : goneF Y L' k = goneF Y L k := by
  have e1 : pairsF Y L' k = pairsF Y L k := foldl_congr' _ _ fun x hx s => by
    have := h.ps x hx
    unfold pairStep
    by_cases ha : x.a = (k : Int)
    · rw [if_pos ha, if_pos ha, this.1 ha]
    · rw [if_neg ha, if_neg ha, this.2 ha]
  have e2 : capsF Y L' k = capsF Y L k := by
    have : lossOf L' (Y.inn k) = lossOf L (Y.inn k) := foldl_congr' _ _ fun x hx s => by
      funext d
      unfold lossStep
      rw [h.inn x hx]
    unfold capsF
    rw [this]
  have e3 : loadsF Y L' k = loadsF Y L k := foldl_congr' _ _ fun x hx s => by
    have ho := h.out x hx
    unfold loadStep
    rw [ho.1]
    by_cases hz : only L x.to.toNat = 0
    · have := hlo x hx
      rw [if_pos (.inl (.inl (by rw [hz]; show (0 : Int) < _; omega))), if_pos (.inl (.inl (by rw [hz]; show (0 : Int) < _; omega)))]
    · have e : sumOf L' k (only L x.to.toNat) (Y.inn x.to.toNat) = sumOf L k (only L x.to.toNat) (Y.inn x.to.toNat) := foldl_congr' _ _ fun o ho' s => by
        unfold sumStep
        by_cases hk : o.fr = (k : Int)
        · simp [hk]
        · rw [ho.2 hz o ho' hk]
      rw [e]
  unfold goneF
  rw [e1, e2, e3]

theorem set_nth {L : Ws} {i j : Nat} {b : BitVec 64} (hi : i < L.length) : nth (L.set i b) j = if j = i then b else nth L j := by
  unfold nth
  rw [List.getD_eq_getElem?_getD, List.getD_eq_getElem?_getD]
  by_cases h : j = i
  · subst h; rw [List.getElem?_set_self hi, if_pos rfl]; rfl
  · rw [List.getElem?_set_ne (fun e => h e.symm), if_neg h]
theorem only_set {L : Ws} {i j : Nat} {b : BitVec 64} (hi : i < L.length) (h : j ≠ i) : only (L.set i b) j = only L j := by
  unfold only; rw [set_nth hi, if_neg h]

/-- What the rules remove from i does not hang on the channels of i. -/
theorem goneF_own {Y : Tb} {L : Ws} {i : Nat} {b : BitVec 64} (hok : Y.Ok) (hi : i < Y.n) (hl : L.length = Y.n) : pairsF Y (L.set i b) i = pairsF Y L i ∧ capsF Y (L.set i b) i = capsF Y L i ∧ loadsF Y (L.set i b) i = loadsF Y L i := by
  have hil : i < L.length := by omega
  refine ⟨foldl_congr' _ _ fun x hx s => ?_, ?_, foldl_congr' _ _ fun x hx s => ?_⟩
  · have h1 := (hok.psS i hi x hx).1
    have h2 := (hok.ps i hi).2 x hx
    unfold pairStep
    by_cases ha : x.a = (i : Int)
    · rw [if_pos ha, if_pos ha, only_set hil (by omega)]
    · rw [if_neg ha, if_neg ha, only_set hil (by omega)]
  · have : lossOf (L.set i b) (Y.inn i) = lossOf L (Y.inn i) := foldl_congr' _ _ fun x hx s => by
      have h1 := (hok.innS i hi x hx).1
      have h2 := (hok.inn i hi).2 x hx
      funext d
      unfold lossStep
      rw [only_set hil (by omega)]
    unfold capsF
    rw [this]
  · have h1 := (hok.outS i hi x hx).1
    have h2 := (hok.out i hi).2 x hx
    unfold loadStep
    rw [only_set hil (by omega)]
    have e : sumOf (L.set i b) i (only L x.to.toNat) (Y.inn x.to.toNat) = sumOf L i (only L x.to.toNat) (Y.inn x.to.toNat) := foldl_congr' _ _ fun o ho s => by
      have h3 := (hok.inn _ (by omega)).2 o ho
      unfold sumStep
      by_cases hk : o.fr = (i : Int)
      · simp [hk]
      · rw [only_set hil (by omega)]
    rw [e]

/-- i is settled. -/
def Calm1 (Y : Tb) (L : Ws) (i : Nat) : Prop := nth L i ≠ 0#64 ∧ nth L i &&& goneF Y L i = 0#64

/-- Members are kept, and others come in. -/
theorem addAll {α : Type} (f : α → Nat) (hf : ∀ _ : α, True) : ∀ (l : List α) (s : Ws), s.length = 8 → (∀ x ∈ l, f x < 512) → ∀ j, j < 512 → (sBit (l.foldl (fun s x => sAdd s (f x)) s) j = true ↔ sBit s j = true ∨ ∃ x ∈ l, f x = j)
  | [], s, _, _, j, _ => by simp
  | x :: r, s, hs, hx, j, hj => by
    rw [List.foldl_cons, addAll f hf r _ (by rw [sAdd_len, hs]) (fun y hy => hx y (by simp [hy])) j hj, sBit_add hs (hx x (by simp)) hj]
    simp only [Bool.or_eq_true, decide_eq_true_eq, List.mem_cons]
    constructor
    · rintro ((h | h) | ⟨y, hy, h⟩)
      · exact .inl h
      · exact .inr ⟨x, .inl rfl, h⟩
      · exact .inr ⟨y, .inr hy, h⟩
    · rintro (h | ⟨y, rfl | hy, h⟩)
      · exact .inl (.inl h)
      · exact .inl (.inr h)
      · exact .inr ⟨y, hy, h⟩
/-- What touch adds. -/
def Near (Y : Tb) (L : Ws) (i j : Nat) : Prop :=
  (∃ x ∈ Y.ps i, (x.a + x.b - (i : Int)).toNat = j) ∨ (∃ x ∈ Y.inn i, x.fr.toNat = j) ∨ (∃ x ∈ Y.out i, x.to.toNat = j ∨ (only L x.to.toNat ≠ 0 ∧ ∃ o ∈ Y.inn x.to.toNat, o.fr.toNat = j))
theorem addOut {Y : Tb} {L : Ws} : ∀ (l : List Ld) (s : Ws), s.length = 8 → (∀ x ∈ l, x.to.toNat < 512 ∧ ∀ o ∈ Y.inn x.to.toNat, o.fr.toNat < 512) → ∀ j, j < 512 →
    (sBit (l.foldl (outStep Y L) s) j = true ↔ sBit s j = true ∨ ∃ x ∈ l, x.to.toNat = j ∨ (only L x.to.toNat ≠ 0 ∧ ∃ o ∈ Y.inn x.to.toNat, o.fr.toNat = j))
  | [], s, _, _, j, _ => by simp
  | x :: r, s, hs, hx, j, hj => by
    have h1 := hx x (by simp)
    rw [List.foldl_cons, addOut r _ (by rw [outStep_len, hs]) (fun y hy => hx y (by simp [hy])) j hj]
    have e : sBit (outStep Y L s x) j = true ↔ sBit s j = true ∨ (x.to.toNat = j ∨ (only L x.to.toNat ≠ 0 ∧ ∃ o ∈ Y.inn x.to.toNat, o.fr.toNat = j)) := by
      unfold outStep
      by_cases hz : (only L x.to.toNat : Int) = 0
      · rw [if_pos hz, sBit_add hs h1.1 hj]
        simp only [Bool.or_eq_true, decide_eq_true_eq]
        constructor
        · rintro (h | h)
          · exact .inl h
          · exact .inr (.inl h)
        · rintro (h | h | h)
          · exact .inl h
          · exact .inr h
          · exact absurd (show only L x.to.toNat = 0 by omega) h.1
      · rw [if_neg hz, addAll (fun o : Ld => o.fr.toNat) (fun _ => trivial) _ _ (by rw [sAdd_len, hs]) h1.2 j hj, sBit_add hs h1.1 hj]
        simp only [Bool.or_eq_true, decide_eq_true_eq]
        constructor
        · rintro ((h | h) | h)
          · exact .inl h
          · exact .inr (.inl h)
          · exact .inr (.inr ⟨by omega, h⟩)
        · rintro (h | h | h)
          · exact .inl (.inl h)
          · exact .inl (.inr h)
          · exact .inr h.2
    rw [e]
    simp only [List.mem_cons]
    constructor
    · rintro ((h | h) | ⟨y, hy, h⟩)
      · exact .inl h
      · exact .inr ⟨x, .inl rfl, h⟩
      · exact .inr ⟨y, .inr hy, h⟩
    · rintro (h | ⟨y, rfl | hy, h⟩)
      · exact .inl (.inl h)
      · exact .inl (.inr h)
      · exact .inr ⟨y, hy, h⟩
theorem touchF_bit {Y : Tb} {L : Ws} {i : Nat} {ws : Ws} (hok : Y.Ok) (hi : i < Y.n) (hws : ws.length = 8) (j : Nat) (hj : j < 512) : sBit (touchF Y L i ws) j = true ↔ sBit ws j = true ∨ (only L i ≠ 0 ∧ Near Y L i j) := by
  have hn := hok.n
  unfold touchF
  by_cases hz : (only L i : Int) = 0
  · rw [if_pos hz]
    constructor
    · exact .inl
    · rintro (h | h)
      · exact h
      · exact absurd (show only L i = 0 by omega) h.1
  · rw [if_neg hz]
    have hp := (hok.ps i hi).2
    have hI := (hok.inn i hi).2
    have hO := (hok.out i hi).2
    have := addOut (Y := Y) (L := L) (Y.out i) ((Y.inn i).foldl (fun s x => sAdd s x.fr.toNat) ((Y.ps i).foldl (fun s x => sAdd s (x.a + x.b - (i : Int)).toNat) ws)) (by rw [addFr_len, addPr_len, hws]) (fun x hx => by
      have := hO x hx
      exact ⟨by omega, fun o ho => by have := (hok.inn x.to.toNat (by omega)).2 o ho; omega⟩) j hj
    refine Iff.trans this ?_
    rw [addAll (fun x : Ld => x.fr.toNat) (fun _ => trivial) _ _ (by rw [addPr_len, hws]) (fun x hx => by have := hI x hx; omega) j hj, addAll (fun x : Pr => (x.a + x.b - (i : Int)).toNat) (fun _ => trivial) _ _ hws (fun x hx => by have := hp x hx; omega) j hj]
    unfold Near
    constructor
    · rintro (((h | h) | h) | h)
      · exact .inl h
      · exact .inr ⟨by omega, .inl h⟩
      · exact .inr ⟨by omega, .inr (.inl h)⟩
      · exact .inr ⟨by omega, .inr (.inr h)⟩
    · rintro (h | ⟨_, h | h | h⟩)
      · exact .inl (.inl (.inl h))
      · exact .inl (.inl (.inr h))
      · exact .inl (.inr h)
      · exact .inr h

/-- A station that touch does not name sees no change. -/
theorem alike_far {Y : Tb} {L L' : Ws} {i k : Nat} (hok : Y.Ok) (hi : i < Y.n) (hk : k < Y.n) (hki : k ≠ i) (hsame : ∀ j, j ≠ i → only L' j = only L j) (h0 : only L i = 0) (hfar : ¬ Near Y L' i k) : Alike Y L L' k where
  ps x hx := by
    have h1 := (hok.ps k hk).2 x hx
    have h2 := hok.psS k hk x hx
    constructor
    · intro ha
      by_cases hb : x.b.toNat = i
      · exact absurd (.inl ⟨x, by rw [← hb]; exact h2.2.2, by omega⟩) hfar
      · exact hsame _ hb
    · intro ha
      by_cases hb : x.a.toNat = i
      · exact absurd (.inl ⟨x, by rw [← hb]; exact h2.2.1, by omega⟩) hfar
      · exact hsame _ hb
  inn x hx := by
    have h1 := (hok.inn k hk).2 x hx
    by_cases hb : x.fr.toNat = i
    · exact absurd (.inr (.inr ⟨x, by rw [← hb]; exact (hok.innS k hk x hx).2, .inl (by omega)⟩)) hfar
    · exact hsame _ hb
  out x hx := by
    have h1 := (hok.out k hk).2 x hx
    have h2 := hok.outS k hk x hx
    have hto : x.to.toNat ≠ i := fun hb => hfar (.inr (.inl ⟨x, by rw [← hb]; exact h2.2, by omega⟩))
    refine ⟨hsame _ hto, fun hz o ho hok' => ?_⟩
    have h3 := (hok.inn x.to.toNat (by omega)).2 o ho
    by_cases hb : o.fr.toNat = i
    · have h4 := (hok.innS x.to.toNat (by omega) o ho).2
      rw [hb] at h4
      refine absurd (.inr (.inr ⟨o, h4, .inr ⟨?_, x, ?_, by omega⟩⟩)) hfar
      · rw [show o.to.toNat = x.to.toNat by omega, hsame _ hto]; exact hz
      · rw [show o.to.toNat = x.to.toNat by omega]; exact h2.2
    · exact hsame _ hb

/-- How many channels are left. -/
def bitsN (L : Ws) : Nat := (L.map fun b => (chansN b).length).sum
theorem chansN_mem {b : BitVec 64} {j : Nat} : j ∈ chansN b ↔ b.getLsbD j = true := by
  unfold chansN
  rw [List.mem_filter, List.mem_range'_1]
  constructor
  · exact fun h => h.2
  · intro h
    refine ⟨⟨Nat.zero_le _, ?_⟩, h⟩
    have := BitVec.lt_of_getLsbD h
    omega
theorem filter_lt {p q : Nat → Bool} : ∀ (l : List Nat), (∀ x ∈ l, q x = true → p x = true) → (∃ x ∈ l, p x = true ∧ q x = false) → (l.filter q).length < (l.filter p).length
  | [], _, h => by obtain ⟨x, hx, _⟩ := h; cases hx
  | y :: r, h, ⟨x, hx, hp, hq⟩ => by
    have hle : ∀ (l : List Nat), (∀ x ∈ l, q x = true → p x = true) → (l.filter q).length ≤ (l.filter p).length := by
      intro l
      induction l with
      | nil => intro _; simp
      | cons z s ih =>
        intro hz
        have h1 := ih (fun x hx => hz x (by simp [hx]))
        have h2 := hz z (by simp)
        cases hqz : q z <;> cases hpz : p z <;> simp [hqz, hpz] at h2 ⊢ <;> omega
    have h2 := h y (by simp)
    rcases List.mem_cons.1 hx with rfl | hx
    · rw [List.filter_cons_of_neg (by rw [hq]; simp), List.filter_cons_of_pos hp]
      have := hle r (fun x hx => h x (by simp [hx]))
      simp; omega
    · have := filter_lt r (fun x hx => h x (by simp [hx])) ⟨x, hx, hp, hq⟩
      cases hqz : q y <;> cases hpz : p y <;> simp [hqz, hpz] at h2 ⊢ <;> omega
theorem sub_lt {a b : BitVec 64} (h : ∀ j, a.getLsbD j = true → b.getLsbD j = true) (hne : a ≠ b) : (chansN a).length < (chansN b).length := by
  unfold chansN
  refine filter_lt _ (fun j _ => h j) ?_
  apply Classical.byContradiction
  intro hno
  apply hne
  apply BitVec.eq_of_getLsbD_eq
  intro j hj
  cases ha : a.getLsbD j with
  | true => rw [h j ha]
  | false =>
    cases hb : b.getLsbD j with
    | false => rfl
    | true => exact absurd ⟨j, List.mem_range'_1.2 ⟨Nat.zero_le _, by omega⟩, hb, ha⟩ hno
theorem bitsN_set : ∀ (L : Ws) (i : Nat) (b : BitVec 64), i < L.length → bitsN (L.set i b) + (chansN (nth L i)).length = bitsN L + (chansN b).length
  | [], i, b, h => by simp at h
  | x :: r, 0, b, h => by simp [bitsN, nth]; omega
  | x :: r, i + 1, b, h => by
    have := bitsN_set r i b (by simpa using h)
    simp only [bitsN, nth, List.set_cons_succ, List.map_cons, List.sum_cons, List.getD_cons_succ] at this ⊢
    omega
/-- One removal after another, each by the rules. -/
inductive Reach (Y : Tb) (L : Ws) : Ws → Prop
  | refl : Reach Y L L
  | step {M : Ws} {i : Nat} {b : BitVec 64} : Reach Y L M → i < Y.n → (∀ j, b.getLsbD j = true → (goneF Y M i).getLsbD j = true) → Reach Y L (M.set i (nth M i &&& ~~~b))
theorem Reach.len {Y : Tb} {L M : Ws} (h : Reach Y L M) : M.length = L.length := by
  induction h with
  | refl => rfl
  | step _ _ _ ih => rw [List.length_set, ih]
theorem Reach.sub {Y : Tb} {L M : Ws} (h : Reach Y L M) (hl : L.length = Y.n) : ∀ i j, (nth M i).getLsbD j = true → (nth L i).getLsbD j = true := by
  induction h with
  | refl => exact fun _ _ h => h
  | @step M' k b hr hk _ ih =>
    intro i j hij
    rw [set_nth (by rw [hr.len, hl]; exact hk)] at hij
    split at hij
    · rename_i e
      subst e
      rw [BitVec.getLsbD_and, Bool.and_eq_true] at hij
      exact ih _ _ hij.1
    · exact ih _ _ hij
/-- What holds while a queue is being settled. -/
structure SInv (Y : Tb) (L0 L : Ws) (q : List Nat) (ws : Ws) (c : Bool) : Prop where
  reach : Reach Y L0 L
  len : L.length = Y.n
  ws8 : ws.length = 8
  wsn : ∀ j, j < 512 → sBit ws j = true → j < Y.n
  qn : ∀ j ∈ q, j < Y.n
  q512 : q.length ≤ 512
  bad : c = true → ∃ i, i < Y.n ∧ nth L i = 0#64
  good : c = false → ∀ i, i < Y.n → i ∈ q ∨ sBit ws i = true ∨ Calm1 Y L i
def smu (L : Ws) (q : List Nat) (ws : Ws) : Nat := bitsN L * 2000 + q.length + (if memN ws = [] then 0 else 600)
theorem sNil_mem : memN sNil = [] := memF_none fun j _ _ => sBit_nil j
/-- The queue is filled anew. -/
theorem SInv.refill {Y : Tb} {L0 L : Ws} {ws : Ws} {c : Bool} (h : SInv Y L0 L [] ws c) : SInv Y L0 L (memN ws) sNil c where
  reach := h.reach
  len := h.len
  ws8 := rfl
  wsn j _ hb := by rw [sBit_nil] at hb; cases hb
  qn j hj := by obtain ⟨_, h1, h2⟩ := memF_mem.1 hj; exact h.wsn j h1 h2
  q512 := memF_len ws 0
  bad := h.bad
  good hc i hi := by
    rcases h.good hc i hi with h1 | h1 | h1
    · cases h1
    · have := h.len
      by_cases h512 : i < 512
      · exact .inl (memF_mem.2 ⟨Nat.zero_le _, h512, h1⟩)
      · exfalso
        unfold sBit nth at h1
        rw [List.getD_eq_getElem?_getD, List.getElem?_eq_none (by rw [h.ws8]; omega)] at h1
        exact absurd h1 (by show ¬ (0#64).getLsbD _ = true; rw [BitVec.getLsbD_zero]; simp)
    · exact .inr (.inr h1)
theorem smu_refill {L : Ws} {ws : Ws} (h : memN ws ≠ []) : smu L (memN ws) sNil < smu L [] ws := by
  unfold smu
  rw [if_pos sNil_mem, if_neg h]
  have : (memN ws).length ≤ 512 := memF_len ws 0
  simp only [List.length_nil]; omega
theorem SInv.calm {Y : Tb} {L0 L : Ws} {ws : Ws} (h : SInv Y L0 L [] ws false) (hm : memN ws = []) : ∀ i, i < Y.n → Calm1 Y L i := fun i hi => by
  rcases h.refill.good rfl i hi with h1 | h1 | h1
  · rw [hm] at h1; cases h1
  · rw [sBit_nil] at h1; cases h1
  · exact h1
/-- A rule is applied to i. -/
theorem reach_rule {Y : Tb} {L0 L : Ws} {i : Nat} {b : BitVec 64} (h : Reach Y L0 L) (hi : i < Y.n) (hb : ∀ j, b.getLsbD j = true → (goneF Y L i).getLsbD j = true) : Reach Y L0 (L.set i (nth L i &&& ~~~b)) := .step h hi hb
theorem gone_p {Y : Tb} {L : Ws} {i j : Nat} (h : (pairsF Y L i).getLsbD j = true) : (goneF Y L i).getLsbD j = true := by simp [goneF, h]
theorem gone_c {Y : Tb} {L : Ws} {i j : Nat} (h : (capsF Y L i).getLsbD j = true) : (goneF Y L i).getLsbD j = true := by simp [goneF, h]
theorem gone_l {Y : Tb} {L : Ws} {i j : Nat} (h : (loadsF Y L i).getLsbD j = true) : (goneF Y L i).getLsbD j = true := by simp [goneF, h]
/-- The rule at a place of the list. -/
def ruleF (Y : Tb) (L : Ws) (i k : Nat) : BitVec 64 := if k = 0 then pairsF Y L i else if k = 1 then capsF Y L i else loadsF Y L i
theorem gone_r {Y : Tb} {L : Ws} {i j k : Nat} (h : (ruleF Y L i k).getLsbD j = true) : (goneF Y L i).getLsbD j = true := by
  unfold ruleF at h
  split at h
  · exact gone_p h
  · split at h
    · exact gone_c h
    · exact gone_l h
/-- The state after k rules. -/
def rulesL (Y : Tb) (L : Ws) (i : Nat) : Nat → Ws
  | 0 => L
  | k + 1 => (rulesL Y L i k).set i (nth (rulesL Y L i k) i &&& ~~~(ruleF Y (rulesL Y L i k) i k))
theorem rulesL_len {Y : Tb} {L : Ws} {i : Nat} : ∀ k, (rulesL Y L i k).length = L.length
  | 0 => rfl
  | k + 1 => by rw [rulesL, List.length_set, rulesL_len k]
theorem rulesL_reach {Y : Tb} {L0 L : Ws} {i : Nat} (h : Reach Y L0 L) (hi : i < Y.n) : ∀ k, Reach Y L0 (rulesL Y L i k)
  | 0 => h
  | k + 1 => reach_rule (rulesL_reach h hi k) hi (fun j hj => gone_r hj)
theorem rulesL_other {Y : Tb} {L : Ws} {i j : Nat} (hi : i < L.length) (hj : j ≠ i) : ∀ k, nth (rulesL Y L i k) j = nth L j
  | 0 => rfl
  | k + 1 => by rw [rulesL, set_nth (by rw [rulesL_len]; exact hi), if_neg hj, rulesL_other hi hj k]
theorem rulesL_sub {Y : Tb} {L : Ws} {i : Nat} (hi : i < L.length) : ∀ k j, (nth (rulesL Y L i k) i).getLsbD j = true → (nth L i).getLsbD j = true
  | 0, _, h => h
  | k + 1, j, h => by
    rw [rulesL, set_nth (by rw [rulesL_len]; exact hi), if_pos rfl, BitVec.getLsbD_and, Bool.and_eq_true] at h
    exact rulesL_sub hi k j h.1
theorem ruleF_own {Y : Tb} {L : Ws} {i : Nat} {b : BitVec 64} (hok : Y.Ok) (hi : i < Y.n) (hl : L.length = Y.n) (m : Nat) : ruleF Y (L.set i b) i m = ruleF Y L i m := by
  have h1 := goneF_own (b := b) hok hi hl
  unfold ruleF
  rw [h1.1, h1.2.1, h1.2.2]
theorem rulesL_same {Y : Tb} {L : Ws} {i : Nat} (hok : Y.Ok) (hi : i < Y.n) (hl : L.length = Y.n) : ∀ k m, ruleF Y (rulesL Y L i k) i m = ruleF Y L i m
  | 0, _ => rfl
  | k + 1, m => by rw [rulesL, ruleF_own hok hi (by rw [rulesL_len, hl]), rulesL_same hok hi hl k m]
theorem rulesL_eq {Y : Tb} {L : Ws} {i : Nat} (hok : Y.Ok) (hi : i < Y.n) (hl : L.length = Y.n) : nth (rulesL Y L i 3) i = nth L i &&& ~~~(pairsF Y L i) &&& ~~~(capsF Y L i) &&& ~~~(loadsF Y L i) := by
  have h : ∀ k, nth (rulesL Y L i (k + 1)) i = nth (rulesL Y L i k) i &&& ~~~(ruleF Y L i k) := fun k => by
    rw [rulesL, set_nth (by rw [rulesL_len, hl]; exact hi), if_pos rfl, rulesL_same hok hi hl]
  rw [h 2, h 1, h 0]
  rfl
theorem rulesL_set {Y : Tb} {L : Ws} {i : Nat} (hi : i < L.length) : rulesL Y L i 3 = L.set i (nth (rulesL Y L i 3) i) := by
  have h : ∀ k, ∃ b, rulesL Y L i k = L.set i b := by
    intro k
    induction k with
    | zero => exact ⟨nth L i, by
        apply List.ext_getElem?
        intro j
        by_cases hj : j = i
        · subst hj
          rw [List.getElem?_set_self hi, rulesL, List.getElem?_eq_getElem hi, nth_eq hi]
        · rw [List.getElem?_set_ne (fun e => hj e.symm)]; rfl⟩
    | succ k ih =>
      obtain ⟨b, hb⟩ := ih
      exact ⟨_, by rw [rulesL, hb, List.set_set]⟩
  obtain ⟨b, hb⟩ := h 3
  rw [hb, set_nth hi, if_pos rfl]
theorem two_bits {a b : BitVec 64} (hs : ∀ j, a.getLsbD j = true → b.getLsbD j = true) (hne : a ≠ b) (h0 : a ≠ 0#64) : onlyB b = 0 := by
  unfold onlyB
  rw [if_neg]
  rintro ⟨hb, hz⟩
  have h1 : ∀ j, b.getLsbD j = true → j = ctz b := fun j hj => by
    have := low_off hb j
    rw [hz, hj, BitVec.getLsbD_zero, Bool.true_and] at this
    simpa using this.symm
  apply hne
  apply BitVec.eq_of_getLsbD_eq
  intro j hj
  cases hbj : b.getLsbD j with
  | false =>
    cases haj : a.getLsbD j with
    | false => rfl
    | true => rw [hs j haj] at hbj; cases hbj
  | true =>
    have e := h1 j hbj
    obtain ⟨k, hk⟩ : ∃ k, a.getLsbD k = true := ⟨ctz a, (ctz_bit h0 0).1⟩
    rw [e, ← h1 k (hs k hk)]
    exact hk
/-- A round. -/
theorem SInv.step {Y : Tb} {L0 L : Ws} {i : Nat} {q : List Nat} {ws : Ws} (hok : Y.Ok) (h : SInv Y L0 L (i :: q) ws false) :
    SInv Y L0 (rulesL Y L i 3) q (if nth (rulesL Y L i 3) i = nth L i then ws else touchF Y (rulesL Y L i 3) i ws) (decide (nth (rulesL Y L i 3) i = 0#64)) := by
  have hi : i < Y.n := h.qn i (by simp)
  have hil : i < L.length := by rw [h.len]; exact hi
  have hn := hok.n
  have hsub := rulesL_sub (Y := Y) hil 3
  refine ⟨rulesL_reach h.reach hi 3, by rw [rulesL_len, h.len], ?_, ?_, fun j hj => h.qn j (by simp [hj]), by have := h.q512; simp at this; omega, ?_, ?_⟩
  · split
    · exact h.ws8
    · rw [touchF_len, h.ws8]
  · intro j hj hb
    split at hb
    · exact h.wsn j hj hb
    · rcases (touchF_bit hok hi h.ws8 j hj).1 hb with h1 | ⟨_, h1 | h1 | h1⟩
      · exact h.wsn j hj h1
      · obtain ⟨x, hx, he⟩ := h1; have := (hok.ps i hi).2 x hx; omega
      · obtain ⟨x, hx, he⟩ := h1; have := (hok.inn i hi).2 x hx; omega
      · obtain ⟨x, hx, he⟩ := h1
        have h2 := (hok.out i hi).2 x hx
        rcases he with he | ⟨_, o, ho, he⟩
        · omega
        · have := (hok.inn x.to.toNat (by omega)).2 o ho; omega
  · intro hc
    exact ⟨i, hi, of_decide_eq_true hc⟩
  · intro hc k hk
    have h0 : nth (rulesL Y L i 3) i ≠ 0#64 := of_decide_eq_false hc
    by_cases hki : k = i
    · subst hki
      refine .inr (.inr ⟨h0, ?_⟩)
      have e := goneF_own (b := nth (rulesL Y L k 3) k) hok hi h.len
      rw [← rulesL_set hil] at e
      unfold goneF
      rw [e.1, e.2.1, e.2.2, rulesL_eq hok hi h.len]
      apply BitVec.eq_of_getLsbD_eq
      intro j hj
      simp only [BitVec.getLsbD_and, BitVec.getLsbD_or, BitVec.getLsbD_not, BitVec.getLsbD_zero]
      cases (nth L k).getLsbD j <;> cases (pairsF Y L k).getLsbD j <;> cases (capsF Y L k).getLsbD j <;> cases (loadsF Y L k).getLsbD j <;> simp
    · have hkeep := rulesL_other (Y := Y) hil hki 3
      by_cases hsame : nth (rulesL Y L i 3) i = nth L i
      · rw [if_pos hsame]
        have e : rulesL Y L i 3 = L := by
          rw [rulesL_set hil, hsame]
          apply List.ext_getElem?
          intro j
          by_cases hj : j = i
          · subst hj; rw [List.getElem?_set_self hil, List.getElem?_eq_getElem hil, nth_eq hil]
          · rw [List.getElem?_set_ne (fun e => hj e.symm)]
        rw [e]
        rcases h.good rfl k hk with h1 | h1 | h1
        · rcases List.mem_cons.1 h1 with h1 | h1
          · exact absurd h1 hki
          · exact .inl h1
        · exact .inr (.inl h1)
        · exact .inr (.inr h1)
      · rw [if_neg hsame]
        have h00 : only L i = 0 := two_bits hsub hsame h0
        have honly : ∀ j, j ≠ i → only (rulesL Y L i 3) j = only L j := fun j hj => by unfold only; rw [rulesL_other hil hj]
        rcases h.good rfl k hk with h1 | h1 | h1
        · rcases List.mem_cons.1 h1 with h1 | h1
          · exact absurd h1 hki
          · exact .inl h1
        · exact .inr (.inl ((touchF_bit hok hi h.ws8 k (by omega)).2 (.inl h1)))
        · by_cases hnear : only (rulesL Y L i 3) i ≠ 0 ∧ Near Y (rulesL Y L i 3) i k
          · exact .inr (.inl ((touchF_bit hok hi h.ws8 k (by omega)).2 (.inr hnear)))
          · refine .inr (.inr ⟨by rw [hkeep]; exact h1.1, ?_⟩)
            have ha : Alike Y L (rulesL Y L i 3) k := by
              by_cases hz : only (rulesL Y L i 3) i = 0
              · have hall : ∀ j, only (rulesL Y L i 3) j = only L j := fun j => by
                  by_cases hj : j = i
                  · subst hj; rw [hz, h00]
                  · exact honly j hj
                exact ⟨fun x _ => ⟨fun _ => hall _, fun _ => hall _⟩, fun x _ => hall _, fun x _ => ⟨hall _, fun _ o _ _ => hall _⟩⟩
              · exact alike_far hok hi hk hki honly h00 (fun hh => hnear ⟨hz, hh⟩)
            rw [goneF_alike ha (fun x hx => by have := (hok.out k hk).2 x hx; omega), hkeep]
            exact h1.2
theorem smu_step {Y : Tb} {L : Ws} {i : Nat} {q : List Nat} {ws : Ws} (hi : i < L.length) (hq : q.length ≤ 511) : smu (rulesL Y L i 3) q (if nth (rulesL Y L i 3) i = nth L i then ws else touchF Y (rulesL Y L i 3) i ws) < smu L (i :: q) ws := by
  have hb := bitsN_set L i (nth (rulesL Y L i 3) i) hi
  rw [← rulesL_set hi] at hb
  unfold smu
  by_cases hs : nth (rulesL Y L i 3) i = nth L i
  · rw [if_pos hs]
    rw [hs] at hb
    simp only [List.length_cons]
    omega
  · rw [if_neg hs]
    have hlt := sub_lt (rulesL_sub (Y := Y) hi 3) hs
    have h6 : (if memN (touchF Y (rulesL Y L i 3) i ws) = [] then 0 else 600) ≤ 600 := by split <;> omega
    simp only [List.length_cons]
    omega
end Go.Proofs.YtljgejbmimapdaaDoor
