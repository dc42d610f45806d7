/- Arranging a problem: what is arranged. -/
import Derived.Test.YtljgejbmimapdaaDoorJ1
set_option maxRecDepth 100000
set_option maxHeartbeats 4000000
set_option linter.unusedSimpArgs false
set_option linter.unusedVariables false
set_option linter.unusedSectionVars false
namespace Go.Proofs.YtljgejbmimapdaaDoor
open Go.RowKit

/-- What a valid problem says. -/
structure Pb.Good (P : Pb) : Prop where
  n : P.ds.length ≤ 512
  st : ∀ d ∈ P.ds, 0 ≤ d.st ∧ d.st ≤ 511
  chs : ∀ d ∈ P.ds, d.chs.length ≤ 52 ∧ ∀ c ∈ d.chs, 2 ≤ c ∧ c ≤ 51
  inc : ∀ i j, i < j → j < P.ds.length → (nth P.ds i).st < (nth P.ds j).st
  ps : ∀ x ∈ P.ps, x.ok = true ∧ (∃ i, i < P.ds.length ∧ x.a = (nth P.ds i).st) ∧ ∃ i, i < P.ds.length ∧ x.b = (nth P.ds i).st
  ls : ∀ x ∈ P.ls, x.ok = true ∧ (∃ i, i < P.ds.length ∧ x.to = (nth P.ds i).st) ∧ ∃ i, i < P.ds.length ∧ x.fr = (nth P.ds i).st
  cs : ∀ x ∈ P.cs, x.ok = true ∧ ∃ i, i < P.ds.length ∧ x.st = (nth P.ds i).st
  lps : P.ps.length ≤ 4096
  lls : P.ls.length ≤ 1024
  lcs : P.cs.length ≤ 1024
theorem inc_lt {xs : List Dx} (h : incB (fun a b : Dx => cmpI a.st b.st) xs = true) : ∀ i j, i < j → j < xs.length → (nth xs i).st < (nth xs j).st := by
  intro i j hij
  induction j with
  | zero => omega
  | succ j ih =>
    intro hj
    have h1 := cmpI_neg.1 (incB_iff.1 h j hj)
    rcases Nat.lt_or_ge i j with h2 | h2
    · have := ih h2 (by omega); omega
    · rw [show i = j by omega]; exact h1
theorem Pb.good {P : Pb} (h : P.ok = true) : P.Good := by
  simp only [Pb.ok, Pb.rulesOk, Bool.and_eq_true, decide_eq_true_eq] at h
  obtain ⟨h1, ⟨h2, h3, h4, h5, h6, h7, h8, h9, h10⟩, h11, h12, h13, h14⟩ := h
  have hst : ∀ d ∈ P.ds, 0 ≤ d.st ∧ d.st ≤ 511 := fun d hd => by
    have := allB_mem.1 h1 d hd
    simp only [Dx.ok, inB, Bool.and_eq_true, decide_eq_true_eq] at this
    exact this.1
  have hmem : ∀ x, P.has x = true → ∃ i, i < P.ds.length ∧ x = (nth P.ds i).st := fun x hx => by
    unfold Pb.has at hx
    have := (setOf_has (P.ds.map fun d : Dx => d.st) (fun y hy => by obtain ⟨d, hd, rfl⟩ := List.mem_map.1 hy; exact hst d hd) x).1 hx
    obtain ⟨d, hd, rfl⟩ := List.mem_map.1 this
    obtain ⟨i, hi, rfl⟩ := List.mem_iff_getElem.1 hd
    exact ⟨i, hi, by rw [nth_eq hi]⟩
  refine ⟨inc_len h11 h1, hst, fun d hd => ?_, inc_lt h11, fun x hx => ?_, fun x hx => ?_, fun x hx => ?_, by omega, by omega, by omega⟩
  · have := allB_mem.1 h1 d hd
    simp only [Dx.ok, inB, Bool.and_eq_true, decide_eq_true_eq] at this
    have hr : ∀ c ∈ d.chs, 2 ≤ c ∧ c ≤ 51 := fun c hc => by
      have := allB_mem.1 this.2.1 c hc
      simp only [Bool.and_eq_true, decide_eq_true_eq] at this
      exact this
    refine ⟨?_, hr⟩
    rcases Nat.lt_or_ge 52 d.chs.length with hl | hl
    · have h1 := inc_ge (f := fun c : Int => c) this.2.2 (fun c hc => by have := hr c hc; omega) 52 hl
      have h2 := hr _ (nth_mem hl)
      omega
    · exact hl
  · have := allB_mem.1 h12 x hx
    simp only [Bool.and_eq_true] at this
    exact ⟨allB_mem.1 h3 x hx, hmem _ this.1, hmem _ this.2⟩
  · have := allB_mem.1 h13 x hx
    simp only [Bool.and_eq_true] at this
    exact ⟨allB_mem.1 h6 x hx, hmem _ this.1, hmem _ this.2⟩
  · exact ⟨allB_mem.1 h9 x hx, hmem _ (allB_mem.1 h14 x hx)⟩
theorem ix_at {P : Pb} (h : P.Good) {i : Nat} : ∀ k, k ≤ P.ds.length → i < k → ixAt P.ds k (nth P.ds i).st.toNat = (i : Int) + 1
  | 0, _, hi => by omega
  | k + 1, hk, hi => by
    show (if (nth P.ds i).st.toNat = (nth P.ds k).st.toNat then (k : Int) + 1 else ixAt P.ds k (nth P.ds i).st.toNat) = (i : Int) + 1
    have h1 := h.st _ (nth_mem (show i < P.ds.length by omega))
    by_cases he : i = k
    · subst he; rw [if_pos rfl]
    · have := h.inc i k (by omega) (by omega)
      rw [if_neg (by omega)]
      exact ix_at h k (by omega) (by omega)
/-- The index of a station. -/
def Pb.ix (P : Pb) (s : Int) : Int := ixAt P.ds P.ds.length s.toNat - 1
theorem Pb.ix_of {P : Pb} (h : P.Good) {i : Nat} (hi : i < P.ds.length) : P.ix (nth P.ds i).st = (i : Int) := by
  unfold Pb.ix; rw [ix_at h _ (Nat.le_refl _) hi]; omega
theorem tot_le {P : Pb} (h : P.Good) : ∀ k, k ≤ P.ds.length → 0 ≤ totAt P.ds k ∧ totAt P.ds k ≤ 52 * (k : Int)
  | 0, _ => by simp [totAt]
  | k + 1, hk => by
    have h1 := tot_le h k (by omega)
    have h2 := (h.chs _ (nth_mem (show k < P.ds.length by omega))).1
    rw [totAt]; omega
def Pb.rp (P : Pb) (x : Pr) : Pr := { x with a := P.ix x.a, b := P.ix x.b }
def Pb.rl (P : Pb) (x : Ld) : Ld := { x with to := P.ix x.to, fr := P.ix x.fr }
def Pb.rc (P : Pb) (x : Cp) : Cp := { x with st := P.ix x.st }
def Pb.psA (P : Pb) (k j : Nat) : List Pr := ((P.ps.take k).map P.rp).filter fun x => decide (x.a = (j : Int)) || decide (x.b = (j : Int))
def Pb.inA (P : Pb) (k j : Nat) : List Ld := ((P.ls.take k).map P.rl).filter fun x => decide (x.to = (j : Int))
def Pb.ouA (P : Pb) (k j : Nat) : List Ld := ((P.ls.take k).map P.rl).filter fun x => decide (x.fr = (j : Int))
def Pb.csA (P : Pb) (k j : Nat) : List Cp := ((P.cs.take k).map P.rc).filter fun x => decide (x.st = (j : Int))
theorem filt_take {α β : Type} [Inhabited α] {l : List α} {r : α → β} {q : β → Bool} {k : Nat} (h : k < l.length) : ((l.take (k + 1)).map r).filter q = ((l.take k).map r).filter q ++ (if q (r (nth l k)) then [r (nth l k)] else []) := by
  rw [List.take_succ_eq_append_getElem h, nth_eq h, List.map_append, List.filter_append]
  congr 1
  simp only [List.map_cons, List.map_nil, List.filter_cons, List.filter_nil]
theorem filt_len {α β : Type} {l : List α} {r : α → β} {q : β → Bool} {k : Nat} : (((l.take k).map r).filter q).length ≤ l.length := by
  refine Nat.le_trans (List.length_filter_le _ _) ?_
  rw [List.length_map, List.length_take]; omega
theorem psA_step {P : Pb} {k : Nat} (h : k < P.ps.length) {a b : Nat} (ha : P.ix (nth P.ps k).a = (a : Int)) (hb : P.ix (nth P.ps k).b = (b : Int)) (hab : a ≠ b) : upd (upd (P.psA k) a (P.psA k a ++ [P.rp (nth P.ps k)])) b (upd (P.psA k) a (P.psA k a ++ [P.rp (nth P.ps k)]) b ++ [P.rp (nth P.ps k)]) = P.psA (k + 1) := by
  funext j
  have e : P.psA (k + 1) j = P.psA k j ++ (if (decide ((P.rp (nth P.ps k)).a = (j : Int)) || decide ((P.rp (nth P.ps k)).b = (j : Int))) = true then [P.rp (nth P.ps k)] else []) := filt_take h
  rw [e]
  have e1 : (P.rp (nth P.ps k)).a = (a : Int) := ha
  have e2 : (P.rp (nth P.ps k)).b = (b : Int) := hb
  rw [e1, e2]
  unfold upd
  by_cases hjb : j = b
  · subst hjb
    rw [if_pos rfl, if_neg (fun h => hab h.symm), if_pos (by simp)]
  · by_cases hja : j = a
    · subst hja; rw [if_neg hjb, if_pos rfl, if_pos (by simp)]
    · rw [if_neg hjb, if_neg hja, if_neg (by simp; omega), List.append_nil]
theorem one_step {α β : Type} [Inhabited α] {l : List α} {r : α → β} {f : β → Int} {k a : Nat} (h : k < l.length) (ha : f (r (nth l k)) = (a : Int)) : upd (fun j : Nat => ((l.take k).map r).filter fun x => decide (f x = (j : Int))) a (((l.take k).map r).filter (fun x => decide (f x = (a : Int))) ++ [r (nth l k)]) = fun j : Nat => ((l.take (k + 1)).map r).filter fun x => decide (f x = (j : Int)) := by
  funext j
  rw [filt_take h, ha]
  unfold upd
  by_cases hj : j = a
  · subst hj; rw [if_pos rfl, if_pos (by simp)]
  · rw [if_neg hj, if_neg (by simp; omega), List.append_nil]

end Go.Proofs.YtljgejbmimapdaaDoor
