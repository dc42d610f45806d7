/- Arranging a problem: parts. -/
import Derived.Test.YtljgejbmimapdaaDoorH2
set_option maxRecDepth 100000
set_option maxHeartbeats 4000000
set_option linter.unusedSimpArgs false
set_option linter.unusedVariables false
set_option linter.unusedSectionVars false
namespace Go.Proofs.YtljgejbmimapdaaDoor
open Go.RowKit

def cellsK (N : Nat) (f : Nat → Int) : List Value := (List.range N).map fun d => .int .i64 (f d)
theorem cellsK_len {N : Nat} {f : Nat → Int} : (cellsK N f).length = N := by simp [cellsK]
theorem cellsK_get {N : Nat} {f : Nat → Int} {d p : Nat} (hp : p = d) (hd : d < N) : (cellsK N f)[p]? = some (.int .i64 (f d)) := by subst hp; simp [cellsK, hd]
theorem cellsK_set {N : Nat} {f f' : Nat → Int} {d p : Nat} {v : Int} (hp : p = d) (hd : d < N) (h1 : f' d = v) (h2 : ∀ e, e ≠ d → f' e = f e) : (cellsK N f).set p (.int .i64 v) = cellsK N f' := by
  subst hp h1
  apply List.ext_getElem?
  intro e
  unfold cellsK
  by_cases he : e = p
  · subst he; rw [List.getElem?_set_self (by simpa using hd)]; simp [hd]
  · rw [List.getElem?_set_ne (fun h => he h.symm)]
    simp only [List.getElem?_map, List.getElem?_range]
    by_cases h52 : e < N
    · simp [h52, h2 e he]
    · simp [h52]
def tcells (s : Value) (ix : List Value) (tot : Int) (p c i f : Value) : List Value := s :: (ix ++ [.int .i64 tot, p, c, i, f])
instance (N : Nat) (f : Nat → Int) : OneCs (cellsK N f) := ⟨fun x hx => by obtain ⟨b, _, rfl⟩ := List.mem_map.1 hx; rfl⟩
instance (s : Value) (ix : List Value) (tot : Int) (p c i f : Value) [h1 : OneC s] [h2 : OneCs ix] [h3 : OneC p] [h4 : OneC c] [h5 : OneC i] [h6 : OneC f] : OneCs (tcells s ix tot p c i f) := by unfold tcells; exact inferInstance
section
variable {s p c i f : Value} {ix : List Value} {tot : Int}
theorem tcells_len (hix : ix.length = 512) : (tcells s ix tot p c i f).length = 518 := by simp [tcells, hix]
theorem tcells_hi (hix : ix.length = 512) {q j : Nat} (hq : q = 513 + j) : (tcells s ix tot p c i f)[q]? = [.int .i64 tot, p, c, i, f][j]? := by
  subst hq
  unfold tcells
  rw [show 513 + j = (512 + j) + 1 by omega, List.getElem?_cons_succ, List.getElem?_append_right (by omega), hix, Nat.add_sub_cancel_left]
theorem tcells_ix (hix : ix.length = 512) {q j : Nat} (hj : j < 512) (hq : q = 1 + j) : (tcells s ix tot p c i f)[q]? = ix[j]? := by
  subst hq
  unfold tcells
  rw [show 1 + j = j + 1 by omega, List.getElem?_cons_succ, List.getElem?_append_left (by omega)]
theorem tcells_setix (hix : ix.length = 512) {q j : Nat} {v : Value} (hj : j < 512) (hq : q = 1 + j) : (tcells s ix tot p c i f).set q v = tcells s (ix.set j v) tot p c i f := by
  subst hq
  unfold tcells
  rw [show 1 + j = j + 1 by omega, List.set_cons_succ, List.set_append_left _ _ (by omega)]
theorem tcells_settot (hix : ix.length = 512) {q : Nat} {t : Int} (hq : q = 513) : (tcells s ix tot p c i f).set q (.int .i64 t) = tcells s ix t p c i f := by
  subst hq
  unfold tcells
  rw [show 513 = 512 + 1 from rfl, List.set_cons_succ, List.set_append_right _ _ (by omega), hix]
  rfl
end
def ixAt (ds : List Dx) : Nat → Nat → Int
  | 0 => fun _ => 0
  | k + 1 => fun j => if j = (nth ds k).st.toNat then (k : Int) + 1 else ixAt ds k j
def totAt (ds : List Dx) : Nat → Int
  | 0 => 0
  | k + 1 => totAt ds k + ((nth ds k).chs.length : Int)
def upd {α : Type} (f : Nat → α) (a : Nat) (x : α) : Nat → α := fun j => if j = a then x else f j
def ents {α : Type} (e : TypeId) (size n : Nat) (vv : Nat → Value) (enc : α → List Value) (f : Nat → List α) : HS := (List.range n).map fun j => .sl (vv j) e size (f j).length ((f j).flatMap enc)
theorem ents_len {α : Type} {e : TypeId} {size n : Nat} {vv : Nat → Value} {enc : α → List Value} {f : Nat → List α} : (ents e size n vv enc f).length = n := by simp [ents]
theorem ents_get {α : Type} {e : TypeId} {size n : Nat} {vv : Nat → Value} {enc : α → List Value} {f : Nat → List α} {a : Nat} (h : a < n) : (ents e size n vv enc f)[a]? = some (.sl (vv a) e size (f a).length ((f a).flatMap enc)) := by simp [ents, h]
theorem ents_set {α : Type} {e : TypeId} {size n : Nat} {vv : Nat → Value} {enc : α → List Value} {f : Nat → List α} {a : Nat} {v : Value} {x : α} (h : a < n) : (ents e size n vv enc f).set a (.sl v e size ((f a).length + 1) ((f a).flatMap enc ++ enc x)) = ents e size n (upd vv a v) enc (upd f a (f a ++ [x])) := by
  apply List.ext_getElem?
  intro j
  unfold ents
  by_cases hj : j = a
  · subst hj
    rw [List.getElem?_set_self (by simpa using h)]
    simp [h, upd]
  · rw [List.getElem?_set_ne (fun e => hj e.symm)]
    simp only [List.getElem?_map, List.getElem?_range, upd, if_neg hj]
    by_cases h52 : j < n
    · simp [h52, hj]
    · simp [h52]
theorem map_upd {n : Nat} {vv : Nat → Value} {a q : Nat} {v : Value} (hq : q = a) (h : a < n) : ((List.range n).map vv).set q v = (List.range n).map (upd vv a v) := by
  subst hq
  apply List.ext_getElem?
  intro j
  by_cases hj : j = q
  · subst hj; rw [List.getElem?_set_self (by simpa using h)]; simp [h, upd]
  · rw [List.getElem?_set_ne (fun e => hj e.symm)]
    simp only [List.getElem?_map, List.getElem?_range]
    by_cases h52 : j < n
    · simp [h52, upd, hj]
    · simp [h52]
theorem map_get {n : Nat} {vv : Nat → Value} {a q : Nat} (hq : q = a) (h : a < n) : ((List.range n).map vv)[q]? = some (vv a) := by subst hq; simp [h]
theorem fill_map (f : Nat → Value) (z : Value) (n : Nat) : fillL f z n 0 = (List.range n).map fun _ => z := by
  unfold fillL
  apply List.ext_getElem?
  intro j
  by_cases h : j < n
  · simp [h, List.getElem?_replicate]
  · simp [h, List.getElem?_replicate]
theorem fillT (g1 g3 g5 g7 g9 n : Nat) : Fill (bPlace Tryd.prog 101) ([.slice none 0 0] ++ List.replicate 513 (.int .i64 0) ++ List.replicate 4 (.slice none 0 0)) [(0, sV g1 n), (3, sV g3 n), (4, sV g5 n), (5, sV g7 n), (6, sV g9 n)] (tcells (sV g1 n) (cellsK 512 fun _ => 0) 0 (sV g3 n) (sV g5 n) (sV g7 n) (sV g9 n)) := ⟨by kernel_rfl⟩

end Go.Proofs.YtljgejbmimapdaaDoor
