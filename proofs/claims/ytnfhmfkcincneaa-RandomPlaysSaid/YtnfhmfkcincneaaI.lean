/- A block known whole; rows of integers; exchanging two elements of a row. -/
import Derived.Test.YtnfhmfkcincneaaH
import Derived.Deep.OwnRows
import Derived.RegionTactic
import Derived.BigRegion
import Derived.OwnWalk
namespace Go.Proofs.Ytnfhmfkcincneaa
open Go.ChangeShapes Go.WideShapes Go.ChangeAt Go.RowKit Go.Deep

/-- Block g is a row of just these cells. -/
def Blk (w : World) (g : Nat) (t : TypeId) (cs : Array Value) : Prop := w.heap[g]? = some (.cells cs t (0, 0))
section
variable {w w' : World} {g : Nat} {t : TypeId} {cs : Array Value}
theorem Blk.lt (h : Blk w g t cs) : g < w.heap.size := (Array.getElem?_eq_some_iff.1 h).1
theorem Blk.cell (h : Blk w g t cs) (i : Nat) : w.cell? ⟨g, i, none⟩ = cs[i]? := by
  unfold Blk at h
  simp [World.cell?, h]
theorem Blk.frozen (h : Blk w g t cs) (i : Nat) : w.frozen? ⟨g, i, none⟩ = false := by
  unfold Blk at h
  simp [World.frozen?, h]
theorem Blk.new (w : World) (t : TypeId) (cs : Array Value) : Blk (w.alloc (.cells cs t)) w.heap.size t cs := by
  show (w.heap.push _)[w.heap.size]? = _
  simp
theorem Blk.kept {S : Nat → Prop} (h : Blk w g t cs) (ho : Only S w w') (hn : ¬ S g) : Blk w' g t cs := (ho.block g h.lt hn).trans h
theorem Blk.alloc (h : Blk w g t cs) (o : Obj) : Blk (w.alloc o) g t cs := (Below.heap_alloc w o g h.lt).trans h
theorem Blk.drew (h : Blk w g t cs) : Blk w.drew g t cs := h
theorem Blk.set (h : Blk w g t cs) (i : Nat) (u : Value) : Blk (w.setCell ⟨g, i, none⟩ u) g t (cs.setIfInBounds i u) := by
  unfold Blk at h ⊢
  simp [World.setCell, Array.getElem?_modify, h]
theorem Blk.other (h : Blk w g t cs) {p : Addr} (hp : g ≠ p.block) (u : Value) : Blk (w.setCell p u) g t cs := (Below.heap_setCell w p u g hp).trans h
end

/-- A list of ints as cells. -/
def ivs (l : List Int) : Array Value := (l.map (Value.int .i64)).toArray
theorem ivs_get {l : List Int} {i : Nat} (h : i < l.length) : (ivs l)[i]? = some (.int .i64 (l.getD i 0)) := by
  simp [ivs, h]
theorem ivs_size (l : List Int) : (ivs l).size = l.length := by simp [ivs]
theorem ivs_set (l : List Int) (i : Nat) (x : Int) : (ivs l).setIfInBounds i (.int .i64 x) = ivs (l.set i x) := by
  simp [ivs, List.map_set]
theorem ivs_zeros (n : Nat) : madeCells #[Value.int .i64 0] n = ivs (List.replicate n 0) := by
  apply Array.ext
  · simp [madeCells, ivs]
  · intro i h1 h2
    simp [madeCells, ivs, Nat.mod_one]
theorem Blk.int {w : World} {g : Nat} {t : TypeId} {l : List Int} (h : Blk w g t (ivs l)) {i : Nat} (hi : i < l.length) : w.cell? ⟨g, i, none⟩ = some (.int .i64 (l.getD i 0)) := by
  rw [h.cell, ivs_get hi]
def swapL (l : List Int) (i j : Nat) : List Int := (l.set i (l.getD j 0)).set j (l.getD i 0)
theorem swapL_length (l : List Int) (i j : Nat) : (swapL l i j).length = l.length := by simp [swapL]
theorem Blk.swapped {w : World} {g : Nat} {t : TypeId} {l : List Int} (h : Blk w g t (ivs l)) (i j : Nat) :
    Blk ((w.setCell ⟨g, i, none⟩ (.int .i64 (l.getD j 0))).setCell ⟨g, j, none⟩ (.int .i64 (l.getD i 0))) g t (ivs (swapL l i j)) := by
  have := (h.set i (.int .i64 (l.getD j 0))).set j (.int .i64 (l.getD i 0))
  rw [ivs_set, ivs_set] at this
  exact this
end Go.Proofs.Ytnfhmfkcincneaa
