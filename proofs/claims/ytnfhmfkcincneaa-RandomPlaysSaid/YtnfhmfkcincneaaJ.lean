/- Slices of ints that the call owns, or reads. -/
import Derived.Test.YtnfhmfkcincneaaI
import Derived.Laws.OwnMore
import Derived.Deep.AppendLies
import Derived.Maps.AppendAt
namespace Go.Proofs.Ytnfhmfkcincneaa
open Go.ChangeShapes Go.WideShapes Go.ChangeAt Go.RowKit Go.Deep

/-- The slice v owns a row of just these ints (and maybe room behind them), in a block from B on. -/
def OwnI (w : World) (B : Nat) (v : Value) (l : List Int) : Prop := w.ownsRow B 3 1 v l.length (l.map (Value.int .i64))
/-- The slice v reads as these ints. -/
def IntsAt (w : World) (v : Value) (l : List Int) : Prop :=
  ∃ (A : Option Addr) (cap : Nat), v = .slice A l.length cap ∧ (0 < l.length → ∃ g off, A = some ⟨g, off, none⟩ ∧ g < w.heap.size ∧ ∀ i, i < l.length → w.cell? ⟨g, off + i, none⟩ = some (.int .i64 (l[i]?.getD 0)))

section
variable {w w' : World} {B : Nat} {v : Value} {l : List Int}
theorem OwnI.nil (w : World) (B : Nat) : OwnI w B (.slice none 0 0) [] := World.ownsRow_nil w B _ _
theorem grownBy_of_only {S : Nat → Prop} (h : Only S w w') (hs : ∀ k, ¬ S k) : w.grownBy w' none := ⟨h.os, h.tape, h.output, h.size, fun k hk _ => h.block k hk (hs k)⟩
theorem OwnI.lt (h : OwnI w B v l) : ∀ k, v.ownBlock = some k → B ≤ k ∧ k < w.heap.size := World.ownsRow.lt h
theorem OwnI.kept {S : Nat → Prop} (h : OwnI w B v l) (ho : Only S w w') (hn : ∀ k, v.ownBlock = some k → ¬ S k) : OwnI w' B v l := by
  unfold OwnI at *
  refine ⟨h.1, ?_⟩
  rcases h.2 with hz | ⟨g, cap, cur, rfl, hb, hgg, rest⟩
  · exact .inl hz
  · refine .inr ⟨g, cap, cur, rfl, hb, ?_, rest⟩
    rw [ho.block g (Array.getElem?_eq_some_iff.1 hgg).1 (hn g rfl)]
    exact hgg
theorem OwnI.up {B' : Nat} (h : OwnI w B v l) (hB : B' ≤ B) : OwnI w B' v l := by
  unfold OwnI at *
  refine ⟨h.1, ?_⟩
  rcases h.2 with hz | ⟨g, cap, cur, rfl, hb, rest⟩
  · exact .inl hz
  · exact .inr ⟨g, cap, cur, rfl, by omega, rest⟩
theorem OwnI.form (h : OwnI w B v l) (hl : 0 < l.length) : ∃ g cap, v = .slice (some ⟨g, 0, none⟩) l.length cap ∧ B ≤ g ∧ g < w.heap.size := by
  rcases h.2 with ⟨_, hz⟩ | ⟨g, cap, cur, rfl, hb, hgg, _⟩
  · omega
  · exact ⟨g, cap, rfl, hb, (Array.getElem?_eq_some_iff.1 hgg).1⟩
theorem OwnI.cell {g cap n : Nat} (h : OwnI w B (.slice (some ⟨g, 0, none⟩) n cap) l) (hn : n = l.length) {i : Nat} (hi : i < l.length) : w.cell? ⟨g, i, none⟩ = some (.int .i64 (l[i]?.getD 0)) := by
  subst hn
  unfold OwnI at h
  rw [World.ownsRow.cellAt h i (by omega)]
  simp [hi]
theorem OwnI.frozen {g cap n : Nat} (h : OwnI w B (.slice (some ⟨g, 0, none⟩) n cap) l) (hn : n = l.length) (i : Nat) : w.frozen? ⟨g, i, none⟩ = false := by
  subst hn
  exact World.ownsRow.frozenAt h i
theorem OwnI.set {g cap n : Nat} (h : OwnI w B (.slice (some ⟨g, 0, none⟩) n cap) l) (hn : n = l.length) (i : Nat) (x : Int) : OwnI (w.setCell ⟨g, i, none⟩ (.int .i64 x)) B (.slice (some ⟨g, 0, none⟩) n cap) (l.set i x) := by
  subst hn
  have := (World.ownsRow.stored h i (.int .i64 x)).1
  unfold OwnI
  simpa [List.map_set] using this
theorem OwnI.swapped {g cap n : Nat} (h : OwnI w B (.slice (some ⟨g, 0, none⟩) n cap) l) (hn : n = l.length) (i j : Nat) :
    OwnI ((w.setCell ⟨g, i, none⟩ (.int .i64 (l[j]?.getD 0))).setCell ⟨g, j, none⟩ (.int .i64 (l[i]?.getD 0))) B (.slice (some ⟨g, 0, none⟩) n cap) (swapL l i j) := by
  have := (h.set hn i (l[j]?.getD 0)).set (by simpa using hn) j (l[i]?.getD 0)
  simpa [swapL] using this
theorem OwnI.ints (h : OwnI w B v l) : IntsAt w v l := by
  have h' := h
  rcases h.2 with ⟨rfl, hz⟩ | ⟨g, cap, cur, rfl, hb, hgg, _⟩
  · exact ⟨none, 0, by rw [hz], fun h => by omega⟩
  · exact ⟨_, cap, rfl, fun _ => ⟨g, 0, rfl, (Array.getElem?_eq_some_iff.1 hgg).1, fun i hi => by simpa using h'.cell rfl hi⟩⟩
theorem Blk.ints {g : Nat} (h : Blk w g 3 (ivs l)) : IntsAt w (.slice (some ⟨g, 0, none⟩) l.length l.length) l :=
  ⟨_, _, rfl, fun _ => ⟨g, 0, rfl, h.lt, fun i hi => by rw [Nat.zero_add, h.int hi]; simp⟩⟩
theorem IntsAt.kept {S : Nat → Prop} (h : IntsAt w v l) (ho : Only S w w') (hn : ∀ g off n c, v = .slice (some ⟨g, off, none⟩) n c → ¬ S g) : IntsAt w' v l := by
  obtain ⟨A, cap, rfl, hc⟩ := h
  refine ⟨A, cap, rfl, fun hl => ?_⟩
  obtain ⟨g, off, rfl, hg, hcell⟩ := hc hl
  exact ⟨g, off, rfl, Nat.lt_of_lt_of_le hg ho.size, fun i hi => by rw [ho.cell (p := ⟨g, off + i, none⟩) hg (hn _ _ _ _ rfl)]; exact hcell i hi⟩
theorem IntsAt.drewN (h : IntsAt w v l) (n : Nat) : IntsAt (w.drewN n) v l := h
end

theorem info_int : ∃ i, Try.prog.info? 3 = some i ∧ i.zero = some (.int .i64 0) ∧ i.size = 1 ∧ i.bytes = 8 := info_parts (by kernel_rfl)

/-- 'l = append(l, x)' of one int, onto a row of the call's own. -/
theorem append_int {ops : Array Oper} {rest : List Oper} {o : Oper} {a : Act} {Q : Exit → Act → World → Prop} {w : World} (hgd : o.guard = none) (s x : Operand)
    (ho : o.op = .call { callee := .builtin .append, args := #[s, x], argTypes := #[32, 32] })
    {B : Nat} {v : Value} {l : List Int} (n : Int) (hown : OwnI w B v l) (hs : a.eval s = v) (hx : a.eval x = .slice (some ⟨w.heap.size, 0, none⟩) 1 1) (hB : B ≤ w.heap.size) (hlen : l.length < 17000000000000)
    (h : ∀ v' w', OwnI w' B v' (l ++ [n]) → Only (fun k => v.ownBlock = some k) w w' → wpList Try.prog ops Q rest (a.put o.dst v') w') :
    wpList Try.prog ops Q (o :: rest) a (w.alloc (.cells #[.int .i64 n] 3)) := by
  obtain ⟨i0, hi, hz0, hz1, hz2⟩ := info_int
  refine wpList_append_own _ hgd s x 32 ho B 3 i0 (.int .i64 0) 1 8 Try.underlying32 hi hz0 hz1 hz2 rfl (by decide) v l.length _ hs (World.ownsRow.alloc hown _) ⟨w.heap.size, 0, none⟩ 1 1 [.int .i64 n] hx rfl (cell_one_new _ _ _) ?_ ?_ ?_ ?_ ?_
  · intro u hu; simp at hu; subst hu; rfl
  · unfold maxLen; omega
  · omega
  · simp; omega
  · intro v' w' h1 h2 _
    refine h v' w' ?_ ?_
    · unfold OwnI
      simpa using h1
    · refine ⟨h2.os, h2.tape, h2.output, Nat.le_trans (by simp) h2.size, fun k hk hn => ?_⟩
      rw [h2.block k (by simp; omega) (fun e => hn e.symm)]
      exact Below.heap_alloc _ _ _ hk
end Go.Proofs.Ytnfhmfkcincneaa
