/- Sets: their members, in order; channels. -/
import Derived.Test.YtljgejbmimapdaaDoorD
set_option maxRecDepth 100000
set_option maxHeartbeats 4000000
set_option linter.unusedSimpArgs false
set_option linter.unusedVariables false
set_option linter.unusedSectionVars false
namespace Go.Proofs.YtljgejbmimapdaaDoor
open Go.RowKit

def slen (ws : Ws) (k : Nat) : Nat := ((ws.take k).map pop64).sum
theorem slen_succ {ws : Ws} {k : Nat} (h : k < ws.length) : slen ws (k + 1) = slen ws k + pop64 (nth ws k) := by
  unfold slen
  rw [List.take_succ_eq_append_getElem h, nth_eq h, List.map_append, List.sum_append]; simp
theorem slen_le (ws : Ws) : ∀ k, slen ws k ≤ 127 * k
  | 0 => by simp [slen]
  | k + 1 => by
    have := slen_le ws k
    rcases Nat.lt_or_ge k ws.length with h | h
    · rw [slen_succ h]; have := pop64_le (nth ws k); omega
    · unfold slen at *; rw [List.take_of_length_le (by omega)] at *; omega
/-- The members from i on. -/
@[irreducible] def memF (ws : Ws) (i : Nat) : List Nat := (List.range' i (512 - i)).filter (sBit ws)
abbrev memN (ws : Ws) : List Nat := memF ws 0
def headI : List Nat → Int
  | [] => -1
  | x :: _ => (x : Int)
theorem memF_none {ws : Ws} {i : Nat} (h : ∀ j, i ≤ j → j < 512 → sBit ws j = false) : memF ws i = [] := by
  unfold memF
  rw [List.filter_eq_nil_iff]
  intro j hj
  obtain ⟨h1, h2⟩ := List.mem_range'_1.1 hj
  rw [h j h1 (by omega)]; simp
theorem memF_some {ws : Ws} {i r : Nat} (hi : i ≤ r) (hr : r < 512) (hb : sBit ws r = true) (h : ∀ j, i ≤ j → j < r → sBit ws j = false) : memF ws i = r :: memF ws (r + 1) := by
  unfold memF
  have e : List.range' i (512 - i) = List.range' i (r - i) ++ (r :: List.range' (r + 1) (512 - (r + 1))) := by
    rw [show r :: List.range' (r + 1) (512 - (r + 1)) = List.range' r (512 - r) from by rw [show 512 - r = (512 - (r + 1)) + 1 by omega, List.range'_succ]]
    have := List.range'_append (s := i) (m := r - i) (n := 512 - r) (step := 1)
    rw [Nat.one_mul, show i + (r - i) = r by omega, show r - i + (512 - r) = 512 - i by omega] at this
    exact this.symm
  rw [e, List.filter_append, List.filter_cons_of_pos (by simpa using hb)]
  have : (List.range' i (r - i)).filter (sBit ws) = [] := by
    rw [List.filter_eq_nil_iff]
    intro j hj
    obtain ⟨h1, h2⟩ := List.mem_range'_1.1 hj
    rw [h j h1 (by omega)]; simp
  rw [this]; rfl
theorem memF_mem {ws : Ws} {i j : Nat} : j ∈ memF ws i ↔ i ≤ j ∧ j < 512 ∧ sBit ws j = true := by
  unfold memF
  rw [List.mem_filter, List.mem_range'_1]
  constructor
  · rintro ⟨⟨h1, h2⟩, h3⟩; exact ⟨h1, by omega, h3⟩
  · rintro ⟨h1, h2, h3⟩; exact ⟨⟨h1, by omega⟩, h3⟩
theorem memF_cons {ws : Ws} {i h : Nat} {t : List Nat} (e : memF ws i = h :: t) : i ≤ h ∧ h < 512 ∧ t = memF ws (h + 1) := by
  have hm := memF_mem.1 (show h ∈ memF ws i by rw [e]; simp)
  have hs : memF ws i = h :: memF ws (h + 1) := memF_some hm.1 hm.2.1 hm.2.2 (fun j h1 h2 => by
    cases hb : sBit ws j with
    | false => rfl
    | true =>
      have hj : j ∈ memF ws i := memF_mem.2 ⟨h1, by omega, hb⟩
      have hsort : (memF ws i).Pairwise (· < ·) := by unfold memF; exact List.Pairwise.filter _ List.pairwise_lt_range'
      rw [e] at hj hsort
      rcases List.mem_cons.1 hj with hj | hj
      · omega
      · have := (List.pairwise_cons.1 hsort).1 j hj; omega)
  rw [e] at hs
  exact ⟨hm.1, hm.2.1, (List.cons.inj hs).2⟩
theorem memF_len (ws : Ws) (i : Nat) : (memF ws i).length ≤ 512 := by
  unfold memF
  have := List.length_filter_le (sBit ws) (List.range' i (512 - i))
  rw [List.length_range'] at this; omega
theorem shl_shr (a : BitVec 64) (k j : Nat) (hj : j < 64) : ((a >>> k) <<< k).getLsbD j = (a.getLsbD j && decide (k ≤ j)) := by
  rw [BitVec.getLsbD_shiftLeft, BitVec.getLsbD_ushiftRight]
  by_cases h : j < k
  · simp [h]
  · rw [show k + (j - k) = j by omega]; simp [hj, h]; intro _; omega
/-- What the search for the next member knows. -/
structure NxInv (ws : Ws) (i at' : Nat) (b : BitVec 64) : Prop where
  lt : at' < 8
  ge : i < 64 * (at' + 1)
  bit : ∀ j, j < 64 → b.getLsbD j = (sBit ws (64 * at' + j) && decide (i ≤ 64 * at' + j))
  none : ∀ j, i ≤ j → j < 64 * at' → sBit ws j = false
theorem NxInv.start {ws : Ws} {i : Nat} (hi : i < 512) : NxInv ws i (i / 64) ((nth ws (i / 64) >>> (i % 64)) <<< (i % 64)) where
  lt := by omega
  ge := by omega
  bit j hj := by
    rw [shl_shr _ _ _ hj]
    unfold sBit
    rw [show (64 * (i / 64) + j) / 64 = i / 64 by omega, show (64 * (i / 64) + j) % 64 = j by omega]
    congr 1
    exact decide_eq_decide.2 (by omega)
  none j h1 h2 := by omega
theorem NxInv.next {ws : Ws} {i a : Nat} (h : NxInv ws i a 0#64) (ha : a + 1 < 8) : NxInv ws i (a + 1) (nth ws (a + 1)) where
  lt := ha
  ge := by have := h.ge; omega
  bit j hj := by
    have := h.ge
    unfold sBit
    rw [show (64 * (a + 1) + j) / 64 = a + 1 by omega, show (64 * (a + 1) + j) % 64 = j by omega, decide_eq_true (by omega), Bool.and_true]
  none j h1 h2 := by
    rcases Nat.lt_or_ge j (64 * a) with hj | hj
    · exact h.none j h1 hj
    · have := h.bit (j - 64 * a) (by omega)
      rw [show 64 * a + (j - 64 * a) = j by omega, decide_eq_true h1, Bool.and_true, BitVec.getLsbD_zero] at this
      exact this.symm


theorem NxInv.found {ws : Ws} {i a : Nat} {b : BitVec 64} (h : NxInv ws i a b) (hb : b ≠ 0#64) : memF ws i = (64 * a + ctz b) :: memF ws (64 * a + ctz b + 1) := by
  have hc := ctz_lt hb
  have h1 := (ctz_bit hb 0).1
  rw [h.bit _ hc] at h1
  simp only [Bool.and_eq_true, decide_eq_true_eq] at h1
  have := h.lt
  refine memF_some h1.2 (by omega) h1.1 (fun j hi hj => ?_)
  rcases Nat.lt_or_ge j (64 * a) with hj2 | hj2
  · exact h.none j hi hj2
  · have h2 := (ctz_bit hb (j - 64 * a)).2 (by omega)
    rw [h.bit _ (by omega), show 64 * a + (j - 64 * a) = j by omega, decide_eq_true hi, Bool.and_true] at h2
    exact h2
theorem NxInv.over {ws : Ws} {i a : Nat} (h : NxInv ws i a 0#64) (ha : a + 1 = 8) : memF ws i = [] := memF_none fun j h1 h2 => by
  rcases Nat.lt_or_ge j (64 * a) with hj2 | hj2
  · exact h.none j h1 hj2
  · have h3 := h.bit (j - 64 * a) (by omega)
    rw [show 64 * a + (j - 64 * a) = j by omega, decide_eq_true h1, Bool.and_true, BitVec.getLsbD_zero] at h3
    exact h3.symm
theorem memF_drop (ws : Ws) : ∀ (k i : Nat), k < (memF ws i).length → memF ws (nth (memF ws i) k + 1) = (memF ws i).drop (k + 1)
  | k, i, hk => by
    cases e : memF ws i with
    | nil => rw [e] at hk; simp at hk
    | cons h t =>
      obtain ⟨h1, h2, h3⟩ := memF_cons e
      cases k with
      | zero => simp [nth, h3]
      | succ k =>
        rw [e] at hk
        subst h3
        have := memF_drop ws k (h + 1) (by simpa using hk)
        simpa [nth] using this
theorem headI_drop {xs : List Nat} {k : Nat} (h : k < xs.length) : headI (xs.drop k) = ((nth xs k : Nat) : Int) := by
  rw [List.drop_eq_getElem_cons h, nth_eq h]; rfl
theorem headI_neg {xs : List Nat} {k : Nat} (h : headI (xs.drop k) < 0) : xs.length ≤ k := by
  rcases Nat.lt_or_ge k xs.length with hk | hk
  · rw [headI_drop hk] at h; omega
  · exact hk
theorem headI_pos {xs : List Nat} {k : Nat} (h : 0 ≤ headI (xs.drop k)) : k < xs.length := by
  rcases Nat.lt_or_ge k xs.length with hk | hk
  · exact hk
  · rw [List.drop_eq_nil_of_le hk] at h; simp [headI] at h
theorem nth_get {α : Type} [Inhabited α] {xs : List α} {k : Nat} (h : k < xs.length) : xs[k]? = some (nth xs k) := by rw [nth_eq h]; exact List.getElem?_eq_getElem h
theorem get_nth {α : Type} [Inhabited α] {xs : List α} {k : Nat} {x : α} (h : xs[k]? = some x) : k < xs.length ∧ x = nth xs k := by
  obtain ⟨h1, h2⟩ := List.getElem?_eq_some_iff.1 h
  exact ⟨h1, by rw [nth_eq h1, h2]⟩
/-- The cells of numbers. -/
def nums (l : List Nat) : List Value := l.map fun j : Nat => .int .i64 (j : Int)
theorem nums_take {l : List Nat} {k : Nat} (h : k < l.length) : nums (l.take (k + 1)) = nums (l.take k) ++ [.int .i64 ((nth l k : Nat) : Int)] := by
  unfold nums; rw [List.take_succ_eq_append_getElem h, nth_eq h, List.map_append]; rfl
theorem nums_flat (l : List Nat) : nums l = (l.map fun j : Nat => (j : Int)).flatMap Ie := by
  unfold nums
  induction l with
  | nil => rfl
  | cons x r ih => simp_all [Ie]
@[irreducible] def chansN (m : BitVec 64) : List Nat := (List.range' 0 64).filter m.getLsbD
theorem chansN_step {m : BitVec 64} (h : m ≠ 0#64) : chansN m = ctz m :: chansN (m &&& (m - 1#64)) := by
  have hc := ctz_lt h
  have e : List.range' 0 64 = List.range' 0 (ctz m) ++ (ctz m :: List.range' (ctz m + 1) (64 - (ctz m + 1))) := by
    rw [show ctz m :: List.range' (ctz m + 1) (64 - (ctz m + 1)) = List.range' (ctz m) (64 - ctz m) from by rw [show 64 - ctz m = (64 - (ctz m + 1)) + 1 by omega, List.range'_succ]]
    have := List.range'_append (s := 0) (m := ctz m) (n := 64 - ctz m) (step := 1)
    rw [Nat.one_mul, Nat.zero_add, show ctz m + (64 - ctz m) = 64 by omega] at this
    exact this.symm
  have z : ∀ f : Nat → Bool, (∀ j, j < ctz m → f j = false) → (List.range' 0 (ctz m)).filter f = [] := fun f hf => by
    rw [List.filter_eq_nil_iff]
    intro j hj
    obtain ⟨_, h2⟩ := List.mem_range'_1.1 hj
    rw [hf j (by omega)]; simp
  unfold chansN
  rw [e, List.filter_append, List.filter_append, z _ (fun j hj => (ctz_bit h j).2 hj), z _ (fun j hj => by rw [low_off h, (ctz_bit h j).2 hj]; rfl), List.filter_cons_of_pos (by simpa using (ctz_bit h 0).1), List.filter_cons_of_neg (by rw [low_off h]; simp)]
  simp only [List.nil_append]
  congr 1
  apply List.filter_congr
  intro j hj
  obtain ⟨h1, _⟩ := List.mem_range'_1.1 hj
  rw [low_off h, decide_eq_false (by omega)]; simp
theorem chansN_len (m : BitVec 64) : (chansN m).length ≤ 64 := by
  unfold chansN
  have := List.length_filter_le m.getLsbD (List.range' 0 64)
  rw [List.length_range'] at this; exact this
theorem chansN_zero : chansN 0#64 = [] := by
  unfold chansN; rw [List.filter_eq_nil_iff]; intro j _; simp

theorem len_ret (ws : Ws) (hws : ws.length = 8) (w : World) : Calls Tryd.prog 106 #[.agg ws.cells.toArray] w fun e w' => e = .returned (.int .i64 (slen ws 8 : Int)) ∧ Below w.heap.size w w' := by
  refine calls_T (M := fun _ => False) (hs := []) Tryd.func106 rfl rfl rfl (Hp.refl _ _) ?_
  refine T.seq ?_
  refine T.region ?_
  (refine TL.ew (Wt.none rfl) rfl rfl (Ew.boxA rfl rfl) ?_; rintro _ _ ⟨g1, rfl, rfl⟩)
  refine TL.yv (Wt.none rfl) rfl rfl (Yv.pur rfl) ?_
  refine TL.nil ?_
  refine K.seq ?_
  refine T.seq ?_
  refine T.region ?_
  refine TL.yv (Wt.none rfl) rfl rfl (Yv.pur rfl) ?_
  refine TL.nil ?_
  refine K.seq ?_
  refine T.seq ?_
  refine T.seq ?_
  refine T.region ?_
  refine TL.yv (Wt.none rfl) rfl rfl (Yv.fieldAddr rfl rfl) ?_
  refine TL.yv (Wt.none rfl) rfl rfl (Yv.loadAO 0 rfl rfl rfl (by rw [List.length_map, hws])) ?_
  refine TL.yv (Wt.none rfl) rfl rfl (Yv.pur rfl) ?_
  refine TL.nil ?_
  refine K.seq ?_
  refine T.block ?_
  refine T.loop (ι := Nat) (fun k => [(3, .int .i64 (slen ws k : Int)), (7, .agg ws.cells.toArray), (8, .int .i64 (k : Int))]) (fun k => []) (fun k => k ≤ 8) (fun k => 8 - k) 0 ?_ ?_ ?_ ?_
  · omega
  · exact (by repeat (first | exact Sub.nil | refine Sub.cons rfl ?_))
  · exact (by repeat (first | exact List.Sublist.refl _ | exact List.nil_sublist _ | refine List.Sublist.cons_cons _ ?_ | refine List.Sublist.cons _ ?_))
  · intro k hphi
    have hle := slen_le ws k
    refine T.seq ?_
    refine T.region ?_
    refine TL.yv (Wt.none rfl) rfl rfl (Yv.pur rfl) ?_
    refine TL.nil ?_
    refine K.seq ?_
    refine T.seq ?_
    refine T.cond rfl (fun h1 => ?_) (fun h1 => ?_)
    · have p1 := h1
      try simp only [decide_eq_true_eq, decide_eq_false_iff_not, Int.not_lt, Int.not_le, Bool.not_eq_true', Bool.not_eq_false', Decidable.not_not, Bool.and_eq_true, Bool.or_eq_true, Bool.and_eq_false_iff, Bool.or_eq_false_iff] at p1
      have hld := Ws.get (ws := ws) (i := k) (p := k) (by omega) rfl
      have hp8 := pop64_le (nth ws k)
      refine T.skip ?_
      refine K.seq ?_
      refine T.seq ?_
      refine T.block ?_
      refine T.seq ?_
      refine T.region ?_
      refine TL.yv (Wt.none rfl) rfl rfl (Yv.indexS rfl rfl rfl rfl (by omega) hld) ?_
      refine TL.yv (Wt.none rfl) rfl rfl (Yv.pur rfl) ?_
      refine TL.nil ?_
      refine K.seq ?_
      refine T.region ?_
      refine TL.yv (Wt.none rfl) rfl rfl (Yv.pur rfl) ?_
      refine TL.yv (Wt.none rfl) rfl rfl (Yv.pur rfl) ?_
      (refine TL.ew (Wt.none rfl) rfl rfl (Ew.callD rfl rfl rfl (fun w hw => ones_ret _ w)) ?_; rintro _ _ ⟨rfl, rfl⟩)
      refine TL.yv (Wt.none rfl) rfl rfl (Yv.addI rfl rfl rfl (by omega)) ?_
      refine TL.yv (Wt.none rfl) rfl rfl (Yv.pur rfl) ?_
      refine TL.nil ?_
      refine K.blk_normal ?_
      refine K.seq ?_
      refine T.region ?_
      refine TL.yv (Wt.none rfl) rfl rfl (Yv.addI rfl rfl rfl (by omega)) ?_
      refine TL.yv (Wt.none rfl) rfl rfl (Yv.pur rfl) ?_
      refine TL.nil ?_
      exact K.next (k + 1) (by omega) (by omega) (by repeat (first | exact Sub.nil | refine Sub.cons rfl ?_ | (refine Sub.consI rfl (by rw [slen_succ (by omega)]; omega) ?_))) (by repeat (first | exact List.Sublist.refl _ | exact List.nil_sublist _ | refine List.Sublist.cons_cons _ ?_ | refine List.Sublist.cons _ ?_))
    · have p1 := h1
      try simp only [decide_eq_true_eq, decide_eq_false_iff_not, Int.not_lt, Int.not_le, Bool.not_eq_true', Bool.not_eq_false', Decidable.not_not, Bool.and_eq_true, Bool.or_eq_true, Bool.and_eq_false_iff, Bool.or_eq_false_iff] at p1
      refine T.exit ?_
      refine K.then_exit ?_
      refine K.then_exit ?_
      refine K.blk_exit_eq ?_
      refine K.seq ?_
      refine T.seq ?_
      refine T.region ?_
      refine TL.yv (Wt.none rfl) rfl rfl (Yv.pur rfl) ?_
      refine TL.yv (Wt.none rfl) rfl rfl (Yv.pur rfl) ?_
      refine TL.nil ?_
      refine K.seq ?_
      refine T.ret ?_
      exact K.ret1 rfl rfl (fun w' hw => ⟨ret_int (by rw [show k = 8 by omega]), hw.isBelow⟩)
theorem add_ret (ws : Ws) (hws : ws.length = 8) (i : Nat) (hi : i < 512) (w : World) : Calls Tryd.prog 109 #[.agg ws.cells.toArray, .int .i64 (i : Int)] w fun e w' => e = .returned (.tuple #[.agg (Ws.cells (sAdd ws i)).toArray, .int .i64 0]) ∧ Below w.heap.size w w' := by
  have hld := Ws.get (ws := ws) (i := i / 64) (p := 0 + 0 + i / 64 * 1) (by omega) (by omega)
  refine calls_T (M := fun _ => False) (hs := []) Tryd.func109 rfl rfl rfl (Hp.refl _ _) ?_
  refine T.seq ?_
  refine T.region ?_
  (refine TL.ew (Wt.none rfl) rfl rfl (Ew.boxA rfl rfl) ?_; rintro _ _ ⟨g2, rfl, rfl⟩)
  (refine TL.ew (Wt.none rfl) rfl rfl (Ew.alloc rfl) ?_; rintro _ _ ⟨g4, rfl, rfl⟩)
  refine TL.yv (Wt.none rfl) rfl rfl (Yv.pur rfl) ?_
  refine TL.nil ?_
  refine K.seq ?_
  refine T.seq ?_
  refine T.seq ?_
  refine T.region ?_
  refine TL.yv (Wt.none rfl) rfl rfl (Yv.pur rfl) ?_
  (refine TL.ew (Wt.none rfl) rfl rfl (Ew.callD rfl rfl rfl (fun w hw => inRange_ret _ _)) ?_; rintro _ _ ⟨rfl, rfl⟩)
  refine TL.yv (Wt.none rfl) rfl rfl (Yv.pur rfl) ?_
  refine TL.nil ?_
  refine K.seq ?_
  refine T.condF rfl (by rw [inB, decide_eq_true (show (0 : Int) ≤ (i : Int) by omega), decide_eq_true (show (i : Int) ≤ 511 by omega)]; rfl) ?_
  refine T.skip ?_
  refine K.seq ?_
  refine T.seq ?_
  refine T.draw (.still 0 (.still 1 (.still 2 (.still 3 (.still 5 (.still 6 (.still 7 (.still 9 (.eff 4 (.still 8 (.still 10 (.eff 11 .done)))))))))))) [.row g4 127 (Ws.cells sNil)] (by kernel_rfl) (by repeat (first | exact List.Sublist.refl _ | exact List.nil_sublist _ | refine List.Sublist.cons_cons _ ?_ | refine List.Sublist.cons _ ?_)) ?_
  refine TS.still rfl (Wt.none rfl) rfl rfl (Yv.pur rfl) ?_
  refine TS.still rfl (Wt.none rfl) rfl rfl (Yv.quoI rfl rfl rfl (by omega)) ?_
  refine TS.still rfl (Wt.none rfl) rfl rfl (Yv.fieldAddr rfl rfl) ?_
  refine TS.still rfl (Wt.none rfl) rfl rfl (Yv.indexAr rfl rfl rfl (show (i : Int) / 64 = ((i / 64 : Nat) : Int) from by omega) (by omega)) ?_
  refine TS.still rfl (Wt.none rfl) rfl rfl (Yv.pur rfl) ?_
  refine TS.still rfl (Wt.none rfl) rfl rfl (Yv.remI rfl rfl rfl (by omega)) ?_
  refine TS.still rfl (Wt.none rfl) rfl rfl (Yv.shlV (a := 1#64) (i % 64) rfl rfl rfl (by omega) (by omega)) ?_
  refine TS.still rfl (Wt.none rfl) rfl rfl (Yv.fieldAddr rfl rfl) ?_
  refine TS.eff ?_
  refine TSo.yv rfl (Wt.none rfl) rfl rfl (Yv.loadO 1 rfl rfl rfl hld) (by repeat (first | exact List.Sublist.refl _ | exact List.nil_sublist _ | refine List.Sublist.cons_cons _ ?_ | refine List.Sublist.cons _ ?_)) ?_
  refine TS.still rfl (Wt.none rfl) rfl rfl (Yv.orV rfl rfl rfl) ?_
  refine TS.still rfl (Wt.none rfl) rfl rfl (Yv.indexAr rfl rfl rfl (show (i : Int) / 64 = ((i / 64 : Nat) : Int) from by omega) (by omega)) ?_
  refine TS.eff ?_
  (refine TSo.ew0 rfl (Wt.none rfl) rfl (Ew.storeR 1 (Ws.cells (sAdd ws i)) rfl rfl rfl rfl (by rw [List.length_map, hws]; omega) (Ws.put (by omega))) ?_; rintro _ _ ⟨rfl, rfl⟩; refine ⟨(by repeat (first | exact List.Sublist.refl _ | exact List.nil_sublist _ | refine List.Sublist.cons_cons _ ?_ | refine List.Sublist.cons _ ?_)), ?_⟩)
  refine TS.done ?_
  refine K.seq ?_
  refine T.seq ?_
  refine T.region ?_
  refine TL.yv (Wt.none rfl) rfl rfl (Yv.loadAO 1 rfl rfl rfl (by rw [List.length_map, sAdd_len, hws])) ?_
  (refine TL.ew0 (Wt.none rfl) rfl (Ew.storeAll 0 rfl rfl rfl rfl (by rw [List.length_map, sAdd_len, hws]) (by rw [List.length_map, sAdd_len, hws]; rfl)) ?_; rintro _ _ ⟨rfl, rfl⟩)
  refine TL.yv (Wt.none rfl) rfl rfl (Yv.pur rfl) ?_
  refine TL.nil ?_
  refine K.seq ?_
  refine T.ret ?_
  exact K.retCT 0 rfl rfl rfl rfl (by rw [List.length_map, sAdd_len, hws]) (fun w' hw => ⟨rfl, hw.isBelow⟩)
theorem next_ret (ws : Ws) (hws : ws.length = 8) (i : Nat) (z : Int) (hz : z = (i : Int)) (w : World) (ht : Tab w) : Calls Tryd.prog 117 #[.agg ws.cells.toArray, .int .i64 z] w fun e w' => e = .returned (.int .i64 (headI (memF ws i))) ∧ Below w.heap.size w w' := by
  subst hz
  refine calls_T (M := fun _ => False) (hs := []) Tryd.func117 rfl rfl rfl (Hp.refl _ _) ?_
  refine T.seq ?_
  refine T.region ?_
  (refine TL.ew (Wt.none rfl) rfl rfl (Ew.boxA rfl rfl) ?_; rintro _ _ ⟨g2, rfl, rfl⟩)
  refine TL.yv (Wt.none rfl) rfl rfl (Yv.pur rfl) ?_
  refine TL.nil ?_
  refine K.seq ?_
  refine T.seq ?_
  refine T.seq ?_
  refine T.region ?_
  refine TL.yv (Wt.none rfl) rfl rfl (Yv.pur rfl) ?_
  refine TL.yv (Wt.none rfl) rfl rfl (Yv.pur rfl) ?_
  refine TL.nil ?_
  refine K.seq ?_
  refine T.condF rfl (decide_eq_false (by omega)) ?_
  refine T.skip ?_
  refine K.seq ?_
  refine T.seq ?_
  refine T.seq ?_
  refine T.region ?_
  refine TL.yv (Wt.none rfl) rfl rfl (Yv.pur rfl) ?_
  refine TL.yv (Wt.none rfl) rfl rfl (Yv.pur rfl) ?_
  refine TL.nil ?_
  refine K.seq ?_
  refine T.cond rfl (fun h1 => ?_) (fun h1 => ?_)
  · have p1 := h1
    try simp only [decide_eq_true_eq, decide_eq_false_iff_not, Int.not_lt, Int.not_le, Bool.not_eq_true', Bool.not_eq_false', Decidable.not_not, Bool.and_eq_true, Bool.or_eq_true, Bool.and_eq_false_iff, Bool.or_eq_false_iff] at p1
    refine T.seq ?_
    refine T.region ?_
    refine TL.yv (Wt.none rfl) rfl rfl (Yv.pur rfl) ?_
    refine TL.nil ?_
    refine K.seq ?_
    refine T.ret ?_
    refine K.then_ret ?_
    exact K.ret1 rfl rfl (fun w' hw => ⟨ret_int (by rw [memF_none (fun j h1 h2 => by omega)]; rfl), hw.isBelow⟩)
  · have p1 := h1
    try simp only [decide_eq_true_eq, decide_eq_false_iff_not, Int.not_lt, Int.not_le, Bool.not_eq_true', Bool.not_eq_false', Decidable.not_not, Bool.and_eq_true, Bool.or_eq_true, Bool.and_eq_false_iff, Bool.or_eq_false_iff] at p1
    have hld := Ws.get (ws := ws) (i := i / 64) (p := 0 + 0 + i / 64 * 1) (by omega) (by omega)
    refine T.skip ?_
    refine K.seq ?_
    refine T.seq ?_
    refine T.region ?_
    refine TL.yv (Wt.none rfl) rfl rfl (Yv.pur rfl) ?_
    refine TL.yv (Wt.none rfl) rfl rfl (Yv.quoI rfl rfl rfl (by omega)) ?_
    refine TL.yv (Wt.none rfl) rfl rfl (Yv.pur rfl) ?_
    refine TL.nil ?_
    refine K.seq ?_
    refine T.seq ?_
    refine T.region ?_
    refine TL.yv (Wt.none rfl) rfl rfl (Yv.pur rfl) ?_
    refine TL.yv (Wt.none rfl) rfl rfl (Yv.fieldAddr rfl rfl) ?_
    refine TL.yv (Wt.none rfl) rfl rfl (Yv.indexAr rfl rfl rfl (show (i : Int) / 64 = ((i / 64 : Nat) : Int) from by omega) (by omega)) ?_
    refine TL.yv (Wt.none rfl) rfl rfl (Yv.loadO 0 rfl rfl rfl hld) ?_
    refine TL.yv (Wt.none rfl) rfl rfl (Yv.pur rfl) ?_
    refine TL.yv (Wt.none rfl) rfl rfl (Yv.remI rfl rfl rfl (by omega)) ?_
    refine TL.yv (Wt.none rfl) rfl rfl (Yv.shrV (i % 64) rfl rfl rfl (by omega) (by omega)) ?_
    refine TL.yv (Wt.none rfl) rfl rfl (Yv.pur rfl) ?_
    refine TL.yv (Wt.none rfl) rfl rfl (Yv.remI rfl rfl rfl (by omega)) ?_
    refine TL.yv (Wt.none rfl) rfl rfl (Yv.shlV (i % 64) rfl rfl rfl (by omega) (by omega)) ?_
    refine TL.yv (Wt.none rfl) rfl rfl (Yv.pur rfl) ?_
    refine TL.nil ?_
    refine K.seq ?_
    refine T.seq ?_
    refine T.block ?_
    refine T.loop (ι := Nat × BitVec 64) (fun x => [(2, .pointer (some ⟨g2, 0, none⟩)), (5, .int .i64 (x.1 : Int)), (6, U x.2)]) (fun x => [.row g2 127 ws.cells]) (fun x => NxInv ws i x.1 x.2) (fun x => 8 - x.1) (i / 64, (nth ws (i / 64) >>> (i % 64)) <<< (i % 64)) ?_ ?_ ?_ ?_
    · exact NxInv.start (by omega)
    · exact (by repeat (first | exact Sub.nil | refine Sub.cons rfl ?_ | (refine Sub.consI rfl (by omega) ?_)))
    · exact (by repeat (first | exact List.Sublist.refl _ | exact List.nil_sublist _ | refine List.Sublist.cons_cons _ ?_ | refine List.Sublist.cons _ ?_))
    · intro x hphi
      obtain ⟨a, b⟩ := x
      dsimp only at hphi ⊢
      have hlt0 := hphi.lt
      refine T.seq ?_
      refine T.seq ?_
      refine T.region ?_
      refine TL.yv (Wt.none rfl) rfl rfl (Yv.pur rfl) ?_
      refine TL.yv (Wt.none rfl) rfl rfl (Yv.pur rfl) ?_
      refine TL.nil ?_
      refine K.seq ?_
      refine T.cond rfl (fun h2 => ?_) (fun h2 => ?_)
      · have p2 := h2
        try simp only [decide_eq_true_eq, decide_eq_false_iff_not, Int.not_lt, Int.not_le, Bool.not_eq_true', Bool.not_eq_false', Decidable.not_not, Bool.and_eq_true, Bool.or_eq_true, Bool.and_eq_false_iff, Bool.or_eq_false_iff] at p2
        have hb0 : b = 0#64 := by rw [U_eq0] at h2; exact of_decide_eq_true h2
        subst hb0
        refine T.skip ?_
        refine K.seq ?_
        refine T.block ?_
        refine T.seq ?_
        refine T.region ?_
        refine TL.yv (Wt.none rfl) rfl rfl (Yv.pur rfl) ?_
        refine TL.yv (Wt.none rfl) rfl rfl (Yv.addI rfl rfl rfl (by omega)) ?_
        refine TL.yv (Wt.none rfl) rfl rfl (Yv.pur rfl) ?_
        refine TL.nil ?_
        refine K.seq ?_
        refine T.seq ?_
        refine T.seq ?_
        refine T.region ?_
        refine TL.yv (Wt.none rfl) rfl rfl (Yv.pur rfl) ?_
        refine TL.yv (Wt.none rfl) rfl rfl (Yv.pur rfl) ?_
        refine TL.nil ?_
        refine K.seq ?_
        refine T.cond rfl (fun h3 => ?_) (fun h3 => ?_)
        · have p3 := h3
          try simp only [decide_eq_true_eq, decide_eq_false_iff_not, Int.not_lt, Int.not_le, Bool.not_eq_true', Bool.not_eq_false', Decidable.not_not, Bool.and_eq_true, Bool.or_eq_true, Bool.and_eq_false_iff, Bool.or_eq_false_iff] at p3
          refine T.seq ?_
          refine T.region ?_
          refine TL.yv (Wt.none rfl) rfl rfl (Yv.pur rfl) ?_
          refine TL.nil ?_
          refine K.seq ?_
          refine T.ret ?_
          refine K.then_ret ?_
          refine K.blk_ret ?_
          refine K.then_ret ?_
          refine K.blk_ret ?_
          refine K.then_ret ?_
          exact K.ret1 rfl rfl (fun w' hw => ⟨ret_int (by rw [hphi.over (by omega)]; rfl), hw.isBelow⟩)
        · have p3 := h3
          try simp only [decide_eq_true_eq, decide_eq_false_iff_not, Int.not_lt, Int.not_le, Bool.not_eq_true', Bool.not_eq_false', Decidable.not_not, Bool.and_eq_true, Bool.or_eq_true, Bool.and_eq_false_iff, Bool.or_eq_false_iff] at p3
          have hlt8 := hphi.lt
          have hld := Ws.get (ws := ws) (i := a + 1) (p := 0 + 0 + (a + 1) * 1) (by omega) (by omega)
          refine T.skip ?_
          refine K.seq ?_
          refine T.region ?_
          refine TL.yv (Wt.none rfl) rfl rfl (Yv.pur rfl) ?_
          refine TL.yv (Wt.none rfl) rfl rfl (Yv.fieldAddr rfl rfl) ?_
          refine TL.yv (Wt.none rfl) rfl rfl (Yv.indexAr rfl rfl rfl (show (a : Int) + 1 = ((a + 1 : Nat) : Int) from by omega) (by omega)) ?_
          refine TL.yv (Wt.none rfl) rfl rfl (Yv.loadO 0 rfl rfl rfl hld) ?_
          refine TL.yv (Wt.none rfl) rfl rfl (Yv.pur rfl) ?_
          refine TL.nil ?_
          refine K.blk_normal ?_
          exact K.next (a + 1, nth ws (a + 1)) (hphi.next (by omega)) (by show 8 - (a + 1) < 8 - a; omega) (by repeat (first | exact Sub.nil | refine Sub.cons rfl ?_ | (refine Sub.consI rfl (by omega) ?_))) (by repeat (first | exact List.Sublist.refl _ | exact List.nil_sublist _ | refine List.Sublist.cons_cons _ ?_ | refine List.Sublist.cons _ ?_))
      · have p2 := h2
        try simp only [decide_eq_true_eq, decide_eq_false_iff_not, Int.not_lt, Int.not_le, Bool.not_eq_true', Bool.not_eq_false', Decidable.not_not, Bool.and_eq_true, Bool.or_eq_true, Bool.and_eq_false_iff, Bool.or_eq_false_iff] at p2
        have hb0 : b ≠ 0#64 := by rw [U_eq0] at h2; exact of_decide_eq_false h2
        have hcz := ctz_lt hb0
        have hlt8 := hphi.lt
        refine T.exit ?_
        refine K.then_exit ?_
        refine K.then_exit ?_
        refine K.blk_exit_eq ?_
        refine K.seq ?_
        refine T.seq ?_
        refine T.region ?_
        refine TL.yv (Wt.none rfl) rfl rfl (Yv.pur rfl) ?_
        refine TL.yv (Wt.none rfl) rfl rfl (Yv.mulI rfl rfl rfl (by omega)) ?_
        refine TL.yv (Wt.none rfl) rfl rfl (Yv.pur rfl) ?_
        (refine TL.ew (Wt.none rfl) rfl rfl (Ew.callD rfl rfl rfl (fun w hw => tz_ret b hb0 w (ht.keptF hw))) ?_; rintro _ _ ⟨rfl, rfl⟩)
        refine TL.yv (Wt.none rfl) rfl rfl (Yv.addI rfl rfl rfl (by omega)) ?_
        refine TL.yv (Wt.none rfl) rfl rfl (Yv.pur rfl) ?_
        refine TL.nil ?_
        refine K.seq ?_
        refine T.ret ?_
        exact K.ret1 rfl rfl (fun w' hw => ⟨ret_int (by rw [hphi.found hb0]; simp only [headI]; omega), hw.isBelow⟩)
theorem min_ret (ws : Ws) (hws : ws.length = 8) (w : World) (ht : Tab w) : Calls Tryd.prog 116 #[.agg ws.cells.toArray] w fun e w' => e = .returned (.int .i64 (headI (memN ws))) ∧ Below w.heap.size w w' := by
  refine calls_T (M := fun _ => False) (hs := []) Tryd.func116 rfl rfl rfl (Hp.refl _ _) ?_
  refine T.seq ?_
  refine T.region ?_
  (refine TL.ew (Wt.none rfl) rfl rfl (Ew.boxA rfl rfl) ?_; rintro _ _ ⟨g1, rfl, rfl⟩)
  refine TL.yv (Wt.none rfl) rfl rfl (Yv.pur rfl) ?_
  refine TL.nil ?_
  refine K.seq ?_
  refine T.seq ?_
  refine T.region ?_
  refine TL.yv (Wt.none rfl) rfl rfl (Yv.loadAO 0 rfl rfl rfl (by rw [List.length_map, hws])) ?_
  (refine TL.ew (Wt.none rfl) rfl rfl (Ew.callD rfl rfl rfl (fun w hw => next_ret ws hws 0 0 rfl w (ht.keptF hw))) ?_; rintro _ _ ⟨rfl, rfl⟩)
  refine TL.yv (Wt.none rfl) rfl rfl (Yv.pur rfl) ?_
  refine TL.nil ?_
  refine K.seq ?_
  refine T.ret ?_
  refine K.ret1 rfl rfl (fun w' hw => ⟨?_, hw.isBelow⟩)
  rfl
theorem all_ret (ws : Ws) (hws : ws.length = 8) (w : World) : Calls Tryd.prog 107 #[.agg ws.cells.toArray] w fun e w' => ∃ x : Nat, True ∧ e = .returned (.func (.func 115) #[] #[.pointer (some ⟨x, 0, none⟩)]) ∧ Hp w (fun _ => False) [.row x 127 ws.cells] w' := by
  refine calls_T (M := fun _ => False) (hs := []) Tryd.func107 rfl rfl rfl (Hp.refl _ _) ?_
  refine T.seq ?_
  refine T.region ?_
  (refine TL.ew (Wt.none rfl) rfl rfl (Ew.boxA rfl rfl) ?_; rintro _ _ ⟨g1, rfl, rfl⟩)
  refine TL.yv (Wt.none rfl) rfl rfl (Yv.pur rfl) ?_
  refine TL.nil ?_
  refine K.seq ?_
  refine T.seq ?_
  refine T.region ?_
  refine TL.yv (Wt.none rfl) rfl rfl (Yv.pur rfl) ?_
  refine TL.yv (Wt.none rfl) rfl rfl (Yv.pur rfl) ?_
  refine TL.nil ?_
  refine K.seq ?_
  refine T.ret ?_
  exact K.ret1 rfl rfl (fun w' hw => ⟨g1, trivial, rfl, hw⟩)
theorem all_iter (ws : Ws) (hws : ws.length = 8) (p : Nat) (B : World) (M : Nat → Prop) (ht : Tab B) (hM0 : ¬ M 0) : IterAt Tryd.prog 115 [.pointer (some ⟨p, 0, none⟩)] (fun j : Nat => [.int .i64 (j : Int)]) (memN ws) [.row p 127 ws.cells] B M := by
  intro G Z l W g0 hy hG0 hW
  refine calls_TB (B := B) (M := M) Tryd.func115 rfl rfl rfl hW ?_
  refine T.seq ?_
  refine T.region ?_
  refine TL.yv (Wt.none rfl) rfl rfl (Yv.loadAO 0 rfl rfl rfl (by rw [List.length_map, hws])) ?_
  (refine TL.ew (Wt.none rfl) rfl rfl (Ew.callD rfl rfl rfl (fun w hw => min_ret ws hws w (ht.kept hw hM0))) ?_; rintro _ _ ⟨rfl, rfl⟩)
  refine TL.yv (Wt.none rfl) rfl rfl (Yv.pur rfl) ?_
  refine TL.nil ?_
  refine K.seq ?_
  refine T.block ?_
  refine T.loop (ι := Nat × HS) (fun x => [(0, .func (.yield l) #[] #[]), (1, .pointer (some ⟨p, 0, none⟩)), (3, .int .i64 (headI ((memN ws).drop x.1)))]) (fun x => [.row p 127 ws.cells] ++ x.2) (fun x => x.1 ≤ (memN ws).length ∧ G x.1 x.2) (fun x => (memN ws).length - x.1) (0, g0) ?_ ?_ ?_ ?_
  · exact ⟨by simp, hG0⟩
  · exact (by repeat (first | exact Sub.nil | refine Sub.cons rfl ?_))
  · exact List.Sublist.refl _
  · intro x hphi
    obtain ⟨k, g⟩ := x
    dsimp only at hphi ⊢
    obtain ⟨hkn, hG⟩ := hphi
    refine T.seq ?_
    refine T.seq ?_
    refine T.region ?_
    refine TL.yv (Wt.none rfl) rfl rfl (Yv.pur rfl) ?_
    refine TL.yv (Wt.none rfl) rfl rfl (Yv.pur rfl) ?_
    refine TL.nil ?_
    refine K.seq ?_
    refine T.cond rfl (fun h1 => ?_) (fun h1 => ?_)
    · have p1 := h1
      try simp only [decide_eq_true_eq, decide_eq_false_iff_not, Int.not_lt, Int.not_le, Bool.not_eq_true', Bool.not_eq_false', Decidable.not_not, Bool.and_eq_true, Bool.or_eq_true, Bool.and_eq_false_iff, Bool.or_eq_false_iff] at p1
      have hk := headI_pos p1
      have h512 : nth (memN ws) k < 512 := (memF_mem.1 (nth_mem hk)).2.1
      rw [headI_drop hk]
      refine T.skip ?_
      refine K.seq ?_
      refine T.seq ?_
      refine T.block ?_
      refine T.seq ?_
      refine T.region ?_
      refine TL.yv (Wt.none rfl) rfl rfl (Yv.pur rfl) ?_
      refine TL.yv (Wt.none rfl) rfl rfl (Yv.pur rfl) ?_
      refine TL.yieldI (Wt.none rfl) rfl rfl rfl rfl rfl hy (nth_get hk) hG (enc := fun j : Nat => [.int .i64 (j : Int)]) (x := nth (memN ws) k) (i := k) ?_ ?_
      · intro g' hG'
        refine TL.yv (Wt.none rfl) rfl rfl (Yv.pur rfl) ?_
        refine TL.nil ?_
        refine K.seq ?_
        refine T.condF rfl rfl ?_
        refine T.skip ?_
        refine K.blk_normal ?_
        refine K.seq ?_
        refine T.region ?_
        refine TL.yv (Wt.none rfl) rfl rfl (Yv.loadAO 0 rfl rfl rfl (by rw [List.length_map, hws])) ?_
        refine TL.yv (Wt.none rfl) rfl rfl (Yv.pur rfl) ?_
        refine TL.yv (Wt.none rfl) rfl rfl (Yv.addI rfl rfl rfl (by omega)) ?_
        (refine TL.ew (Wt.none rfl) rfl rfl (Ew.callD rfl rfl rfl (fun w hw => next_ret ws hws (nth (memN ws) k + 1) _ (by omega) w (ht.kept hw hM0))) ?_; rintro _ _ ⟨rfl, rfl⟩)
        refine TL.yv (Wt.none rfl) rfl rfl (Yv.pur rfl) ?_
        refine TL.nil ?_
        exact K.next (k + 1, g') ⟨by dsimp only; omega, hG'⟩ (by dsimp only; omega) (by rw [← memF_drop ws k 0 hk]; exact (by repeat (first | exact Sub.nil | refine Sub.cons rfl ?_))) (List.Sublist.refl _)
      · intro z hZ
        refine TL.yv (Wt.none rfl) rfl rfl (Yv.pur rfl) ?_
        refine TL.nil ?_
        refine K.seq ?_
        refine T.condT rfl rfl ?_
        refine T.ret ?_
        refine K.blk_ret ?_
        refine K.then_ret ?_
        refine K.then_ret ?_
        refine K.blk_ret ?_
        exact K.ret0K rfl (fun w' hw hkp => ⟨⟨_, rfl⟩, hkp, .inr ⟨z, hZ, hw⟩⟩)
    · have p1 := h1
      try simp only [decide_eq_true_eq, decide_eq_false_iff_not, Int.not_lt, Int.not_le, Bool.not_eq_true', Bool.not_eq_false', Decidable.not_not, Bool.and_eq_true, Bool.or_eq_true, Bool.and_eq_false_iff, Bool.or_eq_false_iff] at p1
      have hk := headI_neg p1
      refine T.exit ?_
      refine K.then_exit ?_
      refine K.then_exit ?_
      refine K.blk_exit_eq ?_
      exact K.end0K rfl (fun w' hw hkp => ⟨⟨_, rfl⟩, hkp, .inl ⟨g, by rw [show (memN ws).length = k from by omega]; exact hG, hw⟩⟩)
theorem list_ret (ws : Ws) (hws : ws.length = 8) (w : World) (ht : Tab w) : Calls Tryd.prog 82 #[.agg ws.cells.toArray] w fun e w' => ∃ v : Value, True ∧ e = .returned v ∧ Hp w (fun _ => False) [.sl v 3 1 (memN ws).length (nums (memN ws))] w' := by
  have hsl8 := slen_le ws 8
  have hml := memF_len ws 0
  refine calls_T (M := fun _ => False) (hs := []) Tryd.func82 rfl rfl rfl (Hp.refl _ _) ?_
  refine T.seq ?_
  refine T.region ?_
  (refine TL.ew (Wt.none rfl) rfl rfl (Ew.boxA rfl rfl) ?_; rintro _ _ ⟨g1, rfl, rfl⟩)
  refine TL.yv (Wt.none rfl) rfl rfl (Yv.pur rfl) ?_
  refine TL.nil ?_
  refine K.seq ?_
  refine T.seq ?_
  refine T.region ?_
  refine TL.yv (Wt.none rfl) rfl rfl (Yv.loadAO 0 rfl rfl rfl (by rw [List.length_map, hws])) ?_
  (refine TL.ew (Wt.none rfl) rfl rfl (Ew.callD rfl rfl rfl (fun w hw => len_ret ws hws w)) ?_; rintro _ _ ⟨rfl, rfl⟩)
  (refine TL.ew (Wt.none rfl) rfl rfl (Ew.makeSlice0 rfl rfl rfl rfl (by omega) (by omega)) ?_; rintro _ _ ⟨g7, rfl, rfl⟩)
  (refine TL.ew (Wt.none rfl) rfl rfl (Ew.alloc rfl) ?_; rintro _ _ ⟨g3, rfl, rfl⟩)
  (refine TL.ew0 (Wt.none rfl) rfl (Ew.store1 0 rfl rfl rfl rfl (by decide)) ?_; rintro _ _ ⟨rfl, rfl⟩)
  refine TL.nil ?_
  refine K.seq ?_
  refine T.seq ?_
  refine T.seq ?_
  refine T.region ?_
  refine TL.yv (Wt.none rfl) rfl rfl (Yv.loadAO 2 rfl rfl rfl (by rw [List.length_map, hws])) ?_
  (refine TL.ew (Wt.none rfl) rfl rfl (Ew.callH rfl rfl rfl (fun w hw => all_ret ws hws _)) ?_; rintro _ _ ⟨b9, -, rfl, rfl⟩)
  dsimp only [List.cons_append, List.nil_append]
  refine TL.nil ?_
  refine K.seq ?_
  refine T.block ?_
  refine T.rangeAt (α := Nat) ((fun j : Nat => [.int .i64 (j : Int)])) (memN ws) ([.row b9 127 ws.cells]) (fun i g => ∃ v, g = [.row g3 62 [v], .sl v 3 1 i (nums ((memN ws).take i))]) (fun _ _ => False) (fun x => [(3, .pointer (some ⟨g3, 0, none⟩)), (4, .int .i64 (x : Int))]) (_) (⟨_, rfl⟩) rfl (all_iter ws hws b9 _ _ ht (fun h => h)) (by decide) (fun _ => rfl) (by exact (by repeat (first | exact List.Sublist.refl _ | exact List.nil_sublist _ | refine List.Sublist.cons_cons _ ?_ | refine List.Sublist.cons _ ?_))) ?_ ?_ ?_ ?_
  · intro l i x X D g hx
    refine T.region ?_
    refine TL.yv (Wt.none rfl) rfl rfl (Yv.pur rfl) ?_
    refine TL.nil ?_
    exact K.at (by repeat (first | exact Sub.nil | refine Sub.cons rfl ?_)) (List.Sublist.refl _)
  · intro l i x X D g hx hG
    obtain ⟨v, rfl⟩ := hG
    obtain ⟨hi, rfl⟩ := get_nth hx
    have hi2 : i < (memF ws 0).length := hi
    dsimp only [List.cons_append, List.nil_append]
    refine T.block ?_
    refine T.region ?_
    refine TL.yv (Wt.none rfl) rfl rfl (Yv.loadO 1 rfl rfl rfl rfl) ?_
    refine TL.yv (Wt.none rfl) rfl rfl (Yv.pur rfl) ?_
    (refine TL.ew (Wt.none rfl) rfl rfl (Ew.buildSlice rfl rfl rfl (by decide)) ?_; rintro _ _ ⟨g13, rfl, rfl⟩)
    (refine TL.ew (Wt.none rfl) rfl rfl (Ew.append 3 0 rfl rfl rfl rfl rfl rfl (by omega) (by omega)) ?_; rintro v14 _ ⟨hv14, rfl⟩)
    (refine TL.ew0 (Wt.none rfl) rfl (Ew.store1 2 rfl rfl rfl rfl (by first | omega | simp)) ?_; rintro _ _ ⟨rfl, rfl⟩)
    refine TL.nil ?_
    refine K.blk_normal ?_
    exact K.round _ ⟨_, rfl, v14, rfl⟩ (by rw [nums_take hi]; exact (by repeat (first | exact List.Sublist.refl _ | exact List.nil_sublist _ | refine List.Sublist.cons_cons _ ?_ | refine List.Sublist.cons _ ?_)))
  · intro g hG
    obtain ⟨v, rfl⟩ := hG
    dsimp only [List.cons_append, List.nil_append]
    rw [List.take_length]
    refine K.blk_normal ?_
    refine K.seq ?_
    refine T.seq ?_
    refine T.region ?_
    refine TL.yv (Wt.none rfl) rfl rfl (Yv.loadO 1 rfl rfl rfl rfl) ?_
    refine TL.yv (Wt.none rfl) rfl rfl (Yv.pur rfl) ?_
    refine TL.nil ?_
    refine K.seq ?_
    refine T.ret ?_
    exact K.ret1 rfl rfl (fun w' hw => ⟨_, trivial, rfl, hw.sub (by repeat (first | exact List.Sublist.refl _ | exact List.nil_sublist _ | refine List.Sublist.cons_cons _ ?_ | refine List.Sublist.cons _ ?_))⟩)
  · intro c y hz; exact hz.elim
theorem sl_one {w : World} {v : Value} {e : TypeId} {size k : Nat} {l : List Value} (h : (Ent.sl v e size k l).ok w) : OneC v := by
  rcases (Ent.sl_ok.1 h).2 with ⟨rfl, _⟩ | ⟨g, cap, cur, rfl, _⟩ <;> exact inferInstance

theorem channels_ret (m : BitVec 64) (w : World) (ht : Tab w) : Calls Tryd.prog 47 #[U m] w fun e w' => ∃ v : Value, OneC v ∧ e = .returned v ∧ Hp w (fun _ => False) [.sl v 3 1 (chansN m).length (nums (chansN m))] w' := by
  have hcl := chansN_len m
  refine calls_T (M := fun _ => False) (hs := []) Tryd.func47 rfl rfl rfl (Hp.refl _ _) ?_
  refine T.seq ?_
  refine T.region ?_
  refine TL.yv (Wt.none rfl) rfl rfl (Yv.pur rfl) ?_
  refine TL.nil ?_
  refine K.seq ?_
  refine T.seq ?_
  refine T.region ?_
  refine TL.yv (Wt.none rfl) rfl rfl (Yv.pur rfl) ?_
  refine TL.nil ?_
  refine K.seq ?_
  refine T.seq ?_
  refine T.block ?_
  refine T.slNil 3 1 ?_
  refine T.loop (ι := BitVec 64 × List Nat × Value) (fun x => [(0, U x.1), (3, x.2.2)]) (fun x => [.sl x.2.2 3 1 x.2.1.length (nums x.2.1)]) (fun x => x.2.1 ++ chansN x.1 = chansN m) (fun x => (chansN x.1).length) (m, [], .slice none 0 0) ?_ ?_ ?_ ?_
  · rfl
  · exact (by repeat (first | exact Sub.nil | refine Sub.cons rfl ?_))
  · exact (by repeat (first | exact List.Sublist.refl _ | exact List.nil_sublist _ | refine List.Sublist.cons_cons _ ?_ | refine List.Sublist.cons _ ?_))
  · intro x hphi
    obtain ⟨b, l, v⟩ := x
    dsimp only at hphi ⊢
    have hll : l.length + (chansN b).length = (chansN m).length := by rw [← hphi, List.length_append]
    refine T.seq ?_
    refine T.seq ?_
    refine T.region ?_
    refine TL.yv (Wt.none rfl) rfl rfl (Yv.pur rfl) ?_
    refine TL.yv (Wt.none rfl) rfl rfl (Yv.pur rfl) ?_
    refine TL.nil ?_
    refine K.seq ?_
    refine T.cond rfl (fun h1 => ?_) (fun h1 => ?_)
    · have p1 := h1
      try simp only [decide_eq_true_eq, decide_eq_false_iff_not, Int.not_lt, Int.not_le, Bool.not_eq_true', Bool.not_eq_false', Decidable.not_not, Bool.and_eq_true, Bool.or_eq_true, Bool.and_eq_false_iff, Bool.or_eq_false_iff] at p1
      have hb0 : b ≠ 0#64 := by rintro rfl; exact p1 rfl
      have hst := chansN_step hb0
      refine T.skip ?_
      refine K.seq ?_
      refine T.seq ?_
      refine T.block ?_
      refine T.region ?_
      refine TL.yv (Wt.none rfl) rfl rfl (Yv.pur rfl) ?_
      refine TL.yv (Wt.none rfl) rfl rfl (Yv.pur rfl) ?_
      (refine TL.ew (Wt.none rfl) rfl rfl (Ew.callD rfl rfl rfl (fun w hw => tz_ret b hb0 w (ht.keptF hw))) ?_; rintro _ _ ⟨rfl, rfl⟩)
      (refine TL.ew (Wt.none rfl) rfl rfl (Ew.buildSlice rfl rfl rfl (by decide)) ?_; rintro _ _ ⟨g13, rfl, rfl⟩)
      (refine TL.ew (Wt.none rfl) rfl rfl (Ew.append 1 0 rfl rfl rfl rfl rfl rfl (by omega) (by omega)) ?_; rintro v14 _ ⟨hv14, rfl⟩)
      refine TL.yv (Wt.none rfl) rfl rfl (Yv.pur rfl) ?_
      refine TL.nil ?_
      refine K.blk_normal ?_
      refine K.seq ?_
      refine T.region ?_
      refine TL.yv (Wt.none rfl) rfl rfl (Yv.pur rfl) ?_
      refine TL.yv (Wt.none rfl) rfl rfl (Yv.pur rfl) ?_
      refine TL.yv (Wt.none rfl) rfl rfl (Yv.subV (b := 1#64) rfl rfl rfl) ?_
      refine TL.yv (Wt.none rfl) rfl rfl (Yv.andV rfl rfl rfl) ?_
      refine TL.yv (Wt.none rfl) rfl rfl (Yv.pur rfl) ?_
      refine TL.nil ?_
      exact K.next (b &&& (b - 1#64), l ++ [ctz b], v14) (by dsimp only; rw [List.append_assoc, List.singleton_append, ← chansN_step hb0]; exact hphi) (by dsimp only; rw [chansN_step hb0]; simp) (by repeat (first | exact Sub.nil | refine Sub.cons rfl ?_)) (by simp only [List.length_append, List.length_singleton, nums, List.map_append, List.map_cons, List.map_nil]; exact (by repeat (first | exact List.Sublist.refl _ | exact List.nil_sublist _ | refine List.Sublist.cons_cons _ ?_ | refine List.Sublist.cons _ ?_)))
    · have p1 := h1
      try simp only [decide_eq_true_eq, decide_eq_false_iff_not, Int.not_lt, Int.not_le, Bool.not_eq_true', Bool.not_eq_false', Decidable.not_not, Bool.and_eq_true, Bool.or_eq_true, Bool.and_eq_false_iff, Bool.or_eq_false_iff] at p1
      have hb0 : b = 0#64 := by refine BitVec.eq_of_toNat_eq ?_; show b.toNat = 0; omega
      subst hb0
      rw [chansN_zero, List.append_nil] at hphi
      subst hphi
      refine T.exit ?_
      refine K.then_exit ?_
      refine K.then_exit ?_
      refine K.blk_exit_eq ?_
      refine K.seq ?_
      refine T.seq ?_
      refine T.region ?_
      refine TL.yv (Wt.none rfl) rfl rfl (Yv.pur rfl) ?_
      refine TL.yv (Wt.none rfl) rfl rfl (Yv.pur rfl) ?_
      refine TL.nil ?_
      refine K.seq ?_
      refine T.ret ?_
      exact K.ret1 rfl rfl (fun w' hw => ⟨_, sl_one (hw.get (i := 0) rfl), rfl, hw.sub (by repeat (first | exact List.Sublist.refl _ | exact List.nil_sublist _ | refine List.Sublist.cons_cons _ ?_ | refine List.Sublist.cons _ ?_))⟩)
end Go.Proofs.YtljgejbmimapdaaDoor
