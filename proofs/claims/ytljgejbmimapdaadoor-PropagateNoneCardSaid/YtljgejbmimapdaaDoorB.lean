/- Sets of stations. -/
import Derived.Test.YtljgejbmimapdaaDoorA
set_option maxRecDepth 100000
set_option maxHeartbeats 4000000
set_option linter.unusedSimpArgs false
set_option linter.unusedVariables false
set_option linter.unusedSectionVars false
namespace Go.Proofs.YtljgejbmimapdaaDoor
open Go.RowKit

theorem Cs.later {w w' : World} (hb : Below w.heap.size w w') {g p : Nat} {l : List Value} (h : Cs w g p l) : Cs w' g p l := h.kept (Hp.of_below hb) (fun h => h)
def Dx.ok (d : Dx) : Bool := inB d.st 0 511 && (allB (fun c => inB c 2 51) d.chs && incB cmpI d.chs)
def Pb.rulesOk (P : Pb) : Bool := decide ((P.ps.length : Int) ≤ 4096) && (allB Pr.ok P.ps && (incB Pr.cmp P.ps && (decide ((P.ls.length : Int) ≤ 1024) && (allB Ld.ok P.ls && (incB Ld.cmp P.ls && (decide ((P.cs.length : Int) ≤ 1024) && (allB Cp.ok P.cs && incB Cp.cmp P.cs)))))))
/-- Sets of numbers from 0 to 511, by eight words. -/
abbrev Ws := List (BitVec 64)
abbrev Ws.cells (ws : Ws) : List Value := ws.map fun b => U b
def sNil : Ws := List.replicate 8 0#64
def sAdd (ws : Ws) (i : Nat) : Ws := ws.set (i / 64) (nth ws (i / 64) ||| 1#64 <<< (i % 64))
def sBit (ws : Ws) (i : Nat) : Bool := (nth ws (i / 64)).getLsbD (i % 64)
def sHas (ws : Ws) (i : Int) : Bool := inB i 0 511 && sBit ws i.toNat
def setOf (l : List Int) : Ws := l.foldl (fun s i => sAdd s i.toNat) sNil
theorem sAdd_len {ws : Ws} {i : Nat} : (sAdd ws i).length = ws.length := by simp [sAdd]
theorem setOf_len (l : List Int) : (setOf l).length = 8 := by
  have : ∀ (l : List Int) (s : Ws), (l.foldl (fun s i => sAdd s i.toNat) s).length = s.length := by
    intro l
    induction l with
    | nil => intro s; rfl
    | cons x r ih => intro s; simp only [List.foldl_cons, ih, sAdd_len]
  exact this l sNil
theorem setOf_take {l : List Int} {k : Nat} (h : k < l.length) : setOf (l.take (k + 1)) = sAdd (setOf (l.take k)) (nth l k).toNat := by
  unfold setOf
  rw [List.take_succ_eq_append_getElem h, nth_eq h, List.foldl_append]; rfl
theorem Ws.get {ws : Ws} {i p : Nat} (h : i < ws.length) (hp : p = i) : ws.cells[p]? = some (U (nth ws i)) := by
  subst hp
  simp [nth, h]
theorem Ws.put {ws : Ws} {i p : Nat} {b : BitVec 64} (hp : p = i) : ws.cells.set p (U b) = Ws.cells (ws.set i b) := by
  subst hp
  simp [List.map_set]
theorem bit_is (a : BitVec 64) (j : Nat) : decide (((((a >>> j) &&& 1#64).toNat : Nat) : Int) = 1) = a.getLsbD j := by
  rw [BitVec.toNat_and, BitVec.toNat_ushiftRight]
  show decide ((((a.toNat >>> j &&& 1) : Nat) : Int) = 1) = a.toNat.testBit j
  rw [Nat.and_one_is_mod, Nat.testBit, Nat.and_comm, Nat.and_one_is_mod]
  rcases Nat.mod_two_eq_zero_or_one (a.toNat >>> j) with h | h <;> rw [h] <;> rfl
theorem sBit_add {ws : Ws} {i j : Nat} (hl : ws.length = 8) (hi : i < 512) (hj : j < 512) : sBit (sAdd ws i) j = (sBit ws j || decide (i = j)) := by
  unfold sBit sAdd nth
  simp only [List.getD_eq_getElem?_getD]
  by_cases h : i / 64 = j / 64
  · rw [h, List.getElem?_set_self (by omega)]
    simp only [Option.getD_some, BitVec.getLsbD_or, BitVec.getLsbD_shiftLeft]
    by_cases h2 : i = j
    · subst h2
      have hm : i % 64 < 64 := Nat.mod_lt _ (by decide)
      simp [hm]
    · have hm : ¬ i % 64 = j % 64 := by omega
      rw [decide_eq_false h2, Bool.or_false]
      have : (decide (j % 64 < 64) && !decide (j % 64 < i % 64) && (1#64).getLsbD (j % 64 - i % 64)) = false := by
        by_cases h3 : j % 64 < i % 64
        · simp [h3]
        · rw [show (1#64).getLsbD (j % 64 - i % 64) = false from by rw [BitVec.getLsbD_one]; simp; omega]; simp
      rw [this, Bool.or_false]
  · rw [List.getElem?_set_ne h, decide_eq_false (by intro hh; subst hh; exact h rfl), Bool.or_false]
theorem sBit_nil (j : Nat) : sBit sNil j = false := by
  unfold sBit sNil nth
  rw [List.getD_eq_getElem?_getD, List.getElem?_replicate]
  split
  · simp
  · exact BitVec.getLsbD_zero
theorem setOf_has (l : List Int) (hl : ∀ x ∈ l, 0 ≤ x ∧ x ≤ 511) (j : Int) : sHas (setOf l) j = true ↔ j ∈ l := by
  have key : ∀ (l : List Int) (s : Ws), s.length = 8 → (∀ x ∈ l, 0 ≤ x ∧ x ≤ 511) → ∀ j : Nat, j < 512 → (sBit (l.foldl (fun s i => sAdd s i.toNat) s) j = true ↔ sBit s j = true ∨ (j : Int) ∈ l) := by
    intro l
    induction l with
    | nil => intro s _ _ j _; simp
    | cons x r ih =>
      intro s hs hx j hj
      have h1 := hx x (by simp)
      rw [List.foldl_cons, ih _ (by rw [sAdd_len, hs]) (fun y hy => hx y (by simp [hy])) j hj, sBit_add hs (by omega) hj]
      simp only [Bool.or_eq_true, decide_eq_true_eq, List.mem_cons]
      constructor
      · rintro ((h | h) | h)
        · exact .inl h
        · exact .inr (.inl (by omega))
        · exact .inr (.inr h)
      · rintro (h | h | h)
        · exact .inl (.inl h)
        · exact .inl (.inr (by omega))
        · exact .inr h
  unfold sHas inB
  by_cases h : 0 ≤ j ∧ j ≤ 511
  · rw [decide_eq_true h.1, decide_eq_true h.2, Bool.and_true, Bool.true_and, show sBit (setOf l) j.toNat = true ↔ _ from key l sNil (by rfl) hl j.toNat (by omega), sBit_nil, Int.toNat_of_nonneg h.1]
    simp
  · constructor
    · intro hh
      simp only [Bool.and_eq_true, decide_eq_true_eq] at hh
      exact absurd hh.1 h
    · intro hm; exact absurd (hl j hm) h
def Pb.has (P : Pb) (i : Int) : Bool := sHas (setOf (P.ds.map (·.st))) i
def Pb.ok (P : Pb) : Bool := allB Dx.ok P.ds && (P.rulesOk && (incB (fun a b => cmpI a.st b.st) P.ds && (allB (fun x : Pr => P.has x.a && P.has x.b) P.ps && (allB (fun x : Ld => P.has x.to && P.has x.fr) P.ls && allB (fun x : Cp => P.has x.st) P.cs))))
theorem allB_iff {α : Type} [Inhabited α] {q : α → Bool} {xs : List α} : allB q xs = true ↔ ∀ k, k < xs.length → q (nth xs k) = true := by
  unfold allB; rw [List.all_eq_true]; simp only [List.mem_range]
theorem allB_mem {α : Type} [Inhabited α] {q : α → Bool} {xs : List α} : allB q xs = true ↔ ∀ x ∈ xs, q x = true := by
  rw [allB_iff]
  constructor
  · intro h x hx
    obtain ⟨k, hk, rfl⟩ := List.mem_iff_getElem.1 hx
    rw [← nth_eq hk]; exact h k hk
  · intro h k hk; exact h _ (nth_mem hk)
theorem incB_iff {α : Type} [Inhabited α] {c : α → α → Int} {xs : List α} : incB c xs = true ↔ ∀ k, k + 1 < xs.length → c (nth xs k) (nth xs (k + 1)) < 0 := by
  unfold incB; rw [List.all_eq_true]; simp only [List.mem_range]
  constructor
  · intro h k hk
    have := h (k + 1) hk
    simp at this; omega
  · intro h k hk
    cases k with
    | zero => rfl
    | succ k => have := h k hk; simp; omega
theorem cmpI_neg {a b : Int} : cmpI a b < 0 ↔ a < b := by unfold cmpI; split <;> (try split) <;> omega
theorem inc_ge {α : Type} [Inhabited α] {f : α → Int} {xs : List α} (hi : incB (fun a b => cmpI (f a) (f b)) xs = true) (h0 : ∀ x ∈ xs, 0 ≤ f x) : ∀ k, k < xs.length → (k : Int) ≤ f (nth xs k)
  | 0, h => h0 _ (nth_mem h)
  | k + 1, h => by
    have h1 := inc_ge hi h0 k (by omega)
    have h2 := cmpI_neg.1 (incB_iff.1 hi k h)
    omega
theorem inc_len {xs : List Dx} (hi : incB (fun a b : Dx => cmpI a.st b.st) xs = true) (hr : allB Dx.ok xs = true) : xs.length ≤ 512 := by
  have hst : ∀ x ∈ xs, 0 ≤ x.st ∧ x.st ≤ 511 := fun x hx => by
    have := allB_mem.1 hr x hx
    simp only [Dx.ok, inB, Bool.and_eq_true, decide_eq_true_eq] at this
    exact this.1
  rcases Nat.lt_or_ge 512 xs.length with h | h
  · have h1 := inc_ge (f := Dx.st) hi (fun x hx => (hst x hx).1) 512 h
    have h2 := hst _ (nth_mem h)
    omega
  · exact h

theorem goodCh_ret (c : Int) (w : World) : Calls Tryd.prog 91 #[.int .i64 c] w fun e w' => e = .returned (.bool (inB c 2 51)) ∧ Below w.heap.size w w' := by
  refine calls_T (M := fun _ => False) (hs := []) Tryd.func91 rfl rfl rfl (Hp.refl _ _) ?_
  refine T.seq ?_
  refine T.region ?_
  refine TL.yv (Wt.none rfl) rfl rfl (Yv.pur rfl) ?_
  refine TL.nil ?_
  refine K.seq ?_
  refine T.seq ?_
  refine T.region ?_
  refine TL.yv (Wt.none rfl) rfl rfl (Yv.pur rfl) ?_
  (refine TL.ew (Wt.none rfl) rfl rfl (Ew.callD rfl rfl rfl (fun w hw => between_ret _ _ _ _)) ?_; rintro _ _ ⟨rfl, rfl⟩)
  refine TL.yv (Wt.none rfl) rfl rfl (Yv.pur rfl) ?_
  refine TL.nil ?_
  refine K.seq ?_
  refine T.ret ?_
  refine K.ret1 rfl rfl (fun w' hw => ⟨?_, hw.isBelow⟩)
  rfl
theorem goodDomain_ret (d : Dx) (w : World) (h : IntsAt w d.v d.chs) (hl : d.chs.length ≤ 9223372036854775807) : Calls Tryd.prog 66 #[.agg (Dx.cells d).toArray] w fun e w' => e = .returned (.bool d.ok) ∧ Below w.heap.size w w' := by
  haveI := h.one
  refine calls_T (M := fun _ => False) (hs := []) Tryd.func66 rfl rfl rfl (Hp.refl _ _) ?_
  simp only [Dx.cells]
  refine T.seq ?_
  refine T.region ?_
  (refine TL.ew (Wt.none rfl) rfl rfl (Ew.boxA rfl rfl) ?_; rintro _ _ ⟨g1, rfl, rfl⟩)
  refine TL.yv (Wt.none rfl) rfl rfl (Yv.pur rfl) ?_
  refine TL.nil ?_
  refine K.seq ?_
  refine T.seq ?_
  refine T.region ?_
  refine TL.yv (Wt.none rfl) rfl rfl (Yv.pur rfl) ?_
  refine TL.nil ?_
  refine K.seq ?_
  refine T.seq ?_
  refine T.region ?_
  refine TL.yv (Wt.none rfl) rfl rfl (Yv.fieldAddr rfl rfl) ?_
  refine TL.yv (Wt.none rfl) rfl rfl (Yv.loadO 0 rfl rfl rfl rfl) ?_
  (refine TL.ew (Wt.none rfl) rfl rfl (Ew.callD rfl rfl rfl (fun w hw => isStation_ret _ _)) ?_; rintro _ _ ⟨rfl, rfl⟩)
  refine TL.yv (Wt.none rfl) rfl rfl (Yv.pur rfl) ?_
  refine TL.gsplit rfl rfl rfl (fun h1 => ?_) (fun h1 => ?_)
  · have p1 := h1
    try simp only [decide_eq_true_eq, decide_eq_false_iff_not, Int.not_lt, Int.not_le, Bool.not_eq_true', Bool.not_eq_false', Decidable.not_not, Bool.and_eq_true, Bool.or_eq_true, Bool.and_eq_false_iff, Bool.or_eq_false_iff] at p1
    refine TL.yv (Wt.some rfl rfl rfl h1) rfl rfl (Yv.fieldAddr rfl rfl) ?_
    refine TL.yv (Wt.some rfl rfl rfl h1) rfl rfl (Yv.loadO 0 rfl rfl rfl rfl) ?_
    refine TL.yv (Wt.some rfl rfl rfl h1) rfl rfl (Yv.pur rfl) ?_
    (refine TL.ew (Wt.some rfl rfl rfl h1) rfl rfl (Ew.callD rfl rfl rfl (fun w hw => everyInt (q := fun c => inB c 2 51) d.chs _ _ #[] w (h.kept hw) (fun k hk w1 hb => goodCh_ret _ w1) hl)) ?_; rintro _ _ ⟨rfl, rfl⟩)
    refine TL.yv (Wt.none rfl) rfl rfl (Yv.pickT rfl rfl h1 rfl) ?_
    refine TL.yv (Wt.none rfl) rfl rfl (Yv.pur rfl) ?_
    refine TL.gsplit rfl rfl rfl (fun h2 => ?_) (fun h2 => ?_)
    · have p2 := h2
      try simp only [decide_eq_true_eq, decide_eq_false_iff_not, Int.not_lt, Int.not_le, Bool.not_eq_true', Bool.not_eq_false', Decidable.not_not, Bool.and_eq_true, Bool.or_eq_true, Bool.and_eq_false_iff, Bool.or_eq_false_iff] at p2
      refine TL.yv (Wt.some rfl rfl rfl h2) rfl rfl (Yv.fieldAddr rfl rfl) ?_
      refine TL.yv (Wt.some rfl rfl rfl h2) rfl rfl (Yv.loadO 0 rfl rfl rfl rfl) ?_
      (refine TL.ew (Wt.some rfl rfl rfl h2) rfl rfl (Ew.callD rfl rfl rfl (fun w hw => increasingInt (c := cmpI) d.chs _ _ w (h.kept hw) (fun x y w1 => compare_ret x y w1) hl)) ?_; rintro _ _ ⟨rfl, rfl⟩)
      refine TL.yv (Wt.none rfl) rfl rfl (Yv.pickT rfl rfl h2 rfl) ?_
      refine TL.yv (Wt.none rfl) rfl rfl (Yv.pur rfl) ?_
      refine TL.nil ?_
      refine K.seq ?_
      refine T.ret ?_
      refine K.ret1 rfl rfl (fun w' hw => ⟨?_, hw.isBelow⟩)
      exact ret_bool (by simp only [Dx.ok, *, Bool.not_true, Bool.not_false, Bool.or_false, Bool.false_or, Bool.or_true, Bool.true_or, Bool.and_false, Bool.false_and, Bool.true_and, Bool.and_true, Bool.or_self, Bool.and_self, Bool.not_not, decide_true, decide_false, not_true_eq_false, not_false_eq_true, cond_true, cond_false])
    · have p2 := h2
      try simp only [decide_eq_true_eq, decide_eq_false_iff_not, Int.not_lt, Int.not_le, Bool.not_eq_true', Bool.not_eq_false', Decidable.not_not, Bool.and_eq_true, Bool.or_eq_true, Bool.and_eq_false_iff, Bool.or_eq_false_iff] at p2
      refine TL.off (Wt.not rfl rfl rfl h2) rfl rfl ?_
      refine TL.off (Wt.not rfl rfl rfl h2) rfl rfl ?_
      refine TL.off (Wt.not rfl rfl rfl h2) rfl rfl ?_
      refine TL.yv (Wt.none rfl) rfl rfl (Yv.pickF rfl rfl h2 rfl) ?_
      refine TL.yv (Wt.none rfl) rfl rfl (Yv.pur rfl) ?_
      refine TL.nil ?_
      refine K.seq ?_
      refine T.ret ?_
      refine K.ret1 rfl rfl (fun w' hw => ⟨?_, hw.isBelow⟩)
      exact ret_bool (by simp only [Dx.ok, *, Bool.not_true, Bool.not_false, Bool.or_false, Bool.false_or, Bool.or_true, Bool.true_or, Bool.and_false, Bool.false_and, Bool.true_and, Bool.and_true, Bool.or_self, Bool.and_self, Bool.not_not, decide_true, decide_false, not_true_eq_false, not_false_eq_true, cond_true, cond_false])
  · have p1 := h1
    try simp only [decide_eq_true_eq, decide_eq_false_iff_not, Int.not_lt, Int.not_le, Bool.not_eq_true', Bool.not_eq_false', Decidable.not_not, Bool.and_eq_true, Bool.or_eq_true, Bool.and_eq_false_iff, Bool.or_eq_false_iff] at p1
    refine TL.off (Wt.not rfl rfl rfl h1) rfl rfl ?_
    refine TL.off (Wt.not rfl rfl rfl h1) rfl rfl ?_
    refine TL.off (Wt.not rfl rfl rfl h1) rfl rfl ?_
    refine TL.off (Wt.not rfl rfl rfl h1) rfl rfl ?_
    refine TL.yv (Wt.none rfl) rfl rfl (Yv.pickF rfl rfl h1 rfl) ?_
    refine TL.yv (Wt.none rfl) rfl rfl (Yv.pur rfl) ?_
    refine TL.off (Wt.not rfl rfl rfl rfl) rfl rfl ?_
    refine TL.off (Wt.not rfl rfl rfl rfl) rfl rfl ?_
    refine TL.off (Wt.not rfl rfl rfl rfl) rfl rfl ?_
    refine TL.yv (Wt.none rfl) rfl rfl (Yv.pickF rfl rfl rfl rfl) ?_
    refine TL.yv (Wt.none rfl) rfl rfl (Yv.pur rfl) ?_
    refine TL.nil ?_
    refine K.seq ?_
    refine T.ret ?_
    refine K.ret1 rfl rfl (fun w' hw => ⟨?_, hw.isBelow⟩)
    exact ret_bool (by simp only [Dx.ok, *, Bool.not_true, Bool.not_false, Bool.or_false, Bool.false_or, Bool.or_true, Bool.true_or, Bool.and_false, Bool.false_and, Bool.true_and, Bool.and_true, Bool.or_self, Bool.and_self, Bool.not_not, decide_true, decide_false, not_true_eq_false, not_false_eq_true, cond_true, cond_false])
theorem byStation_ret (x y : Dx) (hx : OneC x.v) (hy : OneC y.v) (w : World) : Calls Tryd.prog 68 #[.agg (Dx.cells x).toArray, .agg (Dx.cells y).toArray] w fun e w' => e = .returned (.int .i64 (cmpI x.st y.st)) ∧ Below w.heap.size w w' := by
  refine calls_T (M := fun _ => False) (hs := []) Tryd.func68 rfl rfl rfl (Hp.refl _ _) ?_
  simp only [Dx.cells]
  refine T.seq ?_
  refine T.region ?_
  (refine TL.ew (Wt.none rfl) rfl rfl (Ew.boxA rfl rfl) ?_; rintro _ _ ⟨g2, rfl, rfl⟩)
  (refine TL.ew (Wt.none rfl) rfl rfl (Ew.boxA rfl rfl) ?_; rintro _ _ ⟨g3, rfl, rfl⟩)
  refine TL.yv (Wt.none rfl) rfl rfl (Yv.pur rfl) ?_
  refine TL.nil ?_
  refine K.seq ?_
  refine T.seq ?_
  refine T.region ?_
  refine TL.yv (Wt.none rfl) rfl rfl (Yv.fieldAddr rfl rfl) ?_
  refine TL.yv (Wt.none rfl) rfl rfl (Yv.loadO 1 rfl rfl rfl rfl) ?_
  refine TL.yv (Wt.none rfl) rfl rfl (Yv.fieldAddr rfl rfl) ?_
  refine TL.yv (Wt.none rfl) rfl rfl (Yv.loadO 0 rfl rfl rfl rfl) ?_
  (refine TL.ew (Wt.none rfl) rfl rfl (Ew.callD rfl rfl rfl (fun w hw => compare_ret _ _ _)) ?_; rintro _ _ ⟨rfl, rfl⟩)
  refine TL.yv (Wt.none rfl) rfl rfl (Yv.pur rfl) ?_
  refine TL.nil ?_
  refine K.seq ?_
  refine T.ret ?_
  refine K.ret1 rfl rfl (fun w' hw => ⟨?_, hw.isBelow⟩)
  rfl
theorem validRules_ret (P : Pb) (vp vl vc : Value) (w : World) (h : RulesAt w vp vl vc P) : Calls Tryd.prog 67 #[.agg [vp, vl, vc].toArray] w fun e w' => e = .returned (.bool P.rulesOk) ∧ Below w.heap.size w w' := by
  obtain ⟨A1, cap1, rfl, -⟩ := h.ps.op
  obtain ⟨A2, cap2, rfl, -⟩ := h.ls.op
  obtain ⟨A3, cap3, rfl, -⟩ := h.cs.op
  refine calls_T (M := fun _ => False) (hs := []) Tryd.func67 rfl rfl rfl (Hp.refl _ _) ?_
  refine T.seq ?_
  refine T.region ?_
  (refine TL.ew (Wt.none rfl) rfl rfl (Ew.boxA rfl rfl) ?_; rintro _ _ ⟨g1, rfl, rfl⟩)
  refine TL.yv (Wt.none rfl) rfl rfl (Yv.pur rfl) ?_
  refine TL.nil ?_
  refine K.seq ?_
  refine T.seq ?_
  refine T.region ?_
  refine TL.yv (Wt.none rfl) rfl rfl (Yv.fieldAddr rfl rfl) ?_
  refine TL.yv (Wt.none rfl) rfl rfl (Yv.loadO 0 rfl rfl rfl rfl) ?_
  refine TL.yv (Wt.none rfl) rfl rfl (Yv.lenSl rfl rfl) ?_
  refine TL.yv (Wt.none rfl) rfl rfl (Yv.pur rfl) ?_
  refine TL.yv (Wt.none rfl) rfl rfl (Yv.pur rfl) ?_
  refine TL.gsplit rfl rfl rfl (fun h1 => ?_) (fun h1 => ?_)
  · have p1 := h1
    try simp only [decide_eq_true_eq, decide_eq_false_iff_not, Int.not_lt, Int.not_le, Bool.not_eq_true', Bool.not_eq_false', Decidable.not_not, Bool.and_eq_true, Bool.or_eq_true, Bool.and_eq_false_iff, Bool.or_eq_false_iff] at p1
    refine TL.yv (Wt.some rfl rfl rfl h1) rfl rfl (Yv.fieldAddr rfl rfl) ?_
    refine TL.yv (Wt.some rfl rfl rfl h1) rfl rfl (Yv.loadO 0 rfl rfl rfl rfl) ?_
    (refine TL.ew (Wt.some rfl rfl rfl h1) rfl rfl (Ew.callD rfl rfl rfl (fun w hw => everyPr (q := Pr.ok) P.ps _ 94 #[] w (h.ps.kept hw) (fun k hk w1 hb => goodPair_ret _ w1) h.hps)) ?_; rintro _ _ ⟨rfl, rfl⟩)
    refine TL.yv (Wt.none rfl) rfl rfl (Yv.pickT rfl rfl h1 rfl) ?_
    refine TL.yv (Wt.none rfl) rfl rfl (Yv.pur rfl) ?_
    refine TL.gsplit rfl rfl rfl (fun h2 => ?_) (fun h2 => ?_)
    · have p2 := h2
      try simp only [decide_eq_true_eq, decide_eq_false_iff_not, Int.not_lt, Int.not_le, Bool.not_eq_true', Bool.not_eq_false', Decidable.not_not, Bool.and_eq_true, Bool.or_eq_true, Bool.and_eq_false_iff, Bool.or_eq_false_iff] at p2
      refine TL.yv (Wt.some rfl rfl rfl h2) rfl rfl (Yv.fieldAddr rfl rfl) ?_
      refine TL.yv (Wt.some rfl rfl rfl h2) rfl rfl (Yv.loadO 0 rfl rfl rfl rfl) ?_
      (refine TL.ew (Wt.some rfl rfl rfl h2) rfl rfl (Ew.callD rfl rfl rfl (fun w hw => increasingPr (c := Pr.cmp) P.ps _ 96 w (h.ps.kept hw) (fun x y w1 => comparePairs_ret x y w1) h.hps)) ?_; rintro _ _ ⟨rfl, rfl⟩)
      refine TL.yv (Wt.none rfl) rfl rfl (Yv.pickT rfl rfl h2 rfl) ?_
      refine TL.yv (Wt.none rfl) rfl rfl (Yv.pur rfl) ?_
      refine TL.gsplit rfl rfl rfl (fun h3 => ?_) (fun h3 => ?_)
      · have p3 := h3
        try simp only [decide_eq_true_eq, decide_eq_false_iff_not, Int.not_lt, Int.not_le, Bool.not_eq_true', Bool.not_eq_false', Decidable.not_not, Bool.and_eq_true, Bool.or_eq_true, Bool.and_eq_false_iff, Bool.or_eq_false_iff] at p3
        refine TL.yv (Wt.some rfl rfl rfl h3) rfl rfl (Yv.fieldAddr rfl rfl) ?_
        refine TL.yv (Wt.some rfl rfl rfl h3) rfl rfl (Yv.loadO 0 rfl rfl rfl rfl) ?_
        refine TL.yv (Wt.some rfl rfl rfl h3) rfl rfl (Yv.lenSl rfl rfl) ?_
        refine TL.yv (Wt.some rfl rfl rfl h3) rfl rfl (Yv.pur rfl) ?_
        refine TL.yv (Wt.none rfl) rfl rfl (Yv.pickT rfl rfl h3 rfl) ?_
        refine TL.yv (Wt.none rfl) rfl rfl (Yv.pur rfl) ?_
        refine TL.gsplit rfl rfl rfl (fun h4 => ?_) (fun h4 => ?_)
        · have p4 := h4
          try simp only [decide_eq_true_eq, decide_eq_false_iff_not, Int.not_lt, Int.not_le, Bool.not_eq_true', Bool.not_eq_false', Decidable.not_not, Bool.and_eq_true, Bool.or_eq_true, Bool.and_eq_false_iff, Bool.or_eq_false_iff] at p4
          refine TL.yv (Wt.some rfl rfl rfl h4) rfl rfl (Yv.fieldAddr rfl rfl) ?_
          refine TL.yv (Wt.some rfl rfl rfl h4) rfl rfl (Yv.loadO 0 rfl rfl rfl rfl) ?_
          (refine TL.ew (Wt.some rfl rfl rfl h4) rfl rfl (Ew.callD rfl rfl rfl (fun w hw => everyLd (q := Ld.ok) P.ls _ 97 #[] w (h.ls.kept hw) (fun k hk w1 hb => goodLoad_ret _ w1) h.hls)) ?_; rintro _ _ ⟨rfl, rfl⟩)
          refine TL.yv (Wt.none rfl) rfl rfl (Yv.pickT rfl rfl h4 rfl) ?_
          refine TL.yv (Wt.none rfl) rfl rfl (Yv.pur rfl) ?_
          refine TL.gsplit rfl rfl rfl (fun h5 => ?_) (fun h5 => ?_)
          · have p5 := h5
            try simp only [decide_eq_true_eq, decide_eq_false_iff_not, Int.not_lt, Int.not_le, Bool.not_eq_true', Bool.not_eq_false', Decidable.not_not, Bool.and_eq_true, Bool.or_eq_true, Bool.and_eq_false_iff, Bool.or_eq_false_iff] at p5
            refine TL.yv (Wt.some rfl rfl rfl h5) rfl rfl (Yv.fieldAddr rfl rfl) ?_
            refine TL.yv (Wt.some rfl rfl rfl h5) rfl rfl (Yv.loadO 0 rfl rfl rfl rfl) ?_
            (refine TL.ew (Wt.some rfl rfl rfl h5) rfl rfl (Ew.callD rfl rfl rfl (fun w hw => increasingLd (c := Ld.cmp) P.ls _ 99 w (h.ls.kept hw) (fun x y w1 => compareLoads_ret x y w1) h.hls)) ?_; rintro _ _ ⟨rfl, rfl⟩)
            refine TL.yv (Wt.none rfl) rfl rfl (Yv.pickT rfl rfl h5 rfl) ?_
            refine TL.yv (Wt.none rfl) rfl rfl (Yv.pur rfl) ?_
            refine TL.gsplit rfl rfl rfl (fun h6 => ?_) (fun h6 => ?_)
            · have p6 := h6
              try simp only [decide_eq_true_eq, decide_eq_false_iff_not, Int.not_lt, Int.not_le, Bool.not_eq_true', Bool.not_eq_false', Decidable.not_not, Bool.and_eq_true, Bool.or_eq_true, Bool.and_eq_false_iff, Bool.or_eq_false_iff] at p6
              refine TL.yv (Wt.some rfl rfl rfl h6) rfl rfl (Yv.fieldAddr rfl rfl) ?_
              refine TL.yv (Wt.some rfl rfl rfl h6) rfl rfl (Yv.loadO 0 rfl rfl rfl rfl) ?_
              refine TL.yv (Wt.some rfl rfl rfl h6) rfl rfl (Yv.lenSl rfl rfl) ?_
              refine TL.yv (Wt.some rfl rfl rfl h6) rfl rfl (Yv.pur rfl) ?_
              refine TL.yv (Wt.none rfl) rfl rfl (Yv.pickT rfl rfl h6 rfl) ?_
              refine TL.yv (Wt.none rfl) rfl rfl (Yv.pur rfl) ?_
              refine TL.gsplit rfl rfl rfl (fun h7 => ?_) (fun h7 => ?_)
              · have p7 := h7
                try simp only [decide_eq_true_eq, decide_eq_false_iff_not, Int.not_lt, Int.not_le, Bool.not_eq_true', Bool.not_eq_false', Decidable.not_not, Bool.and_eq_true, Bool.or_eq_true, Bool.and_eq_false_iff, Bool.or_eq_false_iff] at p7
                refine TL.yv (Wt.some rfl rfl rfl h7) rfl rfl (Yv.fieldAddr rfl rfl) ?_
                refine TL.yv (Wt.some rfl rfl rfl h7) rfl rfl (Yv.loadO 0 rfl rfl rfl rfl) ?_
                (refine TL.ew (Wt.some rfl rfl rfl h7) rfl rfl (Ew.callD rfl rfl rfl (fun w hw => everyCp (q := Cp.ok) P.cs _ 100 #[] w (h.cs.kept hw) (fun k hk w1 hb => goodCap_ret _ w1) h.hcs)) ?_; rintro _ _ ⟨rfl, rfl⟩)
                refine TL.yv (Wt.none rfl) rfl rfl (Yv.pickT rfl rfl h7 rfl) ?_
                refine TL.yv (Wt.none rfl) rfl rfl (Yv.pur rfl) ?_
                refine TL.gsplit rfl rfl rfl (fun h8 => ?_) (fun h8 => ?_)
                · have p8 := h8
                  try simp only [decide_eq_true_eq, decide_eq_false_iff_not, Int.not_lt, Int.not_le, Bool.not_eq_true', Bool.not_eq_false', Decidable.not_not, Bool.and_eq_true, Bool.or_eq_true, Bool.and_eq_false_iff, Bool.or_eq_false_iff] at p8
                  refine TL.yv (Wt.some rfl rfl rfl h8) rfl rfl (Yv.fieldAddr rfl rfl) ?_
                  refine TL.yv (Wt.some rfl rfl rfl h8) rfl rfl (Yv.loadO 0 rfl rfl rfl rfl) ?_
                  (refine TL.ew (Wt.some rfl rfl rfl h8) rfl rfl (Ew.callD rfl rfl rfl (fun w hw => increasingCp (c := Cp.cmp) P.cs _ 102 w (h.cs.kept hw) (fun x y w1 => compareCaps_ret x y w1) h.hcs)) ?_; rintro _ _ ⟨rfl, rfl⟩)
                  refine TL.yv (Wt.none rfl) rfl rfl (Yv.pickT rfl rfl h8 rfl) ?_
                  refine TL.yv (Wt.none rfl) rfl rfl (Yv.pur rfl) ?_
                  refine TL.nil ?_
                  refine K.seq ?_
                  refine T.ret ?_
                  refine K.ret1 rfl rfl (fun w' hw => ⟨?_, hw.isBelow⟩)
                  exact ret_bool (by simp only [Pb.rulesOk, *, Bool.not_true, Bool.not_false, Bool.or_false, Bool.false_or, Bool.or_true, Bool.true_or, Bool.and_false, Bool.false_and, Bool.true_and, Bool.and_true, Bool.or_self, Bool.and_self, Bool.not_not, decide_true, decide_false, not_true_eq_false, not_false_eq_true, cond_true, cond_false])
                · have p8 := h8
                  try simp only [decide_eq_true_eq, decide_eq_false_iff_not, Int.not_lt, Int.not_le, Bool.not_eq_true', Bool.not_eq_false', Decidable.not_not, Bool.and_eq_true, Bool.or_eq_true, Bool.and_eq_false_iff, Bool.or_eq_false_iff] at p8
                  refine TL.off (Wt.not rfl rfl rfl h8) rfl rfl ?_
                  refine TL.off (Wt.not rfl rfl rfl h8) rfl rfl ?_
                  refine TL.off (Wt.not rfl rfl rfl h8) rfl rfl ?_
                  refine TL.yv (Wt.none rfl) rfl rfl (Yv.pickF rfl rfl h8 rfl) ?_
                  refine TL.yv (Wt.none rfl) rfl rfl (Yv.pur rfl) ?_
                  refine TL.nil ?_
                  refine K.seq ?_
                  refine T.ret ?_
                  refine K.ret1 rfl rfl (fun w' hw => ⟨?_, hw.isBelow⟩)
                  exact ret_bool (by simp only [Pb.rulesOk, *, Bool.not_true, Bool.not_false, Bool.or_false, Bool.false_or, Bool.or_true, Bool.true_or, Bool.and_false, Bool.false_and, Bool.true_and, Bool.and_true, Bool.or_self, Bool.and_self, Bool.not_not, decide_true, decide_false, not_true_eq_false, not_false_eq_true, cond_true, cond_false])
              · have p7 := h7
                try simp only [decide_eq_true_eq, decide_eq_false_iff_not, Int.not_lt, Int.not_le, Bool.not_eq_true', Bool.not_eq_false', Decidable.not_not, Bool.and_eq_true, Bool.or_eq_true, Bool.and_eq_false_iff, Bool.or_eq_false_iff] at p7
                refine TL.off (Wt.not rfl rfl rfl h7) rfl rfl ?_
                refine TL.off (Wt.not rfl rfl rfl h7) rfl rfl ?_
                refine TL.off (Wt.not rfl rfl rfl h7) rfl rfl ?_
                refine TL.yv (Wt.none rfl) rfl rfl (Yv.pickF rfl rfl h7 rfl) ?_
                refine TL.yv (Wt.none rfl) rfl rfl (Yv.pur rfl) ?_
                refine TL.off (Wt.not rfl rfl rfl rfl) rfl rfl ?_
                refine TL.off (Wt.not rfl rfl rfl rfl) rfl rfl ?_
                refine TL.off (Wt.not rfl rfl rfl rfl) rfl rfl ?_
                refine TL.yv (Wt.none rfl) rfl rfl (Yv.pickF rfl rfl rfl rfl) ?_
                refine TL.yv (Wt.none rfl) rfl rfl (Yv.pur rfl) ?_
                refine TL.nil ?_
                refine K.seq ?_
                refine T.ret ?_
                refine K.ret1 rfl rfl (fun w' hw => ⟨?_, hw.isBelow⟩)
                exact ret_bool (by simp only [Pb.rulesOk, *, Bool.not_true, Bool.not_false, Bool.or_false, Bool.false_or, Bool.or_true, Bool.true_or, Bool.and_false, Bool.false_and, Bool.true_and, Bool.and_true, Bool.or_self, Bool.and_self, Bool.not_not, decide_true, decide_false, not_true_eq_false, not_false_eq_true, cond_true, cond_false])
            · have p6 := h6
              try simp only [decide_eq_true_eq, decide_eq_false_iff_not, Int.not_lt, Int.not_le, Bool.not_eq_true', Bool.not_eq_false', Decidable.not_not, Bool.and_eq_true, Bool.or_eq_true, Bool.and_eq_false_iff, Bool.or_eq_false_iff] at p6
              refine TL.off (Wt.not rfl rfl rfl h6) rfl rfl ?_
              refine TL.off (Wt.not rfl rfl rfl h6) rfl rfl ?_
              refine TL.off (Wt.not rfl rfl rfl h6) rfl rfl ?_
              refine TL.off (Wt.not rfl rfl rfl h6) rfl rfl ?_
              refine TL.yv (Wt.none rfl) rfl rfl (Yv.pickF rfl rfl h6 rfl) ?_
              refine TL.yv (Wt.none rfl) rfl rfl (Yv.pur rfl) ?_
              refine TL.off (Wt.not rfl rfl rfl rfl) rfl rfl ?_
              refine TL.off (Wt.not rfl rfl rfl rfl) rfl rfl ?_
              refine TL.off (Wt.not rfl rfl rfl rfl) rfl rfl ?_
              refine TL.yv (Wt.none rfl) rfl rfl (Yv.pickF rfl rfl rfl rfl) ?_
              refine TL.yv (Wt.none rfl) rfl rfl (Yv.pur rfl) ?_
              refine TL.off (Wt.not rfl rfl rfl rfl) rfl rfl ?_
              refine TL.off (Wt.not rfl rfl rfl rfl) rfl rfl ?_
              refine TL.off (Wt.not rfl rfl rfl rfl) rfl rfl ?_
              refine TL.yv (Wt.none rfl) rfl rfl (Yv.pickF rfl rfl rfl rfl) ?_
              refine TL.yv (Wt.none rfl) rfl rfl (Yv.pur rfl) ?_
              refine TL.nil ?_
              refine K.seq ?_
              refine T.ret ?_
              refine K.ret1 rfl rfl (fun w' hw => ⟨?_, hw.isBelow⟩)
              exact ret_bool (by simp only [Pb.rulesOk, *, Bool.not_true, Bool.not_false, Bool.or_false, Bool.false_or, Bool.or_true, Bool.true_or, Bool.and_false, Bool.false_and, Bool.true_and, Bool.and_true, Bool.or_self, Bool.and_self, Bool.not_not, decide_true, decide_false, not_true_eq_false, not_false_eq_true, cond_true, cond_false])
          · have p5 := h5
            try simp only [decide_eq_true_eq, decide_eq_false_iff_not, Int.not_lt, Int.not_le, Bool.not_eq_true', Bool.not_eq_false', Decidable.not_not, Bool.and_eq_true, Bool.or_eq_true, Bool.and_eq_false_iff, Bool.or_eq_false_iff] at p5
            refine TL.off (Wt.not rfl rfl rfl h5) rfl rfl ?_
            refine TL.off (Wt.not rfl rfl rfl h5) rfl rfl ?_
            refine TL.off (Wt.not rfl rfl rfl h5) rfl rfl ?_
            refine TL.yv (Wt.none rfl) rfl rfl (Yv.pickF rfl rfl h5 rfl) ?_
            refine TL.yv (Wt.none rfl) rfl rfl (Yv.pur rfl) ?_
            refine TL.off (Wt.not rfl rfl rfl rfl) rfl rfl ?_
            refine TL.off (Wt.not rfl rfl rfl rfl) rfl rfl ?_
            refine TL.off (Wt.not rfl rfl rfl rfl) rfl rfl ?_
            refine TL.off (Wt.not rfl rfl rfl rfl) rfl rfl ?_
            refine TL.yv (Wt.none rfl) rfl rfl (Yv.pickF rfl rfl rfl rfl) ?_
            refine TL.yv (Wt.none rfl) rfl rfl (Yv.pur rfl) ?_
            refine TL.off (Wt.not rfl rfl rfl rfl) rfl rfl ?_
            refine TL.off (Wt.not rfl rfl rfl rfl) rfl rfl ?_
            refine TL.off (Wt.not rfl rfl rfl rfl) rfl rfl ?_
            refine TL.yv (Wt.none rfl) rfl rfl (Yv.pickF rfl rfl rfl rfl) ?_
            refine TL.yv (Wt.none rfl) rfl rfl (Yv.pur rfl) ?_
            refine TL.off (Wt.not rfl rfl rfl rfl) rfl rfl ?_
            refine TL.off (Wt.not rfl rfl rfl rfl) rfl rfl ?_
            refine TL.off (Wt.not rfl rfl rfl rfl) rfl rfl ?_
            refine TL.yv (Wt.none rfl) rfl rfl (Yv.pickF rfl rfl rfl rfl) ?_
            refine TL.yv (Wt.none rfl) rfl rfl (Yv.pur rfl) ?_
            refine TL.nil ?_
            refine K.seq ?_
            refine T.ret ?_
            refine K.ret1 rfl rfl (fun w' hw => ⟨?_, hw.isBelow⟩)
            exact ret_bool (by simp only [Pb.rulesOk, *, Bool.not_true, Bool.not_false, Bool.or_false, Bool.false_or, Bool.or_true, Bool.true_or, Bool.and_false, Bool.false_and, Bool.true_and, Bool.and_true, Bool.or_self, Bool.and_self, Bool.not_not, decide_true, decide_false, not_true_eq_false, not_false_eq_true, cond_true, cond_false])
        · have p4 := h4
          try simp only [decide_eq_true_eq, decide_eq_false_iff_not, Int.not_lt, Int.not_le, Bool.not_eq_true', Bool.not_eq_false', Decidable.not_not, Bool.and_eq_true, Bool.or_eq_true, Bool.and_eq_false_iff, Bool.or_eq_false_iff] at p4
          refine TL.off (Wt.not rfl rfl rfl h4) rfl rfl ?_
          refine TL.off (Wt.not rfl rfl rfl h4) rfl rfl ?_
          refine TL.off (Wt.not rfl rfl rfl h4) rfl rfl ?_
          refine TL.yv (Wt.none rfl) rfl rfl (Yv.pickF rfl rfl h4 rfl) ?_
          refine TL.yv (Wt.none rfl) rfl rfl (Yv.pur rfl) ?_
          refine TL.off (Wt.not rfl rfl rfl rfl) rfl rfl ?_
          refine TL.off (Wt.not rfl rfl rfl rfl) rfl rfl ?_
          refine TL.off (Wt.not rfl rfl rfl rfl) rfl rfl ?_
          refine TL.yv (Wt.none rfl) rfl rfl (Yv.pickF rfl rfl rfl rfl) ?_
          refine TL.yv (Wt.none rfl) rfl rfl (Yv.pur rfl) ?_
          refine TL.off (Wt.not rfl rfl rfl rfl) rfl rfl ?_
          refine TL.off (Wt.not rfl rfl rfl rfl) rfl rfl ?_
          refine TL.off (Wt.not rfl rfl rfl rfl) rfl rfl ?_
          refine TL.off (Wt.not rfl rfl rfl rfl) rfl rfl ?_
          refine TL.yv (Wt.none rfl) rfl rfl (Yv.pickF rfl rfl rfl rfl) ?_
          refine TL.yv (Wt.none rfl) rfl rfl (Yv.pur rfl) ?_
          refine TL.off (Wt.not rfl rfl rfl rfl) rfl rfl ?_
          refine TL.off (Wt.not rfl rfl rfl rfl) rfl rfl ?_
          refine TL.off (Wt.not rfl rfl rfl rfl) rfl rfl ?_
          refine TL.yv (Wt.none rfl) rfl rfl (Yv.pickF rfl rfl rfl rfl) ?_
          refine TL.yv (Wt.none rfl) rfl rfl (Yv.pur rfl) ?_
          refine TL.off (Wt.not rfl rfl rfl rfl) rfl rfl ?_
          refine TL.off (Wt.not rfl rfl rfl rfl) rfl rfl ?_
          refine TL.off (Wt.not rfl rfl rfl rfl) rfl rfl ?_
          refine TL.yv (Wt.none rfl) rfl rfl (Yv.pickF rfl rfl rfl rfl) ?_
          refine TL.yv (Wt.none rfl) rfl rfl (Yv.pur rfl) ?_
          refine TL.nil ?_
          refine K.seq ?_
          refine T.ret ?_
          refine K.ret1 rfl rfl (fun w' hw => ⟨?_, hw.isBelow⟩)
          exact ret_bool (by simp only [Pb.rulesOk, *, Bool.not_true, Bool.not_false, Bool.or_false, Bool.false_or, Bool.or_true, Bool.true_or, Bool.and_false, Bool.false_and, Bool.true_and, Bool.and_true, Bool.or_self, Bool.and_self, Bool.not_not, decide_true, decide_false, not_true_eq_false, not_false_eq_true, cond_true, cond_false])
      · have p3 := h3
        try simp only [decide_eq_true_eq, decide_eq_false_iff_not, Int.not_lt, Int.not_le, Bool.not_eq_true', Bool.not_eq_false', Decidable.not_not, Bool.and_eq_true, Bool.or_eq_true, Bool.and_eq_false_iff, Bool.or_eq_false_iff] at p3
        refine TL.off (Wt.not rfl rfl rfl h3) rfl rfl ?_
        refine TL.off (Wt.not rfl rfl rfl h3) rfl rfl ?_
        refine TL.off (Wt.not rfl rfl rfl h3) rfl rfl ?_
        refine TL.off (Wt.not rfl rfl rfl h3) rfl rfl ?_
        refine TL.yv (Wt.none rfl) rfl rfl (Yv.pickF rfl rfl h3 rfl) ?_
        refine TL.yv (Wt.none rfl) rfl rfl (Yv.pur rfl) ?_
        refine TL.off (Wt.not rfl rfl rfl rfl) rfl rfl ?_
        refine TL.off (Wt.not rfl rfl rfl rfl) rfl rfl ?_
        refine TL.off (Wt.not rfl rfl rfl rfl) rfl rfl ?_
        refine TL.yv (Wt.none rfl) rfl rfl (Yv.pickF rfl rfl rfl rfl) ?_
        refine TL.yv (Wt.none rfl) rfl rfl (Yv.pur rfl) ?_
        refine TL.off (Wt.not rfl rfl rfl rfl) rfl rfl ?_
        refine TL.off (Wt.not rfl rfl rfl rfl) rfl rfl ?_
        refine TL.off (Wt.not rfl rfl rfl rfl) rfl rfl ?_
        refine TL.yv (Wt.none rfl) rfl rfl (Yv.pickF rfl rfl rfl rfl) ?_
        refine TL.yv (Wt.none rfl) rfl rfl (Yv.pur rfl) ?_
        refine TL.off (Wt.not rfl rfl rfl rfl) rfl rfl ?_
        refine TL.off (Wt.not rfl rfl rfl rfl) rfl rfl ?_
        refine TL.off (Wt.not rfl rfl rfl rfl) rfl rfl ?_
        refine TL.off (Wt.not rfl rfl rfl rfl) rfl rfl ?_
        refine TL.yv (Wt.none rfl) rfl rfl (Yv.pickF rfl rfl rfl rfl) ?_
        refine TL.yv (Wt.none rfl) rfl rfl (Yv.pur rfl) ?_
        refine TL.off (Wt.not rfl rfl rfl rfl) rfl rfl ?_
        refine TL.off (Wt.not rfl rfl rfl rfl) rfl rfl ?_
        refine TL.off (Wt.not rfl rfl rfl rfl) rfl rfl ?_
        refine TL.yv (Wt.none rfl) rfl rfl (Yv.pickF rfl rfl rfl rfl) ?_
        refine TL.yv (Wt.none rfl) rfl rfl (Yv.pur rfl) ?_
        refine TL.off (Wt.not rfl rfl rfl rfl) rfl rfl ?_
        refine TL.off (Wt.not rfl rfl rfl rfl) rfl rfl ?_
        refine TL.off (Wt.not rfl rfl rfl rfl) rfl rfl ?_
        refine TL.yv (Wt.none rfl) rfl rfl (Yv.pickF rfl rfl rfl rfl) ?_
        refine TL.yv (Wt.none rfl) rfl rfl (Yv.pur rfl) ?_
        refine TL.nil ?_
        refine K.seq ?_
        refine T.ret ?_
        refine K.ret1 rfl rfl (fun w' hw => ⟨?_, hw.isBelow⟩)
        exact ret_bool (by simp only [Pb.rulesOk, *, Bool.not_true, Bool.not_false, Bool.or_false, Bool.false_or, Bool.or_true, Bool.true_or, Bool.and_false, Bool.false_and, Bool.true_and, Bool.and_true, Bool.or_self, Bool.and_self, Bool.not_not, decide_true, decide_false, not_true_eq_false, not_false_eq_true, cond_true, cond_false])
    · have p2 := h2
      try simp only [decide_eq_true_eq, decide_eq_false_iff_not, Int.not_lt, Int.not_le, Bool.not_eq_true', Bool.not_eq_false', Decidable.not_not, Bool.and_eq_true, Bool.or_eq_true, Bool.and_eq_false_iff, Bool.or_eq_false_iff] at p2
      refine TL.off (Wt.not rfl rfl rfl h2) rfl rfl ?_
      refine TL.off (Wt.not rfl rfl rfl h2) rfl rfl ?_
      refine TL.off (Wt.not rfl rfl rfl h2) rfl rfl ?_
      refine TL.yv (Wt.none rfl) rfl rfl (Yv.pickF rfl rfl h2 rfl) ?_
      refine TL.yv (Wt.none rfl) rfl rfl (Yv.pur rfl) ?_
      refine TL.off (Wt.not rfl rfl rfl rfl) rfl rfl ?_
      refine TL.off (Wt.not rfl rfl rfl rfl) rfl rfl ?_
      refine TL.off (Wt.not rfl rfl rfl rfl) rfl rfl ?_
      refine TL.off (Wt.not rfl rfl rfl rfl) rfl rfl ?_
      refine TL.yv (Wt.none rfl) rfl rfl (Yv.pickF rfl rfl rfl rfl) ?_
      refine TL.yv (Wt.none rfl) rfl rfl (Yv.pur rfl) ?_
      refine TL.off (Wt.not rfl rfl rfl rfl) rfl rfl ?_
      refine TL.off (Wt.not rfl rfl rfl rfl) rfl rfl ?_
      refine TL.off (Wt.not rfl rfl rfl rfl) rfl rfl ?_
      refine TL.yv (Wt.none rfl) rfl rfl (Yv.pickF rfl rfl rfl rfl) ?_
      refine TL.yv (Wt.none rfl) rfl rfl (Yv.pur rfl) ?_
      refine TL.off (Wt.not rfl rfl rfl rfl) rfl rfl ?_
      refine TL.off (Wt.not rfl rfl rfl rfl) rfl rfl ?_
      refine TL.off (Wt.not rfl rfl rfl rfl) rfl rfl ?_
      refine TL.yv (Wt.none rfl) rfl rfl (Yv.pickF rfl rfl rfl rfl) ?_
      refine TL.yv (Wt.none rfl) rfl rfl (Yv.pur rfl) ?_
      refine TL.off (Wt.not rfl rfl rfl rfl) rfl rfl ?_
      refine TL.off (Wt.not rfl rfl rfl rfl) rfl rfl ?_
      refine TL.off (Wt.not rfl rfl rfl rfl) rfl rfl ?_
      refine TL.off (Wt.not rfl rfl rfl rfl) rfl rfl ?_
      refine TL.yv (Wt.none rfl) rfl rfl (Yv.pickF rfl rfl rfl rfl) ?_
      refine TL.yv (Wt.none rfl) rfl rfl (Yv.pur rfl) ?_
      refine TL.off (Wt.not rfl rfl rfl rfl) rfl rfl ?_
      refine TL.off (Wt.not rfl rfl rfl rfl) rfl rfl ?_
      refine TL.off (Wt.not rfl rfl rfl rfl) rfl rfl ?_
      refine TL.yv (Wt.none rfl) rfl rfl (Yv.pickF rfl rfl rfl rfl) ?_
      refine TL.yv (Wt.none rfl) rfl rfl (Yv.pur rfl) ?_
      refine TL.off (Wt.not rfl rfl rfl rfl) rfl rfl ?_
      refine TL.off (Wt.not rfl rfl rfl rfl) rfl rfl ?_
      refine TL.off (Wt.not rfl rfl rfl rfl) rfl rfl ?_
      refine TL.yv (Wt.none rfl) rfl rfl (Yv.pickF rfl rfl rfl rfl) ?_
      refine TL.yv (Wt.none rfl) rfl rfl (Yv.pur rfl) ?_
      refine TL.nil ?_
      refine K.seq ?_
      refine T.ret ?_
      refine K.ret1 rfl rfl (fun w' hw => ⟨?_, hw.isBelow⟩)
      exact ret_bool (by simp only [Pb.rulesOk, *, Bool.not_true, Bool.not_false, Bool.or_false, Bool.false_or, Bool.or_true, Bool.true_or, Bool.and_false, Bool.false_and, Bool.true_and, Bool.and_true, Bool.or_self, Bool.and_self, Bool.not_not, decide_true, decide_false, not_true_eq_false, not_false_eq_true, cond_true, cond_false])
  · have p1 := h1
    try simp only [decide_eq_true_eq, decide_eq_false_iff_not, Int.not_lt, Int.not_le, Bool.not_eq_true', Bool.not_eq_false', Decidable.not_not, Bool.and_eq_true, Bool.or_eq_true, Bool.and_eq_false_iff, Bool.or_eq_false_iff] at p1
    refine TL.off (Wt.not rfl rfl rfl h1) rfl rfl ?_
    refine TL.off (Wt.not rfl rfl rfl h1) rfl rfl ?_
    refine TL.off (Wt.not rfl rfl rfl h1) rfl rfl ?_
    refine TL.yv (Wt.none rfl) rfl rfl (Yv.pickF rfl rfl h1 rfl) ?_
    refine TL.yv (Wt.none rfl) rfl rfl (Yv.pur rfl) ?_
    refine TL.off (Wt.not rfl rfl rfl rfl) rfl rfl ?_
    refine TL.off (Wt.not rfl rfl rfl rfl) rfl rfl ?_
    refine TL.off (Wt.not rfl rfl rfl rfl) rfl rfl ?_
    refine TL.yv (Wt.none rfl) rfl rfl (Yv.pickF rfl rfl rfl rfl) ?_
    refine TL.yv (Wt.none rfl) rfl rfl (Yv.pur rfl) ?_
    refine TL.off (Wt.not rfl rfl rfl rfl) rfl rfl ?_
    refine TL.off (Wt.not rfl rfl rfl rfl) rfl rfl ?_
    refine TL.off (Wt.not rfl rfl rfl rfl) rfl rfl ?_
    refine TL.off (Wt.not rfl rfl rfl rfl) rfl rfl ?_
    refine TL.yv (Wt.none rfl) rfl rfl (Yv.pickF rfl rfl rfl rfl) ?_
    refine TL.yv (Wt.none rfl) rfl rfl (Yv.pur rfl) ?_
    refine TL.off (Wt.not rfl rfl rfl rfl) rfl rfl ?_
    refine TL.off (Wt.not rfl rfl rfl rfl) rfl rfl ?_
    refine TL.off (Wt.not rfl rfl rfl rfl) rfl rfl ?_
    refine TL.yv (Wt.none rfl) rfl rfl (Yv.pickF rfl rfl rfl rfl) ?_
    refine TL.yv (Wt.none rfl) rfl rfl (Yv.pur rfl) ?_
    refine TL.off (Wt.not rfl rfl rfl rfl) rfl rfl ?_
    refine TL.off (Wt.not rfl rfl rfl rfl) rfl rfl ?_
    refine TL.off (Wt.not rfl rfl rfl rfl) rfl rfl ?_
    refine TL.yv (Wt.none rfl) rfl rfl (Yv.pickF rfl rfl rfl rfl) ?_
    refine TL.yv (Wt.none rfl) rfl rfl (Yv.pur rfl) ?_
    refine TL.off (Wt.not rfl rfl rfl rfl) rfl rfl ?_
    refine TL.off (Wt.not rfl rfl rfl rfl) rfl rfl ?_
    refine TL.off (Wt.not rfl rfl rfl rfl) rfl rfl ?_
    refine TL.off (Wt.not rfl rfl rfl rfl) rfl rfl ?_
    refine TL.yv (Wt.none rfl) rfl rfl (Yv.pickF rfl rfl rfl rfl) ?_
    refine TL.yv (Wt.none rfl) rfl rfl (Yv.pur rfl) ?_
    refine TL.off (Wt.not rfl rfl rfl rfl) rfl rfl ?_
    refine TL.off (Wt.not rfl rfl rfl rfl) rfl rfl ?_
    refine TL.off (Wt.not rfl rfl rfl rfl) rfl rfl ?_
    refine TL.yv (Wt.none rfl) rfl rfl (Yv.pickF rfl rfl rfl rfl) ?_
    refine TL.yv (Wt.none rfl) rfl rfl (Yv.pur rfl) ?_
    refine TL.off (Wt.not rfl rfl rfl rfl) rfl rfl ?_
    refine TL.off (Wt.not rfl rfl rfl rfl) rfl rfl ?_
    refine TL.off (Wt.not rfl rfl rfl rfl) rfl rfl ?_
    refine TL.yv (Wt.none rfl) rfl rfl (Yv.pickF rfl rfl rfl rfl) ?_
    refine TL.yv (Wt.none rfl) rfl rfl (Yv.pur rfl) ?_
    refine TL.nil ?_
    refine K.seq ?_
    refine T.ret ?_
    refine K.ret1 rfl rfl (fun w' hw => ⟨?_, hw.isBelow⟩)
    exact ret_bool (by simp only [Pb.rulesOk, *, Bool.not_true, Bool.not_false, Bool.or_false, Bool.false_or, Bool.or_true, Bool.true_or, Bool.and_false, Bool.false_and, Bool.true_and, Bool.and_true, Bool.or_self, Bool.and_self, Bool.not_not, decide_true, decide_false, not_true_eq_false, not_false_eq_true, cond_true, cond_false])
theorem inRange_ret (i : Int) (w : World) : Calls Tryd.prog 105 #[.int .i64 i] w fun e w' => e = .returned (.bool (inB i 0 511)) ∧ Below w.heap.size w w' := by
  refine calls_T (M := fun _ => False) (hs := []) Tryd.func105 rfl rfl rfl (Hp.refl _ _) ?_
  refine T.seq ?_
  refine T.region ?_
  refine TL.yv (Wt.none rfl) rfl rfl (Yv.pur rfl) ?_
  refine TL.nil ?_
  refine K.seq ?_
  refine T.seq ?_
  refine T.region ?_
  refine TL.yv (Wt.none rfl) rfl rfl (Yv.pur rfl) ?_
  refine TL.yv (Wt.none rfl) rfl rfl (Yv.pur rfl) ?_
  refine TL.yv (Wt.none rfl) rfl rfl (Yv.pur rfl) ?_
  refine TL.gsplit rfl rfl rfl (fun h1 => ?_) (fun h1 => ?_)
  · have p1 := h1
    try simp only [decide_eq_true_eq, decide_eq_false_iff_not, Int.not_lt, Int.not_le, Bool.not_eq_true', Bool.not_eq_false', Decidable.not_not, Bool.and_eq_true, Bool.or_eq_true, Bool.and_eq_false_iff, Bool.or_eq_false_iff] at p1
    refine TL.yv (Wt.some rfl rfl rfl h1) rfl rfl (Yv.pur rfl) ?_
    refine TL.yv (Wt.some rfl rfl rfl h1) rfl rfl (Yv.pur rfl) ?_
    refine TL.yv (Wt.none rfl) rfl rfl (Yv.pickT rfl rfl h1 rfl) ?_
    refine TL.yv (Wt.none rfl) rfl rfl (Yv.pur rfl) ?_
    refine TL.nil ?_
    refine K.seq ?_
    refine T.ret ?_
    refine K.ret1 rfl rfl (fun w' hw => ⟨?_, hw.isBelow⟩)
    refine ret_bool ?_
    simp only [inB, *, Bool.not_true, Bool.not_false, Bool.or_false, Bool.false_or, Bool.or_true, Bool.true_or, Bool.and_false, Bool.false_and, Bool.true_and, Bool.and_true, Bool.or_self, Bool.and_self, Bool.not_not, decide_true, decide_false, not_true_eq_false, not_false_eq_true, cond_true, cond_false]
    try exact decide_eq_decide.2 (by omega)
  · have p1 := h1
    try simp only [decide_eq_true_eq, decide_eq_false_iff_not, Int.not_lt, Int.not_le, Bool.not_eq_true', Bool.not_eq_false', Decidable.not_not, Bool.and_eq_true, Bool.or_eq_true, Bool.and_eq_false_iff, Bool.or_eq_false_iff] at p1
    refine TL.off (Wt.not rfl rfl rfl h1) rfl rfl ?_
    refine TL.off (Wt.not rfl rfl rfl h1) rfl rfl ?_
    refine TL.yv (Wt.none rfl) rfl rfl (Yv.pickF rfl rfl h1 rfl) ?_
    refine TL.yv (Wt.none rfl) rfl rfl (Yv.pur rfl) ?_
    refine TL.nil ?_
    refine K.seq ?_
    refine T.ret ?_
    refine K.ret1 rfl rfl (fun w' hw => ⟨?_, hw.isBelow⟩)
    refine ret_bool ?_
    simp only [inB, *, Bool.not_true, Bool.not_false, Bool.or_false, Bool.false_or, Bool.or_true, Bool.true_or, Bool.and_false, Bool.false_and, Bool.true_and, Bool.and_true, Bool.or_self, Bool.and_self, Bool.not_not, decide_true, decide_false, not_true_eq_false, not_false_eq_true, cond_true, cond_false]
    try exact decide_eq_decide.2 (by omega)
theorem has_ret (ws : Ws) (hws : ws.length = 8) (i : Int) (w : World) : Calls Tryd.prog 74 #[.agg ws.cells.toArray, .int .i64 i] w fun e w' => e = .returned (.bool (sHas ws i)) ∧ Below w.heap.size w w' := by
  refine calls_T (M := fun _ => False) (hs := []) Tryd.func74 rfl rfl rfl (Hp.refl _ _) ?_
  refine T.seq ?_
  refine T.region ?_
  (refine TL.ew (Wt.none rfl) rfl rfl (Ew.boxA rfl rfl) ?_; rintro _ _ ⟨g2, rfl, rfl⟩)
  refine TL.yv (Wt.none rfl) rfl rfl (Yv.pur rfl) ?_
  refine TL.nil ?_
  refine K.seq ?_
  refine T.seq ?_
  refine T.region ?_
  refine TL.yv (Wt.none rfl) rfl rfl (Yv.pur rfl) ?_
  (refine TL.ew (Wt.none rfl) rfl rfl (Ew.callD rfl rfl rfl (fun w hw => inRange_ret _ _)) ?_; rintro _ _ ⟨rfl, rfl⟩)
  refine TL.yv (Wt.none rfl) rfl rfl (Yv.pur rfl) ?_
  refine TL.gsplit rfl rfl rfl (fun h1 => ?_) (fun h1 => ?_)
  · have p1 := h1
    try simp only [decide_eq_true_eq, decide_eq_false_iff_not, Int.not_lt, Int.not_le, Bool.not_eq_true', Bool.not_eq_false', Decidable.not_not, Bool.and_eq_true, Bool.or_eq_true, Bool.and_eq_false_iff, Bool.or_eq_false_iff] at p1
    try simp only [inB, Bool.and_eq_true, decide_eq_true_eq] at p1
    try have hld := Ws.get (ws := ws) (i := i.toNat / 64) (p := 0 + 0 + i.toNat / 64 * 1) (by omega) (by omega)
    refine TL.yv (Wt.some rfl rfl rfl h1) rfl rfl (Yv.pur rfl) ?_
    refine TL.yv (Wt.some rfl rfl rfl h1) rfl rfl (Yv.quoI rfl rfl rfl (by omega)) ?_
    refine TL.yv (Wt.some rfl rfl rfl h1) rfl rfl (Yv.fieldAddr rfl rfl) ?_
    refine TL.yv (Wt.some rfl rfl rfl h1) rfl rfl (Yv.indexAr rfl rfl rfl (show i / 64 = ((i.toNat / 64 : Nat) : Int) from by omega) (by omega)) ?_
    refine TL.yv (Wt.some rfl rfl rfl h1) rfl rfl (Yv.loadO 0 rfl rfl rfl hld) ?_
    refine TL.yv (Wt.some rfl rfl rfl h1) rfl rfl (Yv.pur rfl) ?_
    refine TL.yv (Wt.some rfl rfl rfl h1) rfl rfl (Yv.remI rfl rfl rfl (by omega)) ?_
    refine TL.yv (Wt.some rfl rfl rfl h1) rfl rfl (Yv.shrV (i.toNat % 64) rfl rfl rfl (by omega) (by omega)) ?_
    refine TL.yv (Wt.some rfl rfl rfl h1) rfl rfl (Yv.andV (b := 1#64) rfl rfl rfl) ?_
    refine TL.yv (Wt.some rfl rfl rfl h1) rfl rfl (Yv.pur rfl) ?_
    refine TL.yv (Wt.none rfl) rfl rfl (Yv.pickT rfl rfl h1 rfl) ?_
    refine TL.yv (Wt.none rfl) rfl rfl (Yv.pur rfl) ?_
    refine TL.nil ?_
    refine K.seq ?_
    refine T.ret ?_
    refine K.ret1 rfl rfl (fun w' hw => ⟨?_, hw.isBelow⟩)
    exact ret_bool (by simp only [sHas, sBit, bit_is, *, Bool.not_true, Bool.not_false, Bool.or_false, Bool.false_or, Bool.or_true, Bool.true_or, Bool.and_false, Bool.false_and, Bool.true_and, Bool.and_true, Bool.or_self, Bool.and_self, Bool.not_not, decide_true, decide_false, not_true_eq_false, not_false_eq_true, cond_true, cond_false])
  · have p1 := h1
    try simp only [decide_eq_true_eq, decide_eq_false_iff_not, Int.not_lt, Int.not_le, Bool.not_eq_true', Bool.not_eq_false', Decidable.not_not, Bool.and_eq_true, Bool.or_eq_true, Bool.and_eq_false_iff, Bool.or_eq_false_iff] at p1
    try simp only [inB, Bool.and_eq_true, decide_eq_true_eq] at p1
    try have hld := Ws.get (ws := ws) (i := i.toNat / 64) (p := 0 + 0 + i.toNat / 64 * 1) (by omega) (by omega)
    refine TL.off (Wt.not rfl rfl rfl h1) rfl rfl ?_
    refine TL.off (Wt.not rfl rfl rfl h1) rfl rfl ?_
    refine TL.off (Wt.not rfl rfl rfl h1) rfl rfl ?_
    refine TL.off (Wt.not rfl rfl rfl h1) rfl rfl ?_
    refine TL.off (Wt.not rfl rfl rfl h1) rfl rfl ?_
    refine TL.off (Wt.not rfl rfl rfl h1) rfl rfl ?_
    refine TL.off (Wt.not rfl rfl rfl h1) rfl rfl ?_
    refine TL.off (Wt.not rfl rfl rfl h1) rfl rfl ?_
    refine TL.off (Wt.not rfl rfl rfl h1) rfl rfl ?_
    refine TL.off (Wt.not rfl rfl rfl h1) rfl rfl ?_
    refine TL.yv (Wt.none rfl) rfl rfl (Yv.pickF rfl rfl h1 rfl) ?_
    refine TL.yv (Wt.none rfl) rfl rfl (Yv.pur rfl) ?_
    refine TL.nil ?_
    refine K.seq ?_
    refine T.ret ?_
    refine K.ret1 rfl rfl (fun w' hw => ⟨?_, hw.isBelow⟩)
    exact ret_bool (by simp only [sHas, sBit, bit_is, *, Bool.not_true, Bool.not_false, Bool.or_false, Bool.false_or, Bool.or_true, Bool.true_or, Bool.and_false, Bool.false_and, Bool.true_and, Bool.and_true, Bool.or_self, Bool.and_self, Bool.not_not, decide_true, decide_false, not_true_eq_false, not_false_eq_true, cond_true, cond_false])
theorem of_ret (l : List Int) (v : Value) (w : World) (h : IntsAt w v l) (hl : l.length ≤ 9223372036854775807) (hr : ∀ x ∈ l, 0 ≤ x ∧ x ≤ 511) : Calls Tryd.prog 104 #[v] w fun e w' => e = .returned (.tuple #[.agg (Ws.cells (setOf l)).toArray, .int .i64 0]) ∧ Below w.heap.size w w' := by
  obtain ⟨A, cap, rfl, hsl⟩ := h.op
  refine calls_T (M := fun _ => False) (hs := []) Tryd.func104 rfl rfl rfl (Hp.refl _ _) ?_
  refine T.seq ?_
  refine T.region ?_
  (refine TL.ew (Wt.none rfl) rfl rfl (Ew.alloc rfl) ?_; rintro _ _ ⟨g2, rfl, rfl⟩)
  refine TL.yv (Wt.none rfl) rfl rfl (Yv.pur rfl) ?_
  refine TL.nil ?_
  refine K.seq ?_
  refine T.seq ?_
  refine T.region ?_
  (refine TL.ew (Wt.none rfl) rfl rfl (Ew.alloc rfl) ?_; rintro _ _ ⟨g4, rfl, rfl⟩)
  refine TL.nil ?_
  refine K.seq ?_
  refine T.seq ?_
  refine T.seq ?_
  refine T.region ?_
  refine TL.yv (Wt.none rfl) rfl rfl (Yv.pur rfl) ?_
  refine TL.yv (Wt.none rfl) rfl rfl (Yv.lenSl rfl rfl) ?_
  refine TL.yv (Wt.none rfl) rfl rfl (Yv.pur rfl) ?_
  refine TL.nil ?_
  refine K.seq ?_
  refine T.block ?_
  refine T.loop (ι := Nat) (fun k => [(2, .pointer (some ⟨g2, 0, none⟩)), (4, .pointer (some ⟨g4, 0, none⟩)), (7, .slice A l.length cap), (8, .int .i64 (l.length : Int)), (9, .int .i64 (k : Int))]) (fun k => [.row g4 127 (Ws.cells (setOf (l.take k))), .row g2 127 (Ws.cells sNil)]) (fun k => k ≤ l.length) (fun k => l.length - k) 0 ?_ ?_ ?_ ?_
  · omega
  · exact (by repeat (first | exact Sub.nil | refine Sub.cons rfl ?_))
  · exact (by repeat (first | exact List.Sublist.refl _ | exact List.nil_sublist _ | refine List.Sublist.cons_cons _ ?_ | refine List.Sublist.cons _ ?_))
  · intro k hphi
    have hlen := setOf_len (l.take k)
    have hsl8 : (Ws.cells (setOf (l.take k))).length = 8 := by rw [List.length_map, hlen]
    refine T.seq ?_
    refine T.region ?_
    refine TL.yv (Wt.none rfl) rfl rfl (Yv.pur rfl) ?_
    refine TL.nil ?_
    refine K.seq ?_
    refine T.seq ?_
    refine T.cond rfl (fun h1 => ?_) (fun h1 => ?_)
    · have p1 := h1
      try simp only [decide_eq_true_eq, decide_eq_false_iff_not, Int.not_lt, Int.not_le, Bool.not_eq_true', Bool.not_eq_false', Decidable.not_not, Bool.and_eq_true, Bool.or_eq_true, Bool.and_eq_false_iff, Bool.or_eq_false_iff] at p1
      obtain ⟨g, off, rfl, hc⟩ := hsl (by omega)
      have hk := hc k (by omega)
      simp only [Ie] at hk
      have hr1 := hr _ (nth_mem (xs := l) (k := k) (by omega))
      have hld := Ws.get (ws := setOf (l.take k)) (i := (nth l k).toNat / 64) (p := 0 + 0 + (nth l k).toNat / 64 * 1) (by omega) (by omega)
      refine T.skip ?_
      refine K.seq ?_
      refine T.seq ?_
      refine T.block ?_
      refine T.seq ?_
      refine T.region ?_
      refine TL.yv (Wt.none rfl) rfl rfl (Yv.indexSl rfl rfl rfl rfl (by omega)) ?_
      refine TL.yv (Wt.none rfl) rfl rfl (Yv.loadC (j := 0) rfl rfl hk rfl rfl (fun h => h)) ?_
      refine TL.yv (Wt.none rfl) rfl rfl (Yv.pur rfl) ?_
      refine TL.nil ?_
      refine K.seq ?_
      refine T.seq ?_
      refine T.seq ?_
      refine T.region ?_
      refine TL.yv (Wt.none rfl) rfl rfl (Yv.pur rfl) ?_
      (refine TL.ew (Wt.none rfl) rfl rfl (Ew.callD rfl rfl rfl (fun w hw => inRange_ret _ _)) ?_; rintro _ _ ⟨rfl, rfl⟩)
      refine TL.yv (Wt.none rfl) rfl rfl (Yv.pur rfl) ?_
      refine TL.nil ?_
      refine K.seq ?_
      refine T.condF rfl (by rw [inB, decide_eq_true hr1.1, decide_eq_true hr1.2]; rfl) ?_
      refine T.skip ?_
      refine K.seq ?_
      refine T.draw (.still 0 (.still 1 (.still 2 (.still 3 (.still 5 (.still 6 (.still 7 (.still 9 (.eff 4 (.still 8 (.still 10 (.eff 11 .done)))))))))))) [.row g2 127 (Ws.cells sNil)] (by kernel_rfl) (by repeat (first | exact List.Sublist.refl _ | exact List.nil_sublist _ | refine List.Sublist.cons_cons _ ?_ | refine List.Sublist.cons _ ?_)) ?_
      refine TS.still rfl (Wt.none rfl) rfl rfl (Yv.pur rfl) ?_
      refine TS.still rfl (Wt.none rfl) rfl rfl (Yv.quoI rfl rfl rfl (by omega)) ?_
      refine TS.still rfl (Wt.none rfl) rfl rfl (Yv.fieldAddr rfl rfl) ?_
      refine TS.still rfl (Wt.none rfl) rfl rfl (Yv.indexAr rfl rfl rfl (show (nth l k) / 64 = (((nth l k).toNat / 64 : Nat) : Int) from by omega) (by omega)) ?_
      refine TS.still rfl (Wt.none rfl) rfl rfl (Yv.pur rfl) ?_
      refine TS.still rfl (Wt.none rfl) rfl rfl (Yv.remI rfl rfl rfl (by omega)) ?_
      refine TS.still rfl (Wt.none rfl) rfl rfl (Yv.shlV (a := 1#64) ((nth l k).toNat % 64) rfl rfl rfl (by omega) (by omega)) ?_
      refine TS.still rfl (Wt.none rfl) rfl rfl (Yv.fieldAddr rfl rfl) ?_
      refine TS.eff ?_
      refine TSo.yv rfl (Wt.none rfl) rfl rfl (Yv.loadO 0 rfl rfl rfl hld) (by repeat (first | exact List.Sublist.refl _ | exact List.nil_sublist _ | refine List.Sublist.cons_cons _ ?_ | refine List.Sublist.cons _ ?_)) ?_
      refine TS.still rfl (Wt.none rfl) rfl rfl (Yv.orV rfl rfl rfl) ?_
      refine TS.still rfl (Wt.none rfl) rfl rfl (Yv.indexAr rfl rfl rfl (show (nth l k) / 64 = (((nth l k).toNat / 64 : Nat) : Int) from by omega) (by omega)) ?_
      refine TS.eff ?_
      (refine TSo.ew0 rfl (Wt.none rfl) rfl (Ew.storeR 0 (Ws.cells (sAdd (setOf (l.take k)) (nth l k).toNat)) rfl rfl rfl rfl (by rw [List.length_map, hlen]; omega) (Ws.put (by omega))) ?_; rintro _ _ ⟨rfl, rfl⟩; refine ⟨(by repeat (first | exact List.Sublist.refl _ | exact List.nil_sublist _ | refine List.Sublist.cons_cons _ ?_ | refine List.Sublist.cons _ ?_)), ?_⟩)
      refine TS.done ?_
      refine K.blk_normal ?_
      refine K.seq ?_
      refine T.region ?_
      refine TL.yv (Wt.none rfl) rfl rfl (Yv.addI rfl rfl rfl (by omega)) ?_
      refine TL.yv (Wt.none rfl) rfl rfl (Yv.pur rfl) ?_
      refine TL.nil ?_
      exact K.next (k + 1) (by omega) (by omega) (by repeat (first | exact Sub.nil | refine Sub.cons rfl ?_)) (by rw [setOf_take (by omega)]; exact (by repeat (first | exact List.Sublist.refl _ | exact List.nil_sublist _ | refine List.Sublist.cons_cons _ ?_ | refine List.Sublist.cons _ ?_)))
    · have p1 := h1
      try simp only [decide_eq_true_eq, decide_eq_false_iff_not, Int.not_lt, Int.not_le, Bool.not_eq_true', Bool.not_eq_false', Decidable.not_not, Bool.and_eq_true, Bool.or_eq_true, Bool.and_eq_false_iff, Bool.or_eq_false_iff] at p1
      refine T.exit ?_
      refine K.then_exit ?_
      refine K.then_exit ?_
      refine K.blk_exit_eq ?_
      refine K.seq ?_
      refine T.seq ?_
      refine T.region ?_
      refine TL.yv (Wt.none rfl) rfl rfl (Yv.loadAO 0 rfl rfl rfl hsl8) ?_
      (refine TL.ew0 (Wt.none rfl) rfl (Ew.storeAll 1 rfl rfl rfl rfl (by rw [List.length_map, setOf_len]) (by rw [List.length_map, setOf_len]; rfl)) ?_; rintro _ _ ⟨rfl, rfl⟩)
      refine TL.yv (Wt.none rfl) rfl rfl (Yv.pur rfl) ?_
      refine TL.nil ?_
      refine K.seq ?_
      refine T.ret ?_
      exact K.retCT 1 rfl rfl rfl rfl (by rw [List.length_map, setOf_len]) (fun w' hw => ⟨by rw [List.take_of_length_le (by omega)], hw.isBelow⟩)
end Go.Proofs.YtljgejbmimapdaaDoor
