/- Settling a queue. -/
import Derived.Test.YtljgejbmimapdaaDoorPn
set_option maxRecDepth 100000
set_option maxHeartbeats 4000000
set_option linter.unusedSimpArgs false
set_option linter.unusedVariables false
set_option linter.unusedSectionVars false
namespace Go.Proofs.YtljgejbmimapdaaDoor
open Go.RowKit

/-- A list of numbers that is read: the value, and what it reads as. -/
def Ne (j : Nat) : List Value := [.int .i64 (j : Int)]
structure QuOk (w : World) (v : Value) (q : List Nat) : Prop where
  sl : SlOf w v Ne 1 q
  cap : ∀ A n c, v = .slice A n c → n ≤ c
  lt : ∀ g, v.ownBlock = some g → ∃ cs t, w.heap[g]? = some (.cells cs t (0, 0))
theorem SlOf.loc {α : Type} {w w' : World} {v : Value} {enc : α → List Value} {size : Nat} {xs : List α} (h : SlOf w v enc size xs) (hl : ∀ g, v.ownBlock = some g → w'.heap[g]? = w.heap[g]?) : SlOf w' v enc size xs := by
  obtain ⟨A, cap, rfl, hc⟩ := h
  refine ⟨A, cap, rfl, fun hp => ?_⟩
  obtain ⟨g, off, rfl, hcs⟩ := hc hp
  have hg := hl g rfl
  exact ⟨g, off, rfl, fun i hi j hj => by
    rw [← hcs i hi j hj]
    exact World.cell?_of_block (w := w) hg⟩
@[irreducible] def Ent.qu (v : Value) (q : List Nat) : Ent where
  fp g := v.ownBlock = some g
  ok w := QuOk w v q
  loc h k := ⟨k.sl.loc h, k.cap, fun g hg => by rw [h g hg]; exact k.lt g hg⟩
  lt h g hg := by obtain ⟨cs, t, e⟩ := h.lt g hg; exact (Array.getElem?_eq_some_iff.1 e).1
  nd h g hg c := by obtain ⟨cs, t, e⟩ := h.lt g hg; rw [e]; simp
theorem Ent.qu_fp {v : Value} {q : List Nat} {g : Nat} : (Ent.qu v q).fp g ↔ v.ownBlock = some g := by unfold Ent.qu; exact Iff.rfl
theorem Ent.qu_ok {v : Value} {q : List Nat} {w : World} : (Ent.qu v q).ok w ↔ QuOk w v q := by unfold Ent.qu; exact Iff.rfl
theorem nums_ne (l : List Nat) : nums l = l.flatMap Ne := by
  unfold nums
  induction l with
  | nil => rfl
  | cons x r ih => simp_all [Ne]
theorem qu_of_sl {w : World} {v : Value} {e : TypeId} {q : List Nat} {n : Nat} (hn : n = q.length) (h : (Ent.sl v e 1 n (nums q)).ok w) : (Ent.qu v q).ok w := by
  have ho := Ent.sl_ok.1 h
  rw [nums_ne] at ho
  refine Ent.qu_ok.2 ⟨SlOf.own (enc := Ne) (size := 1) (fun _ => rfl) ho hn, ?_, ?_⟩
  · rintro A m c rfl
    rcases ho.2 with ⟨e, _⟩ | ⟨g, cap, cur, e, _, _, h1, _⟩
    · cases e; exact Nat.le_refl _
    · cases e; exact h1
  · intro g hg
    rcases ho.2 with ⟨e, _⟩ | ⟨g', cap, cur, e, _, h1, _⟩
    · rw [e] at hg; cases hg
    · rw [e] at hg; simp [Value.ownBlock] at hg; subst hg; exact ⟨_, _, h1⟩
section
variable {F : Fence} {P : Program} {n : Nat} {B D : World} {M : Nat → Prop} {Q : Exit → Act → World → Prop} {fs : SFs} {hs : HS} {o : Oper} {ops : Array Oper} {l : List Oper} {c : Code} {e : Exit}
theorem Hp.conv {w : World} {i : Nat} {a b : Ent} (h : Hp B M hs w) (hi : hs[i]? = some a) (hok : a.ok w → b.ok w) (hfp : ∀ g, b.fp g → a.fp g) : Hp B M (hs.set i b) w :=
  h.updAt hi (Only.refl (fun _ => False) w) (fun _ _ h => h.elim) (hok (h.get hi)) (fun g hg => .inl (hfp g hg))
theorem TL.conv (i : Nat) (a b : Ent) {hs' : HS} (hi : hs[i]? = some a) (hok : ∀ w, a.ok w → b.ok w) (hfp : ∀ g, b.fp g → a.fp g) [hH : SetAt hs i b hs'] (h : TL F P n B D M ops Q l fs hs') : TL F P n B D M ops Q l fs hs := ⟨fun a' w ha hw hm => h.out a' w ha (by rw [← hH.h]; exact hw.conv hi (hok w) hfp) hm⟩
theorem K.conv (i : Nat) (a b : Ent) {hs' : HS} (hi : hs[i]? = some a) (hok : ∀ w, a.ok w → b.ok w) (hfp : ∀ g, b.fp g → a.fp g) [hH : SetAt hs i b hs'] (h : K n B D M Q e fs hs') : K n B D M Q e fs hs := ⟨fun a' w ha hw hm => h.out a' w ha (by rw [← hH.h]; exact hw.conv hi (hok w) hfp) hm⟩
theorem Yv.lenQ (i : Nat) {t e : TypeId} {k : Nat} {x : Operand} {v : Value} {q : List Nat} [hT : TySl P t e k] (ho : o.op = .call { callee := .builtin .len, args := #[x], argTypes := #[t] }) (hx : ev fs x = some v) (hi : hs[i]? = some (.qu v q)) : Yv P n B M fs hs o (.int .i64 (q.length : Int)) := fun a w ha hw => by
  obtain ⟨A, cap, rfl, _⟩ := (Ent.qu_ok.1 (hw.get hi)).sl
  exact Yv.lenSl (B := B) (M := M) (hs := hs) ho hx a w ha hw
theorem T.quForm (i : Nat) {v : Value} {x : Nat} {q : List Nat} (hi : hs[i]? = some (.qu v (x :: q))) (h : ∀ g off cap, v = .slice (some ⟨g, off, none⟩) (q.length + 1) cap → q.length + 1 ≤ cap → T F P n B D M c Q fs hs) : T F P n B D M c Q fs hs := ⟨fun a w ha hw hm => by
  have hq := Ent.qu_ok.1 (hw.get hi)
  obtain ⟨A, cap, rfl, hc⟩ := hq.sl
  obtain ⟨g, off, rfl, _⟩ := hc (by simp)
  exact (h g off cap rfl (hq.cap _ _ _ rfl)).out a w ha hw hm⟩
theorem Yv.loadQ (i : Nat) {t : TypeId} [hT : TyS P t] {g off p cap m : Nat} {x : Nat} {q : List Nat} {y : Operand} (ho : o.op = .load t y) (hy : ev fs y = some (.pointer (some ⟨g, p, none⟩))) (hi : hs[i]? = some (.qu (.slice (some ⟨g, off, none⟩) m cap) (x :: q))) (hp : p = off) : Yv P n B M fs hs o (.int .i64 (x : Int)) := fun a w ha hw => by
  subst hp
  obtain ⟨A, cap', e, hc⟩ := (Ent.qu_ok.1 (hw.get hi)).sl
  cases e
  obtain ⟨g', off', e, hcs⟩ := hc (by simp)
  cases e
  have := hcs 0 (by simp) 0 (by simp [Ne])
  exact run_load1 ho (ha.ev hy) (by simpa [Ne] using this)
/-- The rest of a list. -/
def sl1 (g off n : Nat) : Value := .slice (if n + 1 = 1 then some ⟨g, off, none⟩ else some ⟨g, off + 1, none⟩) n n
theorem Yv.slice1 {t e : TypeId} {x a b d : Operand} {g off m cap : Nat} [hT : TySl P t e 1] (ho : o.op = .slice t x (some a) (some b) (some d)) (hx : ev fs x = some (.slice (some ⟨g, off, none⟩) (m + 1) cap)) (ha : ev fs a = some (.int .i64 1)) (hb : ev fs b = some (.int .i64 ((m + 1 : Nat) : Int))) (hd : ev fs d = some (.int .i64 ((m + 1 : Nat) : Int))) (hc : m + 1 ≤ cap) : Yv P n B M fs hs o (sl1 g off m) := fun f w hf _ => by
  have hr : (Instr.sliceAt t (.slice (some ⟨g, off, none⟩) (m + 1) cap) (some (.int .i64 1)) (some (.int .i64 ((m + 1 : Nat) : Int))) (some (.int .i64 ((m + 1 : Nat) : Int)))).run P w = .ok (sl1 g off m) w := by
    have h := hT.h
    unfold tySlice at h
    split at h
    · rename_i el hU
      cases hi' : P.info? el with
      | none => rw [hi'] at h; cases h
      | some inf =>
        rw [hi'] at h
        simp only [Option.map, Option.some.injEq, Prod.mk.injEq] at h
        obtain ⟨rfl, hsz⟩ := h
        have h1 : (Instr.sliceBounds true (m + 1) cap (some (.int .i64 1)) (some (.int .i64 ((m + 1 : Nat) : Int))) (some (.int .i64 ((m + 1 : Nat) : Int)))).run P w = .ok (1, m + 1, m + 1) w := by
          unfold Instr.sliceBounds
          simp only [Sem.run_bind, run_sliceBound w .i64 ((m + 1 : Nat) : Int) cap _ (by omega) (by omega), Result.andThen, Int.toNat_natCast, run_sliceBound w .i64 ((m + 1 : Nat) : Int) (m + 1) _ (by omega) (by omega), run_sliceBound w .i64 1 (m + 1) _ (by omega) (by omega)]
          rfl
        obtain ⟨z, hz⟩ : ∃ z : Int, z = ((m + 1 : Nat) : Int) := ⟨_, rfl⟩
        rw [← hz] at h1 ⊢
        simp [Instr.sliceAt, Instr.slice, underlying, hU, h1, sizeOf, typeInfo, hi', hsz, sl1, Addr.add, Result.andThen]
    · cases h
  unfold execOp
  simp only [ho, hf.ev hx, hf.ev ha, hf.ev hb, hf.ev hd, Option.map]
  rw [Sem.run_bind, hr]
  rfl
end


theorem sl1_own {g off n b : Nat} (h : (sl1 g off n).ownBlock = some b) : b = g := by
  unfold sl1 at h
  split at h <;> (simp [Value.ownBlock] at h; exact h.symm)
theorem qu_pop {w : World} {g off cap x : Nat} {q : List Nat} (h : (Ent.qu (.slice (some ⟨g, off, none⟩) (q.length + 1) cap) (x :: q)).ok w) : (Ent.qu (sl1 g off q.length) q).ok w := by
  have hq := Ent.qu_ok.1 h
  obtain ⟨A, cap', e, hc⟩ := hq.sl
  cases e
  obtain ⟨g', off', e, hcs⟩ := hc (by simp)
  cases e
  refine Ent.qu_ok.2 ⟨⟨_, _, rfl, fun hl => ?_⟩, ?_, fun b hb => ?_⟩
  · refine ⟨g, off + 1, by rw [if_neg (by omega)], fun i hi => ?_⟩
    have := hcs (i + 1) (by simpa using hi)
    simp only [List.getElem_cons_succ] at this
    rw [show off + 1 + i * 1 = off + (i + 1) * 1 by omega]
    exact this
  · intro A n c e
    unfold sl1 at e
    cases e
    exact Nat.le_refl _
  · rw [sl1_own hb]; exact hq.lt g rfl
def SPost (Y : Tb) (L0 L : Ws) (c : Bool) : Prop := Reach Y L0 L ∧ L.length = Y.n ∧ (c = true → ∃ i, i < Y.n ∧ nth L i = 0#64) ∧ (c = false → ∀ i, i < Y.n → Calm1 Y L i)
def rid (k : Nat) : Nat := if k = 0 then 79 else if k = 1 then 80 else 81
instance (k : Nat) : Enters Tryd.prog (rid k) := by
  unfold rid; split
  · exact inferInstance
  · split <;> exact inferInstance
def ruleFs : List Value := [.func (.func 79) #[] #[], .func (.func 80) #[] #[], .func (.func 81) #[] #[]]
theorem rid_at {k : Nat} (h : k < 3) : ruleFs[k]? = some (.func (.func (rid k)) #[] #[]) := by
  obtain rfl | rfl | rfl : k = 0 ∨ k = 1 ∨ k = 2 := by omega
  all_goals rfl
theorem rule_ret (sp : Nat) (Y : Tb) (L : Ws) (c : Bool) (i : Nat) (z : Int) (hz : z = (i : Int)) (hi : i < Y.n) (w : World) (h : StateAt w sp Y L c) (hok : Y.Ok) (k : Nat) (hk : k < 3) : Calls Tryd.prog (rid k) #[.pointer (some ⟨sp, 0, none⟩), .int .i64 z] w fun e w' => e = .returned (U (ruleF Y L i k)) ∧ Below w.heap.size w w' := by
  obtain rfl | rfl | rfl : k = 0 ∨ k = 1 ∨ k = 2 := by omega
  · exact pairsOf_ret sp Y L c i z hz hi w h hok
  · exact capsOf_ret sp Y L c i z hz hi w h hok
  · exact loadsOf_ret sp Y L c i z hz hi w h hok
abbrev sV (gl n : Nat) : Value := .slice (some ⟨gl, 0, none⟩) n n
abbrev sRow (sp gl tp n : Nat) (c : Bool) : Ent := .row sp 69 [.pointer (some ⟨tp, 0, none⟩), sV gl n, .bool c]
abbrev sLeft (gl : Nat) (n : Nat) (L : Ws) : Ent := .sl (sV gl n) 93 1 n (Ws.cells L)
theorem cells_le (L : Ws) : Ws.cells L = L.flatMap Le := by
  induction L with
  | nil => rfl
  | cons x r ih => simp_all [Le, Ws.cells]
theorem StF.of {B w0 w : World} {M : Nat → Prop} {hs : HS} {sp gl tp : Nat} {Y : Tb} {L : Ws} {c : Bool} (hw : Hp B M hs w) (ht : TablesAt w0 tp Y) (hfr : Fz w0 w) (htab : Tab w) (i j : Nat) (hi : hs[i]? = some (sRow sp gl tp Y.n c)) (hj : hs[j]? = some (sLeft gl Y.n L)) (hl : L.length = Y.n) : StF w0 w sp gl tp Y L c := by
  have h1 := Ent.row_ok.1 (hw.get hi)
  have h2 := Ent.sl_ok.1 (hw.get hj)
  rw [cells_le] at h2
  have h3 := SlOf.own (enc := Le) (size := 1) (fun _ => rfl) h2 hl.symm
  rw [← hl] at h1 h3
  exact ⟨ht, hfr, by rw [row_cell h1]; rfl, by rw [row_cell h1]; rfl, h3, hl, by rw [row_cell h1]; rfl, htab⟩
theorem set_cells {L : Ws} {i p : Nat} {b : BitVec 64} (hp : p = i) : (Ws.cells L).set p (U b) = Ws.cells (L.set i b) := Ws.put hp

theorem settle_ret (w0 : World) (sp gl tp : Nat) (Y : Tb) (L : Ws) (c : Bool) (v : Value) (q : List Nat) (w : World) (ht : TablesAt w0 tp Y) (hok : Y.Ok) (hfr : Fz w0 w) (htab : Tab w) (hes : Hp w (fps [sRow sp gl tp Y.n c, sLeft gl Y.n L, Ent.qu v q]) [sRow sp gl tp Y.n c, sLeft gl Y.n L, Ent.qu v q] w) (hMN : ∀ g, fps [sRow sp gl tp Y.n c, sLeft gl Y.n L, Ent.qu v q] g → ¬ IsC w0 g) (hM0 : ¬ fps [sRow sp gl tp Y.n c, sLeft gl Y.n L, Ent.qu v q] 0) (hinv : SInv Y L L q sNil c) : Calls Tryd.prog 45 #[.pointer (some ⟨sp, 0, none⟩), v] w fun e w' => ∃ y : Ws × Bool, SPost Y L y.1 y.2 ∧ e = .returned (.tuple #[]) ∧ Hp w (fps [sRow sp gl tp Y.n c, sLeft gl Y.n L, Ent.qu v q]) [sRow sp gl tp Y.n y.2, sLeft gl Y.n y.1] w' := by
  have hn512 := hok.n
  refine calls_T (M := fps [sRow sp gl tp Y.n c, sLeft gl Y.n L, Ent.qu v q]) (hs := [sRow sp gl tp Y.n c, sLeft gl Y.n L, Ent.qu v q]) Tryd.func45 rfl rfl rfl hes ?_
  refine T.scope ?_
  refine T.seq ?_
  refine T.region ?_
  refine TL.yv (Wt.none rfl) rfl rfl (Yv.buildAr rfl rfl) ?_
  (refine TL.ew (Wt.none rfl) rfl rfl (Ew.alloc rfl) ?_; rintro _ _ ⟨g4, rfl, rfl⟩)
  (refine TL.ew0 (Wt.none rfl) rfl (Ew.storeAll 0 rfl rfl rfl rfl rfl rfl) ?_; rintro _ _ ⟨rfl, rfl⟩)
  refine TL.nil ?_
  refine K.seq ?_
  refine T.seq ?_
  refine T.region ?_
  (refine TL.ew (Wt.none rfl) rfl rfl (Ew.alloc rfl) ?_; rintro _ _ ⟨g5, rfl, rfl⟩)
  refine TL.nil ?_
  refine K.seq ?_
  refine T.seq ?_
  refine T.label ?_
  refine K.seq ?_
  refine T.block ?_
  refine T.loop (ι := Ws × List Nat × Ws × Bool × Value) (fun x => [(0, .pointer (some ⟨sp, 0, none⟩)), (4, .pointer (some ⟨g4, 0, none⟩)), (5, .pointer (some ⟨g5, 0, none⟩)), (1, x.2.2.2.2)]) (fun x => [.row g5 127 (Ws.cells x.2.2.1), .row g4 137 ruleFs, sRow sp gl tp Y.n x.2.2.2.1, sLeft gl Y.n x.1, Ent.qu x.2.2.2.2 x.2.1]) (fun x => SInv Y L x.1 x.2.1 x.2.2.1 x.2.2.2.1) (fun x => smu x.1 x.2.1 x.2.2.1) (L, q, sNil, c, v) ?_ ?_ ?_ ?_
  · exact hinv
  · exact (by repeat (first | exact Sub.nil | refine Sub.cons rfl ?_))
  · exact (by repeat (first | exact List.Sublist.refl _ | exact List.nil_sublist _ | refine List.Sublist.cons_cons _ ?_ | refine List.Sublist.cons _ ?_))
  · intro x hphi
    obtain ⟨L1, q1, ws1, c1, v1⟩ := x
    dsimp only at hphi ⊢
    have hws8 := hphi.ws8
    refine T.seq ?_
    refine T.seq ?_
    refine T.region ?_
    refine TL.yv (Wt.none rfl) rfl rfl (Yv.pur rfl) ?_
    refine TL.yv (Wt.none rfl) rfl rfl (Yv.pur rfl) ?_
    refine TL.yv (Wt.none rfl) rfl rfl (Yv.fieldAddr rfl rfl) ?_
    refine TL.yv (Wt.none rfl) rfl rfl (Yv.loadO 2 rfl rfl rfl rfl) ?_
    refine TL.yv (Wt.none rfl) rfl rfl (Yv.pur rfl) ?_
    refine TL.nil ?_
    refine K.seq ?_
    refine T.cond rfl (fun h1 => ?_) (fun h1 => ?_)
    · have p1 := h1
      try simp only [decide_eq_true_eq, decide_eq_false_iff_not, Int.not_lt, Int.not_le, Bool.not_eq_true', Bool.not_eq_false', Decidable.not_not, Bool.and_eq_true, Bool.or_eq_true, Bool.and_eq_false_iff, Bool.or_eq_false_iff] at p1
      obtain rfl : c1 = false := by simpa using p1
      refine T.skip ?_
      refine K.seq ?_
      refine T.block ?_
      refine T.cutX (ι := List Nat × Ws × Value) (fun y => [(0, .pointer (some ⟨sp, 0, none⟩)), (4, .pointer (some ⟨g4, 0, none⟩)), (5, .pointer (some ⟨g5, 0, none⟩)), (1, y.2.2)]) (fun y => [.row g5 127 (Ws.cells y.2.1), .row g4 137 ruleFs, sRow sp gl tp Y.n false, sLeft gl Y.n L1, Ent.qu y.2.2 y.1]) (fun y => SInv Y L L1 y.1 y.2.1 false ∧ y.1 ≠ [] ∧ smu L1 y.1 y.2.1 ≤ smu L1 q1 ws1) ?_ ?_
      · skip
        refine T.seq ?_
        refine T.region ?_
        refine TL.yv (Wt.none rfl) rfl rfl (Yv.pur rfl) ?_
        refine TL.yv (Wt.none rfl) rfl rfl (Yv.lenQ 4 rfl rfl rfl) ?_
        refine TL.yv (Wt.none rfl) rfl rfl (Yv.pur rfl) ?_
        refine TL.nil ?_
        refine K.seq ?_
        refine T.cond rfl (fun h2 => ?_) (fun h2 => ?_)
        · have p2 := h2
          try simp only [decide_eq_true_eq, decide_eq_false_iff_not, Int.not_lt, Int.not_le, Bool.not_eq_true', Bool.not_eq_false', Decidable.not_not, Bool.and_eq_true, Bool.or_eq_true, Bool.and_eq_false_iff, Bool.or_eq_false_iff] at p2
          obtain rfl : q1 = [] := List.eq_nil_of_length_eq_zero (by omega)
          refine T.seq ?_
          refine T.region ?_
          refine TL.yv (Wt.none rfl) rfl rfl (Yv.loadAO 0 rfl rfl rfl (by rw [List.length_map, hws8])) ?_
          (refine TL.ew (Wt.none rfl) rfl rfl (Ew.callH rfl rfl rfl (fun w hw => list_ret ws1 hws8 w (htab.kept hw hM0))) ?_; rintro v20 _ ⟨_, -, rfl, rfl⟩)
          dsimp only [List.cons_append, List.nil_append]
          refine TL.yv (Wt.none rfl) rfl rfl (Yv.build rfl rfl) ?_
          refine TL.yv (Wt.none rfl) rfl rfl (Yv.pur rfl) ?_
          (refine TL.ew0 (Wt.none rfl) rfl (Ew.storeAll 1 rfl rfl rfl rfl rfl (by rw [List.length_map, hws8]; rfl)) ?_; rintro _ _ ⟨rfl, rfl⟩)
          refine TL.nil ?_
          refine K.seq ?_
          refine T.seq ?_
          refine T.region ?_
          refine TL.yv (Wt.none rfl) rfl rfl (Yv.pur rfl) ?_
          refine TL.yv (Wt.none rfl) rfl rfl (Yv.lenE 0 rfl rfl rfl) ?_
          refine TL.yv (Wt.none rfl) rfl rfl (Yv.pur rfl) ?_
          refine TL.nil ?_
          refine K.seq ?_
          refine T.cond rfl (fun h3 => ?_) (fun h3 => ?_)
          · have p3 := h3
            try simp only [decide_eq_true_eq, decide_eq_false_iff_not, Int.not_lt, Int.not_le, Bool.not_eq_true', Bool.not_eq_false', Decidable.not_not, Bool.and_eq_true, Bool.or_eq_true, Bool.and_eq_false_iff, Bool.or_eq_false_iff] at p3
            have hfin : SPost Y L L1 false := ⟨hphi.reach, hphi.len, (fun hh => by cases hh), fun _ => hphi.calm (List.eq_nil_of_length_eq_zero (by omega))⟩
            refine T.exit ?_
            refine K.then_exit ?_
            refine K.blk_exit_ne rfl ?_
            refine K.then_exit ?_
            refine K.blk_exit_eq ?_
            refine K.sc_normal ?_
            exact K.end0 rfl (fun w' hw => ⟨(_, _), hfin, rfl, hw.sub (by repeat (first | exact List.Sublist.refl _ | exact List.nil_sublist _ | refine List.Sublist.cons_cons _ ?_ | refine List.Sublist.cons _ ?_))⟩)
          · have p3 := h3
            try simp only [decide_eq_true_eq, decide_eq_false_iff_not, Int.not_lt, Int.not_le, Bool.not_eq_true', Bool.not_eq_false', Decidable.not_not, Bool.and_eq_true, Bool.or_eq_true, Bool.and_eq_false_iff, Bool.or_eq_false_iff] at p3
            have hmem : memN ws1 ≠ [] := by intro hh; rw [hh] at p3; exact p3 rfl
            refine T.skip ?_
            refine K.conv 0 _ (Ent.qu v20 (memN ws1)) rfl (fun w hh => qu_of_sl rfl hh) (fun g hg => Ent.sl_fp.2 (Ent.qu_fp.1 hg)) ?_
            refine K.permH (List.perm_append_comm (l₁ := [Ent.qu v20 (memN ws1)])) ?_
            exact K.atX (memN ws1, sNil, v20) ⟨hphi.refill, hmem, Nat.le_of_lt (smu_refill hmem)⟩ (by repeat (first | exact Sub.nil | refine Sub.cons rfl ?_)) (by repeat (first | exact List.Sublist.refl _ | exact List.nil_sublist _ | refine List.Sublist.cons_cons _ ?_ | refine List.Sublist.cons _ ?_))
        · have p2 := h2
          try simp only [decide_eq_true_eq, decide_eq_false_iff_not, Int.not_lt, Int.not_le, Bool.not_eq_true', Bool.not_eq_false', Decidable.not_not, Bool.and_eq_true, Bool.or_eq_true, Bool.and_eq_false_iff, Bool.or_eq_false_iff] at p2
          refine T.skip ?_
          exact K.atX (q1, ws1, v1) ⟨hphi, fun hh => p2 (by rw [show q1 = [] from hh]; rfl), Nat.le_refl _⟩ (by repeat (first | exact Sub.nil | refine Sub.cons rfl ?_)) (by repeat (first | exact List.Sublist.refl _ | exact List.nil_sublist _ | refine List.Sublist.cons_cons _ ?_ | refine List.Sublist.cons _ ?_))
      · skip
        intro y hphi
        obtain ⟨q2, ws2, v2⟩ := y
        dsimp only at hphi ⊢
        obtain ⟨hinv2, hq2, hmu2⟩ := hphi
        obtain ⟨i, r, rfl⟩ : ∃ i r, q2 = i :: r := by cases q2 with | nil => exact absurd rfl hq2 | cons a b => exact ⟨a, b, rfl⟩
        have hws8 := hinv2.ws8
        have hi : i < Y.n := hinv2.qn i (by simp)
        have hl1 := hinv2.len
        have hr511 : r.length ≤ 511 := by have := hinv2.q512; simp at this; omega
        have hstep := hinv2.step hok
        have hsmu := smu_step (Y := Y) (L := L1) (i := i) (q := r) (ws := ws2) (by omega) hr511
        refine T.quForm 4 rfl ?_
        rintro gq oq capq rfl hcq
        refine T.seq ?_
        refine T.region ?_
        refine TL.yv (Wt.none rfl) rfl rfl (Yv.pur rfl) ?_
        refine TL.yv (Wt.none rfl) rfl rfl (Yv.indexSl rfl rfl rfl (show (0 : Int) = ((0 : Nat) : Int) from rfl) (by omega)) ?_
        refine TL.yv (Wt.none rfl) rfl rfl (Yv.loadQ 4 rfl rfl rfl (by omega)) ?_
        refine TL.yv (Wt.none rfl) rfl rfl (Yv.pur rfl) ?_
        refine TL.nil ?_
        refine K.seq ?_
        refine T.seq ?_
        refine T.region ?_
        refine TL.yv (Wt.none rfl) rfl rfl (Yv.pur rfl) ?_
        refine TL.yv (Wt.none rfl) rfl rfl (Yv.pur rfl) ?_
        refine TL.yv (Wt.none rfl) rfl rfl (Yv.lenSl rfl rfl) ?_
        refine TL.yv (Wt.none rfl) rfl rfl (Yv.pur rfl) ?_
        refine TL.yv (Wt.none rfl) rfl rfl (Yv.lenSl rfl rfl) ?_
        refine TL.yv (Wt.none rfl) rfl rfl (Yv.slice1 rfl rfl rfl rfl rfl hcq) ?_
        refine TL.yv (Wt.none rfl) rfl rfl (Yv.pur rfl) ?_
        refine TL.nil ?_
        refine K.seq ?_
        refine T.seq ?_
        have hld0 : (Ws.cells L1)[0 + i * 1]? = some (U (nth L1 i)) := Ws.get (by omega) (by omega)
        refine T.region ?_
        refine TL.conv 4 _ (Ent.qu (sl1 gq oq r.length) r) rfl (fun w hh => qu_pop hh) (fun g hg => by rw [sl1_own (Ent.qu_fp.1 hg)]; exact Ent.qu_fp.2 rfl) ?_
        refine TL.yv (Wt.none rfl) rfl rfl (Yv.pur rfl) ?_
        refine TL.yv (Wt.none rfl) rfl rfl (Yv.pur rfl) ?_
        refine TL.yv (Wt.none rfl) rfl rfl (Yv.fieldAddr rfl rfl) ?_
        refine TL.yv (Wt.none rfl) rfl rfl (Yv.loadO 2 rfl rfl rfl rfl) ?_
        refine TL.yv (Wt.none rfl) rfl rfl (Yv.pur rfl) ?_
        refine TL.yv (Wt.none rfl) rfl rfl (Yv.indexSl rfl rfl rfl rfl (by omega)) ?_
        refine TL.yv (Wt.none rfl) rfl rfl (Yv.loadS 3 rfl rfl rfl hld0) ?_
        refine TL.yv (Wt.none rfl) rfl rfl (Yv.pur rfl) ?_
        refine TL.nil ?_
        refine K.seq ?_
        refine T.cut (gs := [(0, .pointer (some ⟨sp, 0, none⟩)), (4, .pointer (some ⟨g4, 0, none⟩)), (5, .pointer (some ⟨g5, 0, none⟩)), (1, sl1 gq oq r.length), (6, .int .i64 (i : Int)), (7, U (nth L1 i))]) (hs' := [.row g5 127 (Ws.cells ws2), .row g4 137 ruleFs, sRow sp gl tp Y.n false, sLeft gl Y.n (rulesL Y L1 i 3), Ent.qu (sl1 gq oq r.length) r]) ?_ ?_
        · skip
          refine T.seq ?_
          refine T.region ?_
          refine TL.yv (Wt.none rfl) rfl rfl (Yv.loadAO 1 rfl rfl rfl rfl) ?_
          refine TL.yv (Wt.none rfl) rfl rfl (Yv.pur rfl) ?_
          refine TL.nil ?_
          refine K.seq ?_
          refine T.block ?_
          refine T.loop (ι := Nat) (fun k => [(0, .pointer (some ⟨sp, 0, none⟩)), (4, .pointer (some ⟨g4, 0, none⟩)), (5, .pointer (some ⟨g5, 0, none⟩)), (1, sl1 gq oq r.length), (6, .int .i64 (i : Int)), (7, U (nth L1 i)), (41, .agg ruleFs.toArray), (42, .int .i64 (k : Int))]) (fun k => [.row g5 127 (Ws.cells ws2), .row g4 137 ruleFs, sRow sp gl tp Y.n false, sLeft gl Y.n (rulesL Y L1 i k), Ent.qu (sl1 gq oq r.length) r]) (fun k => k ≤ 3) (fun k => 3 - k) 0 ?_ ?_ ?_ ?_
          · omega
          · exact (by repeat (first | exact Sub.nil | refine Sub.cons rfl ?_))
          · exact (by repeat (first | exact List.Sublist.refl _ | exact List.nil_sublist _ | refine List.Sublist.cons_cons _ ?_ | refine List.Sublist.cons _ ?_))
          · intro k hphi
            refine T.seq ?_
            refine T.region ?_
            refine TL.yv (Wt.none rfl) rfl rfl (Yv.pur rfl) ?_
            refine TL.nil ?_
            refine K.seq ?_
            refine T.seq ?_
            refine T.cond rfl (fun h4 => ?_) (fun h4 => ?_)
            · have p4 := h4
              try simp only [decide_eq_true_eq, decide_eq_false_iff_not, Int.not_lt, Int.not_le, Bool.not_eq_true', Bool.not_eq_false', Decidable.not_not, Bool.and_eq_true, Bool.or_eq_true, Bool.and_eq_false_iff, Bool.or_eq_false_iff] at p4
              have hrl := rulesL_len (Y := Y) (L := L1) (i := i) k
              have hld : (Ws.cells (rulesL Y L1 i k))[0 + i * 1]? = some (U (nth (rulesL Y L1 i k) i)) := Ws.get (by omega) (by omega)
              have hrid := rid_at (k := k) (by omega)
              refine T.skip ?_
              refine K.seq ?_
              refine T.seq ?_
              refine T.block ?_
              refine T.seq ?_
              refine T.region ?_
              refine TL.yv (Wt.none rfl) rfl rfl (Yv.indexS rfl rfl rfl rfl (by omega) hrid) ?_
              refine TL.yv (Wt.none rfl) rfl rfl (Yv.pur rfl) ?_
              refine TL.nil ?_
              refine K.seq ?_
              refine T.seq ?_
              refine T.seq ?_
              refine T.region ?_
              refine TL.yv (Wt.none rfl) rfl rfl (Yv.pur rfl) ?_
              refine TL.yv (Wt.none rfl) rfl rfl (Yv.pur rfl) ?_
              refine TL.yv (Wt.none rfl) rfl rfl (Yv.fieldAddr rfl rfl) ?_
              refine TL.yv (Wt.none rfl) rfl rfl (Yv.loadO 2 rfl rfl rfl rfl) ?_
              refine TL.yv (Wt.none rfl) rfl rfl (Yv.pur rfl) ?_
              refine TL.yv (Wt.none rfl) rfl rfl (Yv.indexSl rfl rfl rfl rfl (by omega)) ?_
              refine TL.yv (Wt.none rfl) rfl rfl (Yv.loadS 3 rfl rfl rfl hld) ?_
              refine TL.yv (Wt.none rfl) rfl rfl (Yv.pur rfl) ?_
              refine TL.nil ?_
              refine K.seq ?_
              refine T.cond rfl (fun h5 => ?_) (fun h5 => ?_)
              · have p5 := h5
                try simp only [decide_eq_true_eq, decide_eq_false_iff_not, Int.not_lt, Int.not_le, Bool.not_eq_true', Bool.not_eq_false', Decidable.not_not, Bool.and_eq_true, Bool.or_eq_true, Bool.and_eq_false_iff, Bool.or_eq_false_iff] at p5
                have hfin : SPost Y L (rulesL Y L1 i k) true := ⟨rulesL_reach hinv2.reach hi k, by omega, fun _ => ⟨i, hi, BitVec.eq_of_toNat_eq (by show _ = 0; omega)⟩, fun hh => by cases hh⟩
                refine T.seq ?_
                refine T.region ?_
                refine TL.yv (Wt.none rfl) rfl rfl (Yv.pur rfl) ?_
                refine TL.yv (Wt.none rfl) rfl rfl (Yv.pur rfl) ?_
                refine TL.yv (Wt.none rfl) rfl rfl (Yv.fieldAddr rfl rfl) ?_
                (refine TL.ew0 (Wt.none rfl) rfl (Ew.store1 2 rfl rfl rfl rfl (by first | omega | simp)) ?_; rintro _ _ ⟨rfl, rfl⟩)
                refine TL.nil ?_
                refine K.seq ?_
                refine T.exit ?_
                refine K.then_exit ?_
                refine K.blk_exit_ne rfl ?_
                refine K.then_exit ?_
                refine K.then_exit ?_
                refine K.blk_exit_ne rfl ?_
                refine K.then_exit ?_
                refine K.blk_exit_ne rfl ?_
                refine K.then_exit ?_
                refine K.blk_exit_eq ?_
                refine K.sc_normal ?_
                exact K.end0 rfl (fun w' hw => ⟨(_, _), hfin, rfl, hw.sub (by repeat (first | exact List.Sublist.refl _ | exact List.nil_sublist _ | refine List.Sublist.cons_cons _ ?_ | refine List.Sublist.cons _ ?_))⟩)
              · have p5 := h5
                try simp only [decide_eq_true_eq, decide_eq_false_iff_not, Int.not_lt, Int.not_le, Bool.not_eq_true', Bool.not_eq_false', Decidable.not_not, Bool.and_eq_true, Bool.or_eq_true, Bool.and_eq_false_iff, Bool.or_eq_false_iff] at p5
                refine T.skip ?_
                refine K.seq ?_
                refine T.draw (.still 0 (.still 1 (.still 2 (.still 3 (.still 4 (.still 5 (.still 7 (.still 8 (.still 9 (.two 6 10 (.eff 10 (.still 11 (.still 12 (.eff 13 .done)))) (.eff 6 (.still 11 (.still 12 (.eff 13 .done)))))))))))))) (List.eraseIdx _ 3) (by kernel_rfl) (List.eraseIdx_sublist _ _) ?_
                refine TS.still rfl (Wt.none rfl) rfl rfl (Yv.pur rfl) ?_
                refine TS.still rfl (Wt.none rfl) rfl rfl (Yv.pur rfl) ?_
                refine TS.still rfl (Wt.none rfl) rfl rfl (Yv.fieldAddr rfl rfl) ?_
                refine TS.still rfl (Wt.none rfl) rfl rfl (Yv.loadO 2 rfl rfl rfl rfl) ?_
                refine TS.still rfl (Wt.none rfl) rfl rfl (Yv.pur rfl) ?_
                refine TS.still rfl (Wt.none rfl) rfl rfl (Yv.indexSl rfl rfl rfl rfl (by omega)) ?_
                refine TS.still rfl (Wt.none rfl) rfl rfl (Yv.pur rfl) ?_
                refine TS.still rfl (Wt.none rfl) rfl rfl (Yv.pur rfl) ?_
                refine TS.still rfl (Wt.none rfl) rfl rfl (Yv.pur rfl) ?_
                refine TS.two ?_ ?_
                · skip
                  refine TSo.yv rfl (Wt.none rfl) rfl rfl (Yv.loadS 3 rfl rfl rfl hld) (by repeat (first | exact List.Sublist.refl _ | exact List.nil_sublist _ | refine List.Sublist.cons_cons _ ?_ | refine List.Sublist.cons _ ?_)) ?_
                  refine TS.eff ?_
                  (refine TSo.ew rfl (Wt.none rfl) rfl rfl (Ew.callD rfl rfl rfl (fun w hw => rule_ret sp Y (rulesL Y L1 i k) false i _ rfl hi w (StF.of hw ht (Fz.hp hfr hw hMN) (htab.kept hw hM0) 2 3 rfl rfl (by omega)).st hok k (by omega))) ?_; rintro _ _ ⟨rfl, rfl⟩; refine ⟨(by repeat (first | exact List.Sublist.refl _ | exact List.nil_sublist _ | refine List.Sublist.cons_cons _ ?_ | refine List.Sublist.cons _ ?_)), ?_⟩)
                  refine TS.still rfl (Wt.none rfl) rfl rfl (Yv.andNotV rfl rfl rfl) ?_
                  refine TS.still rfl (Wt.none rfl) rfl rfl (Yv.indexSl rfl rfl rfl rfl (by omega)) ?_
                  refine TS.eff ?_
                  (refine TSo.ew0 rfl (Wt.none rfl) rfl (Ew.storeSE 3 (Ws.cells (rulesL Y L1 i (k + 1))) rfl rfl rfl rfl (by rw [List.length_map]; omega) (set_cells (by omega))) ?_; rintro _ _ ⟨rfl, rfl⟩; refine ⟨(by repeat (first | exact List.Sublist.refl _ | exact List.nil_sublist _ | refine List.Sublist.cons_cons _ ?_ | refine List.Sublist.cons _ ?_)), ?_⟩)
                  refine TS.done ?_
                  refine K.blk_normal ?_
                  refine K.seq ?_
                  refine T.region ?_
                  refine TL.yv (Wt.none rfl) rfl rfl (Yv.addI rfl rfl rfl (by omega)) ?_
                  refine TL.yv (Wt.none rfl) rfl rfl (Yv.pur rfl) ?_
                  refine TL.nil ?_
                  exact K.next (k + 1) (by omega) (by omega) (by repeat (first | exact Sub.nil | refine Sub.cons rfl ?_)) (by repeat (first | exact List.Sublist.refl _ | exact List.nil_sublist _ | refine List.Sublist.cons_cons _ ?_ | refine List.Sublist.cons _ ?_))
                · skip
                  (refine TSo.ew rfl (Wt.none rfl) rfl rfl (Ew.callD rfl rfl rfl (fun w hw => rule_ret sp Y (rulesL Y L1 i k) false i _ rfl hi w (StF.of hw ht (Fz.hp hfr hw hMN) (htab.kept hw hM0) 2 3 rfl rfl (by omega)).st hok k (by omega))) ?_; rintro _ _ ⟨rfl, rfl⟩; refine ⟨(by repeat (first | exact List.Sublist.refl _ | exact List.nil_sublist _ | refine List.Sublist.cons_cons _ ?_ | refine List.Sublist.cons _ ?_)), ?_⟩)
                  refine TS.eff ?_
                  refine TSo.yv rfl (Wt.none rfl) rfl rfl (Yv.loadS 3 rfl rfl rfl hld) (by repeat (first | exact List.Sublist.refl _ | exact List.nil_sublist _ | refine List.Sublist.cons_cons _ ?_ | refine List.Sublist.cons _ ?_)) ?_
                  refine TS.still rfl (Wt.none rfl) rfl rfl (Yv.andNotV rfl rfl rfl) ?_
                  refine TS.still rfl (Wt.none rfl) rfl rfl (Yv.indexSl rfl rfl rfl rfl (by omega)) ?_
                  refine TS.eff ?_
                  (refine TSo.ew0 rfl (Wt.none rfl) rfl (Ew.storeSE 3 (Ws.cells (rulesL Y L1 i (k + 1))) rfl rfl rfl rfl (by rw [List.length_map]; omega) (set_cells (by omega))) ?_; rintro _ _ ⟨rfl, rfl⟩; refine ⟨(by repeat (first | exact List.Sublist.refl _ | exact List.nil_sublist _ | refine List.Sublist.cons_cons _ ?_ | refine List.Sublist.cons _ ?_)), ?_⟩)
                  refine TS.done ?_
                  refine K.blk_normal ?_
                  refine K.seq ?_
                  refine T.region ?_
                  refine TL.yv (Wt.none rfl) rfl rfl (Yv.addI rfl rfl rfl (by omega)) ?_
                  refine TL.yv (Wt.none rfl) rfl rfl (Yv.pur rfl) ?_
                  refine TL.nil ?_
                  exact K.next (k + 1) (by omega) (by omega) (by repeat (first | exact Sub.nil | refine Sub.cons rfl ?_)) (by repeat (first | exact List.Sublist.refl _ | exact List.nil_sublist _ | refine List.Sublist.cons_cons _ ?_ | refine List.Sublist.cons _ ?_))
            · have p4 := h4
              try simp only [decide_eq_true_eq, decide_eq_false_iff_not, Int.not_lt, Int.not_le, Bool.not_eq_true', Bool.not_eq_false', Decidable.not_not, Bool.and_eq_true, Bool.or_eq_true, Bool.and_eq_false_iff, Bool.or_eq_false_iff] at p4
              refine T.exit ?_
              refine K.then_exit ?_
              refine K.then_exit ?_
              refine K.blk_exit_eq ?_
              exact K.at (by repeat (first | exact Sub.nil | refine Sub.cons rfl ?_)) (by rw [show 3 = k by omega]; exact (by repeat (first | exact List.Sublist.refl _ | exact List.nil_sublist _ | refine List.Sublist.cons_cons _ ?_ | refine List.Sublist.cons _ ?_)))
        · skip
          refine T.cut (gs := [(0, .pointer (some ⟨sp, 0, none⟩)), (4, .pointer (some ⟨g4, 0, none⟩)), (5, .pointer (some ⟨g5, 0, none⟩)), (1, sl1 gq oq r.length), (6, .int .i64 (i : Int)), (7, U (nth L1 i))]) (hs' := [.row g5 127 (Ws.cells ws2), .row g4 137 ruleFs, sRow sp gl tp Y.n (decide (nth (rulesL Y L1 i 3) i = 0#64)), sLeft gl Y.n (rulesL Y L1 i 3), Ent.qu (sl1 gq oq r.length) r]) ?_ ?_
          · skip
            refine T.seq ?_
            have hrl3 := rulesL_len (Y := Y) (L := L1) (i := i) 3
            have hld3 : (Ws.cells (rulesL Y L1 i 3))[0 + i * 1]? = some (U (nth (rulesL Y L1 i 3) i)) := Ws.get (by omega) (by omega)
            refine T.region ?_
            refine TL.yv (Wt.none rfl) rfl rfl (Yv.pur rfl) ?_
            refine TL.yv (Wt.none rfl) rfl rfl (Yv.pur rfl) ?_
            refine TL.yv (Wt.none rfl) rfl rfl (Yv.fieldAddr rfl rfl) ?_
            refine TL.yv (Wt.none rfl) rfl rfl (Yv.loadO 2 rfl rfl rfl rfl) ?_
            refine TL.yv (Wt.none rfl) rfl rfl (Yv.pur rfl) ?_
            refine TL.yv (Wt.none rfl) rfl rfl (Yv.indexSl rfl rfl rfl rfl (by omega)) ?_
            refine TL.yv (Wt.none rfl) rfl rfl (Yv.loadS 3 rfl rfl rfl hld3) ?_
            refine TL.yv (Wt.none rfl) rfl rfl (Yv.pur rfl) ?_
            refine TL.nil ?_
            refine K.seq ?_
            refine T.cond rfl (fun h6 => ?_) (fun h6 => ?_)
            · have p6 := h6
              try simp only [decide_eq_true_eq, decide_eq_false_iff_not, Int.not_lt, Int.not_le, Bool.not_eq_true', Bool.not_eq_false', Decidable.not_not, Bool.and_eq_true, Bool.or_eq_true, Bool.and_eq_false_iff, Bool.or_eq_false_iff] at p6
              have hz3 : nth (rulesL Y L1 i 3) i = 0#64 := BitVec.eq_of_toNat_eq (by show _ = 0; omega)
              refine T.region ?_
              refine TL.yv (Wt.none rfl) rfl rfl (Yv.pur rfl) ?_
              refine TL.yv (Wt.none rfl) rfl rfl (Yv.pur rfl) ?_
              refine TL.yv (Wt.none rfl) rfl rfl (Yv.fieldAddr rfl rfl) ?_
              (refine TL.ew0 (Wt.none rfl) rfl (Ew.store1 2 rfl rfl rfl rfl (by first | omega | simp)) ?_; rintro _ _ ⟨rfl, rfl⟩)
              refine TL.nil ?_
              (rw [decide_eq_true hz3]; exact K.at (by repeat (first | exact Sub.nil | refine Sub.cons rfl ?_)) (by repeat (first | exact List.Sublist.refl _ | exact List.nil_sublist _ | refine List.Sublist.cons_cons _ ?_ | refine List.Sublist.cons _ ?_)))
            · have p6 := h6
              try simp only [decide_eq_true_eq, decide_eq_false_iff_not, Int.not_lt, Int.not_le, Bool.not_eq_true', Bool.not_eq_false', Decidable.not_not, Bool.and_eq_true, Bool.or_eq_true, Bool.and_eq_false_iff, Bool.or_eq_false_iff] at p6
              have hz3n : ¬ nth (rulesL Y L1 i 3) i = 0#64 := fun hh => by rename_i hh2; exact (by assumption : ¬ ((nth (rulesL Y L1 i 3) i).toNat : Int) = 0) (by rw [hh]; rfl)
              refine T.skip ?_
              (rw [decide_eq_false hz3n]; exact K.at (by repeat (first | exact Sub.nil | refine Sub.cons rfl ?_)) (by repeat (first | exact List.Sublist.refl _ | exact List.nil_sublist _ | refine List.Sublist.cons_cons _ ?_ | refine List.Sublist.cons _ ?_)))
          · skip
            refine T.seq ?_
            have hrl3 := rulesL_len (Y := Y) (L := L1) (i := i) 3
            have hld3 : (Ws.cells (rulesL Y L1 i 3))[0 + i * 1]? = some (U (nth (rulesL Y L1 i 3) i)) := Ws.get (by omega) (by omega)
            refine T.region ?_
            refine TL.yv (Wt.none rfl) rfl rfl (Yv.pur rfl) ?_
            refine TL.yv (Wt.none rfl) rfl rfl (Yv.pur rfl) ?_
            refine TL.yv (Wt.none rfl) rfl rfl (Yv.fieldAddr rfl rfl) ?_
            refine TL.yv (Wt.none rfl) rfl rfl (Yv.loadO 2 rfl rfl rfl rfl) ?_
            refine TL.yv (Wt.none rfl) rfl rfl (Yv.pur rfl) ?_
            refine TL.yv (Wt.none rfl) rfl rfl (Yv.indexSl rfl rfl rfl rfl (by omega)) ?_
            refine TL.yv (Wt.none rfl) rfl rfl (Yv.loadS 3 rfl rfl rfl hld3) ?_
            refine TL.yv (Wt.none rfl) rfl rfl (Yv.pur rfl) ?_
            refine TL.yv (Wt.none rfl) rfl rfl (Yv.pur rfl) ?_
            refine TL.nil ?_
            refine K.seq ?_
            refine T.cond rfl (fun h7 => ?_) (fun h7 => ?_)
            · have p7 := h7
              try simp only [decide_eq_true_eq, decide_eq_false_iff_not, Int.not_lt, Int.not_le, Bool.not_eq_true', Bool.not_eq_false', Decidable.not_not, Bool.and_eq_true, Bool.or_eq_true, Bool.and_eq_false_iff, Bool.or_eq_false_iff] at p7
              have hch : ¬ nth (rulesL Y L1 i 3) i = nth L1 i := fun hh => (by assumption : ¬ ((nth (rulesL Y L1 i 3) i).toNat : Int) = ((nth L1 i).toNat : Int)) (by rw [hh])
              refine T.region ?_
              refine TL.yv (Wt.none rfl) rfl rfl (Yv.pur rfl) ?_
              refine TL.yv (Wt.none rfl) rfl rfl (Yv.pur rfl) ?_
              (refine TL.ew (Wt.none rfl) rfl rfl (Ew.callM 0 rfl rfl rfl rfl (fun w hw => touch_ret w0 sp gl tp g5 Y (rulesL Y L1 i 3) _ ws2 hws8 i _ rfl hi w (StF.of hw ht (Fz.hp hfr hw hMN) (htab.kept hw hM0) 2 3 rfl rfl (by omega)) hok (by rcases hw.new _ (List.mem_of_getElem? (i := 0) rfl) g5 (Ent.row_fp.2 rfl) with hh | hh; exact hMN _ hh; exact (fun hc => by have h9 := hfr _ hc; obtain ⟨_, _, _, h8⟩ := hc; rw [h8] at h9; have := (Array.getElem?_eq_some_iff.1 h9).1; omega)) (by intro hz0; subst hz0; rcases hw.new _ (List.mem_of_getElem? (i := 0) rfl) 0 (Ent.row_fp.2 rfl) with hh | hh; exact hM0 hh; have := htab.size; omega) (fun hh => hw.ne (i := 0) (j := 2) (by omega) rfl rfl (g := g5) (Ent.row_fp.2 rfl) (Ent.row_fp.2 hh.symm)) (fun hh => hw.ne (i := 0) (j := 3) (by omega) rfl rfl (g := g5) (Ent.row_fp.2 rfl) (Ent.sl_fp.2 (by rw [hh]; rfl))) (hw.get (i := 0) rfl))) ?_; rintro _ _ ⟨-, -, rfl, rfl⟩)
              refine TL.nil ?_
              refine K.blk_normal ?_
              exact K.next (rulesL Y L1 i 3, r, (if nth (rulesL Y L1 i 3) i = nth L1 i then ws2 else touchF Y (rulesL Y L1 i 3) i ws2), decide (nth (rulesL Y L1 i 3) i = 0#64), sl1 gq oq r.length) hstep (by dsimp only; omega) (by repeat (first | exact Sub.nil | refine Sub.cons rfl ?_)) (by dsimp only; first | (rw [if_neg hch]; exact (by repeat (first | exact List.Sublist.refl _ | exact List.nil_sublist _ | refine List.Sublist.cons_cons _ ?_ | refine List.Sublist.cons _ ?_))) | (rw [if_pos hsm]; exact (by repeat (first | exact List.Sublist.refl _ | exact List.nil_sublist _ | refine List.Sublist.cons_cons _ ?_ | refine List.Sublist.cons _ ?_))))
            · have p7 := h7
              try simp only [decide_eq_true_eq, decide_eq_false_iff_not, Int.not_lt, Int.not_le, Bool.not_eq_true', Bool.not_eq_false', Decidable.not_not, Bool.and_eq_true, Bool.or_eq_true, Bool.and_eq_false_iff, Bool.or_eq_false_iff] at p7
              have hsm : nth (rulesL Y L1 i 3) i = nth L1 i := BitVec.eq_of_toNat_eq (by omega)
              refine T.skip ?_
              refine K.blk_normal ?_
              exact K.next (rulesL Y L1 i 3, r, (if nth (rulesL Y L1 i 3) i = nth L1 i then ws2 else touchF Y (rulesL Y L1 i 3) i ws2), decide (nth (rulesL Y L1 i 3) i = 0#64), sl1 gq oq r.length) hstep (by dsimp only; omega) (by repeat (first | exact Sub.nil | refine Sub.cons rfl ?_)) (by dsimp only; first | (rw [if_neg hch]; exact (by repeat (first | exact List.Sublist.refl _ | exact List.nil_sublist _ | refine List.Sublist.cons_cons _ ?_ | refine List.Sublist.cons _ ?_))) | (rw [if_pos hsm]; exact (by repeat (first | exact List.Sublist.refl _ | exact List.nil_sublist _ | refine List.Sublist.cons_cons _ ?_ | refine List.Sublist.cons _ ?_))))
    · have p1 := h1
      try simp only [decide_eq_true_eq, decide_eq_false_iff_not, Int.not_lt, Int.not_le, Bool.not_eq_true', Bool.not_eq_false', Decidable.not_not, Bool.and_eq_true, Bool.or_eq_true, Bool.and_eq_false_iff, Bool.or_eq_false_iff] at p1
      obtain rfl : c1 = true := by simpa using p1
      have hfin : SPost Y L L1 true := ⟨hphi.reach, hphi.len, hphi.bad, fun hh => by cases hh⟩
      refine T.exit ?_
      refine K.then_exit ?_
      refine K.then_exit ?_
      refine K.blk_exit_eq ?_
      refine K.sc_normal ?_
      exact K.end0 rfl (fun w' hw => ⟨(_, _), hfin, rfl, hw.sub (by repeat (first | exact List.Sublist.refl _ | exact List.nil_sublist _ | refine List.Sublist.cons_cons _ ?_ | refine List.Sublist.cons _ ?_))⟩)
end Go.Proofs.YtljgejbmimapdaaDoor
