/- Owned slices that are written; calls that take what they own. -/
import Derived.Test.YtljgejbmimapdaaDoorTg
set_option linter.unusedVariables false
set_option linter.unusedSectionVars false
set_option linter.unusedSimpArgs false
namespace Go.Proofs.YtljgejbmimapdaaDoor
open Go.RowKit
instance (k : Nat) (v : Value) [h : OneC v] : OneCs (List.replicate k v) := ⟨fun x hx => by rw [(List.mem_replicate.1 hx).2]; exact h.h⟩
section
variable {F : Fence} [hF : Calm F] {P : Program} {n : Nat} {B D : World} {M : Nat → Prop} {Q : Exit → Act → World → Prop} {fs : SFs} {hs : HS} {ops : Array Oper} {rest : List Oper} {o : Oper} {v : Value}
theorem Hp.start {w : World} {e : Ent} (h : e.ok w) : Hp w e.fp [e] w :=
  ⟨rfl, rfl, rfl, Nat.le_refl _, fun _ _ _ => rfl, fun x hx => by simp at hx; subst hx; exact h, fun x hx g hg => by simp at hx; subst hx; exact .inl hg, List.pairwise_singleton _ _⟩
/-- A call that takes an entry and gives another in its place. -/
theorem Ew.callM (i : Nat) {ι : Type} {e : Ent} {φ : ι → Prop} {val : ι → Value} {es : ι → Ent} {hs' : ι → HS} {c : Operand} {xs : Array Operand} {ts : Array TypeId} {f : FuncId} {vs : List Value} [hE : Enters P f] (ho : o.op = .call { callee := .value c, args := xs, argTypes := ts }) (hc : ev fs c = some (.func (.func f) #[] #[])) (hv : evs fs xs.toList = some vs) (hi : hs[i]? = some e)
    (C : ∀ w, Hp B M hs w → Calls P f vs.toArray w (fun x w' => ∃ y, φ y ∧ x = .returned (val y) ∧ Hp w e.fp [es y] w')) [hH : ∀ y, SetAt hs i (es y) (hs' y)] : Ew P n B M fs hs o (fun v' hs'' => ∃ y, φ y ∧ v' = val y ∧ hs'' = hs' y) :=
  Ew.callX ho hc hv fun w hp => (C w hp).mono fun x w' ⟨y, hy, he, hk⟩ => ⟨val y, hs' y, he, Kp.only hk.only (fun g hg c => e.nd (hp.get hi) g hg c), by
    rw [← (hH y).h]
    exact hp.updAt hi hk.only (fun g _ hg => hg) (hk.own _ (by simp)) (fun g hg => hk.new _ (by simp) g hg), y, hy, rfl, rfl⟩
theorem Yv.lenE (i : Nat) {t e e' : TypeId} {k size len : Nat} {l : List Value} {x : Operand} {sv : Value} [hT : TySl P t e k] (ho : o.op = .call { callee := .builtin .len, args := #[x], argTypes := #[t] }) (hx : ev fs x = some sv) (hi : hs[i]? = some (.sl sv e' size len l)) : Yv P n B M fs hs o (.int .i64 (len : Int)) := fun a w ha hw => by
  rcases (Ent.sl_ok.1 (hw.get hi)).2 with ⟨rfl, h0⟩ | ⟨g, cap, _, rfl, _⟩
  · subst h0; exact Yv.lenSl (P := P) (B := B) (M := M) (hs := hs) (n := n) ho hx a w ha hw
  · exact Yv.lenSl (P := P) (B := B) (M := M) (hs := hs) (n := n) ho hx a w ha hw
theorem take_splice {l m : List Value} {p N : Nat} (h : p + m.length ≤ N) : (l.take p ++ m ++ l.drop (p + m.length)).take N = (l.take N).take p ++ m ++ (l.take N).drop (p + m.length) := by
  rcases Nat.lt_or_ge l.length p with hl | hl
  · have e1 : l.take p = l := List.take_of_length_le (by omega)
    have e2 : l.drop (p + m.length) = [] := List.drop_of_length_le (by omega)
    have e3 : l.take N = l := List.take_of_length_le (by omega)
    rw [e2, e3, e1, e2]
    exact List.take_of_length_le (by simp; omega)
  · rw [List.take_append, List.take_of_length_le (by simp; omega), List.take_take, Nat.min_eq_left (by omega), List.drop_take]
    simp
    rw [Nat.min_eq_left hl]
theorem Hp.spliceS {w : World} (hp : Hp B M hs w) {i g k cap size p : Nat} {e : TypeId} {l m : List Value} (hi : hs[i]? = some (.sl (.slice (some ⟨g, 0, none⟩) k cap) e size k l)) (hl : p + m.length ≤ l.length) :
    ∃ cur : List Value, w.heap[g]? = some (.cells cur.toArray e (0, 0)) ∧ p + m.length ≤ cur.length ∧ Hp B M (hs.set i (.sl (.slice (some ⟨g, 0, none⟩) k cap) e size k (l.take p ++ m ++ l.drop (p + m.length)))) (w.setRow g (cur.take p ++ m ++ cur.drop (p + m.length)).toArray) := by
  have h := Ent.sl_ok.1 (hp.get hi)
  rcases h.2 with ⟨h', _⟩ | ⟨g', cap', cur, h', hb, hg, hnc, hcm, hcs, htake⟩
  · simp at h'
  · simp only [Value.slice.injEq, Option.some.injEq, Addr.mk.injEq, and_true, true_and] at h'
    obtain ⟨rfl, rfl⟩ := h'
    have hlen : l.length ≤ cur.toList.length := by rw [← htake]; simp; omega
    have h1 := h.1
    refine ⟨cur.toList, by simpa using hg, by omega, hp.updAt hi (only_setRow w g _) (fun k _ hk => Ent.sl_fp.2 (by rw [hk]; rfl)) (Ent.sl_ok.2 ⟨by simp; omega, .inr ⟨g, cap, _, rfl, hb, setRow_heap w g _ _ e _ hg, hnc, hcm, ?_, ?_⟩⟩) (fun k hk => .inl (Ent.sl_fp.2 (Ent.sl_fp.1 hk)))⟩
    · simp at hlen ⊢; omega
    · rw [List.toList_toArray, take_splice (by omega), htake]
theorem Ew.storeS (i : Nat) {t e : TypeId} [hT : TyS P t] {x y : Operand} {g p k cap size : Nat} {l : List Value} {hs' : HS} {val : Value} [hv : OneC val] (ho : o.op = .store t x y) (hx : ev fs x = some (.pointer (some ⟨g, p, none⟩))) (hy : ev fs y = some val)
    (hi : hs[i]? = some (.sl (.slice (some ⟨g, 0, none⟩) k cap) e size k l)) (hp : p < l.length) [hH : SetAt hs i (.sl (.slice (some ⟨g, 0, none⟩) k cap) e size k (l.set p val)) hs'] : Ew P n B M fs hs o (fun v hs'' => v = undef ∧ hs'' = hs') := Ew.of_skip fun a w ha hw => by
  obtain ⟨cur, h1, h2, h3⟩ := hw.spliceS (m := [val]) (p := p) hi (by simp; omega)
  have h := run_storeV (P := P) (w := w) hT.h ho (ha.ev hx) (ha.ev hy) (m := [val]) hv.cells rfl (by simpa using hv.h) h1 h2
  refine ⟨_, _, h, kp_setRow h1 _, ?_, rfl, rfl⟩
  rw [← hH.h, ← set_splice l p val hp]
  exact h3
theorem Ew.storeSA (i : Nat) {t e : TypeId} {q : Nat} [hT : TyA P t q] {x y : Operand} {g p k cap size : Nat} {l m : List Value} {hs' : HS} [hv : OneCs m] (ho : o.op = .store t x y) (hx : ev fs x = some (.pointer (some ⟨g, p, none⟩))) (hy : ev fs y = some (.agg m.toArray))
    (hi : hs[i]? = some (.sl (.slice (some ⟨g, 0, none⟩) k cap) e size k l)) (hk : m.length = q) (hp : p + m.length ≤ l.length) [hH : SetAt hs i (.sl (.slice (some ⟨g, 0, none⟩) k cap) e size k (l.take p ++ m ++ l.drop (p + m.length))) hs'] : Ew P n B M fs hs o (fun v hs'' => v = undef ∧ hs'' = hs') := Ew.of_skip fun a w ha hw => by
  obtain ⟨cur, h1, h2, h3⟩ := hw.spliceS (m := m) hi hp
  have h := run_storeV (P := P) (w := w) hT.h ho (ha.ev hx) (ha.ev hy) (m := m) rfl hk hv.h h1 h2
  refine ⟨_, _, h, kp_setRow h1 _, ?_, rfl, rfl⟩
  rw [← hH.h]
  exact h3
theorem Yv.addK {x y : Operand} {t u : TypeId} {k : IntKind} {a b : Int} (ho : o.op = .binOp .add t x y u) (hx : ev fs x = some (.int k a)) (hy : ev fs y = some (.int k b)) (hr : k.wrap (a + b) = a + b) : Yv P n B M fs hs o (.int k (a + b)) :=
  (Yv.pur (v := .int k (k.wrap (a + b))) (by rw [ho]; simp only [pureV, hx, hy]; cases k <;> rfl)).eq (by rw [hr])
/-- A slice literal of one part that fills it. -/
theorem Ew.buildSlice1 {t e : TypeId} {size bytes : Nat} {x : Operand} {z m : List Value} [hT : TyE P t e size bytes z] (ho : o.op = .buildSlice t 1 #[(0, x)]) (hv : ev fs x = some (.agg m.toArray)) (hm : m.length = size)
    (hbig : size ≤ 16777216) : Ew P n B M fs hs o (fun v hs' => ∃ g, v = .slice (some ⟨g, 0, none⟩) 1 1 ∧ hs' = .row g e m :: hs) := Ew.of_val fun a w ha hp => by
  obtain ⟨i, zv, hU, hi, hz, hzc, rfl, rfl, hzs, hpos⟩ := hT.get
  have hne : ¬ i.size = 0 := by omega
  refine ⟨_, _, _, ?_, Kp.alloc w _, hp.allocRow e m, w.heap.size, rfl, rfl⟩
  have hf := foldl_set m 0 0 ((Array.range i.size).map fun j => z.toArray[j % z.toArray.size]!) (by simp; omega)
  have e1 : (m.toArray.zipIdx.foldl (fun (cs : Array Value) (p : Value × Nat) => cs.setIfInBounds (0 + p.2) p.1) ((Array.range i.size).map fun j => z.toArray[j % z.toArray.size]!)) = m.toArray := by
    have e2 : ((Array.range i.size).map fun j => z.toArray[j % z.toArray.size]!).toList.drop (0 + 0 + m.length) = [] := List.drop_of_length_le (by simp; omega)
    rw [e2] at hf
    simpa using hf
  have hfill : Instr.fill (fun j => some (j * i.size, i.size)) ((Array.range i.size).map fun j => z.toArray[j % z.toArray.size]!) [(0, Value.agg m.toArray)] = some m.toArray := by
    unfold Instr.fill
    simp only [Nat.zero_mul, Value.cells]
    rw [if_neg (by simp; omega), e1]
    rfl
  unfold execOp
  simp at hfill
  simp [ho, Instr.buildSlice, underlying, hU, sizeOf, typeInfo, hi, show ¬ 16777216 < i.size by omega, hne, zeroValue, hz, hzc, ha.ev hv, hfill, newRow]
end
end Go.Proofs.YtljgejbmimapdaaDoor
