/- Words of 64 bits: the operations, by BitVec. -/
import Derived.Test.YtljgejbmimapdaaDoorTh
import Derived.Laws.Bits64
import Derived.Lib.TrailingZeros
import Derived.Scope
set_option linter.unusedVariables false
set_option linter.unusedSectionVars false
set_option linter.unusedSimpArgs false
namespace Go.Proofs.YtljgejbmimapdaaDoor
open Go.RowKit
/-- A word. -/
abbrev U (b : BitVec 64) : Value := .int .u64 (b.toNat : Int)
theorem wrapU (b : BitVec 64) : IntKind.u64.wrap (b.toNat : Int) = (b.toNat : Int) := by
  rw [IntKind.wrap_u64]; have := b.isLt; omega
theorem ofIntU (b : BitVec 64) : BitVec.ofInt 64 (b.toNat : Int) = b := by
  rw [BitVec.ofInt_natCast]; simp
theorem U.one (b : BitVec 64) : OneC (U b) := inferInstance
section
variable {P : Program} {n : Nat} {B D : World} {M : Nat → Prop} {fs : SFs} {hs : HS} {o : Oper} {v : Value}
theorem intBits_run {op : BinOp} {a b r : BitVec 64} (h : (op = .and ∧ r = a &&& b) ∨ (op = .or ∧ r = a ||| b) ∨ (op = .xor ∧ r = a ^^^ b) ∨ (op = .andNot ∧ r = a &&& ~~~b)) (t : TypeId) (w : World) : (binOp op t (U a) (U b)).run P w = .ok (U r) w := by
  rcases h with ⟨rfl, rfl⟩ | ⟨rfl, rfl⟩ | ⟨rfl, rfl⟩ | ⟨rfl, rfl⟩
  · have e : (binOp .and t (U a) (U b)).run P w = .ok (.int .u64 (IntKind.u64.wrap ((BitVec.ofInt 64 (a.toNat : Int) &&& BitVec.ofInt 64 (b.toNat : Int)).toNat : Int))) w := rfl
    rw [e, ofIntU, ofIntU, wrapU]
  · have e : (binOp .or t (U a) (U b)).run P w = .ok (.int .u64 (IntKind.u64.wrap ((BitVec.ofInt 64 (a.toNat : Int) ||| BitVec.ofInt 64 (b.toNat : Int)).toNat : Int))) w := rfl
    rw [e, ofIntU, ofIntU, wrapU]
  · have e : (binOp .xor t (U a) (U b)).run P w = .ok (.int .u64 (IntKind.u64.wrap ((BitVec.ofInt 64 (a.toNat : Int) ^^^ BitVec.ofInt 64 (b.toNat : Int)).toNat : Int))) w := rfl
    rw [e, ofIntU, ofIntU, wrapU]
  · have e : (binOp .andNot t (U a) (U b)).run P w = .ok (.int .u64 (IntKind.u64.wrap ((BitVec.ofInt 64 (a.toNat : Int) &&& ~~~(BitVec.ofInt 64 (b.toNat : Int))).toNat : Int))) w := rfl
    rw [e, ofIntU, ofIntU, wrapU]
theorem Yv.bitsV {op : BinOp} {x y : Operand} {t u : TypeId} {a b r : BitVec 64} (h : (op = .and ∧ r = a &&& b) ∨ (op = .or ∧ r = a ||| b) ∨ (op = .xor ∧ r = a ^^^ b) ∨ (op = .andNot ∧ r = a &&& ~~~b)) (ho : o.op = .binOp op t x y u) (hx : ev fs x = some (U a)) (hy : ev fs y = some (U b)) : Yv P n B M fs hs o (U r) := fun f w ha _ => by
  have hr := intBits_run (P := P) h t w
  have hg : (eqGuard op t x y (U a) (U b)).run P w = .ok () w := by rcases h with ⟨rfl, rfl⟩ | ⟨rfl, rfl⟩ | ⟨rfl, rfl⟩ | ⟨rfl, rfl⟩ <;> rfl
  unfold execOp
  simp only [ho, ha.ev hx, ha.ev hy]
  rw [Sem.run_bind, Sem.run_bind, hg]
  simp only [Result.andThen, hr]
  rfl
theorem Yv.andV {x y : Operand} {t u : TypeId} {a b : BitVec 64} (ho : o.op = .binOp .and t x y u) (hx : ev fs x = some (U a)) (hy : ev fs y = some (U b)) : Yv P n B M fs hs o (U (a &&& b)) := Yv.bitsV (.inl ⟨rfl, rfl⟩) ho hx hy
theorem Yv.orV {x y : Operand} {t u : TypeId} {a b : BitVec 64} (ho : o.op = .binOp .or t x y u) (hx : ev fs x = some (U a)) (hy : ev fs y = some (U b)) : Yv P n B M fs hs o (U (a ||| b)) := Yv.bitsV (.inr (.inl ⟨rfl, rfl⟩)) ho hx hy
theorem Yv.andNotV {x y : Operand} {t u : TypeId} {a b : BitVec 64} (ho : o.op = .binOp .andNot t x y u) (hx : ev fs x = some (U a)) (hy : ev fs y = some (U b)) : Yv P n B M fs hs o (U (a &&& ~~~b)) := Yv.bitsV (.inr (.inr (.inr ⟨rfl, rfl⟩))) ho hx hy
theorem Yv.shlV {x y : Operand} {t u : TypeId} {a : BitVec 64} {q : IntKind} {z : Int} (i : Nat) (ho : o.op = .binOp .shl t x y u) (hx : ev fs x = some (U a)) (hy : ev fs y = some (.int q z)) (hz : z = (i : Int)) (hi : i < 64) : Yv P n B M fs hs o (U (a <<< i)) := fun f w ha _ => by
  subst hz
  have hr : (binOp .shl t (U a) (.int q (i : Int))).run P w = .ok (U (a <<< i)) w := by
    show (Op.shift .shl .u64 (a.toNat : Int) q (i : Int)).run P w = _
    unfold Op.shift
    rw [if_neg (by omega)]
    have e : min (i : Int).toNat IntKind.u64.bits = i := by show min (i : Int).toNat 64 = i; omega
    simp only [e]
    show Result.ok _ _ = _
    congr 2
    rw [IntKind.wrap_u64, BitVec.toNat_shiftLeft, Nat.shiftLeft_eq, Int.natCast_emod, Int.natCast_mul, Int.natCast_pow]
    rfl
  unfold execOp
  simp only [ho, ha.ev hx, ha.ev hy]
  rw [Sem.run_bind, Sem.run_bind, show (eqGuard .shl t x y (U a) (.int q (i : Int))).run P w = .ok () w from rfl]
  simp only [Result.andThen, hr]
  rfl
theorem Yv.shrV {x y : Operand} {t u : TypeId} {a : BitVec 64} {q : IntKind} {z : Int} (i : Nat) (ho : o.op = .binOp .shr t x y u) (hx : ev fs x = some (U a)) (hy : ev fs y = some (.int q z)) (hz : z = (i : Int)) (hi : i < 64) : Yv P n B M fs hs o (U (a >>> i)) := fun f w ha _ => by
  subst hz
  have hr : (binOp .shr t (U a) (.int q (i : Int))).run P w = .ok (U (a >>> i)) w := by
    show (Op.shift .shr .u64 (a.toNat : Int) q (i : Int)).run P w = _
    unfold Op.shift
    rw [if_neg (by omega)]
    have e : min (i : Int).toNat IntKind.u64.bits = i := by show min (i : Int).toNat 64 = i; omega
    simp only [e]
    show Result.ok _ _ = _
    congr 2
    rw [Int.fdiv_eq_ediv_of_nonneg _ (by exact Int.le_of_lt (Int.pow_pos (by decide))), BitVec.toNat_ushiftRight, Nat.shiftRight_eq_div_pow]
    norm_cast
  unfold execOp
  simp only [ho, ha.ev hx, ha.ev hy]
  rw [Sem.run_bind, Sem.run_bind, show (eqGuard .shr t x y (U a) (.int q (i : Int))).run P w = .ok () w from rfl]
  simp only [Result.andThen, hr]
  rfl
theorem Yv.subV {x y : Operand} {t u : TypeId} {a b : BitVec 64} (ho : o.op = .binOp .sub t x y u) (hx : ev fs x = some (U a)) (hy : ev fs y = some (U b)) : Yv P n B M fs hs o (U (a - b)) :=
  (Yv.pur (v := .int .u64 (IntKind.u64.wrap ((a.toNat : Int) - (b.toNat : Int)))) (by rw [ho]; simp only [pureV, hx, hy]; rfl)).eq (by
    congr 1
    rw [IntKind.wrap_u64, BitVec.toNat_sub]
    have := a.isLt; have := b.isLt
    omega)
theorem Yv.complV {x : Operand} {t : TypeId} {a : BitVec 64} (ho : o.op = .unOp .xor t x) (hx : ev fs x = some (U a)) : Yv P n B M fs hs o (U (~~~a)) := fun f w ha _ => by
  have hr : (Op.unary .xor (U a)).run P w = .ok (U (~~~a)) w := by
    have e : (Op.unary .xor (U a)).run P w = .ok (.int .u64 (IntKind.u64.wrap ((BitVec.ofInt 64 (IntKind.u64.max) ^^^ BitVec.ofInt 64 (a.toNat : Int)).toNat : Int))) w := rfl
    rw [e, ofIntU, show BitVec.ofInt 64 IntKind.u64.max = BitVec.allOnes 64 from by decide, BitVec.allOnes_xor, wrapU]
  unfold execOp
  simp only [ho, ha.ev hx]
  rw [Sem.run_bind, hr]
  rfl
end
section
variable {P : Program} {n : Nat} {B D : World} {M : Nat → Prop} {fs : SFs} {hs : HS} {o : Oper} {v : Value}
/-- A store into an owned row, at a place that is not written out; l' is what the row becomes. -/
theorem Ew.storeR (i : Nat) {t u : TypeId} [hT : TyS P t] {x y : Operand} {g p : Nat} {l : List Value} {hs' : HS} {val : Value} [hv : OneC val] (l' : List Value) (ho : o.op = .store t x y) (hx : ev fs x = some (.pointer (some ⟨g, p, none⟩))) (hy : ev fs y = some val)
    (hi : hs[i]? = some (.row g u l)) (hp : p < l.length) (hl : l.set p val = l') [hH : SetAt hs i (.row g u l') hs'] : Ew P n B M fs hs o (fun v hs'' => v = undef ∧ hs'' = hs') := by
  haveI : SetAt l p val l' := ⟨hl⟩
  exact Ew.store1 i ho hx hy hi hp
theorem Ew.storeSE (i : Nat) {t e : TypeId} [hT : TyS P t] {x y : Operand} {g p k cap size : Nat} {l : List Value} {hs' : HS} {val : Value} [hv : OneC val] (l' : List Value) (ho : o.op = .store t x y) (hx : ev fs x = some (.pointer (some ⟨g, p, none⟩))) (hy : ev fs y = some val)
    (hi : hs[i]? = some (.sl (.slice (some ⟨g, 0, none⟩) k cap) e size k l)) (hp : p < l.length) (hl : l.set p val = l') [hH : SetAt hs i (.sl (.slice (some ⟨g, 0, none⟩) k cap) e size k l') hs'] : Ew P n B M fs hs o (fun v hs'' => v = undef ∧ hs'' = hs') := by
  subst hl
  exact Ew.storeS i ho hx hy hi hp
end
theorem U_one (b : BitVec 64) : OneC (U b) := inferInstance
instance (ws : List (BitVec 64)) : OneCs (ws.map fun b => U b) := ⟨fun x hx => by obtain ⟨b, _, rfl⟩ := List.mem_map.1 hx; rfl⟩
section
variable {P : Program} {n : Nat} {B D : World} {M : Nat → Prop} {fs : SFs} {hs : HS} {o : Oper} {v : Value}
theorem Yv.addV {x y : Operand} {t u : TypeId} {a b : BitVec 64} (ho : o.op = .binOp .add t x y u) (hx : ev fs x = some (U a)) (hy : ev fs y = some (U b)) : Yv P n B M fs hs o (U (a + b)) :=
  (Yv.pur (v := .int .u64 (IntKind.u64.wrap ((a.toNat : Int) + (b.toNat : Int)))) (by rw [ho]; simp only [pureV, hx, hy]; rfl)).eq (by
    rw [show IntKind.u64.wrap ((a.toNat : Int) + (b.toNat : Int)) = ((a + b).toNat : Int) from by rw [IntKind.wrap_u64, BitVec.toNat_add]; omega])
theorem Yv.mulV {x y : Operand} {t u : TypeId} {a b : BitVec 64} (ho : o.op = .binOp .mul t x y u) (hx : ev fs x = some (U a)) (hy : ev fs y = some (U b)) : Yv P n B M fs hs o (U (a * b)) :=
  (Yv.pur (v := .int .u64 (IntKind.u64.wrap ((a.toNat : Int) * (b.toNat : Int)))) (by rw [ho]; simp only [pureV, hx, hy]; rfl)).eq (by
    rw [show IntKind.u64.wrap ((a.toNat : Int) * (b.toNat : Int)) = ((a * b).toNat : Int) from by rw [IntKind.wrap_u64, BitVec.toNat_mul, Int.natCast_emod, Int.natCast_mul]; rfl])
theorem Yv.negV {x : Operand} {t : TypeId} {a : BitVec 64} (ho : o.op = .unOp .neg t x) (hx : ev fs x = some (U a)) : Yv P n B M fs hs o (U (-a)) := fun f w ha _ => by
  have hr : (Op.unary .neg (U a)).run P w = .ok (U (-a)) w := by
    have e : (Op.unary .neg (U a)).run P w = .ok (.int .u64 (IntKind.u64.wrap (0 - (a.toNat : Int)))) w := rfl
    rw [e]
    congr 2
    rw [IntKind.wrap_u64, BitVec.toNat_neg]
    have := a.isLt
    omega
  unfold execOp
  simp only [ho, ha.ev hx]
  rw [Sem.run_bind, hr]
  rfl
theorem Yv.convW {s t : TypeId} {k k' : IntKind} {z : Int} {x : Operand} [hS : TyI P s k'] [hT : TyI P t k] (ho : o.op = .convert s t x) (hx : ev fs x = some (.int k' z)) (hz : k.wrap z = z) : Yv P n B M fs hs o (.int k z) := Yv.convI ho hx hz
theorem Ew.makeSlice0 {t e : TypeId} {size bytes c : Nat} {z : List Value} {x y : Operand} {q q' : IntKind} {yi : Int} [hT : TyE P t e size bytes z] (ho : o.op = .makeSlice t x y) (hx : ev fs x = some (.int q 0)) (hy : ev fs y = some (.int q' yi)) (hyi : yi = (c : Int)) (hk : c ≤ 9223372036854775807) (hb : bytes * c ≤ 281474976710656) :
    Ew P n B M fs hs o (fun v hs' => ∃ g, v = .slice (some ⟨g, 0, none⟩) 0 c ∧ hs' = .sl (.slice (some ⟨g, 0, none⟩) 0 c) e size 0 [] :: hs) := Ew.of_val fun a w ha hp => by
  obtain ⟨inf, zv, hU, hinf, hz, hzc, rfl, rfl, hzs, hpos⟩ := hT.get
  subst hyi
  obtain ⟨w', hr, hown, hgr⟩ := run_make_own (P := P) w 0 t e inf zv inf.size hU hinf hz rfl q q' c hb (by unfold maxLen; omega) (Nat.zero_le _)
  refine ⟨_, w', _, ?_, Kp.only (only_grown hgr) (fun g hg => by cases hg), hp.fresh ⟨hgr.os, hgr.tape, hgr.output, hgr.size, fun k hk => hgr.block k hk (by simp)⟩ (Ent.sl_ok.2 hown) (fun p hp => ?_), w.heap.size, rfl, rfl⟩
  · unfold execOp
    simp [ho, ha.ev hx, ha.ev hy, hr]
  · have := Ent.sl_fp.1 hp
    simp [Value.ownBlock] at this
    omega
end
/-! ### Counting trailing zeros: the table of math/bits -/
/-- The table lies in the first package-level variable. -/
def Tab (w : World) : Prop := ∀ j, j < 64 → w.cell? ⟨0, j, none⟩ = some (.int .u8 (Lib.deBruijn64tab.getD j 0 : Nat))
theorem Tab.kept {B w : World} {M : Nat → Prop} {hs : HS} (hw : Hp B M hs w) (h : Tab B) (hM : ¬ M 0) : Tab w := fun j hj => hw.cellB (h j hj) hM
theorem Tab.keptF {B w : World} {hs : HS} (hw : Hp B (fun _ => False) hs w) (h : Tab B) : Tab w := h.kept hw (fun h => h)
theorem Tab.size {w : World} (h : Tab w) : 0 < w.heap.size := cell_lt (h 0 (by decide))
def ctz (a : BitVec 64) : Nat := Lib.ctz 64 a.toNat
theorem ctz_spec {a : BitVec 64} (ha : a ≠ 0#64) : ∃ m, a.toNat = 2 ^ ctz a * (2 * m + 1) ∧ ctz a < 64 := by
  have h0 : a.toNat ≠ 0 := fun h => ha (BitVec.eq_of_toNat_eq (by simpa using h))
  have := Lib.ctzFrom_spec 64 a.toNat (by omega) a.isLt
  unfold ctz Lib.ctz
  rw [if_neg h0]
  exact this
theorem ctz_lt {a : BitVec 64} (ha : a ≠ 0#64) : ctz a < 64 := by obtain ⟨m, _, h⟩ := ctz_spec ha; exact h
theorem tz_idx {a : BitVec 64} (ha : a ≠ 0#64) : (((a &&& -a) * 285870213051353865#64) >>> 58).toNat = 2 ^ ctz a * 285870213051353865 % 18446744073709551616 / 288230376151711744 := by
  have h0 : a.toNat ≠ 0 := fun h => ha (BitVec.eq_of_toNat_eq (by simpa using h))
  have hl := (Lib.lowest_bit 64 a.toNat h0 a.isLt).1
  have hlt := a.isLt
  rw [BitVec.toNat_ushiftRight, BitVec.toNat_mul, BitVec.toNat_and, BitVec.toNat_neg, Nat.mod_eq_of_lt (show 2 ^ 64 - a.toNat < 2 ^ 64 by omega), hl, Nat.shiftRight_eq_div_pow]
  rfl
theorem tz_tab {a : BitVec 64} (ha : a ≠ 0#64) : (((a &&& -a) * 285870213051353865#64) >>> 58).toNat < 64 ∧ Lib.deBruijn64tab.getD (((a &&& -a) * 285870213051353865#64) >>> 58).toNat 0 = ctz a := by
  rw [tz_idx ha]; exact Lib.deBruijn64_at _ (ctz_lt ha)
theorem ctz_bit {a : BitVec 64} (ha : a ≠ 0#64) (j : Nat) : (a.getLsbD (ctz a) = true) ∧ (j < ctz a → a.getLsbD j = false) := by
  obtain ⟨m, he, hlt⟩ := ctz_spec ha
  have hb : ∀ j, a.getLsbD j = (2 ^ ctz a * (2 * m + 1)).testBit j := fun j => by rw [← he]; rfl
  constructor
  · rw [hb, Nat.testBit_two_pow_mul]; simp
  · intro hj
    rw [hb, Nat.testBit_two_pow_mul]; simp; omega
theorem low_off {a : BitVec 64} (ha : a ≠ 0#64) (j : Nat) : (a &&& (a - 1#64)).getLsbD j = (a.getLsbD j && !decide (j = ctz a)) := by
  obtain ⟨m, he, hlt⟩ := ctz_spec ha
  have hb : ∀ j, a.getLsbD j = (2 ^ ctz a * (2 * m + 1)).testBit j := fun j => by rw [← he]; rfl
  have h2 : (2 ^ ctz a : Nat) > 0 := Nat.two_pow_pos _
  have hs : (a - 1#64).toNat = 2 ^ ctz a * (2 * m) + (2 ^ ctz a - 1) := by
    rw [BitVec.toNat_sub]
    have := a.isLt
    have e : 2 ^ ctz a * (2 * m + 1) = 2 ^ ctz a * (2 * m) + 2 ^ ctz a := by rw [Nat.mul_add, Nat.mul_one]
    rw [e] at he
    simp only [BitVec.toNat_ofNat]
    omega
  have hb2 : (a - 1#64).getLsbD j = (2 ^ ctz a * (2 * m) + (2 ^ ctz a - 1)).testBit j := by rw [← hs]; rfl
  rw [BitVec.getLsbD_and, hb2, hb j, Nat.testBit_two_pow_mul_add _ (by omega), Nat.testBit_two_pow_mul]
  by_cases h1 : j < ctz a
  · rw [if_pos h1, decide_eq_false (show ¬ ctz a ≤ j by omega)]; simp
  · rw [if_neg h1, decide_eq_true (show ctz a ≤ j by omega)]
    simp only [Bool.true_and]
    by_cases h3 : j = ctz a
    · subst h3; simp
    · rw [decide_eq_false h3, Bool.not_false, Bool.and_true]
      obtain ⟨i, hi⟩ : ∃ i, j - ctz a = i + 1 := ⟨j - ctz a - 1, by omega⟩
      rw [hi, Nat.testBit_succ, Nat.testBit_succ, show 2 * m / 2 = m by omega, show (2 * m + 1) / 2 = m by omega, Bool.and_self]
/-! ### Scopes, labels -/
section
variable {F : Fence} {P : Program} {b : Frame} {a : Act} {k : List Item} {cs : List Frame} {w : World} {Q : Exit → Act → World → Prop} {n : Nat}
theorem stepR_scope {c : Code} : step P (lone (b.atR a (.code (.scope c) :: k)) cs w) = .next (lone (b.atR a (.code c :: .inScope c :: k)) cs w) := step_lone_go (by simp [stepG, stepG.exec, Frame.atR])
theorem stepR_inScope {c : Code} : step P (lone (b.atR a (.inScope c :: k)) cs w) = .next (lone (b.atR a k) cs w) := step_lone_go (by simp [stepG, stepG.exec, Frame.atR])
theorem wpIn_scope {c : Code} (h : c.wpIn F n P (Exit.noGoto Q) a w) : (Code.scope c).wpIn F n P Q a w := by
  intro b k cs hro hb hr
  have h0 : (lone (b.atR a (.code (.scope c) :: k)) cs w).fenced P F := fenced_calm hb hr rfl
  obtain ⟨e, a₁, w₁, hq, harr⟩ := h b (.inScope c :: k) cs hro hb hr
  cases e with
  | normal => exact ⟨.normal, a₁, w₁, hq, .head h0 stepR_scope (StepsIn.trans harr (.one (fenced_calm hb hr rfl) stepR_inScope))⟩
  | exit id' =>
    have hx : exitTo id' (.inScope c :: k) = exitTo id' k := by simp [exitTo]
    exact ⟨.exit id', a₁, w₁, hq, fun k' hk => .head h0 stepR_scope (harr.1 k' (by rw [hx]; exact hk)),
        fun hr' hk => let ⟨k₁, h1, h2⟩ := harr.2 hr' (by rw [hx]; exact hk); ⟨k₁, h1, .head h0 stepR_scope h2⟩⟩
  | goto l => exact hq.elim
  | ret => exact ⟨_, a₁, w₁, hq, .of_steps (.one h0 stepR_scope) harr⟩
  | panic ch => exact ⟨_, a₁, w₁, hq, .of_steps (.one h0 stepR_scope) harr⟩
  | outgrown => exact ⟨_, a₁, w₁, hq, .of_steps (.one h0 stepR_scope) harr⟩
end
section
variable {F : Fence} {P : Program} {n : Nat} {B D : World} {M : Nat → Prop} {Q : Exit → Act → World → Prop} {fs : SFs} {hs : HS} {c : Code} {id : Nat}
theorem T.scope (h : T F P n B D M c (Exit.noGoto Q) fs hs) : T F P n B D M (.scope c) Q fs hs := ⟨fun a w ha hw hm => wpIn_scope (h.out a w ha hw hm)⟩
theorem T.label {l : Nat} (h : K n B D M Q .normal fs hs) : T F P n B D M (.label l) Q fs hs := ⟨fun a w ha hw hm => wpIn_label (h.out a w ha hw hm)⟩
theorem K.sc_normal (h : K n B D M Q .normal fs hs) : K n B D M (Exit.noGoto Q) .normal fs hs := ⟨fun a w ha hw hm => h.out a w ha hw hm⟩
theorem K.sc_ret (h : K n B D M Q .ret fs hs) : K n B D M (Exit.noGoto Q) .ret fs hs := ⟨fun a w ha hw hm => h.out a w ha hw hm⟩
theorem K.sc_exit (h : K n B D M Q (.exit id) fs hs) : K n B D M (Exit.noGoto Q) (.exit id) fs hs := ⟨fun a w ha hw hm => h.out a w ha hw hm⟩
instance (Q : Exit → Act → World → Prop) [h : NP Q] : NP (Exit.noGoto Q) := ⟨fun c a d v w k => h.h c a d v w k⟩
end
/-! ### Calls that take entries -/
section
variable {P : Program} {n : Nat} {B D : World} {M : Nat → Prop} {fs : SFs} {hs : HS} {o : Oper} {v : Value}
/-- A call of a closure that takes an entry and gives another in its place. -/
theorem Ew.callMC (i : Nat) {ι : Type} {e : Ent} {φ : ι → Prop} {val : ι → Value} {es : ι → Ent} {hs' : ι → HS} {c : Operand} {xs : Array Operand} {ts : Array TypeId} {f : FuncId} {caps : Array Value} {x : Value} [hE : Enters P f] (ho : o.op = .call { callee := .value c, args := xs, argTypes := ts }) (hc : ev fs c = some (.func (.func f) #[] caps)) (hv : evs fs xs.toList = some [x]) (hi : hs[i]? = some e)
    (C : ∀ w, Hp B M hs w → Calls P f (x :: caps.toList).toArray w (fun x w' => ∃ y, φ y ∧ x = .returned (val y) ∧ Hp w e.fp [es y] w')) [hH : ∀ y, SetAt hs i (es y) (hs' y)] : Ew P n B M fs hs o (fun v' hs'' => ∃ y, φ y ∧ v' = val y ∧ hs'' = hs' y) :=
  Ew.call ho hc hv fun w hp => by
    have := C w hp
    simp only [List.nil_append, List.singleton_append]
    exact this.mono fun x w' ⟨y, hy, he, hk⟩ => ⟨val y, hs' y, he, Kp.only hk.only (fun g hg c => e.nd (hp.get hi) g hg c), by
      rw [← (hH y).h]
      exact hp.updAt hi hk.only (fun g _ hg => hg) (hk.own _ (by simp)) (fun g hg => hk.new _ (by simp) g hg), y, hy, rfl, rfl⟩
/-- The blocks of entries. -/
def fps (es : HS) (g : Nat) : Prop := ∃ e ∈ es, e.fp g
theorem Hp.startL {w : World} {es : HS} (h : ∀ e ∈ es, e.ok w) (hap : es.Pairwise fun e f => ∀ g, e.fp g → ¬ f.fp g) : Hp w (fps es) es w :=
  ⟨rfl, rfl, rfl, Nat.le_refl _, fun _ _ _ => rfl, h, fun e he g hg => .inl ⟨e, he, hg⟩, hap⟩
/-- A call that takes entries and gives others in their place. -/
theorem Ew.callL (es rest : HS) {ι : Type} {φ : ι → Prop} {val : ι → Value} {es' : ι → HS} {c : Operand} {xs : Array Operand} {ts : Array TypeId} {f : FuncId} {vs : List Value} [hE : Enters P f] (ho : o.op = .call { callee := .value c, args := xs, argTypes := ts }) (hc : ev fs c = some (.func (.func f) #[] #[])) (hv : evs fs xs.toList = some vs) (hp : hs.Perm (es ++ rest))
    (C : ∀ w, Hp B M hs w → Hp B M (es ++ rest) w → Calls P f vs.toArray w (fun x w' => ∃ y, φ y ∧ x = .returned (val y) ∧ Hp w (fps es) (es' y) w')) : Ew P n B M fs hs o (fun v' hs'' => ∃ y, φ y ∧ v' = val y ∧ hs'' = es' y ++ rest) :=
  Ew.callX ho hc hv fun w hw => (C w hw (hw.perm hp)).mono fun x w' ⟨y, hy, he, hk⟩ => ⟨val y, es' y ++ rest, he, Kp.only hk.only (fun g hg c => by
      obtain ⟨e, h1, h2⟩ := hg
      exact e.nd ((hw.perm hp).own e (List.mem_append_left _ h1)) g h2 c), Hp.go (es := es) (hw.perm hp) hk.only (fun g _ hg => hg) hk.own (fun e he g hg => hk.new e he g hg) hk.apart, y, hy, rfl, rfl⟩
theorem Hp.ne {w : World} {i j : Nat} {e f : Ent} (h : Hp B M hs w) (hij : i < j) (hi : hs[i]? = some e) (hj : hs[j]? = some f) {g : Nat} (he : e.fp g) : ¬ f.fp g := by
  obtain ⟨h1, rfl⟩ := List.getElem?_eq_some_iff.1 hi
  obtain ⟨h2, rfl⟩ := List.getElem?_eq_some_iff.1 hj
  exact List.pairwise_iff_getElem.1 h.apart i j h1 h2 hij g he
end
theorem U_eq0 (a : BitVec 64) : decide ((a.toNat : Int) = 0) = decide (a = 0#64) := by
  congr 1
  simp only [eq_iff_iff]
  constructor
  · intro h; exact BitVec.eq_of_toNat_eq (by simpa using h)
  · rintro rfl; rfl
end Go.Proofs.YtljgejbmimapdaaDoor
