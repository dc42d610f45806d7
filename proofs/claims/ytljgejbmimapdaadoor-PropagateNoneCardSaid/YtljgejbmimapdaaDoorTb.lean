/- Operations that yield a value and leave the world: arithmetic, addresses, loads. -/
import Derived.Test.YtljgejbmimapdaaDoorTa
import Derived.IntWalk
set_option linter.unusedVariables false
set_option linter.unusedSectionVars false
set_option linter.unusedSimpArgs false
namespace Go.Proofs.YtljgejbmimapdaaDoor
open Go.RowKit

/-! ### Facts on types, found by class resolution -/
def tyAgg (P : Program) (t : TypeId) : Option (Bool × Nat) :=
  match P.underlying t, P.info? t with
  | some d, some i => some ((match d with | .struct _ | .array _ _ => true | _ => false), i.size)
  | _, _ => none
class TyA (P : Program) (t : TypeId) (n : outParam Nat) : Prop where
  h : tyAgg P t = some (true, n)
class TyS (P : Program) (t : TypeId) : Prop where
  h : tyAgg P t = some (false, 1)
def tyZero (P : Program) (t : TypeId) : Option (Array Value) := ((P.info? t).bind (·.zero)).map (·.cells)
class TyZ (P : Program) (t : TypeId) (z : outParam (List Value)) : Prop where
  h : tyZero P t = some z.toArray
def tyField (P : Program) (s : TypeId) (f : Nat) : Option Nat :=
  match P.underlying s with
  | some (.struct fs) => match fs[f]? with
    | some fl => match P.info? fl.type with
      | some i => if i.size = 0 then none else some fl.offset
      | none => none
    | none => none
  | _ => none
class TyF (P : Program) (s : TypeId) (f : Nat) (off : outParam Nat) : Prop where
  h : tyField P s f = some off
def tySlice (P : Program) (t : TypeId) : Option (TypeId × Nat) :=
  match P.underlying t with
  | some (.slice e) => (P.info? e).map fun i => (e, i.size)
  | _ => none
class TySl (P : Program) (t : TypeId) (e : outParam TypeId) (n : outParam Nat) : Prop where
  h : tySlice P t = some (e, n)
def tyArr (P : Program) (t : TypeId) : Option (Nat × TypeId × Nat) :=
  match P.underlying t with
  | some (.array k e) => (P.info? e).map fun i => (k, e, i.size)
  | _ => none
class TyAr (P : Program) (t : TypeId) (k : outParam Nat) (e : outParam TypeId) (n : outParam Nat) : Prop where
  h : tyArr P t = some (k, e, n)
def tyInt (P : Program) (t : TypeId) : Option IntKind :=
  match P.underlying t with
  | some (.int k) => some k
  | _ => none
class TyI (P : Program) (t : TypeId) (k : outParam IntKind) : Prop where
  h : tyInt P t = some k
/-- A struct's field by value: is it an aggregate, its offset, its size. -/
def tyPart (P : Program) (s : TypeId) (f : Nat) : Option (Bool × Nat × Nat) :=
  match P.underlying s with
  | some (.struct fs) => match fs[f]? with
    | some fl => (tyAgg P fl.type).map fun p => (p.1, fl.offset, p.2)
    | none => none
  | _ => none
class TyP (P : Program) (s : TypeId) (f : Nat) (ag : outParam Bool) (off : outParam Nat) (n : outParam Nat) : Prop where
  h : tyPart P s f = some (ag, off, n)

section
variable {F : Fence} [hF : Calm F] {P : Program} {n : Nat} {B D : World} {M : Nat → Prop} {Q : Exit → Act → World → Prop} {fs : SFs} {hs : HS} {ops : Array Oper} {rest : List Oper} {o : Oper} {v : Value}
theorem tyAgg_run {t : TypeId} {b : Bool} {k : Nat} (h : tyAgg P t = some (b, k)) (w : World) : (isAgg t).run P w = .ok b w ∧ (sizeOf t).run P w = .ok k w := by
  unfold tyAgg at h
  split at h
  · rename_i d i h1 h2
    simp at h
    obtain ⟨rfl, rfl⟩ := h
    constructor
    · simp only [isAgg, underlying, Sem.run_bind, run_program, Result.andThen_ok, h1, Sem.run_pure]
      cases d <;> rfl
    · simp [sizeOf, typeInfo, h2]
  · cases h

/-- In these states the operation yields v and leaves the world. -/
def Yv (P : Program) (n : Nat) (B : World) (M : Nat → Prop) (fs : SFs) (hs : HS) (o : Oper) (v : Value) : Prop := ∀ a w, Fr n fs a → Hp B M hs w → (execOp a.eval o).run P w = .ok (.value v) w
/-- The operation's guard lets it run, or does not. -/
def Wt (n : Nat) (ops : Array Oper) (fs : SFs) (o : Oper) (b : Bool) : Prop := ∀ a, Fr n fs a → Region.wanted o (yielded ops a.tmps) = b
theorem Wt.none (h : o.guard = none) : Wt n ops fs o true := fun a _ => by simp [Region.wanted, h]
theorem Wt.some {j d : Nat} {want b : Bool} (h : o.guard = some (j, want)) (hd : (ops[j]?).bind (·.dst) = some d) (hl : look fs d = some (.bool b)) (hb : b = want) : Wt n ops fs o true := fun a ha => by
  simp [Region.wanted, h, yielded, hd, ha.get d _ hl, hb]
theorem Wt.not {j d : Nat} {want b : Bool} (h : o.guard = Option.some (j, want)) (hd : (ops[j]?).bind (·.dst) = Option.some d) (hl : look fs d = Option.some (.bool b)) (hb : b = !want) : Wt n ops fs o false := fun a ha => by
  subst hb
  cases want <;> simp [Region.wanted, h, yielded, hd, ha.get d _ hl]
theorem Wt.undef {j d : Nat} {want : Bool} (h : o.guard = Option.some (j, want)) (hd : (ops[j]?).bind (·.dst) = Option.some d) (hl : look fs d = Option.some undef) : Wt n ops fs o false := fun a ha => by
  simp [Region.wanted, h, yielded, hd, ha.get d _ hl, Go.undef]
theorem nd_value {ρ : Operand → Value} {w w' : World} (h : (execOp ρ o).run P w = .ok (.value v) w') : ∀ c, o.op ≠ .defer c := fun c e => by
  unfold execOp at h
  simp only [e, Sem.run_bind] at h
  cases hr : (resolve ρ c o.type).run P w <;> rw [hr] at h <;> simp at h
theorem nd_skip {ρ : Operand → Value} {w w' : World} (h : (execOp ρ o).run P w = .ok .skip w') : ∀ c, o.op ≠ .defer c := fun c e => by
  unfold execOp at h
  simp only [e, Sem.run_bind] at h
  cases hr : (resolve ρ c o.type).run P w <;> rw [hr] at h <;> simp at h
theorem nd_enter {ρ : Operand → Value} {w w' : World} {f : FuncId} {args : Array Value} (h : (execOp ρ o).run P w = .ok (.enter f args) w') : ∀ c, o.op ≠ .defer c := fun c e => by
  unfold execOp at h
  simp only [e, Sem.run_bind] at h
  cases hr : (resolve ρ c o.type).run P w <;> rw [hr] at h <;> simp at h
theorem TL.yv {d : Nat} (hw : Wt n ops fs o true) (hd : o.dst = some d) (hb : Nat.blt d n = true) (h : Yv P n B M fs hs o v) (k : TL F P n B D M ops Q rest ((d, v) :: fs) hs) : TL F P n B D M ops Q (o :: rest) fs hs :=
  ⟨fun a w ha hp hm => wpListIn_step fun K hK => by
    rw [if_pos (hw a ha)]
    refine wpInC (nd_value (h a w ha hp)) ?_
    rw [h a w ha hp, Oper.uponIn_value, hd]
    exact hK _ _ (k.out _ w (ha.put hb v) hp (hm.put _ _))⟩
theorem TL.off {d : Nat} (hw : Wt n ops fs o false) (hd : o.dst = some d) (hb : Nat.blt d n = true) (k : TL F P n B D M ops Q rest ((d, undef) :: fs) hs) : TL F P n B D M ops Q (o :: rest) fs hs :=
  ⟨fun a w ha hp hm => wpListIn_step fun K hK => by
    rw [if_neg (by rw [hw a ha]; simp), hd]
    exact ⟨fun f _ => hF.fn f, hK _ _ (k.out _ w (ha.put hb undef) hp (hm.put _ _))⟩⟩
theorem TL.off0 (hw : Wt n ops fs o false) (hd : o.dst = none) (k : TL F P n B D M ops Q rest fs hs) : TL F P n B D M ops Q (o :: rest) fs hs :=
  ⟨fun a w ha hp hm => wpListIn_step fun K hK => by
    rw [if_neg (by rw [hw a ha]; simp), hd]
    exact ⟨fun f _ => hF.fn f, hK _ _ (k.out _ w (ha.put_none undef) hp (hm.put _ _))⟩⟩
theorem TL.split (b : Bool) (h1 : b = true → TL F P n B D M ops Q rest fs hs) (h2 : b = false → TL F P n B D M ops Q rest fs hs) : TL F P n B D M ops Q rest fs hs := by
  cases b
  · exact h2 rfl
  · exact h1 rfl

/-! ### Operations on values alone -/
def evs (fs : SFs) : List Operand → Option (List Value)
  | [] => some []
  | x :: r => match ev fs x with
    | some v => match evs fs r with
      | some vs => some (v :: vs)
      | none => none
    | none => none
theorem Fr.evs {a : Act} (ha : Fr n fs a) : ∀ {xs : List Operand} {vs : List Value}, evs fs xs = some vs → xs.map a.eval = vs
  | [], vs, h => by simp only [Go.Proofs.YtljgejbmimapdaaDoor.evs] at h; cases h; rfl
  | x :: r, vs, h => by
    simp only [Go.Proofs.YtljgejbmimapdaaDoor.evs] at h
    split at h
    · rename_i v hv
      split at h
      · rename_i us hus
        cases h
        rw [List.map_cons, ha.ev hv, Fr.evs ha hus]
      · cases h
    · cases h
def binV (op : BinOp) (x y : Value) : Option Value :=
  match op, x, y with
  | .add, .int k a, .int k' b => match decEq k k' with | isTrue _ => some (.int k (k.wrap (a + b))) | isFalse _ => none
  | .sub, .int k a, .int k' b => match decEq k k' with | isTrue _ => some (.int k (k.wrap (a - b))) | isFalse _ => none
  | .mul, .int k a, .int k' b => match decEq k k' with | isTrue _ => some (.int k (k.wrap (a * b))) | isFalse _ => none
  | .eql, .int k a, .int k' b => match decEq k k' with | isTrue _ => some (.bool (decide (a = b))) | isFalse _ => none
  | .neq, .int k a, .int k' b => match decEq k k' with | isTrue _ => some (.bool (decide (¬ a = b))) | isFalse _ => none
  | .lss, .int k a, .int k' b => match decEq k k' with | isTrue _ => some (.bool (decide (a < b))) | isFalse _ => none
  | .leq, .int k a, .int k' b => match decEq k k' with | isTrue _ => some (.bool (decide (a ≤ b))) | isFalse _ => none
  | .gtr, .int k a, .int k' b => match decEq k k' with | isTrue _ => some (.bool (decide (b < a))) | isFalse _ => none
  | .geq, .int k a, .int k' b => match decEq k k' with | isTrue _ => some (.bool (decide (b ≤ a))) | isFalse _ => none
  | _, _, _ => none
theorem binV_run {op : BinOp} {x y : Value} {t : TypeId} {ox oy : Operand} (h : binV op x y = some v) (w : World) : (do eqGuard op t ox oy x y; binOp op t x y : Sem Value).run P w = .ok v w := by
  unfold binV at h
  split at h <;> (try (split at h)) <;> (try (cases h; done))
  all_goals
    rename_i hk _
    subst hk
    cases h
    simp [eqGuard, binOp, Op.intArith, Op.intCmp, bne]
    try rfl
def pureV (fs : SFs) : Op → Option Value
  | .move x => ev fs x
  | .assign x => ev fs x
  | .binOp op _ x y _ => match ev fs x with
    | some a => match ev fs y with
      | some b => binV op a b
      | none => none
    | none => none
  | .unOp .not _ x => match ev fs x with
    | some (.bool b) => some (.bool (!b))
    | _ => none
  | .extract x i => match ev fs x with
    | some (.tuple vs) => vs.toList[i]?
    | _ => none
  | .nilCheck x => match ev fs x with
    | some (.pointer (some a)) => some (.pointer (some a))
    | some (.func (.func f) x y) => some (.func (.func f) x y)
    | _ => none
  | .makeFunc fn first captured => match evs fs first.toList with
    | some x => match evs fs captured.toList with
      | some y => some (.func fn x.toArray y.toArray)
      | none => none
    | none => none
  | _ => none
theorem Yv.pur (h : pureV fs o.op = some v) : Yv P n B M fs hs o v := by
  intro a w ha _
  unfold pureV at h
  unfold execOp
  split at h
  · rename_i x e; simp only [e]; rw [ha.ev h]; rfl
  · rename_i x e; simp only [e]; rw [ha.ev h]; rfl
  · rename_i op t x y u e
    split at h
    · rename_i xv hx
      split at h
      · rename_i yv hy
        simp only [e, ha.ev hx, ha.ev hy]
        have := binV_run (P := P) (t := t) (ox := x) (oy := y) h w
        rw [Sem.run_bind, this]
        rfl
      · cases h
    · cases h
  · rename_i t x e
    split at h
    · rename_i b hx
      cases h
      simp only [e, ha.ev hx]
      rfl
    · cases h
  · rename_i x i e
    split at h
    · rename_i vs hx
      rw [Array.getElem?_toList] at h
      simp only [e, ha.ev hx, Instr.extract, h]
      rfl
    · cases h
  · rename_i x e
    split at h
    · rename_i hx; cases h; simp only [e, ha.ev hx]; rfl
    · rename_i hx; cases h; simp only [e, ha.ev hx]; rfl
    · cases h
  · rename_i fn first captured e
    split at h
    · rename_i x hx
      split at h
      · rename_i y hy
        cases h
        simp only [e]
        have h1 : first.map a.eval = x.toArray := by rw [← ha.evs hx]; apply Array.ext'; simp
        have h2 : captured.map a.eval = y.toArray := by rw [← ha.evs hy]; apply Array.ext'; simp
        rw [h1, h2]
        rfl
      · cases h
    · cases h
  · cases h
theorem Yv.eq {u : Value} (h : Yv P n B M fs hs o u) (e : u = v) : Yv P n B M fs hs o v := e ▸ h
theorem Yv.addI {x y : Operand} {t u : TypeId} {a b : Int} (ho : o.op = .binOp .add t x y u) (hx : ev fs x = some (.int .i64 a)) (hy : ev fs y = some (.int .i64 b)) (hr : -9223372036854775808 ≤ a + b ∧ a + b ≤ 9223372036854775807) : Yv P n B M fs hs o (.int .i64 (a + b)) :=
  (Yv.pur (v := .int .i64 (IntKind.i64.wrap (a + b))) (by rw [ho]; simp only [pureV, hx, hy]; rfl)).eq (by rw [IntWalk.i64_in _ hr])
theorem Yv.subI {x y : Operand} {t u : TypeId} {a b : Int} (ho : o.op = .binOp .sub t x y u) (hx : ev fs x = some (.int .i64 a)) (hy : ev fs y = some (.int .i64 b)) (hr : -9223372036854775808 ≤ a - b ∧ a - b ≤ 9223372036854775807) : Yv P n B M fs hs o (.int .i64 (a - b)) :=
  (Yv.pur (v := .int .i64 (IntKind.i64.wrap (a - b))) (by rw [ho]; simp only [pureV, hx, hy]; rfl)).eq (by rw [IntWalk.i64_in _ hr])
theorem Yv.mulI {x y : Operand} {t u : TypeId} {a b : Int} (ho : o.op = .binOp .mul t x y u) (hx : ev fs x = some (.int .i64 a)) (hy : ev fs y = some (.int .i64 b)) (hr : -9223372036854775808 ≤ a * b ∧ a * b ≤ 9223372036854775807) : Yv P n B M fs hs o (.int .i64 (a * b)) :=
  (Yv.pur (v := .int .i64 (IntKind.i64.wrap (a * b))) (by rw [ho]; simp only [pureV, hx, hy]; rfl)).eq (by rw [IntWalk.i64_in _ hr])
theorem run_quo {x y : Operand} {t u : TypeId} {op : BinOp} {a b : Int} (hop : op = .quo ∨ op = .rem) (ho : o.op = .binOp op t x y u) (hx : ev fs x = some (.int .i64 a)) (hy : ev fs y = some (.int .i64 b)) (hb : b ≠ 0) {f : Act} (ha : Fr n fs f) (w : World) :
    (execOp f.eval o).run P w = .ok (.value (.int .i64 (if op = .quo then IntKind.i64.wrap (a.tdiv b) else a.tmod b))) w := by
  unfold execOp
  simp only [ho, ha.ev hx, ha.ev hy]
  rcases hop with rfl | rfl <;> simp [eqGuard, binOp, Op.intDiv, hb]
theorem Yv.quoI {x y : Operand} {t u : TypeId} {a b : Int} (ho : o.op = .binOp .quo t x y u) (hx : ev fs x = some (.int .i64 a)) (hy : ev fs y = some (.int .i64 b)) (hr : 0 ≤ a ∧ a ≤ 9223372036854775807 ∧ 1 ≤ b) : Yv P n B M fs hs o (.int .i64 (a / b)) :=
  fun f w ha _ => by rw [run_quo (.inl rfl) ho hx hy (by omega) ha w, if_pos rfl, IntWalk.i64_quo a b hr]
theorem Yv.remI {x y : Operand} {t u : TypeId} {a b : Int} (ho : o.op = .binOp .rem t x y u) (hx : ev fs x = some (.int .i64 a)) (hy : ev fs y = some (.int .i64 b)) (hr : 0 ≤ a ∧ 1 ≤ b) : Yv P n B M fs hs o (.int .i64 (a % b)) :=
  fun f w ha _ => by rw [run_quo (.inr rfl) ho hx hy (by omega) ha w, if_neg (by decide), IntWalk.rem_in a b hr.1]
theorem Yv.pickT {c x y : Operand} {b : Bool} (ho : o.op = .pick c x y) (hc : ev fs c = some (.bool b)) (hb : b = true) (hx : ev fs x = some v) : Yv P n B M fs hs o v := fun f w ha _ => by
  unfold execOp
  simp [ho, ha.ev hc, ha.ev hx, hb, asBool]
theorem Yv.pickF {c x y : Operand} {b : Bool} (ho : o.op = .pick c x y) (hc : ev fs c = some (.bool b)) (hb : b = false) (hx : ev fs y = some v) : Yv P n B M fs hs o v := fun f w ha _ => by
  unfold execOp
  simp [ho, ha.ev hc, ha.ev hx, hb, asBool]
theorem Yv.pickB {c x y : Operand} {b d e : Bool} (ho : o.op = .pick c x y) (hc : ev fs c = some (.bool b)) (hx : ev fs x = some (.bool d)) (hy : ev fs y = some (.bool e)) : Yv P n B M fs hs o (.bool (bif b then d else e)) := fun f w ha _ => by
  unfold execOp
  cases b <;> simp [ho, ha.ev hc, ha.ev hx, ha.ev hy, asBool]
theorem equal_bool {t : TypeId} {a b : Bool} (hU : P.underlying t = some .bool) (w : World) : (Op.equal t (.bool a) (.bool b)).run P w = .ok (a == b) w := by
  unfold Op.equal
  rw [show Op.maxDepth = Nat.succ 9999 from rfl]
  unfold Op.equalIn
  simp [underlying, hU]
theorem Yv.eqB {x y : Operand} {t u : TypeId} {a b : Bool} (hU : P.underlying t = some .bool) (ho : o.op = .binOp .eql t x y u) (hx : ev fs x = some (.bool a)) (hy : ev fs y = some (.bool b)) : Yv P n B M fs hs o (.bool (a == b)) := fun f w ha _ => by
  unfold execOp
  simp [ho, ha.ev hx, ha.ev hy, eqGuard, binOp, equal_bool hU]
theorem Yv.neB {x y : Operand} {t u : TypeId} {a b : Bool} (hU : P.underlying t = some .bool) (ho : o.op = .binOp .neq t x y u) (hx : ev fs x = some (.bool a)) (hy : ev fs y = some (.bool b)) : Yv P n B M fs hs o (.bool (!(a == b))) := fun f w ha _ => by
  unfold execOp
  simp [ho, ha.ev hx, ha.ev hy, eqGuard, binOp, equal_bool hU]

/-! ### Addresses -/
theorem add_off (g o k : Nat) : Addr.add ⟨g, o, none⟩ k = ⟨g, o + k, none⟩ := by
  unfold Addr.add
  split
  · rename_i h; subst h; rfl
  · rfl
theorem Yv.fieldAddr {s f off g p : Nat} {x : Operand} [hT : TyF P s f off] (ho : o.op = .fieldAddr s x f) (hx : ev fs x = some (.pointer (some ⟨g, p, none⟩))) : Yv P n B M fs hs o (.pointer (some ⟨g, p + off, none⟩)) := fun a w ha _ => by
  have h := hT.h
  unfold tyField at h
  split at h
  · rename_i fl hU
    split at h
    · rename_i fd hfd
      split at h
      · rename_i i hi
        split at h
        · cases h
        · rename_i hz
          cases h
          unfold execOp
          simp [ho, ha.ev hx, Instr.fieldAt, underlying, hU, hfd, Instr.sureAddr, fieldPlace, sizeOf, typeInfo, hi, hz, add_off]
      · cases h
    · cases h
  · cases h
theorem Yv.indexSl {t e k g p len cap i : Nat} {z : Int} {q : IntKind} {x y : Operand} [hT : TySl P t e k] (ho : o.op = .indexAddr t x y) (hx : ev fs x = some (.slice (some ⟨g, p, none⟩) len cap)) (hy : ev fs y = some (.int q z)) (hz : z = (i : Int)) (hi : i < len) : Yv P n B M fs hs o (.pointer (some ⟨g, p + i * k, none⟩)) := fun a w ha _ => by
  have h := hT.h
  unfold tySlice at h
  split at h
  · rename_i el hU
    cases hi' : P.info? el with
    | none => rw [hi'] at h; cases h
    | some inf =>
      rw [hi'] at h
      cases h
      subst hz
      unfold execOp
      simp [ho, ha.ev hx, ha.ev hy, Instr.indexAt, asIntOf, underlying, hU, hi, sizeOf, typeInfo, hi', add_off]
  · cases h
theorem Yv.indexAr {t e k c g p i : Nat} {z : Int} {q : IntKind} {x y : Operand} [hT : TyAr P t c e k] (ho : o.op = .indexAddr t x y) (hx : ev fs x = some (.pointer (some ⟨g, p, none⟩))) (hy : ev fs y = some (.int q z)) (hz : z = (i : Int)) (hi : i < c) : Yv P n B M fs hs o (.pointer (some ⟨g, p + i * k, none⟩)) := fun a w ha _ => by
  have h := hT.h
  unfold tyArr at h
  split at h
  · rename_i cc el hU
    cases hi' : P.info? el with
    | none => rw [hi'] at h; cases h
    | some inf =>
      rw [hi'] at h
      cases h
      subst hz
      unfold execOp
      simp [ho, ha.ev hx, ha.ev hy, Instr.indexAt, Instr.sureAddr, asIntOf, underlying, hU, hi, sizeOf, typeInfo, hi', add_off]
  · cases h
theorem Yv.lenSl {t e k len cap : Nat} {A : Option Addr} {x : Operand} [hT : TySl P t e k] (ho : o.op = .call { callee := .builtin .len, args := #[x], argTypes := #[t] }) (hx : ev fs x = some (.slice A len cap)) : Yv P n B M fs hs o (.int .i64 (len : Int)) := fun a w ha _ => by
  have h := hT.h
  unfold tySlice at h
  split at h
  · rename_i el hU
    unfold execOp
    simp [ho, ha.ev hx, resolve, invoke, builtin, Builtin.len_, underlying, hU, goInt]
  · cases h
theorem Yv.convI {s t : TypeId} {k k' : IntKind} {z : Int} {x : Operand} [hS : TyI P s k'] [hT : TyI P t k] (ho : o.op = .convert s t x) (hx : ev fs x = some (.int k' z)) (hz : k.wrap z = z) : Yv P n B M fs hs o (.int k z) := fun a w ha _ => by
  have h := hT.h
  have h' := hS.h
  unfold tyInt at h h'
  split at h
  · rename_i q hU
    cases h
    split at h'
    · rename_i q' hU'
      cases h'
      unfold execOp
      simp [ho, ha.ev hx, convert, underlying, hU, hU', Conv.intToInt, hz]
    · cases h'
  · cases h
theorem Yv.field {s f off k : Nat} {l : List Value} {x : Operand} [hT : TyP P s f false off k] (ho : o.op = .field s x f) (hx : ev fs x = some (.agg l.toArray)) (hv : l[off]? = some v) : Yv P n B M fs hs o v := fun a w ha _ => by
  have h := hT.h
  unfold tyPart at h
  split at h
  · rename_i fl hU
    split at h
    · rename_i fd hfd
      cases hA : tyAgg P fd.type with
      | none => rw [hA] at h; cases h
      | some p =>
        rw [hA] at h
        obtain ⟨p1, p2⟩ := p
        simp at h
        obtain ⟨rfl, rfl, rfl⟩ := h
        unfold execOp
        simp [ho, ha.ev hx, Instr.field, underlying, hU, hfd, asAgg, part, (tyAgg_run hA w).1, hv]
    · cases h
  · cases h

/-! ### Loads -/
theorem row_cell {w : World} {g : Nat} {t : TypeId} {l : List Value} (h : w.heap[g]? = some (.cells l.toArray t (0, 0))) (k : Nat) : w.cell? ⟨g, k, none⟩ = l[k]? := by
  simp [World.cell?, h]
theorem run_load1 {t : TypeId} [hT : TyS P t] {g p : Nat} {x : Operand} {a : Act} {w : World} (ho : o.op = .load t x) (hx : a.eval x = .pointer (some ⟨g, p, none⟩)) (hc : w.cell? ⟨g, p, none⟩ = some v) : (execOp a.eval o).run P w = .ok (.value v) w := by
  unfold execOp
  simp [ho, hx, Instr.loadAt, Instr.sureAddr, loadVar, (tyAgg_run hT.h w).1, hc]
theorem Yv.loadO (i : Nat) {t u : TypeId} [hT : TyS P t] {g p : Nat} {l : List Value} {x : Operand} (ho : o.op = .load t x) (hx : ev fs x = some (.pointer (some ⟨g, p, none⟩))) (hi : hs[i]? = some (.row g u l)) (hv : l[p]? = some v) : Yv P n B M fs hs o v := fun a w ha hw =>
  run_load1 ho (ha.ev hx) (by rw [row_cell (Ent.row_ok.1 (hw.get hi))]; exact hv)
theorem Hp.cellB {w : World} (hw : Hp B M hs w) {p : Addr} (hc : B.cell? p = some v) (hM : ¬ M p.block) : w.cell? p = some v := by
  rw [hw.only.cell (cell_lt hc) hM]; exact hc
theorem Yv.loadB {t : TypeId} [hT : TyS P t] {g p : Nat} {x : Operand} (ho : o.op = .load t x) (hx : ev fs x = some (.pointer (some ⟨g, p, none⟩))) (hc : B.cell? ⟨g, p, none⟩ = some v) (hM : ¬ M g) : Yv P n B M fs hs o v := fun _ _ ha hw =>
  run_load1 ho (ha.ev hx) (hw.cellB hc hM)

/-- These cells lie in block g from p on. -/
def Cs (w : World) (g p : Nat) (l : List Value) : Prop := ∀ j, j < l.length → w.cell? ⟨g, p + j, none⟩ = l[j]?
theorem run_loadCells {w : World} {g p : Nat} {l : List Value} (h : Cs w g p l) : ∀ (m i : Nat) (acc : Array Value), i + m = l.length → (loadCellsFrom ⟨g, p, none⟩ i m acc).run P w = .ok (acc ++ (l.drop i).toArray) w
  | 0, i, acc, e => by simp [loadCellsFrom, List.drop_eq_nil_of_le (show l.length ≤ i by omega)]
  | m + 1, i, acc, e => by
    have hi : i < l.length := by omega
    have hc := h i hi
    rw [List.getElem?_eq_getElem hi] at hc
    simp only [loadCellsFrom, Sem.run_bind, add_off, run_load, hc, Result.andThen_ok]
    rw [run_loadCells h m (i + 1) _ (by omega), List.drop_eq_getElem_cons hi]
    simp
theorem run_loadA {t : TypeId} {k : Nat} [hT : TyA P t k] {g p : Nat} {l : List Value} {x : Operand} {a : Act} {w : World} (ho : o.op = .load t x) (hx : a.eval x = .pointer (some ⟨g, p, none⟩)) (hc : Cs w g p l) (hl : l.length = k) : (execOp a.eval o).run P w = .ok (.value (.agg l.toArray)) w := by
  subst hl
  unfold execOp
  have h1 := (tyAgg_run (P := P) hT.h w)
  have h2 := run_loadCells (P := P) hc l.length 0 #[] (by omega)
  simp [ho, hx, Instr.loadAt, Instr.sureAddr, loadVar, h1.1, h1.2, loadCells, h2]
theorem Cs.of_row {w : World} {g : Nat} {t : TypeId} {l : List Value} (h : w.heap[g]? = some (.cells l.toArray t (0, 0))) {m : List Value} {p : Nat} (hm : (l.drop p).take m.length = m) : Cs w g p m := fun j hj => by
  rw [row_cell h, ← List.getElem?_drop, ← List.getElem?_take_of_lt hj, hm]
theorem Yv.loadAO (i : Nat) {t u : TypeId} {k : Nat} [hT : TyA P t k] {g : Nat} {l : List Value} {x : Operand} (ho : o.op = .load t x) (hx : ev fs x = some (.pointer (some ⟨g, 0, none⟩))) (hi : hs[i]? = some (.row g u l)) (hl : l.length = k) : Yv P n B M fs hs o (.agg l.toArray) := fun a w ha hw =>
  run_loadA ho (ha.ev hx) (Cs.of_row (Ent.row_ok.1 (hw.get hi)) (by simp)) hl
theorem Yv.loadAP (i : Nat) {t u : TypeId} {k : Nat} [hT : TyA P t k] {g p : Nat} {l m : List Value} {x : Operand} (ho : o.op = .load t x) (hx : ev fs x = some (.pointer (some ⟨g, p, none⟩))) (hi : hs[i]? = some (.row g u l)) (hm : (l.drop p).take m.length = m) (hl : m.length = k) : Yv P n B M fs hs o (.agg m.toArray) := fun a w ha hw =>
  run_loadA ho (ha.ev hx) (Cs.of_row (Ent.row_ok.1 (hw.get hi)) hm) hl
theorem Cs.kept {w : World} (hw : Hp B M hs w) {g p : Nat} {l : List Value} (h : Cs B g p l) (hM : ¬ M g) : Cs w g p l := fun j hj => by
  have := h j hj
  rw [List.getElem?_eq_getElem hj] at this ⊢
  exact hw.cellB this hM
theorem Yv.loadAB {t : TypeId} {k : Nat} [hT : TyA P t k] {g p : Nat} {l : List Value} {x : Operand} (ho : o.op = .load t x) (hx : ev fs x = some (.pointer (some ⟨g, p, none⟩))) (hc : Cs B g p l) (hl : l.length = k) (hM : ¬ M g) : Yv P n B M fs hs o (.agg l.toArray) := fun _ _ ha hw =>
  run_loadA ho (ha.ev hx) (hc.kept hw hM) hl
end
end Go.Proofs.YtljgejbmimapdaaDoor
