/- A small program logic over the model: symbolic frames (slot facts) and symbolic heaps (entries apart from each other), control flow. -/
import Derived.Test.YtljgejbmimapdaaDoorT0
import Derived.Laws.Sem
import Derived.Laws.World
set_option linter.unusedVariables false
set_option linter.unusedSectionVars false
namespace Go.Proofs.YtljgejbmimapdaaDoor
open Go.RowKit

abbrev SFs := List (Nat × Value)
def look : SFs → Nat → Option Value
  | [], _ => none
  | (k, v) :: r, t => bif Nat.beq k t then some v else look r t
def ev (fs : SFs) : Operand → Option Value
  | .tmp t => look fs t
  | .const v => some v
  | .global g => some (.pointer (some ⟨g, 0, none⟩))
  | .func f => some (.func (.func f) #[] #[])

/-- The frame holds these values in these slots (the first entry of a slot counts). -/
structure Fr (n : Nat) (fs : SFs) (a : Act) : Prop where
  size : a.tmps.size = n
  get : ∀ t v, look fs t = some v → a.tmps[t]? = some v

theorem Fr.ev {n : Nat} {fs : SFs} {a : Act} (h : Fr n fs a) {x : Operand} {v : Value} (e : ev fs x = some v) : a.eval x = v := by
  cases x with
  | tmp t => simp [Act.eval, h.get t v e]
  | const u => exact Option.some.inj e
  | global g => exact Option.some.inj e
  | func f => exact Option.some.inj e
theorem Fr.put {n : Nat} {fs : SFs} {a : Act} (h : Fr n fs a) {d : Nat} (hd : Nat.blt d n = true) (v : Value) : Fr n ((d, v) :: fs) (a.put (some d) v) := by
  have hd' : d < n := by simpa using hd
  refine ⟨by simp [Act.put, h.size], fun t u e => ?_⟩
  simp only [Act.put, look] at e ⊢
  by_cases ht : d = t
  · subst ht
    have : Nat.beq d d = true := Nat.beq_refl _
    rw [this] at e
    simp at e
    simp [h.size, hd', e]
  · have : Nat.beq d t = false := by cases hb : Nat.beq d t with
      | false => rfl
      | true => exact absurd (Nat.eq_of_beq_eq_true hb) ht
    rw [this] at e
    rw [Array.getElem?_setIfInBounds_ne ht]
    exact h.get t u e
theorem Fr.put_none {n : Nat} {fs : SFs} {a : Act} (h : Fr n fs a) (v : Value) : Fr n fs (a.put none v) := h
theorem Fr.nil {n : Nat} {fs : SFs} {a : Act} (h : Fr n fs a) : Fr n [] a := ⟨h.size, fun _ _ e => by cases e⟩

/-- Every slot fact of gs is one of fs. -/
def Sub (fs gs : SFs) : Prop := ∀ t v, look gs t = some v → look fs t = some v
theorem Sub.nil {fs : SFs} : Sub fs [] := fun _ _ e => by cases e
theorem Sub.cons {fs gs : SFs} {t : Nat} {v : Value} (h : look fs t = some v) (k : Sub fs gs) : Sub fs ((t, v) :: gs) := by
  intro u x e
  simp only [look] at e
  cases hb : Nat.beq t u with
  | true =>
    rw [hb] at e
    have := Nat.eq_of_beq_eq_true hb
    subst this
    simp at e
    subst e
    exact h
  | false => rw [hb] at e; exact k u x e
theorem Sub.consE {fs gs : SFs} {t : Nat} {u v : Value} (h : look fs t = some u) (e : u = v) (k : Sub fs gs) : Sub fs ((t, v) :: gs) := Sub.cons (e ▸ h) k
theorem Sub.consI {fs gs : SFs} {t : Nat} {k : IntKind} {a b : Int} (h : look fs t = some (.int k a)) (e : a = b) (k' : Sub fs gs) : Sub fs ((t, .int k b) :: gs) := Sub.cons (e ▸ h) k'
theorem Sub.consB {fs gs : SFs} {t : Nat} {a b : Bool} (h : look fs t = some (.bool a)) (e : a = b) (k' : Sub fs gs) : Sub fs ((t, .bool b) :: gs) := Sub.cons (e ▸ h) k'
theorem Sub.refl {fs : SFs} : Sub fs fs := fun _ _ e => e
theorem Fr.sub {n : Nat} {fs gs : SFs} {a : Act} (h : Fr n fs a) (k : Sub fs gs) : Fr n gs a := ⟨h.size, fun t v e => h.get t v (k t v e)⟩

/-- What is known of some blocks of the heap. -/
structure Ent where
  fp : Nat → Prop
  ok : World → Prop
  loc : ∀ {w w' : World}, (∀ g, fp g → w'.heap[g]? = w.heap[g]?) → ok w → ok w'
  lt : ∀ {w : World}, ok w → ∀ g, fp g → g < w.heap.size
  nd : ∀ {w : World}, ok w → ∀ g, fp g → ∀ c, w.heap[g]? ≠ some (.deferred c)
abbrev HS := List Ent

/-- Block g is a row of just these cells. -/
@[irreducible] def Ent.row (g : Nat) (t : TypeId) (l : List Value) : Ent where
  fp := (· = g)
  ok w := w.heap[g]? = some (.cells l.toArray t (0, 0))
  loc h k := (h g rfl).trans k
  lt h k e := by subst e; exact (Array.getElem?_eq_some_iff.1 h).1
  nd h k e c := by subst e; rw [h]; simp
theorem Ent.row_fp {g : Nat} {t : TypeId} {l : List Value} {k : Nat} : (Ent.row g t l).fp k ↔ k = g := by unfold Ent.row; exact Iff.rfl
theorem Ent.row_ok {g : Nat} {t : TypeId} {l : List Value} {w : World} : (Ent.row g t l).ok w ↔ w.heap[g]? = some (.cells l.toArray t (0, 0)) := by unfold Ent.row; exact Iff.rfl

/-- The world is B but for the blocks of M and new ones; the entries hold and lie apart. -/
structure Hp (B : World) (M : Nat → Prop) (hs : HS) (w : World) : Prop where
  os : w.os = B.os
  tape : w.tape = B.tape
  output : w.output = B.output
  size : B.heap.size ≤ w.heap.size
  base : ∀ k, k < B.heap.size → ¬ M k → w.heap[k]? = B.heap[k]?
  own : ∀ e ∈ hs, e.ok w
  new : ∀ e ∈ hs, ∀ g, e.fp g → M g ∨ B.heap.size ≤ g
  apart : hs.Pairwise fun e f => ∀ g, e.fp g → ¬ f.fp g

section
variable {B w w' : World} {M : Nat → Prop} {hs hs' : HS}
theorem Hp.refl (w : World) (M : Nat → Prop) : Hp w M [] w := ⟨rfl, rfl, rfl, Nat.le_refl _, fun _ _ _ => rfl, (fun _ h => by cases h), (fun _ h => by cases h), .nil⟩
theorem Hp.only (h : Hp B M hs w) : Only M B w := ⟨h.os, h.tape, h.output, h.size, h.base⟩
theorem Hp.sub (h : Hp B M hs w) (k : hs'.Sublist hs) : Hp B M hs' w :=
  ⟨h.os, h.tape, h.output, h.size, h.base, fun e he => h.own e (k.subset he), fun e he => h.new e (k.subset he), h.apart.sublist k⟩
theorem Hp.perm (h : Hp B M hs w) (k : hs.Perm hs') : Hp B M hs' w :=
  ⟨h.os, h.tape, h.output, h.size, h.base, fun e he => h.own e (k.mem_iff.2 he), fun e he => h.new e (k.mem_iff.2 he),
    (k.pairwise_iff (fun hxy g hy hx => hxy g hx hy)).1 h.apart⟩
theorem Hp.same (h : Hp B M hs w) (h1 : w'.heap = w.heap) (h2 : w'.os = w.os) (h3 : w'.tape = w.tape) (h4 : w'.output = w.output) : Hp B M hs w' :=
  ⟨h2.trans h.os, h3.trans h.tape, h4.trans h.output, by rw [h1]; exact h.size, fun k a b => by rw [h1]; exact h.base k a b, fun e he => e.loc (fun g _ => by rw [h1]) (h.own e he), h.new, h.apart⟩
/-- The general step: the entries es become es', nothing else turns. -/
theorem Hp.go {es es' : HS} {S : Nat → Prop} (h : Hp B M (es ++ hs) w) (ho : Only S w w') (hS : ∀ g, g < w.heap.size → S g → ∃ e ∈ es, e.fp g)
    (hok : ∀ e ∈ es', e.ok w') (hfp : ∀ e ∈ es', ∀ g, e.fp g → (∃ f ∈ es, f.fp g) ∨ w.heap.size ≤ g) (hap : es'.Pairwise fun e f => ∀ g, e.fp g → ¬ f.fp g) : Hp B M (es' ++ hs) w' := by
  have hlt : ∀ e ∈ es ++ hs, ∀ g, e.fp g → g < w.heap.size := fun e he g hg => e.lt (h.own e he) g hg
  have hpw := List.pairwise_append.1 h.apart
  refine ⟨ho.os.trans h.os, ho.tape.trans h.tape, ho.output.trans h.output, Nat.le_trans h.size ho.size, fun k hk hM => ?_, ?_, ?_, ?_⟩
  · rw [ho.block k (Nat.lt_of_lt_of_le hk h.size) ?_]
    · exact h.base k hk hM
    · intro hs
      obtain ⟨e, he, hg⟩ := hS k (Nat.lt_of_lt_of_le hk h.size) hs
      rcases h.new e (List.mem_append_left _ he) k hg with h1 | h1
      · exact hM h1
      · omega
  · intro e he
    rcases List.mem_append.1 he with he | he
    · exact hok e he
    · refine e.loc (fun g hg => ho.block g (hlt e (List.mem_append_right _ he) g hg) fun hs => ?_) (h.own e (List.mem_append_right _ he))
      obtain ⟨f, hf, hfg⟩ := hS g (hlt e (List.mem_append_right _ he) g hg) hs
      exact hpw.2.2 f hf e he g hfg hg
  · intro e he g hg
    rcases List.mem_append.1 he with he | he
    · rcases hfp e he g hg with ⟨f, hf, hfg⟩ | hn
      · exact h.new f (List.mem_append_left _ hf) g hfg
      · exact .inr (Nat.le_trans h.size hn)
    · exact h.new e (List.mem_append_right _ he) g hg
  · refine List.pairwise_append.2 ⟨hap, hpw.2.1, fun e he f hf g hg hfg => ?_⟩
    rcases hfp e he g hg with ⟨x, hx, hxg⟩ | hn
    · exact hpw.2.2 x hx f hf g hxg hfg
    · have := hlt f (List.mem_append_right _ hf) g hfg
      omega
theorem Hp.below (h : Hp B M hs w) (hb : Below w.heap.size w w') : Hp B M hs w' :=
  Hp.go (es := []) (es' := []) (S := fun _ => False) h (.of_below_new hb _) (fun _ _ h => h.elim) (fun _ h => by cases h) (fun _ h => by cases h) .nil
theorem Hp.fresh {e : Ent} (h : Hp B M hs w) (hb : Below w.heap.size w w') (hok : e.ok w') (hn : ∀ g, e.fp g → w.heap.size ≤ g) : Hp B M (e :: hs) w' :=
  Hp.go (es := []) (es' := [e]) (S := fun _ => False) h (.of_below_new hb _) (fun _ _ h => h.elim) (fun x hx => by simp at hx; subst hx; exact hok)
    (fun x hx g hg => by simp at hx; subst hx; exact .inr (hn g hg)) (List.pairwise_singleton _ _)
theorem Hp.upd {e e' : Ent} {S : Nat → Prop} (h : Hp B M (e :: hs) w) (ho : Only S w w') (hS : ∀ g, g < w.heap.size → S g → e.fp g) (hok : e'.ok w') (hfp : ∀ g, e'.fp g → e.fp g ∨ w.heap.size ≤ g) : Hp B M (e' :: hs) w' :=
  Hp.go (es := [e]) (es' := [e']) h ho (fun g hg hs => ⟨e, by simp, hS g hg hs⟩) (fun x hx => by simp at hx; subst hx; exact hok)
    (fun x hx g hg => by simp at hx; subst hx; exact (hfp g hg).imp (fun h => ⟨e, by simp, h⟩) id) (List.pairwise_singleton _ _)
theorem heap_new (w : World) (o : Obj) : (w.alloc o).heap[w.heap.size]? = some o := by
  show (w.heap.push o)[w.heap.size]? = _
  simp
theorem Hp.allocRow (h : Hp B M hs w) (t : TypeId) (l : List Value) : Hp B M (.row w.heap.size t l :: hs) (w.alloc (.cells l.toArray t)) :=
  h.fresh ((Below.refl _ _).alloc (Nat.le_refl _) _) (Ent.row_ok.2 (heap_new w _)) (fun g hg => by rw [Ent.row_fp.1 hg]; exact Nat.le_refl _)
theorem Hp.isBelow (h : Hp B (fun _ => False) hs w) : Below B.heap.size B w := ⟨h.os, h.tape, h.output, h.size, fun k hk => h.base k hk (fun h => h)⟩
theorem erase_perm : ∀ (hs : HS) (i : Nat) (hi : i < hs.length), hs.Perm (hs[i] :: hs.eraseIdx i)
  | _ :: _, 0, _ => .refl _
  | x :: r, i + 1, hi => ((erase_perm r i (by simpa using hi)).cons x).trans (.swap _ _ _)
theorem set_perm {e : Ent} {i : Nat} (h : hs[i]? = some e) : hs.Perm (e :: hs.eraseIdx i) := by
  obtain ⟨hi, rfl⟩ := List.getElem?_eq_some_iff.1 h
  exact erase_perm hs i hi
theorem set_perm' {e e' : Ent} {i : Nat} (h : hs[i]? = some e) : (e' :: hs.eraseIdx i).Perm (hs.set i e') := by
  obtain ⟨hi, rfl⟩ := List.getElem?_eq_some_iff.1 h
  have h1 : (hs.set i e')[i]? = some e' := by simp [hi]
  have := set_perm h1
  rw [List.eraseIdx_set_eq] at this
  exact this.symm
theorem Hp.updAt {e e' : Ent} {i : Nat} {S : Nat → Prop} (h : Hp B M hs w) (hi : hs[i]? = some e) (ho : Only S w w') (hS : ∀ g, g < w.heap.size → S g → e.fp g) (hok : e'.ok w') (hfp : ∀ g, e'.fp g → e.fp g ∨ w.heap.size ≤ g) : Hp B M (hs.set i e') w' :=
  ((h.perm (set_perm hi)).upd ho hS hok hfp).perm (set_perm' hi)
theorem Hp.get {e : Ent} {i : Nat} (h : Hp B M hs w) (hi : hs[i]? = some e) : e.ok w := h.own e (List.mem_of_getElem? hi)
end

/-- What was set aside for deferred calls of rounds stays. -/
structure Kp (w w' : World) : Prop where
  size : w.heap.size ≤ w'.heap.size
  keep : ∀ (r : Nat) (c : Option (List Deferred)), w.heap[r]? = some (.deferred c) → w'.heap[r]? = some (.deferred c)
theorem Kp.refl (w : World) : Kp w w := ⟨Nat.le_refl _, fun _ _ h => h⟩
theorem Kp.same {w w' : World} (h : w'.heap = w.heap) : Kp w w' := ⟨by rw [h]; exact Nat.le_refl _, fun _ _ k => by rw [h]; exact k⟩
theorem Kp.trans {a b c : World} (h : Kp a b) (k : Kp b c) : Kp a c := ⟨Nat.le_trans h.size k.size, fun r x hx => k.keep r x (h.keep r x hx)⟩
theorem Kp.below {w w' : World} (h : Below w.heap.size w w') : Kp w w' := ⟨h.size, fun r c k => (h.block r (Array.getElem?_eq_some_iff.1 k).1).trans k⟩
theorem Kp.only {S : Nat → Prop} {w w' : World} (h : Only S w w') (hs : ∀ g, S g → ∀ c, w.heap[g]? ≠ some (.deferred c)) : Kp w w' := ⟨h.size, fun r c k => (h.block r (Array.getElem?_eq_some_iff.1 k).1 (fun e => hs r e c k)).trans k⟩
theorem Kp.alloc (w : World) (o : Obj) : Kp w (w.alloc o) := Kp.below ((Below.refl _ _).alloc (Nat.le_refl _) o)
def mark (r : Nat) : Deferred := { target := .collected r, args := #[] }
/-- The deferred calls are marks of loops over functions, whose blocks are as they were laid; so are those that lay there in D. -/
def Mk (B D : World) (a : Act) (w : World) : Prop := Kp D w ∧ ∃ rs : List Nat, a.defers = rs.map mark ∧ rs.Nodup ∧ ∀ r ∈ rs, w.heap[r]? = some (.deferred (some [])) ∧ B.heap.size ≤ r ∧ D.heap.size ≤ r
theorem Mk.next {B D w w' : World} {a : Act} (h : Mk B D a w) (k : Kp w w') : Mk B D a w' := by
  obtain ⟨h0, rs, h1, h2, h3⟩ := h
  exact ⟨h0.trans k, rs, h1, h2, fun r hr => ⟨k.keep r _ (h3 r hr).1, (h3 r hr).2⟩⟩
theorem Mk.put {B D w : World} {a : Act} (h : Mk B D a w) (d : Option Nat) (v : Value) : Mk B D (a.put d v) w := by
  cases d <;> exact h

section
variable (F : Fence) (P : Program) (n : Nat) (B D : World) (M : Nat → Prop)
structure K (Q : Exit → Act → World → Prop) (e : Exit) (fs : SFs) (hs : HS) : Prop where
  out : ∀ a w, Fr n fs a → Hp B M hs w → Mk B D a w → Q e a w
structure T (c : Code) (Q : Exit → Act → World → Prop) (fs : SFs) (hs : HS) : Prop where
  out : ∀ a w, Fr n fs a → Hp B M hs w → Mk B D a w → c.wpIn F 0 P Q a w
structure TL (ops : Array Oper) (Q : Exit → Act → World → Prop) (l : List Oper) (fs : SFs) (hs : HS) : Prop where
  out : ∀ a w, Fr n fs a → Hp B M hs w → Mk B D a w → wpListIn F 0 P ops Q l a w
end

section
variable {F : Fence} {P : Program} {n : Nat} {B D : World} {M : Nat → Prop} {Q : Exit → Act → World → Prop} {fs : SFs} {hs : HS} {ops : Array Oper} {l rest : List Oper} {x y c : Code} {e : Exit} {id id' : Nat}
theorem T.seq (h : T F P n B D M x (Exit.then (y.wpIn F 0 P Q) Q) fs hs) : T F P n B D M (.seq x y) Q fs hs := ⟨fun a w ha hw hm => wpIn_seq (h.out a w ha hw hm)⟩
theorem T.block (h : T F P n B D M c (Exit.inBlock id Q) fs hs) : T F P n B D M (.block id c) Q fs hs := ⟨fun a w ha hw hm => wpIn_block (h.out a w ha hw hm)⟩
theorem T.skip (h : K n B D M Q .normal fs hs) : T F P n B D M .skip Q fs hs := ⟨fun a w ha hw hm => wpIn_skip (h.out a w ha hw hm)⟩
theorem T.exit (h : K n B D M Q (.exit id) fs hs) : T F P n B D M (.exit id) Q fs hs := ⟨fun a w ha hw hm => wpIn_exit (h.out a w ha hw hm)⟩
theorem T.ret (h : K n B D M Q .ret fs hs) : T F P n B D M .ret Q fs hs := ⟨fun a w ha hw hm => wpIn_ret (h.out a w ha hw hm)⟩
theorem T.cond {o : Operand} {b : Bool} (hb : ev fs o = some (.bool b)) (h1 : b = true → T F P n B D M x Q fs hs) (h2 : b = false → T F P n B D M y Q fs hs) : T F P n B D M (.cond o x y) Q fs hs :=
  ⟨fun a w ha hw hm => wpIn_cond_split (ha.ev hb) (fun h => (h1 h).out a w ha hw hm) (fun h => (h2 h).out a w ha hw hm)⟩
theorem T.condT {o : Operand} {b : Bool} (hb : ev fs o = some (.bool b)) (hT : b = true) (h1 : T F P n B D M x Q fs hs) : T F P n B D M (.cond o x y) Q fs hs := T.cond hb (fun _ => h1) (fun h => by rw [hT] at h; cases h)
theorem T.condF {o : Operand} {b : Bool} (hb : ev fs o = some (.bool b)) (hF : b = false) (h1 : T F P n B D M y Q fs hs) : T F P n B D M (.cond o x y) Q fs hs := T.cond hb (fun h => by rw [hF] at h; cases h) (fun _ => h1)
theorem T.region {l : List Oper} (h : TL F P n B D M l.toArray Q l fs hs) : T F P n B D M (.region id l.toArray false) Q fs hs := ⟨fun a w ha hw hm => wpIn_region_lit (h.out a w ha hw hm)⟩
theorem TL.nil (h : K n B D M Q .normal fs hs) : TL F P n B D M ops Q [] fs hs := ⟨fun a w ha hw hm => wpListIn_nil (h.out a w ha hw hm)⟩
theorem K.seq (h : T F P n B D M y Q fs hs) : K n B D M (Exit.then (y.wpIn F 0 P Q) Q) .normal fs hs := ⟨fun a w ha hw hm => h.out a w ha hw hm⟩
theorem K.then_exit {N : Act → World → Prop} (h : K n B D M Q (.exit id) fs hs) : K n B D M (Exit.then N Q) (.exit id) fs hs := ⟨fun a w ha hw hm => h.out a w ha hw hm⟩
theorem K.then_ret {N : Act → World → Prop} (h : K n B D M Q .ret fs hs) : K n B D M (Exit.then N Q) .ret fs hs := ⟨fun a w ha hw hm => h.out a w ha hw hm⟩
theorem K.blk_normal (h : K n B D M Q .normal fs hs) : K n B D M (Exit.inBlock id Q) .normal fs hs := ⟨fun a w ha hw hm => h.out a w ha hw hm⟩
theorem K.blk_ret (h : K n B D M Q .ret fs hs) : K n B D M (Exit.inBlock id Q) .ret fs hs := ⟨fun a w ha hw hm => h.out a w ha hw hm⟩
theorem K.blk_exit_eq (h : K n B D M Q .normal fs hs) : K n B D M (Exit.inBlock id Q) (.exit id) fs hs := ⟨fun a w ha hw hm => by unfold Exit.inBlock; simpa using h.out a w ha hw hm⟩
theorem K.blk_exit_ne (hne : Nat.beq id' id = false) (h : K n B D M Q (.exit id') fs hs) : K n B D M (Exit.inBlock id Q) (.exit id') fs hs := ⟨fun a w ha hw hm => by
  unfold Exit.inBlock
  have : ¬ id' = id := fun e => by rw [e] at hne; have : Nat.beq id id = true := Nat.beq_refl _; rw [this] at hne; cases hne
  simpa [this] using h.out a w ha hw hm⟩
theorem T.weaken {gs : SFs} {hs' : HS} (h1 : Sub fs gs) (h2 : hs'.Sublist hs) (h : T F P n B D M c Q gs hs') : T F P n B D M c Q fs hs := ⟨fun a w ha hw hm => h.out a w (ha.sub h1) (hw.sub h2) hm⟩
theorem TL.weaken {gs : SFs} {hs' : HS} (h1 : Sub fs gs) (h2 : hs'.Sublist hs) (h : TL F P n B D M ops Q l gs hs') : TL F P n B D M ops Q l fs hs := ⟨fun a w ha hw hm => h.out a w (ha.sub h1) (hw.sub h2) hm⟩
theorem K.weaken {gs : SFs} {hs' : HS} (h1 : Sub fs gs) (h2 : hs'.Sublist hs) (h : K n B D M Q e gs hs') : K n B D M Q e fs hs := ⟨fun a w ha hw hm => h.out a w (ha.sub h1) (hw.sub h2) hm⟩
theorem T.permH {hs' : HS} (h2 : hs.Perm hs') (h : T F P n B D M c Q fs hs') : T F P n B D M c Q fs hs := ⟨fun a w ha hw hm => h.out a w ha (hw.perm h2) hm⟩
theorem TL.permH {hs' : HS} (h2 : hs.Perm hs') (h : TL F P n B D M ops Q l fs hs') : TL F P n B D M ops Q l fs hs := ⟨fun a w ha hw hm => h.out a w ha (hw.perm h2) hm⟩
theorem K.permH {hs' : HS} (h2 : hs.Perm hs') (h : K n B D M Q e fs hs') : K n B D M Q e fs hs := ⟨fun a w ha hw hm => h.out a w ha (hw.perm h2) hm⟩

/-- Code that ends in one known state, and what follows it. -/
def At (n : Nat) (B D : World) (M : Nat → Prop) (fs : SFs) (hs : HS) (a : Act) (w : World) : Prop := Fr n fs a ∧ Hp B M hs w ∧ Mk B D a w
theorem T.cut {gs : SFs} {hs' : HS} (h : T F P n B D M x (Exit.then (At n B D M gs hs') Q) fs hs) (k : T F P n B D M y Q gs hs') : T F P n B D M (.seq x y) Q fs hs :=
  T.seq ⟨fun a w ha hw hm => wpIn_mono (h.out a w ha hw hm) fun e a w hq => by
    cases e <;> first | exact k.out a w hq.1 hq.2.1 hq.2.2 | exact hq⟩
theorem T.cutX {ι : Type} (G : ι → SFs) (H : ι → HS) (φ : ι → Prop) (h : T F P n B D M x (Exit.then (fun a w => ∃ i, φ i ∧ At n B D M (G i) (H i) a w) Q) fs hs) (k : ∀ i, φ i → T F P n B D M y Q (G i) (H i)) : T F P n B D M (.seq x y) Q fs hs :=
  T.seq ⟨fun a w ha hw hm => wpIn_mono (h.out a w ha hw hm) fun e a w hq => by
    cases e <;> first | (obtain ⟨i, hi, h1, h2, h3⟩ := hq; exact (k i hi).out a w h1 h2 h3) | exact hq⟩
theorem K.at {gs : SFs} {hs' : HS} (h1 : Sub fs gs) (h2 : hs'.Sublist hs) : K n B D M (Exit.then (At n B D M gs hs') Q) .normal fs hs := ⟨fun _ _ ha hw hm => ⟨ha.sub h1, hw.sub h2, hm⟩⟩
theorem K.atX {ι : Type} {G : ι → SFs} {H : ι → HS} {φ : ι → Prop} (i : ι) (hi : φ i) (h1 : Sub fs (G i)) (h2 : (H i).Sublist hs) : K n B D M (Exit.then (fun a w => ∃ i, φ i ∧ At n B D M (G i) (H i) a w) Q) .normal fs hs := ⟨fun _ _ ha hw hm => ⟨i, hi, ha.sub h1, hw.sub h2, hm⟩⟩

/-- A loop with a ghost. -/
def LoopK {ι : Type} (n : Nat) (B D : World) (M : Nat → Prop) (G : ι → SFs) (H : ι → HS) (φ : ι → Prop) (μ : ι → Nat) (m : Nat) (a : Act) (w : World) : Prop := ∃ n', n' < m ∧ ∃ j, φ j ∧ μ j = n' ∧ Fr n (G j) a ∧ Hp B M (H j) w ∧ Mk B D a w
theorem T.loop {ι : Type} (G : ι → SFs) (H : ι → HS) (φ : ι → Prop) (μ : ι → Nat) (i : ι) (h0 : φ i) (h1 : Sub fs (G i)) (h2 : (H i).Sublist hs)
    (round : ∀ i, φ i → T F P n B D M c (Exit.then (LoopK n B D M G H φ μ (μ i)) Q) (G i) (H i)) : T F P n B D M (.loop c) Q fs hs :=
  ⟨fun a w ha hw hm => wpIn_loop_ghost (fun m a w => ∃ j, φ j ∧ μ j = m ∧ Fr n (G j) a ∧ Hp B M (H j) w ∧ Mk B D a w) (μ i) ⟨i, h0, rfl, ha.sub h1, hw.sub h2, hm⟩
    (fun m a w ⟨j, hj, hm, hfa, hfw, hk⟩ => by subst hm; exact (round j hj).out a w hfa hfw hk)⟩
theorem K.next {ι : Type} {G : ι → SFs} {H : ι → HS} {φ : ι → Prop} {μ : ι → Nat} {m : Nat} (j : ι) (hj : φ j) (hm : μ j < m) (h1 : Sub fs (G j)) (h2 : (H j).Sublist hs) : K n B D M (Exit.then (LoopK n B D M G H φ μ m) Q) .normal fs hs :=
  ⟨fun _ _ ha hw hk => ⟨μ j, hm, j, hj, rfl, ha.sub h1, hw.sub h2, hk⟩⟩

/-- Entering a function. -/
def mkFs : Nat → List Value → SFs
  | _, [] => []
  | i, v :: r => (i, v) :: mkFs (i + 1) r
theorem look_mkFs : ∀ (l : List Value) (i t : Nat) (v : Value), look (mkFs i l) t = some v → i ≤ t ∧ l[t - i]? = some v
  | [], _, _, _, h => by cases h
  | u :: r, i, t, v, h => by
    simp only [mkFs, look] at h
    cases hb : Nat.beq i t with
    | true =>
      rw [hb] at h
      have := Nat.eq_of_beq_eq_true hb
      subst this
      simpa using h
    | false =>
      rw [hb] at h
      have hne : i ≠ t := fun e => by subst e; have : Nat.beq i i = true := Nat.beq_refl _; rw [this] at hb; cases hb
      obtain ⟨h1, h2⟩ := look_mkFs r (i + 1) t v h
      have e : t - i = (t - (i + 1)) + 1 := by omega
      exact ⟨by omega, by rw [e]; simpa using h2⟩
/-- What the body must achieve; it never panics. -/
def bodyQ (P : Program) (fn : Func) (R : Ending → World → Prop) : Exit → Act → World → Prop
  | .normal, a, w | .ret, a, w => LeavesInM Fence.wide 0 P fn a.tmps R a.defers .returning w
  | _, _, _ => False
theorem calls_TB {f : FuncId} {fn : Func} {c : Code} {args : List Value} {w : World} {R : Ending → World → Prop} {hs : HS} (hf : P.funcs[f]? = some fn) (hb : fn.body = some c) (hn : fn.ntmps = n) (hlen : Nat.ble args.length n = true)
    (hh : Hp B M hs w) (h : T Fence.wide P n B w M c (bodyQ P fn R) (mkFs 0 args) hs) : Calls P f args.toArray w R := by
  have hle : args.length ≤ n := by simpa using hlen
  refine callsIn_wide.1 (callsIn_of_wp_marks (F := Fence.wide) (n := 0) hf hb trivial (wpIn_mono (h.out { tmps := args.toArray ++ Array.replicate (fn.ntmps - args.toArray.size) undef, defers := [] } w ⟨?_, ?_⟩ hh ⟨Kp.refl w, [], rfl, List.nodup_nil, fun _ h => by cases h⟩) ?_))
  · simp [hn]; omega
  · intro t v e
    obtain ⟨_, h2⟩ := look_mkFs _ _ _ _ e
    rw [Nat.sub_zero] at h2
    have ht : t < args.length := (List.getElem?_eq_some_iff.1 h2).1
    rw [Array.getElem?_append_left (by simpa using ht)]
    simpa using h2
  · intro e a w hq
    cases e <;> first | exact hq | exact hq.elim
theorem calls_T {f : FuncId} {fn : Func} {c : Code} {args : List Value} {w : World} {R : Ending → World → Prop} {hs : HS} (hf : P.funcs[f]? = some fn) (hb : fn.body = some c) (hn : fn.ntmps = n) (hlen : Nat.ble args.length n = true)
    (hh : Hp w M hs w) (h : T Fence.wide P n w w M c (bodyQ P fn R) (mkFs 0 args) hs) : Calls P f args.toArray w R := calls_TB hf hb hn hlen hh h
theorem Hp.other {w w' : World} {hs : HS} {r : Nat} (h : Hp B M hs w) (ho : Only (· = r) w w') (hr : B.heap.size ≤ r) (hn : ∀ e ∈ hs, ¬ e.fp r) : Hp B M hs w' :=
  ⟨ho.os.trans h.os, ho.tape.trans h.tape, ho.output.trans h.output, Nat.le_trans h.size ho.size, fun k hk hM => by rw [ho.block k (Nat.lt_of_lt_of_le hk h.size) (by omega)]; exact h.base k hk hM,
    fun e he => e.loc (fun g hg => ho.block g (e.lt (h.own e he) g hg) (fun e' => hn e he (e' ▸ hg))) (h.own e he), h.new, h.apart⟩
theorem Hp.notMark {w : World} {hs : HS} {r : Nat} {c : Option (List Deferred)} (h : Hp B M hs w) (hr : w.heap[r]? = some (.deferred c)) : ∀ e ∈ hs, ¬ e.fp r := fun e he hg => e.nd (h.own e he) r hg c hr
theorem leaves_marks {fn : Func} {R : Ending → World → Prop} {hs : HS} {tmps : Array Value} {v : Value} (hv : ∀ w, Hp B M hs w → Kp D w → (results fn tmps).run P w = .ok v w ∧ R (.returned v) w) :
    ∀ (rs : List Nat) (w : World), Hp B M hs w → Kp D w → rs.Nodup → (∀ r ∈ rs, w.heap[r]? = some (.deferred (some [])) ∧ B.heap.size ≤ r ∧ D.heap.size ≤ r) → LeavesInM Fence.wide 0 P fn tmps R (rs.map mark) .returning w
  | [], w, h, hk, _, _ => ⟨v, (hv w h hk).1, (hv w h hk).2⟩
  | r :: rs, w, h, hk, hn, hr => by
    obtain ⟨h1, h2, h3⟩ := hr r (by simp)
    have hlt := (Array.getElem?_eq_some_iff.1 h1).1
    have ho : Only (· = r) w (w.putObj r (.deferred none)) := ⟨rfl, rfl, rfl, by rw [World.putObj_size]; exact Nat.le_refl _, fun k hk hne => World.putObj_heap_other hne⟩
    refine ⟨by simp, .inl ⟨r, w.putObj r (.deferred none), rfl, run_takeDeferred h1, ?_⟩⟩
    rw [List.nodup_cons] at hn
    refine leaves_marks hv rs _ (h.other ho h2 (h.notMark h1)) ⟨Nat.le_trans hk.size ho.size, fun q c hq => ?_⟩ hn.2 (fun q hq => ?_)
    · have hq' := (Array.getElem?_eq_some_iff.1 hq).1
      exact (World.putObj_heap_other (by omega)).trans (hk.keep q c hq)
    · have hq' := hr q (by simp [hq])
      exact ⟨(World.putObj_heap_other (fun (e : q = r) => hn.1 (by rw [← e]; exact hq))).trans hq'.1, hq'.2⟩
theorem K.leaveK {fn : Func} {R : Ending → World → Prop} {v : Value} (hv : ∀ a w, Fr n fs a → Hp B M hs w → (results fn a.tmps).run P w = .ok v w) (h : ∀ w, Hp B M hs w → Kp D w → R (.returned v) w) : K n B D M (bodyQ P fn R) .ret fs hs ∧ K n B D M (bodyQ P fn R) .normal fs hs := by
  have key : ∀ a w, Fr n fs a → Hp B M hs w → Mk B D a w → LeavesInM Fence.wide 0 P fn a.tmps R a.defers .returning w := fun a w ha hw ⟨h0, rs, h1, h2, h3⟩ => by
    rw [h1]; exact leaves_marks (fun w' hw' hk => ⟨hv a w' ha hw', h w' hw' hk⟩) rs w hw h0 h2 h3
  exact ⟨⟨key⟩, ⟨key⟩⟩
theorem K.leave {fn : Func} {R : Ending → World → Prop} {v : Value} (hv : ∀ a w, Fr n fs a → Hp B M hs w → (results fn a.tmps).run P w = .ok v w) (h : ∀ w, Hp B M hs w → R (.returned v) w) : K n B D M (bodyQ P fn R) .ret fs hs ∧ K n B D M (bodyQ P fn R) .normal fs hs := K.leaveK hv (fun w hw _ => h w hw)
theorem K.ret0K {fn : Func} {R : Ending → World → Prop} (hr : fn.results = #[]) (h : ∀ w, Hp B M hs w → Kp D w → R (.returned (.tuple #[])) w) : K n B D M (bodyQ P fn R) .ret fs hs := (K.leaveK (fun _ _ _ _ => results_none hr _ _ _) h).1
theorem K.end0K {fn : Func} {R : Ending → World → Prop} (hr : fn.results = #[]) (h : ∀ w, Hp B M hs w → Kp D w → R (.returned (.tuple #[])) w) : K n B D M (bodyQ P fn R) .normal fs hs := (K.leaveK (fun _ _ _ _ => results_none hr _ _ _) h).2
theorem K.ret1 {fn : Func} {R : Ending → World → Prop} {t : Nat} {v : Value} (hr : fn.results = #[.tmp t]) (hv : look fs t = some v) (h : ∀ w, Hp B M hs w → R (.returned v) w) : K n B D M (bodyQ P fn R) .ret fs hs :=
  (K.leave (fun a w ha _ => by rw [results_tmp hr]; simp [ha.get t v hv]) h).1
theorem K.ret2 {fn : Func} {R : Ending → World → Prop} {t u : Nat} {v x : Value} (hr : fn.results = #[.tmp t, .tmp u]) (hv : look fs t = some v) (hx : look fs u = some x) (h : ∀ w, Hp B M hs w → R (.returned (.tuple #[v, x])) w) : K n B D M (bodyQ P fn R) .ret fs hs :=
  (K.leave (fun a w ha _ => by rw [results_tmp2 hr]; simp only [Array.getD_eq_getD_getElem?, ha.get t v hv, ha.get u x hx]; rfl) h).1
theorem K.ret0 {fn : Func} {R : Ending → World → Prop} (hr : fn.results = #[]) (h : ∀ w, Hp B M hs w → R (.returned (.tuple #[])) w) : K n B D M (bodyQ P fn R) .ret fs hs := (K.leave (fun _ _ _ _ => results_none hr _ _ _) h).1
theorem K.end0 {fn : Func} {R : Ending → World → Prop} (hr : fn.results = #[]) (h : ∀ w, Hp B M hs w → R (.returned (.tuple #[])) w) : K n B D M (bodyQ P fn R) .normal fs hs := (K.leave (fun _ _ _ _ => results_none hr _ _ _) h).2
end
end Go.Proofs.YtljgejbmimapdaaDoor
