/- Fa Fb Fc Fd Ca Ya: shortened and put together by squeeze.py. -/
import Derived.Test.YtljgejbmimapdaaDoorQ06
set_option maxRecDepth 100000
set_option maxHeartbeats 4000000
set_option linter.unusedVariables false
set_option linter.unusedSectionVars false
set_option linter.unusedSimpArgs false
namespace Go.Proofs.YtljgejbmimapdaaDoor
open Go.RowKit
/-! ### Frozen blocks -/
def Cb (w : World) (g : Nat) : Prop := ∃ cs t p, w.heap[g]? = some (.cells cs t p)
theorem Cb.lt {w : World} {g : Nat} (h : Cb w g) : g < w.heap.size := by
  obtain ⟨_, _, _, e⟩ := h; exact (Array.getElem?_eq_some_iff.1 e).1
/-- Blocks that stay as they are in w. -/
structure Frz where
  S : Nat → Prop
  w : World
  c : ∀ g, S g → Cb w g
def Frz.Le (F G : Frz) : Prop := ∀ g, F.S g → G.S g ∧ G.w.heap[g]? = F.w.heap[g]?
def Frz.At (F : Frz) (w : World) : Prop := ∀ g, F.S g → w.heap[g]? = F.w.heap[g]?
theorem Frz.Le.refl (F : Frz) : F.Le F := fun _ h => ⟨h, rfl⟩
theorem Frz.Le.trans {F G H : Frz} (h : F.Le G) (k : G.Le H) : F.Le H := fun g hg => ⟨(k g (h g hg).1).1, ((k g (h g hg).1).2).trans (h g hg).2⟩
theorem Frz.At.le {F G : Frz} {w : World} (k : G.At w) (h : F.Le G) : F.At w := fun g hg => (k g (h g hg).1).trans (h g hg).2
theorem Frz.At.cb {F : Frz} {w : World} (h : F.At w) {g : Nat} (hg : F.S g) : Cb w g := by
  obtain ⟨a, b, c, e⟩ := F.c g hg; exact ⟨a, b, c, (h g hg).trans e⟩
theorem Frz.At.below {F : Frz} {w w' : World} (h : F.At w) (hb : Below w.heap.size w w') : F.At w' := fun g hg => (hb.block g (h.cb hg).lt).trans (h g hg)
def Frz.all (w : World) : Frz := ⟨Cb w, w, fun _ h => h⟩
theorem Frz.all_at (w : World) : (Frz.all w).At w := fun _ _ => rfl
def Frz.none (w : World) : Frz := ⟨fun _ => False, w, fun _ h => h.elim⟩
theorem Frz.none_at (w : World) : (Frz.none w).At w := fun _ h => h.elim
/-- From F at w to G at w': nothing old is turned, and what is frozen anew is new. -/
structure Fx (F : Frz) (w : World) (G : Frz) (w' : World) : Prop where
  le : F.Le G
  at_ : G.At w'
  new : ∀ g, G.S g → F.S g ∨ w.heap.size ≤ g
  bel : Below w.heap.size w w'
theorem Fx.refl {F : Frz} {w w' : World} (h : F.At w) (hb : Below w.heap.size w w') : Fx F w F w' := ⟨.refl F, h.below hb, fun _ h => .inl h, hb⟩
/-- Frozen blocks of a function that starts in B and may turn M. -/
structure FzB (B : World) (M S0 : Nat → Prop) extends Frz where
  base : ∀ g, S g → g < B.heap.size → ¬ M g → w.heap[g]? = B.heap[g]?
  new : ∀ g, S g → S0 g ∨ M g ∨ B.heap.size ≤ g
@[irreducible] def Ent.fr {B : World} {M S0 : Nat → Prop} (F : FzB B M S0) : Ent where
  fp g := F.S g ∧ (M g ∨ B.heap.size ≤ g)
  ok w := ∀ g, F.S g ∧ (M g ∨ B.heap.size ≤ g) → w.heap[g]? = F.w.heap[g]?
  loc h k := fun g hg => (h g hg).trans (k g hg)
  lt h g hg := by
    obtain ⟨_, _, _, e⟩ := F.c g hg.1; exact (Array.getElem?_eq_some_iff.1 ((h g hg).trans e)).1
  nd h g hg c := by
    obtain ⟨_, _, _, e⟩ := F.c g hg.1; rw [(h g hg).trans e]; simp
section
variable {B w w' : World} {M S0 : Nat → Prop} {hs hs' : HS} {F G : FzB B M S0}
theorem Ent.fr_fp {k : Nat} : (Ent.fr F).fp k ↔ F.S k ∧ (M k ∨ B.heap.size ≤ k) := by unfold Ent.fr; exact Iff.rfl
theorem Ent.fr_ok : (Ent.fr F).ok w ↔ ∀ g, F.S g ∧ (M g ∨ B.heap.size ≤ g) → w.heap[g]? = F.w.heap[g]? := by unfold Ent.fr; exact Iff.rfl
theorem Hp.fr {i : Nat} (hw : Hp B M hs w) (hi : hs[i]? = some (.fr F)) : F.toFrz.At w := fun g hg => by
  by_cases h : M g ∨ B.heap.size ≤ g
  · exact Ent.fr_ok.1 (hw.get hi) g ⟨hg, h⟩
  · have h1 : g < B.heap.size := by
      rcases Nat.lt_or_ge g B.heap.size with h2 | h2
      · exact h2
      · exact absurd (.inr h2) h
    have h2 : ¬ M g := fun k => h (.inl k); rw [hw.base g h1 h2, F.base g hg h1 h2]
def Frz.inB {F : Frz} {w : World} (hF : F.At w) (M : Nat → Prop) : FzB w M F.S := ⟨F, fun g hg _ _ => (hF g hg).symm, fun g hg => .inl hg⟩
theorem Hp.startF {F : Frz} {w : World} (hF : F.At w) : Hp w (fun _ => False) [.fr (Frz.inB hF (fun _ => False))] w := by
  have hno : ∀ g, ¬ (Ent.fr (Frz.inB hF (fun _ => False))).fp g := fun g hg => by
    have h := Ent.fr_fp.1 hg; rcases h.2 with h2 | h2
    · exact h2
    · exact absurd (hF.cb h.1).lt (by omega)
  exact ⟨rfl, rfl, rfl, Nat.le_refl _, fun _ _ _ => rfl, fun e he => by simp at he; subst he; exact Ent.fr_ok.2 (fun g hg => absurd (Ent.fr_fp.2 hg) (hno g)), fun e he g hg => by simp at he; subst he; exact absurd hg (hno g), List.pairwise_singleton _ _⟩
/-- With entries of its own. -/
theorem Hp.startFM {F : Frz} {w : World} {es : HS} (hF : F.At w) (h : Hp w (fps es) es w) (hM : ∀ g, fps es g → ¬ F.S g) : Hp w (fps es) (es ++ [.fr (Frz.inB hF (fps es))]) w := by
  have hno : ∀ g, ¬ (Ent.fr (Frz.inB hF (fps es))).fp g := fun g hg => by
    have h := Ent.fr_fp.1 hg; rcases h.2 with h2 | h2
    · exact hM g h2 h.1
    · exact absurd (hF.cb h.1).lt (by omega)
  refine ⟨rfl, rfl, rfl, Nat.le_refl _, fun _ _ _ => rfl, fun e he => ?_, fun e he g hg => ?_, ?_⟩
  · rcases List.mem_append.1 he with he | he
    · exact h.own e he
    · simp at he; subst he; exact Ent.fr_ok.2 (fun g hg => absurd (Ent.fr_fp.2 hg) (hno g))
  · rcases List.mem_append.1 he with he | he
    · exact h.new e he g hg
    · simp at he; subst he; exact absurd hg (hno g)
  · exact List.pairwise_append.2 ⟨h.apart, List.pairwise_singleton _ _, fun e he f hf g hg hfg => by simp at hf; subst hf; exact hno g hfg⟩
/-- A frozen set is made smaller, or stated in an older world. -/
theorem Hp.frLe {i : Nat} (hw : Hp B M hs w) (hi : hs[i]? = some (.fr G)) (h : F.toFrz.Le G.toFrz) : Hp B M (hs.set i (.fr F)) w :=
  hw.updAt (w' := w) hi (Only.refl _ _) (S := fun _ => False) (fun _ _ h => h.elim) (Ent.fr_ok.2 (fun g hg => ((hw.fr hi).le h) g hg.1)) (fun g hg => .inl (Ent.fr_fp.2 ⟨(h g (Ent.fr_fp.1 hg).1).1, (Ent.fr_fp.1 hg).2⟩))
end
theorem startF_ex {F : Frz} {w : World} (hF : F.At w) : ∃ (S0 : Nat → Prop) (G : FzB w (fun _ => False) S0), G.toFrz = F ∧ (∀ g, S0 g → F.S g) ∧ Hp w (fun _ => False) [.fr G] w := ⟨F.S, Frz.inB hF _, rfl, fun _ h => h, Hp.startF hF⟩
theorem Fx.of {F : Frz} {w w' : World} {S0 : Nat → Prop} {hs : HS} {i : Nat} {G : FzB w (fun _ => False) S0} (hw : Hp w (fun _ => False) hs w') (hi : hs[i]? = some (.fr G)) (hS : ∀ g, S0 g → F.S g) (hle : F.Le G.toFrz) : Fx F w G.toFrz w' :=
  ⟨hle, hw.fr hi, fun g hg => (G.new g hg).imp (hS g) (fun h => h.elim (fun h => h.elim) id), hw.isBelow⟩
/-! ### Slices that are read -/
/-- The slice v reads as these rows of cells, in frozen memory. -/
def SlC (F : Frz) (v : Value) (size : Nat) (cs : List (List Value)) : Prop :=
  ∃ (A : Option Addr) (cap : Nat), v = .slice A cs.length cap ∧ cs.length ≤ cap ∧ cap ≤ 9223372036854775807 ∧ (∀ c ∈ cs, c.length = size) ∧ (0 < cs.length → ∃ g off, A = some ⟨g, off, none⟩ ∧ F.S g ∧ ∀ i, i < cs.length → Cs F.w g (off + i * size) (nth cs i))
theorem cell_block {w w' : World} {g p : Nat} (h : w'.heap[g]? = w.heap[g]?) : w'.cell? ⟨g, p, none⟩ = w.cell? ⟨g, p, none⟩ := by
  unfold World.cell?; simp only [h]
theorem Cs.at {F : Frz} {w : World} (h : F.At w) {g p : Nat} {l : List Value} (hg : F.S g) (hc : Cs F.w g p l) : Cs w g p l := fun j hj => by
  rw [cell_block (h g hg)]; exact hc j hj
theorem SlC.mono {F G : Frz} {v : Value} {size : Nat} {cs : List (List Value)} (h : SlC F v size cs) (hle : F.Le G) : SlC G v size cs := by
  obtain ⟨A, cap, h1, h2, h3, h4, h5⟩ := h; refine ⟨A, cap, h1, h2, h3, h4, fun hl => ?_⟩; obtain ⟨g, off, h6, h7, h8⟩ := h5 hl; exact ⟨g, off, h6, (hle g h7).1, fun i hi j hj => by rw [cell_block (hle g h7).2]; exact h8 i hi j hj⟩
theorem SlC.max {F : Frz} {v : Value} {size : Nat} {cs : List (List Value)} (h : SlC F v size cs) : cs.length ≤ 9223372036854775807 := by
  obtain ⟨A, cap, h1, h2, h3, _⟩ := h; omega
theorem SlC.nil (F : Frz) (size : Nat) : SlC F (.slice none 0 0) size [] := ⟨none, 0, rfl, Nat.le_refl _, by omega, (fun _ h => by cases h), (fun h => absurd h (Nat.lt_irrefl 0))⟩
/-- The address of a slice's cell. -/
def vAddr (v : Value) (k : Nat) : Value := match v with
  | .slice (some a) _ _ => .pointer (some (a.add k))
  | _ => .pointer none
theorem vAddr_some {g off n cap k : Nat} : vAddr (.slice (some ⟨g, off, none⟩) n cap) k = .pointer (some ⟨g, off + k, none⟩) := by
  show Value.pointer (some (Addr.add ⟨g, off, none⟩ k)) = _
  rw [add_off]
theorem SlC.addr {F : Frz} {v : Value} {size : Nat} {cs : List (List Value)} (h : SlC F v size cs) (hl : 0 < cs.length) : ∃ g off cap, v = .slice (some ⟨g, off, none⟩) cs.length cap ∧ F.S g ∧ ∀ i, i < cs.length → Cs F.w g (off + i * size) (nth cs i) := by
  obtain ⟨A, cap, h1, h2, h3, h4, h5⟩ := h; obtain ⟨g, off, rfl, h7, h8⟩ := h5 hl; exact ⟨g, off, cap, h1, h7, h8⟩
theorem SlC.row {F : Frz} {v : Value} {size : Nat} {cs : List (List Value)} (h : SlC F v size cs) {i : Nat} (hi : i < cs.length) : (nth cs i).length = size := by
  obtain ⟨A, cap, h1, h2, h3, h4, h5⟩ := h; rw [nth_eq hi]; exact h4 _ (List.getElem_mem hi)
section
variable {Fe : Fence} [hFe : Calm Fe] {P : Program} {n : Nat} {B D : World} {M S0 : Nat → Prop} {Q : Exit → Act → World → Prop} {fs : SFs} {hs : HS} {ops : Array Oper} {rest : List Oper} {o : Oper} {v val : Value}
theorem Yv.lenR {F : Frz} {t e k size m : Nat} {cs : List (List Value)} {x : Operand} [hT : TySl P t e k] (ho : o.op = .call { callee := .builtin .len, args := #[x], argTypes := #[t] }) (hx : ev fs x = some v) (h : SlC F v size cs) (hm : cs.length = m) : Yv P n B M fs hs o (.int .i64 (m : Int)) := by
  obtain ⟨A, cap, h1, _⟩ := h; subst h1 hm; exact Yv.lenSl ho hx
theorem Yv.idxR {F : Frz} {t e k i m : Nat} {z : Int} {q : IntKind} {cs : List (List Value)} {x y : Operand} [hT : TySl P t e k] (ho : o.op = .indexAddr t x y) (hx : ev fs x = some v) (hy : ev fs y = some (.int q z)) (h : SlC F v k cs) (hm : cs.length = m) (hz : z = (i : Int)) (hi : i < m) : Yv P n B M fs hs o (vAddr v (i * k)) := by
  subst hm; obtain ⟨g, off, cap, rfl, _⟩ := h.addr (by omega); rw [vAddr_some]; exact Yv.indexSl ho hx hy hz hi
theorem Yv.fldR {F : Frz} {s f off p k m : Nat} {cs : List (List Value)} {x : Operand} [hT : TyF P s f off] (ho : o.op = .fieldAddr s x f) (hx : ev fs x = some (vAddr v p)) (h : SlC F v k cs) (hm : cs.length = m) (hi : 0 < m) : Yv P n B M fs hs o (vAddr v (p + off)) := by
  subst hm; obtain ⟨g, o', cap, rfl, _⟩ := h.addr (by omega); rw [vAddr_some] at hx ⊢; exact (Yv.fieldAddr ho hx).eq (by rw [Nat.add_assoc])
theorem Yv.loadR (ix : Nat) {F : FzB B M S0} {t : TypeId} [hT : TyS P t] {k i j p m : Nat} {cs : List (List Value)} {x : Operand} (ho : o.op = .load t x) (hx : ev fs x = some (vAddr v p)) (hF : hs[ix]? = some (.fr F)) (h : SlC F.toFrz v k cs) (hm : cs.length = m) (hi : i < m) (hp : p = i * k + j) (hv : (nth cs i)[j]? = some val) : Yv P n B M fs hs o val := by
  subst hm hp; obtain ⟨g, off, cap, rfl, hg, hc⟩ := h.addr (by omega); rw [vAddr_some] at hx; intro a w ha hw; refine run_load1 ho (ha.ev hx) ?_; have := Cs.at (hw.fr hF) hg (hc i hi) j (List.getElem?_eq_some_iff.1 hv).1; rw [show off + (i * k + j) = off + i * k + j by omega, this, hv]
theorem Yv.loadRA (ix : Nat) {F : FzB B M S0} {t : TypeId} {q : Nat} [hT : TyA P t q] {k i j p m : Nat} {cs : List (List Value)} {l : List Value} {x : Operand} (ho : o.op = .load t x) (hx : ev fs x = some (vAddr v p)) (hF : hs[ix]? = some (.fr F)) (h : SlC F.toFrz v k cs) (hm : cs.length = m) (hi : i < m) (hp : p = i * k + j) (hv : ((nth cs i).drop j).take q = l) (hl : l.length = q) : Yv P n B M fs hs o (.agg l.toArray) := by
  subst hm hp; obtain ⟨g, off, cap, rfl, hg, hc⟩ := h.addr (by omega); rw [vAddr_some] at hx; intro a w ha hw; refine run_loadA ho (ha.ev hx) (fun b hb => ?_) hl
  have hlen : j + b < (nth cs i).length := by
    have := congrArg List.length hv; simp at this; omega
  have := Cs.at (hw.fr hF) hg (hc i hi) (j + b) hlen; rw [show off + (i * k + j) + b = off + i * k + (j + b) by omega, this, ← hv, List.getElem?_take_of_lt (by omega), List.getElem?_drop]
/-! ### Freezing what is owned -/
/-- A slice of n elements whose cells lie in frozen memory. -/
def SlK (F : Frz) (v : Value) (size n : Nat) (l : List Value) : Prop :=
  l.length = n * size ∧ ∃ (A : Option Addr) (cap : Nat), v = .slice A n cap ∧ n ≤ cap ∧ cap ≤ 9223372036854775807 ∧ (0 < n → ∃ g, A = some ⟨g, 0, none⟩ ∧ F.S g ∧ Cs F.w g 0 l)
def FzB.addB {w : World} (F : FzB B M S0) (hF : F.toFrz.At w) {g : Nat} (hg : Cb w g) (hb : M g ∨ B.heap.size ≤ g) : FzB B M S0 where
  S k := F.S k ∨ k = g
  w := w
  c k hk := by rcases hk with h | rfl; exact hF.cb h; exact hg
  base k hk h1 h2 := by
    rcases hk with h | rfl
    · rw [hF k h, F.base k h h1 h2]
    · rcases hb with h | h
      · exact absurd h h2
      · omega
  new k hk := by
    rcases hk with h | rfl
    · exact F.new k h
    · exact .inr hb
theorem FzB.addB_le {w : World} (F : FzB B M S0) (hF : F.toFrz.At w) {g : Nat} (hg : Cb w g) (hb : M g ∨ B.heap.size ≤ g) : F.toFrz.Le (F.addB hF hg hb).toFrz := fun k hk => ⟨.inl hk, hF k hk⟩
theorem erase_set_perm {i j : Nat} {a b a' : Ent} (hij : i ≠ j) (hi : hs[i]? = some a) (hj : hs[j]? = some b) : ∃ r : HS, hs.Perm ([a, b] ++ r) ∧ ((hs.set i a').eraseIdx j).Perm ([a'] ++ r) := by
  have h1 := set_perm hi; (have hj' : (hs.set i a')[j]? = some b := by rw [List.getElem?_set_ne hij]; exact hj); have h2 := set_perm hj'; have h3 := set_perm' (e' := a') hi
  -- b lies in the rest
  have hb : b ∈ hs.eraseIdx i := by
    rw [List.mem_eraseIdx_iff_getElem?]; exact ⟨j, fun e => hij e.symm, hj⟩
  obtain ⟨r1, r2, hr⟩ := List.append_of_mem hb; refine ⟨r1 ++ r2, ?_, ?_⟩
  · refine h1.trans ?_; rw [hr]; exact (List.perm_middle.cons a)
  · have h4 : (b :: (hs.set i a').eraseIdx j).Perm (b :: ([a'] ++ (r1 ++ r2))) := by
      refine h2.symm.trans (h3.symm.trans ?_); rw [hr]; exact (List.perm_middle.cons a').trans (List.Perm.swap _ _ _)
    exact (List.perm_cons b).1 h4
theorem Hp.freezeB {w : World} {i j : Nat} {F : FzB B M S0} {e : Ent} (hw : Hp B M hs w) (hij : i ≠ j) (hi : hs[i]? = some (.fr F)) (hj : hs[j]? = some e) {g : Nat} (hfp : e.fp g) (hg : Cb w g) :
    ∃ G : FzB B M S0, F.toFrz.Le G.toFrz ∧ G.S g ∧ G.w = w ∧ Hp B M ((hs.set i (.fr G)).eraseIdx j) w := by
  have hF := hw.fr hi; have hb := hw.new e (List.mem_of_getElem? hj) g hfp; refine ⟨F.addB hF hg hb, F.addB_le hF hg hb, .inr rfl, rfl, ?_⟩; obtain ⟨r, h1, h2⟩ := erase_set_perm (a' := .fr (F.addB hF hg hb)) hij hi hj; refine Hp.perm ?_ h2.symm; refine Hp.repl (hw.perm h1) ?_ ?_ (List.pairwise_singleton _ _)
  · intro x hx; simp at hx; subst hx; exact Ent.fr_ok.2 (fun k hk => rfl)
  · intro x hx k hk; simp at hx; subst hx; have h := Ent.fr_fp.1 hk; rcases h.1 with h3 | h3
    · exact ⟨_, by simp, Ent.fr_fp.2 ⟨h3, h.2⟩⟩
    · subst h3; exact ⟨e, by simp, hfp⟩
theorem Hp.drop {w : World} (hw : Hp B M hs w) (j : Nat) : Hp B M (hs.eraseIdx j) w := hw.sub (List.eraseIdx_sublist _ _)
theorem set_same {α : Type} {l : List α} {i : Nat} {a : α} (h : l[i]? = some a) : l.set i a = l := by
  obtain ⟨hi, rfl⟩ := List.getElem?_eq_some_iff.1 h; exact List.set_getElem_self hi
theorem Hp.freezeS {w : World} {i j : Nat} {F : FzB B M S0} {e : TypeId} {size k : Nat} {l : List Value} (hw : Hp B M hs w) (hij : i ≠ j) (hi : hs[i]? = some (.fr F)) (hj : hs[j]? = some (.sl v e size k l)) :
    ∃ G : FzB B M S0, (F.toFrz.Le G.toFrz ∧ SlK G.toFrz v size k l) ∧ Hp B M ((hs.set i (.fr G)).eraseIdx j) w := by
  have ho := Ent.sl_ok.1 (hw.get hj); rcases ho.2 with ⟨rfl, h0⟩ | ⟨g, cap, cur, rfl, hb, hg, hnc, hcm, hcs, htake⟩
  · subst h0; exact ⟨F, ⟨.refl _, ho.1, none, 0, rfl, Nat.le_refl _, by omega, fun h => by omega⟩, by rw [set_same hi]; exact hw.drop j⟩
  · obtain ⟨G, h1, h2, h3, h4⟩ := hw.freezeB hij hi hj (g := g) (Ent.sl_fp.2 rfl) ⟨_, _, _, hg⟩; refine ⟨G, ⟨h1, ho.1, _, cap, rfl, hnc, by unfold maxLen at hcm; omega, fun _ => ⟨g, rfl, h2, fun q hq => ?_⟩⟩, h4⟩; rw [h3, Nat.zero_add, World.ownsRow.cellAt ho q (by rw [← ho.1]; exact hq)]
theorem Hp.freezeR {w : World} {i j : Nat} {F : FzB B M S0} {e : TypeId} {g : Nat} {l : List Value} (hw : Hp B M hs w) (hij : i ≠ j) (hi : hs[i]? = some (.fr F)) (hj : hs[j]? = some (.row g e l)) :
    ∃ G : FzB B M S0, (F.toFrz.Le G.toFrz ∧ G.S g ∧ Cs G.w g 0 l) ∧ Hp B M ((hs.set i (.fr G)).eraseIdx j) w := by
  have ho := Ent.row_ok.1 (hw.get hj); obtain ⟨G, h1, h2, h3, h4⟩ := hw.freezeB hij hi hj (g := g) (Ent.row_fp.2 rfl) ⟨_, _, _, ho⟩; exact ⟨G, ⟨h1, h2, fun q hq => by rw [h3, Nat.zero_add, row_cell ho]⟩, h4⟩
theorem SlK.lit {F : Frz} {g k c size : Nat} {l : List Value} (h : F.S g ∧ Cs F.w g 0 l) (hl : l.length = k * size) (hc : k ≤ c) (hm : c ≤ 9223372036854775807) : SlK F (.slice (some ⟨g, 0, none⟩) k c) size k l := ⟨hl, _, c, rfl, hc, hm, fun _ => ⟨g, rfl, h.1, h.2⟩⟩
theorem nth_mapF {α β : Type} [Inhabited α] [Inhabited β] {f : α → β} {xs : List α} {i : Nat} (h : i < xs.length) : nth (xs.map f) i = f (nth xs i) := by
  rw [nth_eq (by simpa using h), nth_eq h, List.getElem_map]
theorem flat_take {size : Nat} : ∀ (cs : List (List Value)), (∀ c ∈ cs, c.length = size) → ∀ i, i < cs.length → ∀ j, j < size → (cs.flatten)[i * size + j]? = (nth cs i)[j]?
  | c :: r, h, 0, _, j, hj => by
    have := h c (by simp); simp only [List.flatten_cons, Nat.zero_mul, Nat.zero_add]; rw [List.getElem?_append_left (by omega)]; rfl
  | c :: r, h, i + 1, hi, j, hj => by
    have hc := h c (by simp); simp only [List.flatten_cons]; rw [List.getElem?_append_right (by rw [hc, Nat.add_mul]; omega), hc]; (have e : (i + 1) * size + j - size = i * size + j := by rw [Nat.add_mul]; omega); rw [e, flat_take r (fun c' h' => h c' (by simp [h'])) i (by simpa using hi) j hj]; simp [nth]
/-- Rows that stand for elements. -/
def OwnD {α : Type} [Inhabited α] (rep : Frz → List Value → α → Prop) (F : Frz) (size : Nat) (cs : List (List Value)) (xs : List α) : Prop := cs.length = xs.length ∧ (∀ c ∈ cs, c.length = size) ∧ ∀ i, i < xs.length → rep F (nth cs i) (nth xs i)
def SlD {α : Type} [Inhabited α] (rep : Frz → List Value → α → Prop) (F : Frz) (v : Value) (size : Nat) (cs : List (List Value)) (xs : List α) : Prop := SlC F v size cs ∧ cs.length = xs.length ∧ ∀ i, i < xs.length → rep F (nth cs i) (nth xs i)
theorem SlD.mono {α : Type} [Inhabited α] {rep : Frz → List Value → α → Prop} (hm : ∀ F G c x, F.Le G → rep F c x → rep G c x) {F G : Frz} {size : Nat} {cs : List (List Value)} {xs : List α} (h : SlD rep F v size cs xs) (hle : F.Le G) : SlD rep G v size cs xs := ⟨h.1.mono hle, h.2.1, fun i hi => hm _ _ _ _ hle (h.2.2 i hi)⟩
theorem OwnD.mono {α : Type} [Inhabited α] {rep : Frz → List Value → α → Prop} (hm : ∀ F G c x, F.Le G → rep F c x → rep G c x) {F G : Frz} {size : Nat} {cs : List (List Value)} {xs : List α} (h : OwnD rep F size cs xs) (hle : F.Le G) : OwnD rep G size cs xs := ⟨h.1, h.2.1, fun i hi => hm _ _ _ _ hle (h.2.2 i hi)⟩
theorem OwnD.nil {α : Type} [Inhabited α] (rep : Frz → List Value → α → Prop) (F : Frz) (size : Nat) : OwnD rep F size [] [] := ⟨rfl, (fun _ h => by cases h), fun i hi => absurd hi (Nat.not_lt_zero i)⟩
theorem nth_append_lt {α : Type} [Inhabited α] {xs ys : List α} {i : Nat} (h : i < xs.length) : nth (xs ++ ys) i = nth xs i := by
  rw [nth_eq (by simp; omega), nth_eq h, List.getElem_append_left h]
theorem nth_append_len {α : Type} [Inhabited α] {xs : List α} {y : α} {i : Nat} (h : i = xs.length) : nth (xs ++ [y]) i = y := by
  subst h; simp [nth]
theorem OwnD.snoc {α : Type} [Inhabited α] {rep : Frz → List Value → α → Prop} {F : Frz} {size : Nat} {cs : List (List Value)} {xs : List α} {c : List Value} {x : α} (h : OwnD rep F size cs xs) (hc : rep F c x) (hl : c.length = size) : OwnD rep F size (cs ++ [c]) (xs ++ [x]) := by
  refine ⟨by simp [h.1], fun d hd => ?_, fun i hi => ?_⟩
  · rcases List.mem_append.1 hd with hd | hd
    · exact h.2.1 d hd
    · simp at hd; subst hd; exact hl
  · simp at hi; rcases Nat.lt_or_ge i xs.length with h1 | h1
    · rw [nth_append_lt h1, nth_append_lt (by rw [h.1]; exact h1)]; exact h.2.2 i h1
    · have h2 := h.1; rw [nth_append_len (show i = cs.length by omega), nth_append_len (show i = xs.length by omega)]; exact hc
theorem SlK.toC {F : Frz} {size k : Nat} {l : List Value} {cs : List (List Value)} (h : SlK F v size k l) (hl : l = cs.flatten) (hk : k = cs.length) (hs : ∀ c ∈ cs, c.length = size) : SlC F v size cs := by
  obtain ⟨h1, A, cap, h2, h3, h4, h5⟩ := h; subst hk hl; refine ⟨A, cap, h2, h3, h4, hs, fun hp => ?_⟩; obtain ⟨g, hA, hg, hc⟩ := h5 hp; refine ⟨g, 0, hA, hg, fun i hi j hj => ?_⟩; (have hrow : (nth cs i).length = size := by rw [nth_eq hi]; exact hs _ (List.getElem_mem hi))
  have hlt : i * size + j < cs.flatten.length := by
    rw [h1]; have : (i + 1) * size ≤ cs.length * size := Nat.mul_le_mul_right _ hi; rw [Nat.add_mul] at this; omega
  have := hc (i * size + j) hlt; rw [Nat.zero_add] at this ⊢; rw [this, flat_take cs hs i hi j (by omega)]
theorem SlK.toF {α : Type} {F : Frz} {size k : Nat} {enc : α → List Value} {xs : List α} (h : SlK F v size k (xs.flatMap enc)) (hk : k = xs.length) (he : ∀ x, (enc x).length = size) : SlC F v size (xs.map enc) :=
  h.toC (List.flatMap_def ..) (by simpa using hk) (fun c hc => by obtain ⟨x, _, rfl⟩ := List.mem_map.1 hc; exact he x)
theorem SlK.toD {α : Type} [Inhabited α] {rep : Frz → List Value → α → Prop} {F : Frz} {size k : Nat} {cs : List (List Value)} {xs : List α} (h : SlK F v size k cs.flatten) (ho : OwnD rep F size cs xs) (hk : k = xs.length) : SlD rep F v size cs xs :=
  ⟨h.toC rfl (by rw [ho.1]; exact hk) ho.2.1, ho.1, ho.2.2⟩
/-- Steps. -/
theorem T.conv {c : Code} {hs' : HS} (h1 : ∀ w, Hp B M hs w → Hp B M hs' w) (h : T Fe P n B D M c Q fs hs') : T Fe P n B D M c Q fs hs := ⟨fun a w ha hw hm => h.out a w ha (h1 w hw) hm⟩
theorem T.exH {ι : Type} {φ : ι → Prop} {c : Code} {hs' : ι → HS} (h1 : ∀ w, Hp B M hs w → ∃ x, φ x ∧ Hp B M (hs' x) w) (h : ∀ x, φ x → T Fe P n B D M c Q fs (hs' x)) : T Fe P n B D M c Q fs hs := ⟨fun a w ha hw hm => by
  obtain ⟨x, hx, hw'⟩ := h1 w hw; exact (h x hx).out a w ha hw' hm⟩
theorem TL.exH {ι : Type} {φ : ι → Prop} {l : List Oper} {hs' : ι → HS} (h1 : ∀ w, Hp B M hs w → ∃ x, φ x ∧ Hp B M (hs' x) w) (h : ∀ x, φ x → TL Fe P n B D M ops Q l fs (hs' x)) : TL Fe P n B D M ops Q l fs hs := ⟨fun a w ha hw hm => by
  obtain ⟨x, hx, hw'⟩ := h1 w hw; exact (h x hx).out a w ha hw' hm⟩
theorem K.exH {ι : Type} {φ : ι → Prop} {e : Exit} {hs' : ι → HS} (h1 : ∀ w, Hp B M hs w → ∃ x, φ x ∧ Hp B M (hs' x) w) (h : ∀ x, φ x → K n B D M Q e fs (hs' x)) : K n B D M Q e fs hs := ⟨fun a w ha hw hm => by
  obtain ⟨x, hx, hw'⟩ := h1 w hw; exact (h x hx).out a w ha hw' hm⟩
theorem TS.exH {ι : Type} {φ : ι → Prop} {hs0 : HS} {r : Ord} {hs' : ι → HS} (h1 : ∀ w, Hp B M hs w → ∃ x, φ x ∧ Hp B M (hs' x) w) (h : ∀ x, φ x → TS Fe P n B D M ops Q hs0 r fs (hs' x)) : TS Fe P n B D M ops Q hs0 r fs hs := ⟨fun a w fuel listed h2 h3 h4 ha hw h5 hm => by
  obtain ⟨x, hx, hw'⟩ := h1 w hw; exact (h x hx).out a w fuel listed h2 h3 h4 ha hw' h5 hm⟩
theorem TSo.ewG {hs0 : HS} {i : Nat} {k : Ord} {d : Nat} {Φ : Value → HS → Prop} (hi : ops[i]? = some o) (hwt : Wt n ops fs o true) (hd : o.dst = some d) (hb : Nat.blt d n = true) (h : Ew P n B M fs hs o Φ) (h2 : ∀ v hs', Φ v hs' → (∀ w, Hp B M hs' w → Hp B M hs0 w) ∧ TS Fe P n B D M ops Q hs0 k ((d, v) :: fs) hs') : TSo Fe P n B D M ops Q hs0 i k fs hs :=
  ⟨fun a w fuel listed hns hnd hok ha hw hw0 hm => by
    unfold wpOpIn; simp only [hi, hwt a ha, if_true]; refine h Fe hFe Q _ a w ha hw fun v w' hs' hk hp' hΦ => ?_; rw [hd]
    exact ⟨(h2 v hs' hΦ).1 _ hp', (h2 v hs' hΦ).2.out _ w' fuel _ hns hnd hok (ha.put hb v) hp' ((h2 v hs' hΦ).1 _ hp') ((hm.next hk).put _ _)⟩⟩
/-! ### Calls -/
theorem Fx.up {F : FzB B M S0} {w w' : World} {G : Frz} (h : Fx F.toFrz w G w') (hw : Hp B M hs w) : ∃ G' : FzB B M S0, G'.toFrz = G := by
  refine ⟨⟨G, fun g hg hb hM => ?_, fun g hg => ?_⟩, rfl⟩
  · rcases h.new g hg with h1 | h1
    · rw [(h.le g h1).2, F.base g h1 hb hM]
    · have := hw.size; omega
  · rcases h.new g hg with h1 | h1
    · exact F.new g h1
    · have := hw.size; exact .inr (.inr (by omega))
theorem Ew.callR (i : Nat) {ι : Type} {F : FzB B M S0} {φ : ι → Frz → Prop} {val : ι → Value} {hs' : FzB B M S0 → HS} {c : Operand} {xs : Array Operand} {ts : Array TypeId} {f : FuncId} {fst caps : Array Value} {vs : List Value} [hE : Enters P f] (ho : o.op = .call { callee := .value c, args := xs, argTypes := ts }) (hc : ev fs c = some (.func (.func f) fst caps)) (hv : evs fs xs.toList = some vs) (hi : hs[i]? = some (.fr F))
    (C : ∀ w, Hp B M hs w → F.toFrz.At w → Calls P f (fst.toList ++ vs ++ caps.toList).toArray w (fun e w' => ∃ y G, φ y G ∧ e = .returned (val y) ∧ Fx F.toFrz w G w')) [hH : ∀ G, SetAt hs i (.fr G) (hs' G)] : Ew P n B M fs hs o (fun v hs'' => ∃ y, ∃ G : FzB B M S0, F.toFrz.Le G.toFrz ∧ φ y G.toFrz ∧ v = val y ∧ hs'' = hs' G) :=
  Ew.call ho hc hv fun w hp => (C w hp (hp.fr hi)).mono fun e w' ⟨y, G, hy, he, hx⟩ => by
    obtain ⟨G', rfl⟩ := hx.up hp; refine ⟨val y, hs' G', he, Kp.below hx.bel, ?_, y, G', hx.le, hy, rfl, rfl⟩; rw [← (hH G').h]; refine hp.updAt hi (S := fun _ => False) (.of_below_new hx.bel _) (fun _ _ h => h.elim) (Ent.fr_ok.2 (fun g hg => hx.at_ g hg.1)) (fun g hg => ?_); have h := Ent.fr_fp.1 hg; rcases hx.new g h.1 with h1 | h1
    · exact .inl (Ent.fr_fp.2 ⟨h1, h.2⟩)
    · exact .inr h1
theorem Ew.callP {c : Operand} {xs : Array Operand} {ts : Array TypeId} {f : FuncId} {fst caps : Array Value} {vs : List Value} [hE : Enters P f] (ho : o.op = .call { callee := .value c, args := xs, argTypes := ts }) (hc : ev fs c = some (.func (.func f) fst caps)) (hv : evs fs xs.toList = some vs)
    (C : ∀ w, Hp B M hs w → Calls P f (fst.toList ++ vs ++ caps.toList).toArray w (fun e w' => e = .returned v ∧ Below w.heap.size w w')) : Ew P n B M fs hs o (fun v' hs' => v' = v ∧ hs' = hs) := Ew.callA ho hc hv C
end
end Go.Proofs.YtljgejbmimapdaaDoor
namespace Go.Proofs.YtljgejbmimapdaaDoor
open Go.RowKit
/-! ### Plain programs -/
/-- A loop that counts: m rounds are left, this is round i. -/
def iterK {σ ρ : Type} (f : Nat → (σ → ρ) → σ → ρ) (k : σ → ρ) : Nat → Nat → σ → ρ
  | 0, _, s => k s
  | m + 1, i, s => f i (iterK f k m (i + 1)) s
/-- A loop that counts down. -/
def iterD {σ ρ : Type} (f : Nat → (σ → ρ) → σ → ρ) (k : σ → ρ) : Nat → σ → ρ
  | 0, s => k s
  | m + 1, s => f m (iterD f k m) s
/-- Any loop, with at most so many rounds. -/
def whileK {σ ρ : Type} (f : (σ → Option ρ) → σ → Option ρ) : Nat → σ → Option ρ
  | 0, _ => none
  | m + 1, s => f (whileK f m) s
def joinK {σ ρ : Type} (k : σ → ρ) (e : (σ → ρ) → ρ) : ρ := e k
def grd {ρ : Type} (c : Prop) [Decidable c] (x : Option ρ) : Option ρ := if c then x else none
section
variable {σ ρ : Type}
theorem iterK_lt {f : Nat → (σ → ρ) → σ → ρ} {k : σ → ρ} {n i : Nat} {s : σ} (h : i < n) : iterK f k (n - i) i s = f i (iterK f k (n - (i + 1)) (i + 1)) s := by
  rw [show n - i = (n - (i + 1)) + 1 by omega]; rfl
theorem iterK_ge {f : Nat → (σ → ρ) → σ → ρ} {k : σ → ρ} {n i : Nat} {s : σ} (h : n ≤ i) : iterK f k (n - i) i s = k s := by
  rw [show n - i = 0 by omega]; rfl
theorem iterK_open {f : Nat → (σ → ρ) → σ → ρ} {k : σ → ρ} {m i : Nat} {s : σ} {R : ρ} (h : iterK f k m i s = R) : ∃ f' k', f = f' ∧ k = k' ∧ iterK f' k' m i s = R := ⟨f, k, rfl, rfl, h⟩
theorem iterD_open {f : Nat → (σ → ρ) → σ → ρ} {k : σ → ρ} {m : Nat} {s : σ} {R : ρ} (h : iterD f k m s = R) : ∃ f' k', f = f' ∧ k = k' ∧ iterD f' k' m s = R := ⟨f, k, rfl, rfl, h⟩
theorem whileK_open {f : (σ → Option ρ) → σ → Option ρ} {m : Nat} {s : σ} {R : Option ρ} (h : whileK f m s = R) : ∃ f', f = f' ∧ whileK f' m s = R := ⟨f, rfl, h⟩
theorem joinK_open {k : σ → ρ} {e : (σ → ρ) → ρ} {R : ρ} (h : joinK k e = R) : ∃ k', k = k' ∧ e k' = R := ⟨k, rfl, h⟩
theorem whileK_pos {f : (σ → Option ρ) → σ → Option ρ} {m : Nat} {s : σ} {r : ρ} (h : whileK f m s = some r) : ∃ m', m = m' + 1 ∧ f (whileK f m') s = some r := by
  cases m with
  | zero => cases h
  | succ m => exact ⟨m, rfl, h⟩
theorem grd_some {c : Prop} [Decidable c] {x : Option ρ} {r : ρ} (h : grd c x = some r) : c ∧ x = some r := by
  unfold grd at h; split at h
  · exact ⟨by assumption, h⟩
  · cases h
theorem grd_pos {c : Prop} [Decidable c] {x : Option ρ} (h : c) : grd c x = x := by unfold grd; rw [if_pos h]
theorem bind_open {α : Type} {x : Option α} {f : α → Option ρ} {r : ρ} (h : x.bind f = some r) : ∃ a, x = some a ∧ f a = some r := by
  cases x with
  | none => cases h
  | some a => exact ⟨a, rfl, h⟩
/-- What a loop achieves. -/
theorem iterK_inv {f : Nat → (σ → ρ) → σ → ρ} {k : σ → ρ} {n : Nat} {s : σ} (I : Nat → σ → Prop) (post : ρ → Prop) (h0 : I 0 s) (hk : ∀ s, I n s → post (k s)) (hf : ∀ i s next, i < n → I i s → (∀ s', I (i + 1) s' → post (next s')) → post (f i next s)) : post (iterK f k n 0 s) := by
  have key : ∀ m i s, i + m = n → I i s → post (iterK f k m i s) := by
    intro m
    induction m with
    | zero => intro i s e hI; rw [show i = n by omega] at hI; exact hk s hI
    | succ m ih => intro i s e hI; exact hf i s _ (by omega) hI (fun s' hs' => ih (i + 1) s' (by omega) hs')
  exact key n 0 s (by omega) h0
theorem iterD_inv {f : Nat → (σ → ρ) → σ → ρ} {k : σ → ρ} {n : Nat} {s : σ} (I : Nat → σ → Prop) (post : ρ → Prop) (h0 : I n s) (hk : ∀ s, I 0 s → post (k s)) (hf : ∀ i s next, i < n → I (i + 1) s → (∀ s', I i s' → post (next s')) → post (f i next s)) : post (iterD f k n s) := by
  have key : ∀ m s, m ≤ n → I m s → post (iterD f k m s) := by
    intro m
    induction m with
    | zero => intro s _ hI; exact hk s hI
    | succ m ih => intro s e hI; exact hf m s _ (by omega) hI (fun s' hs' => ih s' (by omega) hs')
  exact key n s (Nat.le_refl _) h0
theorem whileK_inv {f : (σ → Option ρ) → σ → Option ρ} {m : Nat} {s : σ} (I : σ → Prop) (μ : σ → Nat) (post : Option ρ → Prop) (h0 : I s) (hm : μ s < m) (hf : ∀ s next, I s → (∀ s', I s' → μ s' < μ s → post (next s')) → post (f next s)) : post (whileK f m s) := by
  induction m generalizing s with
  | zero => omega
  | succ m ih => exact hf s _ h0 (fun s' hs' hl => ih hs' (by omega))
end
/-! ### Owned slices -/
section
variable {Fe : Fence} [hFe : Calm Fe] {P : Program} {n : Nat} {B D : World} {M : Nat → Prop} {Q : Exit → Act → World → Prop} {fs : SFs} {hs : HS} {ops : Array Oper} {rest : List Oper} {o : Oper} {v val sv : Value}
theorem Hp.slAddr {w : World} {j k size : Nat} {e : TypeId} {l : List Value} (hw : Hp B M hs w) (hj : hs[j]? = some (.sl v e size k l)) (hk : 0 < k) : ∃ g cap, v = .slice (some ⟨g, 0, none⟩) k cap := by
  rcases (Ent.sl_ok.1 (hw.get hj)).2 with ⟨_, h0⟩ | ⟨g, cap, _, e, _⟩
  · omega
  · exact ⟨g, cap, e⟩
theorem Yv.idxO (j : Nat) {t e k i m : Nat} {z : Int} {q : IntKind} {l : List Value} {x y : Operand} {e' : TypeId} [hT : TySl P t e k] (ho : o.op = .indexAddr t x y) (hx : ev fs x = some sv) (hy : ev fs y = some (.int q z)) (hj : hs[j]? = some (.sl sv e' k m l)) (hz : z = (i : Int)) (hi : i < m) : Yv P n B M fs hs o (vAddr sv (i * k)) := fun a w ha hw => by
  obtain ⟨g, cap, rfl⟩ := hw.slAddr hj (by omega); rw [vAddr_some]; exact Yv.indexSl (B := B) (M := M) (hs := hs) ho hx hy hz hi a w ha hw
theorem Yv.fldO (j : Nat) {s f off p k m : Nat} {l : List Value} {x : Operand} {e' : TypeId} [hT : TyF P s f off] (ho : o.op = .fieldAddr s x f) (hx : ev fs x = some (vAddr sv p)) (hj : hs[j]? = some (.sl sv e' k m l)) (hi : 0 < m) : Yv P n B M fs hs o (vAddr sv (p + off)) := fun a w ha hw => by
  obtain ⟨g, cap, rfl⟩ := hw.slAddr hj hi; rw [vAddr_some] at hx ⊢; exact (Yv.fieldAddr (B := B) (M := M) (hs := hs) ho hx).eq (by rw [Nat.add_assoc]) a w ha hw
theorem Yv.loadOs (j : Nat) {t e : TypeId} [hT : TyS P t] {p size k : Nat} {l : List Value} {x : Operand} (ho : o.op = .load t x) (hx : ev fs x = some (vAddr sv p)) (hj : hs[j]? = some (.sl sv e size k l)) (hk : 0 < k) (hv : l[p]? = some val) : Yv P n B M fs hs o val := fun a w ha hw => by
  obtain ⟨g, cap, rfl⟩ := hw.slAddr hj hk; rw [vAddr_some, Nat.zero_add] at hx; exact Yv.loadS (B := B) (M := M) (hs := hs) j ho hx hj hv a w ha hw
theorem Yv.loadOsA (j : Nat) {t e : TypeId} {q : Nat} [hT : TyA P t q] {p size k : Nat} {l m : List Value} {x : Operand} (ho : o.op = .load t x) (hx : ev fs x = some (vAddr sv p)) (hj : hs[j]? = some (.sl sv e size k l)) (hk : 0 < k) (hm : (l.drop p).take m.length = m) (hl : m.length = q) : Yv P n B M fs hs o (.agg m.toArray) := fun a w ha hw => by
  obtain ⟨g, cap, rfl⟩ := hw.slAddr hj hk; rw [vAddr_some, Nat.zero_add] at hx; exact Yv.loadAS (B := B) (M := M) (hs := hs) j ho hx hj hm hl a w ha hw
theorem Ew.storeOs (j : Nat) {t e : TypeId} [hT : TyS P t] {x y : Operand} {p k size : Nat} {l l' : List Value} {hs' : HS} [hv : OneC val] (ho : o.op = .store t x y) (hx : ev fs x = some (vAddr sv p)) (hy : ev fs y = some val)
    (hj : hs[j]? = some (.sl sv e size k l)) (hk : 0 < k) (hp : p < l.length) (hl : l.set p val = l') [hH : SetAt hs j (.sl sv e size k l') hs'] : Ew P n B M fs hs o (fun v hs'' => v = undef ∧ hs'' = hs') := fun F hF Q K a w ha hw => by
  obtain ⟨g, cap, rfl⟩ := hw.slAddr hj hk; rw [vAddr_some, Nat.zero_add] at hx; subst hl; exact Ew.storeS (B := B) (M := M) (hs := hs) j ho hx hy hj hp F hF Q K a w ha hw
theorem Ew.storeOsA (j : Nat) {t e : TypeId} {q : Nat} [hT : TyA P t q] {x y : Operand} {p k size : Nat} {l m l' : List Value} {hs' : HS} [hv : OneCs m] (ho : o.op = .store t x y) (hx : ev fs x = some (vAddr sv p)) (hy : ev fs y = some (.agg m.toArray))
    (hj : hs[j]? = some (.sl sv e size k l)) (hk : 0 < k) (hq : m.length = q) (hp : p + m.length ≤ l.length) (hl : l.take p ++ m ++ l.drop (p + m.length) = l') [hH : SetAt hs j (.sl sv e size k l') hs'] : Ew P n B M fs hs o (fun v hs'' => v = undef ∧ hs'' = hs') := fun F hF Q K a w ha hw => by
  obtain ⟨g, cap, rfl⟩ := hw.slAddr hj hk; rw [vAddr_some, Nat.zero_add] at hx; subst hl; exact Ew.storeSA (B := B) (M := M) (hs := hs) j ho hx hy hj hq hp F hF Q K a w ha hw
theorem flat_set {α : Type} {enc : α → List Value} {size : Nat} (he : ∀ x, (enc x).length = size) : ∀ (xs : List α) (i : Nat) (x : α), i < xs.length → (xs.flatMap enc).take (i * size) ++ enc x ++ (xs.flatMap enc).drop (i * size + (enc x).length) = (xs.set i x).flatMap enc
  | y :: r, 0, x, _ => by simp [he, List.drop_append, List.drop_eq_nil_of_le (show (enc y).length ≤ size by rw [he]; exact Nat.le_refl _)]
  | y :: r, i + 1, x, h => by
    have ih := flat_set he r i x (by simpa using h); rw [List.set_cons_succ, List.flatMap_cons, List.flatMap_cons, ← ih, Nat.add_mul, Nat.one_mul]
    rw [List.take_append, List.drop_append, he, he, List.take_of_length_le (by rw [he]; omega), List.drop_eq_nil_of_le (show (enc y).length ≤ i * size + size + size by rw [he]; omega), Nat.add_sub_cancel,
      show i * size + size + size - size = i * size + size by omega]
    simp
theorem flat_get1 {α : Type} [Inhabited α] {enc : α → List Value} {size : Nat} (he : ∀ x, (enc x).length = size) {xs : List α} {i j p : Nat} (hi : i < xs.length) (hj : j < size) (hp : p = i * size + j) : (xs.flatMap enc)[p]? = (enc (nth xs i))[j]? := by
  subst hp; rw [flat_get enc size he xs i hi j hj, nth_eq hi]
theorem flat_getA {α : Type} [Inhabited α] {enc : α → List Value} {size : Nat} (he : ∀ x, (enc x).length = size) {xs : List α} {i : Nat} (hi : i < xs.length) : ((xs.flatMap enc).drop (i * size)).take (enc (nth xs i)).length = enc (nth xs i) := by
  apply List.ext_getElem?; intro j; rcases Nat.lt_or_ge j size with h | h
  · rw [List.getElem?_take_of_lt (by rw [he]; exact h), List.getElem?_drop, flat_get enc size he xs i hi j h, nth_eq hi]
  · rw [List.getElem?_eq_none (by simp [he]; omega), List.getElem?_eq_none (by rw [he]; exact h)]
/-! ### append -/
theorem Ew.appendG (i : Nat) {s x : Operand} {t e : TypeId} {size bytes m c k k' g off : Nat} {z l news l' : List Value} {hs' : Value → HS} [hT : TyE P t e size bytes z] (h1 : ∀ v ∈ news, v.oneCell' = true) (ho : o.op = .call { callee := .builtin .append, args := #[s, x], argTypes := #[t, t] })
    (hs1 : ev fs s = some sv) (hx : ev fs x = some (.slice (some ⟨g, off, none⟩) m c)) (hi : hs[i]? = some (.sl sv e size k l)) (hj : ∀ w, Hp B M hs w → Cs w g off news) (hl : news.length = m * size) (hk : k + m = k') (hl' : l ++ news = l') (hb : k' * bytes ≤ 140737488355328) (hbs : 0 < bytes)
    [hH : ∀ v', SetAt hs i (.sl v' e size k' l') (hs' v')] : Ew P n B M fs hs o (fun v hs'' => OneC v ∧ hs'' = hs' v) := Ew.of_val fun a w ha hp => by
  obtain ⟨inf, zv, hU, hinf, hz, hzc, rfl, rfl, hzs, hpos⟩ := hT.get; subst hk hl'; have hkm : k + m ≤ 140737488355328 := Nat.le_trans (Nat.le_mul_of_pos_right _ hbs) hb
  have hnews : ∀ q u, news[q]? = some u → w.cell? ((⟨g, off, none⟩ : Addr).add q) = some u := by
    intro q u hq; rw [add_off]; exact (hj w hp q (List.getElem?_eq_some_iff.1 hq).1).trans hq
  obtain ⟨v', w', hr, hown, hgr, _, hat⟩ := run_append_own_at (P := P) w 0 t o.type e inf zv inf.size inf.bytes hU hinf hz rfl rfl hzs hpos sv k l (Ent.sl_ok.1 (hp.get hi)) ⟨g, off, none⟩ m c news hl hnews h1 (by unfold maxLen; omega) hb (Nat.zero_le _); refine ⟨v', w', hs' v', ?_, ?_, ?_, ?_, rfl⟩
  · unfold execOp; simp [ho, resolve, invoke, builtin, ha.ev hs1, ha.ev hx, hr]
  · exact Kp.only (only_grown hgr) (fun g hg c => (Ent.sl sv e inf.size k l).nd (hp.get hi) g (Ent.sl_fp.2 hg) c)
  · rw [← (hH v').h]; refine hp.updAt hi (only_grown hgr) (fun q _ hq => Ent.sl_fp.2 hq) (Ent.sl_ok.2 hown) (fun q hq => ?_); have := Ent.sl_fp.1 hq; rcases hat with h | h
    · exact .inl (Ent.sl_fp.2 (by rw [← h]; exact this))
    · rw [h] at this; simp at this; exact .inr (by omega)
  · rcases hown.2 with ⟨rfl, _⟩ | ⟨_, _, _, rfl, _⟩ <;> exact ⟨rfl⟩
/-- A literal of new elements is appended. -/
theorem Ew.appendL (i j : Nat) {s x : Operand} {t e u : TypeId} {size bytes m c k k' g : Nat} {z l news l' : List Value} {hs' : Value → HS} [hT : TyE P t e size bytes z] [h1 : OneCs news] (ho : o.op = .call { callee := .builtin .append, args := #[s, x], argTypes := #[t, t] })
    (hs1 : ev fs s = some sv) (hx : ev fs x = some (.slice (some ⟨g, 0, none⟩) m c)) (hi : hs[i]? = some (.sl sv e size k l)) (hj : hs[j]? = some (.row g u news)) (hl : news.length = m * size) (hk : k + m = k') (hl' : l ++ news = l') (hb : k' * bytes ≤ 140737488355328) (hbs : 0 < bytes)
    [hH : ∀ v', SetAt hs i (.sl v' e size k' l') (hs' v')] : Ew P n B M fs hs o (fun v hs'' => OneC v ∧ hs'' = hs' v) :=
  Ew.appendG i h1.h ho hs1 hx hi (fun w hw => Cs.of_row (Ent.row_ok.1 (hw.get hj)) (by simp)) hl hk hl' hb hbs
end
end Go.Proofs.YtljgejbmimapdaaDoor
namespace Go.Proofs.YtljgejbmimapdaaDoor
open Go.RowKit
abbrev eI (x : Int) : List Value := [.int .i64 x]
abbrev eB (x : Bool) : List Value := [.bool x]
abbrev eU (x : BitVec 64) : List Value := [U x]
abbrev eK (k : IntKind) (x : Int) : List Value := [.int k x]
abbrev wI (x : Int) : Int := IntKind.i64.wrap x
/-- So many elements of so many bytes can be made. -/
abbrev room (n bytes : Nat) : Prop := n * bytes ≤ 140737488355328
theorem not_t {b : Bool} (h : b = true) : (!b) = false := by rw [h]; rfl
theorem not_f {b : Bool} (h : b = false) : (!b) = true := by rw [h]; rfl
theorem of_not_t {b : Bool} (h : (!b) = true) : b = false := by cases b <;> first | rfl | cases h
theorem of_not_f {b : Bool} (h : (!b) = false) : b = true := by cases b <;> first | rfl | cases h
theorem condT_open {ρ : Type} {b : Bool} {x y R : ρ} (h : (bif b then x else y) = R) (hb : b = true) : x = R := by subst hb; exact h
theorem condF_open {ρ : Type} {b : Bool} {x y R : ρ} (h : (bif b then x else y) = R) (hb : b = false) : y = R := by subst hb; exact h
theorem SlC.oneC {F : Frz} {v : Value} {size : Nat} {cs : List (List Value)} (h : SlC F v size cs) : OneC v := by
  obtain ⟨A, cap, rfl, _⟩ := h; exact ⟨rfl⟩
theorem SlD.nil {α : Type} [Inhabited α] (rep : Frz → List Value → α → Prop) (F : Frz) (size : Nat) : SlD rep F (.slice none 0 0) size [] [] := ⟨SlC.nil F size, rfl, fun i hi => absurd hi (Nat.not_lt_zero i)⟩
theorem flat_app {α : Type} {enc : α → List Value} {xs ys : List α} : xs.flatMap enc ++ ys.flatMap enc = (xs ++ ys).flatMap enc := (List.flatMap_append ..).symm
theorem flat_app2 {cs ds : List (List Value)} : cs.flatten ++ ds.flatten = (cs ++ ds).flatten := (List.flatten_append ..).symm
theorem flat_room {α : Type} {enc : α → List Value} {size : Nat} (he : ∀ x, (enc x).length = size) {xs : List α} {i : Nat} {x : α} (hi : i < xs.length) : i * size + (enc x).length ≤ (xs.flatMap enc).length := by
  rw [flat_len enc size he, he]; have : (i + 1) * size ≤ xs.length * size := Nat.mul_le_mul_right _ hi; rw [Nat.add_mul] at this; omega
theorem flat_room1 {α : Type} {enc : α → List Value} {xs : List α} {i : Nat} (he : ∀ x, (enc x).length = 1) (hi : i < xs.length) : i * 1 < (xs.flatMap enc).length := by
  rw [flat_len enc 1 he]; omega
theorem flat_appS {α : Type} {enc : α → List Value} {xs ys : List α} : xs.flatMap enc ++ (ys.map enc).flatten = (xs ++ ys).flatMap enc := by
  rw [List.flatMap_append, ← List.flatMap_def]
theorem len_appS {α β : Type} {f : α → β} {xs ys : List α} : xs.length + (ys.map f).length = (xs ++ ys).length := by simp
theorem len_appD {α β : Type} {cs : List β} {xs ys : List α} (h : cs.length = ys.length) : xs.length + cs.length = (xs ++ ys).length := by simp [h]
theorem one_map {α : Type} {enc : α → List Value} {xs : List α} (h : ∀ x, OneCs (enc x)) : ∀ c ∈ xs.map enc, ∀ v ∈ c, v.oneCell' = true := fun c hc => by
  obtain ⟨x, _, rfl⟩ := List.mem_map.1 hc; exact (h x).h
theorem one_rep {α : Type} [Inhabited α] {rep : Frz → List Value → α → Prop} {F : Frz} {v : Value} {size : Nat} {cs : List (List Value)} {xs : List α} (h : SlD rep F v size cs xs) (ho : ∀ F c x, rep F c x → OneCs c) : ∀ c ∈ cs, ∀ v ∈ c, v.oneCell' = true := fun c hc => by
  obtain ⟨i, hi, rfl⟩ := List.mem_iff_getElem.1 hc; have := ho _ _ _ (h.2.2 i (by rw [← h.2.1]; exact hi)); rw [nth_eq hi] at this; exact this.h
theorem OwnD.app {α : Type} [Inhabited α] {rep : Frz → List Value → α → Prop} {F : Frz} {v : Value} {size : Nat} {cs ds : List (List Value)} {xs ys : List α} (h : OwnD rep F size cs xs) (k : SlD rep F v size ds ys) : OwnD rep F size (cs ++ ds) (xs ++ ys) := by
  have h1 := h.1; have k1 := k.2.1; refine ⟨by simp [h1, k1], fun c hc => ?_, fun i hi => ?_⟩
  · rcases List.mem_append.1 hc with hc | hc
    · exact h.2.1 c hc
    · obtain ⟨i, hi, rfl⟩ := List.mem_iff_getElem.1 hc; have := k.1.row hi
      rwa [nth_eq hi] at this
  · simp at hi; rcases Nat.lt_or_ge i xs.length with h2 | h2
    · rw [nth_append_lt h2, nth_append_lt (by omega)]; exact h.2.2 i h2
    · rw [nth_eq (by simp; omega), nth_eq (by simp; omega), List.getElem_append_right (by omega), List.getElem_append_right (by omega)]; have := k.2.2 (i - xs.length) (by omega); rw [nth_eq (by omega), nth_eq (by omega)] at this; simp only [h1]; exact this
/-- Entries by their places. -/
def pickL (hs : HS) : List Nat → Option HS
  | [] => some []
  | i :: r => match hs[i]? with
    | some e => match pickL hs r with
      | some l => some (e :: l)
      | none => none
    | none => none
section
variable {B w : World} {M : Nat → Prop} {hs hs' : HS}
theorem pickL_mem : ∀ {idx : List Nat} {hs' : HS}, pickL hs idx = some hs' → ∀ e ∈ hs', ∃ i ∈ idx, hs[i]? = some e
  | [], hs', h, e, he => by simp only [pickL] at h; cases h; cases he
  | i :: r, hs', h, e, he => by
    simp only [pickL] at h
    split at h
    · rename_i x hx
      split at h
      · rename_i l hl
        cases h
        rcases List.mem_cons.1 he with rfl | he
        · exact ⟨i, by simp, hx⟩
        · obtain ⟨j, hj, hje⟩ := pickL_mem hl e he; exact ⟨j, by simp [hj], hje⟩
      · cases h
    · cases h
theorem Hp.two (hw : Hp B M hs w) {i j : Nat} {e f : Ent} (hij : i ≠ j) (hi : hs[i]? = some e) (hj : hs[j]? = some f) (g : Nat) (he : e.fp g) : ¬ f.fp g := by
  obtain ⟨hi', rfl⟩ := List.getElem?_eq_some_iff.1 hi; obtain ⟨hj', rfl⟩ := List.getElem?_eq_some_iff.1 hj; have h := List.pairwise_iff_getElem.1 hw.apart; rcases Nat.lt_or_ge i j with h1 | h1
  · exact h i j hi' hj' h1 g he
  · exact fun hf => h j i hj' hi' (by omega) g hf he
theorem pickL_apart (hw : Hp B M hs w) : ∀ {idx : List Nat} {hs' : HS}, pickL hs idx = some hs' → idx.Nodup → hs'.Pairwise fun e f => ∀ g, e.fp g → ¬ f.fp g
  | [], hs', h, _ => by simp only [pickL] at h; cases h; exact .nil
  | i :: r, hs', h, hn => by
    simp only [pickL] at h
    split at h
    · rename_i x hx
      split at h
      · rename_i l hl
        cases h
        rw [List.nodup_cons] at hn; refine List.Pairwise.cons (fun f hf g hg => ?_) (pickL_apart hw hl hn.2); obtain ⟨j, hj, hje⟩ := pickL_mem hl f hf; exact hw.two (i := i) (j := j) (fun e => hn.1 (by rw [e]; exact hj)) hx hje g hg
      · cases h
    · cases h
theorem Hp.pick {idx : List Nat} (hw : Hp B M hs w) (h : pickL hs idx = some hs') (hn : idx.Nodup) : Hp B M hs' w :=
  ⟨hw.os, hw.tape, hw.output, hw.size, hw.base, fun e he => by obtain ⟨i, _, hi⟩ := pickL_mem h e he; exact hw.get hi, fun e he => by
    obtain ⟨i, _, hi⟩ := pickL_mem h e he; exact hw.new e (List.mem_of_getElem? hi), pickL_apart hw h hn⟩
end
section
variable {Fe : Fence} [hFe : Calm Fe] {P : Program} {n : Nat} {B D : World} {M S0 : Nat → Prop} {Q : Exit → Act → World → Prop} {fs : SFs} {hs : HS} {ops : Array Oper} {rest : List Oper} {o : Oper} {v val sv : Value}
theorem T.pick (idx : List Nat) {c : Code} {hs' : HS} (h : pickL hs idx = some hs') (hn : idx.Nodup) (k : T Fe P n B D M c Q fs hs') : T Fe P n B D M c Q fs hs := ⟨fun a w ha hw hm => k.out a w ha (hw.pick h hn) hm⟩
theorem K.pick (idx : List Nat) {e : Exit} {hs' : HS} (h : pickL hs idx = some hs') (hn : idx.Nodup) (k : K n B D M Q e fs hs') : K n B D M Q e fs hs := ⟨fun a w ha hw hm => k.out a w ha (hw.pick h hn) hm⟩
theorem T.cutXK {ι : Type} {x y : Code} (G : ι → SFs) (H : ι → HS) (φ : ι → Prop) (h : T Fe P n B D M x (Exit.then (fun a w => ∃ i, φ i ∧ At n B D M (G i) (H i) a w) Q) fs hs) (k : ∀ i, φ i → T Fe P n B D M y Q (G i) (H i)) : T Fe P n B D M x (Exit.then (y.wpIn Fe 0 P Q) Q) fs hs :=
  ⟨fun a w ha hw hm => wpIn_mono (h.out a w ha hw hm) fun e a w hq => by
    cases e <;> first | (obtain ⟨i, hi, h1, h2, h3⟩ := hq; exact (k i hi).out a w h1 h2 h3) | exact hq⟩
theorem TSo.yvG {hs0 : HS} {i : Nat} {k : Ord} {d : Nat} (hi : ops[i]? = some o) (hwt : Wt n ops fs o true) (hd : o.dst = some d) (hb : Nat.blt d n = true) (hy : Yv P n B M fs hs o v) (h2 : ∀ w, Hp B M hs w → Hp B M hs0 w) (h : TS Fe P n B D M ops Q hs0 k ((d, v) :: fs) hs) : TSo Fe P n B D M ops Q hs0 i k fs hs :=
  TSo.ewG hi hwt hd hb (Ew.yv hy) (by rintro _ _ ⟨rfl, rfl⟩; exact ⟨h2, h⟩)
theorem TSo.ewG0 {hs0 : HS} {i : Nat} {k : Ord} {Φ : Value → HS → Prop} (hi : ops[i]? = some o) (hwt : Wt n ops fs o true) (hd : o.dst = none) (h : Ew P n B M fs hs o Φ) (h2 : ∀ v hs', Φ v hs' → (∀ w, Hp B M hs' w → Hp B M hs0 w) ∧ TS Fe P n B D M ops Q hs0 k fs hs') : TSo Fe P n B D M ops Q hs0 i k fs hs :=
  ⟨fun a w fuel listed hns hnd hok ha hw hw0 hm => by
    unfold wpOpIn; simp only [hi, hwt a ha, if_true]; refine h Fe hFe Q _ a w ha hw fun v w' hs' hk hp' hΦ => ?_; rw [hd]
    exact ⟨(h2 v hs' hΦ).1 _ hp', (h2 v hs' hΦ).2.out _ w' fuel _ hns hnd hok (ha.put_none v) hp' ((h2 v hs' hΦ).1 _ hp') ((hm.next hk).put _ _)⟩⟩
theorem TS.slNil {hs0 : HS} {r : Ord} (e : TypeId) (size : Nat) (h : TS Fe P n B D M ops Q hs0 r fs (.sl (.slice none 0 0) e size 0 [] :: hs)) : TS Fe P n B D M ops Q hs0 r fs hs := ⟨fun a w fuel listed h2 h3 h4 ha hw h5 hm => h.out a w fuel listed h2 h3 h4 ha (hw.slNil e size) h5 hm⟩
theorem TSo.slNil {hs0 : HS} {i : Nat} {r : Ord} (e : TypeId) (size : Nat) (h : TSo Fe P n B D M ops Q hs0 i r fs (.sl (.slice none 0 0) e size 0 [] :: hs)) : TSo Fe P n B D M ops Q hs0 i r fs hs := ⟨fun a w fuel listed h2 h3 h4 ha hw h5 hm => h.out a w fuel listed h2 h3 h4 ha (hw.slNil e size) h5 hm⟩
/-! ### Loads of elements whose cells are known -/
theorem Yv.loadRF (ix : Nat) {F : FzB B M S0} {α : Type} [Inhabited α] {enc : α → List Value} {t : TypeId} [hT : TyS P t] {k i j p : Nat} {xs : List α} {x : Operand} (ho : o.op = .load t x) (hx : ev fs x = some (vAddr v p)) (hF : hs[ix]? = some (.fr F)) (h : SlC F.toFrz v k (xs.map enc)) (hi : i < xs.length) (hp : p = i * k + j) (hv : (enc (nth xs i))[j]? = some val) : Yv P n B M fs hs o val :=
  Yv.loadR ix (i := i) (j := j) ho hx hF h (List.length_map _) hi hp (by rw [nth_mapF hi]; exact hv)
theorem Yv.loadRFA (ix : Nat) {F : FzB B M S0} {α : Type} [Inhabited α] {enc : α → List Value} {t : TypeId} {q : Nat} [hT : TyA P t q] {k i p : Nat} {xs : List α} {x : Operand} {l : List Value} (ho : o.op = .load t x) (hx : ev fs x = some (vAddr v p)) (hF : hs[ix]? = some (.fr F)) (h : SlC F.toFrz v k (xs.map enc)) (hi : i < xs.length) (hp : p = i * k) (hv : (enc (nth xs i)) = l) (hl : l.length = q) : Yv P n B M fs hs o (.agg l.toArray) :=
  Yv.loadRA ix (i := i) (j := 0) ho hx hF h (List.length_map _) hi hp (by rw [nth_mapF hi, hv, List.drop_zero, List.take_of_length_le (by omega)]) hl
theorem Yv.loadRFP (ix : Nat) {F : FzB B M S0} {α : Type} [Inhabited α] {enc : α → List Value} {t : TypeId} {q : Nat} [hT : TyA P t q] {k i j p : Nat} {xs : List α} {x : Operand} {l : List Value} (ho : o.op = .load t x) (hx : ev fs x = some (vAddr v p)) (hF : hs[ix]? = some (.fr F)) (h : SlC F.toFrz v k (xs.map enc)) (hi : i < xs.length) (hp : p = i * k + j) (hv : ((enc (nth xs i)).drop j).take q = l) (hl : l.length = q) : Yv P n B M fs hs o (.agg l.toArray) :=
  Yv.loadRA ix (i := i) (j := j) ho hx hF h (List.length_map _) hi hp (by rw [nth_mapF hi]; exact hv) hl
/-! ### append of a slice that is read -/
theorem run_append_none {t e ty : TypeId} {k : Nat} {w : World} [hT : TySl P t e k] {b : Option Addr} {m c : Nat} {A : Option Addr} {c2 : Nat} (hc : m ≤ c) : (Builtin.append_ #[t, t] ty #[.slice b m c, .slice A 0 c2]).run P w = .ok (.slice b m c) w := by
  have h := hT.h; unfold tySlice at h
  split at h
  · rename_i el hU
    cases hi' : P.info? el with
    | none => rw [hi'] at h; cases h
    | some inf =>
      rw [hi'] at h
      cases h
      unfold Builtin.append_
      cases A <;> cases b <;> simp [underlying, hU, sizeOf, typeInfo, hi', Builtin.lenOf, hc, Builtin.firstCells, loadCells, loadCellsFrom, storeCells]
  · cases h
theorem Cs.flat {w : World} {g off size : Nat} {cs : List (List Value)} (hp : 0 < size) (hr : ∀ c ∈ cs, c.length = size) (h : ∀ i, i < cs.length → Cs w g (off + i * size) (nth cs i)) : Cs w g off cs.flatten := fun q hq => by
  have hl : cs.flatten.length = cs.length * size := by
    clear h hq
    induction cs with
    | nil => simp
    | cons c r ih => rw [List.flatten_cons, List.length_append, ih (fun c' h' => hr c' (by simp [h'])), hr c (by simp), List.length_cons, Nat.add_mul]; omega
  (have hi : q / size < cs.length := by rw [Nat.div_lt_iff_lt_mul hp]; omega); have hj : q % size < size := Nat.mod_lt _ hp; (have e : q / size * size + q % size = q := by rw [Nat.mul_comm]; exact Nat.div_add_mod q size); (have hrow : (nth cs (q / size)).length = size := by rw [nth_eq hi]; exact hr _ (List.getElem_mem hi)); have h1 := h (q / size) hi (q % size) (by omega); have h2 := flat_take cs hr (q / size) hi (q % size) hj; rw [e] at h2; rw [h2, ← h1]
  congr 2
  omega
theorem Ew.appendS (i ix : Nat) {F : FzB B M S0} {s x : Operand} {t e : TypeId} {size bytes k k' : Nat} {z l l' : List Value} {cs : List (List Value)} {hs' : Value → HS} [hT : TyE P t e size bytes z] [hT2 : TySl P t e size] (h1 : ∀ c ∈ cs, ∀ v ∈ c, v.oneCell' = true) (ho : o.op = .call { callee := .builtin .append, args := #[s, x], argTypes := #[t, t] })
    (hs1 : ev fs s = some sv) (hx : ev fs x = some v) (hi : hs[i]? = some (.sl sv e size k l)) (hF : hs[ix]? = some (.fr F)) (h : SlC F.toFrz v size cs) (hk : k + cs.length = k') (hl' : l ++ cs.flatten = l') (hb : k' * bytes ≤ 140737488355328) (hbs : 0 < bytes)
    [hH : ∀ v', SetAt hs i (.sl v' e size k' l') (hs' v')] : Ew P n B M fs hs o (fun v hs'' => OneC v ∧ hs'' = hs' v) := by
  obtain ⟨inf, zv, hU, hinf, hz, hzc, h6, h7, hzs, hpos⟩ := hT.get; rcases Nat.eq_zero_or_pos cs.length with h0 | h0
  · obtain rfl := List.eq_nil_of_length_eq_zero h0; obtain ⟨A, cap, hv, _⟩ := h; subst hk; simp at hl' hv; subst hl' hv; refine Ew.of_val fun a w ha hp => ?_; have ho' := Ent.sl_ok.1 (hp.get hi)
    obtain ⟨b, c, rfl, hc⟩ : ∃ b c, sv = .slice b k c ∧ k ≤ c := by
      rcases ho'.2 with ⟨rfl, h0⟩ | ⟨g, cap, cur, rfl, hb, hg, hnc, _⟩
      · exact ⟨none, 0, by rw [h0], by omega⟩
      · exact ⟨_, cap, rfl, hnc⟩
    refine ⟨.slice b k c, w, hs' (.slice b k c), ?_, Kp.refl w, ?_, ⟨rfl⟩, rfl⟩
    · unfold execOp; simp [ho, resolve, invoke, builtin, ha.ev hs1, ha.ev hx, run_append_none (P := P) (t := t) hc]
    · rw [← (hH _).h]; simp only [List.length_nil, Nat.add_zero]; rw [set_same hi]; exact hp
  · obtain ⟨g, off, cap, rfl, hg, hc⟩ := h.addr h0; (have hr : ∀ c ∈ cs, c.length = size := by obtain ⟨_, _, _, _, _, h4, _⟩ := h; exact h4); refine Ew.appendG i (news := cs.flatten) (fun v hv => ?_) ho hs1 hx hi (fun w hw => Cs.flat (by omega) hr (fun i hi => Cs.at (hw.fr hF) hg (hc i hi))) ?_ hk hl' hb hbs
    · obtain ⟨c, hc', hv'⟩ := List.mem_flatten.1 hv; exact h1 c hc' v hv'
    · clear hc hl' hx hk h1 h0 h
      induction cs with
      | nil => simp
      | cons c r ih => rw [List.flatten_cons, List.length_append, ih (fun c' h' => hr c' (by simp [h'])), hr c (by simp), List.length_cons, Nat.add_mul]; omega
theorem K.retF3 {fn : Func} {R : Ending → World → Prop} {t u s : Nat} {v x y : Value} (hr : fn.results = #[.tmp t, .tmp u, .tmp s]) (hv : look fs t = some v) (hx : look fs u = some x) (hy : look fs s = some y) (h : ∀ w, Hp B M hs w → R (.returned (.tuple #[v, x, y])) w) : K n B D M (bodyQ P fn R) .ret fs hs :=
  (K.leave (fun a w ha _ => by rw [results_tmp3 hr]; simp only [Array.getD_eq_getD_getElem?, ha.get t v hv, ha.get u x hx, ha.get s y hy]; rfl) h).1
end
end Go.Proofs.YtljgejbmimapdaaDoor
namespace Go.Proofs.YtljgejbmimapdaaDoor
open Go.RowKit
theorem len_lit {α : Type} {xs ys : List α} {m : Nat} (h : ys.length = m) : xs.length + m = (xs ++ ys).length := by rw [List.length_append, h]
theorem equalIn_int {P : Program} {d : Nat} {t : TypeId} {k k' : IntKind} {a b : Int} {w : World} (hU : P.underlying t = some (.int k')) : (Op.equalIn (d + 1) t (.int k a) (.int k b)).run P w = .ok (decide (a = b)) w := by
  rw [Op.equalIn]; simp [underlying, hU]
  rfl
/-- Field j is a number in cell j. -/
def fInt (P : Program) (f : Field) (j : Nat) : Bool := (!(f.name == "_")) && (f.offset == j) && (tyAgg P f.type == some (false, 1)) && (match P.underlying f.type with | some (.int _) => true | _ => false)
theorem fInt_get {P : Program} {f : Field} {j : Nat} (h : fInt P f j = true) : f.name ≠ "_" ∧ f.offset = j ∧ (∀ w, (isAgg f.type).run P w = .ok false w) ∧ ∃ k, P.underlying f.type = some (.int k) := by
  unfold fInt at h; simp only [Bool.and_eq_true, Bool.not_eq_true', beq_eq_false_iff_ne, beq_iff_eq] at h; refine ⟨h.1.1.1, h.1.1.2, fun w => (tyAgg_run h.1.2 w).1, ?_⟩; have := h.2
  split at this
  · exact ⟨_, by assumption⟩
  · cases this
def tyInts2 (P : Program) (t : TypeId) : Bool := match P.underlying t with
  | some (.struct fs) => match fs.toList with
    | [f0, f1] => (fInt P f0 0 && fInt P f1 1) && (!P.stoodInHeld t && !P.eqGuardType P.depth t)
    | _ => false
  | _ => false
theorem equal_s2 {P : Program} {t : TypeId} (h : tyInts2 P t = true) (a0 a1 b0 b1 : Int) (w : World) : (Op.equal t (.agg [.int .i64 a0, .int .i64 a1].toArray) (.agg [.int .i64 b0, .int .i64 b1].toArray)).run P w = .ok (decide (a0 = b0) && decide (a1 = b1)) w := by
  unfold tyInts2 at h
  split at h
  · rename_i fs hU
    split at h
    · rename_i f0 f1 hl; simp only [Bool.and_eq_true, Bool.not_eq_true'] at h; obtain ⟨⟨h0, h1⟩, hs, _⟩ := h; (obtain rfl : fs = #[f0, f1] := by apply Array.ext'; simpa using hl); obtain ⟨n0, o0, g0, k0, u0⟩ := fInt_get h0; obtain ⟨n1, o1, g1, k1, u1⟩ := fInt_get h1; unfold Op.equal; rw [show Op.maxDepth = (9998 + 1) + 1 from rfl, Op.equalIn]; simp only [underlying, Sem.run_bind, run_program, Result.andThen_ok, hU, Sem.run_pure, hs, Bool.false_eq_true, if_false]; by_cases e0 : a0 = b0
      case neg => simp [part, n0, o0, g0, equalIn_int u0, n1, o1, g1, equalIn_int u1, e0]
      case pos =>
        by_cases e1 : a1 = b1
        case neg => simp [part, n0, o0, g0, equalIn_int u0, n1, o1, g1, equalIn_int u1, e0, e1]
        simp [part, n0, o0, g0, equalIn_int u0, n1, o1, g1, equalIn_int u1, e0, e1]
    · cases h
  · cases h
theorem guard_s2 {P : Program} {t : TypeId} (h : tyInts2 P t = true) : P.eqGuardType P.depth t = false := by
  unfold tyInts2 at h
  split at h
  · split at h
    · simp only [Bool.and_eq_true, Bool.not_eq_true'] at h; exact h.2.2
    · cases h
  · cases h
section
variable {P : Program} {n : Nat} {B : World} {M : Nat → Prop} {fs : SFs} {hs : HS} {o : Oper}
theorem Yv.eqS2 {x y : Operand} {t u : TypeId} {a0 a1 b0 b1 : Int} (hU : tyInts2 P t = true) (ho : o.op = .binOp .eql t x y u) (hx : ev fs x = some (.agg [.int .i64 a0, .int .i64 a1].toArray)) (hy : ev fs y = some (.agg [.int .i64 b0, .int .i64 b1].toArray)) : Yv P n B M fs hs o (.bool (decide (a0 = b0) && decide (a1 = b1))) := fun f w ha _ => by
  have := equal_s2 hU a0 a1 b0 b1 w; have hg := guard_s2 hU; unfold execOp; simp only [ho, ha.ev hx, ha.ev hy, eqGuard, binOp]; simp [this, hg]
theorem Yv.neS2 {x y : Operand} {t u : TypeId} {a0 a1 b0 b1 : Int} (hU : tyInts2 P t = true) (ho : o.op = .binOp .neq t x y u) (hx : ev fs x = some (.agg [.int .i64 a0, .int .i64 a1].toArray)) (hy : ev fs y = some (.agg [.int .i64 b0, .int .i64 b1].toArray)) : Yv P n B M fs hs o (.bool (!(decide (a0 = b0) && decide (a1 = b1)))) := fun f w ha _ => by
  have := equal_s2 hU a0 a1 b0 b1 w; have hg := guard_s2 hU; unfold execOp; simp only [ho, ha.ev hx, ha.ev hy, eqGuard, binOp]; simp [this, hg]
end
def tyInts3 (P : Program) (t : TypeId) : Bool := match P.underlying t with
  | some (.struct fs) => match fs.toList with
    | [f0, f1, f2] => (fInt P f0 0 && fInt P f1 1 && fInt P f2 2) && (!P.stoodInHeld t && !P.eqGuardType P.depth t)
    | _ => false
  | _ => false
theorem equal_s3 {P : Program} {t : TypeId} (h : tyInts3 P t = true) (a0 a1 a2 b0 b1 b2 : Int) (w : World) : (Op.equal t (.agg [.int .i64 a0, .int .i64 a1, .int .i64 a2].toArray) (.agg [.int .i64 b0, .int .i64 b1, .int .i64 b2].toArray)).run P w = .ok (decide (a0 = b0) && decide (a1 = b1) && decide (a2 = b2)) w := by
  unfold tyInts3 at h
  split at h
  · rename_i fs hU
    split at h
    · rename_i f0 f1 f2 hl; simp only [Bool.and_eq_true, Bool.not_eq_true'] at h; obtain ⟨⟨⟨h0, h1⟩, h2⟩, hs, _⟩ := h; (obtain rfl : fs = #[f0, f1, f2] := by apply Array.ext'; simpa using hl); obtain ⟨n0, o0, g0, k0, u0⟩ := fInt_get h0; obtain ⟨n1, o1, g1, k1, u1⟩ := fInt_get h1; obtain ⟨n2, o2, g2, k2, u2⟩ := fInt_get h2; unfold Op.equal; rw [show Op.maxDepth = (9998 + 1) + 1 from rfl, Op.equalIn]; simp only [underlying, Sem.run_bind, run_program, Result.andThen_ok, hU, Sem.run_pure, hs, Bool.false_eq_true, if_false]; by_cases e0 : a0 = b0
      case neg => simp [part, n0, o0, g0, equalIn_int u0, n1, o1, g1, equalIn_int u1, n2, o2, g2, equalIn_int u2, e0]
      case pos =>
        by_cases e1 : a1 = b1
        case neg => simp [part, n0, o0, g0, equalIn_int u0, n1, o1, g1, equalIn_int u1, n2, o2, g2, equalIn_int u2, e0, e1]
        case pos =>
          by_cases e2 : a2 = b2
          case neg => simp [part, n0, o0, g0, equalIn_int u0, n1, o1, g1, equalIn_int u1, n2, o2, g2, equalIn_int u2, e0, e1, e2]
          simp [part, n0, o0, g0, equalIn_int u0, n1, o1, g1, equalIn_int u1, n2, o2, g2, equalIn_int u2, e0, e1, e2]
    · cases h
  · cases h
theorem guard_s3 {P : Program} {t : TypeId} (h : tyInts3 P t = true) : P.eqGuardType P.depth t = false := by
  unfold tyInts3 at h
  split at h
  · split at h
    · simp only [Bool.and_eq_true, Bool.not_eq_true'] at h; exact h.2.2
    · cases h
  · cases h
section
variable {P : Program} {n : Nat} {B : World} {M : Nat → Prop} {fs : SFs} {hs : HS} {o : Oper}
theorem Yv.eqS3 {x y : Operand} {t u : TypeId} {a0 a1 a2 b0 b1 b2 : Int} (hU : tyInts3 P t = true) (ho : o.op = .binOp .eql t x y u) (hx : ev fs x = some (.agg [.int .i64 a0, .int .i64 a1, .int .i64 a2].toArray)) (hy : ev fs y = some (.agg [.int .i64 b0, .int .i64 b1, .int .i64 b2].toArray)) : Yv P n B M fs hs o (.bool (decide (a0 = b0) && decide (a1 = b1) && decide (a2 = b2))) := fun f w ha _ => by
  have := equal_s3 hU a0 a1 a2 b0 b1 b2 w; have hg := guard_s3 hU; unfold execOp; simp only [ho, ha.ev hx, ha.ev hy, eqGuard, binOp]; simp [this, hg]
theorem Yv.neS3 {x y : Operand} {t u : TypeId} {a0 a1 a2 b0 b1 b2 : Int} (hU : tyInts3 P t = true) (ho : o.op = .binOp .neq t x y u) (hx : ev fs x = some (.agg [.int .i64 a0, .int .i64 a1, .int .i64 a2].toArray)) (hy : ev fs y = some (.agg [.int .i64 b0, .int .i64 b1, .int .i64 b2].toArray)) : Yv P n B M fs hs o (.bool (!(decide (a0 = b0) && decide (a1 = b1) && decide (a2 = b2)))) := fun f w ha _ => by
  have := equal_s3 hU a0 a1 a2 b0 b1 b2 w; have hg := guard_s3 hU; unfold execOp; simp only [ho, ha.ev hx, ha.ev hy, eqGuard, binOp]; simp [this, hg]
end
def tyInts4 (P : Program) (t : TypeId) : Bool := match P.underlying t with
  | some (.struct fs) => match fs.toList with
    | [f0, f1, f2, f3] => (fInt P f0 0 && fInt P f1 1 && fInt P f2 2 && fInt P f3 3) && (!P.stoodInHeld t && !P.eqGuardType P.depth t)
    | _ => false
  | _ => false
theorem equal_s4 {P : Program} {t : TypeId} (h : tyInts4 P t = true) (a0 a1 a2 a3 b0 b1 b2 b3 : Int) (w : World) : (Op.equal t (.agg [.int .i64 a0, .int .i64 a1, .int .i64 a2, .int .i64 a3].toArray) (.agg [.int .i64 b0, .int .i64 b1, .int .i64 b2, .int .i64 b3].toArray)).run P w = .ok (decide (a0 = b0) && decide (a1 = b1) && decide (a2 = b2) && decide (a3 = b3)) w := by
  unfold tyInts4 at h
  split at h
  · rename_i fs hU
    split at h
    · rename_i f0 f1 f2 f3 hl; simp only [Bool.and_eq_true, Bool.not_eq_true'] at h; obtain ⟨⟨⟨⟨h0, h1⟩, h2⟩, h3⟩, hs, _⟩ := h; (obtain rfl : fs = #[f0, f1, f2, f3] := by apply Array.ext'; simpa using hl); obtain ⟨n0, o0, g0, k0, u0⟩ := fInt_get h0; obtain ⟨n1, o1, g1, k1, u1⟩ := fInt_get h1; obtain ⟨n2, o2, g2, k2, u2⟩ := fInt_get h2; obtain ⟨n3, o3, g3, k3, u3⟩ := fInt_get h3; unfold Op.equal; rw [show Op.maxDepth = (9998 + 1) + 1 from rfl, Op.equalIn]; simp only [underlying, Sem.run_bind, run_program, Result.andThen_ok, hU, Sem.run_pure, hs, Bool.false_eq_true, if_false]; by_cases e0 : a0 = b0
      case neg => simp [part, n0, o0, g0, equalIn_int u0, n1, o1, g1, equalIn_int u1, n2, o2, g2, equalIn_int u2, n3, o3, g3, equalIn_int u3, e0]
      case pos =>
        by_cases e1 : a1 = b1
        case neg => simp [part, n0, o0, g0, equalIn_int u0, n1, o1, g1, equalIn_int u1, n2, o2, g2, equalIn_int u2, n3, o3, g3, equalIn_int u3, e0, e1]
        case pos =>
          by_cases e2 : a2 = b2
          case neg => simp [part, n0, o0, g0, equalIn_int u0, n1, o1, g1, equalIn_int u1, n2, o2, g2, equalIn_int u2, n3, o3, g3, equalIn_int u3, e0, e1, e2]
          case pos =>
            by_cases e3 : a3 = b3
            case neg => simp [part, n0, o0, g0, equalIn_int u0, n1, o1, g1, equalIn_int u1, n2, o2, g2, equalIn_int u2, n3, o3, g3, equalIn_int u3, e0, e1, e2, e3]
            simp [part, n0, o0, g0, equalIn_int u0, n1, o1, g1, equalIn_int u1, n2, o2, g2, equalIn_int u2, n3, o3, g3, equalIn_int u3, e0, e1, e2, e3]
    · cases h
  · cases h
theorem guard_s4 {P : Program} {t : TypeId} (h : tyInts4 P t = true) : P.eqGuardType P.depth t = false := by
  unfold tyInts4 at h
  split at h
  · split at h
    · simp only [Bool.and_eq_true, Bool.not_eq_true'] at h; exact h.2.2
    · cases h
  · cases h
section
variable {P : Program} {n : Nat} {B : World} {M : Nat → Prop} {fs : SFs} {hs : HS} {o : Oper}
theorem Yv.eqS4 {x y : Operand} {t u : TypeId} {a0 a1 a2 a3 b0 b1 b2 b3 : Int} (hU : tyInts4 P t = true) (ho : o.op = .binOp .eql t x y u) (hx : ev fs x = some (.agg [.int .i64 a0, .int .i64 a1, .int .i64 a2, .int .i64 a3].toArray)) (hy : ev fs y = some (.agg [.int .i64 b0, .int .i64 b1, .int .i64 b2, .int .i64 b3].toArray)) : Yv P n B M fs hs o (.bool (decide (a0 = b0) && decide (a1 = b1) && decide (a2 = b2) && decide (a3 = b3))) := fun f w ha _ => by
  have := equal_s4 hU a0 a1 a2 a3 b0 b1 b2 b3 w; have hg := guard_s4 hU; unfold execOp; simp only [ho, ha.ev hx, ha.ev hy, eqGuard, binOp]; simp [this, hg]
theorem Yv.neS4 {x y : Operand} {t u : TypeId} {a0 a1 a2 a3 b0 b1 b2 b3 : Int} (hU : tyInts4 P t = true) (ho : o.op = .binOp .neq t x y u) (hx : ev fs x = some (.agg [.int .i64 a0, .int .i64 a1, .int .i64 a2, .int .i64 a3].toArray)) (hy : ev fs y = some (.agg [.int .i64 b0, .int .i64 b1, .int .i64 b2, .int .i64 b3].toArray)) : Yv P n B M fs hs o (.bool (!(decide (a0 = b0) && decide (a1 = b1) && decide (a2 = b2) && decide (a3 = b3)))) := fun f w ha _ => by
  have := equal_s4 hU a0 a1 a2 a3 b0 b1 b2 b3 w; have hg := guard_s4 hU; unfold execOp; simp only [ho, ha.ev hx, ha.ev hy, eqGuard, binOp]; simp [this, hg]
end
def tyInts5 (P : Program) (t : TypeId) : Bool := match P.underlying t with
  | some (.struct fs) => match fs.toList with
    | [f0, f1, f2, f3, f4] => (fInt P f0 0 && fInt P f1 1 && fInt P f2 2 && fInt P f3 3 && fInt P f4 4) && (!P.stoodInHeld t && !P.eqGuardType P.depth t)
    | _ => false
  | _ => false
theorem equal_s5 {P : Program} {t : TypeId} (h : tyInts5 P t = true) (a0 a1 a2 a3 a4 b0 b1 b2 b3 b4 : Int) (w : World) : (Op.equal t (.agg [.int .i64 a0, .int .i64 a1, .int .i64 a2, .int .i64 a3, .int .i64 a4].toArray) (.agg [.int .i64 b0, .int .i64 b1, .int .i64 b2, .int .i64 b3, .int .i64 b4].toArray)).run P w = .ok (decide (a0 = b0) && decide (a1 = b1) && decide (a2 = b2) && decide (a3 = b3) && decide (a4 = b4)) w := by
  unfold tyInts5 at h
  split at h
  · rename_i fs hU
    split at h
    · rename_i f0 f1 f2 f3 f4 hl; simp only [Bool.and_eq_true, Bool.not_eq_true'] at h; obtain ⟨⟨⟨⟨⟨h0, h1⟩, h2⟩, h3⟩, h4⟩, hs, _⟩ := h; (obtain rfl : fs = #[f0, f1, f2, f3, f4] := by apply Array.ext'; simpa using hl); obtain ⟨n0, o0, g0, k0, u0⟩ := fInt_get h0; obtain ⟨n1, o1, g1, k1, u1⟩ := fInt_get h1; obtain ⟨n2, o2, g2, k2, u2⟩ := fInt_get h2; obtain ⟨n3, o3, g3, k3, u3⟩ := fInt_get h3; obtain ⟨n4, o4, g4, k4, u4⟩ := fInt_get h4; unfold Op.equal; rw [show Op.maxDepth = (9998 + 1) + 1 from rfl, Op.equalIn]; simp only [underlying, Sem.run_bind, run_program, Result.andThen_ok, hU, Sem.run_pure, hs, Bool.false_eq_true, if_false]; by_cases e0 : a0 = b0
      case neg => simp [part, n0, o0, g0, equalIn_int u0, n1, o1, g1, equalIn_int u1, n2, o2, g2, equalIn_int u2, n3, o3, g3, equalIn_int u3, n4, o4, g4, equalIn_int u4, e0]
      case pos =>
        by_cases e1 : a1 = b1
        case neg => simp [part, n0, o0, g0, equalIn_int u0, n1, o1, g1, equalIn_int u1, n2, o2, g2, equalIn_int u2, n3, o3, g3, equalIn_int u3, n4, o4, g4, equalIn_int u4, e0, e1]
        case pos =>
          by_cases e2 : a2 = b2
          case neg => simp [part, n0, o0, g0, equalIn_int u0, n1, o1, g1, equalIn_int u1, n2, o2, g2, equalIn_int u2, n3, o3, g3, equalIn_int u3, n4, o4, g4, equalIn_int u4, e0, e1, e2]
          case pos =>
            by_cases e3 : a3 = b3
            case neg => simp [part, n0, o0, g0, equalIn_int u0, n1, o1, g1, equalIn_int u1, n2, o2, g2, equalIn_int u2, n3, o3, g3, equalIn_int u3, n4, o4, g4, equalIn_int u4, e0, e1, e2, e3]
            case pos =>
              by_cases e4 : a4 = b4
              case neg => simp [part, n0, o0, g0, equalIn_int u0, n1, o1, g1, equalIn_int u1, n2, o2, g2, equalIn_int u2, n3, o3, g3, equalIn_int u3, n4, o4, g4, equalIn_int u4, e0, e1, e2, e3, e4]
              simp [part, n0, o0, g0, equalIn_int u0, n1, o1, g1, equalIn_int u1, n2, o2, g2, equalIn_int u2, n3, o3, g3, equalIn_int u3, n4, o4, g4, equalIn_int u4, e0, e1, e2, e3, e4]
    · cases h
  · cases h
theorem guard_s5 {P : Program} {t : TypeId} (h : tyInts5 P t = true) : P.eqGuardType P.depth t = false := by
  unfold tyInts5 at h
  split at h
  · split at h
    · simp only [Bool.and_eq_true, Bool.not_eq_true'] at h; exact h.2.2
    · cases h
  · cases h
section
variable {P : Program} {n : Nat} {B : World} {M : Nat → Prop} {fs : SFs} {hs : HS} {o : Oper}
theorem Yv.eqS5 {x y : Operand} {t u : TypeId} {a0 a1 a2 a3 a4 b0 b1 b2 b3 b4 : Int} (hU : tyInts5 P t = true) (ho : o.op = .binOp .eql t x y u) (hx : ev fs x = some (.agg [.int .i64 a0, .int .i64 a1, .int .i64 a2, .int .i64 a3, .int .i64 a4].toArray)) (hy : ev fs y = some (.agg [.int .i64 b0, .int .i64 b1, .int .i64 b2, .int .i64 b3, .int .i64 b4].toArray)) : Yv P n B M fs hs o (.bool (decide (a0 = b0) && decide (a1 = b1) && decide (a2 = b2) && decide (a3 = b3) && decide (a4 = b4))) := fun f w ha _ => by
  have := equal_s5 hU a0 a1 a2 a3 a4 b0 b1 b2 b3 b4 w; have hg := guard_s5 hU; unfold execOp; simp only [ho, ha.ev hx, ha.ev hy, eqGuard, binOp]; simp [this, hg]
theorem Yv.neS5 {x y : Operand} {t u : TypeId} {a0 a1 a2 a3 a4 b0 b1 b2 b3 b4 : Int} (hU : tyInts5 P t = true) (ho : o.op = .binOp .neq t x y u) (hx : ev fs x = some (.agg [.int .i64 a0, .int .i64 a1, .int .i64 a2, .int .i64 a3, .int .i64 a4].toArray)) (hy : ev fs y = some (.agg [.int .i64 b0, .int .i64 b1, .int .i64 b2, .int .i64 b3, .int .i64 b4].toArray)) : Yv P n B M fs hs o (.bool (!(decide (a0 = b0) && decide (a1 = b1) && decide (a2 = b2) && decide (a3 = b3) && decide (a4 = b4)))) := fun f w ha _ => by
  have := equal_s5 hU a0 a1 a2 a3 a4 b0 b1 b2 b3 b4 w; have hg := guard_s5 hU; unfold execOp; simp only [ho, ha.ev hx, ha.ev hy, eqGuard, binOp]; simp [this, hg]
end
end Go.Proofs.YtljgejbmimapdaaDoor
namespace Go.Proofs.YtljgejbmimapdaaDoor
open Go.RowKit
section
variable {σ ρ α : Type}
theorem iterK_any {f : Nat → (Unit → Bool) → Unit → Bool} {k : Unit → Bool} {n : Nat} (q : Nat → Bool) (hf : ∀ i next, i < n → f i next () = (q i || next ())) : iterK f k n 0 () = ((List.range n).any q || k ()) := by
  have key : ∀ m i, i + m = n → iterK f k m i () = ((List.range' i m).any q || k ()) := by
    intro m
    induction m with
    | zero => intro i _; simp [iterK]
    | succ m ih =>
      intro i e
      show f i (iterK f k m (i + 1)) () = _
      rw [hf i _ (by omega), ih (i + 1) (by omega), List.range'_succ, List.any_cons, Bool.or_assoc]
  rw [key n 0 (by omega), List.range_eq_range']
theorem iterK_all {f : Nat → (Unit → Bool) → Unit → Bool} {k : Unit → Bool} {n : Nat} (q : Nat → Bool) (hf : ∀ i next, i < n → f i next () = (q i && next ())) : iterK f k n 0 () = ((List.range n).all q && k ()) := by
  have key : ∀ m i, i + m = n → iterK f k m i () = ((List.range' i m).all q && k ()) := by
    intro m
    induction m with
    | zero => intro i _; simp [iterK]
    | succ m ih =>
      intro i e
      show f i (iterK f k m (i + 1)) () = _
      rw [hf i _ (by omega), ih (i + 1) (by omega), List.range'_succ, List.all_cons, Bool.and_assoc]
  rw [key n 0 (by omega), List.range_eq_range']
theorem iterK_fold {f : Nat → (σ → ρ) → σ → ρ} {k : σ → ρ} {n : Nat} {s : σ} (g : Nat → σ → σ) (hf : ∀ i next s, i < n → f i next s = next (g i s)) : iterK f k n 0 s = k ((List.range n).foldl (fun s i => g i s) s) := by
  have key : ∀ m i s, i + m = n → iterK f k m i s = k ((List.range' i m).foldl (fun s i => g i s) s) := by
    intro m
    induction m with
    | zero => intro i s _; rfl
    | succ m ih =>
      intro i s e
      show f i (iterK f k m (i + 1)) s = _
      rw [hf i _ _ (by omega), ih (i + 1) _ (by omega), List.range'_succ, List.foldl_cons]
  rw [key n 0 s (by omega), List.range_eq_range']
/-- The same for states that meet I. -/
theorem iterK_foldI {f : Nat → (σ → ρ) → σ → ρ} {k : σ → ρ} {n : Nat} {s : σ} (I : Nat → σ → Prop) (g : Nat → σ → σ) (h0 : I 0 s) (hI : ∀ i s, i < n → I i s → I (i + 1) (g i s)) (hf : ∀ i next s, i < n → I i s → f i next s = next (g i s)) : iterK f k n 0 s = k ((List.range n).foldl (fun s i => g i s) s) ∧ I n ((List.range n).foldl (fun s i => g i s) s) := by
  have key : ∀ m i s, i + m = n → I i s → iterK f k m i s = k ((List.range' i m).foldl (fun s i => g i s) s) ∧ I n ((List.range' i m).foldl (fun s i => g i s) s) := by
    intro m
    induction m with
    | zero => intro i s e hs; rw [show i = n by omega] at hs; exact ⟨rfl, hs⟩
    | succ m ih =>
      intro i s e hs; have := ih (i + 1) (g i s) (by omega) (hI i s (by omega) hs); rw [List.range'_succ, List.foldl_cons]; refine ⟨?_, this.2⟩; rw [← this.1]; exact hf i _ s (by omega) hs
  rw [List.range_eq_range']; exact key n 0 s (by omega) h0
theorem range_any {l : List α} [Inhabited α] {q : α → Bool} : ((List.range l.length).any fun i => q (nth l i)) = l.any q := by
  rw [Bool.eq_iff_iff, List.any_eq_true, List.any_eq_true]; constructor
  · rintro ⟨i, hi, h⟩; exact ⟨nth l i, by rw [nth_eq (List.mem_range.1 hi)]; exact List.getElem_mem _, h⟩
  · rintro ⟨x, hx, h⟩; obtain ⟨i, hi, rfl⟩ := List.mem_iff_getElem.1 hx; exact ⟨i, List.mem_range.2 hi, by rw [nth_eq hi]; exact h⟩
theorem range_all {l : List α} [Inhabited α] {q : α → Bool} : ((List.range l.length).all fun i => q (nth l i)) = l.all q := by
  have h := range_any (l := l) (q := fun x => !q x); rw [Bool.eq_iff_iff, List.all_eq_true, List.all_eq_true]; constructor
  · intro h x hx; obtain ⟨i, hi, rfl⟩ := List.mem_iff_getElem.1 hx; have := h i (List.mem_range.2 hi)
    rwa [nth_eq hi] at this
  · intro h i hi; have hi := List.mem_range.1 hi; rw [nth_eq hi]; exact h _ (List.getElem_mem _)
theorem range_foldl {l : List α} [Inhabited α] {g : σ → α → σ} {s : σ} : (List.range l.length).foldl (fun s i => g s (nth l i)) s = l.foldl g s := by
  have e : l = (List.range l.length).map (nth l) := by
    apply List.ext_getElem
    · simp
    · intro i h1 h2; simp [nth_eq h1]
  conv => rhs; rw [e, List.foldl_map]
theorem nth_cons_zero [Inhabited α] {x : α} {l : List α} : nth (x :: l) 0 = x := rfl
theorem wI_in {x : Int} (h : -9223372036854775808 ≤ x ∧ x ≤ 9223372036854775807) : wI x = x := IntWalk.i64_in _ h
/-- Lists that are built by adding to the end. -/
theorem foldl_snoc {l : List α} {β : Type} {g : α → β} {s : List β} : l.foldl (fun s x => s ++ [g x]) s = s ++ l.map g := by
  induction l generalizing s with
  | nil => simp
  | cons x r ih => rw [List.foldl_cons, ih]; simp
theorem foldl_filt {l : List α} {β : Type} {q : α → Bool} {g : α → β} {s : List β} : l.foldl (fun s x => bif q x then s ++ [g x] else s) s = s ++ (l.filter q).map g := by
  induction l generalizing s with
  | nil => simp
  | cons x r ih =>
    rw [List.foldl_cons, ih, List.filter_cons]
    cases q x <;> simp
theorem foldl_snd {l : List α} {β γ : Type} {g : γ → α → γ} {a : β} {b : γ} : l.foldl (fun s x => (s.1, g s.2 x)) (a, b) = (a, l.foldl g b) := by
  induction l generalizing b with
  | nil => rfl
  | cons x r ih => rw [List.foldl_cons, List.foldl_cons]; exact ih
theorem foldl_len {l : List α} {β : Type} {g : List β → α → List β} (hg : ∀ s x, (g s x).length ≤ s.length + 1) {s : List β} : (l.foldl g s).length ≤ s.length + l.length := by
  induction l generalizing s with
  | nil => simp
  | cons x r ih => have := ih (s := g s x); have h2 := hg s x; rw [List.foldl_cons, List.length_cons]; omega
end
end Go.Proofs.YtljgejbmimapdaaDoor
namespace Go.Proofs.YtljgejbmimapdaaDoor
open Go.RowKit
structure GChoice where
  Station : Int
  Channel : Int
deriving DecidableEq, Inhabited
abbrev GChoice.enc (x : GChoice) : List Value := [.int .i64 x.Station, .int .i64 x.Channel]
theorem GChoice.len (x : GChoice) : (GChoice.enc x).length = 2 := rfl
structure GDomain where
  Station : Int
  Channels : List Int
deriving DecidableEq, Inhabited
def GDomain.rep (F : Frz) (c : List Value) (x : GDomain) : Prop := ∃ (v1 : Value), c = [.int .i64 x.Station, v1] ∧ SlC F v1 1 (x.Channels.map eI)
theorem GDomain.mono {F G : Frz} {c : List Value} {x : GDomain} (hle : F.Le G) (h : GDomain.rep F c x) : GDomain.rep G c x := by
  obtain ⟨v1, h0, h2⟩ := h; exact ⟨v1, h0, h2.mono hle⟩
theorem GDomain.len {F : Frz} {c : List Value} {x : GDomain} (h : GDomain.rep F c x) : c.length = 2 := by
  obtain ⟨v1, h0, h2⟩ := h; subst h0; rfl
theorem GDomain.one {F : Frz} {c : List Value} {x : GDomain} (h : GDomain.rep F c x) : OneCs c := by
  obtain ⟨v1, h0, h2⟩ := h; subst h0; haveI := h2.oneC
  infer_instance
theorem GDomain.c0 {F : Frz} {c : List Value} {x : GDomain} (h : GDomain.rep F c x) : c[0]? = some (.int .i64 x.Station) := by
  obtain ⟨v1, h0, h2⟩ := h; subst h0; rfl
theorem GDomain.c1 {F : Frz} {c : List Value} {x : GDomain} (h : GDomain.rep F c x) : c[1]? = some (nth c 1) ∧ SlC F (nth c 1) 1 (x.Channels.map eI) := by
  obtain ⟨v1, h0, h2⟩ := h; subst h0; exact ⟨rfl, h2⟩
theorem GDomain.form {F : Frz} {c : List Value} {x : GDomain} (h : GDomain.rep F c x) : (c.drop 0).take 2 = [.int .i64 x.Station, nth c 1] := by
  obtain ⟨v1, h0, h2⟩ := h; subst h0; rfl
structure GPair where
  A : Int
  B : Int
  Offset : Int
  Low : Int
  High : Int
deriving DecidableEq, Inhabited
abbrev GPair.enc (x : GPair) : List Value := [.int .i64 x.A, .int .i64 x.B, .int .i64 x.Offset, .int .i64 x.Low, .int .i64 x.High]
theorem GPair.len (x : GPair) : (GPair.enc x).length = 5 := rfl
structure GLoad where
  To : Int
  From : Int
  Weight : Int
  Low : Int
  High : Int
deriving DecidableEq, Inhabited
abbrev GLoad.enc (x : GLoad) : List Value := [.int .i64 x.To, .int .i64 x.From, .int .i64 x.Weight, .int .i64 x.Low, .int .i64 x.High]
theorem GLoad.len (x : GLoad) : (GLoad.enc x).length = 5 := rfl
structure GCap where
  Station : Int
  Max : Int
  Low : Int
  High : Int
deriving DecidableEq, Inhabited
abbrev GCap.enc (x : GCap) : List Value := [.int .i64 x.Station, .int .i64 x.Max, .int .i64 x.Low, .int .i64 x.High]
theorem GCap.len (x : GCap) : (GCap.enc x).length = 4 := rfl
structure GRules where
  Pairs : List GPair
  Loads : List GLoad
  Caps : List GCap
deriving DecidableEq, Inhabited
def GRules.rep (F : Frz) (c : List Value) (x : GRules) : Prop := ∃ (v0 : Value) (v1 : Value) (v2 : Value), c = [v0, v1, v2] ∧ SlC F v0 5 (x.Pairs.map GPair.enc) ∧ SlC F v1 5 (x.Loads.map GLoad.enc) ∧ SlC F v2 4 (x.Caps.map GCap.enc)
theorem GRules.mono {F G : Frz} {c : List Value} {x : GRules} (hle : F.Le G) (h : GRules.rep F c x) : GRules.rep G c x := by
  obtain ⟨v0, v1, v2, h0, h1, h2, h3⟩ := h; exact ⟨v0, v1, v2, h0, h1.mono hle, h2.mono hle, h3.mono hle⟩
theorem GRules.len {F : Frz} {c : List Value} {x : GRules} (h : GRules.rep F c x) : c.length = 3 := by
  obtain ⟨v0, v1, v2, h0, h1, h2, h3⟩ := h; subst h0; rfl
theorem GRules.one {F : Frz} {c : List Value} {x : GRules} (h : GRules.rep F c x) : OneCs c := by
  obtain ⟨v0, v1, v2, h0, h1, h2, h3⟩ := h; subst h0; haveI := h1.oneC; haveI := h2.oneC; haveI := h3.oneC
  infer_instance
theorem GRules.c0 {F : Frz} {c : List Value} {x : GRules} (h : GRules.rep F c x) : c[0]? = some (nth c 0) ∧ SlC F (nth c 0) 5 (x.Pairs.map GPair.enc) := by
  obtain ⟨v0, v1, v2, h0, h1, h2, h3⟩ := h; subst h0; exact ⟨rfl, h1⟩
theorem GRules.c1 {F : Frz} {c : List Value} {x : GRules} (h : GRules.rep F c x) : c[1]? = some (nth c 1) ∧ SlC F (nth c 1) 5 (x.Loads.map GLoad.enc) := by
  obtain ⟨v0, v1, v2, h0, h1, h2, h3⟩ := h; subst h0; exact ⟨rfl, h2⟩
theorem GRules.c2 {F : Frz} {c : List Value} {x : GRules} (h : GRules.rep F c x) : c[2]? = some (nth c 2) ∧ SlC F (nth c 2) 4 (x.Caps.map GCap.enc) := by
  obtain ⟨v0, v1, v2, h0, h1, h2, h3⟩ := h; subst h0; exact ⟨rfl, h3⟩
theorem GRules.form {F : Frz} {c : List Value} {x : GRules} (h : GRules.rep F c x) : (c.drop 0).take 3 = [nth c 0, nth c 1, nth c 2] := by
  obtain ⟨v0, v1, v2, h0, h1, h2, h3⟩ := h; subst h0; rfl
structure GProblem where
  Domains : List GDomain
  Rules : GRules
deriving DecidableEq, Inhabited
def GProblem.rep (F : Frz) (c : List Value) (x : GProblem) : Prop := ∃ (v0 : Value) (cs0 : List (List Value)) (v1 : Value) (v2 : Value) (v3 : Value), c = [v0, v1, v2, v3] ∧ SlD GDomain.rep F v0 2 cs0 x.Domains ∧ SlC F v1 5 (x.Rules.Pairs.map GPair.enc) ∧ SlC F v2 5 (x.Rules.Loads.map GLoad.enc) ∧ SlC F v3 4 (x.Rules.Caps.map GCap.enc)
theorem GProblem.mono {F G : Frz} {c : List Value} {x : GProblem} (hle : F.Le G) (h : GProblem.rep F c x) : GProblem.rep G c x := by
  obtain ⟨v0, cs0, v1, v2, v3, h0, h1, h2, h3, h4⟩ := h; exact ⟨v0, cs0, v1, v2, v3, h0, SlD.mono (rep := GDomain.rep) (fun _ _ _ _ => GDomain.mono) h1 hle, h2.mono hle, h3.mono hle, h4.mono hle⟩
theorem GProblem.len {F : Frz} {c : List Value} {x : GProblem} (h : GProblem.rep F c x) : c.length = 4 := by
  obtain ⟨v0, cs0, v1, v2, v3, h0, h1, h2, h3, h4⟩ := h; subst h0; rfl
theorem GProblem.one {F : Frz} {c : List Value} {x : GProblem} (h : GProblem.rep F c x) : OneCs c := by
  obtain ⟨v0, cs0, v1, v2, v3, h0, h1, h2, h3, h4⟩ := h; subst h0; haveI := h1.1.oneC; haveI := h2.oneC; haveI := h3.oneC; haveI := h4.oneC
  infer_instance
theorem GProblem.c0 {F : Frz} {c : List Value} {x : GProblem} (h : GProblem.rep F c x) : c[0]? = some (nth c 0) ∧ ∃ cs, SlD GDomain.rep F (nth c 0) 2 cs x.Domains := by
  obtain ⟨v0, cs0, v1, v2, v3, h0, h1, h2, h3, h4⟩ := h; subst h0; exact ⟨rfl, cs0, h1⟩
theorem GProblem.c1 {F : Frz} {c : List Value} {x : GProblem} (h : GProblem.rep F c x) : c[1]? = some (nth c 1) ∧ SlC F (nth c 1) 5 (x.Rules.Pairs.map GPair.enc) := by
  obtain ⟨v0, cs0, v1, v2, v3, h0, h1, h2, h3, h4⟩ := h; subst h0; exact ⟨rfl, h2⟩
theorem GProblem.c2 {F : Frz} {c : List Value} {x : GProblem} (h : GProblem.rep F c x) : c[2]? = some (nth c 2) ∧ SlC F (nth c 2) 5 (x.Rules.Loads.map GLoad.enc) := by
  obtain ⟨v0, cs0, v1, v2, v3, h0, h1, h2, h3, h4⟩ := h; subst h0; exact ⟨rfl, h3⟩
theorem GProblem.c3 {F : Frz} {c : List Value} {x : GProblem} (h : GProblem.rep F c x) : c[3]? = some (nth c 3) ∧ SlC F (nth c 3) 4 (x.Rules.Caps.map GCap.enc) := by
  obtain ⟨v0, cs0, v1, v2, v3, h0, h1, h2, h3, h4⟩ := h; subst h0; exact ⟨rfl, h4⟩
theorem GProblem.form {F : Frz} {c : List Value} {x : GProblem} (h : GProblem.rep F c x) : (c.drop 0).take 4 = [nth c 0, nth c 1, nth c 2, nth c 3] := by
  obtain ⟨v0, cs0, v1, v2, v3, h0, h1, h2, h3, h4⟩ := h; subst h0; rfl
def ref17_station_x (n : Int) : Bool :=
  ((decide (0 ≤ n)) && (decide (n ≤ 511)))
theorem ref17_station_c (F0 : Frz) (w : World) (hF0 : F0.At w) (n : Int) : Calls Tryd.prog 38 #[.int .i64 n] w fun e w' => e = .returned (.bool (ref17_station_x n)) ∧ Below w.heap.size w w' := by
  obtain ⟨r, hk⟩ : ∃ r, ref17_station_x n = r := ⟨_, rfl⟩; rw [hk]; unfold ref17_station_x at hk; obtain ⟨S0, F1, rfl, hS0, hp0⟩ := startF_ex hF0; refine calls_T (M := fun _ => False) (hs := [.fr F1]) Tryd.func38 rfl rfl rfl hp0 ?_; refine T.seq (T.region ?_); refine TL.run 1 rfl ?_; refine TL.nil (K.seq (T.seq ?_)); refine T.cutXK (ι := Unit) (fun z => [(2, .bool ((decide (0 ≤ n)) && (decide (n ≤ 511))))]) (fun z => [.fr F1]) (fun z => True) ?_ ?_
  · refine T.region ?_; refine TL.run 3 rfl ?_; refine TL.gs rfl rfl rfl (fun h1 => ?_) (fun h1 => ?_)
    · have p1 := of_decide_eq_true h1; refine TL.run 4 rfl ?_; refine TL.nil ?_; exact K.atX () trivial (.b (and_t h1) .nil) (List.Sublist.refl _)
    · have p1 := of_decide_eq_false h1; refine TL.run 4 rfl ?_; refine TL.nil ?_; exact K.atX () trivial (.b (and_ff h1).symm .nil) (List.Sublist.refl _)
  · rintro _ _; refine T.ret ?_; subst hk; exact K.ret1 rfl rfl (fun w' hw => ⟨rfl, hw.isBelow⟩)
def ref17_ValidList_x (l : List GChoice) : Bool :=
  joinK (fun (_ : Unit) =>
    true)
  (fun k1 =>
    iterK (fun (i_3 : Nat) (next2 : Unit → Bool) (_ : Unit) =>
      (bif ((((!(ref17_station_x ((nth l i_3).Station))) || (decide ((nth l i_3).Channel < 2))) || (decide (51 < (nth l i_3).Channel))) || ((decide (0 < (i_3 : Int))) && (decide ((nth l i_3).Station ≤ (nth l (((i_3 : Int) - 1).toNat)).Station)))) then
        false
        else
        next2 ()))
    (fun (_ : Unit) =>
      k1 ()) (l.length - 0) 0 ())
theorem ref17_ValidList_c (F0 : Frz) (w : World) (hF0 : F0.At w) (l : List GChoice) (vl : Value) (hl : SlC F0 vl 2 (l.map GChoice.enc)) : Calls Tryd.prog 13 #[vl] w fun e w' => e = .returned (.bool (ref17_ValidList_x l)) ∧ Below w.heap.size w w' := by
  obtain ⟨r, hk⟩ : ∃ r, ref17_ValidList_x l = r := ⟨_, rfl⟩; rw [hk]; unfold ref17_ValidList_x at hk; haveI := hl.oneC; obtain ⟨S0, F1, rfl, hS0, hp0⟩ := startF_ex hF0; refine calls_T (M := fun _ => False) (hs := [.fr F1]) Tryd.func13 rfl rfl rfl hp0 ?_; refine T.seq (T.region ?_); refine TL.run 1 rfl ?_; refine TL.nil (K.seq (T.seq (T.seq (T.region ?_)))); refine TL.run 1 rfl ?_; refine TL.nil (K.seq ?_); have hq := joinK_open hk; clear hk; obtain ⟨k1, hk1, hk⟩ := hq; (try dsimp only at hk); refine T.cutXK (ι := Unit) (fun z => []) (fun z => [.fr F1]) (fun z => k1 () = r) ?_ ?_
  · have hq := iterK_open hk; clear hk; obtain ⟨f2, kk2, hf2, hkk2, hk⟩ := hq; refine T.block ?_; refine T.loop (ι := Nat) (fun z => [(0, vl), (3, .int .i64 (z : Int))]) (fun z => [.fr F1]) (fun z => iterK f2 kk2 (l.length - z) z () = r) (fun z => l.length - z) 0 ?_ ?_ ?_ ?_
    · exact hk
    · exact (.c (.c .nil))
    · exact List.Sublist.refl _
    · rintro i_3 hk; refine T.seq (T.seq (T.region ?_)); refine TL.run 2 rfl ?_; refine TL.y (Yv.lenR rfl rfl hl (List.length_map _)) ?_; have hm6 : l.length ≤ 9223372036854775807 := (List.length_map _) ▸ hl.max; refine TL.run 1 rfl ?_; refine TL.nil (K.seq ?_); refine T.cond rfl (fun h4 => ?_) (fun h4 => ?_)
      · have p4 := of_decide_eq_true h4; rw [iterK_lt (by omega)] at hk; generalize hn2 : iterK f2 kk2 (l.length - (i_3 + 1)) (i_3 + 1) = next2 at hk; rw [← hf2] at hk; (try dsimp only at hk); refine T.skip (K.seq (T.seq (T.block (T.seq ?_)))); refine T.cutXK (ι := Unit) (fun z => [(0, vl), (3, .int .i64 (i_3 : Int)), (50, .bool ((((!(ref17_station_x ((nth l i_3).Station))) || (decide ((nth l i_3).Channel < 2))) || (decide (51 < (nth l i_3).Channel))) || ((decide (0 < (i_3 : Int))) && (decide ((nth l i_3).Station ≤ (nth l (((i_3 : Int) - 1).toNat)).Station)))))]) (fun z => [.fr F1]) (fun z => True) ?_ ?_
        · refine T.draw (.still 0 (.still 1 (.still 2 (.still 3 (.still 4 (.eff 5 (.still 6 (.still 7 (.still 8 (.still 9 (.still 10 (.still 11 (.still 12 (.still 13 (.still 14 (.still 15 (.still 16 (.still 17 (.still 18 (.still 19 (.still 20 (.still 21 (.still 22 (.still 23 (.still 24 (.still 25 (.still 26 (.still 27 (.still 28 (.still 29 (.still 30 (.still 31 (.still 32 (.still 33 (.still 34 (.still 35 (.still 36 (.still 37 (.still 38 (.still 39 (.still 40 .done))))))))))))))))))))))))))))))))))))))))) _ (by kernel_rfl) (List.Sublist.refl _) ?_; refine TS.run 2 rfl ?_; refine TS.y rfl (Yv.idxR (i := i_3) rfl rfl rfl hl (List.length_map _) rfl (by omega)) ?_; refine TS.y rfl (Yv.fldR rfl rfl hl (List.length_map _) (by omega)) ?_; refine TS.y rfl (Yv.loadRF 0 (i := i_3) (j := 0) rfl rfl rfl hl (by omega) rfl rfl) ?_; refine TS.eff ?_; refine TSo.ewG rfl (Wt.none rfl) rfl rfl (Ew.callD rfl rfl rfl (fun w hw => ref17_station_c _ w (hw.fr (i := 0) rfl) ((nth l i_3).Station))) ?_; rintro _ _ ⟨rfl, rfl⟩; refine ⟨(fun w hw => hw.sub (by repeat first | exact S0 | exact S1 | refine S2 ?_ | refine S3 ?_)), ?_⟩; refine TS.run 2 rfl ?_; refine TS.gs rfl rfl rfl rfl (fun h5 => ?_) (fun h5 => ?_)
          · have p5 := h5; (try simp only [nfB] at p5); refine TS.run 33 rfl ?_; refine TS.done ?_; exact K.atX () trivial (.c (.c (.b (or_tt (or_tt (or_tt h5))).symm .nil))) (List.Sublist.refl _)
          · have p5 := h5; (try simp only [nfB] at p5); refine TS.run 2 rfl ?_; refine TS.y rfl (Yv.idxR (i := i_3) rfl rfl rfl hl (List.length_map _) rfl (by omega)) ?_; refine TS.y rfl (Yv.fldR rfl rfl hl (List.length_map _) (by omega)) ?_; refine TS.y rfl (Yv.loadRF 0 (i := i_3) (j := 1) rfl rfl rfl hl (by omega) rfl rfl) ?_; refine TS.run 3 rfl ?_; refine TS.gs rfl rfl rfl rfl (fun h6 => ?_) (fun h6 => ?_)
            · have p6 := of_decide_eq_true h6; refine TS.run 25 rfl ?_; refine TS.done ?_; exact K.atX () trivial (.c (.c (.b (or_tt (or_tt (or_fx h5 h6))).symm .nil))) (List.Sublist.refl _)
            · have p6 := of_decide_eq_false h6; refine TS.run 2 rfl ?_; refine TS.y rfl (Yv.idxR (i := i_3) rfl rfl rfl hl (List.length_map _) rfl (by omega)) ?_; refine TS.y rfl (Yv.fldR rfl rfl hl (List.length_map _) (by omega)) ?_; refine TS.y rfl (Yv.loadRF 0 (i := i_3) (j := 1) rfl rfl rfl hl (by omega) rfl rfl) ?_; refine TS.run 3 rfl ?_; refine TS.gs rfl rfl rfl rfl (fun h7 => ?_) (fun h7 => ?_)
              · have p7 := of_decide_eq_true h7; refine TS.run 17 rfl ?_; refine TS.done ?_; exact K.atX () trivial (.c (.c (.b (or_tt (or_fx (or_fx h5 h6) h7)).symm .nil))) (List.Sublist.refl _)
              · have p7 := of_decide_eq_false h7; refine TS.run 3 rfl ?_; refine TS.gs rfl rfl rfl rfl (fun h8 => ?_) (fun h8 => ?_)
                · have p8 := of_decide_eq_true h8; refine TS.run 2 rfl ?_; refine TS.y rfl (Yv.subI rfl rfl rfl (by omega)) ?_; refine TS.y rfl (Yv.idxR (i := ((i_3 : Int) - 1).toNat) rfl rfl rfl hl (List.length_map _) (by omega) (by omega)) ?_; refine TS.y rfl (Yv.fldR rfl rfl hl (List.length_map _) (by omega)) ?_; refine TS.y rfl (Yv.loadRF 0 (i := ((i_3 : Int) - 1).toNat) (j := 0) rfl rfl rfl hl (by omega) rfl rfl) ?_; refine TS.run 2 rfl ?_; refine TS.y rfl (Yv.idxR (i := i_3) rfl rfl rfl hl (List.length_map _) rfl (by omega)) ?_; refine TS.y rfl (Yv.fldR rfl rfl hl (List.length_map _) (by omega)) ?_; refine TS.y rfl (Yv.loadRF 0 (i := i_3) (j := 0) rfl rfl rfl hl (by omega) rfl rfl) ?_; refine TS.run 3 rfl ?_; refine TS.done ?_; exact K.atX () trivial (.c (.c (.b (Eq.trans (and_t h8) (or_f (or_fx (or_fx h5 h6) h7))) .nil))) (List.Sublist.refl _)
                · have p8 := of_decide_eq_false h8; refine TS.run 14 rfl ?_; refine TS.done ?_; exact K.atX () trivial (.c (.c (.b (or_fx (or_fx (or_fx h5 h6) h7) (and_ff h8)).symm .nil))) (List.Sublist.refl _)
        · rintro _ _; refine T.cond rfl (fun h9 => ?_) (fun h9 => ?_)
          · have p9 := h9; (try simp only [nfB] at p9); replace hk := condT_open hk h9; refine T.seq (T.region ?_); refine TL.run 1 rfl ?_; refine TL.nil (K.seq (T.ret (K.blk_ret (K.then_ret (K.then_ret (K.blk_ret (K.then_ret ?_))))))); subst hk; exact K.ret1 rfl rfl (fun w' hw => ⟨rfl, hw.isBelow⟩)
          · have p9 := h9; (try simp only [nfB] at p9); replace hk := condF_open hk h9; refine T.skip (K.blk_normal (K.seq (T.region ?_))); refine TL.run 1 rfl ?_; refine TL.y (Yv.addI rfl rfl rfl (by omega)) ?_; refine TL.run 1 rfl ?_; refine TL.nil ?_; rw [← hn2] at hk; exact K.next (i_3 + 1) hk (by omega) (.c (.c .nil)) (List.Sublist.refl _)
      · have p4 := of_decide_eq_false h4; rw [iterK_ge (by omega), ← hkk2] at hk; (try dsimp only at hk); refine T.exit (K.then_exit (K.then_exit (K.blk_exit_eq ?_))); exact K.atX () hk .nil (List.Sublist.refl _)
  · rintro _ hk; rw [← hk1] at hk; (try dsimp only at hk); refine T.seq (T.region ?_); refine TL.run 1 rfl ?_; refine TL.nil (K.seq (T.ret ?_)); subst hk; exact K.ret1 rfl rfl (fun w' hw => ⟨rfl, hw.isBelow⟩)
def ref17_Find_x (p : GProblem) (n : Int) : Int :=
  joinK (fun (_ : Unit) =>
    (-1))
  (fun k1 =>
    iterK (fun (i_3 : Nat) (next2 : Unit → Int) (_ : Unit) =>
      (bif decide ((nth p.Domains i_3).Station = n) then
        (i_3 : Int)
        else
        next2 ()))
    (fun (_ : Unit) =>
      k1 ()) (p.Domains.length - 0) 0 ())
theorem ref17_Find_c (F0 : Frz) (w : World) (hF0 : F0.At w) (p : GProblem) (vp_0 : Value) (cp_0 : List (List Value)) (hp_0 : SlD GDomain.rep F0 vp_0 2 cp_0 p.Domains) (vp_1 : Value) (hp_1 : SlC F0 vp_1 5 (p.Rules.Pairs.map GPair.enc)) (vp_2 : Value) (hp_2 : SlC F0 vp_2 5 (p.Rules.Loads.map GLoad.enc)) (vp_3 : Value) (hp_3 : SlC F0 vp_3 4 (p.Rules.Caps.map GCap.enc)) (n : Int) : Calls Tryd.prog 14 #[.agg [vp_0, vp_1, vp_2, vp_3].toArray, .int .i64 n] w fun e w' => e = .returned (.int .i64 (ref17_Find_x p n)) ∧ Below w.heap.size w w' := by
  obtain ⟨r, hk⟩ : ∃ r, ref17_Find_x p n = r := ⟨_, rfl⟩; rw [hk]; unfold ref17_Find_x at hk; haveI := hp_0.1.oneC; haveI := hp_1.oneC; haveI := hp_2.oneC; haveI := hp_3.oneC; obtain ⟨S0, F1, rfl, hS0, hp0⟩ := startF_ex hF0; refine calls_T (M := fun _ => False) (hs := [.fr F1]) Tryd.func14 rfl rfl rfl hp0 ?_; refine T.seq (T.region ?_); refine TL.e (Ew.boxA rfl rfl) ?_; rintro _ _ ⟨g2, rfl, rfl⟩; refine TL.run 1 rfl ?_; refine TL.nil (K.seq (T.seq (T.seq (T.region ?_)))); refine TL.run 1 rfl ?_; refine TL.nil (K.seq ?_); have hq := joinK_open hk; clear hk; obtain ⟨k1, hk1, hk⟩ := hq; (try dsimp only at hk); refine T.cutXK (ι := Unit) (fun z => []) (fun z => [.fr F1]) (fun z => k1 () = r) ?_ ?_
  · have hq := iterK_open hk; clear hk; obtain ⟨f2, kk2, hf2, hkk2, hk⟩ := hq; refine T.block ?_; refine T.loop (ι := Nat) (fun z => [(1, .int .i64 n), (2, .pointer (some ⟨g2, 0, none⟩)), (5, .int .i64 (z : Int))]) (fun z => [.row g2 29 [vp_0, vp_1, vp_2, vp_3], .fr F1]) (fun z => iterK f2 kk2 (p.Domains.length - z) z () = r) (fun z => p.Domains.length - z) 0 ?_ ?_ ?_ ?_
    · exact hk
    · exact (.c (.c (.c .nil)))
    · exact List.Sublist.refl _
    · rintro i_3 hk; refine T.seq (T.seq (T.region ?_)); refine TL.run 1 rfl ?_; refine TL.y (Yv.fieldAddr rfl rfl) ?_; refine TL.y (Yv.loadO 0 rfl rfl rfl rfl) ?_; refine TL.y (Yv.lenR rfl rfl hp_0.1 hp_0.2.1) ?_; have hm9 : p.Domains.length ≤ 9223372036854775807 := hp_0.2.1 ▸ hp_0.1.max; refine TL.run 1 rfl ?_; refine TL.nil (K.seq ?_); refine T.cond rfl (fun h4 => ?_) (fun h4 => ?_)
      · have p4 := of_decide_eq_true h4; rw [iterK_lt (by omega)] at hk; generalize hn2 : iterK f2 kk2 (p.Domains.length - (i_3 + 1)) (i_3 + 1) = next2 at hk; rw [← hf2] at hk; (try dsimp only at hk); refine T.skip (K.seq (T.seq (T.block (T.seq (T.region ?_))))); refine TL.y (Yv.fieldAddr rfl rfl) ?_; refine TL.y (Yv.loadO 0 rfl rfl rfl rfl) ?_; refine TL.run 1 rfl ?_; refine TL.y (Yv.idxR (i := i_3) rfl rfl rfl hp_0.1 hp_0.2.1 rfl (by omega)) ?_; refine TL.y (Yv.fldR rfl rfl hp_0.1 hp_0.2.1 (by omega)) ?_; refine TL.y (Yv.loadR 1 (i := i_3) (j := 0) rfl rfl rfl hp_0.1 hp_0.2.1 (by omega) rfl (GDomain.c0 (hp_0.2.2 i_3 (by omega)))) ?_; refine TL.run 2 rfl ?_; refine TL.nil (K.seq ?_); refine T.cond rfl (fun h5 => ?_) (fun h5 => ?_)
        · have p5 := of_decide_eq_true h5; replace hk := condT_open hk h5; refine T.seq (T.region ?_); refine TL.run 2 rfl ?_; refine TL.nil (K.seq (T.ret (K.blk_ret (K.then_ret (K.then_ret (K.blk_ret (K.then_ret ?_))))))); subst hk; exact K.ret1 rfl rfl (fun w' hw => ⟨rfl, hw.isBelow⟩)
        · have p5 := of_decide_eq_false h5; replace hk := condF_open hk h5; refine T.skip (K.blk_normal (K.seq (T.region ?_))); refine TL.run 1 rfl ?_; refine TL.y (Yv.addI rfl rfl rfl (by omega)) ?_; refine TL.run 1 rfl ?_; refine TL.nil ?_; rw [← hn2] at hk; exact K.next (i_3 + 1) hk (by omega) (.c (.c (.c .nil))) (List.Sublist.refl _)
      · have p4 := of_decide_eq_false h4; rw [iterK_ge (by omega), ← hkk2] at hk; (try dsimp only at hk); refine T.exit (K.then_exit (K.then_exit (K.blk_exit_eq ?_))); refine K.pick [1] rfl (by decide) ?_; exact K.atX () hk .nil (List.Sublist.refl _)
  · rintro _ hk; rw [← hk1] at hk; (try dsimp only at hk); refine T.seq (T.region ?_); refine TL.run 1 rfl ?_; refine TL.nil (K.seq (T.ret ?_)); subst hk; exact K.ret1 rfl rfl (fun w' hw => ⟨rfl, hw.isBelow⟩)
def ref17_SameInts_x (a : List Int) (b : List Int) : Bool :=
  (bif decide (¬ (a.length : Int) = (b.length : Int)) then
    false
    else
    joinK (fun (_ : Unit) =>
      true)
    (fun k2 =>
      iterK (fun (i_4 : Nat) (next3 : Unit → Bool) (_ : Unit) =>
        (bif decide (¬ (nth a i_4) = (nth b i_4)) then
          false
          else
          next3 ()))
      (fun (_ : Unit) =>
        k2 ()) (a.length - 0) 0 ()))
theorem ref17_SameInts_c (F0 : Frz) (w : World) (hF0 : F0.At w) (a : List Int) (va : Value) (ha : SlC F0 va 1 (a.map eI)) (b : List Int) (vb : Value) (hb : SlC F0 vb 1 (b.map eI)) : Calls Tryd.prog 41 #[va, vb] w fun e w' => e = .returned (.bool (ref17_SameInts_x a b)) ∧ Below w.heap.size w w' := by
  obtain ⟨r, hk⟩ : ∃ r, ref17_SameInts_x a b = r := ⟨_, rfl⟩; rw [hk]; unfold ref17_SameInts_x at hk; haveI := ha.oneC; haveI := hb.oneC; obtain ⟨S0, F1, rfl, hS0, hp0⟩ := startF_ex hF0; refine calls_T (M := fun _ => False) (hs := [.fr F1]) Tryd.func41 rfl rfl rfl hp0 ?_; refine T.seq (T.region ?_); refine TL.run 1 rfl ?_; refine TL.nil (K.seq (T.seq (T.seq (T.region ?_)))); refine TL.run 1 rfl ?_; refine TL.y (Yv.lenR rfl rfl ha (List.length_map _)) ?_; have hm7 : a.length ≤ 9223372036854775807 := (List.length_map _) ▸ ha.max; refine TL.run 1 rfl ?_; refine TL.y (Yv.lenR rfl rfl hb (List.length_map _)) ?_; have hm9 : b.length ≤ 9223372036854775807 := (List.length_map _) ▸ hb.max; refine TL.run 1 rfl ?_; refine TL.nil (K.seq ?_); refine T.cond rfl (fun h1 => ?_) (fun h1 => ?_)
  · have p1 := of_decide_eq_true h1; replace hk := condT_open hk h1; refine T.seq (T.region ?_); refine TL.run 1 rfl ?_; refine TL.nil (K.seq (T.ret (K.then_ret ?_))); subst hk; exact K.ret1 rfl rfl (fun w' hw => ⟨rfl, hw.isBelow⟩)
  · have p1 := of_decide_eq_false h1; replace hk := condF_open hk h1; refine T.skip (K.seq (T.seq (T.seq (T.region ?_)))); refine TL.run 1 rfl ?_; refine TL.nil (K.seq ?_); have hq := joinK_open hk; clear hk; obtain ⟨k2, hk2, hk⟩ := hq; (try dsimp only at hk); refine T.cutXK (ι := Unit) (fun z => []) (fun z => [.fr F1]) (fun z => k2 () = r) ?_ ?_
    · have hq := iterK_open hk; clear hk; obtain ⟨f3, kk3, hf3, hkk3, hk⟩ := hq; refine T.block ?_; refine T.loop (ι := Nat) (fun z => [(0, va), (1, vb), (5, .int .i64 (z : Int))]) (fun z => [.fr F1]) (fun z => iterK f3 kk3 (a.length - z) z () = r) (fun z => a.length - z) 0 ?_ ?_ ?_ ?_
      · exact hk
      · exact (.c (.c (.c .nil)))
      · exact List.Sublist.refl _
      · rintro i_4 hk; refine T.seq (T.seq (T.region ?_)); refine TL.run 2 rfl ?_; refine TL.y (Yv.lenR rfl rfl ha (List.length_map _)) ?_; refine TL.run 1 rfl ?_; refine TL.nil (K.seq ?_); refine T.cond rfl (fun h5 => ?_) (fun h5 => ?_)
        · have p5 := of_decide_eq_true h5; rw [iterK_lt (by omega)] at hk; generalize hn3 : iterK f3 kk3 (a.length - (i_4 + 1)) (i_4 + 1) = next3 at hk; rw [← hf3] at hk; (try dsimp only at hk); refine T.skip (K.seq (T.seq (T.block (T.seq ?_)))); refine T.draw (.still 0 (.still 1 (.still 2 (.still 3 (.still 4 (.still 5 (.still 6 (.still 7 (.still 8 .done))))))))) _ (by kernel_rfl) (List.Sublist.refl _) ?_; refine TS.run 2 rfl ?_; refine TS.y rfl (Yv.idxR (i := i_4) rfl rfl rfl ha (List.length_map _) rfl (by omega)) ?_; refine TS.y rfl (Yv.loadRF 0 (i := i_4) (j := 0) rfl rfl rfl ha (by omega) rfl rfl) ?_; refine TS.run 2 rfl ?_; refine TS.y rfl (Yv.idxR (i := i_4) rfl rfl rfl hb (List.length_map _) rfl (by omega)) ?_; refine TS.y rfl (Yv.loadRF 0 (i := i_4) (j := 0) rfl rfl rfl hb (by omega) rfl rfl) ?_; refine TS.run 1 rfl ?_; refine TS.done ?_; refine K.seq ?_; refine T.cond rfl (fun h6 => ?_) (fun h6 => ?_)
          · have p6 := of_decide_eq_true h6; replace hk := condT_open hk h6; refine T.seq (T.region ?_); refine TL.run 1 rfl ?_; refine TL.nil (K.seq (T.ret (K.blk_ret (K.then_ret (K.then_ret (K.blk_ret (K.then_ret ?_))))))); subst hk; exact K.ret1 rfl rfl (fun w' hw => ⟨rfl, hw.isBelow⟩)
          · have p6 := of_decide_eq_false h6; replace hk := condF_open hk h6; refine T.skip (K.blk_normal (K.seq (T.region ?_))); refine TL.run 1 rfl ?_; refine TL.y (Yv.addI rfl rfl rfl (by omega)) ?_; refine TL.run 1 rfl ?_; refine TL.nil ?_; rw [← hn3] at hk; exact K.next (i_4 + 1) hk (by omega) (.c (.c (.c .nil))) (List.Sublist.refl _)
        · have p5 := of_decide_eq_false h5; rw [iterK_ge (by omega), ← hkk3] at hk; (try dsimp only at hk); refine T.exit (K.then_exit (K.then_exit (K.blk_exit_eq ?_))); exact K.atX () hk .nil (List.Sublist.refl _)
    · rintro _ hk; rw [← hk2] at hk; (try dsimp only at hk); refine T.seq (T.region ?_); refine TL.run 1 rfl ?_; refine TL.nil (K.seq (T.ret ?_)); subst hk; exact K.ret1 rfl rfl (fun w' hw => ⟨rfl, hw.isBelow⟩)
def ref17_SameDomains_x (a : List GDomain) (b : List GDomain) : Bool :=
  (bif decide (¬ (a.length : Int) = (b.length : Int)) then
    false
    else
    joinK (fun (_ : Unit) =>
      true)
    (fun k2 =>
      iterK (fun (i_4 : Nat) (next3 : Unit → Bool) (_ : Unit) =>
        (bif ((decide (¬ (nth a i_4).Station = (nth b i_4).Station)) || (!(ref17_SameInts_x ((nth a i_4).Channels) ((nth b i_4).Channels)))) then
          false
          else
          next3 ()))
      (fun (_ : Unit) =>
        k2 ()) (a.length - 0) 0 ()))
theorem ref17_SameDomains_c (F0 : Frz) (w : World) (hF0 : F0.At w) (a : List GDomain) (va : Value) (ca : List (List Value)) (ha : SlD GDomain.rep F0 va 2 ca a) (b : List GDomain) (vb : Value) (cb : List (List Value)) (hb : SlD GDomain.rep F0 vb 2 cb b) : Calls Tryd.prog 16 #[va, vb] w fun e w' => e = .returned (.bool (ref17_SameDomains_x a b)) ∧ Below w.heap.size w w' := by
  obtain ⟨r, hk⟩ : ∃ r, ref17_SameDomains_x a b = r := ⟨_, rfl⟩; rw [hk]; unfold ref17_SameDomains_x at hk; haveI := ha.1.oneC; haveI := hb.1.oneC; obtain ⟨S0, F1, rfl, hS0, hp0⟩ := startF_ex hF0; refine calls_T (M := fun _ => False) (hs := [.fr F1]) Tryd.func16 rfl rfl rfl hp0 ?_; refine T.seq (T.region ?_); refine TL.run 1 rfl ?_; refine TL.nil (K.seq (T.seq (T.seq (T.region ?_)))); refine TL.run 1 rfl ?_; refine TL.y (Yv.lenR rfl rfl ha.1 ha.2.1) ?_; have hm7 : a.length ≤ 9223372036854775807 := ha.2.1 ▸ ha.1.max; refine TL.run 1 rfl ?_; refine TL.y (Yv.lenR rfl rfl hb.1 hb.2.1) ?_; have hm9 : b.length ≤ 9223372036854775807 := hb.2.1 ▸ hb.1.max; refine TL.run 1 rfl ?_; refine TL.nil (K.seq ?_); refine T.cond rfl (fun h1 => ?_) (fun h1 => ?_)
  · have p1 := of_decide_eq_true h1; replace hk := condT_open hk h1; refine T.seq (T.region ?_); refine TL.run 1 rfl ?_; refine TL.nil (K.seq (T.ret (K.then_ret ?_))); subst hk; exact K.ret1 rfl rfl (fun w' hw => ⟨rfl, hw.isBelow⟩)
  · have p1 := of_decide_eq_false h1; replace hk := condF_open hk h1; refine T.skip (K.seq (T.seq (T.seq (T.region ?_)))); refine TL.run 1 rfl ?_; refine TL.nil (K.seq ?_); have hq := joinK_open hk; clear hk; obtain ⟨k2, hk2, hk⟩ := hq; (try dsimp only at hk); refine T.cutXK (ι := Unit) (fun z => []) (fun z => [.fr F1]) (fun z => k2 () = r) ?_ ?_
    · have hq := iterK_open hk; clear hk; obtain ⟨f3, kk3, hf3, hkk3, hk⟩ := hq; refine T.block ?_; refine T.loop (ι := Nat) (fun z => [(0, va), (1, vb), (5, .int .i64 (z : Int))]) (fun z => [.fr F1]) (fun z => iterK f3 kk3 (a.length - z) z () = r) (fun z => a.length - z) 0 ?_ ?_ ?_ ?_
      · exact hk
      · exact (.c (.c (.c .nil)))
      · exact List.Sublist.refl _
      · rintro i_4 hk; refine T.seq (T.seq (T.region ?_)); refine TL.run 2 rfl ?_; refine TL.y (Yv.lenR rfl rfl ha.1 ha.2.1) ?_; refine TL.run 1 rfl ?_; refine TL.nil (K.seq ?_); refine T.cond rfl (fun h5 => ?_) (fun h5 => ?_)
        · have p5 := of_decide_eq_true h5; rw [iterK_lt (by omega)] at hk; generalize hn3 : iterK f3 kk3 (a.length - (i_4 + 1)) (i_4 + 1) = next3 at hk; rw [← hf3] at hk; (try dsimp only at hk); refine T.skip (K.seq (T.seq (T.block (T.seq ?_)))); refine T.cutXK (ι := Unit) (fun z => [(0, va), (1, vb), (5, .int .i64 (i_4 : Int)), (41, .bool ((decide (¬ (nth a i_4).Station = (nth b i_4).Station)) || (!(ref17_SameInts_x ((nth a i_4).Channels) ((nth b i_4).Channels)))))]) (fun z => [.fr F1]) (fun z => True) ?_ ?_
          · refine T.draw (.still 0 (.still 1 (.still 2 (.still 3 (.still 4 (.still 5 (.still 6 (.still 7 (.still 8 (.still 9 (.still 10 (.still 11 (.still 12 (.still 13 (.still 14 (.still 15 (.still 16 (.still 17 (.still 18 (.still 19 (.still 20 (.still 21 (.eff 22 (.still 23 (.still 24 .done))))))))))))))))))))))))) _ (by kernel_rfl) (List.Sublist.refl _) ?_; refine TS.run 2 rfl ?_; refine TS.y rfl (Yv.idxR (i := i_4) rfl rfl rfl ha.1 ha.2.1 rfl (by omega)) ?_; refine TS.y rfl (Yv.fldR rfl rfl ha.1 ha.2.1 (by omega)) ?_; refine TS.y rfl (Yv.loadR 0 (i := i_4) (j := 0) rfl rfl rfl ha.1 ha.2.1 (by omega) rfl (GDomain.c0 (ha.2.2 i_4 (by omega)))) ?_; refine TS.run 2 rfl ?_; refine TS.y rfl (Yv.idxR (i := i_4) rfl rfl rfl hb.1 hb.2.1 rfl (by omega)) ?_; refine TS.y rfl (Yv.fldR rfl rfl hb.1 hb.2.1 (by omega)) ?_; refine TS.y rfl (Yv.loadR 0 (i := i_4) (j := 0) rfl rfl rfl hb.1 hb.2.1 (by omega) rfl (GDomain.c0 (hb.2.2 i_4 (by omega)))) ?_; refine TS.run 2 rfl ?_; refine TS.gs rfl rfl rfl rfl (fun h6 => ?_) (fun h6 => ?_)
            · have p6 := of_decide_eq_true h6; refine TS.run 10 rfl ?_; refine TS.eff ?_; refine TSo.off rfl (Wt.not rfl rfl rfl rfl) rfl rfl ?_; refine TS.run 2 rfl ?_; refine TS.done ?_; exact K.atX () trivial (.c (.c (.c (.b (or_tt h6).symm .nil)))) (List.Sublist.refl _)
            · have p6 := of_decide_eq_false h6; refine TS.run 2 rfl ?_; refine TS.y rfl (Yv.idxR (i := i_4) rfl rfl rfl ha.1 ha.2.1 rfl (by omega)) ?_; refine TS.y rfl (Yv.fldR rfl rfl ha.1 ha.2.1 (by omega)) ?_; refine TS.y rfl (Yv.loadR 0 (i := i_4) (j := 1) rfl rfl rfl ha.1 ha.2.1 (by omega) rfl (GDomain.c1 (ha.2.2 i_4 (by omega))).1) ?_; have hd33_1 := (GDomain.c1 (ha.2.2 i_4 (by omega))).2; haveI := hd33_1.oneC; refine TS.run 2 rfl ?_; refine TS.y rfl (Yv.idxR (i := i_4) rfl rfl rfl hb.1 hb.2.1 rfl (by omega)) ?_; refine TS.y rfl (Yv.fldR rfl rfl hb.1 hb.2.1 (by omega)) ?_; refine TS.y rfl (Yv.loadR 0 (i := i_4) (j := 1) rfl rfl rfl hb.1 hb.2.1 (by omega) rfl (GDomain.c1 (hb.2.2 i_4 (by omega))).1) ?_; have hd38_1 := (GDomain.c1 (hb.2.2 i_4 (by omega))).2; haveI := hd38_1.oneC; refine TS.eff ?_; refine TSo.ewG rfl (Wt.some rfl rfl rfl rfl) rfl rfl (Ew.callD rfl rfl rfl (fun w hw => ref17_SameInts_c _ w (hw.fr (i := 0) rfl) ((nth a i_4).Channels) (nth (nth ca i_4) 1) hd33_1 ((nth b i_4).Channels) (nth (nth cb i_4) 1) hd38_1)) ?_; rintro _ _ ⟨rfl, rfl⟩; refine ⟨(fun w hw => hw.sub (by repeat first | exact S0 | exact S1 | refine S2 ?_ | refine S3 ?_)), ?_⟩; refine TS.run 2 rfl ?_; refine TS.done ?_; exact K.atX () trivial (.c (.c (.c (.b (or_f h6) .nil)))) (List.Sublist.refl _)
          · rintro _ _; refine T.cond rfl (fun h7 => ?_) (fun h7 => ?_)
            · have p7 := h7; (try simp only [nfB] at p7); replace hk := condT_open hk h7; refine T.seq (T.region ?_); refine TL.run 1 rfl ?_; refine TL.nil (K.seq (T.ret (K.blk_ret (K.then_ret (K.then_ret (K.blk_ret (K.then_ret ?_))))))); subst hk; exact K.ret1 rfl rfl (fun w' hw => ⟨rfl, hw.isBelow⟩)
            · have p7 := h7; (try simp only [nfB] at p7); replace hk := condF_open hk h7; refine T.skip (K.blk_normal (K.seq (T.region ?_))); refine TL.run 1 rfl ?_; refine TL.y (Yv.addI rfl rfl rfl (by omega)) ?_; refine TL.run 1 rfl ?_; refine TL.nil ?_; rw [← hn3] at hk; exact K.next (i_4 + 1) hk (by omega) (.c (.c (.c .nil))) (List.Sublist.refl _)
        · have p5 := of_decide_eq_false h5; rw [iterK_ge (by omega), ← hkk3] at hk; (try dsimp only at hk); refine T.exit (K.then_exit (K.then_exit (K.blk_exit_eq ?_))); exact K.atX () hk .nil (List.Sublist.refl _)
    · rintro _ hk; rw [← hk2] at hk; (try dsimp only at hk); refine T.seq (T.region ?_); refine TL.run 1 rfl ?_; refine TL.nil (K.seq (T.ret ?_)); subst hk; exact K.ret1 rfl rfl (fun w' hw => ⟨rfl, hw.isBelow⟩)
def ref17_SameList_x (a : List GChoice) (b : List GChoice) : Bool :=
  (bif decide (¬ (a.length : Int) = (b.length : Int)) then
    false
    else
    joinK (fun (_ : Unit) =>
      true)
    (fun k2 =>
      iterK (fun (i_4 : Nat) (next3 : Unit → Bool) (_ : Unit) =>
        (bif !(decide ((nth a i_4).Station = (nth b i_4).Station) && decide ((nth a i_4).Channel = (nth b i_4).Channel)) then
          false
          else
          next3 ()))
      (fun (_ : Unit) =>
        k2 ()) (a.length - 0) 0 ()))
theorem ref17_SameList_c (F0 : Frz) (w : World) (hF0 : F0.At w) (a : List GChoice) (va : Value) (ha : SlC F0 va 2 (a.map GChoice.enc)) (b : List GChoice) (vb : Value) (hb : SlC F0 vb 2 (b.map GChoice.enc)) : Calls Tryd.prog 33 #[va, vb] w fun e w' => e = .returned (.bool (ref17_SameList_x a b)) ∧ Below w.heap.size w w' := by
  obtain ⟨r, hk⟩ : ∃ r, ref17_SameList_x a b = r := ⟨_, rfl⟩; rw [hk]; unfold ref17_SameList_x at hk; haveI := ha.oneC; haveI := hb.oneC; obtain ⟨S0, F1, rfl, hS0, hp0⟩ := startF_ex hF0; refine calls_T (M := fun _ => False) (hs := [.fr F1]) Tryd.func33 rfl rfl rfl hp0 ?_; refine T.seq (T.region ?_); refine TL.run 1 rfl ?_; refine TL.nil (K.seq (T.seq (T.seq (T.region ?_)))); refine TL.run 1 rfl ?_; refine TL.y (Yv.lenR rfl rfl ha (List.length_map _)) ?_; have hm7 : a.length ≤ 9223372036854775807 := (List.length_map _) ▸ ha.max; refine TL.run 1 rfl ?_; refine TL.y (Yv.lenR rfl rfl hb (List.length_map _)) ?_; have hm9 : b.length ≤ 9223372036854775807 := (List.length_map _) ▸ hb.max; refine TL.run 1 rfl ?_; refine TL.nil (K.seq ?_); refine T.cond rfl (fun h1 => ?_) (fun h1 => ?_)
  · have p1 := of_decide_eq_true h1; replace hk := condT_open hk h1; refine T.seq (T.region ?_); refine TL.run 1 rfl ?_; refine TL.nil (K.seq (T.ret (K.then_ret ?_))); subst hk; exact K.ret1 rfl rfl (fun w' hw => ⟨rfl, hw.isBelow⟩)
  · have p1 := of_decide_eq_false h1; replace hk := condF_open hk h1; refine T.skip (K.seq (T.seq (T.seq (T.region ?_)))); refine TL.run 1 rfl ?_; refine TL.nil (K.seq ?_); have hq := joinK_open hk; clear hk; obtain ⟨k2, hk2, hk⟩ := hq; (try dsimp only at hk); refine T.cutXK (ι := Unit) (fun z => []) (fun z => [.fr F1]) (fun z => k2 () = r) ?_ ?_
    · have hq := iterK_open hk; clear hk; obtain ⟨f3, kk3, hf3, hkk3, hk⟩ := hq; refine T.block ?_; refine T.loop (ι := Nat) (fun z => [(0, va), (1, vb), (5, .int .i64 (z : Int))]) (fun z => [.fr F1]) (fun z => iterK f3 kk3 (a.length - z) z () = r) (fun z => a.length - z) 0 ?_ ?_ ?_ ?_
      · exact hk
      · exact (.c (.c (.c .nil)))
      · exact List.Sublist.refl _
      · rintro i_4 hk; refine T.seq (T.seq (T.region ?_)); refine TL.run 2 rfl ?_; refine TL.y (Yv.lenR rfl rfl ha (List.length_map _)) ?_; refine TL.run 1 rfl ?_; refine TL.nil (K.seq ?_); refine T.cond rfl (fun h5 => ?_) (fun h5 => ?_)
        · have p5 := of_decide_eq_true h5; rw [iterK_lt (by omega)] at hk; generalize hn3 : iterK f3 kk3 (a.length - (i_4 + 1)) (i_4 + 1) = next3 at hk; rw [← hf3] at hk; (try dsimp only at hk); refine T.skip (K.seq (T.seq (T.block (T.seq ?_)))); refine T.draw (.still 0 (.still 1 (.still 2 (.still 3 (.still 4 (.still 5 (.still 6 (.still 7 (.still 8 .done))))))))) _ (by kernel_rfl) (List.Sublist.refl _) ?_; refine TS.run 2 rfl ?_; refine TS.y rfl (Yv.idxR (i := i_4) rfl rfl rfl ha (List.length_map _) rfl (by omega)) ?_; refine TS.y rfl (Yv.loadRFA 0 (i := i_4) rfl rfl rfl ha (by omega) rfl rfl rfl) ?_; refine TS.run 2 rfl ?_; refine TS.y rfl (Yv.idxR (i := i_4) rfl rfl rfl hb (List.length_map _) rfl (by omega)) ?_; refine TS.y rfl (Yv.loadRFA 0 (i := i_4) rfl rfl rfl hb (by omega) rfl rfl rfl) ?_; refine TS.y rfl (Yv.neS2 (by kernel_rfl) rfl rfl rfl) ?_; refine TS.done ?_; refine K.seq ?_; refine T.cond rfl (fun h6 => ?_) (fun h6 => ?_)
          · have p6 := h6; (try simp only [nfB] at p6); replace hk := condT_open hk h6; refine T.seq (T.region ?_); refine TL.run 1 rfl ?_; refine TL.nil (K.seq (T.ret (K.blk_ret (K.then_ret (K.then_ret (K.blk_ret (K.then_ret ?_))))))); subst hk; exact K.ret1 rfl rfl (fun w' hw => ⟨rfl, hw.isBelow⟩)
          · have p6 := h6; (try simp only [nfB] at p6); replace hk := condF_open hk h6; refine T.skip (K.blk_normal (K.seq (T.region ?_))); refine TL.run 1 rfl ?_; refine TL.y (Yv.addI rfl rfl rfl (by omega)) ?_; refine TL.run 1 rfl ?_; refine TL.nil ?_; rw [← hn3] at hk; exact K.next (i_4 + 1) hk (by omega) (.c (.c (.c .nil))) (List.Sublist.refl _)
        · have p5 := of_decide_eq_false h5; rw [iterK_ge (by omega), ← hkk3] at hk; (try dsimp only at hk); refine T.exit (K.then_exit (K.then_exit (K.blk_exit_eq ?_))); exact K.atX () hk .nil (List.Sublist.refl _)
    · rintro _ hk; rw [← hk2] at hk; (try dsimp only at hk); refine T.seq (T.region ?_); refine TL.run 1 rfl ?_; refine TL.nil (K.seq (T.ret ?_)); subst hk; exact K.ret1 rfl rfl (fun w' hw => ⟨rfl, hw.isBelow⟩)
def ref17_On_x (l : List GChoice) (n : Int) : Int :=
  joinK (fun (_ : Unit) =>
    0)
  (fun k1 =>
    iterK (fun (i_3 : Nat) (next2 : Unit → Int) (_ : Unit) =>
      (bif decide ((nth l i_3).Station = n) then
        ((nth l i_3).Channel)
        else
        next2 ()))
    (fun (_ : Unit) =>
      k1 ()) (l.length - 0) 0 ())
theorem ref17_On_c (F0 : Frz) (w : World) (hF0 : F0.At w) (l : List GChoice) (vl : Value) (hl : SlC F0 vl 2 (l.map GChoice.enc)) (n : Int) : Calls Tryd.prog 51 #[vl, .int .i64 n] w fun e w' => e = .returned (.int .i64 (ref17_On_x l n)) ∧ Below w.heap.size w w' := by
  obtain ⟨r, hk⟩ : ∃ r, ref17_On_x l n = r := ⟨_, rfl⟩; rw [hk]; unfold ref17_On_x at hk; haveI := hl.oneC; obtain ⟨S0, F1, rfl, hS0, hp0⟩ := startF_ex hF0; refine calls_T (M := fun _ => False) (hs := [.fr F1]) Tryd.func51 rfl rfl rfl hp0 ?_; refine T.seq (T.region ?_); refine TL.run 1 rfl ?_; refine TL.nil (K.seq (T.seq (T.seq (T.region ?_)))); refine TL.run 1 rfl ?_; refine TL.nil (K.seq ?_); have hq := joinK_open hk; clear hk; obtain ⟨k1, hk1, hk⟩ := hq; (try dsimp only at hk); refine T.cutXK (ι := Unit) (fun z => []) (fun z => [.fr F1]) (fun z => k1 () = r) ?_ ?_
  · have hq := iterK_open hk; clear hk; obtain ⟨f2, kk2, hf2, hkk2, hk⟩ := hq; refine T.block ?_; refine T.loop (ι := Nat) (fun z => [(0, vl), (1, .int .i64 n), (5, .int .i64 (z : Int))]) (fun z => [.fr F1]) (fun z => iterK f2 kk2 (l.length - z) z () = r) (fun z => l.length - z) 0 ?_ ?_ ?_ ?_
    · exact hk
    · exact (.c (.c (.c .nil)))
    · exact List.Sublist.refl _
    · rintro i_3 hk; refine T.seq (T.seq (T.region ?_)); refine TL.run 2 rfl ?_; refine TL.y (Yv.lenR rfl rfl hl (List.length_map _)) ?_; have hm8 : l.length ≤ 9223372036854775807 := (List.length_map _) ▸ hl.max; refine TL.run 1 rfl ?_; refine TL.nil (K.seq ?_); refine T.cond rfl (fun h4 => ?_) (fun h4 => ?_)
      · have p4 := of_decide_eq_true h4; rw [iterK_lt (by omega)] at hk; generalize hn2 : iterK f2 kk2 (l.length - (i_3 + 1)) (i_3 + 1) = next2 at hk; rw [← hf2] at hk; (try dsimp only at hk); refine T.skip (K.seq (T.seq (T.block (T.seq (T.region ?_))))); refine TL.run 2 rfl ?_; refine TL.y (Yv.idxR (i := i_3) rfl rfl rfl hl (List.length_map _) rfl (by omega)) ?_; refine TL.y (Yv.fldR rfl rfl hl (List.length_map _) (by omega)) ?_; refine TL.y (Yv.loadRF 0 (i := i_3) (j := 0) rfl rfl rfl hl (by omega) rfl rfl) ?_; refine TL.run 2 rfl ?_; refine TL.nil (K.seq ?_); refine T.cond rfl (fun h5 => ?_) (fun h5 => ?_)
        · have p5 := of_decide_eq_true h5; replace hk := condT_open hk h5; refine T.seq (T.region ?_); refine TL.run 2 rfl ?_; refine TL.y (Yv.idxR (i := i_3) rfl rfl rfl hl (List.length_map _) rfl (by omega)) ?_; refine TL.y (Yv.fldR rfl rfl hl (List.length_map _) (by omega)) ?_; refine TL.y (Yv.loadRF 0 (i := i_3) (j := 1) rfl rfl rfl hl (by omega) rfl rfl) ?_; refine TL.run 1 rfl ?_; refine TL.nil (K.seq (T.ret (K.blk_ret (K.then_ret (K.then_ret (K.blk_ret (K.then_ret ?_))))))); subst hk; exact K.ret1 rfl rfl (fun w' hw => ⟨rfl, hw.isBelow⟩)
        · have p5 := of_decide_eq_false h5; replace hk := condF_open hk h5; refine T.skip (K.blk_normal (K.seq (T.region ?_))); refine TL.run 1 rfl ?_; refine TL.y (Yv.addI rfl rfl rfl (by omega)) ?_; refine TL.run 1 rfl ?_; refine TL.nil ?_; rw [← hn2] at hk; exact K.next (i_3 + 1) hk (by omega) (.c (.c (.c .nil))) (List.Sublist.refl _)
      · have p4 := of_decide_eq_false h4; rw [iterK_ge (by omega), ← hkk2] at hk; (try dsimp only at hk); refine T.exit (K.then_exit (K.then_exit (K.blk_exit_eq ?_))); exact K.atX () hk .nil (List.Sublist.refl _)
  · rintro _ hk; rw [← hk1] at hk; (try dsimp only at hk); refine T.seq (T.region ?_); refine TL.run 1 rfl ?_; refine TL.nil (K.seq (T.ret ?_)); subst hk; exact K.ret1 rfl rfl (fun w' hw => ⟨rfl, hw.isBelow⟩)
def ref17_span_x (low : Int) (high : Int) : Bool :=
  (((decide (2 ≤ low)) && (decide (low ≤ high))) && (decide (high ≤ 51)))
theorem ref17_span_c (F0 : Frz) (w : World) (hF0 : F0.At w) (low : Int) (high : Int) : Calls Tryd.prog 57 #[.int .i64 low, .int .i64 high] w fun e w' => e = .returned (.bool (ref17_span_x low high)) ∧ Below w.heap.size w w' := by
  obtain ⟨r, hk⟩ : ∃ r, ref17_span_x low high = r := ⟨_, rfl⟩; rw [hk]; unfold ref17_span_x at hk; obtain ⟨S0, F1, rfl, hS0, hp0⟩ := startF_ex hF0; refine calls_T (M := fun _ => False) (hs := [.fr F1]) Tryd.func57 rfl rfl rfl hp0 ?_; refine T.seq (T.region ?_); refine TL.run 1 rfl ?_; refine TL.nil (K.seq (T.seq ?_)); refine T.cutXK (ι := Unit) (fun z => [(4, .bool (((decide (2 ≤ low)) && (decide (low ≤ high))) && (decide (high ≤ 51))))]) (fun z => [.fr F1]) (fun z => True) ?_ ?_
  · refine T.region ?_; refine TL.run 3 rfl ?_; refine TL.gs rfl rfl rfl (fun h1 => ?_) (fun h1 => ?_)
    · have p1 := of_decide_eq_true h1; refine TL.run 5 rfl ?_; refine TL.gs rfl rfl rfl (fun h2 => ?_) (fun h2 => ?_)
      · have p2 := of_decide_eq_true h2; refine TL.run 4 rfl ?_; refine TL.nil ?_; exact K.atX () trivial (.b (and_t (and_tx h1 h2)) .nil) (List.Sublist.refl _)
      · have p2 := of_decide_eq_false h2; refine TL.run 4 rfl ?_; refine TL.nil ?_; exact K.atX () trivial (.b (and_ff (and_tx h1 h2)).symm .nil) (List.Sublist.refl _)
    · have p1 := of_decide_eq_false h1; refine TL.run 9 rfl ?_; refine TL.nil ?_; exact K.atX () trivial (.b (and_ff (and_ff h1)).symm .nil) (List.Sublist.refl _)
  · rintro _ _; refine T.ret ?_; subst hk; exact K.ret1 rfl rfl (fun w' hw => ⟨rfl, hw.isBelow⟩)
def ref17_Less_x (a : List Int) (b : List Int) : Option Bool :=
  joinK (fun (_ : Unit) =>
    some false)
  (fun k1 =>
    iterK (fun (i_3 : Nat) (next2 : Unit → Option Bool) (_ : Unit) =>
      grd (0 ≤ (i_3 : Int) ∧ (i_3 : Int) < (b.length : Int)) <|
      (bif decide (¬ (nth a i_3) = (nth b i_3)) then
        some (decide ((nth a i_3) < (nth b i_3)))
        else
        next2 ()))
    (fun (_ : Unit) =>
      k1 ()) (a.length - 0) 0 ())
theorem ref17_Less_c (F0 : Frz) (w : World) (hF0 : F0.At w) (a : List Int) (va : Value) (ha : SlC F0 va 1 (a.map eI)) (b : List Int) (vb : Value) (hb : SlC F0 vb 1 (b.map eI)) (r : Bool) (hr : ref17_Less_x a b = some r) : Calls Tryd.prog 58 #[va, vb] w fun e w' => e = .returned (.bool r) ∧ Below w.heap.size w w' := by
  have hk := hr; unfold ref17_Less_x at hk; haveI := ha.oneC; haveI := hb.oneC; obtain ⟨S0, F1, rfl, hS0, hp0⟩ := startF_ex hF0; refine calls_T (M := fun _ => False) (hs := [.fr F1]) Tryd.func58 rfl rfl rfl hp0 ?_; refine T.seq (T.region ?_); refine TL.run 1 rfl ?_; refine TL.nil (K.seq (T.seq (T.seq (T.region ?_)))); refine TL.run 1 rfl ?_; refine TL.nil (K.seq ?_); have hq := joinK_open hk; clear hk; obtain ⟨k1, hk1, hk⟩ := hq; (try dsimp only at hk); refine T.cutXK (ι := Unit) (fun z => []) (fun z => [.fr F1]) (fun z => k1 () = some r) ?_ ?_
  · have hq := iterK_open hk; clear hk; obtain ⟨f2, kk2, hf2, hkk2, hk⟩ := hq; refine T.block ?_; refine T.loop (ι := Nat) (fun z => [(0, va), (1, vb), (5, .int .i64 (z : Int))]) (fun z => [.fr F1]) (fun z => iterK f2 kk2 (a.length - z) z () = some r) (fun z => a.length - z) 0 ?_ ?_ ?_ ?_
    · exact hk
    · exact (.c (.c (.c .nil)))
    · exact List.Sublist.refl _
    · rintro i_3 hk; refine T.seq (T.seq (T.region ?_)); refine TL.run 2 rfl ?_; refine TL.y (Yv.lenR rfl rfl ha (List.length_map _)) ?_; have hm8 : a.length ≤ 9223372036854775807 := (List.length_map _) ▸ ha.max; refine TL.run 1 rfl ?_; refine TL.nil (K.seq ?_); refine T.cond rfl (fun h4 => ?_) (fun h4 => ?_)
      · have p4 := of_decide_eq_true h4; rw [iterK_lt (by omega)] at hk; generalize hn2 : iterK f2 kk2 (a.length - (i_3 + 1)) (i_3 + 1) = next2 at hk; rw [← hf2] at hk; (try dsimp only at hk); refine T.skip (K.seq (T.seq (T.block (T.seq ?_)))); have hq : (0 ≤ (i_3 : Int) ∧ (i_3 : Int) < (b.length : Int)) ∧ _ := grd_some hk; clear hk; obtain ⟨g18, hk⟩ := hq; (try dsimp only at hk); refine T.draw (.still 0 (.still 1 (.still 2 (.still 3 (.still 4 (.still 5 (.still 6 (.still 7 (.still 8 .done))))))))) _ (by kernel_rfl) (List.Sublist.refl _) ?_; refine TS.run 2 rfl ?_; refine TS.y rfl (Yv.idxR (i := i_3) rfl rfl rfl ha (List.length_map _) rfl (by omega)) ?_; refine TS.y rfl (Yv.loadRF 0 (i := i_3) (j := 0) rfl rfl rfl ha (by omega) rfl rfl) ?_; refine TS.run 2 rfl ?_; refine TS.y rfl (Yv.idxR (i := i_3) rfl rfl rfl hb (List.length_map _) rfl (by omega)) ?_; refine TS.y rfl (Yv.loadRF 0 (i := i_3) (j := 0) rfl rfl rfl hb (by omega) rfl rfl) ?_; refine TS.run 1 rfl ?_; refine TS.done ?_; refine K.seq ?_; refine T.cond rfl (fun h5 => ?_) (fun h5 => ?_)
        · have p5 := of_decide_eq_true h5; replace hk := condT_open hk h5; refine T.seq ?_; refine T.draw (.still 0 (.still 1 (.still 2 (.still 3 (.still 4 (.still 5 (.still 6 (.still 7 (.still 8 (.still 9 .done)))))))))) _ (by kernel_rfl) (List.Sublist.refl _) ?_; refine TS.run 2 rfl ?_; refine TS.y rfl (Yv.idxR (i := i_3) rfl rfl rfl ha (List.length_map _) rfl (by omega)) ?_; refine TS.y rfl (Yv.loadRF 0 (i := i_3) (j := 0) rfl rfl rfl ha (by omega) rfl rfl) ?_; refine TS.run 2 rfl ?_; refine TS.y rfl (Yv.idxR (i := i_3) rfl rfl rfl hb (List.length_map _) rfl (by omega)) ?_; refine TS.y rfl (Yv.loadRF 0 (i := i_3) (j := 0) rfl rfl rfl hb (by omega) rfl rfl) ?_; refine TS.run 2 rfl ?_; refine TS.done ?_; refine K.seq (T.ret (K.blk_ret (K.then_ret (K.then_ret (K.blk_ret (K.then_ret ?_)))))); obtain rfl := Option.some.inj hk; exact K.ret1 rfl rfl (fun w' hw => ⟨rfl, hw.isBelow⟩)
        · have p5 := of_decide_eq_false h5; replace hk := condF_open hk h5; refine T.skip (K.blk_normal (K.seq (T.region ?_))); refine TL.run 1 rfl ?_; refine TL.y (Yv.addI rfl rfl rfl (by omega)) ?_; refine TL.run 1 rfl ?_; refine TL.nil ?_; rw [← hn2] at hk; exact K.next (i_3 + 1) hk (by omega) (.c (.c (.c .nil))) (List.Sublist.refl _)
      · have p4 := of_decide_eq_false h4; rw [iterK_ge (by omega), ← hkk2] at hk; (try dsimp only at hk); refine T.exit (K.then_exit (K.then_exit (K.blk_exit_eq ?_))); exact K.atX () hk .nil (List.Sublist.refl _)
  · rintro _ hk; rw [← hk1] at hk; (try dsimp only at hk); refine T.seq (T.region ?_); refine TL.run 1 rfl ?_; refine TL.nil (K.seq (T.ret ?_)); obtain rfl := Option.some.inj hk; exact K.ret1 rfl rfl (fun w' hw => ⟨rfl, hw.isBelow⟩)
def ref17_PairOf_x (x_ : GPair) : List Int :=
  [x_.A, x_.B, x_.Offset, x_.Low, x_.High]
theorem ref17_PairOf_c (F0 : Frz) (w : World) (hF0 : F0.At w) (x_ : GPair) : Calls Tryd.prog 59 #[.agg [.int .i64 x_.A, .int .i64 x_.B, .int .i64 x_.Offset, .int .i64 x_.Low, .int .i64 x_.High].toArray] w fun e w' => ∃ (y : Value) (G : Frz), (SlC G y 1 ((ref17_PairOf_x x_).map eI)) ∧ e = .returned (y) ∧ Fx F0 w G w' := by
  obtain ⟨r, hk⟩ : ∃ r, ref17_PairOf_x x_ = r := ⟨_, rfl⟩; rw [hk]; unfold ref17_PairOf_x at hk; obtain ⟨S0, F1, rfl, hS0, hp0⟩ := startF_ex hF0; refine calls_T (M := fun _ => False) (hs := [.fr F1]) Tryd.func59 rfl rfl rfl hp0 ?_; refine T.seq (T.region ?_); refine TL.e (Ew.boxA rfl rfl) ?_; rintro _ _ ⟨g1, rfl, rfl⟩; refine TL.run 1 rfl ?_; refine TL.nil (K.seq (T.seq (T.region ?_))); refine TL.y (Yv.fieldAddr rfl rfl) ?_; refine TL.y (Yv.loadO 0 rfl rfl rfl rfl) ?_; refine TL.y (Yv.fieldAddr rfl rfl) ?_; refine TL.y (Yv.loadO 0 rfl rfl rfl rfl) ?_; refine TL.y (Yv.fieldAddr rfl rfl) ?_; refine TL.y (Yv.loadO 0 rfl rfl rfl rfl) ?_; refine TL.y (Yv.fieldAddr rfl rfl) ?_; refine TL.y (Yv.loadO 0 rfl rfl rfl rfl) ?_; refine TL.y (Yv.fieldAddr rfl rfl) ?_; refine TL.y (Yv.loadO 0 rfl rfl rfl rfl) ?_; refine TL.e (Ew.buildSlice rfl rfl rfl (by decide)) ?_; rintro _ _ ⟨g13, rfl, rfl⟩; refine TL.run 1 rfl ?_; refine TL.nil (K.seq (T.ret ?_)); refine K.exH (fun w hw => hw.freezeR (i := 2) (j := 0) (by decide) rfl rfl) ?_; rintro F2 ⟨le1_2, hz2⟩; dsimp only [List.set, List.eraseIdx]; have hf2 : SlC F2.toFrz (.slice (some ⟨g13, 0, none⟩) 5 5) 1 ([x_.A, x_.B, x_.Offset, x_.Low, x_.High].map eI) := (SlK.lit hz2 rfl (Nat.le_refl _) (by decide)).toF (xs := [x_.A, x_.B, x_.Offset, x_.Low, x_.High]) rfl (fun _ => rfl); subst hk; exact K.ret1 rfl rfl (fun w' hw => ⟨(.slice (some ⟨g13, 0, none⟩) 5 5), F2.toFrz, hf2, rfl, Fx.of hw (i := 1) rfl hS0 le1_2⟩)
def ref17_LoadOf_x (x_ : GLoad) : List Int :=
  [x_.To, x_.From, x_.Weight, x_.Low, x_.High]
theorem ref17_LoadOf_c (F0 : Frz) (w : World) (hF0 : F0.At w) (x_ : GLoad) : Calls Tryd.prog 60 #[.agg [.int .i64 x_.To, .int .i64 x_.From, .int .i64 x_.Weight, .int .i64 x_.Low, .int .i64 x_.High].toArray] w fun e w' => ∃ (y : Value) (G : Frz), (SlC G y 1 ((ref17_LoadOf_x x_).map eI)) ∧ e = .returned (y) ∧ Fx F0 w G w' := by
  obtain ⟨r, hk⟩ : ∃ r, ref17_LoadOf_x x_ = r := ⟨_, rfl⟩; rw [hk]; unfold ref17_LoadOf_x at hk; obtain ⟨S0, F1, rfl, hS0, hp0⟩ := startF_ex hF0; refine calls_T (M := fun _ => False) (hs := [.fr F1]) Tryd.func60 rfl rfl rfl hp0 ?_; refine T.seq (T.region ?_); refine TL.e (Ew.boxA rfl rfl) ?_; rintro _ _ ⟨g1, rfl, rfl⟩; refine TL.run 1 rfl ?_; refine TL.nil (K.seq (T.seq (T.region ?_))); refine TL.y (Yv.fieldAddr rfl rfl) ?_; refine TL.y (Yv.loadO 0 rfl rfl rfl rfl) ?_; refine TL.y (Yv.fieldAddr rfl rfl) ?_; refine TL.y (Yv.loadO 0 rfl rfl rfl rfl) ?_; refine TL.y (Yv.fieldAddr rfl rfl) ?_; refine TL.y (Yv.loadO 0 rfl rfl rfl rfl) ?_; refine TL.y (Yv.fieldAddr rfl rfl) ?_; refine TL.y (Yv.loadO 0 rfl rfl rfl rfl) ?_; refine TL.y (Yv.fieldAddr rfl rfl) ?_; refine TL.y (Yv.loadO 0 rfl rfl rfl rfl) ?_; refine TL.e (Ew.buildSlice rfl rfl rfl (by decide)) ?_; rintro _ _ ⟨g13, rfl, rfl⟩; refine TL.run 1 rfl ?_; refine TL.nil (K.seq (T.ret ?_)); refine K.exH (fun w hw => hw.freezeR (i := 2) (j := 0) (by decide) rfl rfl) ?_; rintro F2 ⟨le1_2, hz2⟩; dsimp only [List.set, List.eraseIdx]; have hf2 : SlC F2.toFrz (.slice (some ⟨g13, 0, none⟩) 5 5) 1 ([x_.To, x_.From, x_.Weight, x_.Low, x_.High].map eI) := (SlK.lit hz2 rfl (Nat.le_refl _) (by decide)).toF (xs := [x_.To, x_.From, x_.Weight, x_.Low, x_.High]) rfl (fun _ => rfl); subst hk; exact K.ret1 rfl rfl (fun w' hw => ⟨(.slice (some ⟨g13, 0, none⟩) 5 5), F2.toFrz, hf2, rfl, Fx.of hw (i := 1) rfl hS0 le1_2⟩)
def ref17_CapOf_x (x_ : GCap) : List Int :=
  [x_.Station, x_.Max, x_.Low, x_.High]
theorem ref17_CapOf_c (F0 : Frz) (w : World) (hF0 : F0.At w) (x_ : GCap) : Calls Tryd.prog 61 #[.agg [.int .i64 x_.Station, .int .i64 x_.Max, .int .i64 x_.Low, .int .i64 x_.High].toArray] w fun e w' => ∃ (y : Value) (G : Frz), (SlC G y 1 ((ref17_CapOf_x x_).map eI)) ∧ e = .returned (y) ∧ Fx F0 w G w' := by
  obtain ⟨r, hk⟩ : ∃ r, ref17_CapOf_x x_ = r := ⟨_, rfl⟩; rw [hk]; unfold ref17_CapOf_x at hk; obtain ⟨S0, F1, rfl, hS0, hp0⟩ := startF_ex hF0; refine calls_T (M := fun _ => False) (hs := [.fr F1]) Tryd.func61 rfl rfl rfl hp0 ?_; refine T.seq (T.region ?_); refine TL.e (Ew.boxA rfl rfl) ?_; rintro _ _ ⟨g1, rfl, rfl⟩; refine TL.run 1 rfl ?_; refine TL.nil (K.seq (T.seq (T.region ?_))); refine TL.y (Yv.fieldAddr rfl rfl) ?_; refine TL.y (Yv.loadO 0 rfl rfl rfl rfl) ?_; refine TL.y (Yv.fieldAddr rfl rfl) ?_; refine TL.y (Yv.loadO 0 rfl rfl rfl rfl) ?_; refine TL.y (Yv.fieldAddr rfl rfl) ?_; refine TL.y (Yv.loadO 0 rfl rfl rfl rfl) ?_; refine TL.y (Yv.fieldAddr rfl rfl) ?_; refine TL.y (Yv.loadO 0 rfl rfl rfl rfl) ?_; refine TL.e (Ew.buildSlice rfl rfl rfl (by decide)) ?_; rintro _ _ ⟨g11, rfl, rfl⟩; refine TL.run 1 rfl ?_; refine TL.nil (K.seq (T.ret ?_)); refine K.exH (fun w hw => hw.freezeR (i := 2) (j := 0) (by decide) rfl rfl) ?_; rintro F2 ⟨le1_2, hz2⟩; dsimp only [List.set, List.eraseIdx]; have hf2 : SlC F2.toFrz (.slice (some ⟨g11, 0, none⟩) 4 4) 1 ([x_.Station, x_.Max, x_.Low, x_.High].map eI) := (SlK.lit hz2 rfl (Nat.le_refl _) (by decide)).toF (xs := [x_.Station, x_.Max, x_.Low, x_.High]) rfl (fun _ => rfl); subst hk; exact K.ret1 rfl rfl (fun w' hw => ⟨(.slice (some ⟨g11, 0, none⟩) 4 4), F2.toFrz, hf2, rfl, Fx.of hw (i := 1) rfl hS0 le1_2⟩)
def ref17_Has_x (l : List Int) (n : Int) : Bool :=
  joinK (fun (_ : Unit) =>
    false)
  (fun k1 =>
    iterK (fun (i_3 : Nat) (next2 : Unit → Bool) (_ : Unit) =>
      (bif decide ((nth l i_3) = n) then
        true
        else
        next2 ()))
    (fun (_ : Unit) =>
      k1 ()) (l.length - 0) 0 ())
theorem ref17_Has_c (F0 : Frz) (w : World) (hF0 : F0.At w) (l : List Int) (vl : Value) (hl : SlC F0 vl 1 (l.map eI)) (n : Int) : Calls Tryd.prog 62 #[vl, .int .i64 n] w fun e w' => e = .returned (.bool (ref17_Has_x l n)) ∧ Below w.heap.size w w' := by
  obtain ⟨r, hk⟩ : ∃ r, ref17_Has_x l n = r := ⟨_, rfl⟩; rw [hk]; unfold ref17_Has_x at hk; haveI := hl.oneC; obtain ⟨S0, F1, rfl, hS0, hp0⟩ := startF_ex hF0; refine calls_T (M := fun _ => False) (hs := [.fr F1]) Tryd.func62 rfl rfl rfl hp0 ?_; refine T.seq (T.region ?_); refine TL.run 1 rfl ?_; refine TL.nil (K.seq (T.seq (T.seq (T.region ?_)))); refine TL.run 1 rfl ?_; refine TL.nil (K.seq ?_); have hq := joinK_open hk; clear hk; obtain ⟨k1, hk1, hk⟩ := hq; (try dsimp only at hk); refine T.cutXK (ι := Unit) (fun z => []) (fun z => [.fr F1]) (fun z => k1 () = r) ?_ ?_
  · have hq := iterK_open hk; clear hk; obtain ⟨f2, kk2, hf2, hkk2, hk⟩ := hq; refine T.block ?_; refine T.loop (ι := Nat) (fun z => [(0, vl), (1, .int .i64 n), (5, .int .i64 (z : Int))]) (fun z => [.fr F1]) (fun z => iterK f2 kk2 (l.length - z) z () = r) (fun z => l.length - z) 0 ?_ ?_ ?_ ?_
    · exact hk
    · exact (.c (.c (.c .nil)))
    · exact List.Sublist.refl _
    · rintro i_3 hk; refine T.seq (T.seq (T.region ?_)); refine TL.run 2 rfl ?_; refine TL.y (Yv.lenR rfl rfl hl (List.length_map _)) ?_; have hm8 : l.length ≤ 9223372036854775807 := (List.length_map _) ▸ hl.max; refine TL.run 1 rfl ?_; refine TL.nil (K.seq ?_); refine T.cond rfl (fun h4 => ?_) (fun h4 => ?_)
      · have p4 := of_decide_eq_true h4; rw [iterK_lt (by omega)] at hk; generalize hn2 : iterK f2 kk2 (l.length - (i_3 + 1)) (i_3 + 1) = next2 at hk; rw [← hf2] at hk; (try dsimp only at hk); refine T.skip (K.seq (T.seq (T.block (T.seq (T.region ?_))))); refine TL.run 2 rfl ?_; refine TL.y (Yv.idxR (i := i_3) rfl rfl rfl hl (List.length_map _) rfl (by omega)) ?_; refine TL.y (Yv.loadRF 0 (i := i_3) (j := 0) rfl rfl rfl hl (by omega) rfl rfl) ?_; refine TL.run 2 rfl ?_; refine TL.nil (K.seq ?_); refine T.cond rfl (fun h5 => ?_) (fun h5 => ?_)
        · have p5 := of_decide_eq_true h5; replace hk := condT_open hk h5; refine T.seq (T.region ?_); refine TL.run 1 rfl ?_; refine TL.nil (K.seq (T.ret (K.blk_ret (K.then_ret (K.then_ret (K.blk_ret (K.then_ret ?_))))))); subst hk; exact K.ret1 rfl rfl (fun w' hw => ⟨rfl, hw.isBelow⟩)
        · have p5 := of_decide_eq_false h5; replace hk := condF_open hk h5; refine T.skip (K.blk_normal (K.seq (T.region ?_))); refine TL.run 1 rfl ?_; refine TL.y (Yv.addI rfl rfl rfl (by omega)) ?_; refine TL.run 1 rfl ?_; refine TL.nil ?_; rw [← hn2] at hk; exact K.next (i_3 + 1) hk (by omega) (.c (.c (.c .nil))) (List.Sublist.refl _)
      · have p4 := of_decide_eq_false h4; rw [iterK_ge (by omega), ← hkk2] at hk; (try dsimp only at hk); refine T.exit (K.then_exit (K.then_exit (K.blk_exit_eq ?_))); exact K.atX () hk .nil (List.Sublist.refl _)
  · rintro _ hk; rw [← hk1] at hk; (try dsimp only at hk); refine T.seq (T.region ?_); refine TL.run 1 rfl ?_; refine TL.nil (K.seq (T.ret ?_)); subst hk; exact K.ret1 rfl rfl (fun w' hw => ⟨rfl, hw.isBelow⟩)
end Go.Proofs.YtljgejbmimapdaaDoor
