/- Th Tj Tk Ti Fe Fa Fb Fc Fd Ff Fo Fv Ka Kb Si Yg Ly Es Ya: shortened and put together by squeeze.py. -/
import Derived.Test.YtlfalfmebomfbaaQ01
import Derived.Laws.Bits64
import Derived.Lib.TrailingZeros
import Derived.Scope
import Derived.Laws.Slices
import Derived.Laws.BytesArg
import Derived.Laws.Strings
import Derived.Shelf.SlSortCmp.WholeK
import Derived.Ground.SlsfProg
import Derived.Test.YtlfalfmebomfbaaProg
import Derived.Shelf.SlSortCmp.NoneTotal
set_option maxRecDepth 100000
set_option maxHeartbeats 4000000
set_option linter.unusedVariables false
set_option linter.unusedSectionVars false
set_option linter.unusedSimpArgs false
namespace Go.Proofs.Ytlfalfmebomfbaa
open Go.RowKit
instance (k : Nat) (v : Value) [h : OneC v] : OneCs (List.replicate k v) := ⟨fun x hx => by rw [(List.mem_replicate.1 hx).2]; exact h.h⟩
section
variable {F : Fence} [hF : Calm F] {P : Program} {n : Nat} {B D : World} {M : Nat → Prop} {Q : Exit → Act → World → Prop} {fs : SFs} {hs : HS} {ops : Array Oper} {rest : List Oper} {o : Oper} {v : Value}
theorem Hp.start {w : World} {e : Ent} (h : e.ok w) : Hp w e.fp [e] w :=
  ⟨rfl, rfl, rfl, Nat.le_refl _, fun _ _ _ => rfl, fun x hx => by simp at hx; subst hx; exact h, fun x hx g hg => by simp at hx; subst hx; exact .inl hg, List.pairwise_singleton _ _⟩
theorem Ew.bK (i : Nat) {ι : Type} {e : Ent} {φ : ι → Prop} {val : ι → Value} {es : ι → Ent} {hs' : ι → HS} {c : Operand} {xs : Array Operand} {ts : Array TypeId} {f : FuncId} {vs : List Value} [hE : Enters P f] (ho : o.op = .call { callee := .value c, args := xs, argTypes := ts }) (hc : ev fs c = some (.func (.func f) #[] #[])) (hv : evs fs xs.toList = some vs) (hi : hs[i]? = some e)
    (C : ∀ w, Hp B M hs w → Calls P f vs.toArray w (fun x w' => ∃ y, φ y ∧ x = .returned (val y) ∧ Hp w e.fp [es y] w')) [hH : ∀ y, SetAt hs i (es y) (hs' y)] : Ew P n B M fs hs o (fun v' hs'' => ∃ y, φ y ∧ v' = val y ∧ hs'' = hs' y) :=
  Ew.br ho hc hv fun w hp => (C w hp).mono fun x w' ⟨y, hy, he, hk⟩ => ⟨val y, hs' y, he, Kp.only hk.only (fun g hg c => e.nd (hp.get hi) g hg c), by
    rw [← (hH y).h]
    exact hp.updAt hi hk.only (fun g _ hg => hg) (hk.own _ (by simp)) (fun g hg => hk.new _ (by simp) g hg), y, hy, rfl, rfl⟩
theorem Yv.bd (i : Nat) {t e e' : TypeId} {k size len : Nat} {l : List Value} {x : Operand} {sv : Value} [hT : TySl P t e k] (ho : o.op = .call { callee := .builtin .len, args := #[x], argTypes := #[t] }) (hx : ev fs x = some sv) (hi : hs[i]? = some (.sl sv e' size len l)) : Yv P n B M fs hs o (.int .i64 (len : Int)) := fun a w ha hw => by
  rcases (Ent.sl_ok.1 (hw.get hi)).2 with ⟨rfl, h0⟩ | ⟨g, cap, _, rfl, _⟩
  · subst h0; exact Yv.ap (P := P) (B := B) (M := M) (hs := hs) (n := n) ho hx a w ha hw
  · exact Yv.ap (P := P) (B := B) (M := M) (hs := hs) (n := n) ho hx a w ha hw
theorem zdv {l m : List Value} {p N : Nat} (h : p + m.length ≤ N) : (l.take p ++ m ++ l.drop (p + m.length)).take N = (l.take N).take p ++ m ++ (l.take N).drop (p + m.length) := by
  rcases Nat.lt_or_ge l.length p with hl | hl
  · have e1 : l.take p = l := List.take_of_length_le (by omega)
    have e2 : l.drop (p + m.length) = [] := List.drop_of_length_le (by omega)
    have e3 : l.take N = l := List.take_of_length_le (by omega)
    rw [e2, e3, e1, e2]
    exact List.take_of_length_le (by simp; omega)
  · rw [List.take_append, List.take_of_length_le (by simp; omega), List.take_take, Nat.min_eq_left (by omega), List.drop_take]
    simp
    rw [Nat.min_eq_left hl]
theorem Hp.spliceS {w : World} (hp : Hp B M hs w) {i g k cap size p : Nat} {e : TypeId} {l m : List Value} (hi : hs[i]? = some (.sl (.slice (some ⟨g, 0, none⟩) k cap) e size k l)) (hl : p + m.length ≤ l.length) :
    ∃ cur : List Value, w.heap[g]? = some (.cells cur.toArray e (0, 0)) ∧ p + m.length ≤ cur.length ∧ Hp B M (hs.set i (.sl (.slice (some ⟨g, 0, none⟩) k cap) e size k (l.take p ++ m ++ l.drop (p + m.length)))) (w.setRow g (cur.take p ++ m ++ cur.drop (p + m.length)).toArray) := by
  have h := Ent.sl_ok.1 (hp.get hi)
  rcases h.2 with ⟨h', _⟩ | ⟨g', cap', cur, h', hb, hg, hnc, hcm, hcs, htake⟩
  · simp at h'
  · simp only [Value.slice.injEq, Option.some.injEq, Addr.mk.injEq, and_true, true_and] at h'
    obtain ⟨rfl, rfl⟩ := h'
    have hlen : l.length ≤ cur.toList.length := by rw [← htake]; simp; omega
    have h1 := h.1
    refine ⟨cur.toList, by simpa using hg, by omega, hp.updAt hi (zbn w g _) (fun k _ hk => Ent.sl_fp.2 (by rw [hk]; rfl)) (Ent.sl_ok.2 ⟨by simp; omega, .inr ⟨g, cap, _, rfl, hb, setRow_heap w g _ _ e _ hg, hnc, hcm, ?_, ?_⟩⟩) (fun k hk => .inl (Ent.sl_fp.2 (Ent.sl_fp.1 hk)))⟩
    · simp at hlen ⊢; omega
    · rw [List.toList_toArray, zdv (by omega), htake]
theorem Ew.bn (i : Nat) {t e : TypeId} [hT : TyS P t] {x y : Operand} {g p k cap size : Nat} {l : List Value} {hs' : HS} {val : Value} [hv : OneC val] (ho : o.op = .store t x y) (hx : ev fs x = some (.pointer (some ⟨g, p, none⟩))) (hy : ev fs y = some val)
    (hi : hs[i]? = some (.sl (.slice (some ⟨g, 0, none⟩) k cap) e size k l)) (hp : p < l.length) [hH : SetAt hs i (.sl (.slice (some ⟨g, 0, none⟩) k cap) e size k (l.set p val)) hs'] : Ew P n B M fs hs o (fun v hs'' => v = undef ∧ hs'' = hs') := Ew.aI fun a w ha hw => by
  obtain ⟨cur, h1, h2, h3⟩ := hw.spliceS (m := [val]) (p := p) hi (by simp; omega)
  have h := zbI (P := P) (w := w) hT.h ho (ha.ev hx) (ha.ev hy) (m := [val]) hv.cells rfl (by simpa using hv.h) h1 h2
  refine ⟨_, _, h, zck h1 _, ?_, rfl, rfl⟩
  rw [← hH.h, ← zcF l p val hp]
  exact h3
theorem Yv.bO {x y : Operand} {t u : TypeId} {k : IntKind} {a b : Int} (ho : o.op = .binOp .add t x y u) (hx : ev fs x = some (.int k a)) (hy : ev fs y = some (.int k b)) (hr : k.wrap (a + b) = a + b) : Yv P n B M fs hs o (.int k (a + b)) :=
  (Yv.ak (v := .int k (k.wrap (a + b))) (by rw [ho]; simp only [zd3, hx, hy]; cases k <;> rfl)).eq (by rw [hr])
theorem Ew.ba {t e : TypeId} {size bytes : Nat} {x : Operand} {z m : List Value} [hT : TyE P t e size bytes z] (ho : o.op = .buildSlice t 1 #[(0, x)]) (hv : ev fs x = some (.agg m.toArray)) (hm : m.length = size)
    (hbig : size ≤ 16777216) : Ew P n B M fs hs o (fun v hs' => ∃ g, v = .slice (some ⟨g, 0, none⟩) 1 1 ∧ hs' = .row g e m :: hs) := Ew.ay fun a w ha hp => by
  obtain ⟨i, zv, hU, hi, hz, hzc, rfl, rfl, hzs, hpos⟩ := hT.get
  have hne : ¬ i.size = 0 := by omega
  refine ⟨_, _, _, ?_, Kp.alloc w _, hp.allocRow e m, w.heap.size, rfl, rfl⟩
  have hf := zcc m 0 0 ((Array.range i.size).map fun j => z.toArray[j % z.toArray.size]!) (by simp; omega)
  have e1 : (m.toArray.zipIdx.foldl (fun (cs : Array Value) (p : Value × Nat) => cs.setIfInBounds (0 + p.2) p.1) ((Array.range i.size).map fun j => z.toArray[j % z.toArray.size]!)) = m.toArray := by
    have e2 : ((Array.range i.size).map fun j => z.toArray[j % z.toArray.size]!).toList.drop (0 + 0 + m.length) = [] := List.drop_of_length_le (by simp; omega)
    rw [e2] at hf
    simpa using hf
  have hfill : Instr.fill (fun j => some (j * i.size, i.size)) ((Array.range i.size).map fun j => z.toArray[j % z.toArray.size]!) [(0, Value.agg m.toArray)] = some m.toArray := by
    unfold Instr.fill
    simp only [Nat.zero_mul, Value.cells]
    rw [if_neg (by simp; omega), e1]
    rfl
  unfold execOp
  simp at hfill
  simp [ho, Instr.buildSlice, underlying, hU, sizeOf, typeInfo, hi, show ¬ 16777216 < i.size by omega, hne, zeroValue, hz, hzc, ha.ev hv, hfill, newRow]
end
abbrev U (b : BitVec 64) : Value := .int .u64 (b.toNat : Int)
theorem U.one (b : BitVec 64) : OneC (U b) := inferInstance
section
variable {P : Program} {n : Nat} {B D : World} {M : Nat → Prop} {fs : SFs} {hs : HS} {o : Oper} {v : Value}
end
section
variable {P : Program} {n : Nat} {B D : World} {M : Nat → Prop} {fs : SFs} {hs : HS} {o : Oper} {v : Value}
end
instance (ws : List (BitVec 64)) : OneCs (ws.map fun b => U b) := ⟨fun x hx => by obtain ⟨b, _, rfl⟩ := List.mem_map.1 hx; rfl⟩
section
variable {P : Program} {n : Nat} {B D : World} {M : Nat → Prop} {fs : SFs} {hs : HS} {o : Oper} {v : Value}
end
def Tab (w : World) : Prop := ∀ j, j < 64 → w.cell? ⟨0, j, none⟩ = some (.int .u8 (Lib.deBruijn64tab.getD j 0 : Nat))
theorem Tab.kept {B w : World} {M : Nat → Prop} {hs : HS} (hw : Hp B M hs w) (h : Tab B) (hM : ¬ M 0) : Tab w := fun j hj => hw.cellB (h j hj) hM
theorem Tab.size {w : World} (h : Tab w) : 0 < w.heap.size := zdA (h 0 (by decide))
section
variable {F : Fence} {P : Program} {b : Frame} {a : Act} {k : List Item} {cs : List Frame} {w : World} {Q : Exit → Act → World → Prop} {n : Nat}
end
section
variable {F : Fence} {P : Program} {n : Nat} {B D : World} {M : Nat → Prop} {Q : Exit → Act → World → Prop} {fs : SFs} {hs : HS} {c : Code} {id : Nat}
instance (Q : Exit → Act → World → Prop) [h : NP Q] : NP (Exit.noGoto Q) := ⟨fun c a d v w k => h.h c a d v w k⟩
end
section
variable {P : Program} {n : Nat} {B D : World} {M : Nat → Prop} {fs : SFs} {hs : HS} {o : Oper} {v : Value}
def fps (es : HS) (g : Nat) : Prop := ∃ e ∈ es, e.fp g
theorem Hp.startL {w : World} {es : HS} (h : ∀ e ∈ es, e.ok w) (hap : es.Pairwise fun e f => ∀ g, e.fp g → ¬ f.fp g) : Hp w (fps es) es w :=
  ⟨rfl, rfl, rfl, Nat.le_refl _, fun _ _ _ => rfl, h, fun e he g hg => .inl ⟨e, he, hg⟩, hap⟩
end
theorem zb5 {k : Nat} {v : Value} {r : SFs} {t : Nat} : look ((k, v) :: r) t = if k = t then some v else look r t := by
  simp only [look]
  by_cases h : k = t
  · subst h; simp
  · rw [show Nat.beq k t = false from by cases hb : Nat.beq k t with | false => rfl | true => exact absurd (Nat.eq_of_beq_eq_true hb) h, if_neg h]; rfl
theorem zeC {l1 l2 : SFs} (h : l1.Perm l2) : (l1.map Prod.fst).Nodup → ∀ fs t, look (l1 ++ fs) t = look (l2 ++ fs) t := by
  induction h with
  | nil => intros; rfl
  | cons x _ ih =>
    intro hn fs t
    obtain ⟨k, v⟩ := x
    simp only [List.cons_append, zb5]
    rw [ih (by simp only [List.map_cons, List.nodup_cons] at hn; exact hn.2)]
  | swap x y l =>
    intro hn fs t
    obtain ⟨a, u⟩ := x
    obtain ⟨b, v⟩ := y
    simp only [List.map_cons, List.nodup_cons, List.mem_cons, not_or] at hn
    simp only [List.cons_append, zb5]
    by_cases h1 : a = t <;> by_cases h2 : b = t
    · exact absurd (h2.trans h1.symm) hn.1.1
    · simp [h1, h2]
    · simp [h1, h2]
    · simp [h1, h2]
  | trans h1 _ ih1 ih2 =>
    intro hn fs t
    rw [ih1 hn, ih2 ((h1.map Prod.fst).nodup_iff.1 hn)]
section
variable {F : Fence} [hF : Calm F] {P : Program} {n : Nat} {B D : World} {M : Nat → Prop} {Q : Exit → Act → World → Prop} {fs : SFs} {hs hs0 : HS} {ops : Array Oper} {kk : Ord}
theorem TS.aB {gs : SFs} {hs' : HS} {r : Ord} (h1 : Sub fs gs) (hp : hs.Perm hs') (h : TS F P n B D M ops Q hs0 r gs hs') : TS F P n B D M ops Q hs0 r fs hs :=
  ⟨fun a w fuel listed h2 h3 h4 ha hw hw0 hm => h.out a w fuel listed h2 h3 h4 (ha.sub h1) (hw.perm hp) hw0 hm⟩
theorem TS.bP {js : List Nat} (d : Nat → Nat) (V : Nat → Nat → Value) (E : Nat → Nat → Ent)
    (hop : ∀ j ∈ js, ∃ o : Oper, ops[j]? = some o ∧ o.dst = some (d j) ∧ Nat.blt (d j) n = true ∧ look fs (d j) = none ∧ o.guard = none ∧ ∀ fs' hs', Sub fs' fs → Ew P n B M fs' hs' o (fun v hs'' => ∃ g, v = V j g ∧ hs'' = E j g :: hs'))
    (k : ∀ done : List (Nat × Nat), (done.map Prod.fst).Perm js → TS F P n B D M ops Q hs0 kk (done.map (fun p => (d p.1, V p.1 p.2)) ++ fs) (done.map (fun p => E p.1 p.2) ++ hs)) (hsub : hs0.Sublist hs) :
    TS F P n B D M ops Q hs0 (.any js kk) fs hs := by
  have main : ∀ m (rem : List Nat) (done : List (Nat × Nat)) fuel (listed : Array Bool) a w, Region.noSelect ops = true → zaT ops = true → (done.map Prod.fst ++ rem).Perm js →
      zcJ ops (fun f l => zaX ops kk f l) m rem fuel listed = true → ClosedL .any ops listed → Fr n (done.map (fun p => (d p.1, V p.1 p.2)) ++ fs) a → Hp B M (done.map (fun p => E p.1 p.2) ++ hs) w → Hp B M hs0 w → Mk B D a w →
      zaL F P .any ops Q fuel listed (Hp B M hs0) a w := by
    intro m
    induction m with
    | zero =>
      intro rem done fuel listed a w hns hnd hp hok hcl ha hw hw0 hm
      simp only [zcJ, Bool.and_eq_true, List.isEmpty_iff] at hok
      obtain ⟨rfl, hok⟩ := hok
      rw [List.append_nil] at hp
      exact (k done hp).out a w fuel listed hns hnd ⟨hok, hcl⟩ ha hw hw0 hm
    | succ m ih =>
      intro rem done fuel listed a w hns hnd hp hok hcl ha hw hw0 hm
      cases fuel with
      | zero => simp [zcJ] at hok
      | succ fuel =>
        simp only [zcJ, Bool.and_eq_true, beq_iff_eq, Bool.not_eq_true', List.isEmpty_eq_false_iff, List.all_eq_true] at hok
        refine za8 hok.1 hok.2.1 ?_
        intro q hq
        have hqj : q ∈ js := hp.subset (List.mem_append_right _ hq)
        obtain ⟨o, h1, h2, h3, h4, h5, hE⟩ := hop q hqj
        have hs' : Sub (done.map (fun p => (d p.1, V p.1 p.2)) ++ fs) fs := by
          have : ∀ (l : List (Nat × Nat)), (∀ p ∈ l, p.1 ∈ js) → Sub (l.map (fun p => (d p.1, V p.1 p.2)) ++ fs) fs := by
            intro l
            induction l with
            | nil => intro _; exact Sub.refl
            | cons p r ihr =>
              intro hl t v hv
              simp only [List.map_cons, List.cons_append, zb5]
              by_cases hd : d p.1 = t
              · obtain ⟨_, _, _, _, this, _⟩ := hop p.1 (hl p (by simp))
                rw [hd] at this
                rw [this] at hv; cases hv
              · rw [if_neg hd]; exact ihr (fun x hx => hl x (by simp [hx])) t v hv
          exact this done (fun p hp' => hp.subset (List.mem_append_left _ (List.mem_map.2 ⟨p, hp', rfl⟩)))
        unfold wpOpIn
        simp only [h1, (Wt.none (n := n) (ops := ops) (fs := done.map (fun p => (d p.1, V p.1 p.2)) ++ fs) h5) a ha, if_true]
        refine hE _ _ hs' F hF Q _ a w ha hw ?_
        rintro v w' hs'' hk hp' ⟨g, rfl, rfl⟩
        rw [h2]
        have hsub' : hs0.Sublist (E q g :: (done.map (fun p => E p.1 p.2) ++ hs)) := (hsub.trans (List.sublist_append_right _ _)).trans (List.sublist_cons_self _ _)
        refine ⟨_, fun _ => rfl, hp'.sub hsub', ?_⟩
        exact ih (rem.erase q) ((q, g) :: done) fuel _ _ w' hns hnd (by
          simp only [List.map_cons, List.cons_append]
          have : (q :: (done.map Prod.fst ++ rem.erase q)).Perm (done.map Prod.fst ++ q :: rem.erase q) := List.perm_middle.symm
          exact this.trans (((List.perm_cons_erase hq).symm.append_left _).trans hp)) (hok.2.2 q hq) (hcl.step (by rw [hok.1]; exact hq)) (ha.put h3 _) hp' (hp'.sub hsub') ((hm.next hk).put _ _)
  exact ⟨fun a w fuel listed hns hnd hok ha hw hw0 hm => main js.length js [] fuel listed a w hns hnd (by simp) (by simpa [zaX] using hok.1) hok.2 ha hw hw0 hm⟩
def zea (done : List (Nat × Nat)) (j : Nat) : Nat := match done.find? (fun p => p.1 == j) with | some p => p.2 | none => 0
theorem zdi : ∀ (done : List (Nat × Nat)), (done.map Prod.fst).Nodup → ∀ p ∈ done, zea done p.1 = p.2
  | [], _, p, hp => by cases hp
  | q :: r, hn, p, hp => by
    simp only [List.map_cons, List.nodup_cons] at hn
    unfold zea
    rw [List.find?_cons]
    by_cases h : q.1 = p.1
    · have e : (q.1 == p.1) = true := by simpa using h
      simp only [e]
      rcases List.mem_cons.1 hp with rfl | hp
      · rfl
      · exact absurd (List.mem_map.2 ⟨p, hp, h.symm⟩) hn.1
    · have e : (q.1 == p.1) = false := by simpa using h
      simp only [e]
      rcases List.mem_cons.1 hp with rfl | hp
      · exact absurd rfl h
      · exact zdi r hn.2 p hp
theorem TS.any {js : List Nat} (d : Nat → Nat) (V : Nat → Nat → Value) (E : Nat → Nat → Ent) (hnd : js.Nodup) (hnd2 : (js.map d).Nodup)
    (hop : ∀ j ∈ js, ∃ o : Oper, ops[j]? = some o ∧ o.dst = some (d j) ∧ Nat.blt (d j) n = true ∧ look fs (d j) = none ∧ o.guard = none ∧ ∀ fs' hs', Sub fs' fs → Ew P n B M fs' hs' o (fun v hs'' => ∃ g, v = V j g ∧ hs'' = E j g :: hs'))
    (hsub : hs0.Sublist hs) (k : ∀ gs : Nat → Nat, TS F P n B D M ops Q hs0 kk (js.map (fun j => (d j, V j (gs j))) ++ fs) (js.map (fun j => E j (gs j)) ++ hs)) : TS F P n B D M ops Q hs0 (.any js kk) fs hs := by
  refine TS.bP d V E hop (fun done hp => ?_) hsub
  have hdn : (done.map Prod.fst).Nodup := hp.nodup_iff.2 hnd
  have he : done = (done.map Prod.fst).map (fun j => (j, zea done j)) := by
    rw [List.map_map]
    conv => lhs; rw [← List.map_id done]
    exact List.map_congr_left fun p hp' => by simp [zdi done hdn p hp']
  have hpd : done.Perm (js.map (fun j => (j, zea done j))) := by
    have := hp.map (fun j => (j, zea done j))
    rw [← he] at this
    exact this
  refine TS.aB (fun t v hv => ?_) ?_ (k (zea done))
  · have h1 := hpd.map (fun p => (d p.1, V p.1 p.2))
    rw [List.map_map] at h1
    rw [zeC h1 (by
      rw [List.map_map]
      have := hp.map d
      rw [List.map_map] at this
      exact this.nodup_iff.2 hnd2)]
    exact hv
  · have h1 := hpd.map (fun p => E p.1 p.2)
    rw [List.map_map] at h1
    exact h1.append_right _
end
@[irreducible] def Ent.bag (es : HS) : Ent where
  fp g := ∃ e ∈ es, e.fp g
  ok w := (∀ e ∈ es, e.ok w) ∧ es.Pairwise fun (e f : Ent) => ∀ g : Nat, e.fp g → ¬ f.fp g
  loc h k := ⟨fun e he => e.loc (fun g hg => h g ⟨e, he, hg⟩) (k.1 e he), k.2⟩
  lt h g hg := by obtain ⟨e, he, hg⟩ := hg; exact e.lt (h.1 e he) g hg
  nd h g hg c := by obtain ⟨e, he, hg⟩ := hg; exact e.nd (h.1 e he) g hg c
theorem Ent.bag_fp {es : HS} {g : Nat} : (Ent.bag es).fp g ↔ ∃ e ∈ es, e.fp g := by unfold Ent.bag; exact Iff.rfl
theorem Ent.bag_ok {es : HS} {w : World} : (Ent.bag es).ok w ↔ (∀ e ∈ es, e.ok w) ∧ es.Pairwise fun e f => ∀ g, e.fp g → ¬ f.fp g := by unfold Ent.bag; exact Iff.rfl
section
variable {F : Fence} {P : Program} {n : Nat} {B D : World} {M : Nat → Prop} {Q : Exit → Act → World → Prop} {fs : SFs} {hs : HS} {c : Code} {e : Exit} {w : World}
theorem Hp.repl {es es' rest : HS} (h : Hp B M (es ++ rest) w) (hok : ∀ e ∈ es', e.ok w) (hfp : ∀ e ∈ es', ∀ g, e.fp g → ∃ f ∈ es, f.fp g) (hap : es'.Pairwise fun e f => ∀ g, e.fp g → ¬ f.fp g) : Hp B M (es' ++ rest) w :=
  Hp.go (es := es) h (Only.refl (fun _ => False) w) (fun _ _ h => h.elim) hok (fun e he g hg => .inl (hfp e he g hg)) hap
end
end Go.Proofs.Ytlfalfmebomfbaa
namespace Go.Proofs.Ytlfalfmebomfbaa
instance : Mixed Try.prog := ⟨by kernel_rfl⟩
instance : Enters Try.prog 10 := ⟨by kernel_rfl⟩
instance : Enters Try.prog 11 := ⟨by kernel_rfl⟩
instance : Enters Try.prog 12 := ⟨by kernel_rfl⟩
instance : Enters Try.prog 13 := ⟨by kernel_rfl⟩
instance : Enters Try.prog 14 := ⟨by kernel_rfl⟩
instance : Enters Try.prog 15 := ⟨by kernel_rfl⟩
instance : Enters Try.prog 16 := ⟨by kernel_rfl⟩
instance : Enters Try.prog 17 := ⟨by kernel_rfl⟩
instance : Enters Try.prog 18 := ⟨by kernel_rfl⟩
instance : Enters Try.prog 19 := ⟨by kernel_rfl⟩
instance : Enters Try.prog 2 := ⟨by kernel_rfl⟩
instance : Enters Try.prog 20 := ⟨by kernel_rfl⟩
instance : Enters Try.prog 21 := ⟨by kernel_rfl⟩
instance : Enters Try.prog 22 := ⟨by kernel_rfl⟩
instance : Enters Try.prog 23 := ⟨by kernel_rfl⟩
instance : Enters Try.prog 24 := ⟨by kernel_rfl⟩
instance : Enters Try.prog 25 := ⟨by kernel_rfl⟩
instance : Enters Try.prog 26 := ⟨by kernel_rfl⟩
instance : Enters Try.prog 27 := ⟨by kernel_rfl⟩
instance : Enters Try.prog 28 := ⟨by kernel_rfl⟩
instance : Enters Try.prog 29 := ⟨by kernel_rfl⟩
instance : Enters Try.prog 3 := ⟨by kernel_rfl⟩
instance : Enters Try.prog 30 := ⟨by kernel_rfl⟩
instance : Enters Try.prog 31 := ⟨by kernel_rfl⟩
instance : Enters Try.prog 32 := ⟨by kernel_rfl⟩
instance : Enters Try.prog 33 := ⟨by kernel_rfl⟩
instance : Enters Try.prog 34 := ⟨by kernel_rfl⟩
instance : Enters Try.prog 35 := ⟨by kernel_rfl⟩
instance : Enters Try.prog 36 := ⟨by kernel_rfl⟩
instance : Enters Try.prog 37 := ⟨by kernel_rfl⟩
instance : Enters Try.prog 38 := ⟨by kernel_rfl⟩
instance : Enters Try.prog 39 := ⟨by kernel_rfl⟩
instance : Enters Try.prog 4 := ⟨by kernel_rfl⟩
instance : Enters Try.prog 40 := ⟨by kernel_rfl⟩
instance : Enters Try.prog 41 := ⟨by kernel_rfl⟩
instance : Enters Try.prog 42 := ⟨by kernel_rfl⟩
instance : Enters Try.prog 43 := ⟨by kernel_rfl⟩
instance : Enters Try.prog 44 := ⟨by kernel_rfl⟩
instance : Enters Try.prog 45 := ⟨by kernel_rfl⟩
instance : Enters Try.prog 46 := ⟨by kernel_rfl⟩
instance : Enters Try.prog 47 := ⟨by kernel_rfl⟩
instance : Enters Try.prog 48 := ⟨by kernel_rfl⟩
instance : Enters Try.prog 49 := ⟨by kernel_rfl⟩
instance : Enters Try.prog 5 := ⟨by kernel_rfl⟩
instance : Enters Try.prog 50 := ⟨by kernel_rfl⟩
instance : Enters Try.prog 51 := ⟨by kernel_rfl⟩
instance : Enters Try.prog 52 := ⟨by kernel_rfl⟩
instance : Enters Try.prog 6 := ⟨by kernel_rfl⟩
instance : Enters Try.prog 7 := ⟨by kernel_rfl⟩
instance : Enters Try.prog 8 := ⟨by kernel_rfl⟩
instance : Enters Try.prog 9 := ⟨by kernel_rfl⟩
instance : TyA Try.prog 26 3 := ⟨by kernel_rfl⟩
instance : TyA Try.prog 31 6 := ⟨by kernel_rfl⟩
instance : TyA Try.prog 38 2 := ⟨by kernel_rfl⟩
instance : TyA Try.prog 53 2 := ⟨by kernel_rfl⟩
instance : TyA Try.prog 62 2 := ⟨by kernel_rfl⟩
instance : TyA Try.prog 63 4 := ⟨by kernel_rfl⟩
instance : TyA Try.prog 68 2 := ⟨by kernel_rfl⟩
instance : TyA Try.prog 69 2 := ⟨by kernel_rfl⟩
instance : TyAr Try.prog 63 2 62 2 := ⟨by kernel_rfl⟩
instance : TyAr Try.prog 68 2 67 1 := ⟨by kernel_rfl⟩
instance : TyAr Try.prog 69 2 3 1 := ⟨by kernel_rfl⟩
instance : TyAr Try.prog 80 64 5 1 := ⟨by kernel_rfl⟩
instance : TyE Try.prog 106 24 1 8 ([.nilFunc]) := ⟨by kernel_rfl⟩
instance : TyE Try.prog 22 31 6 48 ([.int .i64 0, .int .i64 0, .int .i64 0, .int .i64 0, .int .i64 0, .int .i64 0]) := ⟨by kernel_rfl⟩
instance : TyE Try.prog 23 26 3 24 ([.int .i64 0, .int .i64 0, .int .i64 0]) := ⟨by kernel_rfl⟩
instance : TyE Try.prog 32 3 1 8 ([.int .i64 0]) := ⟨by kernel_rfl⟩
instance : TyE Try.prog 39 38 2 16 ([.int .i64 0, .int .i64 0]) := ⟨by kernel_rfl⟩
instance : TyE Try.prog 49 53 2 16 ([.int .i64 0, .int .i64 0]) := ⟨by kernel_rfl⟩
instance : TyE Try.prog 67 80 64 64 (List.replicate 64 (.int .u8 0)) := ⟨by kernel_rfl⟩
instance : TyF Try.prog 26 1 1 := ⟨by kernel_rfl⟩
instance : TyF Try.prog 26 2 2 := ⟨by kernel_rfl⟩
instance : TyF Try.prog 31 0 0 := ⟨by kernel_rfl⟩
instance : TyF Try.prog 31 1 1 := ⟨by kernel_rfl⟩
instance : TyF Try.prog 31 2 2 := ⟨by kernel_rfl⟩
instance : TyF Try.prog 31 3 3 := ⟨by kernel_rfl⟩
instance : TyF Try.prog 31 4 4 := ⟨by kernel_rfl⟩
instance : TyF Try.prog 31 5 5 := ⟨by kernel_rfl⟩
instance : TyF Try.prog 38 0 0 := ⟨by kernel_rfl⟩
instance : TyF Try.prog 38 1 1 := ⟨by kernel_rfl⟩
instance : TyF Try.prog 53 0 0 := ⟨by kernel_rfl⟩
instance : TyF Try.prog 53 1 1 := ⟨by kernel_rfl⟩
instance : TyF Try.prog 62 0 0 := ⟨by kernel_rfl⟩
instance : TyF Try.prog 62 1 1 := ⟨by kernel_rfl⟩
instance : TyI Try.prog 100 .u64 := ⟨by kernel_rfl⟩
instance : TyI Try.prog 3 .i64 := ⟨by kernel_rfl⟩
instance : TyI Try.prog 5 .u8 := ⟨by kernel_rfl⟩
instance : TyI Try.prog 83 .u64 := ⟨by kernel_rfl⟩
instance : TyI Try.prog 94 .u32 := ⟨by kernel_rfl⟩
instance : TyI Try.prog 96 .u64 := ⟨by kernel_rfl⟩
instance : TyPl Try.prog 26 0 0 1 := ⟨by kernel_rfl⟩
instance : TyPl Try.prog 26 1 1 1 := ⟨by kernel_rfl⟩
instance : TyPl Try.prog 26 2 2 1 := ⟨by kernel_rfl⟩
instance : TyPl Try.prog 31 0 0 1 := ⟨by kernel_rfl⟩
instance : TyPl Try.prog 31 1 1 1 := ⟨by kernel_rfl⟩
instance : TyPl Try.prog 31 2 2 1 := ⟨by kernel_rfl⟩
instance : TyPl Try.prog 31 3 3 1 := ⟨by kernel_rfl⟩
instance : TyPl Try.prog 31 5 5 1 := ⟨by kernel_rfl⟩
instance : TyPl Try.prog 38 0 0 1 := ⟨by kernel_rfl⟩
instance : TyPl Try.prog 38 1 1 1 := ⟨by kernel_rfl⟩
instance : TyPl Try.prog 53 0 0 1 := ⟨by kernel_rfl⟩
instance : TyPl Try.prog 53 1 1 1 := ⟨by kernel_rfl⟩
instance : TyPl Try.prog 62 0 0 1 := ⟨by kernel_rfl⟩
instance : TyPl Try.prog 62 1 1 1 := ⟨by kernel_rfl⟩
instance : TyS Try.prog 100 := ⟨by kernel_rfl⟩
instance : TyS Try.prog 24 := ⟨by kernel_rfl⟩
instance : TyS Try.prog 3 := ⟨by kernel_rfl⟩
instance : TyS Try.prog 32 := ⟨by kernel_rfl⟩
instance : TyS Try.prog 4 := ⟨by kernel_rfl⟩
instance : TyS Try.prog 49 := ⟨by kernel_rfl⟩
instance : TyS Try.prog 5 := ⟨by kernel_rfl⟩
instance : TyS Try.prog 51 := ⟨by kernel_rfl⟩
instance : TyS Try.prog 60 := ⟨by kernel_rfl⟩
instance : TyS Try.prog 67 := ⟨by kernel_rfl⟩
instance : TySl Try.prog 106 24 1 := ⟨by kernel_rfl⟩
instance : TySl Try.prog 22 31 6 := ⟨by kernel_rfl⟩
instance : TySl Try.prog 23 26 3 := ⟨by kernel_rfl⟩
instance : TySl Try.prog 32 3 1 := ⟨by kernel_rfl⟩
instance : TySl Try.prog 39 38 2 := ⟨by kernel_rfl⟩
instance : TySl Try.prog 49 53 2 := ⟨by kernel_rfl⟩
instance : TySl Try.prog 67 80 64 := ⟨by kernel_rfl⟩
instance : TySt Try.prog 26 := ⟨by kernel_rfl⟩
instance : TySt Try.prog 31 := ⟨by kernel_rfl⟩
instance : TySt Try.prog 38 := ⟨by kernel_rfl⟩
instance : TySt Try.prog 53 := ⟨by kernel_rfl⟩
instance : TySt Try.prog 62 := ⟨by kernel_rfl⟩
instance : TyZ Try.prog 100 ([.int .u64 0]) := ⟨by kernel_rfl⟩
instance : TyZ Try.prog 26 ([.int .i64 0, .int .i64 0, .int .i64 0]) := ⟨by kernel_rfl⟩
instance : TyZ Try.prog 3 ([.int .i64 0]) := ⟨by kernel_rfl⟩
instance : TyZ Try.prog 31 ([.int .i64 0, .int .i64 0, .int .i64 0, .int .i64 0, .int .i64 0, .int .i64 0]) := ⟨by kernel_rfl⟩
instance : TyZ Try.prog 38 ([.int .i64 0, .int .i64 0]) := ⟨by kernel_rfl⟩
instance : TyZ Try.prog 4 ([.bool false]) := ⟨by kernel_rfl⟩
instance : TyZ Try.prog 49 ([.slice none 0 0]) := ⟨by kernel_rfl⟩
instance : TyZ Try.prog 53 ([.int .i64 0, .int .i64 0]) := ⟨by kernel_rfl⟩
instance : TyZ Try.prog 60 ([.map none]) := ⟨by kernel_rfl⟩
instance : TyZ Try.prog 62 ([.bool false, .int .i64 0]) := ⟨by kernel_rfl⟩
instance : TyZ Try.prog 63 ([.bool false, .int .i64 0, .bool false, .int .i64 0]) := ⟨by kernel_rfl⟩
instance : TyZ Try.prog 68 ([.slice none 0 0, .slice none 0 0]) := ⟨by kernel_rfl⟩
instance : TyZ Try.prog 69 ([.int .i64 0, .int .i64 0]) := ⟨by kernel_rfl⟩
instance : TyZ Try.prog 80 (List.replicate 64 (.int .u8 0)) := ⟨by kernel_rfl⟩
instance : Zs [.int .i64 0, .int .i64 0, .int .i64 0, .int .i64 0, .int .i64 0, .int .i64 0] 2 [.int .i64 0, .int .i64 0, .int .i64 0, .int .i64 0, .int .i64 0, .int .i64 0, .int .i64 0, .int .i64 0, .int .i64 0, .int .i64 0, .int .i64 0, .int .i64 0] := ⟨by kernel_rfl⟩
instance : Zs [.int .i64 0, .int .i64 0, .int .i64 0, .int .i64 0, .int .i64 0, .int .i64 0] 3 [.int .i64 0, .int .i64 0, .int .i64 0, .int .i64 0, .int .i64 0, .int .i64 0, .int .i64 0, .int .i64 0, .int .i64 0, .int .i64 0, .int .i64 0, .int .i64 0, .int .i64 0, .int .i64 0, .int .i64 0, .int .i64 0, .int .i64 0, .int .i64 0] := ⟨by kernel_rfl⟩
instance : Zs [.int .i64 0, .int .i64 0, .int .i64 0] 1 [.int .i64 0, .int .i64 0, .int .i64 0] := ⟨by kernel_rfl⟩
instance : Zs [.int .i64 0, .int .i64 0, .int .i64 0] 3 [.int .i64 0, .int .i64 0, .int .i64 0, .int .i64 0, .int .i64 0, .int .i64 0, .int .i64 0, .int .i64 0, .int .i64 0] := ⟨by kernel_rfl⟩
instance : Zs [.int .i64 0, .int .i64 0] 1 [.int .i64 0, .int .i64 0] := ⟨by kernel_rfl⟩
instance : Zs [.int .i64 0, .int .i64 0] 2 [.int .i64 0, .int .i64 0, .int .i64 0, .int .i64 0] := ⟨by kernel_rfl⟩
instance : Zs [.int .i64 0] 1 [.int .i64 0] := ⟨by kernel_rfl⟩
instance : Zs [.int .u8 0, .int .u8 0, .int .u8 0, .int .u8 0, .int .u8 0, .int .u8 0, .int .u8 0, .int .u8 0, .int .u8 0, .int .u8 0, .int .u8 0, .int .u8 0, .int .u8 0, .int .u8 0, .int .u8 0, .int .u8 0, .int .u8 0, .int .u8 0, .int .u8 0, .int .u8 0, .int .u8 0, .int .u8 0, .int .u8 0, .int .u8 0, .int .u8 0, .int .u8 0, .int .u8 0, .int .u8 0, .int .u8 0, .int .u8 0, .int .u8 0, .int .u8 0, .int .u8 0, .int .u8 0, .int .u8 0, .int .u8 0, .int .u8 0, .int .u8 0, .int .u8 0, .int .u8 0, .int .u8 0, .int .u8 0, .int .u8 0, .int .u8 0, .int .u8 0, .int .u8 0, .int .u8 0, .int .u8 0, .int .u8 0, .int .u8 0, .int .u8 0, .int .u8 0, .int .u8 0, .int .u8 0, .int .u8 0, .int .u8 0, .int .u8 0, .int .u8 0, .int .u8 0, .int .u8 0, .int .u8 0, .int .u8 0, .int .u8 0, .int .u8 0] 1 [.int .u8 0, .int .u8 0, .int .u8 0, .int .u8 0, .int .u8 0, .int .u8 0, .int .u8 0, .int .u8 0, .int .u8 0, .int .u8 0, .int .u8 0, .int .u8 0, .int .u8 0, .int .u8 0, .int .u8 0, .int .u8 0, .int .u8 0, .int .u8 0, .int .u8 0, .int .u8 0, .int .u8 0, .int .u8 0, .int .u8 0, .int .u8 0, .int .u8 0, .int .u8 0, .int .u8 0, .int .u8 0, .int .u8 0, .int .u8 0, .int .u8 0, .int .u8 0, .int .u8 0, .int .u8 0, .int .u8 0, .int .u8 0, .int .u8 0, .int .u8 0, .int .u8 0, .int .u8 0, .int .u8 0, .int .u8 0, .int .u8 0, .int .u8 0, .int .u8 0, .int .u8 0, .int .u8 0, .int .u8 0, .int .u8 0, .int .u8 0, .int .u8 0, .int .u8 0, .int .u8 0, .int .u8 0, .int .u8 0, .int .u8 0, .int .u8 0, .int .u8 0, .int .u8 0, .int .u8 0, .int .u8 0, .int .u8 0, .int .u8 0, .int .u8 0] := ⟨by kernel_rfl⟩
instance : Zs [.nilFunc] 7 [.nilFunc, .nilFunc, .nilFunc, .nilFunc, .nilFunc, .nilFunc, .nilFunc] := ⟨by kernel_rfl⟩
end Go.Proofs.Ytlfalfmebomfbaa
namespace Go.Proofs.Ytlfalfmebomfbaa
open Go.RowKit
def zeS (fs : SFs) : Op → Option Value
  | .pick c x y => match ev fs c with
    | some (.bool true) => ev fs x
    | some (.bool false) => ev fs y
    | _ => none
  | op => zd3 fs op
def zbx (ops : Array Oper) (fs : SFs) (o : Oper) : Option Bool :=
  match o.guard with
  | none => some true
  | some (j, want) => match (ops[j]?).bind (·.dst) with
    | some d => match look fs d with
      | some (.bool true) => some want
      | some (.bool false) => some (!want)
      | some (.tuple a) => bif a.toList.isEmpty then some false else none
      | _ => none
    | none => none
def ze7 (n : Nat) (ops : Array Oper) (fs : SFs) (o : Oper) : Option SFs :=
  match o.dst with
  | none => none
  | some d => bif Nat.blt d n then
      match zbx ops fs o with
      | some true => match zeS fs o.op with
        | some v => some ((d, v) :: fs)
        | none => none
      | some false => some ((d, undef) :: fs)
      | none => none
    else none
def runP (n : Nat) (ops : Array Oper) : Nat → SFs → List Oper → Option (SFs × List Oper)
  | 0, fs, l => some (fs, l)
  | k + 1, fs, o :: l => match ze7 n ops fs o with
    | some fs' => runP n ops k fs' l
    | none => none
  | _ + 1, _, [] => none
def runO (n : Nat) (ops : Array Oper) : Nat → SFs → Ord → Option (SFs × Ord)
  | 0, fs, r => some (fs, r)
  | k + 1, fs, .still i r => match ops[i]? with
    | some o => match ze7 n ops fs o with
      | some fs' => runO n ops k fs' r
      | none => none
    | none => none
  | _ + 1, _, _ => none
theorem zci {a b : Bool} (h : a = true) : (a || b) = true := by rw [h]; rfl
theorem or_f {a b : Bool} (h : a = false) : b = (a || b) := by rw [h]; rfl
theorem zcQ {a b c : Bool} (h : a = false) (k : b = c) : (a || b) = c := by rw [h, k]; rfl
theorem za0 {a b : Bool} (h : a = false) : (a && b) = false := by rw [h]; rfl
theorem zfy {a b : Bool} (h : a = true) : b = (a && b) := by rw [h]; rfl
theorem zbu {a b c : Bool} (h : a = true) (k : b = c) : (a && b) = c := by rw [h, k]; rfl
section
variable {Fe : Fence} [hFe : Calm Fe] {P : Program} {n : Nat} {B D : World} {M S0 : Nat → Prop} {Q : Exit → Act → World → Prop} {fs fs' : SFs} {hs : HS} {ops : Array Oper} {rest l l' : List Oper} {o : Oper} {v val sv : Value}
theorem Yv.bH (h : zeS fs o.op = some v) : Yv P n B M fs hs o v := by
  unfold zeS at h
  split at h
  · rename_i c x y e
    split at h
    · rename_i hc; exact Yv.aw e hc rfl h
    · rename_i hc; exact Yv.ar e hc rfl h
    · cases h
  · exact Yv.ak h
theorem zaF {b : Bool} (h : zbx ops fs o = some b) : Wt n ops fs o b := by
  unfold zbx at h
  split at h
  · rename_i hg; cases h; exact Wt.none hg
  · rename_i j want hg
    split at h
    · rename_i d hd
      split at h
      · rename_i hl
        obtain rfl := Option.some.inj h
        cases want
        · exact Wt.not hg hd hl rfl
        · exact Wt.some hg hd hl rfl
      · rename_i hl
        obtain rfl := Option.some.inj h
        cases want
        · exact Wt.some hg hd hl rfl
        · exact Wt.not hg hd hl rfl
      · rename_i a hl
        cases ha : a.toList.isEmpty with
        | false => rw [ha] at h; cases h
        | true =>
          rw [ha] at h; cases h
          have : a = #[] := by apply Array.ext'; simpa using ha
          subst this
          exact Wt.undef hg hd hl
      · cases h
    · cases h
theorem zdj (h : ze7 n ops fs o = some fs') : ∃ d v, o.dst = some d ∧ Nat.blt d n = true ∧ fs' = (d, v) :: fs ∧ ((zbx ops fs o = some true ∧ zeS fs o.op = some v) ∨ (zbx ops fs o = some false ∧ v = undef)) := by
  unfold ze7 at h
  split at h
  · cases h
  · rename_i d hd
    cases hb : Nat.blt d n with
    | false => rw [hb] at h; cases h
    | true =>
      rw [hb] at h
      simp only [cond_true] at h
      split at h
      · rename_i hg
        split at h
        · rename_i v hv; cases h; exact ⟨d, v, hd, hb, rfl, .inl ⟨hg, hv⟩⟩
        · cases h
      · rename_i hg; cases h; exact ⟨d, undef, hd, hb, rfl, .inr ⟨hg, rfl⟩⟩
      · cases h
theorem TL.run : ∀ (k : Nat) {fs fs' : SFs} {l l' : List Oper}, runP n ops k fs l = some (fs', l') → TL Fe P n B D M ops Q l' fs' hs → TL Fe P n B D M ops Q l fs hs
  | 0, fs, fs', l, l', h, t => by simp only [runP, Option.some.injEq, Prod.mk.injEq] at h; rw [h.1, h.2]; exact t
  | k + 1, fs, fs', [], l', h, t => by simp [runP] at h
  | k + 1, fs, fs', o :: r, l', h, t => by
    simp only [runP] at h
    split at h
    · rename_i f1 h1
      obtain ⟨d, v, hd, hb, rfl, h2⟩ := zdj h1
      have ih := TL.run k h t
      rcases h2 with ⟨hg, hv⟩ | ⟨hg, rfl⟩
      · exact TL.yv (zaF hg) hd hb (Yv.bH hv) ih
      · exact TL.off (zaF hg) hd hb ih
    · cases h
theorem TS.run [hnp : NP Q] {hs0 : HS} : ∀ (k : Nat) {fs fs' : SFs} {r r' : Ord}, runO n ops k fs r = some (fs', r') → TS Fe P n B D M ops Q hs0 r' fs' hs → TS Fe P n B D M ops Q hs0 r fs hs
  | 0, fs, fs', r, r', h, t => by simp only [runO, Option.some.injEq, Prod.mk.injEq] at h; rw [h.1, h.2]; exact t
  | k + 1, fs, fs', .still i r, r', h, t => by
    simp only [runO] at h
    split at h
    · rename_i o ho
      split at h
      · rename_i f1 h1
        obtain ⟨d, v, hd, hb, rfl, h2⟩ := zdj h1
        have ih := TS.run k h t
        rcases h2 with ⟨hg, hv⟩ | ⟨hg, rfl⟩
        · exact TS.still ho (zaF hg) hd hb (Yv.bH hv) ih
        · exact TS.ae ho (zaF hg) hd hb ih
      · cases h
    · cases h
  | k + 1, fs, fs', .done, r', h, t => by simp [runO] at h
  | k + 1, fs, fs', .eff _ _, r', h, t => by simp [runO] at h
  | k + 1, fs, fs', .two _ _ _ _, r', h, t => by simp [runO] at h
  | k + 1, fs, fs', .any _ _, r', h, t => by simp [runO] at h
  | k + 1, fs, fs', .bar _ _, r', h, t => by simp [runO] at h
theorem TL.gs {d j : Nat} {want b : Bool} (hg : o.guard = some (j, want)) (hd : (ops[j]?).bind (·.dst) = some d) (hl : look fs d = some (.bool b)) (h1 : b = true → TL Fe P n B D M ops Q (o :: rest) ((d, .bool true) :: fs) hs) (h2 : b = false → TL Fe P n B D M ops Q (o :: rest) ((d, .bool false) :: fs) hs) : TL Fe P n B D M ops Q (o :: rest) fs hs := by
  cases b with
  | true => exact TL.aB (Sub.cons hl Sub.refl) (List.Sublist.refl _) (h1 rfl)
  | false => exact TL.aB (Sub.cons hl Sub.refl) (List.Sublist.refl _) (h2 rfl)
theorem TS.gs {hs0 : HS} {i d j : Nat} {k : Ord} {want b : Bool} (hi : ops[i]? = some o) (hg : o.guard = some (j, want)) (hd : (ops[j]?).bind (·.dst) = some d) (hl : look fs d = some (.bool b)) (h1 : b = true → TS Fe P n B D M ops Q hs0 (.still i k) ((d, .bool true) :: fs) hs) (h2 : b = false → TS Fe P n B D M ops Q hs0 (.still i k) ((d, .bool false) :: fs) hs) : TS Fe P n B D M ops Q hs0 (.still i k) fs hs := by
  cases b with
  | true => exact TS.aB (Sub.cons hl Sub.refl) (List.Perm.refl _) (h1 rfl)
  | false => exact TS.aB (Sub.cons hl Sub.refl) (List.Perm.refl _) (h2 rfl)
theorem TSo.gs {hs0 : HS} {i d j : Nat} {k : Ord} {want b : Bool} (hi : ops[i]? = some o) (hg : o.guard = some (j, want)) (hd : (ops[j]?).bind (·.dst) = some d) (hl : look fs d = some (.bool b)) (h1 : b = true → TSo Fe P n B D M ops Q hs0 i k ((d, .bool true) :: fs) hs) (h2 : b = false → TSo Fe P n B D M ops Q hs0 i k ((d, .bool false) :: fs) hs) : TSo Fe P n B D M ops Q hs0 i k fs hs := by
  cases b with
  | true => exact ⟨fun a w fuel listed x1 x2 x3 ha hw hw0 hm => (h1 rfl).out a w fuel listed x1 x2 x3 (ha.sub (Sub.cons hl Sub.refl)) hw hw0 hm⟩
  | false => exact ⟨fun a w fuel listed x1 x2 x3 ha hw hw0 hm => (h2 rfl).out a w fuel listed x1 x2 x3 (ha.sub (Sub.cons hl Sub.refl)) hw hw0 hm⟩
theorem Sub.c {gs : SFs} {t : Nat} {v : Value} (k : Sub fs gs) (h : look fs t = some v := by rfl) : Sub fs ((t, v) :: gs) := Sub.cons h k
theorem Sub.i {gs : SFs} {t : Nat} {q : IntKind} {a b : Int} (e : a = b) (k : Sub fs gs) (h : look fs t = some (.int q a) := by rfl) : Sub fs ((t, .int q b) :: gs) := Sub.consI h e k
theorem Sub.b {gs : SFs} {t : Nat} {a b : Bool} (e : a = b) (k : Sub fs gs) (h : look fs t = some (.bool a) := by rfl) : Sub fs ((t, .bool b) :: gs) := Sub.consB h e k
theorem T.sr {F : Fence} {l : List Oper} {id : Nat} {y : Code} (h : TL F P n B D M l.toArray (Exit.then (y.wpIn F 0 P Q) Q) l fs hs) : T F P n B D M (.seq (.region id l.toArray false) y) Q fs hs := T.seq (T.region h)
theorem TL.ns {F : Fence} {y : Code} (h : T F P n B D M y Q fs hs) : TL F P n B D M ops (Exit.then (y.wpIn F 0 P Q) Q) [] fs hs := TL.nil (K.seq h)
theorem TL.nx {F : Fence} {l : List Oper} {id : Nat} {y : Code} (h : TL F P n B D M l.toArray (Exit.then (y.wpIn F 0 P Q) Q) l fs hs) : TL F P n B D M ops (Exit.then ((Code.seq (.region id l.toArray false) y).wpIn F 0 P Q) Q) [] fs hs := TL.ns (T.sr h)
theorem TL.y {d : Nat} (h : Yv P n B M fs hs o v) (k : TL Fe P n B D M ops Q rest ((d, v) :: fs) hs) (hw : zbx ops fs o = some true := by rfl) (hd : o.dst = some d := by rfl) (hb : Nat.blt d n = true := by rfl) : TL Fe P n B D M ops Q (o :: rest) fs hs := TL.yv (zaF hw) hd hb h k
theorem TL.e {d : Nat} {Φ : Value → HS → Prop} (h : Ew P n B M fs hs o Φ) (k : ∀ v hs', Φ v hs' → TL Fe P n B D M ops Q rest ((d, v) :: fs) hs') (hw : zbx ops fs o = some true := by rfl) (hd : o.dst = some d := by rfl) (hb : Nat.blt d n = true := by rfl) : TL Fe P n B D M ops Q (o :: rest) fs hs := TL.ew (zaF hw) hd hb h k
theorem TL.e0 {Φ : Value → HS → Prop} (h : Ew P n B M fs hs o Φ) (k : ∀ v hs', Φ v hs' → TL Fe P n B D M ops Q rest fs hs') (hw : zbx ops fs o = some true := by rfl) (hd : o.dst = none := by rfl) : TL Fe P n B D M ops Q (o :: rest) fs hs := TL.ax (zaF hw) hd h k
theorem TS.y [hnp : NP Q] {hs0 : HS} {i : Nat} {k : Ord} {d : Nat} (hi : ops[i]? = some o) (hy : Yv P n B M fs hs0 o v) (h : TS Fe P n B D M ops Q hs0 k ((d, v) :: fs) hs) (hw : zbx ops fs o = some true := by rfl) (hd : o.dst = some d := by rfl) (hb : Nat.blt d n = true := by rfl) : TS Fe P n B D M ops Q hs0 (.still i k) fs hs := TS.still hi (zaF hw) hd hb hy h
end
def Cb (w : World) (g : Nat) : Prop := ∃ cs t p, w.heap[g]? = some (.cells cs t p)
theorem Cb.lt {w : World} {g : Nat} (h : Cb w g) : g < w.heap.size := by
  obtain ⟨_, _, _, e⟩ := h; exact (Array.getElem?_eq_some_iff.1 e).1
structure Frz where
  S : Nat → Prop
  w : World
  c : ∀ g, S g → Cb w g
def Frz.Le (F G : Frz) : Prop := ∀ g, F.S g → G.S g ∧ G.w.heap[g]? = F.w.heap[g]?
def Frz.At (F : Frz) (w : World) : Prop := ∀ g, F.S g → w.heap[g]? = F.w.heap[g]?
theorem Frz.Le.refl (F : Frz) : F.Le F := fun _ h => ⟨h, rfl⟩
theorem Frz.Le.trans {F G H : Frz} (h : F.Le G) (k : G.Le H) : F.Le H := fun g hg => ⟨(k g (h g hg).1).1, ((k g (h g hg).1).2).trans (h g hg).2⟩
theorem Frz.At.le {F G : Frz} {w : World} (k : G.At w) (h : F.Le G) : F.At w := fun g hg => (k g (h g hg).1).trans (h g hg).2
theorem Frz.At.cb {F : Frz} {w : World} (h : F.At w) {g : Nat} (hg : F.S g) : Cb w g := by
  obtain ⟨a, b, c, e⟩ := F.c g hg; exact ⟨a, b, c, (h g hg).trans e⟩
theorem Frz.At.below {F : Frz} {w w' : World} (h : F.At w) (hb : Below w.heap.size w w') : F.At w' := fun g hg => (hb.block g (h.cb hg).lt).trans (h g hg)
def Frz.all (w : World) : Frz := ⟨Cb w, w, fun _ h => h⟩
theorem Frz.all_at (w : World) : (Frz.all w).At w := fun _ _ => rfl
def Frz.none (w : World) : Frz := ⟨fun _ => False, w, fun _ h => h.elim⟩
structure Fx (F : Frz) (w : World) (G : Frz) (w' : World) : Prop where
  le : F.Le G
  at_ : G.At w'
  new : ∀ g, G.S g → F.S g ∨ w.heap.size ≤ g
  bel : Below w.heap.size w w'
theorem Fx.refl {F : Frz} {w w' : World} (h : F.At w) (hb : Below w.heap.size w w') : Fx F w F w' := ⟨.refl F, h.below hb, fun _ h => .inl h, hb⟩
structure FzB (B : World) (M S0 : Nat → Prop) extends Frz where
  base : ∀ g, S g → g < B.heap.size → ¬ M g → w.heap[g]? = B.heap[g]?
  new : ∀ g, S g → S0 g ∨ M g ∨ B.heap.size ≤ g
@[irreducible] def Ent.fr {B : World} {M S0 : Nat → Prop} (F : FzB B M S0) : Ent where
  fp g := F.S g ∧ (M g ∨ B.heap.size ≤ g)
  ok w := ∀ g, F.S g ∧ (M g ∨ B.heap.size ≤ g) → w.heap[g]? = F.w.heap[g]?
  loc h k := fun g hg => (h g hg).trans (k g hg)
  lt h g hg := by
    obtain ⟨_, _, _, e⟩ := F.c g hg.1; exact (Array.getElem?_eq_some_iff.1 ((h g hg).trans e)).1
  nd h g hg c := by
    obtain ⟨_, _, _, e⟩ := F.c g hg.1; rw [(h g hg).trans e]; simp
section
variable {B w w' : World} {M S0 : Nat → Prop} {hs hs' : HS} {F G : FzB B M S0}
theorem Ent.fr_fp {k : Nat} : (Ent.fr F).fp k ↔ F.S k ∧ (M k ∨ B.heap.size ≤ k) := by unfold Ent.fr; exact Iff.rfl
theorem Ent.fr_ok : (Ent.fr F).ok w ↔ ∀ g, F.S g ∧ (M g ∨ B.heap.size ≤ g) → w.heap[g]? = F.w.heap[g]? := by unfold Ent.fr; exact Iff.rfl
theorem Hp.fr {i : Nat} (hw : Hp B M hs w) (hi : hs[i]? = some (.fr F)) : F.toFrz.At w := fun g hg => by
  by_cases h : M g ∨ B.heap.size ≤ g
  · exact Ent.fr_ok.1 (hw.get hi) g ⟨hg, h⟩
  · have h1 : g < B.heap.size := by
      rcases Nat.lt_or_ge g B.heap.size with h2 | h2
      · exact h2
      · exact absurd (.inr h2) h
    have h2 : ¬ M g := fun k => h (.inl k); rw [hw.base g h1 h2, F.base g hg h1 h2]
def Frz.inB {F : Frz} {w : World} (hF : F.At w) (M : Nat → Prop) : FzB w M F.S := ⟨F, fun g hg _ _ => (hF g hg).symm, fun g hg => .inl hg⟩
theorem Hp.startF {F : Frz} {w : World} (hF : F.At w) : Hp w (fun _ => False) [.fr (Frz.inB hF (fun _ => False))] w := by
  have hno : ∀ g, ¬ (Ent.fr (Frz.inB hF (fun _ => False))).fp g := fun g hg => by
    have h := Ent.fr_fp.1 hg; rcases h.2 with h2 | h2
    · exact h2
    · exact absurd (hF.cb h.1).lt (by omega)
  exact ⟨rfl, rfl, rfl, Nat.le_refl _, fun _ _ _ => rfl, fun e he => by simp at he; subst he; exact Ent.fr_ok.2 (fun g hg => absurd (Ent.fr_fp.2 hg) (hno g)), fun e he g hg => by simp at he; subst he; exact absurd hg (hno g), List.pairwise_singleton _ _⟩
theorem Hp.startFM {F : Frz} {w : World} {es : HS} (hF : F.At w) (h : Hp w (fps es) es w) (hM : ∀ g, fps es g → ¬ F.S g) : Hp w (fps es) (es ++ [.fr (Frz.inB hF (fps es))]) w := by
  have hno : ∀ g, ¬ (Ent.fr (Frz.inB hF (fps es))).fp g := fun g hg => by
    have h := Ent.fr_fp.1 hg; rcases h.2 with h2 | h2
    · exact hM g h2 h.1
    · exact absurd (hF.cb h.1).lt (by omega)
  refine ⟨rfl, rfl, rfl, Nat.le_refl _, fun _ _ _ => rfl, fun e he => ?_, fun e he g hg => ?_, ?_⟩
  · rcases List.mem_append.1 he with he | he
    · exact h.own e he
    · simp at he; subst he; exact Ent.fr_ok.2 (fun g hg => absurd (Ent.fr_fp.2 hg) (hno g))
  · rcases List.mem_append.1 he with he | he
    · exact h.new e he g hg
    · simp at he; subst he; exact absurd hg (hno g)
  · exact List.pairwise_append.2 ⟨h.apart, List.pairwise_singleton _ _, fun e he f hf g hg hfg => by simp at hf; subst hf; exact hno g hfg⟩
end
theorem zby {F : Frz} {w : World} (hF : F.At w) : ∃ (S0 : Nat → Prop) (G : FzB w (fun _ => False) S0), G.toFrz = F ∧ (∀ g, S0 g → F.S g) ∧ Hp w (fun _ => False) [.fr G] w := ⟨F.S, Frz.inB hF _, rfl, fun _ h => h, Hp.startF hF⟩
theorem Fx.of {F : Frz} {w w' : World} {S0 : Nat → Prop} {hs : HS} {i : Nat} {G : FzB w (fun _ => False) S0} (hw : Hp w (fun _ => False) hs w') (hi : hs[i]? = some (.fr G)) (hS : ∀ g, S0 g → F.S g) (hle : F.Le G.toFrz) : Fx F w G.toFrz w' :=
  ⟨hle, hw.fr hi, fun g hg => (G.new g hg).imp (hS g) (fun h => h.elim (fun h => h.elim) id), hw.isBelow⟩
def SlC (F : Frz) (v : Value) (size : Nat) (cs : List (List Value)) : Prop :=
  ∃ (A : Option Addr) (cap : Nat), v = .slice A cs.length cap ∧ cs.length ≤ cap ∧ cap ≤ 9223372036854775807 ∧ (∀ c ∈ cs, c.length = size) ∧ (0 < cs.length → ∃ g off, A = some ⟨g, off, none⟩ ∧ F.S g ∧ ∀ i, i < cs.length → Cs F.w g (off + i * size) (nth cs i))
theorem zcK {w w' : World} {g p : Nat} (h : w'.heap[g]? = w.heap[g]?) : w'.cell? ⟨g, p, none⟩ = w.cell? ⟨g, p, none⟩ := by
  unfold World.cell?; simp only [h]
theorem Cs.at {F : Frz} {w : World} (h : F.At w) {g p : Nat} {l : List Value} (hg : F.S g) (hc : Cs F.w g p l) : Cs w g p l := fun j hj => by
  rw [zcK (h g hg)]; exact hc j hj
theorem SlC.mono {F G : Frz} {v : Value} {size : Nat} {cs : List (List Value)} (h : SlC F v size cs) (hle : F.Le G) : SlC G v size cs := by
  obtain ⟨A, cap, h1, h2, h3, h4, h5⟩ := h; refine ⟨A, cap, h1, h2, h3, h4, fun hl => ?_⟩; obtain ⟨g, off, h6, h7, h8⟩ := h5 hl; exact ⟨g, off, h6, (hle g h7).1, fun i hi j hj => by rw [zcK (hle g h7).2]; exact h8 i hi j hj⟩
theorem SlC.max {F : Frz} {v : Value} {size : Nat} {cs : List (List Value)} (h : SlC F v size cs) : cs.length ≤ 9223372036854775807 := by
  obtain ⟨A, cap, h1, h2, h3, _⟩ := h; omega
theorem SlC.nil (F : Frz) (size : Nat) : SlC F (.slice none 0 0) size [] := ⟨none, 0, rfl, Nat.le_refl _, by omega, (fun _ h => by cases h), (fun h => absurd h (Nat.lt_irrefl 0))⟩
def zbp (v : Value) (k : Nat) : Value := match v with
  | .slice (some a) _ _ => .pointer (some (a.add k))
  | _ => .pointer none
theorem zaq {g off n cap k : Nat} : zbp (.slice (some ⟨g, off, none⟩) n cap) k = .pointer (some ⟨g, off + k, none⟩) := by
  show Value.pointer (some (Addr.add ⟨g, off, none⟩ k)) = _
  rw [zaV]
theorem SlC.addr {F : Frz} {v : Value} {size : Nat} {cs : List (List Value)} (h : SlC F v size cs) (hl : 0 < cs.length) : ∃ g off cap, v = .slice (some ⟨g, off, none⟩) cs.length cap ∧ F.S g ∧ ∀ i, i < cs.length → Cs F.w g (off + i * size) (nth cs i) := by
  obtain ⟨A, cap, h1, h2, h3, h4, h5⟩ := h; obtain ⟨g, off, rfl, h7, h8⟩ := h5 hl; exact ⟨g, off, cap, h1, h7, h8⟩
theorem SlC.row {F : Frz} {v : Value} {size : Nat} {cs : List (List Value)} (h : SlC F v size cs) {i : Nat} (hi : i < cs.length) : (nth cs i).length = size := by
  obtain ⟨A, cap, h1, h2, h3, h4, h5⟩ := h; rw [zab hi]; exact h4 _ (List.getElem_mem hi)
section
variable {Fe : Fence} [hFe : Calm Fe] {P : Program} {n : Nat} {B D : World} {M S0 : Nat → Prop} {Q : Exit → Act → World → Prop} {fs : SFs} {hs : HS} {ops : Array Oper} {rest : List Oper} {o : Oper} {v val : Value}
theorem Yv.aL {F : Frz} {t e k size m : Nat} {cs : List (List Value)} {x : Operand} [hT : TySl P t e k] (ho : o.op = .call { callee := .builtin .len, args := #[x], argTypes := #[t] }) (hx : ev fs x = some v) (h : SlC F v size cs) (hm : cs.length = m) : Yv P n B M fs hs o (.int .i64 (m : Int)) := by
  obtain ⟨A, cap, h1, _⟩ := h; subst h1 hm; exact Yv.ap ho hx
theorem Yv.aM {F : Frz} {t e k i m : Nat} {z : Int} {q : IntKind} {cs : List (List Value)} {x y : Operand} [hT : TySl P t e k] (ho : o.op = .indexAddr t x y) (hx : ev fs x = some v) (hy : ev fs y = some (.int q z)) (h : SlC F v k cs) (hm : cs.length = m) (hz : z = (i : Int)) (hi : i < m) : Yv P n B M fs hs o (zbp v (i * k)) := by
  subst hm; obtain ⟨g, off, cap, rfl, _⟩ := h.addr (by omega); rw [zaq]; exact Yv.ai ho hx hy hz hi
theorem Yv.bo {F : Frz} {s f off p k m : Nat} {cs : List (List Value)} {x : Operand} [hT : TyF P s f off] (ho : o.op = .fieldAddr s x f) (hx : ev fs x = some (zbp v p)) (h : SlC F v k cs) (hm : cs.length = m) (hi : 0 < m) : Yv P n B M fs hs o (zbp v (p + off)) := by
  subst hm; obtain ⟨g, o', cap, rfl, _⟩ := h.addr (by omega); rw [zaq] at hx ⊢; exact (Yv.fieldAddr ho hx).eq (by rw [Nat.add_assoc])
theorem Yv.bL (ix : Nat) {F : FzB B M S0} {t : TypeId} [hT : TyS P t] {k i j p m : Nat} {cs : List (List Value)} {x : Operand} (ho : o.op = .load t x) (hx : ev fs x = some (zbp v p)) (hF : hs[ix]? = some (.fr F)) (h : SlC F.toFrz v k cs) (hm : cs.length = m) (hi : i < m) (hp : p = i * k + j) (hv : (nth cs i)[j]? = some val) : Yv P n B M fs hs o val := by
  subst hm hp; obtain ⟨g, off, cap, rfl, hg, hc⟩ := h.addr (by omega); rw [zaq] at hx; intro a w ha hw; refine zbw ho (ha.ev hx) ?_; have := Cs.at (hw.fr hF) hg (hc i hi) j (List.getElem?_eq_some_iff.1 hv).1; rw [show off + (i * k + j) = off + i * k + j by omega, this, hv]
theorem Yv.bC (ix : Nat) {F : FzB B M S0} {t : TypeId} {q : Nat} [hT : TyA P t q] {k i j p m : Nat} {cs : List (List Value)} {l : List Value} {x : Operand} (ho : o.op = .load t x) (hx : ev fs x = some (zbp v p)) (hF : hs[ix]? = some (.fr F)) (h : SlC F.toFrz v k cs) (hm : cs.length = m) (hi : i < m) (hp : p = i * k + j) (hv : ((nth cs i).drop j).take q = l) (hl : l.length = q) : Yv P n B M fs hs o (.agg l.toArray) := by
  subst hm hp; obtain ⟨g, off, cap, rfl, hg, hc⟩ := h.addr (by omega); rw [zaq] at hx; intro a w ha hw; refine za4 ho (ha.ev hx) (fun b hb => ?_) hl
  have hlen : j + b < (nth cs i).length := by
    have := congrArg List.length hv; simp at this; omega
  have := Cs.at (hw.fr hF) hg (hc i hi) (j + b) hlen; rw [show off + (i * k + j) + b = off + i * k + (j + b) by omega, this, ← hv, List.getElem?_take_of_lt (by omega), List.getElem?_drop]
def SlK (F : Frz) (v : Value) (size n : Nat) (l : List Value) : Prop :=
  l.length = n * size ∧ ∃ (A : Option Addr) (cap : Nat), v = .slice A n cap ∧ n ≤ cap ∧ cap ≤ 9223372036854775807 ∧ (0 < n → ∃ g, A = some ⟨g, 0, none⟩ ∧ F.S g ∧ Cs F.w g 0 l)
def FzB.addB {w : World} (F : FzB B M S0) (hF : F.toFrz.At w) {g : Nat} (hg : Cb w g) (hb : M g ∨ B.heap.size ≤ g) : FzB B M S0 where
  S k := F.S k ∨ k = g
  w := w
  c k hk := by rcases hk with h | rfl; exact hF.cb h; exact hg
  base k hk h1 h2 := by
    rcases hk with h | rfl
    · rw [hF k h, F.base k h h1 h2]
    · rcases hb with h | h
      · exact absurd h h2
      · omega
  new k hk := by
    rcases hk with h | rfl
    · exact F.new k h
    · exact .inr hb
theorem FzB.addB_le {w : World} (F : FzB B M S0) (hF : F.toFrz.At w) {g : Nat} (hg : Cb w g) (hb : M g ∨ B.heap.size ≤ g) : F.toFrz.Le (F.addB hF hg hb).toFrz := fun k hk => ⟨.inl hk, hF k hk⟩
theorem zcu {i j : Nat} {a b a' : Ent} (hij : i ≠ j) (hi : hs[i]? = some a) (hj : hs[j]? = some b) : ∃ r : HS, hs.Perm ([a, b] ++ r) ∧ ((hs.set i a').eraseIdx j).Perm ([a'] ++ r) := by
  have h1 := zbT hi; (have hj' : (hs.set i a')[j]? = some b := by rw [List.getElem?_set_ne hij]; exact hj); have h2 := zbT hj'; have h3 := zdp (e' := a') hi
  -- b lies in the rest
  have hb : b ∈ hs.eraseIdx i := by
    rw [List.mem_eraseIdx_iff_getElem?]; exact ⟨j, fun e => hij e.symm, hj⟩
  obtain ⟨r1, r2, hr⟩ := List.append_of_mem hb; refine ⟨r1 ++ r2, ?_, ?_⟩
  · refine h1.trans ?_; rw [hr]; exact (List.perm_middle.cons a)
  · have h4 : (b :: (hs.set i a').eraseIdx j).Perm (b :: ([a'] ++ (r1 ++ r2))) := by
      refine h2.symm.trans (h3.symm.trans ?_); rw [hr]; exact (List.perm_middle.cons a').trans (List.Perm.swap _ _ _)
    exact (List.perm_cons b).1 h4
theorem Hp.freezeB {w : World} {i j : Nat} {F : FzB B M S0} {e : Ent} (hw : Hp B M hs w) (hij : i ≠ j) (hi : hs[i]? = some (.fr F)) (hj : hs[j]? = some e) {g : Nat} (hfp : e.fp g) (hg : Cb w g) :
    ∃ G : FzB B M S0, F.toFrz.Le G.toFrz ∧ G.S g ∧ G.w = w ∧ Hp B M ((hs.set i (.fr G)).eraseIdx j) w := by
  have hF := hw.fr hi; have hb := hw.new e (List.mem_of_getElem? hj) g hfp; refine ⟨F.addB hF hg hb, F.addB_le hF hg hb, .inr rfl, rfl, ?_⟩; obtain ⟨r, h1, h2⟩ := zcu (a' := .fr (F.addB hF hg hb)) hij hi hj; refine Hp.perm ?_ h2.symm; refine Hp.repl (hw.perm h1) ?_ ?_ (List.pairwise_singleton _ _)
  · intro x hx; simp at hx; subst hx; exact Ent.fr_ok.2 (fun k hk => rfl)
  · intro x hx k hk; simp at hx; subst hx; have h := Ent.fr_fp.1 hk; rcases h.1 with h3 | h3
    · exact ⟨_, by simp, Ent.fr_fp.2 ⟨h3, h.2⟩⟩
    · subst h3; exact ⟨e, by simp, hfp⟩
theorem Hp.drop {w : World} (hw : Hp B M hs w) (j : Nat) : Hp B M (hs.eraseIdx j) w := hw.sub (List.eraseIdx_sublist _ _)
theorem zdI {α : Type} {l : List α} {i : Nat} {a : α} (h : l[i]? = some a) : l.set i a = l := by
  obtain ⟨hi, rfl⟩ := List.getElem?_eq_some_iff.1 h; exact List.set_getElem_self hi
theorem Hp.freezeS {w : World} {i j : Nat} {F : FzB B M S0} {e : TypeId} {size k : Nat} {l : List Value} (hw : Hp B M hs w) (hij : i ≠ j) (hi : hs[i]? = some (.fr F)) (hj : hs[j]? = some (.sl v e size k l)) :
    ∃ G : FzB B M S0, (F.toFrz.Le G.toFrz ∧ SlK G.toFrz v size k l) ∧ Hp B M ((hs.set i (.fr G)).eraseIdx j) w := by
  have ho := Ent.sl_ok.1 (hw.get hj); rcases ho.2 with ⟨rfl, h0⟩ | ⟨g, cap, cur, rfl, hb, hg, hnc, hcm, hcs, htake⟩
  · subst h0; exact ⟨F, ⟨.refl _, ho.1, none, 0, rfl, Nat.le_refl _, by omega, fun h => by omega⟩, by rw [zdI hi]; exact hw.drop j⟩
  · obtain ⟨G, h1, h2, h3, h4⟩ := hw.freezeB hij hi hj (g := g) (Ent.sl_fp.2 rfl) ⟨_, _, _, hg⟩; refine ⟨G, ⟨h1, ho.1, _, cap, rfl, hnc, by unfold maxLen at hcm; omega, fun _ => ⟨g, rfl, h2, fun q hq => ?_⟩⟩, h4⟩; rw [h3, Nat.zero_add, World.ownsRow.cellAt ho q (by rw [← ho.1]; exact hq)]
theorem SlK.lit {F : Frz} {g k c size : Nat} {l : List Value} (h : F.S g ∧ Cs F.w g 0 l) (hl : l.length = k * size) (hc : k ≤ c) (hm : c ≤ 9223372036854775807) : SlK F (.slice (some ⟨g, 0, none⟩) k c) size k l := ⟨hl, _, c, rfl, hc, hm, fun _ => ⟨g, rfl, h.1, h.2⟩⟩
theorem zbU {α β : Type} [Inhabited α] [Inhabited β] {f : α → β} {xs : List α} {i : Nat} (h : i < xs.length) : nth (xs.map f) i = f (nth xs i) := by
  rw [zab (by simpa using h), zab h, List.getElem_map]
theorem zch {size : Nat} : ∀ (cs : List (List Value)), (∀ c ∈ cs, c.length = size) → ∀ i, i < cs.length → ∀ j, j < size → (cs.flatten)[i * size + j]? = (nth cs i)[j]?
  | c :: r, h, 0, _, j, hj => by
    have := h c (by simp); simp only [List.flatten_cons, Nat.zero_mul, Nat.zero_add]; rw [List.getElem?_append_left (by omega)]; rfl
  | c :: r, h, i + 1, hi, j, hj => by
    have hc := h c (by simp); simp only [List.flatten_cons]; rw [List.getElem?_append_right (by rw [hc, Nat.add_mul]; omega), hc]; (have e : (i + 1) * size + j - size = i * size + j := by rw [Nat.add_mul]; omega); rw [e, zch r (fun c' h' => h c' (by simp [h'])) i (by simpa using hi) j hj]; simp [nth]
def OwnD {α : Type} [Inhabited α] (rep : Frz → List Value → α → Prop) (F : Frz) (size : Nat) (cs : List (List Value)) (xs : List α) : Prop := cs.length = xs.length ∧ (∀ c ∈ cs, c.length = size) ∧ ∀ i, i < xs.length → rep F (nth cs i) (nth xs i)
def SlD {α : Type} [Inhabited α] (rep : Frz → List Value → α → Prop) (F : Frz) (v : Value) (size : Nat) (cs : List (List Value)) (xs : List α) : Prop := SlC F v size cs ∧ cs.length = xs.length ∧ ∀ i, i < xs.length → rep F (nth cs i) (nth xs i)
theorem SlD.mono {α : Type} [Inhabited α] {rep : Frz → List Value → α → Prop} (hm : ∀ F G c x, F.Le G → rep F c x → rep G c x) {F G : Frz} {size : Nat} {cs : List (List Value)} {xs : List α} (h : SlD rep F v size cs xs) (hle : F.Le G) : SlD rep G v size cs xs := ⟨h.1.mono hle, h.2.1, fun i hi => hm _ _ _ _ hle (h.2.2 i hi)⟩
theorem OwnD.mono {α : Type} [Inhabited α] {rep : Frz → List Value → α → Prop} (hm : ∀ F G c x, F.Le G → rep F c x → rep G c x) {F G : Frz} {size : Nat} {cs : List (List Value)} {xs : List α} (h : OwnD rep F size cs xs) (hle : F.Le G) : OwnD rep G size cs xs := ⟨h.1, h.2.1, fun i hi => hm _ _ _ _ hle (h.2.2 i hi)⟩
theorem OwnD.nil {α : Type} [Inhabited α] (rep : Frz → List Value → α → Prop) (F : Frz) (size : Nat) : OwnD rep F size [] [] := ⟨rfl, (fun _ h => by cases h), fun i hi => absurd hi (Nat.not_lt_zero i)⟩
theorem SlK.toC {F : Frz} {size k : Nat} {l : List Value} {cs : List (List Value)} (h : SlK F v size k l) (hl : l = cs.flatten) (hk : k = cs.length) (hs : ∀ c ∈ cs, c.length = size) : SlC F v size cs := by
  obtain ⟨h1, A, cap, h2, h3, h4, h5⟩ := h; subst hk hl; refine ⟨A, cap, h2, h3, h4, hs, fun hp => ?_⟩; obtain ⟨g, hA, hg, hc⟩ := h5 hp; refine ⟨g, 0, hA, hg, fun i hi j hj => ?_⟩; (have hrow : (nth cs i).length = size := by rw [zab hi]; exact hs _ (List.getElem_mem hi))
  have hlt : i * size + j < cs.flatten.length := by
    rw [h1]; have : (i + 1) * size ≤ cs.length * size := Nat.mul_le_mul_right _ hi; rw [Nat.add_mul] at this; omega
  have := hc (i * size + j) hlt; rw [Nat.zero_add] at this ⊢; rw [this, zch cs hs i hi j (by omega)]
theorem SlK.toF {α : Type} {F : Frz} {size k : Nat} {enc : α → List Value} {xs : List α} (h : SlK F v size k (xs.flatMap enc)) (hk : k = xs.length) (he : ∀ x, (enc x).length = size) : SlC F v size (xs.map enc) :=
  h.toC (List.flatMap_def ..) (by simpa using hk) (fun c hc => by obtain ⟨x, _, rfl⟩ := List.mem_map.1 hc; exact he x)
theorem T.conv {c : Code} {hs' : HS} (h1 : ∀ w, Hp B M hs w → Hp B M hs' w) (h : T Fe P n B D M c Q fs hs') : T Fe P n B D M c Q fs hs := ⟨fun a w ha hw hm => h.out a w ha (h1 w hw) hm⟩
theorem T.be {ι : Type} {φ : ι → Prop} {c : Code} {hs' : ι → HS} (h1 : ∀ w, Hp B M hs w → ∃ x, φ x ∧ Hp B M (hs' x) w) (h : ∀ x, φ x → T Fe P n B D M c Q fs (hs' x)) : T Fe P n B D M c Q fs hs := ⟨fun a w ha hw hm => by
  obtain ⟨x, hx, hw'⟩ := h1 w hw; exact (h x hx).out a w ha hw' hm⟩
theorem TL.be {ι : Type} {φ : ι → Prop} {l : List Oper} {hs' : ι → HS} (h1 : ∀ w, Hp B M hs w → ∃ x, φ x ∧ Hp B M (hs' x) w) (h : ∀ x, φ x → TL Fe P n B D M ops Q l fs (hs' x)) : TL Fe P n B D M ops Q l fs hs := ⟨fun a w ha hw hm => by
  obtain ⟨x, hx, hw'⟩ := h1 w hw; exact (h x hx).out a w ha hw' hm⟩
theorem K.be {ι : Type} {φ : ι → Prop} {e : Exit} {hs' : ι → HS} (h1 : ∀ w, Hp B M hs w → ∃ x, φ x ∧ Hp B M (hs' x) w) (h : ∀ x, φ x → K n B D M Q e fs (hs' x)) : K n B D M Q e fs hs := ⟨fun a w ha hw hm => by
  obtain ⟨x, hx, hw'⟩ := h1 w hw; exact (h x hx).out a w ha hw' hm⟩
theorem TS.be {ι : Type} {φ : ι → Prop} {hs0 : HS} {r : Ord} {hs' : ι → HS} (h1 : ∀ w, Hp B M hs w → ∃ x, φ x ∧ Hp B M (hs' x) w) (h : ∀ x, φ x → TS Fe P n B D M ops Q hs0 r fs (hs' x)) : TS Fe P n B D M ops Q hs0 r fs hs := ⟨fun a w fuel listed h2 h3 h4 ha hw h5 hm => by
  obtain ⟨x, hx, hw'⟩ := h1 w hw; exact (h x hx).out a w fuel listed h2 h3 h4 ha hw' h5 hm⟩
theorem TSo.bS {hs0 : HS} {i : Nat} {k : Ord} {d : Nat} {Φ : Value → HS → Prop} (hi : ops[i]? = some o) (hwt : Wt n ops fs o true) (hd : o.dst = some d) (hb : Nat.blt d n = true) (h : Ew P n B M fs hs o Φ) (h2 : ∀ v hs', Φ v hs' → (∀ w, Hp B M hs' w → Hp B M hs0 w) ∧ TS Fe P n B D M ops Q hs0 k ((d, v) :: fs) hs') : TSo Fe P n B D M ops Q hs0 i k fs hs :=
  ⟨fun a w fuel listed hns hnd hok ha hw hw0 hm => by
    unfold wpOpIn; simp only [hi, hwt a ha, if_true]; refine h Fe hFe Q _ a w ha hw fun v w' hs' hk hp' hΦ => ?_; rw [hd]
    exact ⟨_, fun _ => rfl, (h2 v hs' hΦ).1 _ hp', (h2 v hs' hΦ).2.out _ w' fuel _ hns hnd hok (ha.put hb v) hp' ((h2 v hs' hΦ).1 _ hp') ((hm.next hk).put _ _)⟩⟩
theorem Fx.up {F : FzB B M S0} {w w' : World} {G : Frz} (h : Fx F.toFrz w G w') (hw : Hp B M hs w) : ∃ G' : FzB B M S0, G'.toFrz = G := by
  refine ⟨⟨G, fun g hg hb hM => ?_, fun g hg => ?_⟩, rfl⟩
  · rcases h.new g hg with h1 | h1
    · rw [(h.le g h1).2, F.base g h1 hb hM]
    · have := hw.size; omega
  · rcases h.new g hg with h1 | h1
    · exact F.new g h1
    · have := hw.size; exact .inr (.inr (by omega))
theorem Ew.bM (i : Nat) {ι : Type} {F : FzB B M S0} {φ : ι → Frz → Prop} {val : ι → Value} {hs' : FzB B M S0 → HS} {c : Operand} {xs : Array Operand} {ts : Array TypeId} {f : FuncId} {fst caps : Array Value} {vs : List Value} [hE : Enters P f] (ho : o.op = .call { callee := .value c, args := xs, argTypes := ts }) (hc : ev fs c = some (.func (.func f) fst caps)) (hv : evs fs xs.toList = some vs) (hi : hs[i]? = some (.fr F))
    (C : ∀ w, Hp B M hs w → F.toFrz.At w → Calls P f (fst.toList ++ vs ++ caps.toList).toArray w (fun e w' => ∃ y G, φ y G ∧ e = .returned (val y) ∧ Fx F.toFrz w G w')) [hH : ∀ G, SetAt hs i (.fr G) (hs' G)] : Ew P n B M fs hs o (fun v hs'' => ∃ y, ∃ G : FzB B M S0, F.toFrz.Le G.toFrz ∧ φ y G.toFrz ∧ v = val y ∧ hs'' = hs' G) :=
  Ew.call ho hc hv fun w hp => (C w hp (hp.fr hi)).mono fun e w' ⟨y, G, hy, he, hx⟩ => by
    obtain ⟨G', rfl⟩ := hx.up hp; refine ⟨val y, hs' G', he, Kp.below hx.bel, ?_, y, G', hx.le, hy, rfl, rfl⟩; rw [← (hH G').h]; refine hp.updAt hi (S := fun _ => False) (.of_below_new hx.bel _) (fun _ _ h => h.elim) (Ent.fr_ok.2 (fun g hg => hx.at_ g hg.1)) (fun g hg => ?_); have h := Ent.fr_fp.1 hg; rcases hx.new g h.1 with h1 | h1
    · exact .inl (Ent.fr_fp.2 ⟨h1, h.2⟩)
    · exact .inr h1
end
def zaM {σ ρ : Type} (f : Nat → (σ → ρ) → σ → ρ) (k : σ → ρ) : Nat → Nat → σ → ρ
  | 0, _, s => k s
  | m + 1, i, s => f i (zaM f k m (i + 1)) s
def zaH {σ ρ : Type} (f : (σ → Option ρ) → σ → Option ρ) : Nat → σ → Option ρ
  | 0, _ => none
  | m + 1, s => f (zaH f m) s
def zbh {σ ρ : Type} (k : σ → ρ) (e : (σ → ρ) → ρ) : ρ := e k
def grd {ρ : Type} (c : Prop) [Decidable c] (x : Option ρ) : Option ρ := if c then x else none
section
variable {σ ρ : Type}
theorem zbV {f : Nat → (σ → ρ) → σ → ρ} {k : σ → ρ} {n i : Nat} {s : σ} (h : i < n) : zaM f k (n - i) i s = f i (zaM f k (n - (i + 1)) (i + 1)) s := by
  rw [show n - i = (n - (i + 1)) + 1 by omega]; rfl
theorem zbW {f : Nat → (σ → ρ) → σ → ρ} {k : σ → ρ} {n i : Nat} {s : σ} (h : n ≤ i) : zaM f k (n - i) i s = k s := by
  rw [show n - i = 0 by omega]; rfl
theorem za7 {f : Nat → (σ → ρ) → σ → ρ} {k : σ → ρ} {m i : Nat} {s : σ} {R : ρ} (h : zaM f k m i s = R) : ∃ f' k', f = f' ∧ k = k' ∧ zaM f' k' m i s = R := ⟨f, k, rfl, rfl, h⟩
theorem zbo {f : (σ → Option ρ) → σ → Option ρ} {m : Nat} {s : σ} {R : Option ρ} (h : zaH f m s = R) : ∃ f', f = f' ∧ zaH f' m s = R := ⟨f, rfl, h⟩
theorem zah {k : σ → ρ} {e : (σ → ρ) → ρ} {R : ρ} (h : zbh k e = R) : ∃ k', k = k' ∧ e k' = R := ⟨k, rfl, h⟩
theorem zbE {f : (σ → Option ρ) → σ → Option ρ} {m : Nat} {s : σ} {r : ρ} (h : zaH f m s = some r) : ∃ m', m = m' + 1 ∧ f (zaH f m') s = some r := by
  cases m with
  | zero => cases h
  | succ m => exact ⟨m, rfl, h⟩
theorem zap {c : Prop} [Decidable c] {x : Option ρ} {r : ρ} (h : grd c x = some r) : c ∧ x = some r := by
  unfold grd at h; split at h
  · exact ⟨by assumption, h⟩
  · cases h
theorem zaB {c : Prop} [Decidable c] {x : Option ρ} (h : c) : grd c x = x := by unfold grd; rw [if_pos h]
theorem za2 {α : Type} {x : Option α} {f : α → Option ρ} {r : ρ} (h : x.bind f = some r) : ∃ a, x = some a ∧ f a = some r := by
  cases x with
  | none => cases h
  | some a => exact ⟨a, rfl, h⟩
theorem zbr {f : Nat → (σ → ρ) → σ → ρ} {k : σ → ρ} {n : Nat} {s : σ} (I : Nat → σ → Prop) (post : ρ → Prop) (h0 : I 0 s) (hk : ∀ s, I n s → post (k s)) (hf : ∀ i s next, i < n → I i s → (∀ s', I (i + 1) s' → post (next s')) → post (f i next s)) : post (zaM f k n 0 s) := by
  have key : ∀ m i s, i + m = n → I i s → post (zaM f k m i s) := by
    intro m
    induction m with
    | zero => intro i s e hI; rw [show i = n by omega] at hI; exact hk s hI
    | succ m ih => intro i s e hI; exact hf i s _ (by omega) hI (fun s' hs' => ih (i + 1) s' (by omega) hs')
  exact key n 0 s (by omega) h0
theorem zbK {f : (σ → Option ρ) → σ → Option ρ} {m : Nat} {s : σ} (I : σ → Prop) (μ : σ → Nat) (post : Option ρ → Prop) (h0 : I s) (hm : μ s < m) (hf : ∀ s next, I s → (∀ s', I s' → μ s' < μ s → post (next s')) → post (f next s)) : post (zaH f m s) := by
  induction m generalizing s with
  | zero => omega
  | succ m ih => exact hf s _ h0 (fun s' hs' hl => ih hs' (by omega))
end
section
variable {Fe : Fence} [hFe : Calm Fe] {P : Program} {n : Nat} {B D : World} {M : Nat → Prop} {Q : Exit → Act → World → Prop} {fs : SFs} {hs : HS} {ops : Array Oper} {rest : List Oper} {o : Oper} {v val sv : Value}
theorem Hp.slAddr {w : World} {j k size : Nat} {e : TypeId} {l : List Value} (hw : Hp B M hs w) (hj : hs[j]? = some (.sl v e size k l)) (hk : 0 < k) : ∃ g cap, v = .slice (some ⟨g, 0, none⟩) k cap := by
  rcases (Ent.sl_ok.1 (hw.get hj)).2 with ⟨_, h0⟩ | ⟨g, cap, _, e, _⟩
  · omega
  · exact ⟨g, cap, e⟩
theorem Yv.aV (j : Nat) {t e k i m : Nat} {z : Int} {q : IntKind} {l : List Value} {x y : Operand} {e' : TypeId} [hT : TySl P t e k] (ho : o.op = .indexAddr t x y) (hx : ev fs x = some sv) (hy : ev fs y = some (.int q z)) (hj : hs[j]? = some (.sl sv e' k m l)) (hz : z = (i : Int)) (hi : i < m) : Yv P n B M fs hs o (zbp sv (i * k)) := fun a w ha hw => by
  obtain ⟨g, cap, rfl⟩ := hw.slAddr hj (by omega); rw [zaq]; exact Yv.ai (B := B) (M := M) (hs := hs) ho hx hy hz hi a w ha hw
theorem Yv.bf (j : Nat) {s f off p k m : Nat} {l : List Value} {x : Operand} {e' : TypeId} [hT : TyF P s f off] (ho : o.op = .fieldAddr s x f) (hx : ev fs x = some (zbp sv p)) (hj : hs[j]? = some (.sl sv e' k m l)) (hi : 0 < m) : Yv P n B M fs hs o (zbp sv (p + off)) := fun a w ha hw => by
  obtain ⟨g, cap, rfl⟩ := hw.slAddr hj hi; rw [zaq] at hx ⊢; exact (Yv.fieldAddr (B := B) (M := M) (hs := hs) ho hx).eq (by rw [Nat.add_assoc]) a w ha hw
theorem Yv.bb (j : Nat) {t e : TypeId} [hT : TyS P t] {p size k : Nat} {l : List Value} {x : Operand} (ho : o.op = .load t x) (hx : ev fs x = some (zbp sv p)) (hj : hs[j]? = some (.sl sv e size k l)) (hk : 0 < k) (hv : l[p]? = some val) : Yv P n B M fs hs o val := fun a w ha hw => by
  obtain ⟨g, cap, rfl⟩ := hw.slAddr hj hk; rw [zaq, Nat.zero_add] at hx; exact Yv.bs (B := B) (M := M) (hs := hs) j ho hx hj hv a w ha hw
theorem Yv.bw (j : Nat) {t e : TypeId} {q : Nat} [hT : TyA P t q] {p size k : Nat} {l m : List Value} {x : Operand} (ho : o.op = .load t x) (hx : ev fs x = some (zbp sv p)) (hj : hs[j]? = some (.sl sv e size k l)) (hk : 0 < k) (hm : (l.drop p).take m.length = m) (hl : m.length = q) : Yv P n B M fs hs o (.agg m.toArray) := fun a w ha hw => by
  obtain ⟨g, cap, rfl⟩ := hw.slAddr hj hk; rw [zaq, Nat.zero_add] at hx; exact Yv.by (B := B) (M := M) (hs := hs) j ho hx hj hm hl a w ha hw
theorem Ew.bx (j : Nat) {t e : TypeId} [hT : TyS P t] {x y : Operand} {p k size : Nat} {l l' : List Value} {hs' : HS} [hv : OneC val] (ho : o.op = .store t x y) (hx : ev fs x = some (zbp sv p)) (hy : ev fs y = some val)
    (hj : hs[j]? = some (.sl sv e size k l)) (hk : 0 < k) (hp : p < l.length) (hl : l.set p val = l') [hH : SetAt hs j (.sl sv e size k l') hs'] : Ew P n B M fs hs o (fun v hs'' => v = undef ∧ hs'' = hs') := fun F hF Q K a w ha hw => by
  obtain ⟨g, cap, rfl⟩ := hw.slAddr hj hk; rw [zaq, Nat.zero_add] at hx; subst hl; exact Ew.bn (B := B) (M := M) (hs := hs) j ho hx hy hj hp F hF Q K a w ha hw
theorem zco {α : Type} [Inhabited α] {enc : α → List Value} {size : Nat} (he : ∀ x, (enc x).length = size) {xs : List α} {i j p : Nat} (hi : i < xs.length) (hj : j < size) (hp : p = i * size + j) : (xs.flatMap enc)[p]? = (enc (nth xs i))[j]? := by
  subst hp; rw [za9 enc size he xs i hi j hj, zab hi]
theorem zeA {α : Type} [Inhabited α] {enc : α → List Value} {size : Nat} (he : ∀ x, (enc x).length = size) {xs : List α} {i : Nat} (hi : i < xs.length) : ((xs.flatMap enc).drop (i * size)).take (enc (nth xs i)).length = enc (nth xs i) := by
  apply List.ext_getElem?; intro j; rcases Nat.lt_or_ge j size with h | h
  · rw [List.getElem?_take_of_lt (by rw [he]; exact h), List.getElem?_drop, za9 enc size he xs i hi j h, zab hi]
  · rw [List.getElem?_eq_none (by simp [he]; omega), List.getElem?_eq_none (by rw [he]; exact h)]
theorem Ew.bg (i : Nat) {s x : Operand} {t e : TypeId} {size bytes m c k k' g off : Nat} {z l news l' : List Value} {hs' : Value → HS} [hT : TyE P t e size bytes z] (h1 : ∀ v ∈ news, v.oneCell' = true) (ho : o.op = .call { callee := .builtin .append, args := #[s, x], argTypes := #[t, t] })
    (hs1 : ev fs s = some sv) (hx : ev fs x = some (.slice (some ⟨g, off, none⟩) m c)) (hi : hs[i]? = some (.sl sv e size k l)) (hj : ∀ w, Hp B M hs w → Cs w g off news) (hl : news.length = m * size) (hk : k + m = k') (hl' : l ++ news = l') (hb : k' * bytes ≤ 140737488355328) (hbs : 0 < bytes)
    [hH : ∀ v', SetAt hs i (.sl v' e size k' l') (hs' v')] : Ew P n B M fs hs o (fun v hs'' => OneC v ∧ hs'' = hs' v) := Ew.ay fun a w ha hp => by
  obtain ⟨inf, zv, hU, hinf, hz, hzc, rfl, rfl, hzs, hpos⟩ := hT.get; subst hk hl'; have hkm : k + m ≤ 140737488355328 := Nat.le_trans (Nat.le_mul_of_pos_right _ hbs) hb
  have hnews : ∀ q u, news[q]? = some u → w.cell? ((⟨g, off, none⟩ : Addr).add q) = some u := by
    intro q u hq; rw [zaV]; exact (hj w hp q (List.getElem?_eq_some_iff.1 hq).1).trans hq
  obtain ⟨v', w', hr, hown, hgr, _, hat⟩ := run_append_own_at (P := P) w 0 t o.type e inf zv inf.size inf.bytes hU hinf hz rfl rfl hzs hpos sv k l (Ent.sl_ok.1 (hp.get hi)) ⟨g, off, none⟩ m c news hl hnews h1 (by unfold maxLen; omega) hb (Nat.zero_le _); refine ⟨v', w', hs' v', ?_, ?_, ?_, ?_, rfl⟩
  · unfold execOp; simp [ho, resolve, invoke, builtin, ha.ev hs1, ha.ev hx, hr]
  · exact Kp.only (za6 hgr) (fun g hg c => (Ent.sl sv e inf.size k l).nd (hp.get hi) g (Ent.sl_fp.2 hg) c)
  · rw [← (hH v').h]; refine hp.updAt hi (za6 hgr) (fun q _ hq => Ent.sl_fp.2 hq) (Ent.sl_ok.2 hown) (fun q hq => ?_); have := Ent.sl_fp.1 hq; rcases hat with h | h
    · exact .inl (Ent.sl_fp.2 (by rw [← h]; exact this))
    · rw [h] at this; simp at this; exact .inr (by omega)
  · rcases hown.2 with ⟨rfl, _⟩ | ⟨_, _, _, rfl, _⟩ <;> exact ⟨rfl⟩
theorem Ew.aS (i j : Nat) {s x : Operand} {t e u : TypeId} {size bytes m c k k' g : Nat} {z l news l' : List Value} {hs' : Value → HS} [hT : TyE P t e size bytes z] [h1 : OneCs news] (ho : o.op = .call { callee := .builtin .append, args := #[s, x], argTypes := #[t, t] })
    (hs1 : ev fs s = some sv) (hx : ev fs x = some (.slice (some ⟨g, 0, none⟩) m c)) (hi : hs[i]? = some (.sl sv e size k l)) (hj : hs[j]? = some (.row g u news)) (hl : news.length = m * size) (hk : k + m = k') (hl' : l ++ news = l') (hb : k' * bytes ≤ 140737488355328) (hbs : 0 < bytes)
    [hH : ∀ v', SetAt hs i (.sl v' e size k' l') (hs' v')] : Ew P n B M fs hs o (fun v hs'' => OneC v ∧ hs'' = hs' v) :=
  Ew.bg i h1.h ho hs1 hx hi (fun w hw => Cs.of_row (Ent.row_ok.1 (hw.get hj)) (by simp)) hl hk hl' hb hbs
end
abbrev eI (x : Int) : List Value := [.int .i64 x]
abbrev eK (k : IntKind) (x : Int) : List Value := [.int k x]
abbrev wI (x : Int) : Int := IntKind.i64.wrap x
abbrev room (n bytes : Nat) : Prop := n * bytes ≤ 140737488355328
theorem zad {ρ : Type} {b : Bool} {x y R : ρ} (h : (bif b then x else y) = R) (hb : b = true) : x = R := by subst hb; exact h
theorem zac {ρ : Type} {b : Bool} {x y R : ρ} (h : (bif b then x else y) = R) (hb : b = false) : y = R := by subst hb; exact h
theorem SlC.oneC {F : Frz} {v : Value} {size : Nat} {cs : List (List Value)} (h : SlC F v size cs) : OneC v := by
  obtain ⟨A, cap, rfl, _⟩ := h; exact ⟨rfl⟩
theorem SlD.nil {α : Type} [Inhabited α] (rep : Frz → List Value → α → Prop) (F : Frz) (size : Nat) : SlD rep F (.slice none 0 0) size [] [] := ⟨SlC.nil F size, rfl, fun i hi => absurd hi (Nat.not_lt_zero i)⟩
theorem zcL {α : Type} {enc : α → List Value} {xs ys : List α} : xs.flatMap enc ++ ys.flatMap enc = (xs ++ ys).flatMap enc := (List.flatMap_append ..).symm
theorem zdb {α : Type} {enc : α → List Value} {xs ys : List α} : xs.flatMap enc ++ (ys.map enc).flatten = (xs ++ ys).flatMap enc := by
  rw [List.flatMap_append, ← List.flatMap_def]
theorem zdU {α β : Type} {f : α → β} {xs ys : List α} : xs.length + (ys.map f).length = (xs ++ ys).length := by simp
theorem zeq {α : Type} {enc : α → List Value} {xs : List α} (h : ∀ x, OneCs (enc x)) : ∀ c ∈ xs.map enc, ∀ v ∈ c, v.oneCell' = true := fun c hc => by
  obtain ⟨x, _, rfl⟩ := List.mem_map.1 hc; exact (h x).h
def zcs (hs : HS) : List Nat → Option HS
  | [] => some []
  | i :: r => match hs[i]? with
    | some e => match zcs hs r with
      | some l => some (e :: l)
      | none => none
    | none => none
section
variable {B w : World} {M : Nat → Prop} {hs hs' : HS}
theorem zbA : ∀ {idx : List Nat} {hs' : HS}, zcs hs idx = some hs' → ∀ e ∈ hs', ∃ i ∈ idx, hs[i]? = some e
  | [], hs', h, e, he => by simp only [zcs] at h; cases h; cases he
  | i :: r, hs', h, e, he => by
    simp only [zcs] at h
    split at h
    · rename_i x hx
      split at h
      · rename_i l hl
        cases h
        rcases List.mem_cons.1 he with rfl | he
        · exact ⟨i, by simp, hx⟩
        · obtain ⟨j, hj, hje⟩ := zbA hl e he; exact ⟨j, by simp [hj], hje⟩
      · cases h
    · cases h
theorem Hp.two (hw : Hp B M hs w) {i j : Nat} {e f : Ent} (hij : i ≠ j) (hi : hs[i]? = some e) (hj : hs[j]? = some f) (g : Nat) (he : e.fp g) : ¬ f.fp g := by
  obtain ⟨hi', rfl⟩ := List.getElem?_eq_some_iff.1 hi; obtain ⟨hj', rfl⟩ := List.getElem?_eq_some_iff.1 hj; have h := List.pairwise_iff_getElem.1 hw.apart; rcases Nat.lt_or_ge i j with h1 | h1
  · exact h i j hi' hj' h1 g he
  · exact fun hf => h j i hj' hi' (by omega) g hf he
theorem zb9 (hw : Hp B M hs w) : ∀ {idx : List Nat} {hs' : HS}, zcs hs idx = some hs' → idx.Nodup → hs'.Pairwise fun e f => ∀ g, e.fp g → ¬ f.fp g
  | [], hs', h, _ => by simp only [zcs] at h; cases h; exact .nil
  | i :: r, hs', h, hn => by
    simp only [zcs] at h
    split at h
    · rename_i x hx
      split at h
      · rename_i l hl
        cases h
        rw [List.nodup_cons] at hn; refine List.Pairwise.cons (fun f hf g hg => ?_) (zb9 hw hl hn.2); obtain ⟨j, hj, hje⟩ := zbA hl f hf; exact hw.two (i := i) (j := j) (fun e => hn.1 (by rw [e]; exact hj)) hx hje g hg
      · cases h
    · cases h
theorem Hp.pick {idx : List Nat} (hw : Hp B M hs w) (h : zcs hs idx = some hs') (hn : idx.Nodup) : Hp B M hs' w :=
  ⟨hw.os, hw.tape, hw.output, hw.size, hw.base, fun e he => by obtain ⟨i, _, hi⟩ := zbA h e he; exact hw.get hi, fun e he => by
    obtain ⟨i, _, hi⟩ := zbA h e he; exact hw.new e (List.mem_of_getElem? hi), zb9 hw h hn⟩
end
section
variable {Fe : Fence} [hFe : Calm Fe] {P : Program} {n : Nat} {B D : World} {M S0 : Nat → Prop} {Q : Exit → Act → World → Prop} {fs : SFs} {hs : HS} {ops : Array Oper} {rest : List Oper} {o : Oper} {v val sv : Value}
theorem T.pick (idx : List Nat) {c : Code} {hs' : HS} (h : zcs hs idx = some hs') (hn : idx.Nodup) (k : T Fe P n B D M c Q fs hs') : T Fe P n B D M c Q fs hs := ⟨fun a w ha hw hm => k.out a w ha (hw.pick h hn) hm⟩
theorem K.pick (idx : List Nat) {e : Exit} {hs' : HS} (h : zcs hs idx = some hs') (hn : idx.Nodup) (k : K n B D M Q e fs hs') : K n B D M Q e fs hs := ⟨fun a w ha hw hm => k.out a w ha (hw.pick h hn) hm⟩
theorem T.av {ι : Type} {x y : Code} (G : ι → SFs) (H : ι → HS) (φ : ι → Prop) (h : T Fe P n B D M x (Exit.then (fun a w => ∃ i, φ i ∧ At n B D M (G i) (H i) a w) Q) fs hs) (k : ∀ i, φ i → T Fe P n B D M y Q (G i) (H i)) : T Fe P n B D M x (Exit.then (y.wpIn Fe 0 P Q) Q) fs hs :=
  ⟨fun a w ha hw hm => wpIn_mono (h.out a w ha hw hm) fun e a w hq => by
    cases e <;> first | (obtain ⟨i, hi, h1, h2, h3⟩ := hq; exact (k i hi).out a w h1 h2 h3) | exact hq⟩
theorem TS.slNil {hs0 : HS} {r : Ord} (e : TypeId) (size : Nat) (h : TS Fe P n B D M ops Q hs0 r fs (.sl (.slice none 0 0) e size 0 [] :: hs)) : TS Fe P n B D M ops Q hs0 r fs hs := ⟨fun a w fuel listed h2 h3 h4 ha hw h5 hm => h.out a w fuel listed h2 h3 h4 ha (hw.slNil e size) h5 hm⟩
theorem TSo.slNil {hs0 : HS} {i : Nat} {r : Ord} (e : TypeId) (size : Nat) (h : TSo Fe P n B D M ops Q hs0 i r fs (.sl (.slice none 0 0) e size 0 [] :: hs)) : TSo Fe P n B D M ops Q hs0 i r fs hs := ⟨fun a w fuel listed h2 h3 h4 ha hw h5 hm => h.out a w fuel listed h2 h3 h4 ha (hw.slNil e size) h5 hm⟩
theorem Yv.aJ (ix : Nat) {F : FzB B M S0} {α : Type} [Inhabited α] {enc : α → List Value} {t : TypeId} [hT : TyS P t] {k i j p : Nat} {xs : List α} {x : Operand} (ho : o.op = .load t x) (hx : ev fs x = some (zbp v p)) (hF : hs[ix]? = some (.fr F)) (h : SlC F.toFrz v k (xs.map enc)) (hi : i < xs.length) (hp : p = i * k + j) (hv : (enc (nth xs i))[j]? = some val) : Yv P n B M fs hs o val :=
  Yv.bL ix (i := i) (j := j) ho hx hF h (List.length_map _) hi hp (by rw [zbU hi]; exact hv)
theorem Yv.bh (ix : Nat) {F : FzB B M S0} {α : Type} [Inhabited α] {enc : α → List Value} {t : TypeId} {q : Nat} [hT : TyA P t q] {k i p : Nat} {xs : List α} {x : Operand} {l : List Value} (ho : o.op = .load t x) (hx : ev fs x = some (zbp v p)) (hF : hs[ix]? = some (.fr F)) (h : SlC F.toFrz v k (xs.map enc)) (hi : i < xs.length) (hp : p = i * k) (hv : (enc (nth xs i)) = l) (hl : l.length = q) : Yv P n B M fs hs o (.agg l.toArray) :=
  Yv.bC ix (i := i) (j := 0) ho hx hF h (List.length_map _) hi hp (by rw [zbU hi, hv, List.drop_zero, List.take_of_length_le (by omega)]) hl
theorem zcj {t e ty : TypeId} {k : Nat} {w : World} [hT : TySl P t e k] {b : Option Addr} {m c : Nat} {A : Option Addr} {c2 : Nat} (hc : m ≤ c) : (Builtin.append_ #[t, t] ty #[.slice b m c, .slice A 0 c2]).run P w = .ok (.slice b m c) w := by
  have h := hT.h; unfold zcN at h
  split at h
  · rename_i el hU
    cases hi' : P.info? el with
    | none => rw [hi'] at h; cases h
    | some inf =>
      rw [hi'] at h
      cases h
      unfold Builtin.append_
      cases A <;> cases b <;> simp [underlying, hU, sizeOf, typeInfo, hi', Builtin.lenOf, hc, Builtin.firstCells, loadCells, loadCellsFrom, storeCells]
  · cases h
theorem Cs.flat {w : World} {g off size : Nat} {cs : List (List Value)} (hp : 0 < size) (hr : ∀ c ∈ cs, c.length = size) (h : ∀ i, i < cs.length → Cs w g (off + i * size) (nth cs i)) : Cs w g off cs.flatten := fun q hq => by
  have hl : cs.flatten.length = cs.length * size := by
    clear h hq
    induction cs with
    | nil => simp
    | cons c r ih => rw [List.flatten_cons, List.length_append, ih (fun c' h' => hr c' (by simp [h'])), hr c (by simp), List.length_cons, Nat.add_mul]; omega
  (have hi : q / size < cs.length := by rw [Nat.div_lt_iff_lt_mul hp]; omega); have hj : q % size < size := Nat.mod_lt _ hp; (have e : q / size * size + q % size = q := by rw [Nat.mul_comm]; exact Nat.div_add_mod q size); (have hrow : (nth cs (q / size)).length = size := by rw [zab hi]; exact hr _ (List.getElem_mem hi)); have h1 := h (q / size) hi (q % size) (by omega); have h2 := zch cs hr (q / size) hi (q % size) hj; rw [e] at h2; rw [h2, ← h1]
  congr 2
  omega
theorem Ew.bi (i ix : Nat) {F : FzB B M S0} {s x : Operand} {t e : TypeId} {size bytes k k' : Nat} {z l l' : List Value} {cs : List (List Value)} {hs' : Value → HS} [hT : TyE P t e size bytes z] [hT2 : TySl P t e size] (h1 : ∀ c ∈ cs, ∀ v ∈ c, v.oneCell' = true) (ho : o.op = .call { callee := .builtin .append, args := #[s, x], argTypes := #[t, t] })
    (hs1 : ev fs s = some sv) (hx : ev fs x = some v) (hi : hs[i]? = some (.sl sv e size k l)) (hF : hs[ix]? = some (.fr F)) (h : SlC F.toFrz v size cs) (hk : k + cs.length = k') (hl' : l ++ cs.flatten = l') (hb : k' * bytes ≤ 140737488355328) (hbs : 0 < bytes)
    [hH : ∀ v', SetAt hs i (.sl v' e size k' l') (hs' v')] : Ew P n B M fs hs o (fun v hs'' => OneC v ∧ hs'' = hs' v) := by
  obtain ⟨inf, zv, hU, hinf, hz, hzc, h6, h7, hzs, hpos⟩ := hT.get; rcases Nat.eq_zero_or_pos cs.length with h0 | h0
  · obtain rfl := List.eq_nil_of_length_eq_zero h0; obtain ⟨A, cap, hv, _⟩ := h; subst hk; simp at hl' hv; subst hl' hv; refine Ew.ay fun a w ha hp => ?_; have ho' := Ent.sl_ok.1 (hp.get hi)
    obtain ⟨b, c, rfl, hc⟩ : ∃ b c, sv = .slice b k c ∧ k ≤ c := by
      rcases ho'.2 with ⟨rfl, h0⟩ | ⟨g, cap, cur, rfl, hb, hg, hnc, _⟩
      · exact ⟨none, 0, by rw [h0], by omega⟩
      · exact ⟨_, cap, rfl, hnc⟩
    refine ⟨.slice b k c, w, hs' (.slice b k c), ?_, Kp.refl w, ?_, ⟨rfl⟩, rfl⟩
    · unfold execOp; simp [ho, resolve, invoke, builtin, ha.ev hs1, ha.ev hx, zcj (P := P) (t := t) hc]
    · rw [← (hH _).h]; simp only [List.length_nil, Nat.add_zero]; rw [zdI hi]; exact hp
  · obtain ⟨g, off, cap, rfl, hg, hc⟩ := h.addr h0; (have hr : ∀ c ∈ cs, c.length = size := by obtain ⟨_, _, _, _, _, h4, _⟩ := h; exact h4); refine Ew.bg i (news := cs.flatten) (fun v hv => ?_) ho hs1 hx hi (fun w hw => Cs.flat (by omega) hr (fun i hi => Cs.at (hw.fr hF) hg (hc i hi))) ?_ hk hl' hb hbs
    · obtain ⟨c, hc', hv'⟩ := List.mem_flatten.1 hv; exact h1 c hc' v hv'
    · clear hc hl' hx hk h1 h0 h
      induction cs with
      | nil => simp
      | cons c r ih => rw [List.flatten_cons, List.length_append, ih (fun c' h' => hr c' (by simp [h'])), hr c (by simp), List.length_cons, Nat.add_mul]; omega
end
theorem zdF {α : Type} {xs ys : List α} {m : Nat} (h : ys.length = m) : xs.length + m = (xs ++ ys).length := by rw [List.length_append, h]
section
variable {P : Program} {n : Nat} {B : World} {M : Nat → Prop} {fs : SFs} {hs : HS} {o : Oper}
end
section
variable {P : Program} {n : Nat} {B : World} {M : Nat → Prop} {fs : SFs} {hs : HS} {o : Oper}
end
section
variable {P : Program} {n : Nat} {B : World} {M : Nat → Prop} {fs : SFs} {hs : HS} {o : Oper}
end
section
variable {P : Program} {n : Nat} {B : World} {M : Nat → Prop} {fs : SFs} {hs : HS} {o : Oper}
end
def zff (v : Value) (l h k : Nat) : Value := match v with
  | .slice a _ cap => sliced a l h cap k
  | x => x
theorem SlC.slice {F : Frz} {v : Value} {size : Nat} {cs : List (List Value)} (h : SlC F v size cs) {l i : Nat} (hl : l ≤ i) (hi : i ≤ cs.length) : SlC F (zff v l i size) size ((cs.take i).drop l) := by
  obtain ⟨A, cap, rfl, h2, h3, h4, h5⟩ := h; (have hlen : ((cs.take i).drop l).length = i - l := by rw [List.length_drop, List.length_take]; omega); have hmem : ∀ c ∈ (cs.take i).drop l, c ∈ cs := fun c hc => List.mem_of_mem_take (List.mem_of_mem_drop hc); refine ⟨if cap = l then A else A.map (·.add (l * size)), cap - l, ?_, by omega, by omega, fun c hc => h4 c (hmem c hc), fun hp => ?_⟩
  · rw [hlen]; rfl
  · rw [hlen] at hp; obtain ⟨g, off, rfl, hg, hc⟩ := h5 (by omega); rw [if_neg (by omega)]; refine ⟨g, off + l * size, by simp [zaV], hg, fun j hj => ?_⟩; rw [hlen] at hj; have h6 := hc (l + j) (by omega)
    have e : nth ((cs.take i).drop l) j = nth cs (l + j) := by
      rw [zab (by omega), zab (by omega), List.getElem_drop, List.getElem_take]
    rw [e, show off + l * size + j * size = off + (l + j) * size by rw [Nat.add_mul]; omega]; exact h6
theorem SlD.slice {α : Type} [Inhabited α] {rep : Frz → List Value → α → Prop} {F : Frz} {v : Value} {size : Nat} {cs : List (List Value)} {xs : List α} (h : SlD rep F v size cs xs) {l i : Nat} (hl : l ≤ i) (hi : i ≤ xs.length) : SlD rep F (zff v l i size) size ((cs.take i).drop l) ((xs.take i).drop l) := by
  refine ⟨h.1.slice hl (by rw [h.2.1]; exact hi), ?_, fun j hj => ?_⟩
  · rw [List.length_drop, List.length_take, List.length_drop, List.length_take, h.2.1]
  · have hj' := hj; rw [List.length_drop, List.length_take] at hj'
    have e : nth ((cs.take i).drop l) j = nth cs (l + j) := by
      rw [zab (by rw [List.length_drop, List.length_take, h.2.1]; omega), zab (by rw [h.2.1]; omega), List.getElem_drop, List.getElem_take]
    have e' : nth ((xs.take i).drop l) j = nth xs (l + j) := by
      rw [zab hj, zab (by omega), List.getElem_drop, List.getElem_take]
    rw [e, e']; exact h.2.2 _ (by omega)
section
variable {F : Frz} {v : Value} {size : Nat}
variable {α : Type} [Inhabited α] {rep : Frz → List Value → α → Prop} {cs : List (List Value)} {xs : List α}
end
section
variable {P : Program} {n : Nat} {B : World} {M : Nat → Prop} {fs : SFs} {hs : HS} {o : Oper} {v : Value}
end
structure FxM (F : Frz) (w : World) (M : Nat → Prop) (G : Frz) (es : HS) (w' : World) : Prop where
  le : F.Le G
  at_ : G.At w'
  hp : Hp w M es w'
  new : ∀ g, G.S g → F.S g ∨ M g ∨ w.heap.size ≤ g
  ap : ∀ e ∈ es, ∀ g, e.fp g → ¬ G.S g
theorem zfv : fps [] = fun _ => False := by funext g; unfold fps; simp
section
variable {B w w' : World} {M S0 : Nat → Prop} {hs : HS} {F : FzB B M S0}
theorem FxM.of {F0 : Frz} {es : HS} {G : FzB B M S0} (hw : Hp B M (es ++ [Ent.fr G]) w') (hS : ∀ g, S0 g → F0.S g) (hle : F0.Le G.toFrz) : FxM F0 B M G.toFrz es w' := by
  have h1 := hw; have h2 := List.pairwise_append.1 h1.apart; refine ⟨hle, hw.fr (i := es.length) (by simp), hw.sub (List.sublist_append_left _ _), fun g hg => (G.new g hg).imp (hS g) id, fun e he g hg hS => ?_⟩; refine h2.2.2 e he (.fr G) (by simp) g hg (Ent.fr_fp.2 ⟨hS, ?_⟩); exact h1.new e (List.mem_append_left _ he) g hg
theorem FxM.up {M' : Nat → Prop} {G : Frz} {es : HS} (h : FxM F.toFrz w M' G es w') (hw : Hp B M hs w) (hM : ∀ g, M' g → M g ∨ B.heap.size ≤ g) : ∃ G' : FzB B M S0, G'.toFrz = G := by
  refine ⟨⟨G, fun g hg hb hm => ?_, fun g hg => ?_⟩, rfl⟩
  · rcases h.new g hg with h1 | h1 | h1
    · rw [(h.le g h1).2, F.base g h1 hb hm]
    · rcases hM g h1 with h2 | h2
      · exact absurd h2 hm
      · omega
    · have := hw.size; omega
  · rcases h.new g hg with h1 | h1 | h1
    · exact F.new g h1
    · exact .inr (hM g h1)
    · have := hw.size; exact .inr (.inr (by omega))
end
section
variable {P : Program} {n : Nat} {B D : World} {M S0 : Nat → Prop} {fs : SFs} {hs : HS} {o : Oper} {v : Value}
theorem Ew.aO (idx : List Nat) (bs rest : HS) {ι : Type} {F : FzB B M S0} {φ : ι → Prop} {val : ι → Value} {es : ι → HS} {c : Operand} {xs : Array Operand} {ts : Array TypeId} {f : FuncId} {fst caps : Array Value} {vs : List Value} [hE : Enters P f]
    (ho : o.op = .call { callee := .value c, args := xs, argTypes := ts }) (hc : ev fs c = some (.func (.func f) fst caps)) (hv : evs fs xs.toList = some vs) (hp : zcs hs idx = some (bs ++ .fr F :: rest)) (hn : idx.Nodup)
    (C : ∀ w, Hp B M hs w → Hp B M (bs ++ .fr F :: rest) w → F.toFrz.At w → Calls P f (fst.toList ++ vs ++ caps.toList).toArray w (fun e w' => ∃ y, φ y ∧ e = .returned (val y) ∧ FxM F.toFrz w (fps bs) F.toFrz (es y) w')) :
    Ew P n B M fs hs o (fun v hs'' => ∃ y, φ y ∧ v = val y ∧ hs'' = es y ++ .fr F :: rest) :=
  Ew.call ho hc hv fun w hw => by
    have hw2 := hw.pick hp hn; have hF : F.toFrz.At w := hw2.fr (i := bs.length) (by simp); refine (C w hw hw2 hF).mono fun e w' ⟨y, hy, he, hx⟩ => ?_; refine ⟨val y, es y ++ .fr F :: rest, he, Kp.only hx.hp.only (fun g hg c => ?_), ?_, y, hy, rfl, rfl⟩
    · obtain ⟨e, h1, h2⟩ := hg; exact e.nd (hw2.own e (List.mem_append_left _ h1)) g h2 c
    · exact Hp.go (es := bs) (es' := es y) hw2 hx.hp.only (fun g _ ⟨e, he, hg⟩ => ⟨e, he, hg⟩) hx.hp.own (fun e he g hg => hx.hp.new e he g hg) hx.hp.apart
end
section
variable {w : World} {bs : HS} {F : Frz}
theorem zde (hF : F.At w) (h : Hp w (fps bs) bs w) (hA : ∀ g, fps bs g → ¬ F.S g) : ∃ (S0 : Nat → Prop) (G : FzB w (fps bs) S0), G.toFrz = F ∧ (∀ g, S0 g → F.S g) ∧ Hp w (fps bs) (bs ++ [Ent.fr G]) w := ⟨F.S, Frz.inB hF _, rfl, fun _ h => h, Hp.startFM hF h hA⟩
variable {B : World} {M S0 : Nat → Prop} {G : FzB B M S0} {rest : HS}
theorem Hp.takes (h : Hp B M (bs ++ .fr G :: rest) w) : Hp w (fps bs) bs w ∧ ∀ g, fps bs g → ¬ G.toFrz.S g := by
  have h1 : Hp B M bs w := h.sub (List.sublist_append_left _ _); refine ⟨Hp.startL h1.own h1.apart, fun g ⟨e, he, hg⟩ hS => ?_⟩; exact (List.pairwise_append.1 h.apart).2.2 e he (.fr G) (by simp) g hg (Ent.fr_fp.2 ⟨hS, h1.new e he g hg⟩)
end
abbrev Vec (n : Nat) (α : Type) := { l : List α // l.length = n }
def Vec.fill {α : Type} (n : Nat) (v : α) : Vec n α := ⟨List.replicate n v, List.length_replicate⟩
instance {n : Nat} {α : Type} [Inhabited α] : Inhabited (Vec n α) := ⟨Vec.fill n default⟩
def Vec.get {n : Nat} {α : Type} [Inhabited α] (x : Vec n α) (i : Nat) : α := nth x.1 i
def Vec.put {n : Nat} {α : Type} (x : Vec n α) (i : Nat) (v : α) : Vec n α := ⟨x.1.set i v, by rw [List.length_set, x.2]⟩
section
variable {α : Type} [Inhabited α] {n i j m p : Nat} {x : Vec n α} {f : α → Value} {a b l r : List Value} {v : Value}
theorem Vec.len : (x.1.map f).length = n := by rw [List.length_map, x.2]
theorem Vec.cell (h : i < n) : (x.1.map f)[i]? = some (f (x.get i)) := by
  unfold Vec.get; rw [List.getElem?_map, List.getElem?_eq_getElem (by rw [x.2]; exact h), zab (by rw [x.2]; exact h)]; rfl
theorem Vec.upd {v : α} (h : i < n) : (x.1.map f).set i (f v) = (x.put i v).1.map f := by
  show _ = (x.1.set i v).map f
  rw [List.map_set]
instance OneCs.vmap {β : Type} {g : β → Value} {y : List β} [h : ∀ z, OneC (g z)] : OneCs (y.map g) := ⟨fun z hz => by obtain ⟨b, _, rfl⟩ := List.mem_map.1 hz; exact (h b).h⟩
instance OneCs.cat [h : OneCs a] [k : OneCs b] : OneCs (a ++ b) := ⟨fun z hz => (List.mem_append.1 hz).elim (h.h z) (k.h z)⟩
end
section
variable {P : Program} {n : Nat} {B D : World} {M : Nat → Prop} {fs : SFs} {hs : HS} {o : Oper} {v : Value}
end
theorem zb4 {w : World} {v : Value} {e : TypeId} {size k : Nat} {l : List Value} (h : (Ent.sl v e size k l).ok w) : OneC v := by
  rcases (Ent.sl_ok.1 h).2 with ⟨rfl, _⟩ | ⟨g, cap, cur, rfl, _⟩ <;> exact inferInstance
section
variable {P : Program} {n : Nat} {B : World} {M : Nat → Prop} {fs : SFs} {hs : HS} {o : Oper}
theorem zdQ {w : World} {v : Value} {e : TypeId} {size k : Nat} {l : List Value} (h : (Ent.sl v e size k l).ok w) : k ≤ 9223372036854775807 := by
  have ho := Ent.sl_ok.1 h; rcases ho.2 with ⟨rfl, h0⟩ | ⟨g, cap, cur, rfl, hb, hg, hnc, hcm, hcs, htake⟩
  · omega
  · unfold maxLen at hcm; omega
end
section
variable {Fe : Fence} [hFe : Calm Fe] {P : Program} {n : Nat} {B D : World} {M S0 : Nat → Prop} {Q : Exit → Act → World → Prop} {fs : SFs} {hs : HS} {ops : Array Oper}
theorem TL.aW {l : List Oper} {v : Value} {e : TypeId} {size k : Nat} {cs : List Value} (j : Nat) (hj : hs[j]? = some (.sl v e size k cs)) (h : OneC v → k ≤ 9223372036854775807 → TL Fe P n B D M ops Q l fs hs) : TL Fe P n B D M ops Q l fs hs :=
  TL.be (ι := Unit) (φ := fun _ => OneC v ∧ k ≤ 9223372036854775807) (hs' := fun _ => hs) (fun w hw => ⟨(), ⟨zb4 (hw.get hj), zdQ (hw.get hj)⟩, hw⟩) (fun _ hx => h hx.1 hx.2)
theorem TS.aW {hs0 : HS} {r : Ord} {v : Value} {e : TypeId} {size k : Nat} {cs : List Value} (j : Nat) (hj : hs[j]? = some (.sl v e size k cs)) (h : OneC v → k ≤ 9223372036854775807 → TS Fe P n B D M ops Q hs0 r fs hs) : TS Fe P n B D M ops Q hs0 r fs hs :=
  TS.be (ι := Unit) (φ := fun _ => OneC v ∧ k ≤ 9223372036854775807) (hs' := fun _ => hs) (fun w hw => ⟨(), ⟨zb4 (hw.get hj), zdQ (hw.get hj)⟩, hw⟩) (fun _ hx => h hx.1 hx.2)
end
section
variable {B w : World} {M S0 : Nat → Prop} {hs bs rest : HS} {F : FzB B M S0} {G : FzB B M S0} {F' : Frz}
end
theorem zb8 {α : Type} [Inhabited α] {enc : α → List Value} {size : Nat} (he : ∀ x, (enc x).length = size) : ∀ {xs : List α} {i j p : Nat} {v : Value} {x : α}, i < xs.length → j < size → p = i * size + j → (enc (nth xs i)).set j v = enc x → (xs.flatMap enc).set p v = (xs.set i x).flatMap enc
  | y :: r, 0, j, p, v, x, _, hj, hp, h => by
    (obtain rfl : p = j := by omega); rw [List.flatMap_cons, List.set_append_left _ _ (by rw [he]; exact hj), List.set_cons_zero, List.flatMap_cons]; rw [← h]; rfl
  | y :: r, i + 1, j, p, v, x, hi, hj, hp, h => by
    rw [List.flatMap_cons, List.set_append_right _ _ (by rw [he, hp, Nat.add_mul]; omega), List.set_cons_succ, List.flatMap_cons]; rw [zb8 he (xs := r) (i := i) (j := j) (x := x) (by simpa using hi) hj (by rw [he, hp, Nat.add_mul]; omega) (by rw [← h]; rfl)]
theorem zbN {α : Type} {enc : α → List Value} {size : Nat} (he : ∀ x, (enc x).length = size) : ∀ {xs : List α} {i j p : Nat}, i < xs.length → j < size → p = i * size + j → p < (xs.flatMap enc).length
  | y :: r, 0, j, p, _, hj, hp => by rw [List.flatMap_cons, List.length_append, he]; omega
  | y :: r, i + 1, j, p, hi, hj, hp => by
    have := zbN he (xs := r) (i := i) (j := j) (p := i * size + j) (by simpa using hi) hj rfl; rw [List.flatMap_cons, List.length_append, he]; rw [hp, Nat.add_mul]; omega
theorem zfD {α : Type} [Inhabited α] {xs : List α} {i : Nat} {x : α} (h : xs[i]? = some x) : i < xs.length ∧ x = nth xs i := by
  obtain ⟨hi, rfl⟩ := List.getElem?_eq_some_iff.1 h; exact ⟨hi, (zab hi).symm⟩
section
variable {P : Program} {n : Nat} {B D : World} {M : Nat → Prop} {fs : SFs} {hs : HS} {o : Oper} {v val sv : Value}
theorem Ew.aX (j : Nat) {t e : TypeId} [hT : TyS P t] {x y : Operand} {p k k' size : Nat} {l l' : List Value} {hs' : HS} [hv : OneC val] (ho : o.op = .store t x y) (hx : ev fs x = some (zbp sv p)) (hy : ev fs y = some val)
    (hj : hs[j]? = some (.sl sv e size k l)) (hk : 0 < k) (hp : p < l.length) (hl : l.set p val = l') (hkk : k' = k) [hH : SetAt hs j (.sl sv e size k' l') hs'] : Ew P n B M fs hs o (fun v hs'' => v = undef ∧ hs'' = hs') := by
  subst hkk; exact Ew.bx j ho hx hy hj hk hp hl
end
section
variable {P : Program} {n : Nat} {B D : World} {M : Nat → Prop} {fs : SFs} {hs : HS} {v v2 : Value}
theorem T.aW {Fe : Fence} [hFe : Calm Fe] {Q : Exit → Act → World → Prop} {c : Code} {e : TypeId} {size k : Nat} {cs : List Value} (j : Nat) (hj : hs[j]? = some (.sl v e size k cs)) (h : OneC v → k ≤ 9223372036854775807 → T Fe P n B D M c Q fs hs) : T Fe P n B D M c Q fs hs :=
  T.be (ι := Unit) (φ := fun _ => OneC v ∧ k ≤ 9223372036854775807) (hs' := fun _ => hs) (fun w hw => ⟨(), ⟨zb4 (hw.get hj), zdQ (hw.get hj)⟩, hw⟩) (fun _ hx => h hx.1 hx.2)
end
section
variable {P : Program} {n : Nat} {B D : World} {M S0 : Nat → Prop} {fs : SFs} {hs : HS} {o : Oper} {v : Value}
end
section
variable {P : Program} {n : Nat} {B D : World} {M : Nat → Prop} {fs : SFs} {hs : HS} {o : Oper} {v : Value}
theorem Yv.bQ {op : BinOp} {x y : Operand} {t u : TypeId} {a b : Value} (ho : o.op = .binOp op t x y u) (hx : ev fs x = some a) (hy : ev fs y = some b) (hr : ∀ w, (do eqGuard op t x y a b; binOp op t a b : Sem Value).run P w = .ok v w) : Yv P n B M fs hs o v := fun f w ha _ => by
  unfold execOp; simp only [ho, ha.ev hx, ha.ev hy]; rw [Sem.run_bind, hr w]
  rfl
end
theorem Fx.hp {F : Frz} {w w' : World} {es : HS} (hF : F.At w) (h : Hp w (fun _ => False) es w') : ∃ G : Frz, Fx F w G w' ∧ G.w = w' ∧ ∀ e ∈ es, ∀ g, e.fp g → Cb w' g → G.S g := by
  have hb := h.isBelow; have hF' := hF.below hb; refine ⟨⟨fun g => F.S g ∨ ((∃ e ∈ es, e.fp g) ∧ Cb w' g), w', fun g hg => hg.elim (fun h => hF'.cb h) (fun h => h.2)⟩, ⟨fun g hg => ⟨.inl hg, hF' g hg⟩, fun g _ => rfl, fun g hg => ?_, hb⟩, rfl, fun e he g hg hc => .inr ⟨⟨e, he, hg⟩, hc⟩⟩; rcases hg with h1 | ⟨⟨e, he, hg⟩, _⟩
  · exact .inl h1
  · exact .inr ((h.new e he g hg).elim (fun h => h.elim) id)
structure GMove where
  Station : Int
  Old : Int
  New : Int
  Tower : Int
  Crew : Int
  Weeks : Int
deriving DecidableEq, Inhabited
abbrev GMove.enc (x : GMove) : List Value := [.int .i64 x.Station, .int .i64 x.Old, .int .i64 x.New, .int .i64 x.Tower, .int .i64 x.Crew, .int .i64 x.Weeks]
theorem GMove.len (x : GMove) : (GMove.enc x).length = 6 := rfl
structure GWork where
  Station : Int
  Start : Int
  End : Int
deriving DecidableEq, Inhabited
abbrev GWork.enc (x : GWork) : List Value := [.int .i64 x.Station, .int .i64 x.Start, .int .i64 x.End]
theorem GWork.len (x : GWork) : (GWork.enc x).length = 3 := rfl
structure Gstep where
  week : Int
  change : Int
deriving DecidableEq, Inhabited
abbrev Gstep.enc (x : Gstep) : List Value := [.int .i64 x.week, .int .i64 x.change]
theorem Gstep.len (x : Gstep) : (Gstep.enc x).length = 2 := rfl
end Go.Proofs.Ytlfalfmebomfbaa
namespace Go.Proofs.Ytlfalfmebomfbaa
open Go.Shelf
def zd0 : Go.Shelf.Ren := ⟨fun | 6 => 20 | 15 => 29 | 14 => 28 | 28 => 39 | 29 => 40 | 20 => 31 | 21 => 32 | 22 => 33 | 23 => 34 | 24 => 35 | 25 => 36 | 26 => 37 | 27 => 38 | 46 => 45 | 47 => 46 | 48 => 47 | 49 => 48 | 50 => 49 | 57 => 52 | n => n, fun | 22 => 49 | 24 => 53 | 25 => 72 | 3 => 3 | 39 => 83 | 0 => 0 | 53 => 94 | 55 => 96 | 4 => 4 | 46 => 87 | 45 => 86 | 50 => 91 | 5 => 5 | 9 => 9 | 66 => 100 | 70 => 104 | 76 => 107 | 77 => 108 | n => n, fun | n => n⟩
theorem zfb : Go.Proofs.SlLaysF0.n6 Try.prog zd0 := {
  mixed := by kernel_rfl
  f6 := ⟨Try.f20.name, by decide, Try.func20.trans (congrArg some (by kernel_rfl))⟩
  f14 := ⟨Try.f28.name, by decide, Try.func28.trans (congrArg some (by kernel_rfl))⟩
  f15 := Try.func29.trans (congrArg some (by kernel_rfl))
  f20 := ⟨Try.f31.name, by decide, Try.func31.trans (congrArg some (by kernel_rfl))⟩
  f21 := ⟨Try.f32.name, by decide, Try.func32.trans (congrArg some (by kernel_rfl))⟩
  f22 := ⟨Try.f33.name, by decide, Try.func33.trans (congrArg some (by kernel_rfl))⟩
  f23 := ⟨Try.f34.name, by decide, Try.func34.trans (congrArg some (by kernel_rfl))⟩
  f24 := ⟨Try.f35.name, by decide, Try.func35.trans (congrArg some (by kernel_rfl))⟩
  f25 := ⟨Try.f36.name, by decide, Try.func36.trans (congrArg some (by kernel_rfl))⟩
  f26 := ⟨Try.f37.name, by decide, Try.func37.trans (congrArg some (by kernel_rfl))⟩
  f27 := ⟨Try.f38.name, by decide, Try.func38.trans (congrArg some (by kernel_rfl))⟩
  f28 := Try.func39.trans (congrArg some (by kernel_rfl))
  f29 := Try.func40.trans (congrArg some (by kernel_rfl))
  f46 := ⟨Try.f45.name, by decide, Try.func45.trans (congrArg some (by kernel_rfl))⟩
  f47 := Try.func46.trans (congrArg some (by kernel_rfl))
  f48 := Try.func47.trans (congrArg some (by kernel_rfl))
  f49 := ⟨Try.f48.name, by decide, Try.func48.trans (congrArg some (by kernel_rfl))⟩
  f50 := ⟨Try.f49.name, by decide, Try.func49.trans (congrArg some (by kernel_rfl))⟩
  f57 := ⟨Try.f52.name, by decide, Try.func52.trans (congrArg some (by kernel_rfl))⟩
  t0 := Try.underlying0
  a0 := Try.isAgg0
  z0 := Try.sizeOf0
  v0 := Try.zeroValue0
  t3 := Try.underlying3
  a3 := Try.isAgg3
  z3 := Try.sizeOf3
  v3 := Try.zeroValue3
  t4 := Try.underlying4
  a4 := Try.isAgg4
  z4 := Try.sizeOf4
  v4 := Try.zeroValue4
  t5 := Try.underlying5
  a5 := Try.isAgg5
  z5 := Try.sizeOf5
  v5 := Try.zeroValue5
  t9 := Try.underlying9
  a9 := Try.isAgg9
  z9 := Try.sizeOf9
  v9 := Try.zeroValue9
  t22 := Try.underlying49
  a22 := Try.isAgg49
  z22 := Try.sizeOf49
  v22 := Try.zeroValue49
  t25 := Try.underlying72
  a25 := Try.isAgg72
  z25 := Try.sizeOf72
  v25 := Try.zeroValue72
  t39 := Try.underlying83
  a39 := Try.isAgg83
  z39 := Try.sizeOf83
  v39 := Try.zeroValue83
  t45 := Try.underlying86
  a45 := Try.isAgg86
  z45 := Try.sizeOf86
  v45 := Try.zeroValue86
  t46 := Try.underlying87
  a46 := Try.isAgg87
  z46 := Try.sizeOf87
  v46 := Try.zeroValue87
  t50 := Try.underlying91
  a50 := Try.isAgg91
  z50 := Try.sizeOf91
  v50 := Try.zeroValue91
  t53 := Try.underlying94
  a53 := Try.isAgg94
  z53 := Try.sizeOf94
  v53 := Try.zeroValue94
  t55 := Try.underlying96
  a55 := Try.isAgg96
  z55 := Try.sizeOf96
  v55 := Try.zeroValue96
  t66 := Try.underlying100
  a66 := Try.isAgg100
  z66 := Try.sizeOf100
  v66 := Try.zeroValue100
  t70 := Try.underlying104
  a70 := Try.isAgg104
  z70 := Try.sizeOf104
  v70 := Try.zeroValue104
  t76 := Try.underlying107
  a76 := Try.isAgg107
  z76 := Try.sizeOf107
  v76 := Try.zeroValue107
  t77 := Try.underlying108
  a77 := Try.isAgg108
  z77 := Try.sizeOf108
  v77 := Try.zeroValue108 }
end Go.Proofs.Ytlfalfmebomfbaa
namespace Go.Proofs.Ytlfalfmebomfbaa
open Go.RowKit Go.Sort
theorem FxM.one {F0 : Frz} {w w' : World} {E E' : Ent} (hF0 : F0.At w) (hO : Hp w (fps [E]) [E] w) (hA : ∀ g, fps [E] g → ¬ F0.S g) (ho : Only E.fp w w') (hok : E'.ok w') (hfp : ∀ g, E'.fp g → E.fp g ∨ w.heap.size ≤ g) : FxM F0 w (fps [E]) F0 [E'] w' := by
  obtain ⟨S0, G, rfl, hS, h⟩ := zde hF0 hO hA; refine FxM.of (es := [E']) (Hp.go (es := [E]) (es' := [E']) (hs := [.fr G]) h ho (fun g _ hg => ⟨E, by simp, hg⟩) (fun e he => ?_) (fun e he g hg => ?_) (List.pairwise_singleton _ _)) hS (Frz.Le.refl _)
  · obtain rfl := List.mem_singleton.1 he; exact hok
  · obtain rfl := List.mem_singleton.1 he; exact (hfp g hg).imp (fun h => ⟨E, by simp, h⟩) id
abbrev okW (s : Gstep) : Prop := 0 ≤ s.week ∧ s.week ≤ 1048576
abbrev St : Type := { s : Gstep // okW s }
instance : Inhabited St := ⟨⟨⟨0, 0⟩, by decide⟩⟩
def encT (s : St) : List Value := s.1.enc
theorem zcP (s : St) : (encT s).length = 2 := rfl
def cfT (x y : St) : Int := x.1.week - y.1.week
theorem ltT (x y : St) : ltOf cfT x y = decide (x.1.week < y.1.week) := by
  unfold ltOf cfT; rw [Bool.eq_iff_iff]; simp only [decide_eq_true_eq]; omega
theorem swoT : SWO (ltOf cfT) where
  irrefl x := by rw [ltT]; simp
  trans x y z h1 h2 := by rw [ltT] at *; simp at *; omega
  ntrans x y z h1 h2 := by rw [ltT] at *; simp at *; omega
def toSt (l : List Gstep) : List St := l.filterMap fun s => if h : okW s then some ⟨s, h⟩ else none
theorem zb0 : ∀ {l : List Gstep}, (∀ s ∈ l, okW s) → (toSt l).map (·.1) = l
  | [], _ => rfl
  | s :: l, h => by
    have h1 := h s (List.mem_cons_self ..); have ih := zb0 (l := l) fun x hx => h x (List.mem_cons_of_mem _ hx); unfold toSt at ih ⊢; rw [List.filterMap_cons, dif_pos h1, List.map_cons, ih]
theorem zeZ {l : List Gstep} (h : ∀ s ∈ l, okW s) : (toSt l).length = l.length := by
  have := congrArg List.length (zb0 h)
  rwa [List.length_map] at this
theorem zep {l : List Gstep} (h : ∀ s ∈ l, okW s) : (toSt l).flatMap encT = l.flatMap Gstep.enc := by
  conv => rhs; rw [← zb0 h]
  rw [List.flatMap_map]; rfl
def pdA (l : List Gstep) : Array St := pdq (ltOf cfT) (toSt l).toArray 0 (toSt l).toArray.size (Lib.bitLen (toSt l).toArray.size) true true
def pdL (l : List Gstep) : List Gstep := (pdA l).toList.map (·.1)
def LeW (a b : Gstep) : Prop := a.week ≤ b.week
theorem zct (l : List Gstep) : (pdA l).size = (toSt l).length ∧ (pdA l).toList.Perm (toSt l) ∧ (pdA l).toList.Pairwise (fun a b => a.1.week ≤ b.1.week) := by
  obtain ⟨⟨hd1, _, hd3⟩, hd4⟩ := pdq_sorts (ltOf cfT) swoT (toSt l).toArray 0 (toSt l).toArray.size (Lib.bitLen (toSt l).toArray.size) true true (Nat.zero_le _) (Nat.le_refl _) (Or.inl rfl); change (pdA l).size = _ at hd1; (have hds : (pdA l).size = (toSt l).length := by simpa using hd1); refine ⟨hds, ?_, ?_⟩
  · replace hd3 : ((pdA l).extract 0 (toSt l).toArray.size).toList.Perm ((toSt l).toArray.extract 0 (toSt l).toArray.size).toList := hd3
    (have e1 : (pdA l).extract 0 (toSt l).toArray.size = pdA l := by rw [show (toSt l).toArray.size = (pdA l).size by rw [hds]; simp]; exact Array.extract_size); have e2 : (toSt l).toArray.extract 0 (toSt l).toArray.size = (toSt l).toArray := Array.extract_size; rw [e1, e2] at hd3; simpa using hd3
  · rw [List.pairwise_iff_getElem]; intro i j hi hj hij; have h5 : ltOf cfT (pdA l)[j]! (pdA l)[i]! = false := hd4 i j (Nat.zero_le _) hij (by simpa [hds] using hj); rw [ltT, decide_eq_false_iff_not] at h5; (have hi' : i < (pdA l).size := by simpa using hi); (have hj' : j < (pdA l).size := by simpa using hj); rw [getElem!_pos (pdA l) i hi', getElem!_pos (pdA l) j hj'] at h5
    show (pdA l).toList[i].1.week ≤ (pdA l).toList[j].1.week
    rw [Array.getElem_toList, Array.getElem_toList]; omega
theorem zdS {l : List Gstep} (h : ∀ s ∈ l, okW s) : (pdL l).Perm l := by
  have := (zct l).2.1.map (fun s : St => s.1); rw [zb0 h] at this; exact this
theorem zd4 (l : List Gstep) : (pdL l).Pairwise LeW := List.pairwise_map.2 (zct l).2.2
theorem ze2 (x y : St) (W : World) : Calls Try.prog 21 #[.agg (encT x).toArray, .agg (encT y).toArray] W fun e w' => e = .returned (.int .i64 (cfT x y)) ∧ ∃ q os', w' = grow (W.drewN q) os' := by
  obtain ⟨⟨a, b⟩, hx⟩ := x; obtain ⟨⟨c, d⟩, hy⟩ := y; obtain ⟨hx1, hx2⟩ := hx; obtain ⟨hy1, hy2⟩ := hy; dsimp only at hx1 hx2 hy1 hy2
  show Calls Try.prog 21 #[.agg #[.int .i64 a, .int .i64 b], .agg #[.int .i64 c, .int .i64 d]] W _
  have hw : IntKind.i64.wrap (a - c) = a - c := IntWalk.i64_in _ (by omega)
  go_enter Try.func21, Try.ntmps21
  go_wp2_with fail
  go_ret
  exact ⟨by first | (rw [hw]; rfl) | (simp only [hw]; rfl), 0, _, by rw [alloc_eq_grow, alloc_eq_grow, grow_grow]; rfl⟩
theorem zdR (l : List St) : (flatK encT 2 l.toArray).toList = l.flatMap encT := by
  (have hl : (l.flatMap encT).length = l.length * 2 := by rw [zbZ encT 2 zcP]); refine List.ext_getElem? fun t => ?_; rcases Nat.lt_or_ge t (l.length * 2) with ht | ht
  · have h1 := get_flatK encT 2 l.toArray t (by simpa using ht); (have hi : t / 2 < l.length := by omega); have h2 := za9 encT 2 zcP l (t / 2) hi (t % 2) (by omega); rw [show t / 2 * 2 + t % 2 = t by omega] at h2; rw [h2, Array.getElem?_toList]; (have hs : t < (flatK encT 2 l.toArray).size := by simpa using ht); rw [Array.getElem?_eq_getElem hs, ← getElem!_pos (flatK encT 2 l.toArray) t hs, h1]; (have e : l.toArray[t / 2]! = l[t / 2] := by simp [hi]); rw [e]; (have h3 : t % 2 = 0 ∨ t % 2 = 1 := by omega); rcases h3 with h3 | h3 <;> rw [h3] <;> rfl
  · rw [List.getElem?_eq_none (by simpa using ht), List.getElem?_eq_none (by omega)]
section
variable {w : World} {g n : Nat} {cur : Array Value} {e : TypeId}
theorem zfu {d : Array Value} (hb : w.heap[g]? = some (.cells cur e (0, 0))) (ht : cur.toList.take d.size = d.toList) : Holds id w g 0 d := by
  intro j hj; refine ⟨?_, by simp [World.frozen?, hb]⟩; (have h1 : (cur.toList.take d.size)[j]? = d.toList[j]? := by rw [ht]); rw [List.getElem?_take_of_lt hj] at h1; simp only [World.cell?, hb, Nat.zero_add]; simp only [Option.isSome_none, Bool.false_eq_true, if_false]; rw [← Array.getElem?_toList, h1]; simp [hj]
theorem zfH (d : Array Value) (os : Array Obj) (hb : w.heap[g]? = some (.cells cur e (0, 0))) : (grow (putRow id (Sort.ahead w n) g 0 d) os).heap[g]? = some (.cells (putCells id 0 d cur) e (0, 0)) := by
  have hg : g < w.heap.size := (Array.getElem?_eq_some_iff.1 hb).1; have hb' : w.heap[g] = .cells cur e (0, 0) := (Array.getElem?_eq_some_iff.1 hb).2; simp [grow, putRow, mapBlock, Sort.ahead, Array.getElem?_append, hg]; rw [Array.getElem_modify, if_pos rfl, hb']; rfl
theorem zfL (d : Array Value) (os : Array Obj) {v : Value} {size k : Nat} {l : List Value} (hv : v.ownBlock = some g) : Only (Ent.sl v e size k l).fp w (grow (putRow id (Sort.ahead w n) g 0 d) os) := by
  refine ⟨rfl, rfl, rfl, by simp [grow, putRow, mapBlock, Sort.ahead], fun k hk hn => ?_⟩; have : g ≠ k := fun q => hn (Ent.sl_fp.2 (by rw [hv, q])); simp [grow, putRow, mapBlock, Sort.ahead, Array.getElem?_append, hk]; rw [Array.getElem_modify, if_neg this]
theorem zfM (ts : List Value) (h : ts.length ≤ cur.size) : (putCells id 0 ts.toArray cur).toList.take ts.length = ts := by
  apply List.ext_getElem?; intro j; by_cases hj : j < ts.length
  · rw [List.getElem?_take_of_lt hj, Array.getElem?_toList]; simp [putCells, hj, show j < cur.size by omega]
  · rw [List.getElem?_take_eq_none (by omega), List.getElem?_eq_none (by omega)]
end
def zbY (l : List Gstep) : Option (List Gstep) := grd (l.length < 4611686018427387904 ∧ ∀ s ∈ l, okW s) <| some (pdL l)
theorem ze8 (F0 : Frz) (w : World) (hF0 : F0.At w) (l0_ : List Gstep) (v0_ : Value) (hO : Hp w (fps [.sl v0_ 53 2 l0_.length (l0_.flatMap Gstep.enc)]) [.sl v0_ 53 2 l0_.length (l0_.flatMap Gstep.enc)] w) (hA : ∀ g, fps [.sl v0_ 53 2 l0_.length (l0_.flatMap Gstep.enc)] g → ¬ F0.S g) (r : List Gstep) (hr : zbY l0_ = some r) :
    Calls Try.prog 20 #[v0_, .func (.func 21) #[] #[]] w fun e w' => ∃ (y : Unit), (True) ∧ e = .returned (.tuple #[]) ∧ FxM F0 w (fps [.sl v0_ 53 2 l0_.length (l0_.flatMap Gstep.enc)]) F0 [.sl v0_ 53 2 r.length (r.flatMap Gstep.enc)] w' := by
  obtain ⟨⟨hsz, hok⟩, hr⟩ := zap hr; obtain rfl := Option.some.inj hr; have hk := hO.own _ (List.mem_cons_self ..); have ho := Ent.sl_ok.1 hk; have hl : (pdL l0_).length = l0_.length := (zdS hok).length_eq; rcases ho.2 with ⟨rfl, h0⟩ | ⟨g, cap, cur, rfl, hb, hg, h1, h2, h3, h4⟩
  · obtain rfl := List.eq_nil_of_length_eq_zero h0; have e0 : pdL [] = [] := List.eq_nil_of_length_eq_zero hl; rw [e0]; refine (AnyF.slices_SortFunc_none { zfb with } none 0 (.func (.func 21) #[] #[]) w).mono ?_; rintro e w' ⟨rfl, rfl⟩; exact ⟨⟨⟩, trivial, rfl, FxM.one hF0 hO hA (Only.refl _ _) hk fun g h => .inl h⟩
  · have hgs := (Array.getElem?_eq_some_iff.1 hg).1; have htl := zeZ hok
    have hH : HoldsK encT 2 w g 0 (toSt l0_).toArray := zfu hg (by
      rw [zdR, zep hok, show (flatK encT 2 (toSt l0_).toArray).size = l0_.length * 2 by simp [htl]]; exact h4)
    have eg : ∀ args w, (callFunc 21 args).run Try.prog w = .ok (.enter 21 args) w := enters_of Try.func21 (by kernel_rfl) rfl
    have hcon := AnyQ.slices_SortFunc_eq zfb 2 Try.isAgg53 Try.sizeOf53 encT zcP (fun x v hv => by
      simp only [encT, Gstep.enc, List.mem_cons, List.not_mem_nil, or_false] at hv
      rcases hv with rfl | rfl <;> rfl) cfT swoT 21 #[] g 0 cap (toSt l0_).toArray w eg (fun _ _ _ _ x y => ze2 x y _) hH hgs (by simpa [htl] using hsz)
    (have harg : (Value.slice (some ⟨g, 0, none⟩) l0_.length cap) = .slice (some ⟨g, 0, none⟩) (toSt l0_).toArray.size cap := by rw [List.size_toArray, htl]); rw [harg]; refine hcon.mono ?_; rintro e w' ⟨rfl, n, os, hw'⟩
    replace hw' : w' = sortWorldK encT 2 w g 0 n (pdA l0_) os := hw'
    subst hw'; obtain ⟨hps, _, _⟩ := zct l0_
    have hfl : (flatK encT 2 (pdA l0_)).toList = (pdL l0_).flatMap Gstep.enc := by
      have := zdR (pdA l0_).toList; rw [Array.toArray_toList] at this; rw [this]; unfold pdL; rw [List.flatMap_map]; rfl
    rw [← harg] at *; refine ⟨⟨⟩, trivial, rfl, FxM.one hF0 hO hA (zfL _ _ rfl) (Ent.sl_ok.2 ⟨by rw [zbZ Gstep.enc 2 Gstep.len], .inr ⟨g, cap, _, by rw [hl], Nat.zero_le _, zfH _ _ hg, by omega, h2, by simp [putCells, h3], ?_⟩⟩) fun k h => .inl (Ent.sl_fp.2 (show some g = some k from Ent.sl_fp.1 h))⟩
    have h6 := zfM (cur := cur) ((pdL l0_).flatMap Gstep.enc) (by
      rw [zbZ Gstep.enc 2 Gstep.len, hl, h3]; exact Nat.mul_le_mul_right _ h1)
    rw [zbZ Gstep.enc 2 Gstep.len] at h6; rw [← hfl] at h6 ⊢; simpa using h6
end Go.Proofs.Ytlfalfmebomfbaa
namespace Go.Proofs.Ytlfalfmebomfbaa
open Go.RowKit
def zao (l : List GMove) (works : List GWork) (tower : Int) : Option (List Gstep) :=
  zbh (fun (s_1 : List Gstep) =>
    (zbY s_1).bind fun r58 =>
    some r58)
  (fun k2 =>
    zaM (fun (i_5 : Nat) (next4 : List Gstep → Option (List Gstep)) (s_3 : List Gstep) =>
      zbh (fun (s_7 : List Gstep) =>
        next4 s_7)
      (fun k8 =>
        (bif (((((decide ((l.length : Int) ≤ (i_5 : Int))) || (decide (¬ (nth l i_5).Tower = tower))) || (decide ((nth works i_5).Start < 0))) || (decide (1048576 < (nth works i_5).End))) || (decide ((nth works i_5).End ≤ (nth works i_5).Start))) then
          k8 s_3
          else
          grd (room (s_3 ++ [(Gstep.mk ((nth works i_5).Start) 1), (Gstep.mk ((nth works i_5).End) (-1))]).length 16) <|
          k8 (s_3 ++ [(Gstep.mk ((nth works i_5).Start) 1), (Gstep.mk ((nth works i_5).End) (-1))]))))
    (fun (s_3 : List Gstep) =>
      k2 s_3) (works.length - 0) 0 [])
theorem zcV (F0 : Frz) (w : World) (hF0 : F0.At w) (l : List GMove) (vl : Value) (hl : SlC F0 vl 6 (l.map GMove.enc)) (works : List GWork) (vworks : Value) (hworks : SlC F0 vworks 3 (works.map GWork.enc)) (tower : Int) (r : List Gstep) (hr : zao l works tower = some r) : Calls Try.prog 13 #[vl, vworks, .int .i64 tower] w fun e w' => ∃ (y : Value), (True) ∧ e = .returned (y) ∧ FxM F0 w (fps []) F0 [.sl y 53 2 r.length (r.flatMap Gstep.enc)] w' := by
  have hk := hr; unfold zao at hk; haveI := hl.oneC; haveI := hworks.oneC; obtain ⟨S0, F1, rfl, hS0, hp0⟩ := zby hF0; rw [zfv]; refine zaa Try.func13 rfl rfl rfl hp0 ?_; refine T.sr ?_; refine TL.run 1 rfl ?_; refine TL.nx ?_; refine TL.run 1 rfl ?_; refine TL.slNil 53 2 ?_; refine TL.ns (T.seq (T.sr ?_)); refine TL.run 1 rfl ?_; refine TL.y (Yv.aL rfl rfl hworks (List.length_map _)) ?_; have hm11 : works.length ≤ 9223372036854775807 := (List.length_map _) ▸ hworks.max; refine TL.run 1 rfl ?_; refine TL.ns ?_; have hq := zah hk; clear hk; obtain ⟨k2, hk2, hk⟩ := hq; (try dsimp only at hk); refine T.av (ι := List Gstep × Value) (fun z => [(7, z.2)]) (fun z => [.sl z.2 53 2 z.1.length (z.1.flatMap Gstep.enc), .fr F1]) (fun z => k2 z.1 = some r ∧ OneC z.2) ?_ ?_
  · have hq := za7 hk; clear hk; obtain ⟨f4, kk4, hf4, hkk4, hk⟩ := hq; refine T.block ?_; refine T.loop (ι := Nat × List Gstep × Value) (fun z => [(0, vl), (2, .int .i64 tower), (7, z.2.2), (10, vworks), (11, .int .i64 (works.length : Int)), (12, .int .i64 (z.1 : Int))]) (fun z => [.sl z.2.2 53 2 z.2.1.length (z.2.1.flatMap Gstep.enc), .fr F1]) (fun z => zaM f4 kk4 (works.length - z.1) z.1 z.2.1 = some r ∧ OneC z.2.2) (fun z => works.length - z.1) (0, [], (.slice none 0 0)) ?_ ?_ ?_ ?_
    · exact ⟨hk, inferInstance⟩
    · exact (.c (.c (.c (.c (.c (.c .nil))))))
    · exact List.Sublist.refl _
    · rintro ⟨i_5, s_3, vs_3⟩ ⟨hk, os_3⟩; (try dsimp only at *); refine T.sr ?_; refine TL.run 1 rfl ?_; refine TL.ns (T.seq ?_); refine T.cond rfl (fun h6 => ?_) (fun h6 => ?_)
      · have p6 := of_decide_eq_true h6; rw [zbV (by omega)] at hk; generalize hn4 : zaM f4 kk4 (works.length - (i_5 + 1)) (i_5 + 1) = next4 at hk; rw [← hf4] at hk; (try dsimp only at hk); refine T.skip (K.seq (T.seq ?_)); have hq := zah hk; clear hk; obtain ⟨k8, hk8, hk⟩ := hq; (try dsimp only at hk); refine T.av (ι := List Gstep × Value) (fun z => [(0, vl), (2, .int .i64 tower), (7, z.2), (10, vworks), (11, .int .i64 (works.length : Int)), (12, .int .i64 (i_5 : Int))]) (fun z => [.sl z.2 53 2 z.1.length (z.1.flatMap Gstep.enc), .fr F1]) (fun z => k8 z.1 = some r ∧ OneC z.2) ?_ ?_
        · refine T.block (T.sr ?_); refine TL.run 1 rfl ?_; refine TL.y (Yv.aM (i := i_5) rfl rfl rfl hworks (List.length_map _) rfl (by omega)) ?_; refine TL.y (Yv.bh 1 (i := i_5) rfl rfl rfl hworks (by omega) rfl rfl rfl) ?_; refine TL.e (Ew.alloc rfl) ?_; rintro _ _ ⟨g9, rfl, rfl⟩; refine TL.run 1 rfl ?_; refine TL.e0 (Ew.ag 0 rfl rfl rfl rfl rfl rfl) ?_; rintro _ _ ⟨rfl, rfl⟩; refine TL.ns (T.seq (T.seq ?_)); refine T.av (ι := Unit) (fun z => [(0, vl), (2, .int .i64 tower), (7, vs_3), (9, .pointer (some ⟨g9, 0, none⟩)), (10, vworks), (11, .int .i64 (works.length : Int)), (12, .int .i64 (i_5 : Int)), (46, .bool (((((decide ((l.length : Int) ≤ (i_5 : Int))) || (decide (¬ (nth l i_5).Tower = tower))) || (decide ((nth works i_5).Start < 0))) || (decide (1048576 < (nth works i_5).End))) || (decide ((nth works i_5).End ≤ (nth works i_5).Start))))]) (fun z => [.row g9 26 [.int .i64 ((nth works i_5).Station), .int .i64 ((nth works i_5).Start), .int .i64 ((nth works i_5).End)], .sl vs_3 53 2 s_3.length (s_3.flatMap Gstep.enc), .fr F1]) (fun z => True) ?_ ?_
          · refine T.region ?_; refine TL.run 2 rfl ?_; refine TL.y (Yv.aL rfl rfl hl (List.length_map _)) ?_; have hm19 : l.length ≤ 9223372036854775807 := (List.length_map _) ▸ hl.max; refine TL.run 2 rfl ?_; refine TL.gs rfl rfl rfl (fun h9 => ?_) (fun h9 => ?_)
            · have p9 := of_decide_eq_true h9; refine TL.run 25 rfl ?_; refine TL.nil ?_; exact K.as () trivial (.c (.c (.c (.c (.c (.c (.c (.b (zci (zci (zci (zci h9)))).symm .nil)))))))) (List.Sublist.refl _)
            · have p9 := of_decide_eq_false h9; refine TL.run 2 rfl ?_; refine TL.y (Yv.aM (i := i_5) rfl rfl rfl hl (List.length_map _) rfl (by omega)) ?_; refine TL.y (Yv.bo rfl rfl hl (List.length_map _) (by omega)) ?_; refine TL.y (Yv.aJ 2 (i := i_5) (j := 3) rfl rfl rfl hl (by omega) rfl rfl) ?_; refine TL.run 4 rfl ?_; refine TL.gs rfl rfl rfl (fun h10 => ?_) (fun h10 => ?_)
              · have p10 := of_decide_eq_true h10; refine TL.run 16 rfl ?_; refine TL.nil ?_; exact K.as () trivial (.c (.c (.c (.c (.c (.c (.c (.b (zci (zci (zci (zcQ h9 h10)))).symm .nil)))))))) (List.Sublist.refl _)
              · have p10 := of_decide_eq_false h10; refine TL.y (Yv.fieldAddr rfl rfl) ?_; refine TL.y (Yv.ad 0 rfl rfl rfl rfl) ?_; refine TL.run 3 rfl ?_; refine TL.gs rfl rfl rfl (fun h11 => ?_) (fun h11 => ?_)
                · have p11 := of_decide_eq_true h11; refine TL.run 11 rfl ?_; refine TL.nil ?_; exact K.as () trivial (.c (.c (.c (.c (.c (.c (.c (.b (zci (zci (zcQ (zcQ h9 h10) h11))).symm .nil)))))))) (List.Sublist.refl _)
                · have p11 := of_decide_eq_false h11; refine TL.y (Yv.fieldAddr rfl rfl) ?_; refine TL.y (Yv.ad 0 rfl rfl rfl rfl) ?_; refine TL.run 3 rfl ?_; refine TL.gs rfl rfl rfl (fun h12 => ?_) (fun h12 => ?_)
                  · have p12 := of_decide_eq_true h12; refine TL.run 6 rfl ?_; refine TL.nil ?_; exact K.as () trivial (.c (.c (.c (.c (.c (.c (.c (.b (zci (zcQ (zcQ (zcQ h9 h10) h11) h12)).symm .nil)))))))) (List.Sublist.refl _)
                  · have p12 := of_decide_eq_false h12; refine TL.y (Yv.fieldAddr rfl rfl) ?_; refine TL.y (Yv.ad 0 rfl rfl rfl rfl) ?_; refine TL.y (Yv.fieldAddr rfl rfl) ?_; refine TL.y (Yv.ad 0 rfl rfl rfl rfl) ?_; refine TL.run 2 rfl ?_; refine TL.nil ?_; exact K.as () trivial (.c (.c (.c (.c (.c (.c (.c (.b (or_f (zcQ (zcQ (zcQ h9 h10) h11) h12)) .nil)))))))) (List.Sublist.refl _)
          · rintro _ _; have hm19 : l.length ≤ 9223372036854775807 := (List.length_map _) ▸ hl.max; refine T.cond rfl (fun h13 => ?_) (fun h13 => ?_)
            · replace hk := zad hk h13; refine T.exit (K.aa (K.ac ?_)); refine K.pick [1, 2] rfl (by decide) ?_; exact K.as (s_3, vs_3) ⟨hk, inferInstance⟩ (.c (.c (.c (.c (.c (.c .nil)))))) (List.Sublist.refl _)
            · have p13 := h13; (try simp only [nfB] at p13); replace hk := zac hk h13; refine T.skip (K.seq ?_); have hq : (room (s_3 ++ [(Gstep.mk ((nth works i_5).Start) 1), (Gstep.mk ((nth works i_5).End) (-1))]).length 16) ∧ _ := zap hk; clear hk; obtain ⟨g55, hk⟩ := hq; (try dsimp only at hk); refine T.region ?_; refine TL.run 1 rfl ?_; refine TL.y (Yv.fieldAddr rfl rfl) ?_; refine TL.y (Yv.ad 0 rfl rfl rfl rfl) ?_; refine TL.y (Yv.build rfl rfl) ?_; refine TL.y (Yv.fieldAddr rfl rfl) ?_; refine TL.y (Yv.ad 0 rfl rfl rfl rfl) ?_; refine TL.y (Yv.build rfl rfl) ?_; refine TL.e (Ew.buildSlice rfl rfl rfl (by decide)) ?_; rintro _ _ ⟨g54, rfl, rfl⟩; refine TL.e (Ew.aS 2 0 rfl rfl rfl rfl rfl rfl (zdF (ys := [(Gstep.mk ((nth works i_5).Start) 1), (Gstep.mk ((nth works i_5).End) (-1))]) rfl) (zcL (enc := Gstep.enc) (xs := s_3) (ys := [(Gstep.mk ((nth works i_5).Start) 1), (Gstep.mk ((nth works i_5).End) (-1))])) g55 (by decide)) ?_; rintro v55 _ ⟨hv55, rfl⟩; refine TL.run 1 rfl ?_; refine TL.nil (K.ab ?_); refine K.pick [2, 3] rfl (by decide) ?_; exact K.as ((s_3 ++ [(Gstep.mk ((nth works i_5).Start) 1), (Gstep.mk ((nth works i_5).End) (-1))]), v55) ⟨hk, inferInstance⟩ (.c (.c (.c (.c (.c (.c .nil)))))) (List.Sublist.refl _)
        · rintro ⟨s_7, vs_7⟩ ⟨hk, os_7⟩; (try dsimp only at *); rw [← hk8] at hk; (try dsimp only at hk); refine T.region ?_; refine TL.y (Yv.ah rfl rfl rfl (by omega)) ?_; refine TL.run 1 rfl ?_; refine TL.nil ?_; rw [← hn4] at hk; exact K.next ((i_5 + 1), s_7, vs_7) ⟨hk, inferInstance⟩ (by dsimp only; omega) (.c (.c (.c (.c (.c (.c .nil)))))) (List.Sublist.refl _)
      · have p6 := of_decide_eq_false h6; rw [zbW (by omega), ← hkk4] at hk; (try dsimp only at hk); refine T.exit (K.aa (K.aa (K.ac ?_))); exact K.as (s_3, vs_3) ⟨hk, inferInstance⟩ (.c .nil) (List.Sublist.refl _)
  · rintro ⟨s_1, vs_1⟩ ⟨hk, os_1⟩; (try dsimp only at *); rw [← hk2] at hk; (try dsimp only at hk); refine T.seq ?_; have hq := za2 hk; clear hk; obtain ⟨r58, hr58, hk⟩ := hq; (try dsimp only at hk); refine T.region ?_; refine TL.run 1 rfl ?_; refine TL.e (Ew.aO [0, 1] [.sl vs_1 53 2 s_1.length (s_1.flatMap Gstep.enc)] [] rfl rfl rfl rfl (by decide) (fun w hw hw2 hF => ze8 _ w hF s_1 vs_1 hw2.takes.1 hw2.takes.2 r58 hr58)) ?_; rintro _ _ ⟨⟨⟩, -, rfl, rfl⟩; dsimp only [List.cons_append, List.nil_append]; refine TL.nx ?_; refine TL.run 2 rfl ?_; refine TL.ns (T.ret ?_); obtain rfl := Option.some.inj hk; exact K.al rfl rfl (fun w' hw => ⟨vs_1, trivial, rfl, FxM.of (hw.pick (idx := [0, 1]) rfl (by decide)) hS0 (Frz.Le.refl _)⟩)
def zaC (fuel : Nat) (l : List GMove) (works : List GWork) (tower : Int) (limit : Int) : Option (List Int × List Int) :=
  zbh (fun (s3 : List Int × List Int) =>
    some (s3.1, s3.2))
  (fun k3 =>
    grd (limit ≤ 9223372036854775807) <|
    zaM (fun (w_7 : Nat) (next6 : (List Int × List Int) → Option (List Int × List Int)) (s6 : List Int × List Int) =>
      zbh (fun (n_9 : Int) =>
        (bif decide (0 < n_9) then
          grd (room (s6.1 ++ [(w_7 : Int)]).length 8) <|
          grd (room (s6.2 ++ [n_9]).length 8) <|
          next6 ((s6.1 ++ [(w_7 : Int)]), (s6.2 ++ [n_9]))
          else
          next6 (s6.1, s6.2)))
      (fun k10 =>
        zaH (fun (next13 : (Int × Int) → Option (List Int × List Int)) (s13 : Int × Int) =>
          (bif ((decide (s13.2 < (l.length : Int))) && (decide (s13.2 < (works.length : Int)))) then
            grd (0 ≤ s13.2 ∧ s13.2 < (works.length : Int)) <|
            (bif (((((decide ((nth l s13.2.toNat).Tower = tower)) && (decide (0 ≤ (nth works s13.2.toNat).Start))) && (decide ((nth works s13.2.toNat).End ≤ 1048576))) && (decide ((nth works s13.2.toNat).Start ≤ (w_7 : Int)))) && (decide ((w_7 : Int) < (nth works s13.2.toNat).End))) then
              next13 (wI (s13.1 + 1), (s13.2 + 1))
              else
              next13 (s13.1, (s13.2 + 1)))
            else
            k10 s13.1)) fuel (0, 0)))
    (fun (s6 : List Int × List Int) =>
      k3 (s6.1, s6.2)) (limit.toNat - 0) 0 ([], []))
theorem zdo (F0 : Frz) (w : World) (hF0 : F0.At w) (l : List GMove) (vl : Value) (hl : SlC F0 vl 6 (l.map GMove.enc)) (works : List GWork) (vworks : Value) (hworks : SlC F0 vworks 3 (works.map GWork.enc)) (tower : Int) (limit : Int) (fuel : Nat) (r : List Int × List Int) (hr : zaC fuel l works tower limit = some r) : Calls Try.prog 6 #[vl, vworks, .int .i64 tower, .int .i64 limit] w fun e w' => ∃ (y : Value × Value) (G : Frz), (SlC G y.1 1 (r.1.map eI) ∧ SlC G y.2 1 (r.2.map eI)) ∧ e = .returned (.tuple #[y.1, y.2]) ∧ Fx F0 w G w' := by
  have hk := hr; unfold zaC at hk; haveI := hl.oneC; haveI := hworks.oneC; obtain ⟨S0, F1, rfl, hS0, hp0⟩ := zby hF0; refine zaa Try.func6 rfl rfl rfl hp0 ?_; refine T.sr ?_; refine TL.run 2 rfl ?_; refine TL.nx ?_; refine TL.run 1 rfl ?_; refine TL.slNil 3 1 ?_; refine TL.run 1 rfl ?_; refine TL.slNil 3 1 ?_; refine TL.ns (T.seq (T.sr ?_)); refine TL.run 1 rfl ?_; refine TL.ns ?_; have hq := zah hk; clear hk; obtain ⟨k3, hk3, hk⟩ := hq; (try dsimp only at hk); refine T.av (ι := List Int × Value × List Int × Value) (fun z => [(10, z.2.1), (11, z.2.2.2)]) (fun z => [.sl z.2.1 3 1 z.1.length (z.1.flatMap eI), .sl z.2.2.2 3 1 z.2.2.1.length (z.2.2.1.flatMap eI), .fr F1]) (fun z => k3 (z.1, z.2.2.1) = some r ∧ OneC z.2.1 ∧ OneC z.2.2.2) ?_ ?_
  · have hq : (limit ≤ 9223372036854775807) ∧ _ := zap hk; clear hk; obtain ⟨gl6, hk⟩ := hq; (try dsimp only at hk); have hq := za7 hk; clear hk; obtain ⟨f6, kk6, hf6, hkk6, hk⟩ := hq; refine T.block ?_; refine T.pick [1, 0, 2] rfl (by decide) ?_; refine T.loop (ι := Nat × List Int × Value × List Int × Value) (fun z => [(0, vl), (1, vworks), (2, .int .i64 tower), (3, .int .i64 limit), (10, z.2.2.1), (11, z.2.2.2.2), (12, .int .i64 (z.1 : Int))]) (fun z => [.sl z.2.2.1 3 1 z.2.1.length (z.2.1.flatMap eI), .sl z.2.2.2.2 3 1 z.2.2.2.1.length (z.2.2.2.1.flatMap eI), .fr F1]) (fun z => zaM f6 kk6 (limit.toNat - z.1) z.1 (z.2.1, z.2.2.2.1) = some r ∧ OneC z.2.2.1 ∧ OneC z.2.2.2.2) (fun z => limit.toNat - z.1) (0, [], (.slice none 0 0), [], (.slice none 0 0)) ?_ ?_ ?_ ?_
    · exact ⟨hk, inferInstance, inferInstance⟩
    · exact (.c (.c (.c (.c (.c (.c (.c .nil)))))))
    · exact List.Sublist.refl _
    · rintro ⟨w_7, weeks_4, vweeks_4, many_5, vmany_5⟩ ⟨hk, oweeks_4, omany_5⟩; (try dsimp only at *); refine T.seq (T.sr ?_); refine TL.run 3 rfl ?_; refine TL.ns ?_; refine T.cond rfl (fun h8 => ?_) (fun h8 => ?_)
      · have p8 := of_decide_eq_true h8; rw [zbV (by omega)] at hk; generalize hn6 : zaM f6 kk6 (limit.toNat - (w_7 + 1)) (w_7 + 1) = next6 at hk; rw [← hf6] at hk; (try dsimp only at hk); refine T.skip (K.seq (T.seq (T.block (T.sr ?_)))); refine TL.run 1 rfl ?_; refine TL.ns (T.seq (T.sr ?_)); refine TL.run 1 rfl ?_; refine TL.ns ?_; have hq := zah hk; clear hk; obtain ⟨k10, hk10, hk⟩ := hq; (try dsimp only at hk); refine T.av (ι := Int) (fun z => [(0, vl), (1, vworks), (2, .int .i64 tower), (3, .int .i64 limit), (10, vweeks_4), (11, vmany_5), (12, .int .i64 (w_7 : Int)), (13, .int .i64 z)]) (fun z => [.sl vweeks_4 3 1 weeks_4.length (weeks_4.flatMap eI), .sl vmany_5 3 1 many_5.length (many_5.flatMap eI), .fr F1]) (fun z => k10 z = some r) ?_ ?_
        · have hq := zbo hk; clear hk; obtain ⟨f13, hf13, hk⟩ := hq; refine T.block ?_; refine T.loop (ι := Nat × Int × Int) (fun z => [(0, vl), (1, vworks), (2, .int .i64 tower), (3, .int .i64 limit), (10, vweeks_4), (11, vmany_5), (12, .int .i64 (w_7 : Int)), (13, .int .i64 z.2.1), (14, .int .i64 z.2.2)]) (fun z => [.sl vweeks_4 3 1 weeks_4.length (weeks_4.flatMap eI), .sl vmany_5 3 1 many_5.length (many_5.flatMap eI), .fr F1]) (fun z => zaH f13 z.1 (z.2.1, z.2.2) = some r) (fun z => z.1) (fuel, 0, 0) ?_ ?_ ?_ ?_
          · exact hk
          · exact (.c (.c (.c (.c (.c (.c (.c (.c (.c .nil)))))))))
          · exact List.Sublist.refl _
          · rintro ⟨m_14, n_11, i_12⟩ hk; (try dsimp only at *); have hq := zbE hk; clear hk; obtain ⟨m_14', rfl, hk⟩ := hq; generalize hn13 : zaH f13 m_14' = next13 at hk; rw [← hf13] at hk; (try dsimp only at hk); refine T.seq (T.seq ?_); refine T.av (ι := Unit) (fun z => [(0, vl), (1, vworks), (2, .int .i64 tower), (3, .int .i64 limit), (10, vweeks_4), (11, vmany_5), (12, .int .i64 (w_7 : Int)), (13, .int .i64 n_11), (14, .int .i64 i_12), (30, .bool ((decide (i_12 < (l.length : Int))) && (decide (i_12 < (works.length : Int)))))]) (fun z => [.sl vweeks_4 3 1 weeks_4.length (weeks_4.flatMap eI), .sl vmany_5 3 1 many_5.length (many_5.flatMap eI), .fr F1]) (fun z => True) ?_ ?_
            · refine T.region ?_; refine TL.run 2 rfl ?_; refine TL.y (Yv.aL rfl rfl hl (List.length_map _)) ?_; have hm23 : l.length ≤ 9223372036854775807 := (List.length_map _) ▸ hl.max; refine TL.run 2 rfl ?_; refine TL.gs rfl rfl rfl (fun h15 => ?_) (fun h15 => ?_)
              · have p15 := of_decide_eq_true h15; refine TL.run 2 rfl ?_; refine TL.y (Yv.aL rfl rfl hworks (List.length_map _)) ?_; have hm28 : works.length ≤ 9223372036854775807 := (List.length_map _) ▸ hworks.max; refine TL.run 2 rfl ?_; refine TL.nil ?_; exact K.as () trivial (.c (.c (.c (.c (.c (.c (.c (.c (.c (.b (zfy h15) .nil)))))))))) (List.Sublist.refl _)
              · have p15 := of_decide_eq_false h15; refine TL.run 5 rfl ?_; refine TL.nil ?_; exact K.as () trivial (.c (.c (.c (.c (.c (.c (.c (.c (.c (.b (za0 h15).symm .nil)))))))))) (List.Sublist.refl _)
            · rintro _ _; have hm23 : l.length ≤ 9223372036854775807 := (List.length_map _) ▸ hl.max; have hm28 : works.length ≤ 9223372036854775807 := (List.length_map _) ▸ hworks.max; refine T.cond rfl (fun h16 => ?_) (fun h16 => ?_)
              · have p16 := h16; (try simp only [nfB] at p16); replace hk := zad hk h16; refine T.skip (K.seq (T.seq (T.block (T.seq ?_)))); have hq : (0 ≤ i_12 ∧ i_12 < (works.length : Int)) ∧ _ := zap hk; clear hk; obtain ⟨g35, hk⟩ := hq; (try dsimp only at hk); refine T.region ?_; refine TL.run 2 rfl ?_; refine TL.y (Yv.aM (i := i_12.toNat) rfl rfl rfl hworks (List.length_map _) (by omega) (by omega)) ?_; refine TL.y (Yv.bh 2 (i := i_12.toNat) rfl rfl rfl hworks (by omega) rfl rfl rfl) ?_; refine TL.e (Ew.alloc rfl) ?_; rintro _ _ ⟨g15, rfl, rfl⟩; refine TL.e0 (Ew.ag 0 rfl rfl rfl rfl rfl rfl) ?_; rintro _ _ ⟨rfl, rfl⟩; refine TL.ns (T.seq ?_); refine T.av (ι := Unit) (fun z => [(0, vl), (1, vworks), (2, .int .i64 tower), (3, .int .i64 limit), (10, vweeks_4), (11, vmany_5), (12, .int .i64 (w_7 : Int)), (13, .int .i64 n_11), (14, .int .i64 i_12), (65, .bool (((((decide ((nth l i_12.toNat).Tower = tower)) && (decide (0 ≤ (nth works i_12.toNat).Start))) && (decide ((nth works i_12.toNat).End ≤ 1048576))) && (decide ((nth works i_12.toNat).Start ≤ (w_7 : Int)))) && (decide ((w_7 : Int) < (nth works i_12.toNat).End))))]) (fun z => [.row g15 26 [.int .i64 ((nth works i_12.toNat).Station), .int .i64 ((nth works i_12.toNat).Start), .int .i64 ((nth works i_12.toNat).End)], .sl vweeks_4 3 1 weeks_4.length (weeks_4.flatMap eI), .sl vmany_5 3 1 many_5.length (many_5.flatMap eI), .fr F1]) (fun z => True) ?_ ?_
                · refine T.region ?_; refine TL.run 2 rfl ?_; refine TL.y (Yv.aM (i := i_12.toNat) rfl rfl rfl hl (List.length_map _) (by omega) (by omega)) ?_; refine TL.y (Yv.bo rfl rfl hl (List.length_map _) (by omega)) ?_; refine TL.y (Yv.aJ 3 (i := i_12.toNat) (j := 3) rfl rfl rfl hl (by omega) rfl rfl) ?_; refine TL.run 3 rfl ?_; refine TL.gs rfl rfl rfl (fun h17 => ?_) (fun h17 => ?_)
                  · have p17 := of_decide_eq_true h17; refine TL.y (Yv.fieldAddr rfl rfl) ?_; refine TL.y (Yv.ad 0 rfl rfl rfl rfl) ?_; refine TL.run 3 rfl ?_; refine TL.gs rfl rfl rfl (fun h18 => ?_) (fun h18 => ?_)
                    · have p18 := of_decide_eq_true h18; refine TL.y (Yv.fieldAddr rfl rfl) ?_; refine TL.y (Yv.ad 0 rfl rfl rfl rfl) ?_; refine TL.run 3 rfl ?_; refine TL.gs rfl rfl rfl (fun h19 => ?_) (fun h19 => ?_)
                      · have p19 := of_decide_eq_true h19; refine TL.y (Yv.fieldAddr rfl rfl) ?_; refine TL.y (Yv.ad 0 rfl rfl rfl rfl) ?_; refine TL.run 4 rfl ?_; refine TL.gs rfl rfl rfl (fun h20 => ?_) (fun h20 => ?_)
                        · have p20 := of_decide_eq_true h20; refine TL.run 1 rfl ?_; refine TL.y (Yv.fieldAddr rfl rfl) ?_; refine TL.y (Yv.ad 0 rfl rfl rfl rfl) ?_; refine TL.run 2 rfl ?_; refine TL.nil ?_; exact K.as () trivial (.c (.c (.c (.c (.c (.c (.c (.c (.c (.b (zfy (zbu (zbu (zbu h17 h18) h19) h20)) .nil)))))))))) (List.Sublist.refl _)
                        · have p20 := of_decide_eq_false h20; refine TL.run 5 rfl ?_; refine TL.nil ?_; exact K.as () trivial (.c (.c (.c (.c (.c (.c (.c (.c (.c (.b (za0 (zbu (zbu (zbu h17 h18) h19) h20)).symm .nil)))))))))) (List.Sublist.refl _)
                      · have p19 := of_decide_eq_false h19; refine TL.run 11 rfl ?_; refine TL.nil ?_; exact K.as () trivial (.c (.c (.c (.c (.c (.c (.c (.c (.c (.b (za0 (za0 (zbu (zbu h17 h18) h19))).symm .nil)))))))))) (List.Sublist.refl _)
                    · have p18 := of_decide_eq_false h18; refine TL.run 16 rfl ?_; refine TL.nil ?_; exact K.as () trivial (.c (.c (.c (.c (.c (.c (.c (.c (.c (.b (za0 (za0 (za0 (zbu h17 h18)))).symm .nil)))))))))) (List.Sublist.refl _)
                  · have p17 := of_decide_eq_false h17; refine TL.run 21 rfl ?_; refine TL.nil ?_; exact K.as () trivial (.c (.c (.c (.c (.c (.c (.c (.c (.c (.b (za0 (za0 (za0 (za0 h17)))).symm .nil)))))))))) (List.Sublist.refl _)
                · rintro _ _; refine T.cond rfl (fun h21 => ?_) (fun h21 => ?_)
                  · have p21 := h21; (try simp only [nfB] at p21); replace hk := zad hk h21; refine T.region ?_; refine TL.run 1 rfl ?_; refine TL.y (Yv.ak (v := .int .i64 (wI (n_11 + 1))) rfl) ?_; refine TL.run 1 rfl ?_; refine TL.nil (K.ab (K.seq (T.region ?_))); refine TL.run 1 rfl ?_; refine TL.y (Yv.ah rfl rfl rfl (by omega)) ?_; refine TL.run 1 rfl ?_; refine TL.nil ?_; rw [← hn13] at hk; refine K.pick [1, 2, 3] rfl (by decide) ?_; exact K.next (m_14', wI (n_11 + 1), (i_12 + 1)) hk (by dsimp only; omega) (.c (.c (.c (.c (.c (.c (.c (.c (.c .nil))))))))) (List.Sublist.refl _)
                  · replace hk := zac hk h21; refine T.skip (K.ab (K.seq (T.region ?_))); refine TL.run 1 rfl ?_; refine TL.y (Yv.ah rfl rfl rfl (by omega)) ?_; refine TL.run 1 rfl ?_; refine TL.nil ?_; rw [← hn13] at hk; refine K.pick [1, 2, 3] rfl (by decide) ?_; exact K.next (m_14', n_11, (i_12 + 1)) hk (by dsimp only; omega) (.c (.c (.c (.c (.c (.c (.c (.c (.c .nil))))))))) (List.Sublist.refl _)
              · replace hk := zac hk h16; refine T.exit (K.aa (K.aa (K.ac ?_))); exact K.as n_11 hk (.c (.c (.c (.c (.c (.c (.c (.c .nil)))))))) (List.Sublist.refl _)
        · rintro n_9 hk; rw [← hk10] at hk; (try dsimp only at hk); refine T.sr ?_; refine TL.run 2 rfl ?_; refine TL.ns ?_; refine T.cond rfl (fun h22 => ?_) (fun h22 => ?_)
          · have p22 := of_decide_eq_true h22; replace hk := zad hk h22; have hq : (room (weeks_4 ++ [(w_7 : Int)]).length 8) ∧ _ := zap hk; clear hk; obtain ⟨g73, hk⟩ := hq; have hq : (room (many_5 ++ [n_9]).length 8) ∧ _ := zap hk; clear hk; obtain ⟨g77, hk⟩ := hq; (try dsimp only at hk); refine T.region ?_; refine TL.run 2 rfl ?_; refine TL.e (Ew.buildSlice rfl rfl rfl (by decide)) ?_; rintro _ _ ⟨g72, rfl, rfl⟩; refine TL.e (Ew.aS 1 0 rfl rfl rfl rfl rfl rfl (zdF (ys := [(w_7 : Int)]) rfl) (zcL (enc := eI) (xs := weeks_4) (ys := [(w_7 : Int)])) g73 (by decide)) ?_; rintro v73 _ ⟨hv73, rfl⟩; refine TL.run 2 rfl ?_; refine TL.e (Ew.buildSlice rfl rfl rfl (by decide)) ?_; rintro _ _ ⟨g76, rfl, rfl⟩; refine TL.e (Ew.aS 3 0 rfl rfl rfl rfl rfl rfl (zdF (ys := [n_9]) rfl) (zcL (enc := eI) (xs := many_5) (ys := [n_9])) g77 (by decide)) ?_; rintro v77 _ ⟨hv77, rfl⟩; refine TL.run 2 rfl ?_; refine TL.nil (K.ab (K.seq (T.region ?_))); refine TL.run 1 rfl ?_; refine TL.y (Yv.ah rfl rfl rfl (by omega)) ?_; refine TL.run 1 rfl ?_; refine TL.nil ?_; rw [← hn6] at hk; refine K.pick [2, 3, 4] rfl (by decide) ?_; exact K.next ((w_7 + 1), (weeks_4 ++ [(w_7 : Int)]), v73, (many_5 ++ [n_9]), v77) ⟨hk, inferInstance, inferInstance⟩ (by dsimp only; omega) (.c (.c (.c (.c (.c (.c (.c .nil))))))) (List.Sublist.refl _)
          · have p22 := of_decide_eq_false h22; replace hk := zac hk h22; refine T.skip (K.ab (K.seq (T.region ?_))); refine TL.run 1 rfl ?_; refine TL.y (Yv.ah rfl rfl rfl (by omega)) ?_; refine TL.run 1 rfl ?_; refine TL.nil ?_; rw [← hn6] at hk; exact K.next ((w_7 + 1), weeks_4, vweeks_4, many_5, vmany_5) ⟨hk, inferInstance, inferInstance⟩ (by dsimp only; omega) (.c (.c (.c (.c (.c (.c (.c .nil))))))) (List.Sublist.refl _)
      · have p8 := of_decide_eq_false h8; rw [zbW (by omega), ← hkk6] at hk; (try dsimp only at hk); refine T.exit (K.aa (K.aa (K.ac ?_))); exact K.as (weeks_4, vweeks_4, many_5, vmany_5) ⟨hk, inferInstance, inferInstance⟩ (.c (.c .nil)) (List.Sublist.refl _)
  · rintro ⟨weeks_1, vweeks_1, many_2, vmany_2⟩ ⟨hk, oweeks_1, omany_2⟩; (try dsimp only at *); rw [← hk3] at hk; (try dsimp only at hk); refine T.sr ?_; refine TL.run 4 rfl ?_; refine TL.ns (T.ret ?_); refine K.be (fun w hw => hw.freezeS (i := 2) (j := 0) (by decide) rfl rfl) ?_; rintro F2 ⟨le1_2, hz2⟩; dsimp only [List.set, List.eraseIdx]; have hfF2 := hz2.toF rfl (fun _ => rfl); haveI := hfF2.oneC; refine K.be (fun w hw => hw.freezeS (i := 1) (j := 0) (by decide) rfl rfl) ?_; rintro F3 ⟨le2_3, hz3⟩; dsimp only [List.set, List.eraseIdx]; have le1_3 := le1_2.trans le2_3; have hfF3 := hz3.toF rfl (fun _ => rfl); haveI := hfF3.oneC; obtain rfl := Option.some.inj hk; exact K.aH rfl rfl rfl (fun w' hw => ⟨(vweeks_1, vmany_2), F3.toFrz, ⟨(SlC.mono hfF2 le2_3), hfF3⟩, rfl, Fx.of hw (i := 0) rfl hS0 le1_3⟩)
end Go.Proofs.Ytlfalfmebomfbaa
