/- Loops over iterator functions. -/
import Derived.Test.YtljgejbmimapdaaDoorTf
set_option linter.unusedVariables false
set_option linter.unusedSectionVars false
set_option linter.unusedSimpArgs false
namespace Go.Proofs.YtljgejbmimapdaaDoor
open Go.RowKit

/-- The record of a loop over a function. -/
@[irreducible] def Ent.lp (l : Nat) (r : Loop) : Ent where
  fp := (· = l)
  ok w := w.heap[l]? = some (.loop r)
  loc h k := (h l rfl).trans k
  lt h k e := by subst e; exact (Array.getElem?_eq_some_iff.1 h).1
  nd h k e c := by subst e; rw [h]; simp
theorem Ent.lp_fp {l : Nat} {r : Loop} {k : Nat} : (Ent.lp l r).fp k ↔ k = l := by unfold Ent.lp; exact Iff.rfl
theorem Ent.lp_ok {l : Nat} {r : Loop} {w : World} : (Ent.lp l r).ok w ↔ w.heap[l]? = some (.loop r) := by unfold Ent.lp; exact Iff.rfl

section
variable {P : Program} {n : Nat} {B D : World} {M : Nat → Prop} {Q : Exit → Act → World → Prop} {fs : SFs} {hs : HS} {ops : Array Oper} {rest : List Oper} {o : Oper} {v : Value}

/-- What an iterator function does at whatever yield: it hands over xs, element by element, until yield says no. -/
def IterAt {α : Type} (P : Program) (gf : FuncId) (lb : List Value) (enc : α → List Value) (xs : List α) (E : HS) (B : World) (M : Nat → Prop) : Prop :=
  ∀ (G : Nat → HS → Prop) (Z : HS → Prop) (l : Nat) (W : World) (g0 : HS),
    (∀ i x g w, xs[i]? = some x → G i g → Hp B M (E ++ g) w → YieldAt Fence.wide 0 P l (enc x).toArray w fun e w' => Kp w w' ∧ ((e = .returned (.bool true) ∧ ∃ g', G (i + 1) g' ∧ Hp B M (E ++ g') w') ∨ (e = .returned (.bool false) ∧ ∃ z, Z z ∧ Hp B M (E ++ z) w'))) →
    G 0 g0 → Hp B M (E ++ g0) W →
    Calls P gf (.func (.yield l) #[] #[] :: lb).toArray W fun e W' => (∃ v, e = .returned v) ∧ Kp W W' ∧ ((∃ g, G xs.length g ∧ Hp B M (E ++ g) W') ∨ ∃ z, Z z ∧ Hp B M (E ++ z) W')

/-- The same, in whatever base world. -/
def Iter {α : Type} (P : Program) (gf : FuncId) (lb : List Value) (enc : α → List Value) (xs : List α) (E : HS) : Prop := ∀ (B : World) (M : Nat → Prop), IterAt P gf lb enc xs E B M

/-- A call of yield, in the iterator. -/
theorem TL.yield {d l : Nat} {c : Operand} {xs : Array Operand} {ts : Array TypeId} {vs : List Value} {Φ : Value → HS → Prop} (hwt : Wt n ops fs o true) (hd : o.dst = some d) (hb : Nat.blt d n = true) (ho : o.op = .call { callee := .value c, args := xs, argTypes := ts })
    (hc : ev fs c = some (.func (.yield l) #[] #[])) (hv : evs fs xs.toList = some vs)
    (Y : ∀ w, Hp B M hs w → YieldAt Fence.wide 0 P l vs.toArray w fun e w' => Kp w w' ∧ ∃ v hs', e = .returned v ∧ Hp B M hs' w' ∧ Φ v hs')
    (k : ∀ v hs', Φ v hs' → TL Fence.wide P n B D M ops Q rest ((d, v) :: fs) hs') : TL Fence.wide P n B D M ops Q (o :: rest) fs hs :=
  ⟨fun a w ha hp hm => wpListIn_step fun K hK => by
    rw [if_pos (hwt a ha)]
    obtain ⟨fn, tmps, assign, body, hr, hround⟩ := Y w hp
    have h1 : xs.map a.eval = vs.toArray := by rw [← ha.evs hv]; apply Array.ext'; simp
    have hrun : (execOp a.eval o).run P w = .ok (.round l fn tmps assign body) w := by
      unfold execOp
      simp only [ho, resolve, ha.ev hc, Deferred.ofValue, h1, invoke, Sem.run_bind, Sem.run_pure, Result.andThen_ok]
      rw [← hr]
      congr 2
      apply Array.ext'
      simp
    refine wpInC (fun c' e => by rw [ho] at e; cases e) ?_
    rw [hrun, Oper.uponIn_round]
    refine ⟨(fun h => by cases h), hround.mono ?_⟩
    rintro e w' ⟨hk, v, hs', rfl, hp', hΦ⟩
    exact hK _ _ (by rw [hd]; exact (k v hs' hΦ).out _ w' (ha.put hb v) hp' ((hm.next hk).put _ _))⟩

/-- The same, for an iterator. -/
theorem TL.yieldI {α : Type} {d l i : Nat} {c : Operand} {ys : Array Operand} {ts : Array TypeId} {enc : α → List Value} {xs : List α} {x : α} {E g : HS} {G : Nat → HS → Prop} {Z : HS → Prop} (hwt : Wt n ops fs o true) (hd : o.dst = some d) (hb : Nat.blt d n = true) (ho : o.op = .call { callee := .value c, args := ys, argTypes := ts })
    (hc : ev fs c = some (.func (.yield l) #[] #[])) (hv : evs fs ys.toList = some (enc x))
    (hy : ∀ i x g w, xs[i]? = some x → G i g → Hp B M (E ++ g) w → YieldAt Fence.wide 0 P l (enc x).toArray w fun e w' => Kp w w' ∧ ((e = .returned (.bool true) ∧ ∃ g', G (i + 1) g' ∧ Hp B M (E ++ g') w') ∨ (e = .returned (.bool false) ∧ ∃ z, Z z ∧ Hp B M (E ++ z) w')))
    (hx : xs[i]? = some x) (hG : G i g) (kt : ∀ g', G (i + 1) g' → TL Fence.wide P n B D M ops Q rest ((d, .bool true) :: fs) (E ++ g')) (kf : ∀ z, Z z → TL Fence.wide P n B D M ops Q rest ((d, .bool false) :: fs) (E ++ z)) : TL Fence.wide P n B D M ops Q (o :: rest) fs (E ++ g) :=
  TL.yield (Φ := fun v hs' => (v = .bool true ∧ ∃ g', G (i + 1) g' ∧ hs' = E ++ g') ∨ (v = .bool false ∧ ∃ z, Z z ∧ hs' = E ++ z)) hwt hd hb ho hc hv (fun w hw => by
    obtain ⟨fn, tmps, assign, body, hr, hround⟩ := hy i x g w hx hG hw
    refine ⟨fn, tmps, assign, body, hr, hround.mono ?_⟩
    rintro e w' ⟨hk, ⟨rfl, g', hg, hp⟩ | ⟨rfl, z, hz, hp⟩⟩
    · exact ⟨hk, _, _, rfl, hp, .inl ⟨rfl, g', hg, rfl⟩⟩
    · exact ⟨hk, _, _, rfl, hp, .inr ⟨rfl, z, hz, rfl⟩⟩) (by
    rintro v hs' (⟨rfl, g', hg, rfl⟩ | ⟨rfl, z, hz, rfl⟩)
    · exact kt g' hg
    · exact kf z hz)

/-- How a round's body may be left. -/
def RoundQ (B D : World) (M : Nat → Prop) (H : HS → Prop) (Zx : Code → HS → Prop) (X : Ent) : Exit → Act → World → Prop
  | .normal, _, w => Kp D w ∧ ∃ z, H z ∧ Hp B M (z ++ [X]) w
  | .ret, _, w => Kp D w ∧ ∃ z, Zx .ret z ∧ Hp B M (z ++ [X]) w
  | .exit id, _, w => Kp D w ∧ ∃ z, Zx (.exit id) z ∧ Hp B M (z ++ [X]) w
  | _, _, _ => False
instance (B D : World) (M : Nat → Prop) (H : HS → Prop) (Zx : Code → HS → Prop) (X : Ent) : NP (RoundQ B D M H Zx X) := ⟨fun c a d v w h => h⟩
theorem K.round {H : HS → Prop} {Zx : Code → HS → Prop} {X : Ent} (z : HS) (hz : H z) (h : (z ++ [X]).Sublist hs) : K n B D M (RoundQ B D M H Zx X) .normal fs hs := ⟨fun _ _ _ hw hm => ⟨hm.1, z, hz, hw.sub h⟩⟩
theorem K.roundExit {H : HS → Prop} {Zx : Code → HS → Prop} {X : Ent} {id : Nat} (z : HS) (hz : Zx (.exit id) z) (h : (z ++ [X]).Sublist hs) : K n B D M (RoundQ B D M H Zx X) (.exit id) fs hs := ⟨fun _ _ _ hw hm => ⟨hm.1, z, hz, hw.sub h⟩⟩
theorem K.roundRet {H : HS → Prop} {Zx : Code → HS → Prop} {X : Ent} (z : HS) (hz : Zx .ret z) (h : (z ++ [X]).Sublist hs) : K n B D M (RoundQ B D M H Zx X) .ret fs hs := ⟨fun _ _ _ hw hm => ⟨hm.1, z, hz, hw.sub h⟩⟩

theorem Hp.upLast {X X' : Ent} {w w' : World} {S : Nat → Prop} (h : Hp B M (hs ++ [X]) w) (ho : Only S w w') (hS : ∀ g, S g → X.fp g) (hok : X'.ok w') (hfp : ∀ g, X'.fp g → X.fp g) : Hp B M (hs ++ [X']) w' := by
  have p : (hs ++ [X]).Perm (X :: hs) := List.perm_append_singleton X hs
  have p' : (X' :: hs).Perm (hs ++ [X']) := (List.perm_append_singleton X' hs).symm
  exact ((h.perm p).upd ho (fun g _ hg => hS g hg) hok (fun g hg => .inl (hfp g hg))).perm p'
theorem putParams {a : Act} {fs : SFs} {n : Nat} (ha : Fr n fs a) : ∀ (ps : List Nat) (vs : List Value) (fs : SFs) (t : Array Value), Fr n fs ⟨t, []⟩ → (∀ p ∈ ps, p < n) → ps.length = vs.length → Fr n ((ps.zip vs).reverse ++ fs) ⟨(ps.zip vs).foldl (fun t p => t.setIfInBounds p.1 p.2) t, []⟩
  | [], [], fs, t, h, _, _ => h
  | [], _ :: _, _, _, _, _, e => by cases e
  | _ :: _, [], _, _, _, _, e => by cases e
  | p :: ps, v :: vs, fs, t, h, hp, e => by
    have h1 : Fr n ((p, v) :: fs) ⟨t.setIfInBounds p v, []⟩ := h.put (by simpa using hp p (by simp)) v
    have h2 := putParams ha ps vs ((p, v) :: fs) (t.setIfInBounds p v) h1 (fun q hq => hp q (by simp [hq])) (by simpa using e)
    simpa using h2

theorem T.rangeAt {α : Type} {g : Operand} {ps : List Nat} {assign body : Code} {gf : FuncId} {lb : List Value} [hE : Enters P gf] (enc : α → List Value) (xs : List α) (E : HS) (G : Nat → HS → Prop) (Zx : Code → HS → Prop) (fa : α → SFs) (g0 : HS) (hg0 : G 0 g0)
    (hg : ev fs g = some (.func (.func gf) #[] lb.toArray)) (hit : IterAt P gf lb enc xs E B M) (hps : ∀ p ∈ ps, p < n) (hen : ∀ x, (enc x).length = ps.length) (h0 : (E ++ g0).Sublist hs)
    (hassign : ∀ (l i : Nat) x X D g, xs[i]? = some x → T (Fence.wide.inRound l) P n B D M assign (Exit.then (At n B D M (fa x) ((E ++ g) ++ [X])) (fun _ _ _ => False)) ((ps.zip (enc x)).reverse ++ fs) ((E ++ g) ++ [X]))
    (hbody : ∀ (l i : Nat) x X D g, xs[i]? = some x → G i g → T (Fence.wide.inRound l) P n B D M body (RoundQ B D M (fun z => ∃ y, z = E ++ y ∧ G (i + 1) y) (fun c z => ∃ y, z = E ++ y ∧ Zx c y) X) (fa x) ((E ++ g) ++ [X]))
    (hdone : ∀ g, G xs.length g → K n B D M Q .normal fs (E ++ g)) (hstop : ∀ c y, Zx c y → T Fence.wide P n B D M c Q fs (E ++ y)) : T Fence.wide P n B D M (.rangeFunc g ps.toArray assign body) Q fs hs :=
  ⟨fun a w ha hw hm => by
    refine wpIn_rangeFunc (F := Fence.wide) (n := 0) ?_
    intro fn hfn
    obtain ⟨rec, hrec⟩ : ∃ rec : LoopState → Option Code → Loop, rec = fun st pe => { state := st, pending := pe, fn, tmps := a.tmps, params := ps.toArray, assign, body, defers := w.heap.size } := ⟨_, rfl⟩
    obtain ⟨W1, hW1⟩ : ∃ W1, (w.alloc (.deferred (some []))).alloc (.loop (rec .ready none)) = W1 := ⟨_, rfl⟩
    obtain ⟨l, hl⟩ : ∃ l, l = w.heap.size + 1 := ⟨_, rfl⟩
    have hsz : (w.alloc (.deferred (some []))).heap.size = l := by rw [hl]; simp
    have hK1 : W1.heap[w.heap.size]? = some (.deferred (some [])) := by
      rw [← hW1]; exact (Below.heap_alloc _ _ _ (by simp)).trans (heap_new w _)
    have hb1 : Below w.heap.size w (w.alloc (.deferred (some []))) := (Below.refl _ _).alloc (Nat.le_refl _) _
    have hw1 : Hp B M (hs ++ [Ent.lp l (rec .ready none)]) W1 := by
      have h1 := hw.below hb1
      have h2 := h1.fresh (e := Ent.lp l (rec .ready none)) (w' := W1) (by rw [← hW1]; exact (Below.refl _ _).alloc (Nat.le_refl _) _) (Ent.lp_ok.2 (by rw [← hW1, ← hsz]; exact heap_new _ _)) (fun k hk => by rw [Ent.lp_fp.1 hk, hsz]; exact Nat.le_refl _)
      exact h2.perm (List.perm_append_singleton _ _).symm
    have hkp : Kp w W1 := by rw [← hW1]; exact (Kp.alloc w _).trans (Kp.alloc _ _)
    refine ⟨l, [mark w.heap.size], W1, { target := .fn (.func gf) lb.toArray, args := #[.func (.yield l) #[] #[]] }, W1, gf, (.func (.yield l) #[] #[] :: lb).toArray, W1, ?_, ?_, ?_, ?_, ?_, ?_⟩
    · rw [← hW1, hrec, hl]; exact run_enterLoop_outer _ _ _ _ _
    · simp only [resolve, ha.ev hg]
      simp [Deferred.ofValue, Act.eval]
    · exact fun _ _ => trivial
    · have := hE.run (.func (.yield l) #[] #[] :: lb).toArray W1
      simp only [invoke]
      rw [← this]
      congr 2
      apply Array.ext'
      simp
    · intro h; cases h
    · have hstart : Hp B M (E ++ (g0 ++ [Ent.lp l (rec .ready none)])) W1 := by
        rw [← List.append_assoc]; exact hw1.sub (h0.append (List.Sublist.refl _))
      have ho1 : ∀ (V : World) (o' : Obj), Only (· = l) V (V.putObj l o') := fun V o' => ⟨rfl, rfl, rfl, by rw [World.putObj_size]; exact Nat.le_refl _, fun k hk hne => World.putObj_heap_other hne⟩
      have kput : ∀ (V : World) (r : Loop) (o' : Obj), V.heap[l]? = some (.loop r) → Kp V (V.putObj l o') := fun V r o' h => Kp.only (ho1 _ _) (fun k e c => by subst e; rw [h]; simp)
      have hput : ∀ (V : World) (r r' : Loop) (hs : HS), Hp B M (hs ++ [Ent.lp l r]) V → Hp B M (hs ++ [Ent.lp l r']) (V.putObj l (.loop r')) ∧ V.heap[l]? = some (.loop r) := fun V r r' hs h => by
        have hl := Ent.lp_ok.1 (h.own (Ent.lp l r) (by simp))
        exact ⟨h.upLast (ho1 _ _) (fun k e => Ent.lp_fp.2 e) (Ent.lp_ok.2 (World.putObj_heap_same (Array.getElem?_eq_some_iff.1 hl).1)) (fun k hk => Ent.lp_fp.2 (Ent.lp_fp.1 hk)), hl⟩
      refine callsIn_wide.2 ((hit (fun i z => ∃ y, G i y ∧ z = y ++ [Ent.lp l (rec .ready none)]) (fun z => ∃ c y, Zx c y ∧ z = y ++ [Ent.lp l (rec .done (some c))]) l W1 _ ?_ ⟨g0, hg0, rfl⟩ hstart).mono ?_)
      · rintro i x _ W hx ⟨g, hg, rfl⟩ hW
        rw [← List.append_assoc] at hW
        have hlp : W.heap[l]? = some (.loop (rec .ready none)) := Ent.lp_ok.1 (hW.own _ (by simp))
        have hy := run_yield (P := P) (args := (enc x).toArray) hlp (by rw [hrec]; simp [hen x])
        have hfr : Fr n ((ps.zip (enc x)).reverse ++ fs) ⟨(ps.zip (enc x)).foldl (fun t p => t.setIfInBounds p.1 p.2) a.tmps, []⟩ := putParams ha ps (enc x) fs a.tmps ⟨ha.size, ha.get⟩ hps (hen x).symm
        have hact : ((rec .ready none).params.zip (enc x).toArray).foldl (fun tmps (t, a) => tmps.setIfInBounds t a) (rec .ready none).tmps = (ps.zip (enc x)).foldl (fun t p => t.setIfInBounds p.1 p.2) a.tmps := by
          rw [hrec]
          simp [List.zip_toArray]
        rw [hact] at hy
        have e1 : (rec .ready none).fn = fn := by rw [hrec]
        have e2 : (rec .ready none).assign = assign := by rw [hrec]
        have e3 : (rec .ready none).body = body := by rw [hrec]
        rw [e1, e2, e3] at hy
        refine ⟨fn, _, assign, body, hy, roundIn_of_wpIn hfn ?_⟩
        refine wpIn_mono ((hassign l i x (Ent.lp l (rec .ready none)) W g hx).out _ W hfr hW ⟨Kp.refl W, [], rfl, List.nodup_nil, fun _ h => by cases h⟩) ?_
        rintro e a1 W2 hq
        cases e <;> try exact hq.elim
        obtain ⟨hf1, hp1, hm1⟩ := hq
        obtain ⟨hp2, hlp1⟩ := hput W2 _ { rec .ready none with state := .busy } _ hp1
        refine ⟨_, run_beginRound (P := P) hlp1 (by rw [hrec]), ?_⟩
        refine wpIn_mono ((hbody l i x (Ent.lp l { rec .ready none with state := .busy }) W g hx hg).out a1 _ hf1 hp2 (hm1.next (kput _ _ _ hlp1))) ?_
        have er : ∀ (j : Option Code), ({ ({ rec .ready none with state := .busy } : Loop) with state := if j.isNone then LoopState.ready else .done, pending := j } : Loop) = rec (if j.isNone then .ready else .done) j := fun j => by rw [hrec]
        rintro e a3 W3 hq
        cases e with
        | normal =>
          obtain ⟨hk3, z, ⟨y, rfl, hy⟩, hp3⟩ := hq
          obtain ⟨hp4, hl3⟩ := hput W3 _ (rec .ready none) _ hp3
          have hend := run_endRound (P := P) none hl3
          rw [er] at hend
          refine ⟨_, _, hend, hk3.trans (kput _ _ _ hl3), .inl ⟨rfl, _, ⟨y, hy, rfl⟩, ?_⟩⟩
          rw [← List.append_assoc]
          exact hp4
        | ret =>
          obtain ⟨hk3, z, ⟨y, rfl, hz⟩, hp3⟩ := hq
          obtain ⟨hp4, hl3⟩ := hput W3 _ (rec .done (some .ret)) _ hp3
          have hend := run_endRound (P := P) (some .ret) hl3
          rw [er] at hend
          refine ⟨_, _, hend, hk3.trans (kput _ _ _ hl3), .inr ⟨rfl, _, ⟨.ret, y, hz, rfl⟩, ?_⟩⟩
          rw [← List.append_assoc]
          exact hp4
        | exit id =>
          obtain ⟨hk3, z, ⟨y, rfl, hz⟩, hp3⟩ := hq
          obtain ⟨hp4, hl3⟩ := hput W3 _ (rec .done (some (.exit id))) _ hp3
          have hend := run_endRound (P := P) (some (.exit id)) hl3
          rw [er] at hend
          refine ⟨_, _, hend, hk3.trans (kput _ _ _ hl3), .inr ⟨rfl, _, ⟨.exit id, y, hz, rfl⟩, ?_⟩⟩
          rw [← List.append_assoc]
          exact hp4
        | goto t => exact hq.elim
        | panic c => exact hq.elim
        | outgrown => exact hq.elim
      · have mk : ∀ W2, Kp W1 W2 → Mk B D { a with defers := mark w.heap.size :: a.defers } W2 := fun W2 hk => by
          obtain ⟨h0, rs, h1, h2, h3⟩ := hm
          refine ⟨h0.trans (hkp.trans hk), w.heap.size :: rs, by rw [h1]; rfl, ?_, ?_⟩
          · rw [List.nodup_cons]
            refine ⟨fun hin => ?_, h2⟩
            have := (Array.getElem?_eq_some_iff.1 (h3 _ hin).1).1
            omega
          · intro r hr
            rcases List.mem_cons.1 hr with rfl | hr
            · exact ⟨hk.keep _ _ hK1, hw.size, h0.size⟩
            · exact ⟨(hkp.trans hk).keep _ _ (h3 r hr).1, (h3 r hr).2⟩
        rintro e W2 ⟨⟨v, rfl⟩, hk2, hend⟩
        rcases hend with ⟨_, ⟨g, hg, rfl⟩, hend⟩ | ⟨z, ⟨c, y, hz, rfl⟩, hend⟩
        · rw [← List.append_assoc] at hend
          obtain ⟨hp4, hl3⟩ := hput W2 _ (rec .exhausted none) _ hend
          have he := run_endLoop (P := P) hl3 (by rw [hrec]; simp)
          have e5 : ({ rec .ready none with state := .exhausted } : Loop) = rec .exhausted none := by rw [hrec]
          rw [e5] at he
          have hpe : (rec .ready none).pending = none := by rw [hrec]
          rw [hpe] at he
          refine ⟨none, _, he, ?_⟩
          exact (hdone g hg).out _ _ ⟨ha.size, ha.get⟩ (hp4.sub (List.sublist_append_left _ _)) (mk _ (hk2.trans (kput _ _ _ hl3)))
        · rw [← List.append_assoc] at hend
          obtain ⟨hp4, hl3⟩ := hput W2 _ (rec .exhausted (some c)) _ hend
          have he := run_endLoop (P := P) hl3 (by rw [hrec]; simp)
          have e5 : ({ rec .done (some c) with state := .exhausted } : Loop) = rec .exhausted (some c) := by rw [hrec]
          rw [e5] at he
          have hpe : (rec .done (some c)).pending = some c := by rw [hrec]
          rw [hpe] at he
          refine ⟨some c, _, he, ?_⟩
          exact (hstop c y hz).out _ _ ⟨ha.size, ha.get⟩ (hp4.sub (List.sublist_append_left _ _)) (mk _ (hk2.trans (kput _ _ _ hl3)))⟩
theorem T.range {α : Type} {g : Operand} {ps : List Nat} {assign body : Code} {gf : FuncId} {lb : List Value} [hE : Enters P gf] (enc : α → List Value) (xs : List α) (E : HS) (G : Nat → HS → Prop) (Zx : Code → HS → Prop) (fa : α → SFs) (g0 : HS) (hg0 : G 0 g0)
    (hg : ev fs g = some (.func (.func gf) #[] lb.toArray)) (hit : Iter P gf lb enc xs E) (hps : ∀ p ∈ ps, p < n) (hen : ∀ x, (enc x).length = ps.length) (h0 : (E ++ g0).Sublist hs)
    (hassign : ∀ (l i : Nat) x X D g, xs[i]? = some x → T (Fence.wide.inRound l) P n B D M assign (Exit.then (At n B D M (fa x) ((E ++ g) ++ [X])) (fun _ _ _ => False)) ((ps.zip (enc x)).reverse ++ fs) ((E ++ g) ++ [X]))
    (hbody : ∀ (l i : Nat) x X D g, xs[i]? = some x → G i g → T (Fence.wide.inRound l) P n B D M body (RoundQ B D M (fun z => ∃ y, z = E ++ y ∧ G (i + 1) y) (fun c z => ∃ y, z = E ++ y ∧ Zx c y) X) (fa x) ((E ++ g) ++ [X]))
    (hdone : ∀ g, G xs.length g → K n B D M Q .normal fs (E ++ g)) (hstop : ∀ c y, Zx c y → T Fence.wide P n B D M c Q fs (E ++ y)) : T Fence.wide P n B D M (.rangeFunc g ps.toArray assign body) Q fs hs := T.rangeAt enc xs E G Zx fa g0 hg0 hg (hit B M) hps hen h0 hassign hbody hdone hstop
end
end Go.Proofs.YtljgejbmimapdaaDoor
