/- Tg Th Tj Tk Ti Fe: shortened and put together by squeeze.py. -/
import Derived.Test.YtljgejbmimapdaaDoorQ01
import Derived.Laws.Bits64
import Derived.Lib.TrailingZeros
import Derived.Scope
set_option maxRecDepth 100000
set_option maxHeartbeats 4000000
set_option linter.unusedVariables false
set_option linter.unusedSectionVars false
set_option linter.unusedSimpArgs false
namespace Go.Proofs.YtljgejbmimapdaaDoor
open Go.RowKit

/-- The record of a loop over a function. -/
@[irreducible] def Ent.lp (l : Nat) (r : Loop) : Ent where
  fp := (· = l)
  ok w := w.heap[l]? = some (.loop r)
  loc h k := (h l rfl).trans k
  lt h k e := by subst e; exact (Array.getElem?_eq_some_iff.1 h).1
  nd h k e c := by subst e; rw [h]; simp
theorem Ent.lp_fp {l : Nat} {r : Loop} {k : Nat} : (Ent.lp l r).fp k ↔ k = l := by unfold Ent.lp; exact Iff.rfl
theorem Ent.lp_ok {l : Nat} {r : Loop} {w : World} : (Ent.lp l r).ok w ↔ w.heap[l]? = some (.loop r) := by unfold Ent.lp; exact Iff.rfl

section
variable {P : Program} {n : Nat} {B D : World} {M : Nat → Prop} {Q : Exit → Act → World → Prop} {fs : SFs} {hs : HS} {ops : Array Oper} {rest : List Oper} {o : Oper} {v : Value}

/-- What an iterator function does at whatever yield: it hands over xs, element by element, until yield says no. -/
def IterAt {α : Type} (P : Program) (gf : FuncId) (lb : List Value) (enc : α → List Value) (xs : List α) (E : HS) (B : World) (M : Nat → Prop) : Prop :=
  ∀ (G : Nat → HS → Prop) (Z : HS → Prop) (l : Nat) (W : World) (g0 : HS),
    (∀ i x g w, xs[i]? = some x → G i g → Hp B M (E ++ g) w → YieldAt Fence.wide 0 P l (enc x).toArray w fun e w' => Kp w w' ∧ ((e = .returned (.bool true) ∧ ∃ g', G (i + 1) g' ∧ Hp B M (E ++ g') w') ∨ (e = .returned (.bool false) ∧ ∃ z, Z z ∧ Hp B M (E ++ z) w'))) →
    G 0 g0 → Hp B M (E ++ g0) W →
    Calls P gf (.func (.yield l) #[] #[] :: lb).toArray W fun e W' => (∃ v, e = .returned v) ∧ Kp W W' ∧ ((∃ g, G xs.length g ∧ Hp B M (E ++ g) W') ∨ ∃ z, Z z ∧ Hp B M (E ++ z) W')

/-- The same, in whatever base world. -/
def Iter {α : Type} (P : Program) (gf : FuncId) (lb : List Value) (enc : α → List Value) (xs : List α) (E : HS) : Prop := ∀ (B : World) (M : Nat → Prop), IterAt P gf lb enc xs E B M

/-- A call of yield, in the iterator. -/
theorem TL.yield {d l : Nat} {c : Operand} {xs : Array Operand} {ts : Array TypeId} {vs : List Value} {Φ : Value → HS → Prop} (hwt : Wt n ops fs o true) (hd : o.dst = some d) (hb : Nat.blt d n = true) (ho : o.op = .call { callee := .value c, args := xs, argTypes := ts })
    (hc : ev fs c = some (.func (.yield l) #[] #[])) (hv : evs fs xs.toList = some vs)
    (Y : ∀ w, Hp B M hs w → YieldAt Fence.wide 0 P l vs.toArray w fun e w' => Kp w w' ∧ ∃ v hs', e = .returned v ∧ Hp B M hs' w' ∧ Φ v hs')
    (k : ∀ v hs', Φ v hs' → TL Fence.wide P n B D M ops Q rest ((d, v) :: fs) hs') : TL Fence.wide P n B D M ops Q (o :: rest) fs hs :=
  ⟨fun a w ha hp hm => wpListIn_step fun K hK => by
    rw [if_pos (hwt a ha)]
    obtain ⟨fn, tmps, assign, body, hr, hround⟩ := Y w hp
    have h1 : xs.map a.eval = vs.toArray := by rw [← ha.evs hv]; apply Array.ext'; simp
    have hrun : (execOp a.eval o).run P w = .ok (.round l fn tmps assign body) w := by
      unfold execOp
      simp only [ho, resolve, ha.ev hc, Deferred.ofValue, h1, invoke, Sem.run_bind, Sem.run_pure, Result.andThen_ok]
      rw [← hr]
      congr 2
      apply Array.ext'
      simp
    refine wpInC (fun c' e => by rw [ho] at e; cases e) ?_
    rw [hrun, Oper.uponIn_round]
    refine ⟨(fun h => by cases h), hround.mono ?_⟩
    rintro e w' ⟨hk, v, hs', rfl, hp', hΦ⟩
    exact hK _ _ (by rw [hd]; exact (k v hs' hΦ).out _ w' (ha.put hb v) hp' ((hm.next hk).put _ _))⟩

/-- The same, for an iterator. -/
theorem TL.yieldI {α : Type} {d l i : Nat} {c : Operand} {ys : Array Operand} {ts : Array TypeId} {enc : α → List Value} {xs : List α} {x : α} {E g : HS} {G : Nat → HS → Prop} {Z : HS → Prop} (hwt : Wt n ops fs o true) (hd : o.dst = some d) (hb : Nat.blt d n = true) (ho : o.op = .call { callee := .value c, args := ys, argTypes := ts })
    (hc : ev fs c = some (.func (.yield l) #[] #[])) (hv : evs fs ys.toList = some (enc x))
    (hy : ∀ i x g w, xs[i]? = some x → G i g → Hp B M (E ++ g) w → YieldAt Fence.wide 0 P l (enc x).toArray w fun e w' => Kp w w' ∧ ((e = .returned (.bool true) ∧ ∃ g', G (i + 1) g' ∧ Hp B M (E ++ g') w') ∨ (e = .returned (.bool false) ∧ ∃ z, Z z ∧ Hp B M (E ++ z) w')))
    (hx : xs[i]? = some x) (hG : G i g) (kt : ∀ g', G (i + 1) g' → TL Fence.wide P n B D M ops Q rest ((d, .bool true) :: fs) (E ++ g')) (kf : ∀ z, Z z → TL Fence.wide P n B D M ops Q rest ((d, .bool false) :: fs) (E ++ z)) : TL Fence.wide P n B D M ops Q (o :: rest) fs (E ++ g) :=
  TL.yield (Φ := fun v hs' => (v = .bool true ∧ ∃ g', G (i + 1) g' ∧ hs' = E ++ g') ∨ (v = .bool false ∧ ∃ z, Z z ∧ hs' = E ++ z)) hwt hd hb ho hc hv (fun w hw => by
    obtain ⟨fn, tmps, assign, body, hr, hround⟩ := hy i x g w hx hG hw
    refine ⟨fn, tmps, assign, body, hr, hround.mono ?_⟩
    rintro e w' ⟨hk, ⟨rfl, g', hg, hp⟩ | ⟨rfl, z, hz, hp⟩⟩
    · exact ⟨hk, _, _, rfl, hp, .inl ⟨rfl, g', hg, rfl⟩⟩
    · exact ⟨hk, _, _, rfl, hp, .inr ⟨rfl, z, hz, rfl⟩⟩) (by
    rintro v hs' (⟨rfl, g', hg, rfl⟩ | ⟨rfl, z, hz, rfl⟩)
    · exact kt g' hg
    · exact kf z hz)

/-- How a round's body may be left. -/
def RoundQ (B D : World) (M : Nat → Prop) (H : HS → Prop) (Zx : Code → HS → Prop) (X : Ent) : Exit → Act → World → Prop
  | .normal, _, w => Kp D w ∧ ∃ z, H z ∧ Hp B M (z ++ [X]) w
  | .ret, _, w => Kp D w ∧ ∃ z, Zx .ret z ∧ Hp B M (z ++ [X]) w
  | .exit id, _, w => Kp D w ∧ ∃ z, Zx (.exit id) z ∧ Hp B M (z ++ [X]) w
  | _, _, _ => False
instance (B D : World) (M : Nat → Prop) (H : HS → Prop) (Zx : Code → HS → Prop) (X : Ent) : NP (RoundQ B D M H Zx X) := ⟨fun c a d v w h => h⟩
theorem K.round {H : HS → Prop} {Zx : Code → HS → Prop} {X : Ent} (z : HS) (hz : H z) (h : (z ++ [X]).Sublist hs) : K n B D M (RoundQ B D M H Zx X) .normal fs hs := ⟨fun _ _ _ hw hm => ⟨hm.1, z, hz, hw.sub h⟩⟩
theorem K.roundExit {H : HS → Prop} {Zx : Code → HS → Prop} {X : Ent} {id : Nat} (z : HS) (hz : Zx (.exit id) z) (h : (z ++ [X]).Sublist hs) : K n B D M (RoundQ B D M H Zx X) (.exit id) fs hs := ⟨fun _ _ _ hw hm => ⟨hm.1, z, hz, hw.sub h⟩⟩
theorem K.roundRet {H : HS → Prop} {Zx : Code → HS → Prop} {X : Ent} (z : HS) (hz : Zx .ret z) (h : (z ++ [X]).Sublist hs) : K n B D M (RoundQ B D M H Zx X) .ret fs hs := ⟨fun _ _ _ hw hm => ⟨hm.1, z, hz, hw.sub h⟩⟩

theorem Hp.upLast {X X' : Ent} {w w' : World} {S : Nat → Prop} (h : Hp B M (hs ++ [X]) w) (ho : Only S w w') (hS : ∀ g, S g → X.fp g) (hok : X'.ok w') (hfp : ∀ g, X'.fp g → X.fp g) : Hp B M (hs ++ [X']) w' := by
  have p : (hs ++ [X]).Perm (X :: hs) := List.perm_append_singleton X hs
  have p' : (X' :: hs).Perm (hs ++ [X']) := (List.perm_append_singleton X' hs).symm
  exact ((h.perm p).upd ho (fun g _ hg => hS g hg) hok (fun g hg => .inl (hfp g hg))).perm p'
theorem putParams {a : Act} {fs : SFs} {n : Nat} (ha : Fr n fs a) : ∀ (ps : List Nat) (vs : List Value) (fs : SFs) (t : Array Value), Fr n fs ⟨t, []⟩ → (∀ p ∈ ps, p < n) → ps.length = vs.length → Fr n ((ps.zip vs).reverse ++ fs) ⟨(ps.zip vs).foldl (fun t p => t.setIfInBounds p.1 p.2) t, []⟩
  | [], [], fs, t, h, _, _ => h
  | [], _ :: _, _, _, _, _, e => by cases e
  | _ :: _, [], _, _, _, _, e => by cases e
  | p :: ps, v :: vs, fs, t, h, hp, e => by
    have h1 : Fr n ((p, v) :: fs) ⟨t.setIfInBounds p v, []⟩ := h.put (by simpa using hp p (by simp)) v
    have h2 := putParams ha ps vs ((p, v) :: fs) (t.setIfInBounds p v) h1 (fun q hq => hp q (by simp [hq])) (by simpa using e)
    simpa using h2

theorem T.rangeAt {α : Type} {g : Operand} {ps : List Nat} {assign body : Code} {gf : FuncId} {lb : List Value} [hE : Enters P gf] (enc : α → List Value) (xs : List α) (E : HS) (G : Nat → HS → Prop) (Zx : Code → HS → Prop) (fa : α → SFs) (g0 : HS) (hg0 : G 0 g0)
    (hg : ev fs g = some (.func (.func gf) #[] lb.toArray)) (hit : IterAt P gf lb enc xs E B M) (hps : ∀ p ∈ ps, p < n) (hen : ∀ x, (enc x).length = ps.length) (h0 : (E ++ g0).Sublist hs)
    (hassign : ∀ (l i : Nat) x X D g, xs[i]? = some x → T (Fence.wide.inRound l) P n B D M assign (Exit.then (At n B D M (fa x) ((E ++ g) ++ [X])) (fun _ _ _ => False)) ((ps.zip (enc x)).reverse ++ fs) ((E ++ g) ++ [X]))
    (hbody : ∀ (l i : Nat) x X D g, xs[i]? = some x → G i g → T (Fence.wide.inRound l) P n B D M body (RoundQ B D M (fun z => ∃ y, z = E ++ y ∧ G (i + 1) y) (fun c z => ∃ y, z = E ++ y ∧ Zx c y) X) (fa x) ((E ++ g) ++ [X]))
    (hdone : ∀ g, G xs.length g → K n B D M Q .normal fs (E ++ g)) (hstop : ∀ c y, Zx c y → T Fence.wide P n B D M c Q fs (E ++ y)) : T Fence.wide P n B D M (.rangeFunc g ps.toArray assign body) Q fs hs :=
  ⟨fun a w ha hw hm => by
    refine wpIn_rangeFunc (F := Fence.wide) (n := 0) ?_
    intro fn hfn
    obtain ⟨rec, hrec⟩ : ∃ rec : LoopState → Option Code → Loop, rec = fun st pe => { state := st, pending := pe, fn, tmps := a.tmps, params := ps.toArray, assign, body, defers := w.heap.size } := ⟨_, rfl⟩
    obtain ⟨W1, hW1⟩ : ∃ W1, (w.alloc (.deferred (some []))).alloc (.loop (rec .ready none)) = W1 := ⟨_, rfl⟩
    obtain ⟨l, hl⟩ : ∃ l, l = w.heap.size + 1 := ⟨_, rfl⟩
    have hsz : (w.alloc (.deferred (some []))).heap.size = l := by rw [hl]; simp
    have hK1 : W1.heap[w.heap.size]? = some (.deferred (some [])) := by
      rw [← hW1]; exact (Below.heap_alloc _ _ _ (by simp)).trans (heap_new w _)
    have hb1 : Below w.heap.size w (w.alloc (.deferred (some []))) := (Below.refl _ _).alloc (Nat.le_refl _) _
    have hw1 : Hp B M (hs ++ [Ent.lp l (rec .ready none)]) W1 := by
      have h1 := hw.below hb1
      have h2 := h1.fresh (e := Ent.lp l (rec .ready none)) (w' := W1) (by rw [← hW1]; exact (Below.refl _ _).alloc (Nat.le_refl _) _) (Ent.lp_ok.2 (by rw [← hW1, ← hsz]; exact heap_new _ _)) (fun k hk => by rw [Ent.lp_fp.1 hk, hsz]; exact Nat.le_refl _)
      exact h2.perm (List.perm_append_singleton _ _).symm
    have hkp : Kp w W1 := by rw [← hW1]; exact (Kp.alloc w _).trans (Kp.alloc _ _)
    refine ⟨l, [mark w.heap.size], W1, { target := .fn (.func gf) lb.toArray, args := #[.func (.yield l) #[] #[]] }, W1, gf, (.func (.yield l) #[] #[] :: lb).toArray, W1, ?_, ?_, ?_, ?_, ?_, ?_⟩
    · rw [← hW1, hrec, hl]; exact run_enterLoop_outer _ _ _ _ _
    · simp only [resolve, ha.ev hg]
      simp [Deferred.ofValue, Act.eval]
    · exact fun _ _ => trivial
    · have := hE.run (.func (.yield l) #[] #[] :: lb).toArray W1
      simp only [invoke]
      rw [← this]
      congr 2
      apply Array.ext'
      simp
    · intro h; cases h
    · have hstart : Hp B M (E ++ (g0 ++ [Ent.lp l (rec .ready none)])) W1 := by
        rw [← List.append_assoc]; exact hw1.sub (h0.append (List.Sublist.refl _))
      have ho1 : ∀ (V : World) (o' : Obj), Only (· = l) V (V.putObj l o') := fun V o' => ⟨rfl, rfl, rfl, by rw [World.putObj_size]; exact Nat.le_refl _, fun k hk hne => World.putObj_heap_other hne⟩
      have kput : ∀ (V : World) (r : Loop) (o' : Obj), V.heap[l]? = some (.loop r) → Kp V (V.putObj l o') := fun V r o' h => Kp.only (ho1 _ _) (fun k e c => by subst e; rw [h]; simp)
      have hput : ∀ (V : World) (r r' : Loop) (hs : HS), Hp B M (hs ++ [Ent.lp l r]) V → Hp B M (hs ++ [Ent.lp l r']) (V.putObj l (.loop r')) ∧ V.heap[l]? = some (.loop r) := fun V r r' hs h => by
        have hl := Ent.lp_ok.1 (h.own (Ent.lp l r) (by simp))
        exact ⟨h.upLast (ho1 _ _) (fun k e => Ent.lp_fp.2 e) (Ent.lp_ok.2 (World.putObj_heap_same (Array.getElem?_eq_some_iff.1 hl).1)) (fun k hk => Ent.lp_fp.2 (Ent.lp_fp.1 hk)), hl⟩
      refine callsIn_wide.2 ((hit (fun i z => ∃ y, G i y ∧ z = y ++ [Ent.lp l (rec .ready none)]) (fun z => ∃ c y, Zx c y ∧ z = y ++ [Ent.lp l (rec .done (some c))]) l W1 _ ?_ ⟨g0, hg0, rfl⟩ hstart).mono ?_)
      · rintro i x _ W hx ⟨g, hg, rfl⟩ hW
        rw [← List.append_assoc] at hW
        have hlp : W.heap[l]? = some (.loop (rec .ready none)) := Ent.lp_ok.1 (hW.own _ (by simp))
        have hy := run_yield (P := P) (args := (enc x).toArray) hlp (by rw [hrec]; simp [hen x])
        have hfr : Fr n ((ps.zip (enc x)).reverse ++ fs) ⟨(ps.zip (enc x)).foldl (fun t p => t.setIfInBounds p.1 p.2) a.tmps, []⟩ := putParams ha ps (enc x) fs a.tmps ⟨ha.size, ha.get⟩ hps (hen x).symm
        have hact : ((rec .ready none).params.zip (enc x).toArray).foldl (fun tmps (t, a) => tmps.setIfInBounds t a) (rec .ready none).tmps = (ps.zip (enc x)).foldl (fun t p => t.setIfInBounds p.1 p.2) a.tmps := by
          rw [hrec]
          simp [List.zip_toArray]
        rw [hact] at hy
        have e1 : (rec .ready none).fn = fn := by rw [hrec]
        have e2 : (rec .ready none).assign = assign := by rw [hrec]
        have e3 : (rec .ready none).body = body := by rw [hrec]
        rw [e1, e2, e3] at hy
        refine ⟨fn, _, assign, body, hy, roundIn_of_wpIn hfn ?_⟩
        refine wpIn_mono ((hassign l i x (Ent.lp l (rec .ready none)) W g hx).out _ W hfr hW ⟨Kp.refl W, [], rfl, List.nodup_nil, fun _ h => by cases h⟩) ?_
        rintro e a1 W2 hq
        cases e <;> try exact hq.elim
        obtain ⟨hf1, hp1, hm1⟩ := hq
        obtain ⟨hp2, hlp1⟩ := hput W2 _ { rec .ready none with state := .busy } _ hp1
        refine ⟨_, run_beginRound (P := P) hlp1 (by rw [hrec]), ?_⟩
        refine wpIn_mono ((hbody l i x (Ent.lp l { rec .ready none with state := .busy }) W g hx hg).out a1 _ hf1 hp2 (hm1.next (kput _ _ _ hlp1))) ?_
        have er : ∀ (j : Option Code), ({ ({ rec .ready none with state := .busy } : Loop) with state := if j.isNone then LoopState.ready else .done, pending := j } : Loop) = rec (if j.isNone then .ready else .done) j := fun j => by rw [hrec]
        rintro e a3 W3 hq
        cases e with
        | normal =>
          obtain ⟨hk3, z, ⟨y, rfl, hy⟩, hp3⟩ := hq
          obtain ⟨hp4, hl3⟩ := hput W3 _ (rec .ready none) _ hp3
          have hend := run_endRound (P := P) none hl3
          rw [er] at hend
          refine ⟨_, _, hend, hk3.trans (kput _ _ _ hl3), .inl ⟨rfl, _, ⟨y, hy, rfl⟩, ?_⟩⟩
          rw [← List.append_assoc]
          exact hp4
        | ret =>
          obtain ⟨hk3, z, ⟨y, rfl, hz⟩, hp3⟩ := hq
          obtain ⟨hp4, hl3⟩ := hput W3 _ (rec .done (some .ret)) _ hp3
          have hend := run_endRound (P := P) (some .ret) hl3
          rw [er] at hend
          refine ⟨_, _, hend, hk3.trans (kput _ _ _ hl3), .inr ⟨rfl, _, ⟨.ret, y, hz, rfl⟩, ?_⟩⟩
          rw [← List.append_assoc]
          exact hp4
        | exit id =>
          obtain ⟨hk3, z, ⟨y, rfl, hz⟩, hp3⟩ := hq
          obtain ⟨hp4, hl3⟩ := hput W3 _ (rec .done (some (.exit id))) _ hp3
          have hend := run_endRound (P := P) (some (.exit id)) hl3
          rw [er] at hend
          refine ⟨_, _, hend, hk3.trans (kput _ _ _ hl3), .inr ⟨rfl, _, ⟨.exit id, y, hz, rfl⟩, ?_⟩⟩
          rw [← List.append_assoc]
          exact hp4
        | goto t => exact hq.elim
        | panic c => exact hq.elim
        | outgrown => exact hq.elim
      · have mk : ∀ W2, Kp W1 W2 → Mk B D { a with defers := mark w.heap.size :: a.defers } W2 := fun W2 hk => by
          obtain ⟨h0, rs, h1, h2, h3⟩ := hm
          refine ⟨h0.trans (hkp.trans hk), w.heap.size :: rs, by rw [h1]; rfl, ?_, ?_⟩
          · rw [List.nodup_cons]
            refine ⟨fun hin => ?_, h2⟩
            have := (Array.getElem?_eq_some_iff.1 (h3 _ hin).1).1
            omega
          · intro r hr
            rcases List.mem_cons.1 hr with rfl | hr
            · exact ⟨hk.keep _ _ hK1, hw.size, h0.size⟩
            · exact ⟨(hkp.trans hk).keep _ _ (h3 r hr).1, (h3 r hr).2⟩
        rintro e W2 ⟨⟨v, rfl⟩, hk2, hend⟩
        rcases hend with ⟨_, ⟨g, hg, rfl⟩, hend⟩ | ⟨z, ⟨c, y, hz, rfl⟩, hend⟩
        · rw [← List.append_assoc] at hend
          obtain ⟨hp4, hl3⟩ := hput W2 _ (rec .exhausted none) _ hend
          have he := run_endLoop (P := P) hl3 (by rw [hrec]; simp)
          have e5 : ({ rec .ready none with state := .exhausted } : Loop) = rec .exhausted none := by rw [hrec]
          rw [e5] at he
          have hpe : (rec .ready none).pending = none := by rw [hrec]
          rw [hpe] at he
          refine ⟨none, _, he, ?_⟩
          exact (hdone g hg).out _ _ ⟨ha.size, ha.get⟩ (hp4.sub (List.sublist_append_left _ _)) (mk _ (hk2.trans (kput _ _ _ hl3)))
        · rw [← List.append_assoc] at hend
          obtain ⟨hp4, hl3⟩ := hput W2 _ (rec .exhausted (some c)) _ hend
          have he := run_endLoop (P := P) hl3 (by rw [hrec]; simp)
          have e5 : ({ rec .done (some c) with state := .exhausted } : Loop) = rec .exhausted (some c) := by rw [hrec]
          rw [e5] at he
          have hpe : (rec .done (some c)).pending = some c := by rw [hrec]
          rw [hpe] at he
          refine ⟨some c, _, he, ?_⟩
          exact (hstop c y hz).out _ _ ⟨ha.size, ha.get⟩ (hp4.sub (List.sublist_append_left _ _)) (mk _ (hk2.trans (kput _ _ _ hl3)))⟩
theorem T.range {α : Type} {g : Operand} {ps : List Nat} {assign body : Code} {gf : FuncId} {lb : List Value} [hE : Enters P gf] (enc : α → List Value) (xs : List α) (E : HS) (G : Nat → HS → Prop) (Zx : Code → HS → Prop) (fa : α → SFs) (g0 : HS) (hg0 : G 0 g0)
    (hg : ev fs g = some (.func (.func gf) #[] lb.toArray)) (hit : Iter P gf lb enc xs E) (hps : ∀ p ∈ ps, p < n) (hen : ∀ x, (enc x).length = ps.length) (h0 : (E ++ g0).Sublist hs)
    (hassign : ∀ (l i : Nat) x X D g, xs[i]? = some x → T (Fence.wide.inRound l) P n B D M assign (Exit.then (At n B D M (fa x) ((E ++ g) ++ [X])) (fun _ _ _ => False)) ((ps.zip (enc x)).reverse ++ fs) ((E ++ g) ++ [X]))
    (hbody : ∀ (l i : Nat) x X D g, xs[i]? = some x → G i g → T (Fence.wide.inRound l) P n B D M body (RoundQ B D M (fun z => ∃ y, z = E ++ y ∧ G (i + 1) y) (fun c z => ∃ y, z = E ++ y ∧ Zx c y) X) (fa x) ((E ++ g) ++ [X]))
    (hdone : ∀ g, G xs.length g → K n B D M Q .normal fs (E ++ g)) (hstop : ∀ c y, Zx c y → T Fence.wide P n B D M c Q fs (E ++ y)) : T Fence.wide P n B D M (.rangeFunc g ps.toArray assign body) Q fs hs := T.rangeAt enc xs E G Zx fa g0 hg0 hg (hit B M) hps hen h0 hassign hbody hdone hstop
end
end Go.Proofs.YtljgejbmimapdaaDoor
namespace Go.Proofs.YtljgejbmimapdaaDoor
open Go.RowKit
instance (k : Nat) (v : Value) [h : OneC v] : OneCs (List.replicate k v) := ⟨fun x hx => by rw [(List.mem_replicate.1 hx).2]; exact h.h⟩
section
variable {F : Fence} [hF : Calm F] {P : Program} {n : Nat} {B D : World} {M : Nat → Prop} {Q : Exit → Act → World → Prop} {fs : SFs} {hs : HS} {ops : Array Oper} {rest : List Oper} {o : Oper} {v : Value}
theorem Hp.start {w : World} {e : Ent} (h : e.ok w) : Hp w e.fp [e] w :=
  ⟨rfl, rfl, rfl, Nat.le_refl _, fun _ _ _ => rfl, fun x hx => by simp at hx; subst hx; exact h, fun x hx g hg => by simp at hx; subst hx; exact .inl hg, List.pairwise_singleton _ _⟩
/-- A call that takes an entry and gives another in its place. -/
theorem Ew.callM (i : Nat) {ι : Type} {e : Ent} {φ : ι → Prop} {val : ι → Value} {es : ι → Ent} {hs' : ι → HS} {c : Operand} {xs : Array Operand} {ts : Array TypeId} {f : FuncId} {vs : List Value} [hE : Enters P f] (ho : o.op = .call { callee := .value c, args := xs, argTypes := ts }) (hc : ev fs c = some (.func (.func f) #[] #[])) (hv : evs fs xs.toList = some vs) (hi : hs[i]? = some e)
    (C : ∀ w, Hp B M hs w → Calls P f vs.toArray w (fun x w' => ∃ y, φ y ∧ x = .returned (val y) ∧ Hp w e.fp [es y] w')) [hH : ∀ y, SetAt hs i (es y) (hs' y)] : Ew P n B M fs hs o (fun v' hs'' => ∃ y, φ y ∧ v' = val y ∧ hs'' = hs' y) :=
  Ew.callX ho hc hv fun w hp => (C w hp).mono fun x w' ⟨y, hy, he, hk⟩ => ⟨val y, hs' y, he, Kp.only hk.only (fun g hg c => e.nd (hp.get hi) g hg c), by
    rw [← (hH y).h]
    exact hp.updAt hi hk.only (fun g _ hg => hg) (hk.own _ (by simp)) (fun g hg => hk.new _ (by simp) g hg), y, hy, rfl, rfl⟩
theorem Yv.lenE (i : Nat) {t e e' : TypeId} {k size len : Nat} {l : List Value} {x : Operand} {sv : Value} [hT : TySl P t e k] (ho : o.op = .call { callee := .builtin .len, args := #[x], argTypes := #[t] }) (hx : ev fs x = some sv) (hi : hs[i]? = some (.sl sv e' size len l)) : Yv P n B M fs hs o (.int .i64 (len : Int)) := fun a w ha hw => by
  rcases (Ent.sl_ok.1 (hw.get hi)).2 with ⟨rfl, h0⟩ | ⟨g, cap, _, rfl, _⟩
  · subst h0; exact Yv.lenSl (P := P) (B := B) (M := M) (hs := hs) (n := n) ho hx a w ha hw
  · exact Yv.lenSl (P := P) (B := B) (M := M) (hs := hs) (n := n) ho hx a w ha hw
theorem take_splice {l m : List Value} {p N : Nat} (h : p + m.length ≤ N) : (l.take p ++ m ++ l.drop (p + m.length)).take N = (l.take N).take p ++ m ++ (l.take N).drop (p + m.length) := by
  rcases Nat.lt_or_ge l.length p with hl | hl
  · have e1 : l.take p = l := List.take_of_length_le (by omega)
    have e2 : l.drop (p + m.length) = [] := List.drop_of_length_le (by omega)
    have e3 : l.take N = l := List.take_of_length_le (by omega)
    rw [e2, e3, e1, e2]
    exact List.take_of_length_le (by simp; omega)
  · rw [List.take_append, List.take_of_length_le (by simp; omega), List.take_take, Nat.min_eq_left (by omega), List.drop_take]
    simp
    rw [Nat.min_eq_left hl]
theorem Hp.spliceS {w : World} (hp : Hp B M hs w) {i g k cap size p : Nat} {e : TypeId} {l m : List Value} (hi : hs[i]? = some (.sl (.slice (some ⟨g, 0, none⟩) k cap) e size k l)) (hl : p + m.length ≤ l.length) :
    ∃ cur : List Value, w.heap[g]? = some (.cells cur.toArray e (0, 0)) ∧ p + m.length ≤ cur.length ∧ Hp B M (hs.set i (.sl (.slice (some ⟨g, 0, none⟩) k cap) e size k (l.take p ++ m ++ l.drop (p + m.length)))) (w.setRow g (cur.take p ++ m ++ cur.drop (p + m.length)).toArray) := by
  have h := Ent.sl_ok.1 (hp.get hi)
  rcases h.2 with ⟨h', _⟩ | ⟨g', cap', cur, h', hb, hg, hnc, hcm, hcs, htake⟩
  · simp at h'
  · simp only [Value.slice.injEq, Option.some.injEq, Addr.mk.injEq, and_true, true_and] at h'
    obtain ⟨rfl, rfl⟩ := h'
    have hlen : l.length ≤ cur.toList.length := by rw [← htake]; simp; omega
    have h1 := h.1
    refine ⟨cur.toList, by simpa using hg, by omega, hp.updAt hi (only_setRow w g _) (fun k _ hk => Ent.sl_fp.2 (by rw [hk]; rfl)) (Ent.sl_ok.2 ⟨by simp; omega, .inr ⟨g, cap, _, rfl, hb, setRow_heap w g _ _ e _ hg, hnc, hcm, ?_, ?_⟩⟩) (fun k hk => .inl (Ent.sl_fp.2 (Ent.sl_fp.1 hk)))⟩
    · simp at hlen ⊢; omega
    · rw [List.toList_toArray, take_splice (by omega), htake]
theorem Ew.storeS (i : Nat) {t e : TypeId} [hT : TyS P t] {x y : Operand} {g p k cap size : Nat} {l : List Value} {hs' : HS} {val : Value} [hv : OneC val] (ho : o.op = .store t x y) (hx : ev fs x = some (.pointer (some ⟨g, p, none⟩))) (hy : ev fs y = some val)
    (hi : hs[i]? = some (.sl (.slice (some ⟨g, 0, none⟩) k cap) e size k l)) (hp : p < l.length) [hH : SetAt hs i (.sl (.slice (some ⟨g, 0, none⟩) k cap) e size k (l.set p val)) hs'] : Ew P n B M fs hs o (fun v hs'' => v = undef ∧ hs'' = hs') := Ew.of_skip fun a w ha hw => by
  obtain ⟨cur, h1, h2, h3⟩ := hw.spliceS (m := [val]) (p := p) hi (by simp; omega)
  have h := run_storeV (P := P) (w := w) hT.h ho (ha.ev hx) (ha.ev hy) (m := [val]) hv.cells rfl (by simpa using hv.h) h1 h2
  refine ⟨_, _, h, kp_setRow h1 _, ?_, rfl, rfl⟩
  rw [← hH.h, ← set_splice l p val hp]
  exact h3
theorem Ew.storeSA (i : Nat) {t e : TypeId} {q : Nat} [hT : TyA P t q] {x y : Operand} {g p k cap size : Nat} {l m : List Value} {hs' : HS} [hv : OneCs m] (ho : o.op = .store t x y) (hx : ev fs x = some (.pointer (some ⟨g, p, none⟩))) (hy : ev fs y = some (.agg m.toArray))
    (hi : hs[i]? = some (.sl (.slice (some ⟨g, 0, none⟩) k cap) e size k l)) (hk : m.length = q) (hp : p + m.length ≤ l.length) [hH : SetAt hs i (.sl (.slice (some ⟨g, 0, none⟩) k cap) e size k (l.take p ++ m ++ l.drop (p + m.length))) hs'] : Ew P n B M fs hs o (fun v hs'' => v = undef ∧ hs'' = hs') := Ew.of_skip fun a w ha hw => by
  obtain ⟨cur, h1, h2, h3⟩ := hw.spliceS (m := m) hi hp
  have h := run_storeV (P := P) (w := w) hT.h ho (ha.ev hx) (ha.ev hy) (m := m) rfl hk hv.h h1 h2
  refine ⟨_, _, h, kp_setRow h1 _, ?_, rfl, rfl⟩
  rw [← hH.h]
  exact h3
theorem Yv.addK {x y : Operand} {t u : TypeId} {k : IntKind} {a b : Int} (ho : o.op = .binOp .add t x y u) (hx : ev fs x = some (.int k a)) (hy : ev fs y = some (.int k b)) (hr : k.wrap (a + b) = a + b) : Yv P n B M fs hs o (.int k (a + b)) :=
  (Yv.pur (v := .int k (k.wrap (a + b))) (by rw [ho]; simp only [pureV, hx, hy]; cases k <;> rfl)).eq (by rw [hr])
/-- A slice literal of one part that fills it. -/
theorem Ew.buildSlice1 {t e : TypeId} {size bytes : Nat} {x : Operand} {z m : List Value} [hT : TyE P t e size bytes z] (ho : o.op = .buildSlice t 1 #[(0, x)]) (hv : ev fs x = some (.agg m.toArray)) (hm : m.length = size)
    (hbig : size ≤ 16777216) : Ew P n B M fs hs o (fun v hs' => ∃ g, v = .slice (some ⟨g, 0, none⟩) 1 1 ∧ hs' = .row g e m :: hs) := Ew.of_val fun a w ha hp => by
  obtain ⟨i, zv, hU, hi, hz, hzc, rfl, rfl, hzs, hpos⟩ := hT.get
  have hne : ¬ i.size = 0 := by omega
  refine ⟨_, _, _, ?_, Kp.alloc w _, hp.allocRow e m, w.heap.size, rfl, rfl⟩
  have hf := foldl_set m 0 0 ((Array.range i.size).map fun j => z.toArray[j % z.toArray.size]!) (by simp; omega)
  have e1 : (m.toArray.zipIdx.foldl (fun (cs : Array Value) (p : Value × Nat) => cs.setIfInBounds (0 + p.2) p.1) ((Array.range i.size).map fun j => z.toArray[j % z.toArray.size]!)) = m.toArray := by
    have e2 : ((Array.range i.size).map fun j => z.toArray[j % z.toArray.size]!).toList.drop (0 + 0 + m.length) = [] := List.drop_of_length_le (by simp; omega)
    rw [e2] at hf
    simpa using hf
  have hfill : Instr.fill (fun j => some (j * i.size, i.size)) ((Array.range i.size).map fun j => z.toArray[j % z.toArray.size]!) [(0, Value.agg m.toArray)] = some m.toArray := by
    unfold Instr.fill
    simp only [Nat.zero_mul, Value.cells]
    rw [if_neg (by simp; omega), e1]
    rfl
  unfold execOp
  simp at hfill
  simp [ho, Instr.buildSlice, underlying, hU, sizeOf, typeInfo, hi, show ¬ 16777216 < i.size by omega, hne, zeroValue, hz, hzc, ha.ev hv, hfill, newRow]
end
end Go.Proofs.YtljgejbmimapdaaDoor
namespace Go.Proofs.YtljgejbmimapdaaDoor
open Go.RowKit
/-- A word. -/
abbrev U (b : BitVec 64) : Value := .int .u64 (b.toNat : Int)
theorem wrapU (b : BitVec 64) : IntKind.u64.wrap (b.toNat : Int) = (b.toNat : Int) := by
  rw [IntKind.wrap_u64]; have := b.isLt; omega
theorem ofIntU (b : BitVec 64) : BitVec.ofInt 64 (b.toNat : Int) = b := by
  rw [BitVec.ofInt_natCast]; simp
theorem U.one (b : BitVec 64) : OneC (U b) := inferInstance
section
variable {P : Program} {n : Nat} {B D : World} {M : Nat → Prop} {fs : SFs} {hs : HS} {o : Oper} {v : Value}
theorem intBits_run {op : BinOp} {a b r : BitVec 64} (h : (op = .and ∧ r = a &&& b) ∨ (op = .or ∧ r = a ||| b) ∨ (op = .xor ∧ r = a ^^^ b) ∨ (op = .andNot ∧ r = a &&& ~~~b)) (t : TypeId) (w : World) : (binOp op t (U a) (U b)).run P w = .ok (U r) w := by
  rcases h with ⟨rfl, rfl⟩ | ⟨rfl, rfl⟩ | ⟨rfl, rfl⟩ | ⟨rfl, rfl⟩
  · have e : (binOp .and t (U a) (U b)).run P w = .ok (.int .u64 (IntKind.u64.wrap ((BitVec.ofInt 64 (a.toNat : Int) &&& BitVec.ofInt 64 (b.toNat : Int)).toNat : Int))) w := rfl
    rw [e, ofIntU, ofIntU, wrapU]
  · have e : (binOp .or t (U a) (U b)).run P w = .ok (.int .u64 (IntKind.u64.wrap ((BitVec.ofInt 64 (a.toNat : Int) ||| BitVec.ofInt 64 (b.toNat : Int)).toNat : Int))) w := rfl
    rw [e, ofIntU, ofIntU, wrapU]
  · have e : (binOp .xor t (U a) (U b)).run P w = .ok (.int .u64 (IntKind.u64.wrap ((BitVec.ofInt 64 (a.toNat : Int) ^^^ BitVec.ofInt 64 (b.toNat : Int)).toNat : Int))) w := rfl
    rw [e, ofIntU, ofIntU, wrapU]
  · have e : (binOp .andNot t (U a) (U b)).run P w = .ok (.int .u64 (IntKind.u64.wrap ((BitVec.ofInt 64 (a.toNat : Int) &&& ~~~(BitVec.ofInt 64 (b.toNat : Int))).toNat : Int))) w := rfl
    rw [e, ofIntU, ofIntU, wrapU]
theorem Yv.bitsV {op : BinOp} {x y : Operand} {t u : TypeId} {a b r : BitVec 64} (h : (op = .and ∧ r = a &&& b) ∨ (op = .or ∧ r = a ||| b) ∨ (op = .xor ∧ r = a ^^^ b) ∨ (op = .andNot ∧ r = a &&& ~~~b)) (ho : o.op = .binOp op t x y u) (hx : ev fs x = some (U a)) (hy : ev fs y = some (U b)) : Yv P n B M fs hs o (U r) := fun f w ha _ => by
  have hr := intBits_run (P := P) h t w
  have hg : (eqGuard op t x y (U a) (U b)).run P w = .ok () w := by rcases h with ⟨rfl, rfl⟩ | ⟨rfl, rfl⟩ | ⟨rfl, rfl⟩ | ⟨rfl, rfl⟩ <;> rfl
  unfold execOp
  simp only [ho, ha.ev hx, ha.ev hy]
  rw [Sem.run_bind, Sem.run_bind, hg]
  simp only [Result.andThen, hr]
  rfl
theorem Yv.andV {x y : Operand} {t u : TypeId} {a b : BitVec 64} (ho : o.op = .binOp .and t x y u) (hx : ev fs x = some (U a)) (hy : ev fs y = some (U b)) : Yv P n B M fs hs o (U (a &&& b)) := Yv.bitsV (.inl ⟨rfl, rfl⟩) ho hx hy
theorem Yv.orV {x y : Operand} {t u : TypeId} {a b : BitVec 64} (ho : o.op = .binOp .or t x y u) (hx : ev fs x = some (U a)) (hy : ev fs y = some (U b)) : Yv P n B M fs hs o (U (a ||| b)) := Yv.bitsV (.inr (.inl ⟨rfl, rfl⟩)) ho hx hy
theorem Yv.andNotV {x y : Operand} {t u : TypeId} {a b : BitVec 64} (ho : o.op = .binOp .andNot t x y u) (hx : ev fs x = some (U a)) (hy : ev fs y = some (U b)) : Yv P n B M fs hs o (U (a &&& ~~~b)) := Yv.bitsV (.inr (.inr (.inr ⟨rfl, rfl⟩))) ho hx hy
theorem Yv.shlV {x y : Operand} {t u : TypeId} {a : BitVec 64} {q : IntKind} {z : Int} (i : Nat) (ho : o.op = .binOp .shl t x y u) (hx : ev fs x = some (U a)) (hy : ev fs y = some (.int q z)) (hz : z = (i : Int)) (hi : i < 64) : Yv P n B M fs hs o (U (a <<< i)) := fun f w ha _ => by
  subst hz
  have hr : (binOp .shl t (U a) (.int q (i : Int))).run P w = .ok (U (a <<< i)) w := by
    show (Op.shift .shl .u64 (a.toNat : Int) q (i : Int)).run P w = _
    unfold Op.shift
    rw [if_neg (by omega)]
    have e : min (i : Int).toNat IntKind.u64.bits = i := by show min (i : Int).toNat 64 = i; omega
    simp only [e]
    show Result.ok _ _ = _
    congr 2
    rw [IntKind.wrap_u64, BitVec.toNat_shiftLeft, Nat.shiftLeft_eq, Int.natCast_emod, Int.natCast_mul, Int.natCast_pow]
    rfl
  unfold execOp
  simp only [ho, ha.ev hx, ha.ev hy]
  rw [Sem.run_bind, Sem.run_bind, show (eqGuard .shl t x y (U a) (.int q (i : Int))).run P w = .ok () w from rfl]
  simp only [Result.andThen, hr]
  rfl
theorem Yv.shrV {x y : Operand} {t u : TypeId} {a : BitVec 64} {q : IntKind} {z : Int} (i : Nat) (ho : o.op = .binOp .shr t x y u) (hx : ev fs x = some (U a)) (hy : ev fs y = some (.int q z)) (hz : z = (i : Int)) (hi : i < 64) : Yv P n B M fs hs o (U (a >>> i)) := fun f w ha _ => by
  subst hz
  have hr : (binOp .shr t (U a) (.int q (i : Int))).run P w = .ok (U (a >>> i)) w := by
    show (Op.shift .shr .u64 (a.toNat : Int) q (i : Int)).run P w = _
    unfold Op.shift
    rw [if_neg (by omega)]
    have e : min (i : Int).toNat IntKind.u64.bits = i := by show min (i : Int).toNat 64 = i; omega
    simp only [e]
    show Result.ok _ _ = _
    congr 2
    rw [Int.fdiv_eq_ediv_of_nonneg _ (by exact Int.le_of_lt (Int.pow_pos (by decide))), BitVec.toNat_ushiftRight, Nat.shiftRight_eq_div_pow]
    norm_cast
  unfold execOp
  simp only [ho, ha.ev hx, ha.ev hy]
  rw [Sem.run_bind, Sem.run_bind, show (eqGuard .shr t x y (U a) (.int q (i : Int))).run P w = .ok () w from rfl]
  simp only [Result.andThen, hr]
  rfl
theorem Yv.subV {x y : Operand} {t u : TypeId} {a b : BitVec 64} (ho : o.op = .binOp .sub t x y u) (hx : ev fs x = some (U a)) (hy : ev fs y = some (U b)) : Yv P n B M fs hs o (U (a - b)) :=
  (Yv.pur (v := .int .u64 (IntKind.u64.wrap ((a.toNat : Int) - (b.toNat : Int)))) (by rw [ho]; simp only [pureV, hx, hy]; rfl)).eq (by
    congr 1
    rw [IntKind.wrap_u64, BitVec.toNat_sub]
    have := a.isLt; have := b.isLt
    omega)
theorem Yv.complV {x : Operand} {t : TypeId} {a : BitVec 64} (ho : o.op = .unOp .xor t x) (hx : ev fs x = some (U a)) : Yv P n B M fs hs o (U (~~~a)) := fun f w ha _ => by
  have hr : (Op.unary .xor (U a)).run P w = .ok (U (~~~a)) w := by
    have e : (Op.unary .xor (U a)).run P w = .ok (.int .u64 (IntKind.u64.wrap ((BitVec.ofInt 64 (IntKind.u64.max) ^^^ BitVec.ofInt 64 (a.toNat : Int)).toNat : Int))) w := rfl
    rw [e, ofIntU, show BitVec.ofInt 64 IntKind.u64.max = BitVec.allOnes 64 from by decide, BitVec.allOnes_xor, wrapU]
  unfold execOp
  simp only [ho, ha.ev hx]
  rw [Sem.run_bind, hr]
  rfl
end
section
variable {P : Program} {n : Nat} {B D : World} {M : Nat → Prop} {fs : SFs} {hs : HS} {o : Oper} {v : Value}
/-- A store into an owned row, at a place that is not written out; l' is what the row becomes. -/
theorem Ew.storeR (i : Nat) {t u : TypeId} [hT : TyS P t] {x y : Operand} {g p : Nat} {l : List Value} {hs' : HS} {val : Value} [hv : OneC val] (l' : List Value) (ho : o.op = .store t x y) (hx : ev fs x = some (.pointer (some ⟨g, p, none⟩))) (hy : ev fs y = some val)
    (hi : hs[i]? = some (.row g u l)) (hp : p < l.length) (hl : l.set p val = l') [hH : SetAt hs i (.row g u l') hs'] : Ew P n B M fs hs o (fun v hs'' => v = undef ∧ hs'' = hs') := by
  haveI : SetAt l p val l' := ⟨hl⟩
  exact Ew.store1 i ho hx hy hi hp
theorem Ew.storeSE (i : Nat) {t e : TypeId} [hT : TyS P t] {x y : Operand} {g p k cap size : Nat} {l : List Value} {hs' : HS} {val : Value} [hv : OneC val] (l' : List Value) (ho : o.op = .store t x y) (hx : ev fs x = some (.pointer (some ⟨g, p, none⟩))) (hy : ev fs y = some val)
    (hi : hs[i]? = some (.sl (.slice (some ⟨g, 0, none⟩) k cap) e size k l)) (hp : p < l.length) (hl : l.set p val = l') [hH : SetAt hs i (.sl (.slice (some ⟨g, 0, none⟩) k cap) e size k l') hs'] : Ew P n B M fs hs o (fun v hs'' => v = undef ∧ hs'' = hs') := by
  subst hl
  exact Ew.storeS i ho hx hy hi hp
end
theorem U_one (b : BitVec 64) : OneC (U b) := inferInstance
instance (ws : List (BitVec 64)) : OneCs (ws.map fun b => U b) := ⟨fun x hx => by obtain ⟨b, _, rfl⟩ := List.mem_map.1 hx; rfl⟩
section
variable {P : Program} {n : Nat} {B D : World} {M : Nat → Prop} {fs : SFs} {hs : HS} {o : Oper} {v : Value}
theorem Yv.addV {x y : Operand} {t u : TypeId} {a b : BitVec 64} (ho : o.op = .binOp .add t x y u) (hx : ev fs x = some (U a)) (hy : ev fs y = some (U b)) : Yv P n B M fs hs o (U (a + b)) :=
  (Yv.pur (v := .int .u64 (IntKind.u64.wrap ((a.toNat : Int) + (b.toNat : Int)))) (by rw [ho]; simp only [pureV, hx, hy]; rfl)).eq (by
    rw [show IntKind.u64.wrap ((a.toNat : Int) + (b.toNat : Int)) = ((a + b).toNat : Int) from by rw [IntKind.wrap_u64, BitVec.toNat_add]; omega])
theorem Yv.mulV {x y : Operand} {t u : TypeId} {a b : BitVec 64} (ho : o.op = .binOp .mul t x y u) (hx : ev fs x = some (U a)) (hy : ev fs y = some (U b)) : Yv P n B M fs hs o (U (a * b)) :=
  (Yv.pur (v := .int .u64 (IntKind.u64.wrap ((a.toNat : Int) * (b.toNat : Int)))) (by rw [ho]; simp only [pureV, hx, hy]; rfl)).eq (by
    rw [show IntKind.u64.wrap ((a.toNat : Int) * (b.toNat : Int)) = ((a * b).toNat : Int) from by rw [IntKind.wrap_u64, BitVec.toNat_mul, Int.natCast_emod, Int.natCast_mul]; rfl])
theorem Yv.negV {x : Operand} {t : TypeId} {a : BitVec 64} (ho : o.op = .unOp .neg t x) (hx : ev fs x = some (U a)) : Yv P n B M fs hs o (U (-a)) := fun f w ha _ => by
  have hr : (Op.unary .neg (U a)).run P w = .ok (U (-a)) w := by
    have e : (Op.unary .neg (U a)).run P w = .ok (.int .u64 (IntKind.u64.wrap (0 - (a.toNat : Int)))) w := rfl
    rw [e]
    congr 2
    rw [IntKind.wrap_u64, BitVec.toNat_neg]
    have := a.isLt
    omega
  unfold execOp
  simp only [ho, ha.ev hx]
  rw [Sem.run_bind, hr]
  rfl
theorem Yv.convW {s t : TypeId} {k k' : IntKind} {z : Int} {x : Operand} [hS : TyI P s k'] [hT : TyI P t k] (ho : o.op = .convert s t x) (hx : ev fs x = some (.int k' z)) (hz : k.wrap z = z) : Yv P n B M fs hs o (.int k z) := Yv.convI ho hx hz
theorem Ew.makeSlice0 {t e : TypeId} {size bytes c : Nat} {z : List Value} {x y : Operand} {q q' : IntKind} {yi : Int} [hT : TyE P t e size bytes z] (ho : o.op = .makeSlice t x y) (hx : ev fs x = some (.int q 0)) (hy : ev fs y = some (.int q' yi)) (hyi : yi = (c : Int)) (hk : c ≤ 9223372036854775807) (hb : bytes * c ≤ 281474976710656) :
    Ew P n B M fs hs o (fun v hs' => ∃ g, v = .slice (some ⟨g, 0, none⟩) 0 c ∧ hs' = .sl (.slice (some ⟨g, 0, none⟩) 0 c) e size 0 [] :: hs) := Ew.of_val fun a w ha hp => by
  obtain ⟨inf, zv, hU, hinf, hz, hzc, rfl, rfl, hzs, hpos⟩ := hT.get
  subst hyi
  obtain ⟨w', hr, hown, hgr⟩ := run_make_own (P := P) w 0 t e inf zv inf.size hU hinf hz rfl q q' c hb (by unfold maxLen; omega) (Nat.zero_le _)
  refine ⟨_, w', _, ?_, Kp.only (only_grown hgr) (fun g hg => by cases hg), hp.fresh ⟨hgr.os, hgr.tape, hgr.output, hgr.size, fun k hk => hgr.block k hk (by simp)⟩ (Ent.sl_ok.2 hown) (fun p hp => ?_), w.heap.size, rfl, rfl⟩
  · unfold execOp
    simp [ho, ha.ev hx, ha.ev hy, hr]
  · have := Ent.sl_fp.1 hp
    simp [Value.ownBlock] at this
    omega
end
/-! ### Counting trailing zeros: the table of math/bits -/
/-- The table lies in the first package-level variable. -/
def Tab (w : World) : Prop := ∀ j, j < 64 → w.cell? ⟨0, j, none⟩ = some (.int .u8 (Lib.deBruijn64tab.getD j 0 : Nat))
theorem Tab.kept {B w : World} {M : Nat → Prop} {hs : HS} (hw : Hp B M hs w) (h : Tab B) (hM : ¬ M 0) : Tab w := fun j hj => hw.cellB (h j hj) hM
theorem Tab.keptF {B w : World} {hs : HS} (hw : Hp B (fun _ => False) hs w) (h : Tab B) : Tab w := h.kept hw (fun h => h)
theorem Tab.size {w : World} (h : Tab w) : 0 < w.heap.size := cell_lt (h 0 (by decide))
def ctz (a : BitVec 64) : Nat := Lib.ctz 64 a.toNat
theorem ctz_spec {a : BitVec 64} (ha : a ≠ 0#64) : ∃ m, a.toNat = 2 ^ ctz a * (2 * m + 1) ∧ ctz a < 64 := by
  have h0 : a.toNat ≠ 0 := fun h => ha (BitVec.eq_of_toNat_eq (by simpa using h))
  have := Lib.ctzFrom_spec 64 a.toNat (by omega) a.isLt
  unfold ctz Lib.ctz
  rw [if_neg h0]
  exact this
theorem ctz_lt {a : BitVec 64} (ha : a ≠ 0#64) : ctz a < 64 := by obtain ⟨m, _, h⟩ := ctz_spec ha; exact h
theorem tz_idx {a : BitVec 64} (ha : a ≠ 0#64) : (((a &&& -a) * 285870213051353865#64) >>> 58).toNat = 2 ^ ctz a * 285870213051353865 % 18446744073709551616 / 288230376151711744 := by
  have h0 : a.toNat ≠ 0 := fun h => ha (BitVec.eq_of_toNat_eq (by simpa using h))
  have hl := (Lib.lowest_bit 64 a.toNat h0 a.isLt).1
  have hlt := a.isLt
  rw [BitVec.toNat_ushiftRight, BitVec.toNat_mul, BitVec.toNat_and, BitVec.toNat_neg, Nat.mod_eq_of_lt (show 2 ^ 64 - a.toNat < 2 ^ 64 by omega), hl, Nat.shiftRight_eq_div_pow]
  rfl
theorem tz_tab {a : BitVec 64} (ha : a ≠ 0#64) : (((a &&& -a) * 285870213051353865#64) >>> 58).toNat < 64 ∧ Lib.deBruijn64tab.getD (((a &&& -a) * 285870213051353865#64) >>> 58).toNat 0 = ctz a := by
  rw [tz_idx ha]; exact Lib.deBruijn64_at _ (ctz_lt ha)
theorem ctz_bit {a : BitVec 64} (ha : a ≠ 0#64) (j : Nat) : (a.getLsbD (ctz a) = true) ∧ (j < ctz a → a.getLsbD j = false) := by
  obtain ⟨m, he, hlt⟩ := ctz_spec ha
  have hb : ∀ j, a.getLsbD j = (2 ^ ctz a * (2 * m + 1)).testBit j := fun j => by rw [← he]; rfl
  constructor
  · rw [hb, Nat.testBit_two_pow_mul]; simp
  · intro hj
    rw [hb, Nat.testBit_two_pow_mul]; simp; omega
theorem low_off {a : BitVec 64} (ha : a ≠ 0#64) (j : Nat) : (a &&& (a - 1#64)).getLsbD j = (a.getLsbD j && !decide (j = ctz a)) := by
  obtain ⟨m, he, hlt⟩ := ctz_spec ha
  have hb : ∀ j, a.getLsbD j = (2 ^ ctz a * (2 * m + 1)).testBit j := fun j => by rw [← he]; rfl
  have h2 : (2 ^ ctz a : Nat) > 0 := Nat.two_pow_pos _
  have hs : (a - 1#64).toNat = 2 ^ ctz a * (2 * m) + (2 ^ ctz a - 1) := by
    rw [BitVec.toNat_sub]
    have := a.isLt
    have e : 2 ^ ctz a * (2 * m + 1) = 2 ^ ctz a * (2 * m) + 2 ^ ctz a := by rw [Nat.mul_add, Nat.mul_one]
    rw [e] at he
    simp only [BitVec.toNat_ofNat]
    omega
  have hb2 : (a - 1#64).getLsbD j = (2 ^ ctz a * (2 * m) + (2 ^ ctz a - 1)).testBit j := by rw [← hs]; rfl
  rw [BitVec.getLsbD_and, hb2, hb j, Nat.testBit_two_pow_mul_add _ (by omega), Nat.testBit_two_pow_mul]
  by_cases h1 : j < ctz a
  · rw [if_pos h1, decide_eq_false (show ¬ ctz a ≤ j by omega)]; simp
  · rw [if_neg h1, decide_eq_true (show ctz a ≤ j by omega)]
    simp only [Bool.true_and]
    by_cases h3 : j = ctz a
    · subst h3; simp
    · rw [decide_eq_false h3, Bool.not_false, Bool.and_true]
      obtain ⟨i, hi⟩ : ∃ i, j - ctz a = i + 1 := ⟨j - ctz a - 1, by omega⟩
      rw [hi, Nat.testBit_succ, Nat.testBit_succ, show 2 * m / 2 = m by omega, show (2 * m + 1) / 2 = m by omega, Bool.and_self]
/-! ### Scopes, labels -/
section
variable {F : Fence} {P : Program} {b : Frame} {a : Act} {k : List Item} {cs : List Frame} {w : World} {Q : Exit → Act → World → Prop} {n : Nat}
theorem stepR_scope {c : Code} : step P (lone (b.atR a (.code (.scope c) :: k)) cs w) = .next (lone (b.atR a (.code c :: .inScope c :: k)) cs w) := step_lone_go (by simp [stepG, stepG.exec, Frame.atR])
theorem stepR_inScope {c : Code} : step P (lone (b.atR a (.inScope c :: k)) cs w) = .next (lone (b.atR a k) cs w) := step_lone_go (by simp [stepG, stepG.exec, Frame.atR])
theorem wpIn_scope {c : Code} (h : c.wpIn F n P (Exit.noGoto Q) a w) : (Code.scope c).wpIn F n P Q a w := by
  intro b k cs hro hb hr
  have h0 : (lone (b.atR a (.code (.scope c) :: k)) cs w).fenced P F := fenced_calm hb hr rfl
  obtain ⟨e, a₁, w₁, hq, harr⟩ := h b (.inScope c :: k) cs hro hb hr
  cases e with
  | normal => exact ⟨.normal, a₁, w₁, hq, .head h0 stepR_scope (StepsIn.trans harr (.one (fenced_calm hb hr rfl) stepR_inScope))⟩
  | exit id' =>
    have hx : exitTo id' (.inScope c :: k) = exitTo id' k := by simp [exitTo]
    exact ⟨.exit id', a₁, w₁, hq, fun k' hk => .head h0 stepR_scope (harr.1 k' (by rw [hx]; exact hk)),
        fun hr' hk => let ⟨k₁, h1, h2⟩ := harr.2 hr' (by rw [hx]; exact hk); ⟨k₁, h1, .head h0 stepR_scope h2⟩⟩
  | goto l => exact hq.elim
  | ret => exact ⟨_, a₁, w₁, hq, .of_steps (.one h0 stepR_scope) harr⟩
  | panic ch => exact ⟨_, a₁, w₁, hq, .of_steps (.one h0 stepR_scope) harr⟩
  | outgrown => exact ⟨_, a₁, w₁, hq, .of_steps (.one h0 stepR_scope) harr⟩
end
section
variable {F : Fence} {P : Program} {n : Nat} {B D : World} {M : Nat → Prop} {Q : Exit → Act → World → Prop} {fs : SFs} {hs : HS} {c : Code} {id : Nat}
theorem T.scope (h : T F P n B D M c (Exit.noGoto Q) fs hs) : T F P n B D M (.scope c) Q fs hs := ⟨fun a w ha hw hm => wpIn_scope (h.out a w ha hw hm)⟩
theorem T.label {l : Nat} (h : K n B D M Q .normal fs hs) : T F P n B D M (.label l) Q fs hs := ⟨fun a w ha hw hm => wpIn_label (h.out a w ha hw hm)⟩
theorem K.sc_normal (h : K n B D M Q .normal fs hs) : K n B D M (Exit.noGoto Q) .normal fs hs := ⟨fun a w ha hw hm => h.out a w ha hw hm⟩
theorem K.sc_ret (h : K n B D M Q .ret fs hs) : K n B D M (Exit.noGoto Q) .ret fs hs := ⟨fun a w ha hw hm => h.out a w ha hw hm⟩
theorem K.sc_exit (h : K n B D M Q (.exit id) fs hs) : K n B D M (Exit.noGoto Q) (.exit id) fs hs := ⟨fun a w ha hw hm => h.out a w ha hw hm⟩
instance (Q : Exit → Act → World → Prop) [h : NP Q] : NP (Exit.noGoto Q) := ⟨fun c a d v w k => h.h c a d v w k⟩
end
/-! ### Calls that take entries -/
section
variable {P : Program} {n : Nat} {B D : World} {M : Nat → Prop} {fs : SFs} {hs : HS} {o : Oper} {v : Value}
/-- A call of a closure that takes an entry and gives another in its place. -/
theorem Ew.callMC (i : Nat) {ι : Type} {e : Ent} {φ : ι → Prop} {val : ι → Value} {es : ι → Ent} {hs' : ι → HS} {c : Operand} {xs : Array Operand} {ts : Array TypeId} {f : FuncId} {caps : Array Value} {x : Value} [hE : Enters P f] (ho : o.op = .call { callee := .value c, args := xs, argTypes := ts }) (hc : ev fs c = some (.func (.func f) #[] caps)) (hv : evs fs xs.toList = some [x]) (hi : hs[i]? = some e)
    (C : ∀ w, Hp B M hs w → Calls P f (x :: caps.toList).toArray w (fun x w' => ∃ y, φ y ∧ x = .returned (val y) ∧ Hp w e.fp [es y] w')) [hH : ∀ y, SetAt hs i (es y) (hs' y)] : Ew P n B M fs hs o (fun v' hs'' => ∃ y, φ y ∧ v' = val y ∧ hs'' = hs' y) :=
  Ew.call ho hc hv fun w hp => by
    have := C w hp
    simp only [List.nil_append, List.singleton_append]
    exact this.mono fun x w' ⟨y, hy, he, hk⟩ => ⟨val y, hs' y, he, Kp.only hk.only (fun g hg c => e.nd (hp.get hi) g hg c), by
      rw [← (hH y).h]
      exact hp.updAt hi hk.only (fun g _ hg => hg) (hk.own _ (by simp)) (fun g hg => hk.new _ (by simp) g hg), y, hy, rfl, rfl⟩
/-- The blocks of entries. -/
def fps (es : HS) (g : Nat) : Prop := ∃ e ∈ es, e.fp g
theorem Hp.startL {w : World} {es : HS} (h : ∀ e ∈ es, e.ok w) (hap : es.Pairwise fun e f => ∀ g, e.fp g → ¬ f.fp g) : Hp w (fps es) es w :=
  ⟨rfl, rfl, rfl, Nat.le_refl _, fun _ _ _ => rfl, h, fun e he g hg => .inl ⟨e, he, hg⟩, hap⟩
/-- A call that takes entries and gives others in their place. -/
theorem Ew.callL (es rest : HS) {ι : Type} {φ : ι → Prop} {val : ι → Value} {es' : ι → HS} {c : Operand} {xs : Array Operand} {ts : Array TypeId} {f : FuncId} {vs : List Value} [hE : Enters P f] (ho : o.op = .call { callee := .value c, args := xs, argTypes := ts }) (hc : ev fs c = some (.func (.func f) #[] #[])) (hv : evs fs xs.toList = some vs) (hp : hs.Perm (es ++ rest))
    (C : ∀ w, Hp B M hs w → Hp B M (es ++ rest) w → Calls P f vs.toArray w (fun x w' => ∃ y, φ y ∧ x = .returned (val y) ∧ Hp w (fps es) (es' y) w')) : Ew P n B M fs hs o (fun v' hs'' => ∃ y, φ y ∧ v' = val y ∧ hs'' = es' y ++ rest) :=
  Ew.callX ho hc hv fun w hw => (C w hw (hw.perm hp)).mono fun x w' ⟨y, hy, he, hk⟩ => ⟨val y, es' y ++ rest, he, Kp.only hk.only (fun g hg c => by
      obtain ⟨e, h1, h2⟩ := hg
      exact e.nd ((hw.perm hp).own e (List.mem_append_left _ h1)) g h2 c), Hp.go (es := es) (hw.perm hp) hk.only (fun g _ hg => hg) hk.own (fun e he g hg => hk.new e he g hg) hk.apart, y, hy, rfl, rfl⟩
theorem Hp.ne {w : World} {i j : Nat} {e f : Ent} (h : Hp B M hs w) (hij : i < j) (hi : hs[i]? = some e) (hj : hs[j]? = some f) {g : Nat} (he : e.fp g) : ¬ f.fp g := by
  obtain ⟨h1, rfl⟩ := List.getElem?_eq_some_iff.1 hi
  obtain ⟨h2, rfl⟩ := List.getElem?_eq_some_iff.1 hj
  exact List.pairwise_iff_getElem.1 h.apart i j h1 h2 hij g he
end
theorem U_eq0 (a : BitVec 64) : decide ((a.toNat : Int) = 0) = decide (a = 0#64) := by
  congr 1
  simp only [eq_iff_iff]
  constructor
  · intro h; exact BitVec.eq_of_toNat_eq (by simpa using h)
  · rintro rfl; rfl
end Go.Proofs.YtljgejbmimapdaaDoor
namespace Go.Proofs.YtljgejbmimapdaaDoor
open Go.RowKit
theorem look_cons {k : Nat} {v : Value} {r : SFs} {t : Nat} : look ((k, v) :: r) t = if k = t then some v else look r t := by
  simp only [look]
  by_cases h : k = t
  · subst h; simp
  · rw [show Nat.beq k t = false from by cases hb : Nat.beq k t with | false => rfl | true => exact absurd (Nat.eq_of_beq_eq_true hb) h, if_neg h]; rfl
theorem look_perm {l1 l2 : SFs} (h : l1.Perm l2) : (l1.map Prod.fst).Nodup → ∀ fs t, look (l1 ++ fs) t = look (l2 ++ fs) t := by
  induction h with
  | nil => intros; rfl
  | cons x _ ih =>
    intro hn fs t
    obtain ⟨k, v⟩ := x
    simp only [List.cons_append, look_cons]
    rw [ih (by simp only [List.map_cons, List.nodup_cons] at hn; exact hn.2)]
  | swap x y l =>
    intro hn fs t
    obtain ⟨a, u⟩ := x
    obtain ⟨b, v⟩ := y
    simp only [List.map_cons, List.nodup_cons, List.mem_cons, not_or] at hn
    simp only [List.cons_append, look_cons]
    by_cases h1 : a = t <;> by_cases h2 : b = t
    · exact absurd (h2.trans h1.symm) hn.1.1
    · simp [h1, h2]
    · simp [h1, h2]
    · simp [h1, h2]
  | trans h1 _ ih1 ih2 =>
    intro hn fs t
    rw [ih1 hn, ih2 ((h1.map Prod.fst).nodup_iff.1 hn)]
section
variable {F : Fence} [hF : Calm F] {P : Program} {n : Nat} {B D : World} {M : Nat → Prop} {Q : Exit → Act → World → Prop} {fs : SFs} {hs hs0 : HS} {ops : Array Oper} {kk : Ord}
theorem TS.weaken {gs : SFs} {hs' : HS} {r : Ord} (h1 : Sub fs gs) (hp : hs.Perm hs') (h : TS F P n B D M ops Q hs0 r gs hs') : TS F P n B D M ops Q hs0 r fs hs :=
  ⟨fun a w fuel listed h2 h3 h4 ha hw hw0 hm => h.out a w fuel listed h2 h3 h4 (ha.sub h1) (hw.perm hp) hw0 hm⟩
theorem TS.anyP {js : List Nat} (d : Nat → Nat) (V : Nat → Nat → Value) (E : Nat → Nat → Ent)
    (hop : ∀ j ∈ js, ∃ o : Oper, ops[j]? = some o ∧ o.dst = some (d j) ∧ Nat.blt (d j) n = true ∧ look fs (d j) = none ∧ o.guard = none ∧ ∀ fs' hs', Sub fs' fs → Ew P n B M fs' hs' o (fun v hs'' => ∃ g, v = V j g ∧ hs'' = E j g :: hs'))
    (k : ∀ done : List (Nat × Nat), (done.map Prod.fst).Perm js → TS F P n B D M ops Q hs0 kk (done.map (fun p => (d p.1, V p.1 p.2)) ++ fs) (done.map (fun p => E p.1 p.2) ++ hs)) (hsub : hs0.Sublist hs) :
    TS F P n B D M ops Q hs0 (.any js kk) fs hs := by
  have main : ∀ m (rem : List Nat) (done : List (Nat × Nat)) fuel (listed : Array Bool) a w, Region.noSelect ops = true → noDefers ops = true → (done.map Prod.fst ++ rem).Perm js →
      ordAny ops (fun f l => ordOK ops kk f l) m rem fuel listed = true → Fr n (done.map (fun p => (d p.1, V p.1 p.2)) ++ fs) a → Hp B M (done.map (fun p => E p.1 p.2) ++ hs) w → Hp B M hs0 w → Mk B D a w →
      wpAnyC F P .any ops Q (Hp B M hs0) fuel listed a w := by
    intro m
    induction m with
    | zero =>
      intro rem done fuel listed a w hns hnd hp hok ha hw hw0 hm
      simp only [ordAny, Bool.and_eq_true, List.isEmpty_iff] at hok
      obtain ⟨rfl, hok⟩ := hok
      rw [List.append_nil] at hp
      exact (k done hp).out a w fuel listed hns hnd hok ha hw hw0 hm
    | succ m ih =>
      intro rem done fuel listed a w hns hnd hp hok ha hw hw0 hm
      cases fuel with
      | zero => simp [ordAny] at hok
      | succ fuel =>
        simp only [ordAny, Bool.and_eq_true, beq_iff_eq, Bool.not_eq_true', List.isEmpty_eq_false_iff, List.all_eq_true] at hok
        refine wpAnyC_all hok.1 hok.2.1 ?_
        intro q hq
        have hqj : q ∈ js := hp.subset (List.mem_append_right _ hq)
        obtain ⟨o, h1, h2, h3, h4, h5, hE⟩ := hop q hqj
        have hs' : Sub (done.map (fun p => (d p.1, V p.1 p.2)) ++ fs) fs := by
          have : ∀ (l : List (Nat × Nat)), (∀ p ∈ l, p.1 ∈ js) → Sub (l.map (fun p => (d p.1, V p.1 p.2)) ++ fs) fs := by
            intro l
            induction l with
            | nil => intro _; exact Sub.refl
            | cons p r ihr =>
              intro hl t v hv
              simp only [List.map_cons, List.cons_append, look_cons]
              by_cases hd : d p.1 = t
              · obtain ⟨_, _, _, _, this, _⟩ := hop p.1 (hl p (by simp))
                rw [hd] at this
                rw [this] at hv; cases hv
              · rw [if_neg hd]; exact ihr (fun x hx => hl x (by simp [hx])) t v hv
          exact this done (fun p hp' => hp.subset (List.mem_append_left _ (List.mem_map.2 ⟨p, hp', rfl⟩)))
        unfold wpOpIn
        simp only [h1, (Wt.none (n := n) (ops := ops) (fs := done.map (fun p => (d p.1, V p.1 p.2)) ++ fs) h5) a ha, if_true]
        refine hE _ _ hs' F hF Q _ a w ha hw ?_
        rintro v w' hs'' hk hp' ⟨g, rfl, rfl⟩
        rw [h2]
        have hsub' : hs0.Sublist (E q g :: (done.map (fun p => E p.1 p.2) ++ hs)) := (hsub.trans (List.sublist_append_right _ _)).trans (List.sublist_cons_self _ _)
        refine ⟨hp'.sub hsub', ?_⟩
        exact ih (rem.erase q) ((q, g) :: done) fuel _ _ w' hns hnd (by
          simp only [List.map_cons, List.cons_append]
          have : (q :: (done.map Prod.fst ++ rem.erase q)).Perm (done.map Prod.fst ++ q :: rem.erase q) := List.perm_middle.symm
          exact this.trans (((List.perm_cons_erase hq).symm.append_left _).trans hp)) (hok.2.2 q hq) (ha.put h3 _) hp' (hp'.sub hsub') ((hm.next hk).put _ _)
  exact ⟨fun a w fuel listed hns hnd hok ha hw hw0 hm => main js.length js [] fuel listed a w hns hnd (by simp) (by simpa [ordOK] using hok) ha hw hw0 hm⟩
def findG (done : List (Nat × Nat)) (j : Nat) : Nat := match done.find? (fun p => p.1 == j) with | some p => p.2 | none => 0
theorem findG_mem : ∀ (done : List (Nat × Nat)), (done.map Prod.fst).Nodup → ∀ p ∈ done, findG done p.1 = p.2
  | [], _, p, hp => by cases hp
  | q :: r, hn, p, hp => by
    simp only [List.map_cons, List.nodup_cons] at hn
    unfold findG
    rw [List.find?_cons]
    by_cases h : q.1 = p.1
    · have e : (q.1 == p.1) = true := by simpa using h
      simp only [e]
      rcases List.mem_cons.1 hp with rfl | hp
      · rfl
      · exact absurd (List.mem_map.2 ⟨p, hp, h.symm⟩) hn.1
    · have e : (q.1 == p.1) = false := by simpa using h
      simp only [e]
      rcases List.mem_cons.1 hp with rfl | hp
      · exact absurd rfl h
      · exact findG_mem r hn.2 p hp
theorem TS.any {js : List Nat} (d : Nat → Nat) (V : Nat → Nat → Value) (E : Nat → Nat → Ent) (hnd : js.Nodup) (hnd2 : (js.map d).Nodup)
    (hop : ∀ j ∈ js, ∃ o : Oper, ops[j]? = some o ∧ o.dst = some (d j) ∧ Nat.blt (d j) n = true ∧ look fs (d j) = none ∧ o.guard = none ∧ ∀ fs' hs', Sub fs' fs → Ew P n B M fs' hs' o (fun v hs'' => ∃ g, v = V j g ∧ hs'' = E j g :: hs'))
    (hsub : hs0.Sublist hs) (k : ∀ gs : Nat → Nat, TS F P n B D M ops Q hs0 kk (js.map (fun j => (d j, V j (gs j))) ++ fs) (js.map (fun j => E j (gs j)) ++ hs)) : TS F P n B D M ops Q hs0 (.any js kk) fs hs := by
  refine TS.anyP d V E hop (fun done hp => ?_) hsub
  have hdn : (done.map Prod.fst).Nodup := hp.nodup_iff.2 hnd
  have he : done = (done.map Prod.fst).map (fun j => (j, findG done j)) := by
    rw [List.map_map]
    conv => lhs; rw [← List.map_id done]
    exact List.map_congr_left fun p hp' => by simp [findG_mem done hdn p hp']
  have hpd : done.Perm (js.map (fun j => (j, findG done j))) := by
    have := hp.map (fun j => (j, findG done j))
    rw [← he] at this
    exact this
  refine TS.weaken (fun t v hv => ?_) ?_ (k (findG done))
  · have h1 := hpd.map (fun p => (d p.1, V p.1 p.2))
    rw [List.map_map] at h1
    rw [look_perm h1 (by
      rw [List.map_map]
      have := hp.map d
      rw [List.map_map] at this
      exact this.nodup_iff.2 hnd2)]
    exact hv
  · have h1 := hpd.map (fun p => E p.1 p.2)
    rw [List.map_map] at h1
    exact h1.append_right _
end
/-! ### Bags -/
@[irreducible] def Ent.bag (es : HS) : Ent where
  fp g := ∃ e ∈ es, e.fp g
  ok w := (∀ e ∈ es, e.ok w) ∧ es.Pairwise fun (e f : Ent) => ∀ g : Nat, e.fp g → ¬ f.fp g
  loc h k := ⟨fun e he => e.loc (fun g hg => h g ⟨e, he, hg⟩) (k.1 e he), k.2⟩
  lt h g hg := by obtain ⟨e, he, hg⟩ := hg; exact e.lt (h.1 e he) g hg
  nd h g hg c := by obtain ⟨e, he, hg⟩ := hg; exact e.nd (h.1 e he) g hg c
theorem Ent.bag_fp {es : HS} {g : Nat} : (Ent.bag es).fp g ↔ ∃ e ∈ es, e.fp g := by unfold Ent.bag; exact Iff.rfl
theorem Ent.bag_ok {es : HS} {w : World} : (Ent.bag es).ok w ↔ (∀ e ∈ es, e.ok w) ∧ es.Pairwise fun e f => ∀ g, e.fp g → ¬ f.fp g := by unfold Ent.bag; exact Iff.rfl
section
variable {F : Fence} {P : Program} {n : Nat} {B D : World} {M : Nat → Prop} {Q : Exit → Act → World → Prop} {fs : SFs} {hs : HS} {c : Code} {e : Exit} {w : World}
theorem Hp.repl {es es' rest : HS} (h : Hp B M (es ++ rest) w) (hok : ∀ e ∈ es', e.ok w) (hfp : ∀ e ∈ es', ∀ g, e.fp g → ∃ f ∈ es, f.fp g) (hap : es'.Pairwise fun e f => ∀ g, e.fp g → ¬ f.fp g) : Hp B M (es' ++ rest) w :=
  Hp.go (es := es) h (Only.refl (fun _ => False) w) (fun _ _ h => h.elim) hok (fun e he g hg => .inl (hfp e he g hg)) hap
theorem Hp.openB {i a : Nat} {es : HS} {x : Ent} (h : Hp B M hs w) (hi : hs[i]? = some (.bag es)) (ha : es[a]? = some x) : Hp B M (x :: hs.set i (.bag (es.eraseIdx a))) w := by
  have h1 := h.perm (set_perm hi)
  have hb := Ent.bag_ok.1 (h1.own (.bag es) (by simp))
  obtain ⟨hal, rfl⟩ := List.getElem?_eq_some_iff.1 ha
  have hpe := erase_perm es a hal
  have hpw := (hpe.pairwise_iff (fun hxy g hy hx => hxy g hx hy)).1 hb.2
  rw [List.pairwise_cons] at hpw
  have h2 := Hp.repl (es := [.bag es]) (es' := [es[a], .bag (es.eraseIdx a)]) h1 (fun e he => by
      simp only [List.mem_cons, List.not_mem_nil, or_false] at he
      rcases he with rfl | rfl
      · exact hb.1 _ (List.getElem_mem _)
      · exact Ent.bag_ok.2 ⟨fun e he => hb.1 e (List.mem_of_mem_eraseIdx he), hpw.2⟩) (fun e he g hg => by
      simp only [List.mem_cons, List.not_mem_nil, or_false] at he
      refine ⟨_, List.mem_singleton.2 rfl, Ent.bag_fp.2 ?_⟩
      rcases he with rfl | rfl
      · exact ⟨_, List.getElem_mem _, hg⟩
      · obtain ⟨f, hf, hg⟩ := Ent.bag_fp.1 hg
        exact ⟨f, List.mem_of_mem_eraseIdx hf, hg⟩) (by
      refine List.pairwise_cons.2 ⟨fun f hf g hg hfg => ?_, List.pairwise_singleton _ _⟩
      rw [List.mem_singleton.1 hf] at hfg
      obtain ⟨f', hf', hg'⟩ := Ent.bag_fp.1 hfg
      exact hpw.1 f' hf' g hg hg')
  exact h2.perm ((set_perm' hi).cons _)
theorem Hp.closeB {i a : Nat} {es : HS} {x : Ent} (h : Hp B M (x :: hs) w) (hi : hs[i]? = some (.bag (es.eraseIdx a))) (ha : a < es.length) : Hp B M (hs.set i (.bag (es.set a x))) w := by
  have h1 : Hp B M ([x, .bag (es.eraseIdx a)] ++ hs.eraseIdx i) w := h.perm ((set_perm hi).cons _)
  have hb := Ent.bag_ok.1 (h1.own (.bag (es.eraseIdx a)) (by simp))
  have hx := h1.own x (by simp)
  have hxb := (List.pairwise_cons.1 h1.apart).1 (.bag (es.eraseIdx a)) (by simp)
  have hpe : (x :: es.eraseIdx a).Perm (es.set a x) := by
    have := set_perm' (hs := es) (e := es[a]) (e' := x) (i := a) (List.getElem?_eq_getElem ha)
    exact this
  have h2 := Hp.repl (es := [x, .bag (es.eraseIdx a)]) (es' := [.bag (es.set a x)]) h1 (fun e he => by
      rw [List.mem_singleton.1 he]
      refine Ent.bag_ok.2 ⟨fun e he => ?_, (hpe.pairwise_iff (fun hxy g hy hx => hxy g hx hy)).1 (List.pairwise_cons.2 ⟨fun f hf g hg hfg => hxb g hg (Ent.bag_fp.2 ⟨f, hf, hfg⟩), hb.2⟩)⟩
      rcases List.mem_cons.1 (hpe.symm.subset he) with rfl | he
      · exact hx
      · exact hb.1 e he) (fun e he g hg => by
      rw [List.mem_singleton.1 he] at hg
      obtain ⟨f, hf, hfg⟩ := Ent.bag_fp.1 hg
      rcases List.mem_cons.1 (hpe.symm.subset hf) with e1 | hf
      · rw [e1] at hfg; exact ⟨x, by simp, hfg⟩
      · exact ⟨.bag (es.eraseIdx a), by simp, Ent.bag_fp.2 ⟨f, hf, hfg⟩⟩) (List.pairwise_singleton _ _)
  exact h2.perm (set_perm' hi)
theorem T.openB (i a : Nat) {es : HS} {x : Ent} {hs' : HS} (hi : hs[i]? = some (.bag es)) (ha : es[a]? = some x) [hH : SetAt hs i (.bag (es.eraseIdx a)) hs'] (h : T F P n B D M c Q fs (x :: hs')) : T F P n B D M c Q fs hs := ⟨fun a' w ha' hw hm => h.out a' w ha' (by rw [← hH.h]; exact hw.openB hi ha) hm⟩
theorem K.closeB (i a : Nat) {es : HS} {x : Ent} {hs' : HS} (hi : hs[i]? = some (.bag (es.eraseIdx a))) (ha : a < es.length) [hH : SetAt hs i (.bag (es.set a x)) hs'] (h : K n B D M Q e fs hs') : K n B D M Q e fs (x :: hs) := ⟨fun a' w ha' hw hm => h.out a' w ha' (by rw [← hH.h]; exact hw.closeB hi ha) hm⟩
theorem K.closeBE (i a : Nat) {es : HS} (es' : HS) {x : Ent} {hs' : HS} (hi : hs[i]? = some (.bag (es.eraseIdx a))) (ha : a < es.length) (he : es.set a x = es') [hH : SetAt hs i (.bag es') hs'] (h : K n B D M Q e fs hs') : K n B D M Q e fs (x :: hs) := by
  subst he
  exact K.closeB i a hi ha h
theorem Hp.intoB {i : Nat} {es : HS} {x : Ent} (h : Hp B M (x :: hs) w) (hi : hs[i]? = some (.bag es)) : Hp B M (hs.set i (.bag (es ++ [x]))) w := by
  have h1 : Hp B M ([x, .bag es] ++ hs.eraseIdx i) w := h.perm ((set_perm hi).cons _)
  have hb := Ent.bag_ok.1 (h1.own (.bag es) (by simp))
  have hx := h1.own x (by simp)
  have hxb := (List.pairwise_cons.1 h1.apart).1 (.bag es) (by simp)
  have h2 := Hp.repl (es := [x, .bag es]) (es' := [.bag (es ++ [x])]) h1 (fun e he => by
      rw [List.mem_singleton.1 he]
      refine Ent.bag_ok.2 ⟨fun e he => ?_, List.pairwise_append.2 ⟨hb.2, List.pairwise_singleton _ _, fun f hf y hy g hg hyg => ?_⟩⟩
      · rcases List.mem_append.1 he with he | he
        · exact hb.1 e he
        · rw [List.mem_singleton.1 he]; exact hx
      · rw [List.mem_singleton.1 hy] at hyg
        exact hxb g hyg (Ent.bag_fp.2 ⟨f, hf, hg⟩)) (fun e he g hg => by
      rw [List.mem_singleton.1 he] at hg
      obtain ⟨f, hf, hfg⟩ := Ent.bag_fp.1 hg
      rcases List.mem_append.1 hf with hf | hf
      · exact ⟨.bag es, by simp, Ent.bag_fp.2 ⟨f, hf, hfg⟩⟩
      · rw [List.mem_singleton.1 hf] at hfg; exact ⟨x, by simp, hfg⟩) (List.pairwise_singleton _ _)
  exact h2.perm (set_perm' hi)
theorem K.intoBE (i : Nat) {es : HS} (es' : HS) {x : Ent} {hs' : HS} (hi : hs[i]? = some (.bag es)) (he : es ++ [x] = es') [hH : SetAt hs i (.bag es') hs'] (h : K n B D M Q e fs hs') : K n B D M Q e fs (x :: hs) := by
  subst he
  exact ⟨fun a' w ha' hw hm => h.out a' w ha' (by rw [← hH.h]; exact hw.intoB hi) hm⟩
/-- Entries that own nothing yet. -/
theorem Hp.bag0 {es : HS} (h : Hp B M hs w) (hok : ∀ w, ∀ e ∈ es, e.ok w) (hfp : ∀ e ∈ es, ∀ g, ¬ e.fp g) : Hp B M (.bag es :: hs) w :=
  Hp.repl (es := []) (es' := [.bag es]) h (fun e he => by
    rw [List.mem_singleton.1 he]
    exact Ent.bag_ok.2 ⟨hok w, (List.pairwise_iff_forall_sublist).2 (fun {a b} hs g hg => absurd hg (hfp a (hs.subset (by simp)) g))⟩) (fun e he g hg => by
    rw [List.mem_singleton.1 he] at hg
    obtain ⟨f, hf, hg⟩ := Ent.bag_fp.1 hg
    exact absurd hg (hfp f hf g)) (List.pairwise_singleton _ _)
theorem T.bag0 (es : HS) (hok : ∀ w, ∀ e ∈ es, e.ok w) (hfp : ∀ e ∈ es, ∀ g, ¬ e.fp g) (h : T F P n B D M c Q fs (.bag es :: hs)) : T F P n B D M c Q fs hs := ⟨fun a w ha hw hm => h.out a w ha (hw.bag0 hok hfp) hm⟩
end
end Go.Proofs.YtljgejbmimapdaaDoor
namespace Go.Proofs.YtljgejbmimapdaaDoor
instance : Mixed Tryd.prog := ⟨by kernel_rfl⟩
instance : Enters Tryd.prog 10 := ⟨by kernel_rfl⟩
instance : Enters Tryd.prog 100 := ⟨by kernel_rfl⟩
instance : Enters Tryd.prog 101 := ⟨by kernel_rfl⟩
instance : Enters Tryd.prog 102 := ⟨by kernel_rfl⟩
instance : Enters Tryd.prog 103 := ⟨by kernel_rfl⟩
instance : Enters Tryd.prog 104 := ⟨by kernel_rfl⟩
instance : Enters Tryd.prog 105 := ⟨by kernel_rfl⟩
instance : Enters Tryd.prog 106 := ⟨by kernel_rfl⟩
instance : Enters Tryd.prog 107 := ⟨by kernel_rfl⟩
instance : Enters Tryd.prog 108 := ⟨by kernel_rfl⟩
instance : Enters Tryd.prog 109 := ⟨by kernel_rfl⟩
instance : Enters Tryd.prog 11 := ⟨by kernel_rfl⟩
instance : Enters Tryd.prog 110 := ⟨by kernel_rfl⟩
instance : Enters Tryd.prog 111 := ⟨by kernel_rfl⟩
instance : Enters Tryd.prog 112 := ⟨by kernel_rfl⟩
instance : Enters Tryd.prog 113 := ⟨by kernel_rfl⟩
instance : Enters Tryd.prog 114 := ⟨by kernel_rfl⟩
instance : Enters Tryd.prog 115 := ⟨by kernel_rfl⟩
instance : Enters Tryd.prog 116 := ⟨by kernel_rfl⟩
instance : Enters Tryd.prog 117 := ⟨by kernel_rfl⟩
instance : Enters Tryd.prog 12 := ⟨by kernel_rfl⟩
instance : Enters Tryd.prog 13 := ⟨by kernel_rfl⟩
instance : Enters Tryd.prog 138 := ⟨by kernel_rfl⟩
instance : Enters Tryd.prog 14 := ⟨by kernel_rfl⟩
instance : Enters Tryd.prog 15 := ⟨by kernel_rfl⟩
instance : Enters Tryd.prog 16 := ⟨by kernel_rfl⟩
instance : Enters Tryd.prog 17 := ⟨by kernel_rfl⟩
instance : Enters Tryd.prog 18 := ⟨by kernel_rfl⟩
instance : Enters Tryd.prog 19 := ⟨by kernel_rfl⟩
instance : Enters Tryd.prog 2 := ⟨by kernel_rfl⟩
instance : Enters Tryd.prog 20 := ⟨by kernel_rfl⟩
instance : Enters Tryd.prog 21 := ⟨by kernel_rfl⟩
instance : Enters Tryd.prog 22 := ⟨by kernel_rfl⟩
instance : Enters Tryd.prog 23 := ⟨by kernel_rfl⟩
instance : Enters Tryd.prog 24 := ⟨by kernel_rfl⟩
instance : Enters Tryd.prog 25 := ⟨by kernel_rfl⟩
instance : Enters Tryd.prog 26 := ⟨by kernel_rfl⟩
instance : Enters Tryd.prog 27 := ⟨by kernel_rfl⟩
instance : Enters Tryd.prog 28 := ⟨by kernel_rfl⟩
instance : Enters Tryd.prog 29 := ⟨by kernel_rfl⟩
instance : Enters Tryd.prog 3 := ⟨by kernel_rfl⟩
instance : Enters Tryd.prog 30 := ⟨by kernel_rfl⟩
instance : Enters Tryd.prog 31 := ⟨by kernel_rfl⟩
instance : Enters Tryd.prog 32 := ⟨by kernel_rfl⟩
instance : Enters Tryd.prog 33 := ⟨by kernel_rfl⟩
instance : Enters Tryd.prog 34 := ⟨by kernel_rfl⟩
instance : Enters Tryd.prog 35 := ⟨by kernel_rfl⟩
instance : Enters Tryd.prog 36 := ⟨by kernel_rfl⟩
instance : Enters Tryd.prog 37 := ⟨by kernel_rfl⟩
instance : Enters Tryd.prog 38 := ⟨by kernel_rfl⟩
instance : Enters Tryd.prog 39 := ⟨by kernel_rfl⟩
instance : Enters Tryd.prog 4 := ⟨by kernel_rfl⟩
instance : Enters Tryd.prog 40 := ⟨by kernel_rfl⟩
instance : Enters Tryd.prog 41 := ⟨by kernel_rfl⟩
instance : Enters Tryd.prog 42 := ⟨by kernel_rfl⟩
instance : Enters Tryd.prog 43 := ⟨by kernel_rfl⟩
instance : Enters Tryd.prog 44 := ⟨by kernel_rfl⟩
instance : Enters Tryd.prog 45 := ⟨by kernel_rfl⟩
instance : Enters Tryd.prog 46 := ⟨by kernel_rfl⟩
instance : Enters Tryd.prog 47 := ⟨by kernel_rfl⟩
instance : Enters Tryd.prog 48 := ⟨by kernel_rfl⟩
instance : Enters Tryd.prog 49 := ⟨by kernel_rfl⟩
instance : Enters Tryd.prog 5 := ⟨by kernel_rfl⟩
instance : Enters Tryd.prog 50 := ⟨by kernel_rfl⟩
instance : Enters Tryd.prog 51 := ⟨by kernel_rfl⟩
instance : Enters Tryd.prog 52 := ⟨by kernel_rfl⟩
instance : Enters Tryd.prog 53 := ⟨by kernel_rfl⟩
instance : Enters Tryd.prog 54 := ⟨by kernel_rfl⟩
instance : Enters Tryd.prog 55 := ⟨by kernel_rfl⟩
instance : Enters Tryd.prog 56 := ⟨by kernel_rfl⟩
instance : Enters Tryd.prog 57 := ⟨by kernel_rfl⟩
instance : Enters Tryd.prog 58 := ⟨by kernel_rfl⟩
instance : Enters Tryd.prog 59 := ⟨by kernel_rfl⟩
instance : Enters Tryd.prog 6 := ⟨by kernel_rfl⟩
instance : Enters Tryd.prog 60 := ⟨by kernel_rfl⟩
instance : Enters Tryd.prog 61 := ⟨by kernel_rfl⟩
instance : Enters Tryd.prog 62 := ⟨by kernel_rfl⟩
instance : Enters Tryd.prog 63 := ⟨by kernel_rfl⟩
instance : Enters Tryd.prog 64 := ⟨by kernel_rfl⟩
instance : Enters Tryd.prog 65 := ⟨by kernel_rfl⟩
instance : Enters Tryd.prog 66 := ⟨by kernel_rfl⟩
instance : Enters Tryd.prog 67 := ⟨by kernel_rfl⟩
instance : Enters Tryd.prog 68 := ⟨by kernel_rfl⟩
instance : Enters Tryd.prog 69 := ⟨by kernel_rfl⟩
instance : Enters Tryd.prog 7 := ⟨by kernel_rfl⟩
instance : Enters Tryd.prog 70 := ⟨by kernel_rfl⟩
instance : Enters Tryd.prog 71 := ⟨by kernel_rfl⟩
instance : Enters Tryd.prog 72 := ⟨by kernel_rfl⟩
instance : Enters Tryd.prog 73 := ⟨by kernel_rfl⟩
instance : Enters Tryd.prog 74 := ⟨by kernel_rfl⟩
instance : Enters Tryd.prog 75 := ⟨by kernel_rfl⟩
instance : Enters Tryd.prog 76 := ⟨by kernel_rfl⟩
instance : Enters Tryd.prog 77 := ⟨by kernel_rfl⟩
instance : Enters Tryd.prog 78 := ⟨by kernel_rfl⟩
instance : Enters Tryd.prog 79 := ⟨by kernel_rfl⟩
instance : Enters Tryd.prog 8 := ⟨by kernel_rfl⟩
instance : Enters Tryd.prog 80 := ⟨by kernel_rfl⟩
instance : Enters Tryd.prog 81 := ⟨by kernel_rfl⟩
instance : Enters Tryd.prog 82 := ⟨by kernel_rfl⟩
instance : Enters Tryd.prog 83 := ⟨by kernel_rfl⟩
instance : Enters Tryd.prog 84 := ⟨by kernel_rfl⟩
instance : Enters Tryd.prog 85 := ⟨by kernel_rfl⟩
instance : Enters Tryd.prog 86 := ⟨by kernel_rfl⟩
instance : Enters Tryd.prog 87 := ⟨by kernel_rfl⟩
instance : Enters Tryd.prog 88 := ⟨by kernel_rfl⟩
instance : Enters Tryd.prog 89 := ⟨by kernel_rfl⟩
instance : Enters Tryd.prog 9 := ⟨by kernel_rfl⟩
instance : Enters Tryd.prog 90 := ⟨by kernel_rfl⟩
instance : Enters Tryd.prog 91 := ⟨by kernel_rfl⟩
instance : Enters Tryd.prog 92 := ⟨by kernel_rfl⟩
instance : Enters Tryd.prog 93 := ⟨by kernel_rfl⟩
instance : Enters Tryd.prog 94 := ⟨by kernel_rfl⟩
instance : Enters Tryd.prog 95 := ⟨by kernel_rfl⟩
instance : Enters Tryd.prog 96 := ⟨by kernel_rfl⟩
instance : Enters Tryd.prog 97 := ⟨by kernel_rfl⟩
instance : Enters Tryd.prog 98 := ⟨by kernel_rfl⟩
instance : Enters Tryd.prog 99 := ⟨by kernel_rfl⟩
instance : TyA Tryd.prog 101 518 := ⟨by kernel_rfl⟩
instance : TyA Tryd.prog 107 2 := ⟨by kernel_rfl⟩
instance : TyA Tryd.prog 125 8 := ⟨by kernel_rfl⟩
instance : TyA Tryd.prog 127 8 := ⟨by kernel_rfl⟩
instance : TyA Tryd.prog 137 3 := ⟨by kernel_rfl⟩
instance : TyA Tryd.prog 156 52 := ⟨by kernel_rfl⟩
instance : TyA Tryd.prog 162 64 := ⟨by kernel_rfl⟩
instance : TyA Tryd.prog 27 3 := ⟨by kernel_rfl⟩
instance : TyA Tryd.prog 29 4 := ⟨by kernel_rfl⟩
instance : TyA Tryd.prog 40 2 := ⟨by kernel_rfl⟩
instance : TyA Tryd.prog 50 3 := ⟨by kernel_rfl⟩
instance : TyA Tryd.prog 64 2 := ⟨by kernel_rfl⟩
instance : TyA Tryd.prog 69 3 := ⟨by kernel_rfl⟩
instance : TyA Tryd.prog 84 5 := ⟨by kernel_rfl⟩
instance : TyA Tryd.prog 86 5 := ⟨by kernel_rfl⟩
instance : TyA Tryd.prog 88 4 := ⟨by kernel_rfl⟩
instance : TyAr Tryd.prog 125 8 93 1 := ⟨by kernel_rfl⟩
instance : TyAr Tryd.prog 137 3 135 1 := ⟨by kernel_rfl⟩
instance : TyAr Tryd.prog 156 52 3 1 := ⟨by kernel_rfl⟩
instance : TyAr Tryd.prog 162 64 5 1 := ⟨by kernel_rfl⟩
instance : TyAr Tryd.prog 96 512 3 1 := ⟨by kernel_rfl⟩
instance : TyE Tryd.prog 22 64 2 32 ([.int .i64 0, .slice none 0 0]) := ⟨by kernel_rfl⟩
instance : TyE Tryd.prog 23 84 5 40 ([.int .i64 0, .int .i64 0, .int .i64 0, .int .i64 0, .int .i64 0]) := ⟨by kernel_rfl⟩
instance : TyE Tryd.prog 24 86 5 40 ([.int .i64 0, .int .i64 0, .int .i64 0, .int .i64 0, .int .i64 0]) := ⟨by kernel_rfl⟩
instance : TyE Tryd.prog 25 88 4 32 ([.int .i64 0, .int .i64 0, .int .i64 0, .int .i64 0]) := ⟨by kernel_rfl⟩
instance : TyE Tryd.prog 30 40 2 16 ([.int .i64 0, .int .i64 0]) := ⟨by kernel_rfl⟩
instance : TyE Tryd.prog 45 50 3 24 ([.int .i64 0, .int .i64 0, .int .i64 0]) := ⟨by kernel_rfl⟩
instance : TyE Tryd.prog 62 3 1 8 ([.int .i64 0]) := ⟨by kernel_rfl⟩
instance : TyE Tryd.prog 67 93 1 8 ([.int .u64 0]) := ⟨by kernel_rfl⟩
instance : TyE Tryd.prog 70 46 1 8 ([.pointer none]) := ⟨by kernel_rfl⟩
instance : TyE Tryd.prog 97 23 1 24 ([.slice none 0 0]) := ⟨by kernel_rfl⟩
instance : TyE Tryd.prog 98 25 1 24 ([.slice none 0 0]) := ⟨by kernel_rfl⟩
instance : TyE Tryd.prog 99 24 1 24 ([.slice none 0 0]) := ⟨by kernel_rfl⟩
instance : TyF Tryd.prog 101 0 0 := ⟨by kernel_rfl⟩
instance : TyF Tryd.prog 101 1 1 := ⟨by kernel_rfl⟩
instance : TyF Tryd.prog 101 2 513 := ⟨by kernel_rfl⟩
instance : TyF Tryd.prog 101 3 514 := ⟨by kernel_rfl⟩
instance : TyF Tryd.prog 101 4 515 := ⟨by kernel_rfl⟩
instance : TyF Tryd.prog 101 5 516 := ⟨by kernel_rfl⟩
instance : TyF Tryd.prog 101 6 517 := ⟨by kernel_rfl⟩
instance : TyF Tryd.prog 127 0 0 := ⟨by kernel_rfl⟩
instance : TyF Tryd.prog 27 0 0 := ⟨by kernel_rfl⟩
instance : TyF Tryd.prog 27 1 1 := ⟨by kernel_rfl⟩
instance : TyF Tryd.prog 27 2 2 := ⟨by kernel_rfl⟩
instance : TyF Tryd.prog 29 0 0 := ⟨by kernel_rfl⟩
instance : TyF Tryd.prog 29 1 1 := ⟨by kernel_rfl⟩
instance : TyF Tryd.prog 40 0 0 := ⟨by kernel_rfl⟩
instance : TyF Tryd.prog 40 1 1 := ⟨by kernel_rfl⟩
instance : TyF Tryd.prog 50 0 0 := ⟨by kernel_rfl⟩
instance : TyF Tryd.prog 50 1 1 := ⟨by kernel_rfl⟩
instance : TyF Tryd.prog 64 0 0 := ⟨by kernel_rfl⟩
instance : TyF Tryd.prog 64 1 1 := ⟨by kernel_rfl⟩
instance : TyF Tryd.prog 69 0 0 := ⟨by kernel_rfl⟩
instance : TyF Tryd.prog 69 1 1 := ⟨by kernel_rfl⟩
instance : TyF Tryd.prog 69 2 2 := ⟨by kernel_rfl⟩
instance : TyF Tryd.prog 84 0 0 := ⟨by kernel_rfl⟩
instance : TyF Tryd.prog 84 1 1 := ⟨by kernel_rfl⟩
instance : TyF Tryd.prog 84 2 2 := ⟨by kernel_rfl⟩
instance : TyF Tryd.prog 84 3 3 := ⟨by kernel_rfl⟩
instance : TyF Tryd.prog 84 4 4 := ⟨by kernel_rfl⟩
instance : TyF Tryd.prog 86 0 0 := ⟨by kernel_rfl⟩
instance : TyF Tryd.prog 86 1 1 := ⟨by kernel_rfl⟩
instance : TyF Tryd.prog 86 2 2 := ⟨by kernel_rfl⟩
instance : TyF Tryd.prog 86 3 3 := ⟨by kernel_rfl⟩
instance : TyF Tryd.prog 86 4 4 := ⟨by kernel_rfl⟩
instance : TyF Tryd.prog 88 0 0 := ⟨by kernel_rfl⟩
instance : TyF Tryd.prog 88 1 1 := ⟨by kernel_rfl⟩
instance : TyF Tryd.prog 88 2 2 := ⟨by kernel_rfl⟩
instance : TyF Tryd.prog 88 3 3 := ⟨by kernel_rfl⟩
instance : TyI Tryd.prog 3 .i64 := ⟨by kernel_rfl⟩
instance : TyI Tryd.prog 5 .u8 := ⟨by kernel_rfl⟩
instance : TyI Tryd.prog 93 .u64 := ⟨by kernel_rfl⟩
instance : TyP Tryd.prog 29 0 false 0 1 := ⟨by kernel_rfl⟩
instance : TyPl Tryd.prog 101 0 0 1 := ⟨by kernel_rfl⟩
instance : TyPl Tryd.prog 101 3 514 1 := ⟨by kernel_rfl⟩
instance : TyPl Tryd.prog 101 4 515 1 := ⟨by kernel_rfl⟩
instance : TyPl Tryd.prog 101 5 516 1 := ⟨by kernel_rfl⟩
instance : TyPl Tryd.prog 101 6 517 1 := ⟨by kernel_rfl⟩
instance : TyPl Tryd.prog 107 0 0 1 := ⟨by kernel_rfl⟩
instance : TyPl Tryd.prog 107 1 1 1 := ⟨by kernel_rfl⟩
instance : TyPl Tryd.prog 27 0 0 1 := ⟨by kernel_rfl⟩
instance : TyPl Tryd.prog 27 1 1 1 := ⟨by kernel_rfl⟩
instance : TyPl Tryd.prog 27 2 2 1 := ⟨by kernel_rfl⟩
instance : TyPl Tryd.prog 29 0 0 1 := ⟨by kernel_rfl⟩
instance : TyPl Tryd.prog 29 1 1 3 := ⟨by kernel_rfl⟩
instance : TyPl Tryd.prog 40 0 0 1 := ⟨by kernel_rfl⟩
instance : TyPl Tryd.prog 40 1 1 1 := ⟨by kernel_rfl⟩
instance : TyPl Tryd.prog 64 0 0 1 := ⟨by kernel_rfl⟩
instance : TyPl Tryd.prog 64 1 1 1 := ⟨by kernel_rfl⟩
instance : TyPl Tryd.prog 69 0 0 1 := ⟨by kernel_rfl⟩
instance : TyPl Tryd.prog 69 1 1 1 := ⟨by kernel_rfl⟩
instance : TyPl Tryd.prog 69 2 2 1 := ⟨by kernel_rfl⟩
instance : TyPl Tryd.prog 84 0 0 1 := ⟨by kernel_rfl⟩
instance : TyPl Tryd.prog 84 1 1 1 := ⟨by kernel_rfl⟩
instance : TyPl Tryd.prog 84 2 2 1 := ⟨by kernel_rfl⟩
instance : TyPl Tryd.prog 84 3 3 1 := ⟨by kernel_rfl⟩
instance : TyPl Tryd.prog 84 4 4 1 := ⟨by kernel_rfl⟩
instance : TyPl Tryd.prog 86 0 0 1 := ⟨by kernel_rfl⟩
instance : TyPl Tryd.prog 86 1 1 1 := ⟨by kernel_rfl⟩
instance : TyPl Tryd.prog 86 2 2 1 := ⟨by kernel_rfl⟩
instance : TyPl Tryd.prog 86 3 3 1 := ⟨by kernel_rfl⟩
instance : TyPl Tryd.prog 86 4 4 1 := ⟨by kernel_rfl⟩
instance : TyPl Tryd.prog 88 0 0 1 := ⟨by kernel_rfl⟩
instance : TyPl Tryd.prog 88 1 1 1 := ⟨by kernel_rfl⟩
instance : TyPl Tryd.prog 88 2 2 1 := ⟨by kernel_rfl⟩
instance : TyPl Tryd.prog 88 3 3 1 := ⟨by kernel_rfl⟩
instance : TyS Tryd.prog 135 := ⟨by kernel_rfl⟩
instance : TyS Tryd.prog 140 := ⟨by kernel_rfl⟩
instance : TyS Tryd.prog 22 := ⟨by kernel_rfl⟩
instance : TyS Tryd.prog 23 := ⟨by kernel_rfl⟩
instance : TyS Tryd.prog 24 := ⟨by kernel_rfl⟩
instance : TyS Tryd.prog 25 := ⟨by kernel_rfl⟩
instance : TyS Tryd.prog 3 := ⟨by kernel_rfl⟩
instance : TyS Tryd.prog 4 := ⟨by kernel_rfl⟩
instance : TyS Tryd.prog 46 := ⟨by kernel_rfl⟩
instance : TyS Tryd.prog 5 := ⟨by kernel_rfl⟩
instance : TyS Tryd.prog 62 := ⟨by kernel_rfl⟩
instance : TyS Tryd.prog 66 := ⟨by kernel_rfl⟩
instance : TyS Tryd.prog 67 := ⟨by kernel_rfl⟩
instance : TyS Tryd.prog 93 := ⟨by kernel_rfl⟩
instance : TyS Tryd.prog 97 := ⟨by kernel_rfl⟩
instance : TyS Tryd.prog 98 := ⟨by kernel_rfl⟩
instance : TyS Tryd.prog 99 := ⟨by kernel_rfl⟩
instance : TySl Tryd.prog 22 64 2 := ⟨by kernel_rfl⟩
instance : TySl Tryd.prog 23 84 5 := ⟨by kernel_rfl⟩
instance : TySl Tryd.prog 24 86 5 := ⟨by kernel_rfl⟩
instance : TySl Tryd.prog 25 88 4 := ⟨by kernel_rfl⟩
instance : TySl Tryd.prog 30 40 2 := ⟨by kernel_rfl⟩
instance : TySl Tryd.prog 45 50 3 := ⟨by kernel_rfl⟩
instance : TySl Tryd.prog 62 3 1 := ⟨by kernel_rfl⟩
instance : TySl Tryd.prog 67 93 1 := ⟨by kernel_rfl⟩
instance : TySl Tryd.prog 70 46 1 := ⟨by kernel_rfl⟩
instance : TySl Tryd.prog 97 23 1 := ⟨by kernel_rfl⟩
instance : TySl Tryd.prog 98 25 1 := ⟨by kernel_rfl⟩
instance : TySl Tryd.prog 99 24 1 := ⟨by kernel_rfl⟩
instance : TySt Tryd.prog 101 := ⟨by kernel_rfl⟩
instance : TySt Tryd.prog 107 := ⟨by kernel_rfl⟩
instance : TySt Tryd.prog 127 := ⟨by kernel_rfl⟩
instance : TySt Tryd.prog 27 := ⟨by kernel_rfl⟩
instance : TySt Tryd.prog 29 := ⟨by kernel_rfl⟩
instance : TySt Tryd.prog 40 := ⟨by kernel_rfl⟩
instance : TySt Tryd.prog 64 := ⟨by kernel_rfl⟩
instance : TySt Tryd.prog 69 := ⟨by kernel_rfl⟩
instance : TySt Tryd.prog 84 := ⟨by kernel_rfl⟩
instance : TySt Tryd.prog 86 := ⟨by kernel_rfl⟩
instance : TySt Tryd.prog 88 := ⟨by kernel_rfl⟩
instance : TyZ Tryd.prog 101 ([.slice none 0 0] ++ List.replicate 513 (.int .i64 0) ++ List.replicate 4 (.slice none 0 0)) := ⟨by kernel_rfl⟩
instance : TyZ Tryd.prog 107 ([.int .i64 0, .int .i64 0]) := ⟨by kernel_rfl⟩
instance : TyZ Tryd.prog 127 ([.int .u64 0, .int .u64 0, .int .u64 0, .int .u64 0, .int .u64 0, .int .u64 0, .int .u64 0, .int .u64 0]) := ⟨by kernel_rfl⟩
instance : TyZ Tryd.prog 137 ([.nilFunc, .nilFunc, .nilFunc]) := ⟨by kernel_rfl⟩
instance : TyZ Tryd.prog 156 (List.replicate 52 (.int .i64 0)) := ⟨by kernel_rfl⟩
instance : TyZ Tryd.prog 162 (List.replicate 64 (.int .u8 0)) := ⟨by kernel_rfl⟩
instance : TyZ Tryd.prog 27 ([.slice none 0 0, .slice none 0 0, .slice none 0 0]) := ⟨by kernel_rfl⟩
instance : TyZ Tryd.prog 29 ([.slice none 0 0, .slice none 0 0, .slice none 0 0, .slice none 0 0]) := ⟨by kernel_rfl⟩
instance : TyZ Tryd.prog 40 ([.int .i64 0, .int .i64 0]) := ⟨by kernel_rfl⟩
instance : TyZ Tryd.prog 62 ([.slice none 0 0]) := ⟨by kernel_rfl⟩
instance : TyZ Tryd.prog 64 ([.int .i64 0, .slice none 0 0]) := ⟨by kernel_rfl⟩
instance : TyZ Tryd.prog 69 ([.pointer none, .slice none 0 0, .bool false]) := ⟨by kernel_rfl⟩
instance : TyZ Tryd.prog 84 ([.int .i64 0, .int .i64 0, .int .i64 0, .int .i64 0, .int .i64 0]) := ⟨by kernel_rfl⟩
instance : TyZ Tryd.prog 86 ([.int .i64 0, .int .i64 0, .int .i64 0, .int .i64 0, .int .i64 0]) := ⟨by kernel_rfl⟩
instance : TyZ Tryd.prog 88 ([.int .i64 0, .int .i64 0, .int .i64 0, .int .i64 0]) := ⟨by kernel_rfl⟩
instance : Zs [.int .i64 0, .int .i64 0, .int .i64 0, .int .i64 0, .int .i64 0] 1 [.int .i64 0, .int .i64 0, .int .i64 0, .int .i64 0, .int .i64 0] := ⟨by kernel_rfl⟩
instance : Zs [.int .i64 0, .int .i64 0, .int .i64 0, .int .i64 0, .int .i64 0] 2 [.int .i64 0, .int .i64 0, .int .i64 0, .int .i64 0, .int .i64 0, .int .i64 0, .int .i64 0, .int .i64 0, .int .i64 0, .int .i64 0] := ⟨by kernel_rfl⟩
instance : Zs [.int .i64 0, .int .i64 0, .int .i64 0, .int .i64 0] 1 [.int .i64 0, .int .i64 0, .int .i64 0, .int .i64 0] := ⟨by kernel_rfl⟩
instance : Zs [.int .i64 0, .int .i64 0, .int .i64 0] 1 [.int .i64 0, .int .i64 0, .int .i64 0] := ⟨by kernel_rfl⟩
instance : Zs [.int .i64 0, .int .i64 0] 1 [.int .i64 0, .int .i64 0] := ⟨by kernel_rfl⟩
instance : Zs [.int .i64 0, .int .i64 0] 3 [.int .i64 0, .int .i64 0, .int .i64 0, .int .i64 0, .int .i64 0, .int .i64 0] := ⟨by kernel_rfl⟩
instance : Zs [.int .i64 0, .slice none 0 0] 1 [.int .i64 0, .slice none 0 0] := ⟨by kernel_rfl⟩
instance : Zs [.int .i64 0, .slice none 0 0] 3 [.int .i64 0, .slice none 0 0, .int .i64 0, .slice none 0 0, .int .i64 0, .slice none 0 0] := ⟨by kernel_rfl⟩
instance : Zs [.int .i64 0] 1 [.int .i64 0] := ⟨by kernel_rfl⟩
instance : Zs [.int .i64 0] 2 [.int .i64 0, .int .i64 0] := ⟨by kernel_rfl⟩
instance : Zs [.int .i64 0] 3 [.int .i64 0, .int .i64 0, .int .i64 0] := ⟨by kernel_rfl⟩
instance : Zs [.int .i64 0] 4 [.int .i64 0, .int .i64 0, .int .i64 0, .int .i64 0] := ⟨by kernel_rfl⟩
instance : Zs [.int .i64 0] 5 [.int .i64 0, .int .i64 0, .int .i64 0, .int .i64 0, .int .i64 0] := ⟨by kernel_rfl⟩
instance : Zs [.pointer none] 2 [.pointer none, .pointer none] := ⟨by kernel_rfl⟩
end Go.Proofs.YtljgejbmimapdaaDoor
namespace Go.Proofs.YtljgejbmimapdaaDoor
open Go.RowKit
def pureW (fs : SFs) : Op → Option Value
  | .pick c x y => match ev fs c with
    | some (.bool true) => ev fs x
    | some (.bool false) => ev fs y
    | _ => none
  | op => pureV fs op
/-- Does an operation run: known from the slots. -/
def guardW (ops : Array Oper) (fs : SFs) (o : Oper) : Option Bool :=
  match o.guard with
  | none => some true
  | some (j, want) => match (ops[j]?).bind (·.dst) with
    | some d => match look fs d with
      | some (.bool true) => some want
      | some (.bool false) => some (!want)
      | some (.tuple a) => bif a.toList.isEmpty then some false else none
      | _ => none
    | none => none
def stepP (n : Nat) (ops : Array Oper) (fs : SFs) (o : Oper) : Option SFs :=
  match o.dst with
  | none => none
  | some d => bif Nat.blt d n then
      match guardW ops fs o with
      | some true => match pureW fs o.op with
        | some v => some ((d, v) :: fs)
        | none => none
      | some false => some ((d, undef) :: fs)
      | none => none
    else none
def runP (n : Nat) (ops : Array Oper) : Nat → SFs → List Oper → Option (SFs × List Oper)
  | 0, fs, l => some (fs, l)
  | k + 1, fs, o :: l => match stepP n ops fs o with
    | some fs' => runP n ops k fs' l
    | none => none
  | _ + 1, _, [] => none
def runO (n : Nat) (ops : Array Oper) : Nat → SFs → Ord → Option (SFs × Ord)
  | 0, fs, r => some (fs, r)
  | k + 1, fs, .still i r => match ops[i]? with
    | some o => match stepP n ops fs o with
      | some fs' => runO n ops k fs' r
      | none => none
    | none => none
  | _ + 1, _, _ => none
theorem or_tt {a b : Bool} (h : a = true) : (a || b) = true := by rw [h]; rfl
theorem or_f {a b : Bool} (h : a = false) : b = (a || b) := by rw [h]; rfl
theorem or_fx {a b c : Bool} (h : a = false) (k : b = c) : (a || b) = c := by rw [h, k]; rfl
theorem and_ff {a b : Bool} (h : a = false) : (a && b) = false := by rw [h]; rfl
theorem and_t {a b : Bool} (h : a = true) : b = (a && b) := by rw [h]; rfl
theorem and_tx {a b c : Bool} (h : a = true) (k : b = c) : (a && b) = c := by rw [h, k]; rfl
section
variable {Fe : Fence} [hFe : Calm Fe] {P : Program} {n : Nat} {B D : World} {M S0 : Nat → Prop} {Q : Exit → Act → World → Prop} {fs fs' : SFs} {hs : HS} {ops : Array Oper} {rest l l' : List Oper} {o : Oper} {v val sv : Value}
theorem Yv.purW (h : pureW fs o.op = some v) : Yv P n B M fs hs o v := by
  unfold pureW at h
  split at h
  · rename_i c x y e
    split at h
    · rename_i hc; exact Yv.pickT e hc rfl h
    · rename_i hc; exact Yv.pickF e hc rfl h
    · cases h
  · exact Yv.pur h
theorem guardW_wt {b : Bool} (h : guardW ops fs o = some b) : Wt n ops fs o b := by
  unfold guardW at h
  split at h
  · rename_i hg; cases h; exact Wt.none hg
  · rename_i j want hg
    split at h
    · rename_i d hd
      split at h
      · rename_i hl
        obtain rfl := Option.some.inj h
        cases want
        · exact Wt.not hg hd hl rfl
        · exact Wt.some hg hd hl rfl
      · rename_i hl
        obtain rfl := Option.some.inj h
        cases want
        · exact Wt.some hg hd hl rfl
        · exact Wt.not hg hd hl rfl
      · rename_i a hl
        cases ha : a.toList.isEmpty with
        | false => rw [ha] at h; cases h
        | true =>
          rw [ha] at h; cases h
          have : a = #[] := by apply Array.ext'; simpa using ha
          subst this
          exact Wt.undef hg hd hl
      · cases h
    · cases h
theorem stepP_get (h : stepP n ops fs o = some fs') : ∃ d v, o.dst = some d ∧ Nat.blt d n = true ∧ fs' = (d, v) :: fs ∧ ((guardW ops fs o = some true ∧ pureW fs o.op = some v) ∨ (guardW ops fs o = some false ∧ v = undef)) := by
  unfold stepP at h
  split at h
  · cases h
  · rename_i d hd
    cases hb : Nat.blt d n with
    | false => rw [hb] at h; cases h
    | true =>
      rw [hb] at h
      simp only [cond_true] at h
      split at h
      · rename_i hg
        split at h
        · rename_i v hv; cases h; exact ⟨d, v, hd, hb, rfl, .inl ⟨hg, hv⟩⟩
        · cases h
      · rename_i hg; cases h; exact ⟨d, undef, hd, hb, rfl, .inr ⟨hg, rfl⟩⟩
      · cases h
theorem TL.run : ∀ (k : Nat) {fs fs' : SFs} {l l' : List Oper}, runP n ops k fs l = some (fs', l') → TL Fe P n B D M ops Q l' fs' hs → TL Fe P n B D M ops Q l fs hs
  | 0, fs, fs', l, l', h, t => by simp only [runP, Option.some.injEq, Prod.mk.injEq] at h; rw [h.1, h.2]; exact t
  | k + 1, fs, fs', [], l', h, t => by simp [runP] at h
  | k + 1, fs, fs', o :: r, l', h, t => by
    simp only [runP] at h
    split at h
    · rename_i f1 h1
      obtain ⟨d, v, hd, hb, rfl, h2⟩ := stepP_get h1
      have ih := TL.run k h t
      rcases h2 with ⟨hg, hv⟩ | ⟨hg, rfl⟩
      · exact TL.yv (guardW_wt hg) hd hb (Yv.purW hv) ih
      · exact TL.off (guardW_wt hg) hd hb ih
    · cases h
theorem TS.run [hnp : NP Q] {hs0 : HS} : ∀ (k : Nat) {fs fs' : SFs} {r r' : Ord}, runO n ops k fs r = some (fs', r') → TS Fe P n B D M ops Q hs0 r' fs' hs → TS Fe P n B D M ops Q hs0 r fs hs
  | 0, fs, fs', r, r', h, t => by simp only [runO, Option.some.injEq, Prod.mk.injEq] at h; rw [h.1, h.2]; exact t
  | k + 1, fs, fs', .still i r, r', h, t => by
    simp only [runO] at h
    split at h
    · rename_i o ho
      split at h
      · rename_i f1 h1
        obtain ⟨d, v, hd, hb, rfl, h2⟩ := stepP_get h1
        have ih := TS.run k h t
        rcases h2 with ⟨hg, hv⟩ | ⟨hg, rfl⟩
        · exact TS.still ho (guardW_wt hg) hd hb (Yv.purW hv) ih
        · exact TS.stillOff ho (guardW_wt hg) hd hb ih
      · cases h
    · cases h
  | k + 1, fs, fs', .done, r', h, t => by simp [runO] at h
  | k + 1, fs, fs', .eff _ _, r', h, t => by simp [runO] at h
  | k + 1, fs, fs', .two _ _ _ _, r', h, t => by simp [runO] at h
  | k + 1, fs, fs', .any _ _, r', h, t => by simp [runO] at h
/-- The cases of a guard: the slot holds the answer. -/
theorem TL.gs {d j : Nat} {want b : Bool} (hg : o.guard = some (j, want)) (hd : (ops[j]?).bind (·.dst) = some d) (hl : look fs d = some (.bool b)) (h1 : b = true → TL Fe P n B D M ops Q (o :: rest) ((d, .bool true) :: fs) hs) (h2 : b = false → TL Fe P n B D M ops Q (o :: rest) ((d, .bool false) :: fs) hs) : TL Fe P n B D M ops Q (o :: rest) fs hs := by
  cases b with
  | true => exact TL.weaken (Sub.cons hl Sub.refl) (List.Sublist.refl _) (h1 rfl)
  | false => exact TL.weaken (Sub.cons hl Sub.refl) (List.Sublist.refl _) (h2 rfl)
theorem TS.gs {hs0 : HS} {i d j : Nat} {k : Ord} {want b : Bool} (hi : ops[i]? = some o) (hg : o.guard = some (j, want)) (hd : (ops[j]?).bind (·.dst) = some d) (hl : look fs d = some (.bool b)) (h1 : b = true → TS Fe P n B D M ops Q hs0 (.still i k) ((d, .bool true) :: fs) hs) (h2 : b = false → TS Fe P n B D M ops Q hs0 (.still i k) ((d, .bool false) :: fs) hs) : TS Fe P n B D M ops Q hs0 (.still i k) fs hs := by
  cases b with
  | true => exact TS.weaken (Sub.cons hl Sub.refl) (List.Perm.refl _) (h1 rfl)
  | false => exact TS.weaken (Sub.cons hl Sub.refl) (List.Perm.refl _) (h2 rfl)
theorem TSo.gs {hs0 : HS} {i d j : Nat} {k : Ord} {want b : Bool} (hi : ops[i]? = some o) (hg : o.guard = some (j, want)) (hd : (ops[j]?).bind (·.dst) = some d) (hl : look fs d = some (.bool b)) (h1 : b = true → TSo Fe P n B D M ops Q hs0 i k ((d, .bool true) :: fs) hs) (h2 : b = false → TSo Fe P n B D M ops Q hs0 i k ((d, .bool false) :: fs) hs) : TSo Fe P n B D M ops Q hs0 i k fs hs := by
  cases b with
  | true => exact ⟨fun a w fuel listed x1 x2 x3 ha hw hw0 hm => (h1 rfl).out a w fuel listed x1 x2 x3 (ha.sub (Sub.cons hl Sub.refl)) hw hw0 hm⟩
  | false => exact ⟨fun a w fuel listed x1 x2 x3 ha hw hw0 hm => (h2 rfl).out a w fuel listed x1 x2 x3 (ha.sub (Sub.cons hl Sub.refl)) hw hw0 hm⟩
theorem T.splitB {c : Code} (b : Bool) (h1 : b = true → T Fe P n B D M c Q fs hs) (h2 : b = false → T Fe P n B D M c Q fs hs) : T Fe P n B D M c Q fs hs := by
  cases b
  · exact h2 rfl
  · exact h1 rfl
theorem Yv.loadBag (i a : Nat) {t u : TypeId} [hT : TyS P t] {g p : Nat} {l : List Value} {es : HS} {x : Operand} (ho : o.op = .load t x) (hx : ev fs x = some (.pointer (some ⟨g, p, none⟩))) (hi : hs[i]? = some (.bag es)) (ha : es[a]? = some (.row g u l)) (hv : l[p]? = some v) : Yv P n B M fs hs o v := fun ac w hac hw =>
  run_load1 ho (hac.ev hx) (by rw [row_cell (Ent.row_ok.1 ((Ent.bag_ok.1 (hw.get hi)).1 _ (List.mem_of_getElem? ha)))]; exact hv)
theorem Yv.eqNil {x y : Operand} {t u e : TypeId} {A : Option Addr} (hU : P.underlying t = some (.pointer e)) (ho : o.op = .binOp .eql t x y u) (hx : ev fs x = some (.pointer A)) (hy : ev fs y = some (.pointer none)) : Yv P n B M fs hs o (.bool A.isNone) := fun f w ha _ => by
  unfold execOp
  have : (Op.equal t (.pointer A) (.pointer none)).run P w = .ok A.isNone w := by
    unfold Op.equal
    rw [show Op.maxDepth = Nat.succ 9999 from rfl]
    unfold Op.equalIn
    cases A <;> simp [underlying, hU]
  simp [ho, ha.ev hx, ha.ev hy, eqGuard, binOp, this]
theorem Yv.neNil {x y : Operand} {t u e : TypeId} {A : Option Addr} (hU : P.underlying t = some (.pointer e)) (ho : o.op = .binOp .neq t x y u) (hx : ev fs x = some (.pointer A)) (hy : ev fs y = some (.pointer none)) : Yv P n B M fs hs o (.bool (!A.isNone)) := fun f w ha _ => by
  unfold execOp
  have : (Op.equal t (.pointer A) (.pointer none)).run P w = .ok A.isNone w := by
    unfold Op.equal
    rw [show Op.maxDepth = Nat.succ 9999 from rfl]
    unfold Op.equalIn
    cases A <;> simp [underlying, hU]
  simp [ho, ha.ev hx, ha.ev hy, eqGuard, binOp, this]
theorem Sub.c {gs : SFs} {t : Nat} {v : Value} (k : Sub fs gs) (h : look fs t = some v := by rfl) : Sub fs ((t, v) :: gs) := Sub.cons h k
theorem Sub.i {gs : SFs} {t : Nat} {q : IntKind} {a b : Int} (e : a = b) (k : Sub fs gs) (h : look fs t = some (.int q a) := by rfl) : Sub fs ((t, .int q b) :: gs) := Sub.consI h e k
theorem Sub.b {gs : SFs} {t : Nat} {a b : Bool} (e : a = b) (k : Sub fs gs) (h : look fs t = some (.bool a) := by rfl) : Sub fs ((t, .bool b) :: gs) := Sub.consB h e k
theorem TL.y {d : Nat} (h : Yv P n B M fs hs o v) (k : TL Fe P n B D M ops Q rest ((d, v) :: fs) hs) (hw : guardW ops fs o = some true := by rfl) (hd : o.dst = some d := by rfl) (hb : Nat.blt d n = true := by rfl) : TL Fe P n B D M ops Q (o :: rest) fs hs := TL.yv (guardW_wt hw) hd hb h k
theorem TL.e {d : Nat} {Φ : Value → HS → Prop} (h : Ew P n B M fs hs o Φ) (k : ∀ v hs', Φ v hs' → TL Fe P n B D M ops Q rest ((d, v) :: fs) hs') (hw : guardW ops fs o = some true := by rfl) (hd : o.dst = some d := by rfl) (hb : Nat.blt d n = true := by rfl) : TL Fe P n B D M ops Q (o :: rest) fs hs := TL.ew (guardW_wt hw) hd hb h k
theorem TL.e0 {Φ : Value → HS → Prop} (h : Ew P n B M fs hs o Φ) (k : ∀ v hs', Φ v hs' → TL Fe P n B D M ops Q rest fs hs') (hw : guardW ops fs o = some true := by rfl) (hd : o.dst = none := by rfl) : TL Fe P n B D M ops Q (o :: rest) fs hs := TL.ew0 (guardW_wt hw) hd h k
theorem TS.y [hnp : NP Q] {hs0 : HS} {i : Nat} {k : Ord} {d : Nat} (hi : ops[i]? = some o) (hy : Yv P n B M fs hs0 o v) (h : TS Fe P n B D M ops Q hs0 k ((d, v) :: fs) hs) (hw : guardW ops fs o = some true := by rfl) (hd : o.dst = some d := by rfl) (hb : Nat.blt d n = true := by rfl) : TS Fe P n B D M ops Q hs0 (.still i k) fs hs := TS.still hi (guardW_wt hw) hd hb hy h
end
end Go.Proofs.YtljgejbmimapdaaDoor
