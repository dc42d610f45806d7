/- Er A B Ma C D Pa E F G Ha K1 K2: shortened and put together by squeeze.py. -/
import Derived.Test.YtlfalfmebomfbaaQ02
set_option maxRecDepth 100000
set_option maxHeartbeats 4000000
set_option linter.unusedVariables false
set_option linter.unusedSectionVars false
set_option linter.unusedSimpArgs false
namespace Go.Proofs.Ytlfalfmebomfbaa
open Go.RowKit
section
variable {P : Program} {n : Nat} {B D : World} {M : Nat → Prop} {Q : Exit → Act → World → Prop} {fs : SFs} {hs : HS} {ops : Array Oper} {rest : List Oper} {o : Oper} {v : Value}
theorem Hp.toBag {l : HS} {w : World} (h : Hp B M (hs ++ l) w) : Hp B M (hs ++ [Ent.bag l]) w := by
  have h1 : Hp B M (l ++ hs) w := h.perm List.perm_append_comm
  have h2 : Hp B M ([Ent.bag l] ++ hs) w := Hp.repl h1 (fun e he => by
    rw [List.mem_singleton.1 he]
    exact Ent.bag_ok.2 ⟨fun x hx => h1.own x (List.mem_append_left _ hx), (List.pairwise_append.1 h1.apart).1⟩) (fun e he g hg => by
    rw [List.mem_singleton.1 he] at hg
    exact Ent.bag_fp.1 hg) (List.pairwise_singleton _ _)
  exact h2.perm List.perm_append_comm
theorem Hp.unBag {l : HS} {w : World} (h : Hp B M (hs ++ [Ent.bag l]) w) : Hp B M (hs ++ l) w := by
  have h1 : Hp B M ([Ent.bag l] ++ hs) w := h.perm List.perm_append_comm; have hb := Ent.bag_ok.1 (h1.own (.bag l) (by simp)); have h2 : Hp B M (l ++ hs) w := Hp.repl h1 (fun e he => hb.1 e he) (fun e he g hg => ⟨.bag l, by simp, Ent.bag_fp.2 ⟨e, he, hg⟩⟩) hb.2; exact h2.perm List.perm_append_comm
def zeG {α : Type} (P : Program) (gf : FuncId) (lb : List Value) (A : Nat → α → List Value → HS → Prop) (W0 : World → Prop) (xs : List α) (E : HS) (B : World) (M : Nat → Prop) : Prop :=
  ∀ (G : Nat → HS → Prop) (Z : HS → Prop) (l : Nat) (W : World) (g0 : HS), (∀ i g w, G i g → Hp B M (E ++ g) w → W0 w) →
    (∀ (R : HS) i x vs gx g w, xs[i]? = some x → A i x vs gx → G i g → Hp B M ((E ++ (gx ++ g)) ++ R) w → YieldAt Fence.wide 0 P l vs.toArray w fun e w' => Kp w w' ∧ ((e = .returned (.bool true) ∧ ∃ g', G (i + 1) g' ∧ Hp B M ((E ++ g') ++ R) w') ∨ (e = .returned (.bool false) ∧ ∃ z, Z z ∧ Hp B M ((E ++ z) ++ R) w'))) →
    G 0 g0 → Hp B M (E ++ g0) W →
    Calls P gf (.func (.yield l) #[] #[] :: lb).toArray W fun e W' => (∃ v, e = .returned v) ∧ Kp W W' ∧ ((∃ g, G xs.length g ∧ Hp B M (E ++ g) W') ∨ ∃ z, Z z ∧ Hp B M (E ++ z) W')
theorem TL.bD {l9 : Nat} {d l : Nat} {c : Operand} {xs : Array Operand} {ts : Array TypeId} {vs : List Value} {Φ : Value → HS → Prop} (hwt : Wt n ops fs o true) (hd : o.dst = some d) (hb : Nat.blt d n = true) (ho : o.op = .call { callee := .value c, args := xs, argTypes := ts })
    (hc : ev fs c = some (.func (.yield l) #[] #[])) (hv : evs fs xs.toList = some vs)
    (Y : ∀ w, Hp B M hs w → YieldAt Fence.wide 0 P l vs.toArray w fun e w' => Kp w w' ∧ ∃ v hs', e = .returned v ∧ Hp B M hs' w' ∧ Φ v hs')
    (k : ∀ v hs', Φ v hs' → TL (Fence.wide.inRound l9) P n B D M ops Q rest ((d, v) :: fs) hs') : TL (Fence.wide.inRound l9) P n B D M ops Q (o :: rest) fs hs :=
  ⟨fun a w ha hp hm => wpListIn_step fun K hK => by
    rw [if_pos (hwt a ha)]; obtain ⟨fn, tmps, assign, body, hr, hround⟩ := Y w hp; (have h1 : xs.map a.eval = vs.toArray := by rw [← ha.evs hv]; apply Array.ext'; simp)
    have hrun : (execOp a.eval o).run P w = .ok (.round l fn tmps assign body) w := by
      unfold execOp; simp only [ho, resolve, ha.ev hc, Deferred.ofValue, h1, invoke, Sem.run_bind, Sem.run_pure, Result.andThen_ok]; rw [← hr]
      congr 2
      apply Array.ext'; simp
    refine zc8 (fun c' e => by rw [ho] at e; cases e) ?_; rw [hrun, Oper.uponIn_round]; refine ⟨(fun h => by cases h), hround.mono ?_⟩; rintro e w' ⟨hk, v, hs', rfl, hp', hΦ⟩
    exact hK _ _ (by rw [hd]; exact (k v hs' hΦ).out _ w' (ha.put hb v) hp' ((hm.next hk).put _ _))⟩
theorem T.bE {α : Type} {g : Operand} {ps : List Nat} {assign body : Code} {gf : FuncId} {lb : List Value} [hE : Enters P gf] (A : Nat → α → List Value → HS → Prop) (xs : List α) (E : HS) (G : Nat → HS → Prop) (Zx : Code → HS → Prop) (fa : Nat → α → List Value → SFs) (g0 : HS) (hg0 : G 0 g0) {W0 : World → Prop} (hk0 : ∀ i g w, G i g → Hp B M (E ++ g) w → W0 w)
    (hg : ev fs g = some (.func (.func gf) #[] lb.toArray)) (hit : zeG P gf lb A W0 xs E B M) (hps : ∀ p ∈ ps, p < n) (hen : ∀ i x vs gx, A i x vs gx → vs.length = ps.length) (h0 : (E ++ g0).Sublist hs)
    (hassign : ∀ (l i : Nat) x X D g vs gx, xs[i]? = some x → A i x vs gx → T (Fence.wide.inRound l) P n B D M assign (Exit.then (At n B D M (fa i x vs) ((E ++ (gx ++ g)) ++ [X])) (fun _ _ _ => False)) ((ps.zip vs).reverse ++ fs) ((E ++ (gx ++ g)) ++ [X]))
    (hbody : ∀ (l i : Nat) x X D g vs gx, xs[i]? = some x → A i x vs gx → G i g → T (Fence.wide.inRound l) P n B D M body (zbQ B D M (fun z => ∃ y, z = E ++ y ∧ G (i + 1) y) (fun c z => ∃ y, z = E ++ y ∧ Zx c y) X) (fa i x vs) ((E ++ (gx ++ g)) ++ [X]))
    (hdone : ∀ g, G xs.length g → K n B D M Q .normal fs (E ++ g)) (hstop : ∀ c y, Zx c y → T Fence.wide P n B D M c Q fs (E ++ y)) : T Fence.wide P n B D M (.rangeFunc g ps.toArray assign body) Q fs hs :=
  ⟨fun a w ha hw hm => by
    refine wpIn_rangeFunc (F := Fence.wide) (n := 0) ?_; intro fn hfn; obtain ⟨rec, hrec⟩ : ∃ rec : LoopState → Option Code → Loop, rec = fun st pe => { state := st, pending := pe, fn, tmps := a.tmps, params := ps.toArray, assign, body, defers := w.heap.size } := ⟨_, rfl⟩; obtain ⟨W1, hW1⟩ : ∃ W1, (w.alloc (.deferred (some []))).alloc (.loop (rec .ready none)) = W1 := ⟨_, rfl⟩; obtain ⟨l, hl⟩ : ∃ l, l = w.heap.size + 1 := ⟨_, rfl⟩; (have hsz : (w.alloc (.deferred (some []))).heap.size = l := by rw [hl]; simp)
    have hK1 : W1.heap[w.heap.size]? = some (.deferred (some [])) := by
      rw [← hW1]; exact (Below.heap_alloc _ _ _ (by simp)).trans (zbf w _)
    have hb1 : Below w.heap.size w (w.alloc (.deferred (some []))) := (Below.refl _ _).alloc (Nat.le_refl _) _
    have hw1 : Hp B M (hs ++ [Ent.lp l (rec .ready none)]) W1 := by
      have h1 := hw.below hb1; have h2 := h1.fresh (e := Ent.lp l (rec .ready none)) (w' := W1) (by rw [← hW1]; exact (Below.refl _ _).alloc (Nat.le_refl _) _) (Ent.lp_ok.2 (by rw [← hW1, ← hsz]; exact zbf _ _)) (fun k hk => by rw [Ent.lp_fp.1 hk, hsz]; exact Nat.le_refl _); exact h2.perm (List.perm_append_singleton _ _).symm
    (have hkp : Kp w W1 := by rw [← hW1]; exact (Kp.alloc w _).trans (Kp.alloc _ _)); refine ⟨l, [mark w.heap.size], W1, { target := .fn (.func gf) lb.toArray, args := #[.func (.yield l) #[] #[]] }, W1, gf, (.func (.yield l) #[] #[] :: lb).toArray, W1, ?_, ?_, ?_, ?_, ?_, ?_⟩
    · rw [← hW1, hrec, hl]; exact run_enterLoop_outer _ _ _ _ _
    · simp only [resolve, ha.ev hg]; simp [Deferred.ofValue, Act.eval]
    · exact fun _ _ => trivial
    · have := hE.run (.func (.yield l) #[] #[] :: lb).toArray W1; simp only [invoke]; rw [← this]
      congr 2
      apply Array.ext'; simp
    · intro h; cases h
    · have hstart : Hp B M (E ++ (g0 ++ [Ent.lp l (rec .ready none)])) W1 := by
        rw [← List.append_assoc]; exact hw1.sub (h0.append (List.Sublist.refl _))
      have ho1 : ∀ (V : World) (o' : Obj), Only (· = l) V (V.putObj l o') := fun V o' => ⟨rfl, rfl, rfl, by rw [World.putObj_size]; exact Nat.le_refl _, fun k hk hne => World.putObj_heap_other hne⟩; have kput : ∀ (V : World) (r : Loop) (o' : Obj), V.heap[l]? = some (.loop r) → Kp V (V.putObj l o') := fun V r o' h => Kp.only (ho1 _ _) (fun k e c => by subst e; rw [h]; simp)
      have hput : ∀ (V : World) (r r' : Loop) (hs : HS), Hp B M (hs ++ [Ent.lp l r]) V → Hp B M (hs ++ [Ent.lp l r']) (V.putObj l (.loop r')) ∧ V.heap[l]? = some (.loop r) := fun V r r' hs h => by
        have hl := Ent.lp_ok.1 (h.own (Ent.lp l r) (by simp)); exact ⟨h.upLast (ho1 _ _) (fun k e => Ent.lp_fp.2 e) (Ent.lp_ok.2 (World.putObj_heap_same (Array.getElem?_eq_some_iff.1 hl).1)) (fun k hk => Ent.lp_fp.2 (Ent.lp_fp.1 hk)), hl⟩
      refine callsIn_wide.2 ((hit (fun i z => ∃ y, G i y ∧ z = y ++ [Ent.lp l (rec .ready none)]) (fun z => ∃ c y, Zx c y ∧ z = y ++ [Ent.lp l (rec .done (some c))]) l W1 _ ?_ ?_ ⟨g0, hg0, rfl⟩ hstart).mono ?_)
      · rintro i _ W ⟨g, hg, rfl⟩ hW; rw [← List.append_assoc] at hW; exact hk0 i g W hg (hW.sub (List.sublist_append_left _ _))
      · rintro R i x vs gx _ W hx hA ⟨g, hg, rfl⟩ hW; have hW : Hp B M ((E ++ (gx ++ g)) ++ [Ent.bag (Ent.lp l (rec .ready none) :: R)]) W := Hp.toBag (hW.perm (by simp only [List.append_assoc, List.cons_append, List.nil_append]; exact List.Perm.refl _)); have hen' := hen i x vs gx hA
        have hputB : ∀ (V : World) (r r' : Loop) (hs : HS), Hp B M (hs ++ [Ent.bag (Ent.lp l r :: R)]) V → Hp B M (hs ++ [Ent.bag (Ent.lp l r' :: R)]) (V.putObj l (.loop r')) ∧ V.heap[l]? = some (.loop r) := fun V r r' hs h => by
          have h1 : Hp B M ((hs ++ R) ++ [Ent.lp l r]) V := (Hp.unBag h).perm (by
            rw [List.append_assoc]
            exact List.Perm.append_left hs (List.perm_append_singleton _ R).symm)
          obtain ⟨h2, h3⟩ := hput V r r' _ h1; refine ⟨Hp.toBag (h2.perm ?_), h3⟩; rw [List.append_assoc]; exact List.Perm.append_left hs (List.perm_append_singleton _ R)
        have hlp : W.heap[l]? = some (.loop (rec .ready none)) := Ent.lp_ok.1 ((Hp.unBag hW).own _ (by simp)); have hy := run_yield (P := P) (args := vs.toArray) hlp (by rw [hrec]; simp [hen']); have hfr : Fr n ((ps.zip vs).reverse ++ fs) ⟨(ps.zip vs).foldl (fun t p => t.setIfInBounds p.1 p.2) a.tmps, []⟩ := zcl ha ps vs fs a.tmps ⟨ha.size, ha.get⟩ hps hen'.symm
        have hact : ((rec .ready none).params.zip vs.toArray).foldl (fun tmps (t, a) => tmps.setIfInBounds t a) (rec .ready none).tmps = (ps.zip vs).foldl (fun t p => t.setIfInBounds p.1 p.2) a.tmps := by
          rw [hrec]; simp [List.zip_toArray]
        rw [hact] at hy; (have e1 : (rec .ready none).fn = fn := by rw [hrec]); (have e2 : (rec .ready none).assign = assign := by rw [hrec]); (have e3 : (rec .ready none).body = body := by rw [hrec]); rw [e1, e2, e3] at hy; refine ⟨fn, _, assign, body, hy, roundIn_of_wpIn hfn ?_⟩; refine wpIn_mono ((hassign l i x (Ent.bag (Ent.lp l (rec .ready none) :: R)) W g vs gx hx hA).out _ W hfr hW ⟨Kp.refl W, [], rfl, List.nodup_nil, fun _ h => by cases h⟩) ?_; rintro e a1 W2 hq
        cases e <;> try exact hq.elim
        obtain ⟨hf1, hp1, hm1⟩ := hq; obtain ⟨hp2, hlp1⟩ := hputB W2 _ { rec .ready none with state := .busy } _ hp1; refine ⟨_, run_beginRound (P := P) hlp1 (by rw [hrec]), ?_⟩; refine wpIn_mono ((hbody l i x (Ent.bag (Ent.lp l { rec .ready none with state := .busy } :: R)) W g vs gx hx hA hg).out a1 _ hf1 hp2 (hm1.next (kput _ _ _ hlp1))) ?_; (have er : ∀ (j : Option Code), ({ ({ rec .ready none with state := .busy } : Loop) with state := if j.isNone then LoopState.ready else .done, pending := j } : Loop) = rec (if j.isNone then .ready else .done) j := fun j => by rw [hrec]); rintro e a3 W3 hq
        cases e with
        | normal =>
          obtain ⟨hk3, z, ⟨y, rfl, hy⟩, hp3⟩ := hq; obtain ⟨hp4, hl3⟩ := hputB W3 _ (rec .ready none) _ hp3; have hend := run_endRound (P := P) none hl3; rw [er] at hend; refine ⟨_, _, hend, hk3.trans (kput _ _ _ hl3), .inl ⟨rfl, _, ⟨y, hy, rfl⟩, ?_⟩⟩; exact (Hp.unBag hp4).perm (by simp only [List.append_assoc, List.cons_append, List.nil_append]; exact List.Perm.refl _)
        | ret =>
          obtain ⟨hk3, z, ⟨y, rfl, hz⟩, hp3⟩ := hq; obtain ⟨hp4, hl3⟩ := hputB W3 _ (rec .done (some .ret)) _ hp3; have hend := run_endRound (P := P) (some .ret) hl3; rw [er] at hend; refine ⟨_, _, hend, hk3.trans (kput _ _ _ hl3), .inr ⟨rfl, _, ⟨.ret, y, hz, rfl⟩, ?_⟩⟩; exact (Hp.unBag hp4).perm (by simp only [List.append_assoc, List.cons_append, List.nil_append]; exact List.Perm.refl _)
        | exit id =>
          obtain ⟨hk3, z, ⟨y, rfl, hz⟩, hp3⟩ := hq; obtain ⟨hp4, hl3⟩ := hputB W3 _ (rec .done (some (.exit id))) _ hp3; have hend := run_endRound (P := P) (some (.exit id)) hl3; rw [er] at hend; refine ⟨_, _, hend, hk3.trans (kput _ _ _ hl3), .inr ⟨rfl, _, ⟨.exit id, y, hz, rfl⟩, ?_⟩⟩; exact (Hp.unBag hp4).perm (by simp only [List.append_assoc, List.cons_append, List.nil_append]; exact List.Perm.refl _)
        | goto t => exact hq.elim
        | panic c => exact hq.elim
        | outgrown => exact hq.elim
      · have mk : ∀ W2, Kp W1 W2 → Mk B D { a with defers := mark w.heap.size :: a.defers } W2 := fun W2 hk => by
          obtain ⟨h0, rs, h1, h2, h3⟩ := hm; refine ⟨h0.trans (hkp.trans hk), w.heap.size :: rs, by rw [h1]; rfl, ?_, ?_⟩
          · rw [List.nodup_cons]; refine ⟨fun hin => ?_, h2⟩; have := (Array.getElem?_eq_some_iff.1 (h3 _ hin).1).1; omega
          · intro r hr; rcases List.mem_cons.1 hr with rfl | hr
            · exact ⟨hk.keep _ _ hK1, hw.size, h0.size⟩
            · exact ⟨(hkp.trans hk).keep _ _ (h3 r hr).1, (h3 r hr).2⟩
        rintro e W2 ⟨⟨v, rfl⟩, hk2, hend⟩; rcases hend with ⟨_, ⟨g, hg, rfl⟩, hend⟩ | ⟨z, ⟨c, y, hz, rfl⟩, hend⟩
        · rw [← List.append_assoc] at hend; obtain ⟨hp4, hl3⟩ := hput W2 _ (rec .exhausted none) _ hend; have he := run_endLoop (P := P) hl3 (by rw [hrec]; simp); (have e5 : ({ rec .ready none with state := .exhausted } : Loop) = rec .exhausted none := by rw [hrec]); rw [e5] at he; (have hpe : (rec .ready none).pending = none := by rw [hrec]); rw [hpe] at he; refine ⟨none, _, he, ?_⟩; exact (hdone g hg).out _ _ ⟨ha.size, ha.get⟩ (hp4.sub (List.sublist_append_left _ _)) (mk _ (hk2.trans (kput _ _ _ hl3)))
        · rw [← List.append_assoc] at hend; obtain ⟨hp4, hl3⟩ := hput W2 _ (rec .exhausted (some c)) _ hend; have he := run_endLoop (P := P) hl3 (by rw [hrec]; simp); (have e5 : ({ rec .done (some c) with state := .exhausted } : Loop) = rec .exhausted (some c) := by rw [hrec]); rw [e5] at he; (have hpe : (rec .done (some c)).pending = some c := by rw [hrec]); rw [hpe] at he; refine ⟨some c, _, he, ?_⟩
          exact (hstop c y hz).out _ _ ⟨ha.size, ha.get⟩ (hp4.sub (List.sublist_append_left _ _)) (mk _ (hk2.trans (kput _ _ _ hl3)))⟩
end
def chB (c : Int) : Bool := decide (c = 0) || (decide (2 ≤ c) && decide (c ≤ 51))
structure Mv where
  st : Int
  old : Int
  nw : Int
  tw : Int
  cr : Int
  wk : Int
deriving DecidableEq, Inhabited
def Mv.cells (m : Mv) : List Value := [.int .i64 m.st, .int .i64 m.old, .int .i64 m.nw, .int .i64 m.tw, .int .i64 m.cr, .int .i64 m.wk]
def Mv.ok (m : Mv) : Bool := decide (0 ≤ m.st) && (decide (m.st ≤ 511) && (chB m.old && (chB m.nw && (decide (¬ m.old = m.nw) && (decide (0 ≤ m.tw) && (decide (m.tw ≤ 255) && (decide (0 ≤ m.cr) && (decide (m.cr ≤ 255) && (decide (1 ≤ m.wk) && decide (m.wk ≤ 52))))))))))
structure Si where
  id : Int
  cap : Int
deriving DecidableEq, Inhabited
def Si.cells (s : Si) : List Value := [.int .i64 s.id, .int .i64 s.cap]
def siOk (xs : List Si) (k : Nat) : Bool := !(decide ((nth xs k).id < 0) || decide (255 < (nth xs k).id) || decide ((nth xs k).cap < 1) || decide (64 < (nth xs k).cap) || (decide (0 < (k : Int)) && decide ((nth xs k).id ≤ (nth xs (k - 1)).id)))
def zbk (xs : List Si) : Bool := (List.range xs.length).all (siOk xs)
abbrev zaG (w : World) (v : Value) (xs : List Si) : Prop := SlOf w v Si.cells 2 xs
abbrev zbG (w : World) (v : Value) (xs : List Mv) : Prop := SlOf w v Mv.cells 6 xs
def mvOk (xs : List Mv) (k : Nat) : Bool := (nth xs k).ok && !(decide (0 < (k : Int)) && decide ((nth xs k).st ≤ (nth xs (k - 1)).st))
def zaY (xs : List Mv) : Bool := decide ((xs.length : Int) ≤ 512) && (List.range xs.length).all (mvOk xs)
theorem zbi (xs : List Si) (v : Value) (w : World) (h : zaG w v xs) (hl : xs.length ≤ 9223372036854775807) : Calls Try.prog 24 #[v] w fun e w' => e = .returned (.bool (zbk xs)) ∧ Below w.heap.size w w' := by
  obtain ⟨A, cap, rfl, hsl⟩ := h.op; refine zaa (M := fun _ => False) (hs := []) Try.func24 rfl rfl rfl (Hp.refl _ _) ?_; refine T.sr ?_; refine TL.run 1 rfl ?_; refine TL.ns (T.seq (T.sr ?_)); refine TL.run 1 rfl ?_; refine TL.y (Yv.ap rfl rfl) ?_; refine TL.run 1 rfl ?_; refine TL.ns (T.block ?_); refine T.loop (ι := Nat) (fun k => [(0, .slice A xs.length cap), (5, .slice A xs.length cap), (6, .int .i64 (xs.length : Int)), (7, .int .i64 (k : Int))]) (fun k => []) (fun k => k ≤ xs.length ∧ ∀ j, j < k → siOk xs j = true) (fun k => xs.length - k) 0 ?_ ?_ ?_ ?_
  · exact ⟨by omega, fun j hj => by omega⟩
  · exact (by repeat (first | exact Sub.nil | refine Sub.cons rfl ?_))
  · exact Sx
  · intro k hphi; obtain ⟨hkl, hall⟩ := hphi; refine T.sr ?_; refine TL.run 1 rfl ?_; refine TL.ns (T.seq ?_); refine T.cond rfl (fun h1 => ?_) (fun h1 => ?_)
    · have p1 := h1; (try simp only [nfB] at p1); obtain ⟨g, off, rfl, hc⟩ := hsl (by omega); have hk := hc k (by omega); have hk1 := hc (k - 1) (by omega); simp only [Si.cells] at hk hk1; refine T.skip (K.seq (T.seq (T.block (T.sr ?_)))); refine TL.run 1 rfl ?_; refine TL.y (Yv.ai rfl rfl rfl rfl (by omega)) ?_; refine TL.y (Yv.az rfl rfl hk rfl (fun h => h)) ?_; (refine TL.ew (Wt.none rfl) rfl rfl (Ew.alloc rfl) ?_; rintro _ _ ⟨g4, rfl, rfl⟩); refine TL.run 1 rfl ?_; (refine TL.ax (Wt.none rfl) rfl (Ew.ag 0 rfl rfl rfl rfl rfl rfl) ?_; rintro _ _ ⟨rfl, rfl⟩); refine TL.ns (T.seq (T.sr ?_)); refine TL.y (Yv.fieldAddr rfl rfl) ?_; refine TL.y (Yv.ad 0 rfl rfl rfl rfl) ?_; refine TL.run 2 rfl ?_; refine TL.ao rfl rfl rfl (fun h2 => ?_) (fun h2 => ?_)
      · have p2 := h2; (try simp only [nfB] at p2); refine TL.off (Wt.not rfl rfl rfl h2) rfl rfl ?_; refine TL.off (Wt.not rfl rfl rfl h2) rfl rfl ?_; refine TL.off (Wt.not rfl rfl rfl h2) rfl rfl ?_; refine TL.y (Yv.aw rfl rfl h2 rfl) ?_; refine TL.run 10 rfl ?_; refine TL.ns ?_; refine T.aC rfl rfl ?_; refine T.sr ?_; refine TL.run 1 rfl ?_; refine TL.ns (T.ret (K.a (K.af (K.a (K.a (K.af (K.a ?_))))))); refine K.al rfl rfl (fun w' hw => ⟨?_, hw.isBelow⟩); exact zag (zaf k (by omega) (by simp only [siOk, *, Bool.not_true, Bool.not_false, Bool.or_false, Bool.false_or, Bool.or_true, Bool.true_or, Bool.and_false, Bool.false_and, Bool.true_and, Bool.and_true, Bool.or_self, Bool.and_self, Bool.not_not, decide_true, decide_false, not_true_eq_false, not_false_eq_true, cond_true, cond_false])).symm
      · have p2 := h2; (try simp only [nfB] at p2); refine TL.yv (Wt.some rfl rfl rfl h2) rfl rfl (Yv.fieldAddr rfl rfl) ?_; refine TL.yv (Wt.some rfl rfl rfl h2) rfl rfl (Yv.ad 0 rfl rfl rfl rfl) ?_; refine TL.yv (Wt.some rfl rfl rfl h2) rfl rfl (Yv.ak rfl) ?_; refine TL.y (Yv.ar rfl rfl h2 rfl) ?_; refine TL.run 1 rfl ?_; refine TL.ao rfl rfl rfl (fun h3 => ?_) (fun h3 => ?_)
        · have p3 := h3; (try simp only [nfB] at p3); refine TL.off (Wt.not rfl rfl rfl h3) rfl rfl ?_; refine TL.off (Wt.not rfl rfl rfl h3) rfl rfl ?_; refine TL.off (Wt.not rfl rfl rfl h3) rfl rfl ?_; refine TL.y (Yv.aw rfl rfl h3 rfl) ?_; refine TL.run 5 rfl ?_; refine TL.ns ?_; refine T.aC rfl rfl ?_; refine T.sr ?_; refine TL.run 1 rfl ?_; refine TL.ns (T.ret (K.a (K.af (K.a (K.a (K.af (K.a ?_))))))); refine K.al rfl rfl (fun w' hw => ⟨?_, hw.isBelow⟩); exact zag (zaf k (by omega) (by simp only [siOk, *, Bool.not_true, Bool.not_false, Bool.or_false, Bool.false_or, Bool.or_true, Bool.true_or, Bool.and_false, Bool.false_and, Bool.true_and, Bool.and_true, Bool.or_self, Bool.and_self, Bool.not_not, decide_true, decide_false, not_true_eq_false, not_false_eq_true, cond_true, cond_false])).symm
        · have p3 := h3; (try simp only [nfB] at p3); refine TL.yv (Wt.some rfl rfl rfl h3) rfl rfl (Yv.fieldAddr rfl rfl) ?_; refine TL.yv (Wt.some rfl rfl rfl h3) rfl rfl (Yv.ad 0 rfl rfl rfl rfl) ?_; refine TL.yv (Wt.some rfl rfl rfl h3) rfl rfl (Yv.ak rfl) ?_; refine TL.y (Yv.ar rfl rfl h3 rfl) ?_; refine TL.run 1 rfl ?_; refine TL.ao rfl rfl rfl (fun h4 => ?_) (fun h4 => ?_)
          · have p4 := h4; (try simp only [nfB] at p4); refine TL.off (Wt.not rfl rfl rfl h4) rfl rfl ?_; refine TL.off (Wt.not rfl rfl rfl h4) rfl rfl ?_; refine TL.off (Wt.not rfl rfl rfl h4) rfl rfl ?_; refine TL.y (Yv.aw rfl rfl h4 rfl) ?_; refine TL.ns ?_; refine T.aC rfl rfl ?_; refine T.sr ?_; refine TL.run 1 rfl ?_; refine TL.ns (T.ret (K.a (K.af (K.a (K.a (K.af (K.a ?_))))))); refine K.al rfl rfl (fun w' hw => ⟨?_, hw.isBelow⟩); exact zag (zaf k (by omega) (by simp only [siOk, *, Bool.not_true, Bool.not_false, Bool.or_false, Bool.false_or, Bool.or_true, Bool.true_or, Bool.and_false, Bool.false_and, Bool.true_and, Bool.and_true, Bool.or_self, Bool.and_self, Bool.not_not, decide_true, decide_false, not_true_eq_false, not_false_eq_true, cond_true, cond_false])).symm
          · have p4 := h4; (try simp only [nfB] at p4); refine TL.yv (Wt.some rfl rfl rfl h4) rfl rfl (Yv.fieldAddr rfl rfl) ?_; refine TL.yv (Wt.some rfl rfl rfl h4) rfl rfl (Yv.ad 0 rfl rfl rfl rfl) ?_; refine TL.yv (Wt.some rfl rfl rfl h4) rfl rfl (Yv.ak rfl) ?_; refine TL.y (Yv.ar rfl rfl h4 rfl) ?_; refine TL.ns ?_; refine T.cond rfl (fun h5 => ?_) (fun h5 => ?_)
            · have p5 := h5; (try simp only [nfB] at p5); refine T.sr ?_; refine TL.run 1 rfl ?_; refine TL.ns (T.ret (K.a (K.af (K.a (K.a (K.af (K.a ?_))))))); refine K.al rfl rfl (fun w' hw => ⟨?_, hw.isBelow⟩); exact zag (zaf k (by omega) (by simp only [siOk, *, Bool.not_true, Bool.not_false, Bool.or_false, Bool.false_or, Bool.or_true, Bool.true_or, Bool.and_false, Bool.false_and, Bool.true_and, Bool.and_true, Bool.or_self, Bool.and_self, Bool.not_not, decide_true, decide_false, not_true_eq_false, not_false_eq_true, cond_true, cond_false])).symm
            · have p5 := h5; (try simp only [nfB] at p5); refine T.skip (K.seq (T.seq ?_)); refine T.aD (.still 0 (.still 1 (.still 2 (.still 3 (.still 4 (.still 5 (.still 6 (.still 7 (.still 8 (.still 9 (.still 10 (.still 11 (.still 12 .done))))))))))))) _ (by kernel_rfl) (List.Sublist.refl _) ?_; refine TS.run 3 rfl ?_; refine TS.ao rfl rfl rfl rfl (fun h6 => ?_) (fun h6 => ?_)
              · have p6 := h6; (try simp only [nfB] at p6); refine TS.still rfl (Wt.some rfl rfl rfl h6) rfl rfl (Yv.ak rfl) ?_; refine TS.still rfl (Wt.some rfl rfl rfl h6) rfl rfl (Yv.ak rfl) ?_; refine TS.still rfl (Wt.some rfl rfl rfl h6) rfl rfl (Yv.aR rfl rfl rfl (by omega)) ?_; refine TS.still rfl (Wt.some rfl rfl rfl h6) rfl rfl (Yv.ai rfl rfl rfl (show (k : Int) - 1 = ((k - 1 : Nat) : Int) from by omega) (by omega)) ?_; refine TS.still rfl (Wt.some rfl rfl rfl h6) rfl rfl (Yv.fieldAddr rfl rfl) ?_; refine TS.still rfl (Wt.some rfl rfl rfl h6) rfl rfl (Yv.bt rfl rfl hk1 rfl rfl (fun h => h)) ?_; refine TS.still rfl (Wt.some rfl rfl rfl h6) rfl rfl (Yv.fieldAddr rfl rfl) ?_; refine TS.still rfl (Wt.some rfl rfl rfl h6) rfl rfl (Yv.ad 0 rfl rfl rfl rfl) ?_; refine TS.still rfl (Wt.some rfl rfl rfl h6) rfl rfl (Yv.ak rfl) ?_; refine TS.y rfl (Yv.aw rfl rfl h6 rfl) ?_; refine TS.done ?_; refine K.seq ?_; refine T.cond rfl (fun h7 => ?_) (fun h7 => ?_)
                · have p7 := h7; (try simp only [nfB] at p7); refine T.sr ?_; refine TL.run 1 rfl ?_; refine TL.ns (T.ret (K.af (K.a (K.a (K.af (K.a ?_)))))); refine K.al rfl rfl (fun w' hw => ⟨?_, hw.isBelow⟩); exact zag (zaf k (by omega) (by simp only [siOk, *, Bool.not_true, Bool.not_false, Bool.or_false, Bool.false_or, Bool.or_true, Bool.true_or, Bool.and_false, Bool.false_and, Bool.true_and, Bool.and_true, Bool.or_self, Bool.and_self, Bool.not_not, decide_true, decide_false, not_true_eq_false, not_false_eq_true, cond_true, cond_false])).symm
                · have p7 := h7; (try simp only [nfB] at p7); refine T.skip (K.ab (K.seq (T.region ?_))); refine TL.y (Yv.ah rfl rfl rfl (by omega)) ?_; refine TL.run 1 rfl ?_; refine TL.nil ?_; refine K.next (k + 1) ⟨by omega, zaN hall (by simp only [siOk, *, Bool.not_true, Bool.not_false, Bool.or_false, Bool.false_or, Bool.or_true, Bool.true_or, Bool.and_false, Bool.false_and, Bool.true_and, Bool.and_true, Bool.or_self, Bool.and_self, Bool.not_not, decide_true, decide_false, not_true_eq_false, not_false_eq_true, cond_true, cond_false])⟩ (by omega) (by repeat (first | exact Sub.nil | refine Sub.cons rfl ?_)) Sx
              · have p6 := h6; (try simp only [nfB] at p6); refine TS.ae rfl (Wt.not rfl rfl rfl h6) rfl rfl ?_; refine TS.ae rfl (Wt.not rfl rfl rfl h6) rfl rfl ?_; refine TS.ae rfl (Wt.not rfl rfl rfl h6) rfl rfl ?_; refine TS.ae rfl (Wt.not rfl rfl rfl h6) rfl rfl ?_; refine TS.ae rfl (Wt.not rfl rfl rfl h6) rfl rfl ?_; refine TS.ae rfl (Wt.not rfl rfl rfl h6) rfl rfl ?_; refine TS.ae rfl (Wt.not rfl rfl rfl h6) rfl rfl ?_; refine TS.ae rfl (Wt.not rfl rfl rfl h6) rfl rfl ?_; refine TS.ae rfl (Wt.not rfl rfl rfl h6) rfl rfl ?_; refine TS.y rfl (Yv.ar rfl rfl h6 rfl) ?_; refine TS.done ?_; refine K.seq ?_; refine T.aG rfl rfl ?_; refine T.skip (K.ab (K.seq (T.region ?_))); refine TL.y (Yv.ah rfl rfl rfl (by omega)) ?_; refine TL.run 1 rfl ?_; refine TL.nil ?_; refine K.next (k + 1) ⟨by omega, zaN hall (by simp only [siOk, *, Bool.not_true, Bool.not_false, Bool.or_false, Bool.false_or, Bool.or_true, Bool.true_or, Bool.and_false, Bool.false_and, Bool.true_and, Bool.and_true, Bool.or_self, Bool.and_self, Bool.not_not, decide_true, decide_false, not_true_eq_false, not_false_eq_true, cond_true, cond_false])⟩ (by omega) (by repeat (first | exact Sub.nil | refine Sub.cons rfl ?_)) Sx
    · have p1 := h1; (try simp only [nfB] at p1); refine T.exit (K.aa (K.aa (K.ac (K.seq (T.sr ?_))))); refine TL.run 1 rfl ?_; refine TL.ns (T.ret ?_); refine K.al rfl rfl (fun w' hw => ⟨?_, hw.isBelow⟩); exact zag (zb7 hall (by omega)).symm
def inB (n a b : Int) : Bool := decide (a ≤ n) && decide (n ≤ b)
def Cond (w : World) (v : Value) (b : Bool) : Prop :=
  ∃ f caps, v = .func (.func f) #[] caps ∧ Enters Try.prog f ∧ ∀ w', Below w.heap.size w w' → Calls Try.prog f caps w' fun e w'' => e = .returned (.bool b) ∧ Below w'.heap.size w' w''
theorem zdC (n lo hi : Int) (p q r : Nat) (w : World) (hp : w.cell? ⟨p, 0, none⟩ = some (.int .i64 lo)) (hq : w.cell? ⟨q, 0, none⟩ = some (.int .i64 n)) (hr : w.cell? ⟨r, 0, none⟩ = some (.int .i64 hi)) : Calls Try.prog 50 #[.pointer (some ⟨p, 0, none⟩), .pointer (some ⟨q, 0, none⟩), .pointer (some ⟨r, 0, none⟩)] w fun e w' => e = .returned (.bool (inB n lo hi)) ∧ Below w.heap.size w w' := by
  refine zaa (M := fun _ => False) (hs := []) Try.func50 rfl rfl rfl (Hp.refl _ _) ?_; refine T.sr ?_; refine TL.run 1 rfl ?_; refine TL.nx ?_; refine TL.y (Yv.aA rfl rfl (by assumption) (fun h => h)) ?_; refine TL.y (Yv.aA rfl rfl (by assumption) (fun h => h)) ?_; refine TL.run 2 rfl ?_; refine TL.ao rfl rfl rfl (fun h1 => ?_) (fun h1 => ?_)
  · have p1 := h1; (try simp only [nfB] at p1); refine TL.yv (Wt.some rfl rfl rfl h1) rfl rfl (Yv.aA rfl rfl (by assumption) (fun h => h)) ?_; refine TL.yv (Wt.some rfl rfl rfl h1) rfl rfl (Yv.aA rfl rfl (by assumption) (fun h => h)) ?_; refine TL.yv (Wt.some rfl rfl rfl h1) rfl rfl (Yv.ak rfl) ?_; refine TL.y (Yv.aw rfl rfl h1 rfl) ?_; refine TL.run 1 rfl ?_; refine TL.ns (T.ret ?_); refine K.al rfl rfl (fun w' hw => ⟨?_, hw.isBelow⟩); exact zag (by simp only [inB, *, Bool.not_true, Bool.not_false, Bool.or_false, Bool.false_or, Bool.or_true, Bool.true_or, Bool.and_false, Bool.false_and, Bool.true_and, Bool.and_true, Bool.or_self, Bool.and_self, Bool.not_not, decide_true, decide_false, not_true_eq_false, not_false_eq_true, cond_true, cond_false])
  · have p1 := h1; (try simp only [nfB] at p1); refine TL.off (Wt.not rfl rfl rfl h1) rfl rfl ?_; refine TL.off (Wt.not rfl rfl rfl h1) rfl rfl ?_; refine TL.off (Wt.not rfl rfl rfl h1) rfl rfl ?_; refine TL.y (Yv.ar rfl rfl h1 rfl) ?_; refine TL.run 1 rfl ?_; refine TL.ns (T.ret ?_); refine K.al rfl rfl (fun w' hw => ⟨?_, hw.isBelow⟩); exact zag (by simp only [inB, *, Bool.not_true, Bool.not_false, Bool.or_false, Bool.false_or, Bool.or_true, Bool.true_or, Bool.and_false, Bool.false_and, Bool.true_and, Bool.and_true, Bool.or_self, Bool.and_self, Bool.not_not, decide_true, decide_false, not_true_eq_false, not_false_eq_true, cond_true, cond_false])
theorem zc5 (c : Int) (p : Nat) (w : World) (hp : w.cell? ⟨p, 0, none⟩ = some (.int .i64 c)) : Calls Try.prog 51 #[.pointer (some ⟨p, 0, none⟩)] w fun e w' => e = .returned (.bool (chB c)) ∧ Below w.heap.size w w' := by
  refine zaa (M := fun _ => False) (hs := []) Try.func51 rfl rfl rfl (Hp.refl _ _) ?_; refine T.sr ?_; refine TL.run 1 rfl ?_; refine TL.nx ?_; refine TL.y (Yv.aA rfl rfl (by assumption) (fun h => h)) ?_; refine TL.run 2 rfl ?_; refine TL.ao rfl rfl rfl (fun h1 => ?_) (fun h1 => ?_)
  · have p1 := h1; (try simp only [nfB] at p1); refine TL.off (Wt.not rfl rfl rfl h1) rfl rfl ?_; refine TL.off (Wt.not rfl rfl rfl h1) rfl rfl ?_; refine TL.off (Wt.not rfl rfl rfl h1) rfl rfl ?_; refine TL.off (Wt.undef rfl rfl rfl) rfl rfl ?_; refine TL.off (Wt.undef rfl rfl rfl) rfl rfl ?_; refine TL.off (Wt.not rfl rfl rfl h1) rfl rfl ?_; refine TL.y (Yv.aw rfl rfl h1 rfl) ?_; refine TL.run 1 rfl ?_; refine TL.ns (T.ret ?_); refine K.al rfl rfl (fun w' hw => ⟨?_, hw.isBelow⟩); exact zag (by simp only [chB, *, Bool.not_true, Bool.not_false, Bool.or_false, Bool.false_or, Bool.or_true, Bool.true_or, Bool.and_false, Bool.false_and, Bool.true_and, Bool.and_true, Bool.or_self, Bool.and_self, Bool.not_not, decide_true, decide_false, not_true_eq_false, not_false_eq_true, cond_true, cond_false])
  · have p1 := h1; (try simp only [nfB] at p1); refine TL.yv (Wt.some rfl rfl rfl h1) rfl rfl (Yv.aA rfl rfl (by assumption) (fun h => h)) ?_; refine TL.yv (Wt.some rfl rfl rfl h1) rfl rfl (Yv.ak rfl) ?_; refine TL.yv (Wt.some rfl rfl rfl h1) rfl rfl (Yv.ak rfl) ?_; refine TL.ao rfl rfl rfl (fun h2 => ?_) (fun h2 => ?_)
    · have p2 := h2; (try simp only [nfB] at p2); refine TL.yv (Wt.some rfl rfl rfl h2) rfl rfl (Yv.aA rfl rfl (by assumption) (fun h => h)) ?_; refine TL.yv (Wt.some rfl rfl rfl h2) rfl rfl (Yv.ak rfl) ?_; refine TL.yv (Wt.some rfl rfl rfl h1) rfl rfl (Yv.aw rfl rfl h2 rfl) ?_; refine TL.y (Yv.ar rfl rfl h1 rfl) ?_; refine TL.run 1 rfl ?_; refine TL.ns (T.ret ?_); refine K.al rfl rfl (fun w' hw => ⟨?_, hw.isBelow⟩); exact zag (by simp only [chB, *, Bool.not_true, Bool.not_false, Bool.or_false, Bool.false_or, Bool.or_true, Bool.true_or, Bool.and_false, Bool.false_and, Bool.true_and, Bool.and_true, Bool.or_self, Bool.and_self, Bool.not_not, decide_true, decide_false, not_true_eq_false, not_false_eq_true, cond_true, cond_false])
    · have p2 := h2; (try simp only [nfB] at p2); refine TL.off (Wt.not rfl rfl rfl h2) rfl rfl ?_; refine TL.off (Wt.not rfl rfl rfl h2) rfl rfl ?_; refine TL.yv (Wt.some rfl rfl rfl h1) rfl rfl (Yv.ar rfl rfl h2 rfl) ?_; refine TL.y (Yv.ar rfl rfl h1 rfl) ?_; refine TL.run 1 rfl ?_; refine TL.ns (T.ret ?_); refine K.al rfl rfl (fun w' hw => ⟨?_, hw.isBelow⟩); exact zag (by simp only [chB, *, Bool.not_true, Bool.not_false, Bool.or_false, Bool.false_or, Bool.or_true, Bool.true_or, Bool.and_false, Bool.false_and, Bool.true_and, Bool.and_true, Bool.or_self, Bool.and_self, Bool.not_not, decide_true, decide_false, not_true_eq_false, not_false_eq_true, cond_true, cond_false])
theorem zec (a b : Int) (p : Nat) (w : World) (ha : w.cell? ⟨p, 0 + 1, none⟩ = some (.int .i64 a)) (hb : w.cell? ⟨p, 0 + 2, none⟩ = some (.int .i64 b)) : Calls Try.prog 44 #[.pointer (some ⟨p, 0, none⟩)] w fun e w' => e = .returned (.bool (decide (¬ a = b))) ∧ Below w.heap.size w w' := by
  refine zaa (M := fun _ => False) (hs := []) Try.func44 rfl rfl rfl (Hp.refl _ _) ?_; refine T.sr ?_; refine TL.run 1 rfl ?_; refine TL.nx ?_; refine TL.y (Yv.fieldAddr rfl rfl) ?_; refine TL.y (Yv.aA rfl rfl (by assumption) (fun h => h)) ?_; refine TL.y (Yv.fieldAddr rfl rfl) ?_; refine TL.y (Yv.aA rfl rfl (by assumption) (fun h => h)) ?_; refine TL.run 2 rfl ?_; refine TL.ns (T.ret ?_); refine K.al rfl rfl (fun w' hw => ⟨?_, hw.isBelow⟩)
  rfl
theorem zbd (n lo hi : Int) (w : World) : Calls Try.prog 42 #[.int .i64 n, .int .i64 lo, .int .i64 hi] w fun e w' => ∃ x : Nat × Nat × Nat, True ∧ e = .returned (.func (.func 50) #[] #[.pointer (some ⟨x.2.1, 0, none⟩), .pointer (some ⟨x.1, 0, none⟩), .pointer (some ⟨x.2.2, 0, none⟩)]) ∧ Hp w (fun _ => False) [.row x.2.2 3 [.int .i64 hi], .row x.2.1 3 [.int .i64 lo], .row x.1 3 [.int .i64 n]] w' := by
  refine zaa (M := fun _ => False) (hs := []) Try.func42 rfl rfl rfl (Hp.refl _ _) ?_; refine T.sr ?_; (refine TL.ew (Wt.none rfl) rfl rfl (Ew.box rfl rfl) ?_; rintro _ _ ⟨g3, rfl, rfl⟩); (refine TL.ew (Wt.none rfl) rfl rfl (Ew.box rfl rfl) ?_; rintro _ _ ⟨g4, rfl, rfl⟩); (refine TL.ew (Wt.none rfl) rfl rfl (Ew.box rfl rfl) ?_; rintro _ _ ⟨g5, rfl, rfl⟩); refine TL.run 1 rfl ?_; refine TL.nx ?_; refine TL.run 2 rfl ?_; refine TL.ns (T.ret ?_); exact K.al rfl rfl (fun w' hw => ⟨(g3, g4, g5), trivial, rfl, hw⟩)
theorem zce (c : Int) (w : World) : Calls Try.prog 43 #[.int .i64 c] w fun e w' => ∃ x : Nat, True ∧ e = .returned (.func (.func 51) #[] #[.pointer (some ⟨x, 0, none⟩)]) ∧ Hp w (fun _ => False) [.row x 3 [.int .i64 c]] w' := by
  refine zaa (M := fun _ => False) (hs := []) Try.func43 rfl rfl rfl (Hp.refl _ _) ?_; refine T.sr ?_; (refine TL.ew (Wt.none rfl) rfl rfl (Ew.box rfl rfl) ?_; rintro _ _ ⟨g1, rfl, rfl⟩); refine TL.run 1 rfl ?_; refine TL.nx ?_; refine TL.run 2 rfl ?_; refine TL.ns (T.ret ?_); exact K.al rfl rfl (fun w' hw => ⟨g1, trivial, rfl, hw⟩)
theorem zaS {w w' : World} (hb : Below w.heap.size w w') {g : Nat} {t : TypeId} {l : List Value} (h : w.heap[g]? = some (.cells l.toArray t (0, 0))) : w'.heap[g]? = some (.cells l.toArray t (0, 0)) :=
  (hb.block g (Array.getElem?_eq_some_iff.1 h).1).trans h
theorem Cond.within {n lo hi : Int} {p q r : Nat} {t t' t'' : TypeId} {w : World} (hp : w.heap[p]? = some (.cells [Value.int .i64 lo].toArray t (0, 0))) (hq : w.heap[q]? = some (.cells [Value.int .i64 n].toArray t' (0, 0))) (hr : w.heap[r]? = some (.cells [Value.int .i64 hi].toArray t'' (0, 0))) :
    Cond w (.func (.func 50) #[] #[.pointer (some ⟨p, 0, none⟩), .pointer (some ⟨q, 0, none⟩), .pointer (some ⟨r, 0, none⟩)]) (inB n lo hi) :=
  ⟨_, _, rfl, inferInstance, fun w' hb => zdC n lo hi p q r w' (zaw (zaS hb hp) 0) (zaw (zaS hb hq) 0) (zaw (zaS hb hr) 0)⟩
theorem Cond.channel {c : Int} {p : Nat} {t : TypeId} {w : World} (hp : w.heap[p]? = some (.cells [Value.int .i64 c].toArray t (0, 0))) : Cond w (.func (.func 51) #[] #[.pointer (some ⟨p, 0, none⟩)]) (chB c) :=
  ⟨_, _, rfl, inferInstance, fun w' hb => zc5 c p w' (zaw (zaS hb hp) 0)⟩
theorem Cond.differ {m : Mv} {p : Nat} {t : TypeId} {w : World} (hp : w.heap[p]? = some (.cells m.cells.toArray t (0, 0))) : Cond w (.func (.func 44) #[] #[.pointer (some ⟨p, 0, none⟩)]) (decide (¬ m.old = m.nw)) :=
  ⟨_, _, rfl, inferInstance, fun w' hb => zec m.old m.nw p w' (zaw (zaS hb hp) 1) (zaw (zaS hb hp) 2)⟩
instance : Inhabited (Value × Bool) := ⟨(.nilFunc, false)⟩
theorem zfk (ps : List (Value × Bool)) (v : Value) (w : World) (h : SlOf w v (fun p : Value × Bool => [p.1]) 1 ps) (hc : ∀ p ∈ ps, Cond w p.1 p.2) (hl : ps.length ≤ 9223372036854775807) : Calls Try.prog 41 #[v] w fun e w' => e = .returned (.bool ((List.range ps.length).all fun k => (nth ps k).2)) ∧ Below w.heap.size w w' := by
  obtain ⟨A, cap, rfl, hsl⟩ := h.op; refine zaa (M := fun _ => False) (hs := []) Try.func41 rfl rfl rfl (Hp.refl _ _) ?_; refine T.sr ?_; refine TL.run 1 rfl ?_; refine TL.ns (T.seq (T.sr ?_)); refine TL.run 1 rfl ?_; refine TL.y (Yv.ap rfl rfl) ?_; refine TL.run 1 rfl ?_; refine TL.ns (T.block ?_); refine T.loop (ι := Nat) (fun k => [(5, .slice A ps.length cap), (6, .int .i64 (ps.length : Int)), (7, .int .i64 (k : Int))]) (fun k => []) (fun k => k ≤ ps.length ∧ ∀ j, j < k → (nth ps j).2 = true) (fun k => ps.length - k) 0 ?_ ?_ ?_ ?_
  · exact ⟨by omega, fun j hj => by omega⟩
  · exact (by repeat (first | exact Sub.nil | refine Sub.cons rfl ?_))
  · exact Sx
  · intro k hphi; obtain ⟨hkl, hall⟩ := hphi; refine T.sr ?_; refine TL.run 1 rfl ?_; refine TL.ns (T.seq ?_); refine T.cond rfl (fun h1 => ?_) (fun h1 => ?_)
    · have p1 := h1; (try simp only [nfB] at p1); obtain ⟨g, off, rfl, hcs⟩ := hsl (by omega); obtain ⟨f, caps, hv, hE, hC⟩ := hc (nth ps k) (by rw [zab (by omega)]; exact List.getElem_mem _); (have hk : w.cell? ⟨g, off + k * 1, none⟩ = some (.func (.func f) #[] caps) := by have := hcs k (by omega) 0 (by simp); rw [← hv]; simpa using this); refine T.skip (K.seq (T.seq (T.block (T.sr ?_)))); refine TL.y (Yv.ai rfl rfl rfl rfl (by omega)) ?_; refine TL.y (Yv.aA rfl rfl (by assumption) (fun h => h)) ?_; refine TL.run 1 rfl ?_; refine TL.nx ?_; refine TL.run 1 rfl ?_; (refine TL.ew (Wt.none rfl) rfl rfl (Ew.bz rfl rfl rfl (fun w hw => hC _ hw.isBelow)) ?_; rintro _ _ ⟨rfl, rfl⟩); refine TL.run 1 rfl ?_; refine TL.ns ?_; refine T.cond rfl (fun h2 => ?_) (fun h2 => ?_)
      · have p2 := h2; (try simp only [nfB] at p2); refine T.sr ?_; refine TL.run 1 rfl ?_; refine TL.ns (T.ret (K.af (K.a (K.a (K.af (K.a ?_)))))); refine K.al rfl rfl (fun w' hw => ⟨?_, hw.isBelow⟩); exact zag (zaf (f := fun k => (nth ps k).2) k (by omega) (by simpa using p2)).symm
      · have p2 := h2; (try simp only [nfB] at p2); refine T.skip (K.ab (K.seq (T.region ?_))); refine TL.y (Yv.ah rfl rfl rfl (by omega)) ?_; refine TL.run 1 rfl ?_; refine TL.nil ?_; refine K.next (k + 1) ⟨by omega, zaN hall (by simpa using p2)⟩ (by omega) (by repeat (first | exact Sub.nil | refine Sub.cons rfl ?_)) Sx
    · have p1 := h1; (try simp only [nfB] at p1); refine T.exit (K.aa (K.aa (K.ac (K.seq (T.sr ?_))))); refine TL.run 1 rfl ?_; refine TL.ns (T.ret ?_); refine K.al rfl rfl (fun w' hw => ⟨?_, hw.isBelow⟩); exact zag (zb7 (f := fun k => (nth ps k).2) hall (by omega)).symm
theorem zev (m : Mv) (w : World) : Calls Try.prog 30 #[.agg m.cells.toArray] w fun e w' => e = .returned (.bool m.ok) ∧ Below w.heap.size w w' := by
  refine zaa (M := fun _ => False) (hs := []) Try.func30 rfl rfl rfl (Hp.refl _ _) ?_; simp only [Mv.cells]; refine T.sr ?_; (refine TL.ew (Wt.none rfl) rfl rfl (Ew.bc rfl rfl) ?_; rintro _ _ ⟨g1, rfl, rfl⟩); refine TL.run 1 rfl ?_; refine TL.ns (T.seq ?_); refine T.aD (.still 0 (.still 1 (.still 3 (.still 4 (.still 6 (.still 7 (.still 9 (.still 10 (.still 11 (.still 13 (.still 14 (.still 16 (.still 17 (.eff 2 (.eff 5 (.eff 8 (.eff 12 (.eff 15 (.eff 18 (.eff 19 (.eff 20 (.still 21 .done)))))))))))))))))))))) _ (by kernel_rfl) (List.Sublist.refl _) ?_; refine TS.y rfl (Yv.fieldAddr rfl rfl) ?_; refine TS.y rfl (Yv.ad 0 rfl rfl rfl rfl) ?_; refine TS.y rfl (Yv.fieldAddr rfl rfl) ?_; refine TS.y rfl (Yv.ad 0 rfl rfl rfl rfl) ?_; refine TS.y rfl (Yv.fieldAddr rfl rfl) ?_; refine TS.y rfl (Yv.ad 0 rfl rfl rfl rfl) ?_; refine TS.run 1 rfl ?_; refine TS.y rfl (Yv.fieldAddr rfl rfl) ?_; refine TS.y rfl (Yv.ad 0 rfl rfl rfl rfl) ?_; refine TS.y rfl (Yv.fieldAddr rfl rfl) ?_; refine TS.y rfl (Yv.ad 0 rfl rfl rfl rfl) ?_; refine TS.y rfl (Yv.fieldAddr rfl rfl) ?_; refine TS.y rfl (Yv.ad 0 rfl rfl rfl rfl) ?_; refine TS.eff ?_; (refine TSo.ew rfl (Wt.none rfl) rfl rfl (Ew.au rfl rfl rfl (fun w hw => zbd _ _ _ _)) ?_; rintro _ _ ⟨⟨a5, b5, c5⟩, -, rfl, rfl⟩; refine ⟨Sx, ?_⟩); dsimp only [List.cons_append, List.nil_append]; refine TS.eff ?_; (refine TSo.ew rfl (Wt.none rfl) rfl rfl (Ew.au rfl rfl rfl (fun w hw => zce _ _)) ?_; rintro _ _ ⟨a8, -, rfl, rfl⟩; refine ⟨Sx, ?_⟩); dsimp only [List.cons_append, List.nil_append]; refine TS.eff ?_; (refine TSo.ew rfl (Wt.none rfl) rfl rfl (Ew.au rfl rfl rfl (fun w hw => zce _ _)) ?_; rintro _ _ ⟨a11, -, rfl, rfl⟩; refine ⟨Sx, ?_⟩); dsimp only [List.cons_append, List.nil_append]; refine TS.eff ?_; (refine TSo.ew rfl (Wt.none rfl) rfl rfl (Ew.au rfl rfl rfl (fun w hw => zbd _ _ _ _)) ?_; rintro _ _ ⟨⟨a15, b15, c15⟩, -, rfl, rfl⟩; refine ⟨Sx, ?_⟩); dsimp only [List.cons_append, List.nil_append]; refine TS.eff ?_; (refine TSo.ew rfl (Wt.none rfl) rfl rfl (Ew.au rfl rfl rfl (fun w hw => zbd _ _ _ _)) ?_; rintro _ _ ⟨⟨a18, b18, c18⟩, -, rfl, rfl⟩; refine ⟨Sx, ?_⟩); dsimp only [List.cons_append, List.nil_append]; refine TS.eff ?_; (refine TSo.ew rfl (Wt.none rfl) rfl rfl (Ew.au rfl rfl rfl (fun w hw => zbd _ _ _ _)) ?_; rintro _ _ ⟨⟨a21, b21, c21⟩, -, rfl, rfl⟩; refine ⟨Sx, ?_⟩); dsimp only [List.cons_append, List.nil_append]; refine TS.eff ?_; (refine TSo.ew rfl (Wt.none rfl) rfl rfl (Ew.buildSlice rfl rfl rfl (by decide)) ?_; rintro _ _ ⟨g22, rfl, rfl⟩; refine ⟨Sx, ?_⟩); refine TS.eff ?_
  (refine TSo.ew rfl (Wt.none rfl) rfl rfl (Ew.am rfl rfl rfl (fun w hw => (zfk [(_, inB m.st 0 511), (_, chB m.old), (_, chB m.nw), (_, decide (¬ m.old = m.nw)), (_, inB m.tw 0 255), (_, inB m.cr 0 255), (_, inB m.wk 1 52)] _ w
    (by exact SlOf.lit (enc := fun p : Value × Bool => [p.1]) (size := 1) (fun _ => rfl) _ (Ent.row_ok.1 (hw.get (i := 0) rfl)) rfl rfl)
    (by
      intro p hp; simp only [List.mem_cons, List.not_mem_nil, or_false] at hp; rcases hp with rfl | rfl | rfl | rfl | rfl | rfl | rfl
      · exact Cond.within (Ent.row_ok.1 (hw.get (i := 13) rfl)) (Ent.row_ok.1 (hw.get (i := 14) rfl)) (Ent.row_ok.1 (hw.get (i := 12) rfl))
      · exact Cond.channel (Ent.row_ok.1 (hw.get (i := 11) rfl))
      · exact Cond.channel (Ent.row_ok.1 (hw.get (i := 10) rfl))
      · exact Cond.differ (m := m) (Ent.row_ok.1 (hw.get (i := 15) rfl))
      · exact Cond.within (Ent.row_ok.1 (hw.get (i := 8) rfl)) (Ent.row_ok.1 (hw.get (i := 9) rfl)) (Ent.row_ok.1 (hw.get (i := 7) rfl))
      · exact Cond.within (Ent.row_ok.1 (hw.get (i := 5) rfl)) (Ent.row_ok.1 (hw.get (i := 6) rfl)) (Ent.row_ok.1 (hw.get (i := 4) rfl))
      · exact Cond.within (Ent.row_ok.1 (hw.get (i := 2) rfl)) (Ent.row_ok.1 (hw.get (i := 3) rfl)) (Ent.row_ok.1 (hw.get (i := 1) rfl))) (by simp)))) ?_; rintro _ _ ⟨rfl, rfl⟩; refine ⟨Sx, ?_⟩)
  refine TS.run 1 rfl ?_; refine TS.done ?_; refine K.seq (T.ret ?_); refine K.al rfl rfl (fun w' hw => ⟨?_, hw.isBelow⟩); refine zag ?_; simp [Mv.ok, inB, nth, List.range_succ, Bool.and_assoc]
theorem zcw (xs : List Mv) (v : Value) (w : World) (h : zbG w v xs) (hl : xs.length ≤ 9223372036854775807) : Calls Try.prog 23 #[v] w fun e w' => e = .returned (.bool (zaY xs)) ∧ Below w.heap.size w w' := by
  obtain ⟨A, cap, rfl, hsl⟩ := h.op; refine zaa (M := fun _ => False) (hs := []) Try.func23 rfl rfl rfl (Hp.refl _ _) ?_; refine T.sr ?_; refine TL.run 1 rfl ?_; refine TL.ns (T.seq (T.sr ?_)); refine TL.run 1 rfl ?_; refine TL.y (Yv.ap rfl rfl) ?_; refine TL.run 1 rfl ?_; refine TL.ns ?_; refine T.cond rfl (fun h1 => ?_) (fun h1 => ?_)
  · have p1 := h1; (try simp only [nfB] at p1); have q1 : decide ((xs.length : Int) ≤ 512) = false := decide_eq_false (by omega); refine T.sr ?_; refine TL.run 1 rfl ?_; refine TL.ns (T.ret (K.a ?_)); refine K.al rfl rfl (fun w' hw => ⟨?_, hw.isBelow⟩); exact zag (by rw [zaY]; simp only [*, Bool.not_true, Bool.not_false, Bool.or_false, Bool.false_or, Bool.or_true, Bool.true_or, Bool.and_false, Bool.false_and, Bool.true_and, Bool.and_true, Bool.or_self, Bool.and_self, Bool.not_not, decide_true, decide_false, not_true_eq_false, not_false_eq_true, cond_true, cond_false])
  · have p1 := h1; (try simp only [nfB] at p1); have q1 : decide ((xs.length : Int) ≤ 512) = true := decide_eq_true (by omega); refine T.skip (K.seq (T.seq (T.sr ?_))); refine TL.run 1 rfl ?_; refine TL.y (Yv.ap rfl rfl) ?_; refine TL.run 1 rfl ?_; refine TL.ns (T.block ?_); refine T.loop (ι := Nat) (fun k => [(0, .slice A xs.length cap), (8, .slice A xs.length cap), (9, .int .i64 (xs.length : Int)), (10, .int .i64 (k : Int))]) (fun k => []) (fun k => k ≤ xs.length ∧ ∀ j, j < k → mvOk xs j = true) (fun k => xs.length - k) 0 ?_ ?_ ?_ ?_
    · exact ⟨by omega, fun j hj => by omega⟩
    · exact (by repeat (first | exact Sub.nil | refine Sub.cons rfl ?_))
    · exact Sx
    · intro k hphi; obtain ⟨hkl, hall⟩ := hphi; refine T.sr ?_; refine TL.run 1 rfl ?_; refine TL.ns (T.seq ?_); refine T.cond rfl (fun h2 => ?_) (fun h2 => ?_)
      · have p2 := h2; (try simp only [nfB] at p2); obtain ⟨g, off, rfl, hc⟩ := hsl (by omega); have hk := hc k (by omega); have hk1 := hc (k - 1) (by omega); simp only [Mv.cells] at hk hk1; refine T.skip (K.seq (T.seq (T.block (T.sr ?_)))); refine TL.run 1 rfl ?_; refine TL.y (Yv.ai rfl rfl rfl rfl (by omega)) ?_; refine TL.y (Yv.az rfl rfl hk rfl (fun h => h)) ?_; (refine TL.ew (Wt.none rfl) rfl rfl (Ew.alloc rfl) ?_; rintro _ _ ⟨g4, rfl, rfl⟩); refine TL.run 1 rfl ?_; (refine TL.ax (Wt.none rfl) rfl (Ew.ag 0 rfl rfl rfl rfl rfl rfl) ?_; rintro _ _ ⟨rfl, rfl⟩); refine TL.ns (T.seq ?_); refine T.aD (.still 0 (.eff 1 (.still 2 (.still 3 (.still 4 (.still 5 (.still 6 (.still 7 (.still 8 (.still 9 (.still 10 (.still 11 (.still 12 (.still 13 (.still 14 (.still 15 (.still 16 (.still 17 .done)))))))))))))))))) _ (by kernel_rfl) (List.Sublist.refl _) ?_; refine TS.y rfl (Yv.aj 0 rfl rfl rfl rfl) ?_; refine TS.eff ?_; (refine TSo.ew rfl (Wt.none rfl) rfl rfl (Ew.am rfl rfl rfl (fun w hw => zev _ _)) ?_; rintro _ _ ⟨rfl, rfl⟩; refine ⟨Sx, ?_⟩); refine TS.run 2 rfl ?_; refine TS.ao rfl rfl rfl rfl (fun h3 => ?_) (fun h3 => ?_)
        · have p3 := h3; (try simp only [nfB] at p3); refine TS.ae rfl (Wt.not rfl rfl rfl h3) rfl rfl ?_; refine TS.ae rfl (Wt.not rfl rfl rfl h3) rfl rfl ?_; refine TS.ae rfl (Wt.not rfl rfl rfl h3) rfl rfl ?_; refine TS.ae rfl (Wt.undef rfl rfl rfl) rfl rfl ?_; refine TS.ae rfl (Wt.undef rfl rfl rfl) rfl rfl ?_; refine TS.ae rfl (Wt.undef rfl rfl rfl) rfl rfl ?_; refine TS.ae rfl (Wt.undef rfl rfl rfl) rfl rfl ?_; refine TS.ae rfl (Wt.undef rfl rfl rfl) rfl rfl ?_; refine TS.ae rfl (Wt.undef rfl rfl rfl) rfl rfl ?_; refine TS.ae rfl (Wt.undef rfl rfl rfl) rfl rfl ?_; refine TS.ae rfl (Wt.undef rfl rfl rfl) rfl rfl ?_; refine TS.ae rfl (Wt.undef rfl rfl rfl) rfl rfl ?_; refine TS.ae rfl (Wt.not rfl rfl rfl h3) rfl rfl ?_; refine TS.y rfl (Yv.aw rfl rfl h3 rfl) ?_; refine TS.done ?_; refine K.seq ?_; refine T.aC rfl rfl ?_; refine T.sr ?_; refine TL.run 1 rfl ?_; refine TL.ns (T.ret (K.af (K.a (K.a (K.af (K.a ?_)))))); refine K.al rfl rfl (fun w' hw => ⟨?_, hw.isBelow⟩); exact zag (by rw [zaY, zaf k (by omega) (by simp only [mvOk, *, Bool.not_true, Bool.not_false, Bool.or_false, Bool.false_or, Bool.or_true, Bool.true_or, Bool.and_false, Bool.false_and, Bool.true_and, Bool.and_true, Bool.or_self, Bool.and_self, Bool.not_not, decide_true, decide_false, not_true_eq_false, not_false_eq_true, cond_true, cond_false])]; simp only [Bool.not_true, Bool.not_false, Bool.or_false, Bool.false_or, Bool.or_true, Bool.true_or, Bool.and_false, Bool.false_and, Bool.true_and, Bool.and_true, Bool.or_self, Bool.and_self, Bool.not_not, decide_true, decide_false, not_true_eq_false, not_false_eq_true, cond_true, cond_false])
        · have p3 := h3; (try simp only [nfB] at p3); refine TS.still rfl (Wt.some rfl rfl rfl h3) rfl rfl (Yv.ak rfl) ?_; refine TS.still rfl (Wt.some rfl rfl rfl h3) rfl rfl (Yv.ak rfl) ?_; refine TS.still rfl (Wt.some rfl rfl rfl h3) rfl rfl (Yv.ak rfl) ?_; refine TS.ao rfl rfl rfl rfl (fun h4 => ?_) (fun h4 => ?_)
          · have p4 := h4; (try simp only [nfB] at p4); refine TS.still rfl (Wt.some rfl rfl rfl h4) rfl rfl (Yv.ak rfl) ?_; refine TS.still rfl (Wt.some rfl rfl rfl h4) rfl rfl (Yv.ak rfl) ?_; refine TS.still rfl (Wt.some rfl rfl rfl h4) rfl rfl (Yv.aR rfl rfl rfl (by omega)) ?_; refine TS.still rfl (Wt.some rfl rfl rfl h4) rfl rfl (Yv.ai rfl rfl rfl (show (k : Int) - 1 = ((k - 1 : Nat) : Int) from by omega) (by omega)) ?_; refine TS.still rfl (Wt.some rfl rfl rfl h4) rfl rfl (Yv.fieldAddr rfl rfl) ?_; refine TS.still rfl (Wt.some rfl rfl rfl h4) rfl rfl (Yv.bt rfl rfl hk1 rfl rfl (fun h => h)) ?_; refine TS.still rfl (Wt.some rfl rfl rfl h4) rfl rfl (Yv.fieldAddr rfl rfl) ?_; refine TS.still rfl (Wt.some rfl rfl rfl h4) rfl rfl (Yv.ad 0 rfl rfl rfl rfl) ?_; refine TS.still rfl (Wt.some rfl rfl rfl h4) rfl rfl (Yv.ak rfl) ?_; refine TS.still rfl (Wt.some rfl rfl rfl h3) rfl rfl (Yv.aw rfl rfl h4 rfl) ?_; refine TS.y rfl (Yv.ar rfl rfl h3 rfl) ?_; refine TS.done ?_; refine K.seq ?_; refine T.cond rfl (fun h5 => ?_) (fun h5 => ?_)
            · have p5 := h5; (try simp only [nfB] at p5); refine T.sr ?_; refine TL.run 1 rfl ?_; refine TL.ns (T.ret (K.af (K.a (K.a (K.af (K.a ?_)))))); refine K.al rfl rfl (fun w' hw => ⟨?_, hw.isBelow⟩); exact zag (by rw [zaY, zaf k (by omega) (by simp only [mvOk, *, Bool.not_true, Bool.not_false, Bool.or_false, Bool.false_or, Bool.or_true, Bool.true_or, Bool.and_false, Bool.false_and, Bool.true_and, Bool.and_true, Bool.or_self, Bool.and_self, Bool.not_not, decide_true, decide_false, not_true_eq_false, not_false_eq_true, cond_true, cond_false])]; simp only [Bool.not_true, Bool.not_false, Bool.or_false, Bool.false_or, Bool.or_true, Bool.true_or, Bool.and_false, Bool.false_and, Bool.true_and, Bool.and_true, Bool.or_self, Bool.and_self, Bool.not_not, decide_true, decide_false, not_true_eq_false, not_false_eq_true, cond_true, cond_false])
            · have p5 := h5; (try simp only [nfB] at p5); refine T.skip (K.ab (K.seq (T.region ?_))); refine TL.y (Yv.ah rfl rfl rfl (by omega)) ?_; refine TL.run 1 rfl ?_; refine TL.nil ?_; refine K.next (k + 1) ⟨by omega, zaN hall (by simp only [mvOk, *, Bool.not_true, Bool.not_false, Bool.or_false, Bool.false_or, Bool.or_true, Bool.true_or, Bool.and_false, Bool.false_and, Bool.true_and, Bool.and_true, Bool.or_self, Bool.and_self, Bool.not_not, decide_true, decide_false, not_true_eq_false, not_false_eq_true, cond_true, cond_false])⟩ (by omega) (by repeat (first | exact Sub.nil | refine Sub.cons rfl ?_)) Sx
          · have p4 := h4; (try simp only [nfB] at p4); refine TS.ae rfl (Wt.not rfl rfl rfl h4) rfl rfl ?_; refine TS.ae rfl (Wt.not rfl rfl rfl h4) rfl rfl ?_; refine TS.ae rfl (Wt.not rfl rfl rfl h4) rfl rfl ?_; refine TS.ae rfl (Wt.not rfl rfl rfl h4) rfl rfl ?_; refine TS.ae rfl (Wt.not rfl rfl rfl h4) rfl rfl ?_; refine TS.ae rfl (Wt.not rfl rfl rfl h4) rfl rfl ?_; refine TS.ae rfl (Wt.not rfl rfl rfl h4) rfl rfl ?_; refine TS.ae rfl (Wt.not rfl rfl rfl h4) rfl rfl ?_; refine TS.ae rfl (Wt.not rfl rfl rfl h4) rfl rfl ?_; refine TS.still rfl (Wt.some rfl rfl rfl h3) rfl rfl (Yv.ar rfl rfl h4 rfl) ?_; refine TS.y rfl (Yv.ar rfl rfl h3 rfl) ?_; refine TS.done ?_; refine K.seq ?_; refine T.aG rfl rfl ?_; refine T.skip (K.ab (K.seq (T.region ?_))); refine TL.y (Yv.ah rfl rfl rfl (by omega)) ?_; refine TL.run 1 rfl ?_; refine TL.nil ?_; refine K.next (k + 1) ⟨by omega, zaN hall (by simp only [mvOk, *, Bool.not_true, Bool.not_false, Bool.or_false, Bool.false_or, Bool.or_true, Bool.true_or, Bool.and_false, Bool.false_and, Bool.true_and, Bool.and_true, Bool.or_self, Bool.and_self, Bool.not_not, decide_true, decide_false, not_true_eq_false, not_false_eq_true, cond_true, cond_false])⟩ (by omega) (by repeat (first | exact Sub.nil | refine Sub.cons rfl ?_)) Sx
      · have p2 := h2; (try simp only [nfB] at p2); refine T.exit (K.aa (K.aa (K.ac (K.seq (T.sr ?_))))); refine TL.run 1 rfl ?_; refine TL.ns (T.ret ?_); refine K.al rfl rfl (fun w' hw => ⟨?_, hw.isBelow⟩); exact zag (by rw [zaY, zb7 hall (by omega)]; simp only [*, Bool.not_true, Bool.not_false, Bool.or_false, Bool.false_or, Bool.or_true, Bool.true_or, Bool.and_false, Bool.false_and, Bool.true_and, Bool.and_true, Bool.or_self, Bool.and_self, Bool.not_not, decide_true, decide_false, not_true_eq_false, not_false_eq_true, cond_true, cond_false])
def zaA : List Si → Int → Int
  | [], _ => 0
  | s :: r, id => if s.id = id then s.cap else zaA r id
theorem zeh (s : Si) (w : World) : Calls Try.prog 25 #[.agg s.cells.toArray] w fun e w' => e = .returned (.int .i64 s.id) ∧ Below w.heap.size w w' := by
  refine zaa (M := fun _ => False) (hs := []) Try.func25 rfl rfl rfl (Hp.refl _ _) ?_; simp only [Si.cells]; refine T.sr ?_; (refine TL.ew (Wt.none rfl) rfl rfl (Ew.bc rfl rfl) ?_; rintro _ _ ⟨g1, rfl, rfl⟩); refine TL.run 1 rfl ?_; refine TL.nx ?_; refine TL.y (Yv.fieldAddr rfl rfl) ?_; refine TL.y (Yv.ad 0 rfl rfl rfl rfl) ?_; refine TL.run 1 rfl ?_; refine TL.ns (T.ret ?_); refine K.al rfl rfl (fun w' hw => ⟨?_, hw.isBelow⟩)
  rfl
abbrev Pl := Bool × Int
def plV (p : Pl) : Value := .agg #[.bool p.1, .int .i64 p.2]
theorem zfw : Try.prog.stoodInHeld 62 = false := by kernel_rfl
theorem part0 (a : Bool) (i : Int) (w : World) : (part 4 #[.bool a, .int .i64 i] 0).run Try.prog w = .ok (.bool a) w := by kernel_rfl
theorem part1 (a : Bool) (i : Int) (w : World) : (part 3 #[.bool a, .int .i64 i] 1).run Try.prog w = .ok (.int .i64 i) w := by kernel_rfl
theorem eq4 (a b : Bool) (n : Nat) (w : World) : (Op.equalIn (n + 1) 4 (.bool a) (.bool b)).run Try.prog w = .ok (a == b) w := by
  unfold Op.equalIn; simp [underlying, Try.underlying4]
theorem eq3 (a b : Int) (n : Nat) (w : World) : (Op.equalIn (n + 1) 3 (.int .i64 a) (.int .i64 b)).run Try.prog w = .ok (a == b) w := by
  unfold Op.equalIn; simp [underlying, Try.underlying3]
theorem zdx (p q : Pl) (w : World) : (Op.equal 62 (plV p) (plV q)).run Try.prog w = .ok (decide (p = q)) w := by
  obtain ⟨a, i⟩ := p; obtain ⟨b, j⟩ := q; have e4 : ∀ w, (Op.equalIn 9999 4 (.bool a) (.bool b)).run Try.prog w = .ok (a == b) w := eq4 a b 9998; have e3 : ∀ w, (Op.equalIn 9999 3 (.int .i64 i) (.int .i64 j)).run Try.prog w = .ok (i == j) w := eq3 i j 9998; unfold Op.equal plV; rw [show Op.maxDepth = 9998 + 1 + 1 from rfl]; unfold Op.equalIn; simp [underlying, Try.underlying72, zfw, part0, part1, e4, e3]; by_cases h1 : a = b <;> by_cases h2 : i = j <;> simp [h1, h2]
theorem zal (e : Bool) (p : Pl) (w : World) : (Instr.checkKey e 10000 62 (plV p)).run Try.prog w = .ok () w := by
  obtain ⟨a, i⟩ := p
  cases e <;> kernel_rfl
theorem zcy (p : Pl) : Instr.sameBits 10000 (plV p) (plV p) = true := by
  obtain ⟨a, i⟩ := p; rw [show (10000 : Nat) = 9999 + 1 from rfl, plV, Instr.sameBits]; simp [Instr.sameBits]
def zae : List (Pl × Value) → Pl → Nat → Option (Nat × Value)
  | [], _, _ => none
  | (q, v) :: r, p, i => if p = q then some (i, v) else zae r p (i + 1)
def zam (kv : List (Pl × Value)) (p : Pl) : Option Value := (zae kv p 0).map (·.2)
def zar : List (Pl × Value) → Pl → Value → List (Pl × Value)
  | [], p, v => [(p, v)]
  | (q, u) :: r, p, v => if p = q then (p, v) :: r else (q, u) :: zar r p v
theorem zau : ∀ (kv : List (Pl × Value)) (p : Pl) (i : Nat), zae kv p i = (zae kv p 0).map fun x => (i + x.1, x.2)
  | [], _, _ => rfl
  | (q, v) :: r, p, i => by
    unfold zae
    split
    · simp
    · rw [zau r p (i + 1), zau r p (0 + 1)]
      cases zae r p 0 <;> simp; omega
theorem zbc (q : Pl) (v : Value) (r : List (Pl × Value)) (p : Pl) : zam ((q, v) :: r) p = if p = q then some v else zam r p := by
  have e : zae ((q, v) :: r) p 0 = if p = q then some (0, v) else zae r p 1 := rfl; unfold zam; rw [e]
  split
  · rfl
  · rw [zau r p 1]
    cases zae r p 0 <;> rfl
theorem zak : ∀ (kv : List (Pl × Value)) (p q : Pl) (v : Value), zam (zar kv p v) q = if q = p then some v else zam kv q
  | [], p, q, v => by simp [zar, zbc]
  | (r, u) :: t, p, q, v => by
    unfold zar
    split
    · rename_i h; subst h; simp only [zbc]
      split <;> rfl
    · rename_i h; simp only [zbc, zak t p q v]
      split
      · rename_i h2; subst h2; rw [if_neg (fun e => h e.symm)]
      · rfl
theorem zaJ : ∀ (kv : List (Pl × Value)) (p : Pl) (i : Nat) (v : Value), zae kv p 0 = some (i, v) → i < kv.length ∧ kv[i]? = some (p, v) ∧ ∀ u, zar kv p u = kv.set i (p, u)
  | [], _, _, _, h => by cases h
  | (q, u) :: r, p, i, v, h => by
    unfold zae at h
    split at h
    · rename_i e; subst e
      cases h
      refine ⟨by simp, by simp, fun x => by simp [zar]⟩
    · rename_i e; rw [zau] at h
      cases hf : zae r p 0 with
      | none => rw [hf] at h; cases h
      | some x =>
        rw [hf] at h; simp at h; obtain ⟨h1, h2⟩ := h; obtain ⟨a, b, c⟩ := zaJ r p x.1 x.2 (by rw [hf]); subst h1 h2; refine ⟨by simp; omega, ?_, fun y => ?_⟩
        · rw [Nat.add_comm]; simpa using b
        · rw [Nat.add_comm]; simp [zar, e, c y]
theorem zbm : ∀ (kv : List (Pl × Value)) (p : Pl), zae kv p 0 = none → ∀ u, zar kv p u = kv ++ [(p, u)]
  | [], _, _, _ => rfl
  | (q, u) :: r, p, h, x => by
    unfold zae at h
    split at h
    · cases h
    · rename_i e; rw [zau] at h
      cases hf : zae r p 0 with
      | none => simp [zar, e, zbm r p hf x]
      | some y => rw [hf] at h; cases h
def EsIs (es : Array MapEntry) (kv : List (Pl × Value)) : Prop := es.toList.map (fun e => (e.key, e.val)) = kv.map (fun q => (plV q.1, q.2))
theorem zbj (p : Pl) (w : World) : ∀ (es : List MapEntry) (kv : List (Pl × Value)) (i : Nat), es.map (fun e => (e.key, e.val)) = kv.map (fun q => (plV q.1, q.2)) →
    (Instr.findAsking 62 (plV p) es i).run Try.prog w = .ok (zae kv p i) w
  | [], [], _, _ => rfl
  | [], _ :: _, _, h => by cases h
  | _ :: _, [], _, h => by cases h
  | e :: r, (q, v) :: t, i, h => by
    simp only [List.map_cons, List.cons.injEq, Prod.mk.injEq] at h; obtain ⟨⟨h1, h2⟩, h3⟩ := h; unfold Instr.findAsking zae; simp only [Sem.run_bind, h1, zdx, Result.andThen_ok]; by_cases hp : p = q
    · simp [hp, h2]
    · simp [hp, zbj p w r t (i + 1) h3]
theorem zay (p : Pl) (w : World) (es : Array MapEntry) (kv : List (Pl × Value)) (h : EsIs es kv) : (Instr.findKey 62 (plV p) es.toList).run Try.prog w = .ok (zae kv p 0) w := by
  unfold EsIs at h; unfold Instr.findKey; (have hU : (underlying 62).run Try.prog w = .ok (.struct #[⟨"crew", 4, 0, false, "", "bandplan/tower", 0⟩, ⟨"id", 3, 1, false, "", "bandplan/tower", 8⟩]) w := by kernel_rfl); rw [Sem.run_bind, hU, Result.andThen_ok]
  cases hes : es.toList with
  | nil =>
    rw [hes] at h
    cases kv with
    | nil => rfl
    | cons _ _ => cases h
  | cons e r =>
    rw [hes] at h
    have h2 : ∀ (d : TypeDesc), d = .struct #[⟨"crew", 4, 0, false, "", "bandplan/tower", 0⟩, ⟨"id", 3, 1, false, "", "bandplan/tower", 8⟩] → Instr.findNow d (plV p) (e :: r) 0 = none := by
      rintro d rfl; unfold Instr.findNow plV
      rfl
    rw [h2 _ rfl]; exact zbj p w _ _ 0 h
@[irreducible] def Ent.mp (g : Nat) (kv : List (Pl × Value)) : Ent where
  fp := (· = g)
  ok w := ∃ es clock, w.heap[g]? = some (.map es clock) ∧ EsIs es kv ∧ (es.toList.map (·.born)).Nodup ∧ ∀ e ∈ es.toList, e.born < clock
  loc h k := by obtain ⟨es, c, h1, h2⟩ := k; exact ⟨es, c, (h g rfl).trans h1, h2⟩
  lt h k e := by subst e; obtain ⟨es, c, h1, h2⟩ := h; exact (Array.getElem?_eq_some_iff.1 h1).1
  nd h k e d := by subst e; obtain ⟨es, c, h1, h2⟩ := h; rw [h1]; simp
theorem Ent.mp_fp {g : Nat} {kv : List (Pl × Value)} {k : Nat} : (Ent.mp g kv).fp k ↔ k = g := by unfold Ent.mp; exact Iff.rfl
theorem Ent.mp_ok {g : Nat} {kv : List (Pl × Value)} {w : World} : (Ent.mp g kv).ok w ↔ ∃ es clock, w.heap[g]? = some (.map es clock) ∧ EsIs es kv ∧ (es.toList.map (·.born)).Nodup ∧ ∀ e ∈ es.toList, e.born < clock := by unfold Ent.mp; exact Iff.rfl
@[irreducible] def Ent.mpE (g : Nat) (kv : List (Pl × Value)) (p : Pl) (s : Int) : Ent where
  fp := (· = g)
  ok w := ∃ es clock, w.heap[g]? = some (.map es clock) ∧ EsIs es kv ∧ (es.toList.map (·.born)).Nodup ∧ (∀ e ∈ es.toList, e.born < clock) ∧ ∃ i v, zae kv p 0 = some (i, v) ∧ (es.toList[i]?).map (fun e => (e.born : Int)) = some s
  loc h k := by obtain ⟨es, c, h1, h2⟩ := k; exact ⟨es, c, (h g rfl).trans h1, h2⟩
  lt h k e := by subst e; obtain ⟨es, c, h1, h2⟩ := h; exact (Array.getElem?_eq_some_iff.1 h1).1
  nd h k e d := by subst e; obtain ⟨es, c, h1, h2⟩ := h; rw [h1]; simp
theorem Ent.mpE_fp {g : Nat} {kv : List (Pl × Value)} {p : Pl} {s : Int} {k : Nat} : (Ent.mpE g kv p s).fp k ↔ k = g := by unfold Ent.mpE; exact Iff.rfl
theorem Ent.mpE_ok {g : Nat} {kv : List (Pl × Value)} {p : Pl} {s : Int} {w : World} : (Ent.mpE g kv p s).ok w ↔ ∃ es clock, w.heap[g]? = some (.map es clock) ∧ EsIs es kv ∧ (es.toList.map (·.born)).Nodup ∧ (∀ e ∈ es.toList, e.born < clock) ∧ ∃ i v, zae kv p 0 = some (i, v) ∧ (es.toList[i]?).map (fun e => (e.born : Int)) = some s := by unfold Ent.mpE; exact Iff.rfl
section
variable {n : Nat} {B : World} {M : Nat → Prop} {fs : SFs} {hs : HS} {o : Oper}
theorem Ew.makeMap {t : TypeId} (ho : o.op = .makeMap t none) : Ew Try.prog n B M fs hs o (fun v hs' => ∃ g, v = .map (some g) ∧ hs' = .mp g [] :: hs) := Ew.ay fun a w ha hp => by
  refine ⟨_, _, _, ?_, Kp.alloc w (.map #[] 0), hp.fresh ((Below.refl _ _).alloc (Nat.le_refl _) (.map #[] 0)) ((Ent.mp_ok (kv := [])).2 ⟨#[], 0, zbf w _, by unfold EsIs; rfl, by simp, by simp⟩) (fun g hg => by rw [Ent.mp_fp.1 hg]; exact Nat.le_refl _), w.heap.size, rfl, rfl⟩; unfold execOp; simp [ho, Instr.makeMap]
theorem zbl {w : World} {g : Nat} {es : Array MapEntry} {c : Nat} (h : w.heap[g]? = some (.map es c)) : (getObj g).run Try.prog w = .ok (.map es c) w := by
  simp [getObj, Sem.run, h]
class MapT (t : TypeId) (e : outParam TypeId) (z : outParam Value) : Prop where
  hU : Try.prog.underlying t = some (.map 62 e)
  hz : ∀ w, (zeroValue e).run Try.prog w = .ok z w
theorem Yv.lookup (i : Nat) {t e : TypeId} {z : Value} {x y : Operand} {g : Nat} {kv : List (Pl × Value)} {p : Pl} [hT : MapT t e z] (ho : o.op = .lookup t x y false) (hx : ev fs x = some (.map (some g))) (hy : ev fs y = some (plV p)) (hi : hs[i]? = some (.mp g kv)) : Yv Try.prog n B M fs hs o ((zam kv p).getD z) := fun a w ha hw => by
  obtain ⟨es, c, h1, h2, _⟩ := Ent.mp_ok.1 (hw.get hi); unfold execOp; simp only [ho, ha.ev hx, ha.ev hy, Instr.lookup]; simp only [underlying, Sem.run_bind, run_program, Result.andThen_ok, hT.hU, Sem.run_pure, zbl h1, zal, zay p w es kv h2]; unfold zam
  cases zae kv p 0 with
  | none => simp [hT.hz]
  | some x => simp
theorem Yv.an (i : Nat) {t e : TypeId} {z v : Value} {x y : Operand} {g : Nat} {kv : List (Pl × Value)} {p : Pl} [hT : MapT t e z] (ho : o.op = .lookup t x y false) (hx : ev fs x = some (.map (some g))) (hy : ev fs y = some (plV p)) (hi : hs[i]? = some (.mp g kv)) (hg : (zam kv p).getD z = v) : Yv Try.prog n B M fs hs o v := hg ▸ Yv.lookup i ho hx hy hi
theorem Yv.bj (i : Nat) {t e : TypeId} {z v : Value} {x y : Operand} {g : Nat} {kv : List (Pl × Value)} {p q : Pl} {s : Int} [hT : MapT t e z] (ho : o.op = .lookup t x y false) (hx : ev fs x = some (.map (some g))) (hy : ev fs y = some (plV p)) (hi : hs[i]? = some (.mpE g kv q s)) (hg : (zam kv p).getD z = v) : Yv Try.prog n B M fs hs o v := fun a w ha hw => by
  subst hg; obtain ⟨es, c, h1, h2, _⟩ := Ent.mpE_ok.1 (hw.get hi); unfold execOp; simp only [ho, ha.ev hx, ha.ev hy, Instr.lookup]; simp only [underlying, Sem.run_bind, run_program, Result.andThen_ok, hT.hU, Sem.run_pure, zbl h1, zal, zay p w es kv h2]; unfold zam
  cases zae kv p 0 with
  | none => simp [hT.hz]
  | some x => simp
theorem zaz {w : World} {g : Nat} {o o' : Obj} (h : w.heap[g]? = some o) : Only (· = g) w { w with heap := w.heap.setIfInBounds g o' } ∧ ({ w with heap := w.heap.setIfInBounds g o' } : World).heap[g]? = some o' := by
  have hlt := (Array.getElem?_eq_some_iff.1 h).1; refine ⟨⟨rfl, rfl, rfl, by simp, fun k hk hn => ?_⟩, by simp [hlt]⟩
  show (w.heap.setIfInBounds g o')[k]? = _
  rw [Array.getElem?_setIfInBounds_ne (fun e => hn e.symm)]
theorem za5 {w : World} {g : Nat} {es : Array MapEntry} {c : Nat} (h : w.heap[g]? = some (.map es c)) (o' : Obj) : Kp w { w with heap := w.heap.setIfInBounds g o' } := Kp.only (zaz h).1 (fun k e d => by subst e; rw [h]; simp)
theorem zaQ {w : World} {g : Nat} {es : Array MapEntry} {c : Nat} {o' : Obj} (h : w.heap[g]? = some (.map es c)) : (setObj g o').run Try.prog w = .ok () { w with heap := w.heap.setIfInBounds g o' } := by
  simp [setObj, Sem.run, h]
theorem EsIs.modify {es : Array MapEntry} {kv : List (Pl × Value)} (h : EsIs es kv) {i : Nat} {p : Pl} {v u : Value} (hi : zae kv p 0 = some (i, v)) : EsIs (es.modify i fun e => { e with key := plV p, val := u }) (zar kv p u) ∧ ((es.modify i fun e => { e with key := plV p, val := u }).toList.map (·.born)) = es.toList.map (·.born) := by
  obtain ⟨h1, h2, h3⟩ := zaJ kv p i v hi; unfold EsIs at h ⊢; rw [h3 u, Array.toList_modify]; (have hlen : es.toList.length = kv.length := by have := congrArg List.length h; simpa using this); constructor
  · apply List.ext_getElem?; intro j; have hj := congrArg (·[j]?) h; simp only [List.getElem?_map, List.getElem?_modify, List.getElem?_set] at hj ⊢; by_cases e : i = j
    · subst e; (have hl : i < es.toList.length := by omega); simp [hl, h1] at hj ⊢; obtain ⟨a, ha, _⟩ := hj; exact ⟨a, ha⟩
    · simp only [e, if_false]; simpa using hj
  · apply List.ext_getElem?; intro j; simp only [List.getElem?_map, List.getElem?_modify]; by_cases e : i = j
    · simp [e]; cases es.toList[j]? <;> rfl
    · simp [e]
theorem EsIs.push {es : Array MapEntry} {kv : List (Pl × Value)} (h : EsIs es kv) {p : Pl} {u : Value} {c : Nat} (hi : zae kv p 0 = none) : EsIs (es.push { key := plV p, val := u, born := c }) (zar kv p u) := by
  unfold EsIs at h ⊢; rw [zbm kv p hi u]; simp [h]
theorem zc2 {es : List MapEntry} {c : Nat} (h : ∀ e ∈ es, e.born < c) : ∀ b ∈ es.map (·.born), b < c := by
  intro b hb; obtain ⟨e, he, rfl⟩ := List.mem_map.1 hb; exact h e he
theorem zbJ {es es' : List MapEntry} {c : Nat} (he : es'.map (·.born) = es.map (·.born)) (h : ∀ e ∈ es, e.born < c) : ∀ e ∈ es', e.born < c := fun e h' =>
  zc2 h e.born (by rw [← he]; exact List.mem_map_of_mem h')
theorem Ew.mapUpdate (i : Nat) {t e : TypeId} {z val : Value} {x y u : Operand} {g : Nat} {kv : List (Pl × Value)} {p : Pl} {hs' : HS} [hT : MapT t e z] (ho : o.op = .mapUpdate t x y u) (hx : ev fs x = some (.map (some g))) (hy : ev fs y = some (plV p)) (hu : ev fs u = some val) (hi : hs[i]? = some (.mp g kv))
    [hH : SetAt hs i (.mp g (zar kv p val)) hs'] : Ew Try.prog n B M fs hs o (fun v hs'' => v = undef ∧ hs'' = hs') := Ew.aI fun a w ha hw => by
  obtain ⟨es, c, h1, h2, h3, h4⟩ := Ent.mp_ok.1 (hw.get hi); rw [← hH.h]
  cases hf : zae kv p 0 with
  | none =>
    obtain ⟨o1, o2⟩ := zaz (o' := .map (es.push { key := plV p, val := val, born := c }) (c + 1)) h1; refine ⟨_, _, ?_, za5 h1 _, hw.updAt hi o1 (fun k _ hk => Ent.mp_fp.2 hk) (Ent.mp_ok.2 ⟨_, _, o2, h2.push hf, ?_, ?_⟩) (fun k hk => .inl (Ent.mp_fp.2 (Ent.mp_fp.1 hk))), rfl, rfl⟩
    · unfold execOp; simp [ho, ha.ev hx, ha.ev hy, ha.ev hu, Instr.mapUpdate, underlying, hT.hU, zbl h1, zal, zay p w es kv h2, hf, zaQ h1]
    · simp only [Array.toList_push, List.map_append, List.map_cons, List.map_nil]; rw [List.nodup_append]; refine ⟨h3, by simp, ?_⟩; intro b hb b' hb'; have := zc2 h4 b hb; simp at hb'; omega
    · intro x hx; simp at hx; rcases hx with hx | rfl
      · have := h4 x (by simpa using hx); omega
      · simp
  | some q =>
    obtain ⟨j, v0⟩ := q; obtain ⟨k1, k2, k3⟩ := zaJ kv p j v0 hf; obtain ⟨o1, o2⟩ := zaz (o' := .map (es.modify j fun e => { e with key := plV p, val := val }) c) h1; have hm := h2.modify (u := val) hf; refine ⟨_, _, ?_, za5 h1 _, hw.updAt hi o1 (fun k _ hk => Ent.mp_fp.2 hk) (Ent.mp_ok.2 ⟨_, _, o2, hm.1, by rw [hm.2]; exact h3, zbJ hm.2 h4⟩) (fun k hk => .inl (Ent.mp_fp.2 (Ent.mp_fp.1 hk))), rfl, rfl⟩
    have hkey : ((es[j]?).map (·.key)).getD (plV p) = plV p := by
      have hj := congrArg (·[j]?) h2; simp only [List.getElem?_map, k2, Array.getElem?_toList] at hj
      cases hes : es[j]? with
      | none => rfl
      | some en => rw [hes] at hj; simp at hj; simp [hj.1]
    unfold execOp; simp [ho, ha.ev hx, ha.ev hy, ha.ev hu, Instr.mapUpdate, underlying, hT.hU, zbl h1, zal, zay p w es kv h2, hf, Instr.keyThatStays, hkey, zcy, zaQ h1]
theorem Ew.mapEntry (i : Nat) {t e : TypeId} {z : Value} {x y : Operand} {g : Nat} {kv : List (Pl × Value)} {p : Pl} {hs' : Int → HS} [hT : MapT t e z] (ho : o.op = .mapEntry t x y) (hx : ev fs x = some (.map (some g))) (hy : ev fs y = some (plV p)) (hi : hs[i]? = some (.mp g kv))
    [hH : ∀ s, SetAt hs i (.mpE g (zar kv p ((zam kv p).getD z)) p s) (hs' s)] : Ew Try.prog n B M fs hs o (fun v hs'' => ∃ s, v = .tuple #[(zam kv p).getD z, .int .i64 s] ∧ hs'' = hs' s) := Ew.ay fun a w ha hw => by
  obtain ⟨es, c, h1, h2, h3, h4⟩ := Ent.mp_ok.1 (hw.get hi)
  cases hf : zae kv p 0 with
  | none =>
    (have hg : zam kv p = none := by simp [zam, hf]); obtain ⟨o1, o2⟩ := zaz (o' := .map (es.push { key := plV p, val := z, born := c }) (c + 1)) h1; refine ⟨_, { w with heap := w.heap.setIfInBounds g (.map (es.push { key := plV p, val := z, born := c }) (c + 1)) }, hs' c, ?_, za5 h1 _, ?_, c, rfl, rfl⟩
    rotate_left
    · rw [← (hH c).h, hg]; (have hlen : es.toList.length = kv.length := by have := congrArg List.length h2; simpa using this); refine hw.updAt hi o1 (fun k _ hk => Ent.mp_fp.2 hk) (Ent.mpE_ok.2 ⟨_, _, o2, h2.push hf, ?_, ?_, kv.length, z, ?_, ?_⟩) (fun k hk => .inl (Ent.mp_fp.2 (Ent.mpE_fp.1 hk)))
      · simp only [Array.toList_push, List.map_append, List.map_cons, List.map_nil]; rw [List.nodup_append]; refine ⟨h3, by simp, ?_⟩; intro b hb b' hb'; have := zc2 h4 b hb; simp at hb'; omega
      · intro x hx; simp at hx; rcases hx with hx | rfl
        · have := h4 x (by simpa using hx); omega
        · simp
      · rw [Option.getD_none, zbm kv p hf z]
        have : ∀ (l : List (Pl × Value)) (k : Nat), zae l p 0 = none → zae (l ++ [(p, z)]) p k = some (k + l.length, z) := by
          intro l
          induction l with
          | nil => intro k _; simp [zae]
          | cons a r ih =>
            intro k hn; obtain ⟨q, u⟩ := a; unfold zae at hn
            split at hn
            · cases hn
            · rename_i hne; rw [zau] at hn; (have hn' : zae r p 0 = none := by cases hr : zae r p 0 with | none => rfl | some y => rw [hr] at hn; cases hn); simp only [List.cons_append, zae, hne, if_false]; rw [ih (k + 1) hn']; simp; omega
        simpa using this kv 0 hf
      · simp [← hlen]
    · rw [hg]; unfold execOp; simp [ho, ha.ev hx, ha.ev hy, Instr.mapEntry, underlying, hT.hU, hT.hz, zbl h1, zal, zay p w es kv h2, hf, zaQ h1, goInt]
  | some q =>
    obtain ⟨j, v0⟩ := q; (have hg : zam kv p = some v0 := by simp [zam, hf]); obtain ⟨k1, k2, k3⟩ := zaJ kv p j v0 hf; (have hlen : es.toList.length = kv.length := by have := congrArg List.length h2; simpa using this); have hj := congrArg (·[j]?) h2; (have hjl : j < es.toList.length := by omega); simp only [List.getElem?_map, k2, List.getElem?_eq_getElem hjl] at hj; simp at hj; obtain ⟨o1, o2⟩ := zaz (o' := .map (es.modify j fun e => { e with key := plV p }) c) h1
    have hes : (es.modify j fun e => { e with key := plV p }) = es.modify j fun e => { e with key := plV p, val := v0 } := by
      apply Array.ext'; simp only [Array.toList_modify]; apply List.ext_getElem?; intro q; simp only [List.getElem?_modify]; by_cases e : j = q
      · subst e; (have : es.size > j := by simpa using hjl); simp [List.getElem?_eq_getElem hjl, hj.2, this]
      · simp [e]
    have hm := h2.modify (u := v0) hf; rw [hes] at o1 o2; refine ⟨_, { w with heap := w.heap.setIfInBounds g (.map (es.modify j fun e => { e with key := plV p, val := v0 }) c) }, hs' es.toList[j].born, ?_, za5 h1 _, ?_, es.toList[j].born, rfl, rfl⟩
    rotate_left
    · rw [← (hH _).h, hg]; refine hw.updAt hi o1 (fun k _ hk => Ent.mp_fp.2 hk) (Ent.mpE_ok.2 ⟨_, _, o2, hm.1, by rw [hm.2]; exact h3, zbJ hm.2 h4, j, v0, ?_, ?_⟩) (fun k hk => .inl (Ent.mp_fp.2 (Ent.mpE_fp.1 hk)))
      · rw [Option.getD_some, k3 v0]
        have : kv.set j (p, v0) = kv := by
          apply List.ext_getElem?; intro q; rw [List.getElem?_set]
          split
          · rename_i e; subst e; rw [k2]
          · rfl
        rw [this, hf]
      · have := congrArg (·[j]?) hm.2; simp only [List.getElem?_map, List.getElem?_eq_getElem hjl] at this
        cases hq : (es.modify j fun e => { e with key := plV p, val := v0 }).toList[j]? with
        | none => rw [hq] at this; simp at this
        | some en => rw [hq] at this; simp at this; simp [this]
    · rw [hg]; (have hjs : j < es.size := by simpa using hjl); (have hkey : ((es[j]?).map (·.key)).getD (plV p) = plV p := by simp [hjs, hj.1]); unfold execOp; simp only [ho, ha.ev hx, ha.ev hy, Instr.mapEntry, underlying]; simp [hT.hU, zbl h1, zal, zay p w es kv h2, hf, Instr.keyThatStays, hj.1, zcy, zaQ h1, goInt, hes, hjs]
theorem zbR : ∀ (l : List MapEntry) (i : Nat) (s : Int), (l.map (·.born)).Nodup → (l[i]?).map (fun e => (e.born : Int)) = some s → l.findIdx? (fun e => (e.born : Int) == s) = some i
  | [], _, _, _, h => by cases h
  | e :: r, 0, s, _, h => by
    simp at h; simp [List.findIdx?_cons, h]
  | e :: r, i + 1, s, hn, h => by
    simp only [List.map_cons, List.nodup_cons] at hn; simp only [List.getElem?_cons_succ] at h; have ih := zbR r i s hn.2 h
    have hne : ¬ ((e.born : Int) = s) := by
      intro he
      cases hr : r[i]? with
      | none => rw [hr] at h; cases h
      | some x =>
        rw [hr] at h; simp at h; apply hn.1; rw [List.mem_map]; exact ⟨x, List.mem_of_getElem? hr, by omega⟩
    simp [List.findIdx?_cons, hne, ih]
theorem Ew.entryStore (i : Nat) {t e : TypeId} {z val : Value} {x y u : Operand} {g : Nat} {kv : List (Pl × Value)} {p : Pl} {s : Int} {hs' : HS} [hT : MapT t e z] (ho : o.op = .entryStore t x y u) (hx : ev fs x = some (.map (some g))) (hy : ev fs y = some (.int .i64 s)) (hu : ev fs u = some val) (hi : hs[i]? = some (.mpE g kv p s))
    [hH : SetAt hs i (.mp g (zar kv p val)) hs'] : Ew Try.prog n B M fs hs o (fun v hs'' => v = undef ∧ hs'' = hs') := Ew.aI fun a w ha hw => by
  obtain ⟨es, c, h1, h2, h3, h4, j, v0, hf, hs⟩ := Ent.mpE_ok.1 (hw.get hi); rw [← hH.h]; obtain ⟨k1, k2, k3⟩ := zaJ kv p j v0 hf; (have hlen : es.toList.length = kv.length := by have := congrArg List.length h2; simpa using this); (have hjl : j < es.toList.length := by omega); have hj := congrArg (·[j]?) h2; simp only [List.getElem?_map, k2, List.getElem?_eq_getElem hjl] at hj; simp at hj; obtain ⟨o1, o2⟩ := zaz (o' := .map (es.modify j fun e => { e with val := val }) c) h1
  have hes : (es.modify j fun e => { e with val := val }) = es.modify j fun e => { e with key := plV p, val := val } := by
    apply Array.ext'; simp only [Array.toList_modify]; apply List.ext_getElem?; intro q; simp only [List.getElem?_modify]; by_cases e : j = q
    · subst e; (have : es.size > j := by simpa using hjl); simp [List.getElem?_eq_getElem hjl, hj.1, this]
    · simp [e]
  have hm := h2.modify (u := val) hf; rw [hes] at o1 o2; refine ⟨_, _, ?_, za5 h1 _, hw.updAt hi o1 (fun k _ hk => Ent.mpE_fp.2 hk) (Ent.mp_ok.2 ⟨_, _, o2, hm.1, by rw [hm.2]; exact h3, zbJ hm.2 h4⟩) (fun k hk => .inl (Ent.mpE_fp.2 (Ent.mp_fp.1 hk))), rfl, rfl⟩; have hidx := zbR es.toList j s h3 hs
  have hidx' : es.findIdx? (fun e => (e.born : Int) == s) = some j := by
    (have e : ∀ (es : Array MapEntry) (q : MapEntry → Bool), es.findIdx? q = es.toList.findIdx? q := by rintro ⟨l⟩ q; simp); rw [e]; exact hidx
  unfold execOp; simp [ho, ha.ev hx, ha.ev hy, ha.ev hu, Instr.entryStore, zbl h1, asInt, asIntOf]; simp [hidx', zaQ h1, hes]
end
instance : MapT 57 3 (.int .i64 0) := ⟨Try.underlying57, fun w => by kernel_rfl⟩
instance : MapT 60 67 (.slice none 0 0) := ⟨Try.underlying60, fun w => by kernel_rfl⟩
def zaD (xs : List Si) (id : Int) : Option Si := xs.find? fun s => decide (s.id = id)
theorem zcg {xs : List Si} {k : Nat} (h : k < xs.length) (id : Int) : zaD (xs.drop k) id = if (nth xs k).id = id then some (nth xs k) else zaD (xs.drop (k + 1)) id := by
  unfold zaD; rw [List.drop_eq_getElem_cons h, List.find?_cons, zab h]; by_cases hh : xs[k].id = id <;> simp [hh]
theorem zcG (xs : List Si) (id : Int) : zaA xs id = ((zaD xs id).map (·.cap)).getD 0 := by
  unfold zaD
  induction xs with
  | nil => rfl
  | cons s r ih =>
    rw [zaA, List.find?_cons]; by_cases h : s.id = id <;> simp [h, ih]
def sOf (xs : List Si) (key : Int) : Si := (zaD xs key).getD ⟨0, 0⟩
def capP (ts cs : List Si) (p : Pl) : Int := if p.1 = true then zaA cs p.2 else zaA ts p.2
def zaO (ts cs : List Si) (p : Pl) : Bool := if p.1 = true then (zaD cs p.2).isSome else (zaD ts p.2).isSome
def plOf (m : Mv) (i : Nat) : Pl := if i = 0 then (false, m.tw) else (true, m.cr)
def plcells (m : Mv) : List Value := [.bool false, .int .i64 m.tw, .bool true, .int .i64 m.cr]
theorem zbe (m : Mv) (i : Nat) (h : i < 2) : ((plcells m).drop (i * 2)).take 2 = [.bool (plOf m i).1, .int .i64 (plOf m i).2] := by
  match i, h with
  | 0, _ => rfl
  | 1, _ => rfl
theorem zba (m : Mv) (w : World) : Calls Try.prog 17 #[.agg m.cells.toArray] w fun e w' => e = .returned (.agg (plcells m).toArray) ∧ Below w.heap.size w w' := by
  refine zaa (M := fun _ => False) (hs := []) Try.func17 rfl rfl rfl (Hp.refl _ _) ?_; simp only [Mv.cells]; refine T.sr ?_; (refine TL.ew (Wt.none rfl) rfl rfl (Ew.bc rfl rfl) ?_; rintro _ _ ⟨g1, rfl, rfl⟩); (refine TL.ew (Wt.none rfl) rfl rfl (Ew.alloc rfl) ?_; rintro _ _ ⟨g2, rfl, rfl⟩); refine TL.nx ?_; refine TL.y (Yv.fieldAddr rfl rfl) ?_; refine TL.y (Yv.ad 1 rfl rfl rfl rfl) ?_; refine TL.y (Yv.build rfl rfl) ?_; refine TL.y (Yv.fieldAddr rfl rfl) ?_; refine TL.y (Yv.ad 1 rfl rfl rfl rfl) ?_; refine TL.y (Yv.build rfl rfl) ?_; refine TL.y (Yv.aK rfl rfl) ?_; (refine TL.ax (Wt.none rfl) rfl (Ew.ag 0 rfl rfl rfl rfl rfl rfl) ?_; rintro _ _ ⟨rfl, rfl⟩); refine TL.ns (T.ret ?_); exact K.bN 0 rfl rfl rfl rfl (fun w' hw => ⟨rfl, hw.isBelow⟩)
theorem zdJ (xs : List Si) (v : Value) (key : Int) (w : World) (h : zaG w v xs) (hl : xs.length ≤ 9223372036854775807) : Calls Try.prog 26 #[v, .int .i64 key, .func (.func 25) #[] #[]] w fun e w' => e = .returned (.tuple #[.agg [Value.int .i64 (sOf xs key).id, .int .i64 (sOf xs key).cap].toArray, .bool (zaD xs key).isSome]) ∧ Below w.heap.size w w' := by
  obtain ⟨A, cap, rfl, hsl⟩ := h.op; refine zaa (M := fun _ => False) (hs := []) Try.func26 rfl rfl rfl (Hp.refl _ _) ?_; refine T.sr ?_; (refine TL.ew (Wt.none rfl) rfl rfl (Ew.alloc rfl) ?_; rintro _ _ ⟨g6, rfl, rfl⟩); refine TL.run 1 rfl ?_; refine TL.ns (T.seq (T.sr ?_)); refine TL.run 1 rfl ?_; refine TL.y (Yv.ap rfl rfl) ?_; refine TL.run 1 rfl ?_; refine TL.ns (T.block ?_); refine T.loop (ι := Nat) (fun k => [(1, .int .i64 key), (2, .func (.func 25) #[] #[]), (6, .pointer (some ⟨g6, 0, none⟩)), (11, .slice A xs.length cap), (12, .int .i64 (xs.length : Int)), (13, .int .i64 (k : Int))]) (fun k => [.row g6 38 [.int .i64 0, .int .i64 0]]) (fun k => k ≤ xs.length ∧ zaD (xs.drop k) key = zaD xs key) (fun k => xs.length - k) 0 ?_ ?_ ?_ ?_
  · exact ⟨by omega, rfl⟩
  · exact (by repeat (first | exact Sub.nil | refine Sub.cons rfl ?_))
  · exact Sx
  · intro k hphi; obtain ⟨hkl, hall⟩ := hphi; refine T.sr ?_; refine TL.run 1 rfl ?_; refine TL.ns (T.seq ?_); refine T.cond rfl (fun h1 => ?_) (fun h1 => ?_)
    · have p1 := h1; (try simp only [nfB] at p1); obtain ⟨g, off, rfl, hc⟩ := hsl (by omega); have hk := hc k (by omega); have hk1 := hc (k - 1) (by omega); simp only [Si.cells] at hk hk1; refine T.skip (K.seq (T.seq (T.block (T.sr ?_)))); refine TL.y (Yv.ai rfl rfl rfl rfl (by omega)) ?_; refine TL.y (Yv.az rfl rfl hk rfl (fun h => h)) ?_; (refine TL.ew (Wt.none rfl) rfl rfl (Ew.alloc rfl) ?_; rintro _ _ ⟨g9, rfl, rfl⟩); (refine TL.ax (Wt.none rfl) rfl (Ew.ag 0 rfl rfl rfl rfl rfl rfl) ?_; rintro _ _ ⟨rfl, rfl⟩); refine TL.nx ?_; refine TL.run 1 rfl ?_; refine TL.y (Yv.aj 0 rfl rfl rfl rfl) ?_; (refine TL.ew (Wt.none rfl) rfl rfl (Ew.am rfl rfl rfl (fun w hw => zeh _ _)) ?_; rintro _ _ ⟨rfl, rfl⟩); refine TL.run 2 rfl ?_; refine TL.ns ?_; refine T.cond rfl (fun h2 => ?_) (fun h2 => ?_)
      · have p2 := h2; (try simp only [nfB] at p2); refine T.sr ?_; refine TL.y (Yv.aj 0 rfl rfl rfl rfl) ?_; (refine TL.ax (Wt.none rfl) rfl (Ew.ag 1 rfl rfl rfl rfl rfl rfl) ?_; rintro _ _ ⟨rfl, rfl⟩); refine TL.run 1 rfl ?_; refine TL.ns (T.ret (K.af (K.a (K.a (K.af (K.a ?_)))))); exact K.bu 1 rfl rfl rfl rfl rfl (fun w' hw => ⟨by have e : zaD xs key = some (nth xs k) := (by rw [← hall, zcg (by omega), if_pos (by assumption)]); simp [sOf, e], hw.isBelow⟩)
      · have p2 := h2; (try simp only [nfB] at p2); refine T.skip (K.ab (K.seq (T.region ?_))); refine TL.y (Yv.ah rfl rfl rfl (by omega)) ?_; refine TL.run 1 rfl ?_; refine TL.nil ?_; refine K.next (k + 1) ⟨by omega, by have e := zcg (xs := xs) (k := k) (by omega) key; rw [if_neg (by assumption)] at e; rw [← e]; exact hall⟩ (by omega) (by repeat (first | exact Sub.nil | refine Sub.cons rfl ?_)) Sx
    · have p1 := h1; (try simp only [nfB] at p1); refine T.exit (K.aa (K.aa (K.ac (K.seq (T.sr ?_))))); (refine TL.ew (Wt.none rfl) rfl rfl (Ew.alloc rfl) ?_; rintro _ _ ⟨g10, rfl, rfl⟩); refine TL.nx ?_; refine TL.y (Yv.aj 0 rfl rfl rfl rfl) ?_; (refine TL.ax (Wt.none rfl) rfl (Ew.ag 1 rfl rfl rfl rfl rfl rfl) ?_; rintro _ _ ⟨rfl, rfl⟩); refine TL.run 1 rfl ?_; refine TL.ns (T.ret ?_); exact K.bu 1 rfl rfl rfl rfl rfl (fun w' hw => ⟨by have e : zaD xs key = none := (by rw [← hall, List.drop_eq_nil_of_le (by omega)]; rfl); simp [sOf, e], hw.isBelow⟩)
structure CapInv (xs : List Mv) (ts cs : List Si) (k : Nat) (kv : List (Pl × Value)) : Prop where
  le : k ≤ xs.length
  right : ∀ p v, zam kv p = some v → v = .int .i64 (capP ts cs p)
  has : ∀ j, j < k → ∀ i, i < 2 → (zam kv (plOf (nth xs j) i)).isSome = true ∧ zaO ts cs (plOf (nth xs j) i) = true
theorem CapInv.start (xs : List Mv) (ts cs : List Si) : CapInv xs ts cs 0 [] := ⟨by omega, (fun p v h => by cases h), fun j hj => by omega⟩
theorem zcA {kv : List (Pl × Value)} {p q : Pl} {v : Value} (h : (zam kv p).isSome = true) : (zam (zar kv q v) p).isSome = true := by
  rw [zak]; split
  · rfl
  · exact h
def CapMid (xs : List Mv) (ts cs : List Si) (k i : Nat) (kv : List (Pl × Value)) : Prop :=
  CapInv xs ts cs k kv ∧ i ≤ 2 ∧ ∀ q, q < i → (zam kv (plOf (nth xs k) q)).isSome = true ∧ zaO ts cs (plOf (nth xs k) q) = true
theorem CapMid.step {xs : List Mv} {ts cs : List Si} {k i : Nat} {kv : List (Pl × Value)} (h : CapMid xs ts cs k i kv) (hi : i < 2) {c : Int} (hc : c = capP ts cs (plOf (nth xs k) i)) (hf : zaO ts cs (plOf (nth xs k) i) = true) :
    CapMid xs ts cs k (i + 1) (zar kv (plOf (nth xs k) i) (.int .i64 c)) := by
  obtain ⟨⟨h1, h2, h3⟩, h4, h5⟩ := h; refine ⟨⟨h1, fun p v hp => ?_, fun j hj q hq => ⟨zcA (h3 j hj q hq).1, (h3 j hj q hq).2⟩⟩, by omega, fun q hq => ?_⟩
  · rw [zak] at hp
    split at hp
    · rename_i e; subst e; cases hp; rw [hc]
    · exact h2 p v hp
  · rcases Nat.lt_or_ge q i with e | e
    · exact ⟨zcA (h5 q e).1, (h5 q e).2⟩
    · (obtain rfl : q = i := by omega); exact ⟨by rw [zak, if_pos rfl]; rfl, hf⟩
theorem CapMid.out {xs : List Mv} {ts cs : List Si} {k i : Nat} {kv : List (Pl × Value)} (h : CapMid xs ts cs k i kv) (hk : k < xs.length) (hi : 2 ≤ i) : CapInv xs ts cs (k + 1) kv := by
  obtain ⟨⟨h1, h2, h3⟩, h4, h5⟩ := h; refine ⟨by omega, h2, fun j hj q hq => ?_⟩; rcases Nat.lt_or_ge j k with e | e
  · exact h3 j e q hq
  · (obtain rfl : j = k := by omega); exact h5 q (by omega)
theorem CapInv.to_len {xs : List Mv} {ts cs : List Si} {k : Nat} {kv : List (Pl × Value)} (h : CapInv xs ts cs k kv) (hk : xs.length ≤ k) : CapInv xs ts cs xs.length kv := by
  (have e : k = xs.length := by have := h.le; omega); rw [← e]; exact h
theorem CapInv.mid {xs : List Mv} {ts cs : List Si} {k : Nat} {kv : List (Pl × Value)} (h : CapInv xs ts cs k kv) : CapMid xs ts cs k 0 kv := ⟨h, by omega, fun q hq => by omega⟩
def zax (xs : List Mv) (ts cs : List Si) : Bool := zaY xs && (zbk ts && zbk cs)
def zbs (xs : List Mv) (ts cs : List Si) : Bool := (List.range xs.length).all fun k => zaO ts cs (plOf (nth xs k) 0) && zaO ts cs (plOf (nth xs k) 1)
def zat (xs : List Mv) (ts cs : List Si) (ok : Bool) : Int := if (zax xs ts cs && ok) = false then 2 else if zbs xs ts cs = false then 9 else 0
def zfn (xs : List Mv) (ts cs : List Si) (ok : Bool) (w : World) (e : Ending) (w' : World) : Prop :=
  (zat xs ts cs ok ≠ 0 ∧ e = .returned (.tuple #[.map none, .int .i64 (zat xs ts cs ok)]) ∧ Below w.heap.size w w') ∨
  (zat xs ts cs ok = 0 ∧ ∃ g kv, CapInv xs ts cs xs.length kv ∧ e = .returned (.tuple #[.map (some g), .int .i64 0]) ∧ Hp w (fun _ => False) [.mp g kv] w')
theorem zav {xs : List Mv} {ts cs : List Si} {ok : Bool} (h : (zax xs ts cs && ok) = false) : zat xs ts cs ok = 2 := by simp [zat, h]
theorem zcb {xs : List Mv} {ts cs : List Si} {ok : Bool} (h : (zax xs ts cs && ok) = true) (k i : Nat) (hk : k < xs.length) (hi : i < 2) (hf : zaO ts cs (plOf (nth xs k) i) = false) : zat xs ts cs ok = 9 := by
  have : zbs xs ts cs = false := zaf k hk (by
    match i, hi with
    | 0, _ => simp [hf]
    | 1, _ => simp [hf])
  simp [zat, h, this]
theorem zes {xs : List Mv} {ts cs : List Si} {ok : Bool} (h : (zax xs ts cs && ok) = true) {kv : List (Pl × Value)} {k : Nat} (hI : CapInv xs ts cs k kv) (hk : xs.length ≤ k) : zat xs ts cs ok = 0 := by
  have : zbs xs ts cs = true := zbg fun j hj => by
    have h0 := (hI.has j (by omega) 0 (by omega)).2; have h1 := (hI.has j (by omega) 1 (by omega)).2; simp [h0, h1]
  simp [zat, h, this]
theorem zcn {ts cs : List Si} {p : Pl} {xs : List Si} (hp : xs = if p.1 = true then cs else ts) (h : (zaD xs p.2).isSome = false) : zaO ts cs p = false := by
  subst hp; unfold zaO; by_cases e : p.1 = true <;> simp [e] at h ⊢ <;> simp [h]
theorem zcC {ts cs : List Si} {p : Pl} {xs : List Si} (hp : xs = if p.1 = true then cs else ts) (h : (zaD xs p.2).isSome = true) : zaO ts cs p = true ∧ (sOf xs p.2).cap = capP ts cs p := by
  subst hp; unfold zaO capP; by_cases e : p.1 = true <;> simp [e] at h ⊢ <;> simp [h, zcG, sOf]
  all_goals (obtain ⟨s, hs⟩ := Option.isSome_iff_exists.1 h; simp [hs])
theorem zcv (xs : List Mv) (ts cs : List Si) (v vt vc : Value) (ok : Bool) (w : World) (h : zbG w v xs) (ht : zaG w vt ts) (hcr : zaG w vc cs) (hl : xs.length ≤ 9223372036854775807) (hlt : ts.length ≤ 9223372036854775807) (hlc : cs.length ≤ 9223372036854775807) : Calls Try.prog 16 #[v, vt, vc, .bool ok] w fun e w' => zfn xs ts cs ok w e w' := by
  obtain ⟨A, cap, rfl, hsl⟩ := h.op; refine zaa (M := fun _ => False) (hs := []) Try.func16 rfl rfl rfl (Hp.refl _ _) ?_; refine T.sr ?_; refine TL.run 2 rfl ?_; refine TL.ns (T.seq (T.sr ?_)); refine TL.run 1 rfl ?_; (refine TL.ew (Wt.none rfl) rfl rfl (Ew.am rfl rfl rfl (fun w hw => zcw xs _ _ (h.kept hw) hl)) ?_; rintro _ _ ⟨rfl, rfl⟩); refine TL.run 2 rfl ?_; refine TL.ao rfl rfl rfl (fun h1 => ?_) (fun h1 => ?_)
  · have p1 := h1; (try simp only [nfB] at p1); refine TL.off (Wt.not rfl rfl rfl h1) rfl rfl ?_; refine TL.off (Wt.not rfl rfl rfl h1) rfl rfl ?_; refine TL.off (Wt.not rfl rfl rfl h1) rfl rfl ?_; refine TL.y (Yv.aw rfl rfl h1 rfl) ?_; refine TL.run 9 rfl ?_; refine TL.ns ?_; refine T.aC rfl rfl ?_; refine T.sr ?_; refine TL.run 2 rfl ?_; refine TL.ns (T.ret (K.a ?_)); exact K.aH rfl rfl rfl (fun w' hw => .inl ⟨by rw [zav (by simp only [zax, *, Bool.not_true, Bool.not_false, Bool.or_false, Bool.false_or, Bool.or_true, Bool.true_or, Bool.and_false, Bool.false_and, Bool.true_and, Bool.and_true, Bool.or_self, Bool.and_self, Bool.not_not, decide_true, decide_false, not_true_eq_false, not_false_eq_true, cond_true, cond_false])]; decide, by rw [zav (by simp only [zax, *, Bool.not_true, Bool.not_false, Bool.or_false, Bool.false_or, Bool.or_true, Bool.true_or, Bool.and_false, Bool.false_and, Bool.true_and, Bool.and_true, Bool.or_self, Bool.and_self, Bool.not_not, decide_true, decide_false, not_true_eq_false, not_false_eq_true, cond_true, cond_false])], hw.isBelow⟩)
  · have p1 := h1; (try simp only [nfB] at p1); refine TL.yv (Wt.some rfl rfl rfl h1) rfl rfl (Yv.ak rfl) ?_; (refine TL.ew (Wt.some rfl rfl rfl h1) rfl rfl (Ew.am rfl rfl rfl (fun w hw => zbi ts _ _ (ht.kept hw) hlt)) ?_; rintro _ _ ⟨rfl, rfl⟩); refine TL.yv (Wt.some rfl rfl rfl h1) rfl rfl (Yv.ak rfl) ?_; refine TL.y (Yv.ar rfl rfl h1 rfl) ?_; refine TL.run 1 rfl ?_; refine TL.ao rfl rfl rfl (fun h2 => ?_) (fun h2 => ?_)
    · have p2 := h2; (try simp only [nfB] at p2); refine TL.off (Wt.not rfl rfl rfl h2) rfl rfl ?_; refine TL.off (Wt.not rfl rfl rfl h2) rfl rfl ?_; refine TL.off (Wt.not rfl rfl rfl h2) rfl rfl ?_; refine TL.y (Yv.aw rfl rfl h2 rfl) ?_; refine TL.run 4 rfl ?_; refine TL.ns ?_; refine T.aC rfl rfl ?_; refine T.sr ?_; refine TL.run 2 rfl ?_; refine TL.ns (T.ret (K.a ?_)); exact K.aH rfl rfl rfl (fun w' hw => .inl ⟨by rw [zav (by simp only [zax, *, Bool.not_true, Bool.not_false, Bool.or_false, Bool.false_or, Bool.or_true, Bool.true_or, Bool.and_false, Bool.false_and, Bool.true_and, Bool.and_true, Bool.or_self, Bool.and_self, Bool.not_not, decide_true, decide_false, not_true_eq_false, not_false_eq_true, cond_true, cond_false])]; decide, by rw [zav (by simp only [zax, *, Bool.not_true, Bool.not_false, Bool.or_false, Bool.false_or, Bool.or_true, Bool.true_or, Bool.and_false, Bool.false_and, Bool.true_and, Bool.and_true, Bool.or_self, Bool.and_self, Bool.not_not, decide_true, decide_false, not_true_eq_false, not_false_eq_true, cond_true, cond_false])], hw.isBelow⟩)
    · have p2 := h2; (try simp only [nfB] at p2); refine TL.yv (Wt.some rfl rfl rfl h2) rfl rfl (Yv.ak rfl) ?_; (refine TL.ew (Wt.some rfl rfl rfl h2) rfl rfl (Ew.am rfl rfl rfl (fun w hw => zbi cs _ _ (hcr.kept hw) hlc)) ?_; rintro _ _ ⟨rfl, rfl⟩); refine TL.yv (Wt.some rfl rfl rfl h2) rfl rfl (Yv.ak rfl) ?_; refine TL.y (Yv.ar rfl rfl h2 rfl) ?_; refine TL.run 1 rfl ?_; refine TL.ao rfl rfl rfl (fun h3 => ?_) (fun h3 => ?_)
      · have p3 := h3; (try simp only [nfB] at p3); refine TL.off (Wt.not rfl rfl rfl h3) rfl rfl ?_; refine TL.off (Wt.not rfl rfl rfl h3) rfl rfl ?_; refine TL.y (Yv.aw rfl rfl h3 rfl) ?_; refine TL.ns ?_; refine T.aC rfl rfl ?_; refine T.sr ?_; refine TL.run 2 rfl ?_; refine TL.ns (T.ret (K.a ?_)); exact K.aH rfl rfl rfl (fun w' hw => .inl ⟨by rw [zav (by simp only [zax, *, Bool.not_true, Bool.not_false, Bool.or_false, Bool.false_or, Bool.or_true, Bool.true_or, Bool.and_false, Bool.false_and, Bool.true_and, Bool.and_true, Bool.or_self, Bool.and_self, Bool.not_not, decide_true, decide_false, not_true_eq_false, not_false_eq_true, cond_true, cond_false])]; decide, by rw [zav (by simp only [zax, *, Bool.not_true, Bool.not_false, Bool.or_false, Bool.false_or, Bool.or_true, Bool.true_or, Bool.and_false, Bool.false_and, Bool.true_and, Bool.and_true, Bool.or_self, Bool.and_self, Bool.not_not, decide_true, decide_false, not_true_eq_false, not_false_eq_true, cond_true, cond_false])], hw.isBelow⟩)
      · have p3 := h3; (try simp only [nfB] at p3); refine TL.yv (Wt.some rfl rfl rfl h3) rfl rfl (Yv.ak rfl) ?_; refine TL.yv (Wt.some rfl rfl rfl h3) rfl rfl (Yv.ak rfl) ?_; refine TL.y (Yv.ar rfl rfl h3 rfl) ?_; refine TL.ns ?_; refine T.cond rfl (fun h4 => ?_) (fun h4 => ?_)
        · have p4 := h4; (try simp only [nfB] at p4); refine T.sr ?_; refine TL.run 2 rfl ?_; refine TL.ns (T.ret (K.a ?_)); exact K.aH rfl rfl rfl (fun w' hw => .inl ⟨by rw [zav (by simp only [zax, *, Bool.not_true, Bool.not_false, Bool.or_false, Bool.false_or, Bool.or_true, Bool.true_or, Bool.and_false, Bool.false_and, Bool.true_and, Bool.and_true, Bool.or_self, Bool.and_self, Bool.not_not, decide_true, decide_false, not_true_eq_false, not_false_eq_true, cond_true, cond_false])]; decide, by rw [zav (by simp only [zax, *, Bool.not_true, Bool.not_false, Bool.or_false, Bool.false_or, Bool.or_true, Bool.true_or, Bool.and_false, Bool.false_and, Bool.true_and, Bool.and_true, Bool.or_self, Bool.and_self, Bool.not_not, decide_true, decide_false, not_true_eq_false, not_false_eq_true, cond_true, cond_false])], hw.isBelow⟩)
        · have p4 := h4; (try simp only [nfB] at p4); refine T.skip (K.seq (T.sr ?_)); refine TL.run 1 rfl ?_; refine TL.nx ?_; (refine TL.ew (Wt.none rfl) rfl rfl (Ew.makeMap rfl) ?_; rintro _ _ ⟨g36, rfl, rfl⟩); refine TL.run 1 rfl ?_; refine TL.ns (T.seq (T.sr ?_)); refine TL.run 1 rfl ?_; refine TL.y (Yv.ap rfl rfl) ?_; refine TL.run 1 rfl ?_; refine TL.ns (T.block ?_); refine T.loop (ι := Nat × List (Pl × Value)) (fun x => [(1, vt), (2, vc), (10, .func (.func 25) #[] #[]), (11, .map (some g36)), (37, .slice A xs.length cap), (38, .int .i64 (xs.length : Int)), (39, .int .i64 (x.1 : Int))]) (fun x => [.mp g36 x.2]) (fun x => CapInv xs ts cs x.1 x.2) (fun x => xs.length - x.1) (0, []) ?_ ?_ ?_ ?_
          · exact CapInv.start xs ts cs
          · exact (by repeat (first | exact Sub.nil | refine Sub.cons rfl ?_))
          · exact Sx
          · intro x hphi; obtain ⟨k, kv⟩ := x; dsimp only at hphi ⊢; have hkl := hphi.le; refine T.sr ?_; refine TL.run 1 rfl ?_; refine TL.ns (T.seq ?_); refine T.cond rfl (fun h5 => ?_) (fun h5 => ?_)
            · have p5 := h5; (try simp only [nfB] at p5); obtain ⟨g, off, rfl, hc⟩ := hsl (by omega); have hk := hc k (by omega); have hk1 := hc (k - 1) (by omega); simp only [Mv.cells] at hk hk1; refine T.skip (K.seq (T.seq (T.block (T.sr ?_)))); refine TL.y (Yv.ai rfl rfl rfl rfl (by omega)) ?_; refine TL.y (Yv.az rfl rfl hk rfl (fun h => h)) ?_; (refine TL.ew (Wt.none rfl) rfl rfl (Ew.alloc rfl) ?_; rintro _ _ ⟨g13, rfl, rfl⟩); (refine TL.ax (Wt.none rfl) rfl (Ew.ag 0 rfl rfl rfl rfl rfl rfl) ?_; rintro _ _ ⟨rfl, rfl⟩); refine TL.nx ?_; refine TL.y (Yv.aj 0 rfl rfl rfl rfl) ?_; (refine TL.ew (Wt.none rfl) rfl rfl (Ew.am rfl rfl rfl (fun w hw => zba _ _)) ?_; rintro _ _ ⟨rfl, rfl⟩); refine TL.run 1 rfl ?_; refine TL.ns (T.block ?_); refine T.loop (ι := Nat × List (Pl × Value)) (fun y => [(1, vt), (2, vc), (10, .func (.func 25) #[] #[]), (11, .map (some g36)), (37, .slice (some ⟨g, off, none⟩) xs.length cap), (38, .int .i64 (xs.length : Int)), (39, .int .i64 (k : Int)), (44, .agg (plcells (nth xs k)).toArray), (45, .int .i64 (y.1 : Int))]) (fun y => [.mp g36 y.2]) (fun y => CapMid xs ts cs k y.1 y.2) (fun y => 2 - y.1) (0, kv) ?_ ?_ ?_ ?_
              · exact hphi.mid
              · exact (by repeat (first | exact Sub.nil | refine Sub.cons rfl ?_))
              · exact Sx
              · intro y hphi; obtain ⟨i, kv⟩ := y; dsimp only at hphi ⊢; have hil := hphi.2.1; refine T.sr ?_; refine TL.run 1 rfl ?_; refine TL.ns (T.seq ?_); refine T.cond rfl (fun h6 => ?_) (fun h6 => ?_)
                · have p6 := h6; (try simp only [nfB] at p6); have hpl := zbe (nth xs k) i (by omega); refine T.skip (K.seq (T.seq (T.block (T.sr ?_)))); refine TL.y (Yv.aN rfl rfl rfl rfl (by omega) hpl) ?_; (refine TL.ew (Wt.none rfl) rfl rfl (Ew.alloc rfl) ?_; rintro _ _ ⟨g15, rfl, rfl⟩); (refine TL.ax (Wt.none rfl) rfl (Ew.ag 0 rfl rfl rfl rfl rfl rfl) ?_; rintro _ _ ⟨rfl, rfl⟩); refine TL.nx ?_; refine TL.run 2 rfl ?_; refine TL.ns (T.seq (T.sr ?_)); refine TL.y (Yv.fieldAddr rfl rfl) ?_; refine TL.y (Yv.ad 0 rfl rfl rfl rfl) ?_; refine TL.ns ?_; refine T.cond rfl (fun h7 => ?_) (fun h7 => ?_)
                  · have p7 := h7; (try simp only [nfB] at p7); refine T.region ?_; refine TL.run 2 rfl ?_; refine TL.nx ?_; refine TL.run 1 rfl ?_; refine TL.y (Yv.fieldAddr rfl rfl) ?_; refine TL.y (Yv.ad 0 rfl rfl rfl rfl) ?_; refine TL.run 1 rfl ?_; (refine TL.ew (Wt.none rfl) rfl rfl (Ew.am rfl rfl rfl (fun w hw => zdJ _ _ _ _ (hcr.kept hw) hlc)) ?_; rintro _ _ ⟨rfl, rfl⟩); refine TL.run 3 rfl ?_; (refine TL.ew (Wt.none rfl) rfl rfl (Ew.alloc rfl) ?_; rintro _ _ ⟨g17, rfl, rfl⟩); (refine TL.ax (Wt.none rfl) rfl (Ew.ag 0 rfl rfl rfl rfl rfl rfl) ?_; rintro _ _ ⟨rfl, rfl⟩); refine TL.run 1 rfl ?_; refine TL.ns (T.seq (T.sr ?_)); refine TL.run 2 rfl ?_; refine TL.ns ?_; refine T.cond rfl (fun h8 => ?_) (fun h8 => ?_)
                    · have p8 := h8; (try simp only [nfB] at p8); refine T.sr ?_; refine TL.run 2 rfl ?_; refine TL.ns (T.ret (K.a (K.af (K.a (K.a (K.af (K.af (K.a (K.a (K.af (K.a ?_))))))))))); have e9 := zcb (xs := xs) (ts := ts) (cs := cs) (ok := ok) (by simp only [zax, *, Bool.not_true, Bool.not_false, Bool.or_false, Bool.false_or, Bool.or_true, Bool.true_or, Bool.and_false, Bool.false_and, Bool.true_and, Bool.and_true, Bool.or_self, Bool.and_self, Bool.not_not, decide_true, decide_false, not_true_eq_false, not_false_eq_true, cond_true, cond_false]) k i (by omega) (by omega) (zcn (ts := ts) (cs := cs) (p := plOf (nth xs k) i) (xs := cs) (by simp only [*]; rfl) (by assumption)); exact K.aH rfl rfl rfl (fun w' hw => .inl ⟨by rw [e9]; decide, by rw [e9], hw.isBelow⟩)
                    · have p8 := h8; (try simp only [nfB] at p8); refine T.skip (K.seq (T.region ?_)); refine TL.run 1 rfl ?_; refine TL.y (Yv.aj 1 rfl rfl rfl rfl) ?_; refine TL.y (Yv.fieldAddr rfl rfl) ?_; refine TL.y (Yv.ad 0 rfl rfl rfl rfl) ?_; (refine TL.ax (Wt.none rfl) rfl (Ew.mapUpdate 2 rfl rfl rfl rfl rfl) ?_; rintro _ _ ⟨rfl, rfl⟩); refine TL.nil (K.ab (K.seq (T.region ?_))); refine TL.y (Yv.ah rfl rfl rfl (by omega)) ?_; refine TL.run 1 rfl ?_; refine TL.nil ?_; have hx := zcC (ts := ts) (cs := cs) (p := plOf (nth xs k) i) (xs := cs) (by simp only [*]; rfl) (by assumption); exact K.next (i + 1, zar kv (plOf (nth xs k) i) (.int .i64 (sOf cs (plOf (nth xs k) i).2).cap)) (hphi.step (by omega) hx.2 hx.1) (by show 2 - (i + 1) < 2 - i; omega) (by repeat (first | exact Sub.nil | refine Sub.cons rfl ?_)) Sx
                  · have p7 := h7; (try simp only [nfB] at p7); refine T.skip (K.seq (T.sr ?_)); refine TL.run 1 rfl ?_; refine TL.y (Yv.fieldAddr rfl rfl) ?_; refine TL.y (Yv.ad 0 rfl rfl rfl rfl) ?_; refine TL.run 1 rfl ?_; (refine TL.ew (Wt.none rfl) rfl rfl (Ew.am rfl rfl rfl (fun w hw => zdJ _ _ _ _ (ht.kept hw) hlt)) ?_; rintro _ _ ⟨rfl, rfl⟩); refine TL.run 3 rfl ?_; (refine TL.ew (Wt.none rfl) rfl rfl (Ew.alloc rfl) ?_; rintro _ _ ⟨g17, rfl, rfl⟩); (refine TL.ax (Wt.none rfl) rfl (Ew.ag 0 rfl rfl rfl rfl rfl rfl) ?_; rintro _ _ ⟨rfl, rfl⟩); refine TL.run 1 rfl ?_; refine TL.ns (T.seq (T.sr ?_)); refine TL.run 2 rfl ?_; refine TL.ns ?_; refine T.cond rfl (fun h9 => ?_) (fun h9 => ?_)
                    · have p9 := h9; (try simp only [nfB] at p9); refine T.sr ?_; refine TL.run 2 rfl ?_; refine TL.ns (T.ret (K.a (K.af (K.a (K.a (K.af (K.af (K.a (K.a (K.af (K.a ?_))))))))))); have e9 := zcb (xs := xs) (ts := ts) (cs := cs) (ok := ok) (by simp only [zax, *, Bool.not_true, Bool.not_false, Bool.or_false, Bool.false_or, Bool.or_true, Bool.true_or, Bool.and_false, Bool.false_and, Bool.true_and, Bool.and_true, Bool.or_self, Bool.and_self, Bool.not_not, decide_true, decide_false, not_true_eq_false, not_false_eq_true, cond_true, cond_false]) k i (by omega) (by omega) (zcn (ts := ts) (cs := cs) (p := plOf (nth xs k) i) (xs := ts) (by simp only [*]; rfl) (by assumption)); exact K.aH rfl rfl rfl (fun w' hw => .inl ⟨by rw [e9]; decide, by rw [e9], hw.isBelow⟩)
                    · have p9 := h9; (try simp only [nfB] at p9); refine T.skip (K.seq (T.region ?_)); refine TL.run 1 rfl ?_; refine TL.y (Yv.aj 1 rfl rfl rfl rfl) ?_; refine TL.y (Yv.fieldAddr rfl rfl) ?_; refine TL.y (Yv.ad 0 rfl rfl rfl rfl) ?_; (refine TL.ax (Wt.none rfl) rfl (Ew.mapUpdate 2 rfl rfl rfl rfl rfl) ?_; rintro _ _ ⟨rfl, rfl⟩); refine TL.nil (K.ab (K.seq (T.region ?_))); refine TL.y (Yv.ah rfl rfl rfl (by omega)) ?_; refine TL.run 1 rfl ?_; refine TL.nil ?_; have hx := zcC (ts := ts) (cs := cs) (p := plOf (nth xs k) i) (xs := ts) (by simp only [*]; rfl) (by assumption); exact K.next (i + 1, zar kv (plOf (nth xs k) i) (.int .i64 (sOf ts (plOf (nth xs k) i).2).cap)) (hphi.step (by omega) hx.2 hx.1) (by show 2 - (i + 1) < 2 - i; omega) (by repeat (first | exact Sub.nil | refine Sub.cons rfl ?_)) Sx
                · have p6 := h6; (try simp only [nfB] at p6); refine T.exit (K.aa (K.aa (K.ac (K.ab (K.seq (T.region ?_)))))); refine TL.y (Yv.ah rfl rfl rfl (by omega)) ?_; refine TL.run 1 rfl ?_; refine TL.nil ?_; refine K.next (k + 1, kv) (hphi.out (by omega) (by omega)) (by show xs.length - (k + 1) < xs.length - k; omega) (by repeat (first | exact Sub.nil | refine Sub.cons rfl ?_)) Sx
            · have p5 := h5; (try simp only [nfB] at p5); refine T.exit (K.aa (K.aa (K.ac (K.seq (T.sr ?_))))); refine TL.run 3 rfl ?_; refine TL.ns (T.ret ?_); exact K.aH rfl rfl rfl (fun w' hw => .inr ⟨zes (by simp only [zax, *, Bool.not_true, Bool.not_false, Bool.or_false, Bool.false_or, Bool.or_true, Bool.true_or, Bool.and_false, Bool.false_and, Bool.true_and, Bool.and_true, Bool.or_self, Bool.and_self, Bool.not_not, decide_true, decide_false, not_true_eq_false, not_false_eq_true, cond_true, cond_false]) hphi (by omega), g36, kv, hphi.to_len (by omega), rfl, hw⟩)
end Go.Proofs.Ytlfalfmebomfbaa
namespace Go.Proofs.Ytlfalfmebomfbaa
def hp (xs : List Mv) (s : Nat) : Pl := plOf (nth xs (s / 2)) (s % 2)
def SS (xs : List Mv) (f : Mv → Int) : Nat → Pl → Int
  | 0, _ => 0
  | s + 1, q => SS xs f s q + if hp xs s = q then f (nth xs (s / 2)) else 0
def RT (xs : List Mv) (f : Mv → Int) : Nat → Int → Int
  | 0, _ => 0
  | n + 1, id => RT xs f n id + if (nth xs n).tw = id then f (nth xs n) else 0
def RC (xs : List Mv) (f : Mv → Int) : Nat → Int → Int
  | 0, _ => 0
  | n + 1, id => RC xs f n id + if (nth xs n).cr = id then f (nth xs n) else 0
def RP (xs : List Mv) (f : Mv → Int) (n : Nat) (q : Pl) : Int := if q.1 = true then RC xs f n q.2 else RT xs f n q.2
theorem zcO (xs : List Mv) (k : Nat) : hp xs (2 * k) = plOf (nth xs k) 0 := by
  unfold hp; rw [show 2 * k / 2 = k from by omega, show 2 * k % 2 = 0 from by omega]
theorem zdN (xs : List Mv) (k : Nat) : hp xs (2 * k + 1) = plOf (nth xs k) 1 := by
  unfold hp; rw [show (2 * k + 1) / 2 = k from by omega, show (2 * k + 1) % 2 = 1 from by omega]
theorem zeJ (xs : List Mv) (k i : Nat) (hi : i < 2) : hp xs (2 * k + i) = plOf (nth xs k) i := by
  match i, hi with
  | 0, _ => exact zcO xs k
  | 1, _ => exact zdN xs k
theorem zez (m : Mv) : plOf m 0 = (false, m.tw) := rfl
theorem zeN (m : Mv) : plOf m 1 = (true, m.cr) := rfl
theorem zeB (xs : List Mv) (f : Mv → Int) : ∀ (n : Nat) (q : Pl), SS xs f (2 * n) q = RP xs f n q
  | 0, q => by simp [SS, RP, RT, RC]
  | n + 1, q => by
    rw [show 2 * (n + 1) = 2 * n + 1 + 1 from by omega, SS, SS, zeB xs f n q, zcO, zdN, zez, zeN, show (2 * n + 1) / 2 = n from by omega, show 2 * n / 2 = n from by omega]; obtain ⟨b, id⟩ := q
    cases b
    · simp [RP, RT]
    · simp [RP, RC]
section
variable {xs : List Mv} {f : Mv → Int} (hf : ∀ j, j < xs.length → 0 ≤ f (nth xs j))
include hf
theorem ze9 : ∀ (n m : Nat), m ≤ n → n ≤ 2 * xs.length → ∀ q, SS xs f m q ≤ SS xs f n q
  | 0, m, h, _, q => by rw [show m = 0 from by omega]; exact Int.le_refl _
  | n + 1, m, h, hn, q => by
    rcases Nat.lt_or_ge n m with e | e
    · rw [show m = n + 1 from by omega]; exact Int.le_refl _
    · have h1 := ze9 n m e (by omega) q; have h2 := hf (n / 2) (by omega); rw [SS]
      split <;> omega
theorem zcU : ∀ (n : Nat), n ≤ 2 * xs.length → ∀ t, t < n → ∃ s, t ≤ s ∧ s < n ∧ hp xs s = hp xs t ∧ SS xs f (s + 1) (hp xs t) = SS xs f n (hp xs t)
  | 0, _, t, ht => by omega
  | n + 1, hn, t, ht => by
    by_cases e : hp xs n = hp xs t
    · exact ⟨n, by omega, by omega, e, rfl⟩
    · have htn : t < n := by
        rcases Nat.lt_or_ge t n with h | h
        · exact h
        · (have : t = n := by omega); subst this; exact absurd rfl e
      obtain ⟨s, h1, h2, h3, h4⟩ := zcU n (by omega) t htn; refine ⟨s, h1, by omega, h3, ?_⟩; rw [h4]
      show _ = SS xs f n (hp xs t) + _
      rw [if_neg e]; omega
theorem zeL (c : Pl → Int) : (∀ s, s < 2 * xs.length → SS xs f (s + 1) (hp xs s) ≤ c (hp xs s)) ↔ (∀ s, s < 2 * xs.length → SS xs f (2 * xs.length) (hp xs s) ≤ c (hp xs s)) := by
  constructor
  · intro h s hs; obtain ⟨t, h1, h2, h3, h4⟩ := zcU hf (2 * xs.length) (by omega) s hs; rw [← h4, ← h3]; exact h t h2
  · intro h s hs; exact Int.le_trans (ze9 hf _ _ (by omega) (by omega) _) (h s hs)
end
def zdE (a c : Int) : Int := (a + c - 1) / c
theorem ze4 {a b c : Int} (hc : 1 ≤ c) (h : a ≤ b) : zdE a c ≤ zdE b c := Int.ediv_le_ediv (by omega) (by omega)
def mx (g : Nat → Int) : Nat → Int
  | 0 => 0
  | n + 1 => max (mx g n) (g n)
theorem zfx (g : Nat → Int) : ∀ n k, k < n → g k ≤ mx g n
  | 0, k, h => by omega
  | n + 1, k, h => by
    rw [mx]; rcases Nat.lt_or_ge k n with e | e
    · have := zfx g n k e; omega
    · (obtain rfl : k = n := by omega); omega
theorem zdh (g : Nat → Int) : ∀ n, 0 ≤ mx g n
  | 0 => Int.le_refl _
  | n + 1 => by have := zdh g n; rw [mx]; omega
theorem zfJ (g : Nat → Int) (b : Int) (hb : 0 ≤ b) : ∀ n, (∀ k, k < n → g k ≤ b) → mx g n ≤ b
  | 0, _ => hb
  | n + 1, h => by
    have h1 := zfJ g b hb n (fun k hk => h k (by omega)); have h2 := h n (by omega); rw [mx]; omega
end Go.Proofs.Ytlfalfmebomfbaa
namespace Go.Proofs.Ytlfalfmebomfbaa
open Go.RowKit
theorem zb3 {xs : List Mv} {ts cs : List Si} {ok : Bool} (h : zat xs ts cs ok = 0) : zax xs ts cs = true ∧ ok = true ∧ zbs xs ts cs = true := by
  unfold zat at h
  split at h
  · omega
  · rename_i h1
    split at h
    · omega
    · rename_i h2; simp at h1 h2; exact ⟨h1.1, h1.2, h2⟩
theorem zaU (xs : List Mv) (ts cs : List Si) (v vt vc : Value) (ok : Bool) (w : World) (h : zbG w v xs) (ht : zaG w vt ts) (hcr : zaG w vc cs) (hl : xs.length ≤ 9223372036854775807) (hlt : ts.length ≤ 9223372036854775807) (hlc : cs.length ≤ 9223372036854775807) (hco : zat xs ts cs ok = 0) :
    Calls Try.prog 16 #[v, vt, vc, .bool ok] w fun e w' => ∃ x : Nat × List (Pl × Value), CapInv xs ts cs xs.length x.2 ∧ e = .returned (.tuple #[.map (some x.1), .int .i64 0]) ∧ Hp w (fun _ => False) [.mp x.1 x.2] w' :=
  (zcv xs ts cs v vt vc ok w h ht hcr hl hlt hlc).mono fun e w' hp => hp.elim (fun x => absurd hco x.1) (fun ⟨_, g, kv, h1, h2, h3⟩ => ⟨(g, kv), h1, h2, h3⟩)
theorem zeO {xs : List Si} {k : Nat} (h : siOk xs k = true) : 1 ≤ (nth xs k).cap ∧ (nth xs k).cap ≤ 64 := by
  simp only [siOk, Bool.not_eq_true', Bool.or_eq_false_iff, decide_eq_false_iff_not] at h; omega
theorem zc7 {xs : List Si} {id : Int} (h : zbk xs = true) (hf : (zaD xs id).isSome = true) : 1 ≤ zaA xs id ∧ zaA xs id ≤ 64 := by
  obtain ⟨s, hs⟩ := Option.isSome_iff_exists.1 hf; rw [zcG, hs]; unfold zaD at hs; obtain ⟨k, hk, e⟩ := List.mem_iff_getElem.1 (List.mem_of_find?_eq_some hs); unfold zbk at h; have := zeO (List.all_eq_true.1 h k (by simpa using hk)); rw [zab hk, e] at this; exact this
theorem zd2 {ts cs : List Si} {p : Pl} (h1 : zbk ts = true) (h2 : zbk cs = true) (hf : zaO ts cs p = true) : 1 ≤ capP ts cs p ∧ capP ts cs p ≤ 64 := by
  unfold zaO at hf; unfold capP; by_cases e : p.1 = true
  · rw [if_pos e] at hf ⊢; exact zc7 h2 hf
  · rw [if_neg e] at hf ⊢; exact zc7 h1 hf
theorem zdy {xs : List Mv} {ts cs : List Si} (h : zbs xs ts cs = true) (s : Nat) (hs : s < 2 * xs.length) : zaO ts cs (hp xs s) = true := by
  have := List.all_eq_true.1 h (s / 2) (by simp; omega); simp only [Bool.and_eq_true] at this; unfold hp; rcases (by omega : s % 2 = 0 ∨ s % 2 = 1) with e | e
  · rw [e]; exact this.1
  · rw [e]; exact this.2
def one : Mv → Int := fun _ => 1
theorem zdg (xs : List Mv) : ∀ (s : Nat) (q : Pl), SS xs one s q ≤ s ∧ 0 ≤ SS xs one s q
  | 0, q => by simp [SS]
  | s + 1, q => by
    have := zdg xs s q; have e1 : one (nth xs (s / 2)) = 1 := rfl; rw [SS, e1]
    split <;> omega
structure FitInv (xs : List Mv) (ts cs : List Si) (s : Nat) (kv : List (Pl × Value)) : Prop where
  left : ∀ t, t < 2 * xs.length → zam kv (hp xs t) = some (.int .i64 (capP ts cs (hp xs t) - SS xs one s (hp xs t)))
  good : ∀ t, t < s → SS xs one (t + 1) (hp xs t) ≤ capP ts cs (hp xs t)
theorem FitInv.start {xs : List Mv} {ts cs : List Si} {kv : List (Pl × Value)} (h : CapInv xs ts cs xs.length kv) : FitInv xs ts cs 0 kv := by
  refine ⟨fun t ht => ?_, fun t ht => by omega⟩; have h1 := (h.has (t / 2) (by omega) (t % 2) (by omega)).1; obtain ⟨v, hv⟩ := Option.isSome_iff_exists.1 h1; have h2 := h.right _ v hv; subst h2; unfold hp; rw [hv]; simp [SS]
theorem FitInv.get {xs : List Mv} {ts cs : List Si} {k i : Nat} {kv : List (Pl × Value)} (h : FitInv xs ts cs (2 * k + i) kv) (hk : k < xs.length) (hi : i < 2) (hx : xs.length ≤ 512) (hcap : ∀ s, s < 2 * xs.length → 1 ≤ capP ts cs (hp xs s) ∧ capP ts cs (hp xs s) ≤ 64) :
    ∃ c : Int, c = capP ts cs (plOf (nth xs k) i) - SS xs one (2 * k + i) (plOf (nth xs k) i) ∧ zam kv (plOf (nth xs k) i) = some (.int .i64 c) ∧ -2000 ≤ c ∧ c ≤ 64 := by
  have h1 := h.left (2 * k + i) (by omega); have h2 := hcap (2 * k + i) (by omega); have h3 := zdg xs (2 * k + i) (plOf (nth xs k) i); rw [zeJ xs k i hi] at h1 h2; exact ⟨_, rfl, h1, by omega, by omega⟩
theorem FitInv.step {xs : List Mv} {ts cs : List Si} {k i : Nat} {kv : List (Pl × Value)} (h : FitInv xs ts cs (2 * k + i) kv) (hk : k < xs.length) (hi : i < 2) {c : Int} (hc : c = capP ts cs (plOf (nth xs k) i) - SS xs one (2 * k + i) (plOf (nth xs k) i)) (hc0 : 0 ≤ c - 1) (u : Value) :
    FitInv xs ts cs (2 * k + i + 1) (zar (zar kv (plOf (nth xs k) i) u) (plOf (nth xs k) i) (.int .i64 (c - 1))) := by
  have hpk := zeJ xs k i hi; (have hd : (2 * k + i) / 2 = k := by omega); refine ⟨fun t ht => ?_, fun t ht => ?_⟩
  · rw [zak, SS, hpk]; by_cases e : hp xs t = plOf (nth xs k) i
    · rw [if_pos e, e, if_pos rfl, hc]; simp only [one]
      congr 2
      omega
    · rw [if_neg e, zak, if_neg e, if_neg (fun x => e x.symm), h.left t ht]
      congr 2
      omega
  · rcases Nat.lt_or_ge t (2 * k + i) with e | e
    · exact h.good t e
    · (obtain rfl : t = 2 * k + i := by omega); rw [SS, hpk, if_pos rfl]; simp only [one]; omega
def zd8 (xs : List Mv) (ts cs : List Si) : Bool := (List.range (2 * xs.length)).all fun s => decide (SS xs one (2 * xs.length) (hp xs s) ≤ capP ts cs (hp xs s))
theorem zd1 {xs : List Mv} {ts cs : List Si} {s : Nat} {kv : List (Pl × Value)} (h : FitInv xs ts cs s kv) (hs : 2 * xs.length ≤ s) : zd8 xs ts cs = true := by
  refine zbg fun t ht => decide_eq_true ?_; exact (zeL (fun _ _ => by simp [one]) (fun q => capP ts cs q)).1 (fun r hr => h.good r (by omega)) t ht
theorem zca {xs : List Mv} {ts cs : List Si} {k i : Nat} (hk : k < xs.length) (hi : i < 2) {c : Int} (hc : c = capP ts cs (plOf (nth xs k) i) - SS xs one (2 * k + i) (plOf (nth xs k) i)) (hc0 : c - 1 < 0) : zd8 xs ts cs = false := by
  have hpk := zeJ xs k i hi; refine zaf (2 * k + i) (by omega) (decide_eq_false fun h => ?_); have h1 := ze9 (xs := xs) (f := one) (fun _ _ => by simp [one]) (2 * xs.length) (2 * k + i + 1) (by omega) (by omega) (hp xs (2 * k + i)); rw [SS, if_pos rfl] at h1; rw [hpk] at h h1; simp only [one] at h1; omega
theorem zdr {xs : List Mv} (h : zaY xs = true) : xs.length ≤ 512 := by
  simp only [zaY, Bool.and_eq_true, decide_eq_true_eq] at h; omega
theorem zaR {xs : List Mv} {ts cs : List Si} {ok : Bool} (h : zat xs ts cs ok = 0) : xs.length ≤ 512 ∧ ∀ s, s < 2 * xs.length → 1 ≤ capP ts cs (hp xs s) ∧ capP ts cs (hp xs s) ≤ 64 := by
  obtain ⟨h1, h2, h3⟩ := zb3 h; simp only [zax, Bool.and_eq_true] at h1; exact ⟨zdr h1.1, fun s hs => zd2 h1.2.1 h1.2.2 (zdy h3 s hs)⟩
theorem zdw (xs : List Mv) (ts cs : List Si) (v vt vc : Value) (limit : Int) (w : World) (h : zbG w v xs) (ht : zaG w vt ts) (hcr : zaG w vc cs) (hl : xs.length ≤ 9223372036854775807) (hlt : ts.length ≤ 9223372036854775807) (hlc : cs.length ≤ 9223372036854775807) (hco : zat xs ts cs (decide (0 ≤ limit)) = 0) : Calls Try.prog 12 #[v, vt, vc, .int .i64 limit] w fun e w' => e = .returned (.tuple #[.bool (zd8 xs ts cs && decide ((xs.length : Int) ≤ limit)), .int .i64 0]) ∧ Below w.heap.size w w' := by
  obtain ⟨A, cap, rfl, hsl⟩ := h.op; obtain ⟨hx, hcap⟩ := zaR hco; refine zaa (M := fun _ => False) (hs := []) Try.func12 rfl rfl rfl (Hp.refl _ _) ?_; refine T.sr ?_; refine TL.run 2 rfl ?_; refine TL.nx ?_; refine TL.run 5 rfl ?_; (refine TL.ew (Wt.none rfl) rfl rfl (Ew.au rfl rfl rfl (fun w hw => zaU xs ts cs _ _ _ _ _ (h.kept hw) (ht.kept hw) (hcr.kept hw) hl hlt hlc hco)) ?_; rintro _ _ ⟨⟨gm, kv0⟩, hI, rfl, rfl⟩); dsimp only [List.cons_append, List.nil_append] at hI ⊢; refine TL.run 5 rfl ?_; refine TL.ns (T.seq (T.sr ?_)); refine TL.run 2 rfl ?_; refine TL.ns ?_; refine T.aG rfl (by decide) ?_; refine T.skip (K.seq (T.seq (T.sr ?_))); refine TL.run 1 rfl ?_; refine TL.y (Yv.ap rfl rfl) ?_; refine TL.run 1 rfl ?_; refine TL.ns (T.block ?_); refine T.loop (ι := Nat × List (Pl × Value)) (fun x => [(0, .slice A xs.length cap), (3, .int .i64 limit), (10, .map (some gm)), (28, .slice A xs.length cap), (29, .int .i64 (xs.length : Int)), (30, .int .i64 (x.1 : Int))]) (fun x => [.mp gm x.2]) (fun x => x.1 ≤ xs.length ∧ FitInv xs ts cs (2 * x.1) x.2) (fun x => xs.length - x.1) (0, kv0) ?_ ?_ ?_ ?_
  · exact ⟨by show 0 ≤ _; omega, FitInv.start hI⟩
  · exact (by repeat (first | exact Sub.nil | refine Sub.cons rfl ?_))
  · exact Sx
  · intro x hphi; obtain ⟨k, kv⟩ := x; dsimp only at hphi ⊢; obtain ⟨hkl, hphi⟩ := hphi; refine T.sr ?_; refine TL.run 1 rfl ?_; refine TL.ns (T.seq ?_); refine T.cond rfl (fun h1 => ?_) (fun h1 => ?_)
    · have p1 := h1; (try simp only [nfB] at p1); obtain ⟨g, off, rfl, hc⟩ := hsl (by omega); have hk := hc k (by omega); have hk1 := hc (k - 1) (by omega); simp only [Mv.cells] at hk hk1; refine T.skip (K.seq (T.seq (T.block (T.sr ?_)))); refine TL.y (Yv.ai rfl rfl rfl rfl (by omega)) ?_; refine TL.y (Yv.az rfl rfl hk rfl (fun h => h)) ?_; (refine TL.ew (Wt.none rfl) rfl rfl (Ew.alloc rfl) ?_; rintro _ _ ⟨g13, rfl, rfl⟩); (refine TL.ax (Wt.none rfl) rfl (Ew.ag 0 rfl rfl rfl rfl rfl rfl) ?_; rintro _ _ ⟨rfl, rfl⟩); refine TL.nx ?_; refine TL.y (Yv.aj 0 rfl rfl rfl rfl) ?_; (refine TL.ew (Wt.none rfl) rfl rfl (Ew.am rfl rfl rfl (fun w hw => zba _ _)) ?_; rintro _ _ ⟨rfl, rfl⟩); refine TL.run 1 rfl ?_; refine TL.ns (T.block ?_); refine T.loop (ι := Nat × List (Pl × Value)) (fun y => [(0, .slice (some ⟨g, off, none⟩) xs.length cap), (3, .int .i64 limit), (10, .map (some gm)), (28, .slice (some ⟨g, off, none⟩) xs.length cap), (29, .int .i64 (xs.length : Int)), (30, .int .i64 (k : Int)), (35, .agg (plcells (nth xs k)).toArray), (36, .int .i64 (y.1 : Int))]) (fun y => [.mp gm y.2]) (fun y => y.1 ≤ 2 ∧ FitInv xs ts cs (2 * k + y.1) y.2) (fun y => 2 - y.1) (0, kv) ?_ ?_ ?_ ?_
      · exact ⟨by show 0 ≤ _; omega, hphi⟩
      · exact (by repeat (first | exact Sub.nil | refine Sub.cons rfl ?_))
      · exact Sx
      · intro y hphi; obtain ⟨i, kv⟩ := y; dsimp only at hphi ⊢; obtain ⟨hil, hphi⟩ := hphi; refine T.sr ?_; refine TL.run 1 rfl ?_; refine TL.ns (T.seq ?_); refine T.cond rfl (fun h2 => ?_) (fun h2 => ?_)
        · have p2 := h2; (try simp only [nfB] at p2); have hpl := zbe (nth xs k) i (by omega); obtain ⟨c, hc0, hg, hb1, hb2⟩ := hphi.get (by omega) (by omega) hx hcap; (have hgv : (zam kv (plOf (nth xs k) i)).getD (.int .i64 0) = .int .i64 c := by rw [hg]; rfl); (have hgu : (zam (zar kv (plOf (nth xs k) i) ((zam kv (plOf (nth xs k) i)).getD (.int .i64 0))) (plOf (nth xs k) i)).getD (.int .i64 0) = .int .i64 c := by rw [zak, if_pos rfl, hg]; rfl); (have hgw : ∀ u, (zam (zar (zar kv (plOf (nth xs k) i) u) (plOf (nth xs k) i) (.int .i64 (c - 1))) (plOf (nth xs k) i)).getD (.int .i64 0) = .int .i64 (c - 1) := fun u => by rw [zak, if_pos rfl]; rfl); refine T.skip (K.seq (T.seq (T.block (T.sr ?_)))); refine TL.y (Yv.aN rfl rfl rfl rfl (by omega) hpl) ?_; (refine TL.ew (Wt.none rfl) rfl rfl (Ew.alloc rfl) ?_; rintro _ _ ⟨g15, rfl, rfl⟩); (refine TL.ax (Wt.none rfl) rfl (Ew.ag 0 rfl rfl rfl rfl rfl rfl) ?_; rintro _ _ ⟨rfl, rfl⟩); refine TL.ns (T.seq ?_); refine T.aD (.still 0 (.still 1 (.two 2 4 (.still 3 (.eff 4 (.still 5 (.eff 6 .done)))) (.still 5 (.eff 2 (.still 3 (.eff 6 .done))))))) (List.eraseIdx _ 1) (by kernel_rfl) (List.eraseIdx_sublist _ _) ?_; refine TS.run 1 rfl ?_; refine TS.y rfl (Yv.aj 0 rfl rfl rfl rfl) ?_; refine TS.two ?_ ?_
          · skip; refine TSo.yv rfl (Wt.none rfl) rfl rfl (Yv.an 1 rfl rfl rfl rfl hgv) Sx ?_; refine TS.y rfl (Yv.aR rfl rfl rfl (by omega)) ?_; refine TS.eff ?_; (refine TSo.ew rfl (Wt.none rfl) rfl rfl (Ew.mapEntry 1 rfl rfl rfl rfl) ?_; rintro _ _ ⟨s43, rfl, rfl⟩; refine ⟨Sx, ?_⟩); refine TS.run 1 rfl ?_; refine TS.eff ?_; (refine TSo.ax rfl (Wt.none rfl) rfl (Ew.entryStore 1 rfl rfl rfl rfl rfl) ?_; rintro _ _ ⟨rfl, rfl⟩; refine ⟨Sx, ?_⟩); refine TS.done ?_; refine K.seq (T.sr ?_); refine TL.run 1 rfl ?_; refine TL.y (Yv.aj 0 rfl rfl rfl rfl) ?_; refine TL.y (Yv.an 1 rfl rfl rfl rfl (hgw _)) ?_; refine TL.run 1 rfl ?_; refine TL.ns ?_; refine T.cond rfl (fun h3 => ?_) (fun h3 => ?_)
            · have p3 := h3; (try simp only [nfB] at p3); refine T.sr ?_; refine TL.run 2 rfl ?_; refine TL.ns (T.ret (K.af (K.a (K.a (K.af (K.af (K.a (K.a (K.af (K.a ?_)))))))))); exact K.aH rfl rfl rfl (fun w' hw => ⟨by rw [zca (by omega) (by omega) hc0 (by omega)]; rfl, hw.isBelow⟩)
            · have p3 := h3; (try simp only [nfB] at p3); refine T.skip (K.ab (K.seq (T.region ?_))); refine TL.y (Yv.ah rfl rfl rfl (by omega)) ?_; refine TL.run 1 rfl ?_; refine TL.nil ?_; exact K.next (i + 1, _) ⟨by show i + 1 ≤ _; omega, hphi.step (by omega) (by omega) hc0 (by omega) _⟩ (by show 2 - (i + 1) < 2 - i; omega) (by repeat (first | exact Sub.nil | refine Sub.cons rfl ?_)) Sx
          · skip; (refine TSo.ew rfl (Wt.none rfl) rfl rfl (Ew.mapEntry 1 rfl rfl rfl rfl) ?_; rintro _ _ ⟨s43, rfl, rfl⟩; refine ⟨Sx, ?_⟩); refine TS.run 1 rfl ?_; refine TS.eff ?_; refine TSo.yv rfl (Wt.none rfl) rfl rfl (Yv.bj 1 rfl rfl rfl rfl hgu) Sx ?_; refine TS.y rfl (Yv.aR rfl rfl rfl (by omega)) ?_; refine TS.eff ?_; (refine TSo.ax rfl (Wt.none rfl) rfl (Ew.entryStore 1 rfl rfl rfl rfl rfl) ?_; rintro _ _ ⟨rfl, rfl⟩; refine ⟨Sx, ?_⟩); refine TS.done ?_; refine K.seq (T.sr ?_); refine TL.run 1 rfl ?_; refine TL.y (Yv.aj 0 rfl rfl rfl rfl) ?_; refine TL.y (Yv.an 1 rfl rfl rfl rfl (hgw _)) ?_; refine TL.run 1 rfl ?_; refine TL.ns ?_; refine T.cond rfl (fun h4 => ?_) (fun h4 => ?_)
            · have p4 := h4; (try simp only [nfB] at p4); refine T.sr ?_; refine TL.run 2 rfl ?_; refine TL.ns (T.ret (K.af (K.a (K.a (K.af (K.af (K.a (K.a (K.af (K.a ?_)))))))))); exact K.aH rfl rfl rfl (fun w' hw => ⟨by rw [zca (by omega) (by omega) hc0 (by omega)]; rfl, hw.isBelow⟩)
            · have p4 := h4; (try simp only [nfB] at p4); refine T.skip (K.ab (K.seq (T.region ?_))); refine TL.y (Yv.ah rfl rfl rfl (by omega)) ?_; refine TL.run 1 rfl ?_; refine TL.nil ?_; exact K.next (i + 1, _) ⟨by show i + 1 ≤ _; omega, hphi.step (by omega) (by omega) hc0 (by omega) _⟩ (by show 2 - (i + 1) < 2 - i; omega) (by repeat (first | exact Sub.nil | refine Sub.cons rfl ?_)) Sx
        · have p2 := h2; (try simp only [nfB] at p2); refine T.exit (K.aa (K.aa (K.ac (K.ab (K.seq (T.region ?_)))))); refine TL.y (Yv.ah rfl rfl rfl (by omega)) ?_; refine TL.run 1 rfl ?_; refine TL.nil ?_; exact K.next (k + 1, kv) ⟨by show k + 1 ≤ _; omega, by show FitInv xs ts cs (2 * (k + 1)) kv; rw [show 2 * (k + 1) = 2 * k + i from by omega]; exact hphi⟩ (by show xs.length - (k + 1) < xs.length - k; omega) (by repeat (first | exact Sub.nil | refine Sub.cons rfl ?_)) Sx
    · have p1 := h1; (try simp only [nfB] at p1); refine T.exit (K.aa (K.aa (K.ac (K.seq (T.sr ?_))))); refine TL.run 1 rfl ?_; refine TL.y (Yv.ap rfl rfl) ?_; refine TL.run 4 rfl ?_; refine TL.ns (T.ret ?_); exact K.aH rfl rfl rfl (fun w' hw => ⟨by rw [zd1 hphi (by omega)]; rfl, hw.isBelow⟩)
def wks : Mv → Int := fun m => m.wk
def zdf (xs : List Mv) (ts cs : List Si) (k : Nat) : Int := max (max (nth xs k).wk (zdE (RT xs wks xs.length (nth xs k).tw) (zaA ts (nth xs k).tw))) (zdE (RC xs wks xs.length (nth xs k).cr) (zaA cs (nth xs k).cr))
def zbP (xs : List Mv) (ts cs : List Si) : Int := mx (zdf xs ts cs) xs.length
theorem zfs {xs : List Mv} {k : Nat} (h : mvOk xs k = true) : 1 ≤ (nth xs k).wk ∧ (nth xs k).wk ≤ 52 := by
  simp only [mvOk, Mv.ok, Bool.and_eq_true, decide_eq_true_eq] at h; omega
theorem zex {xs : List Mv} {ts cs : List Si} {ok : Bool} (h : zat xs ts cs ok = 0) : ∀ k, k < xs.length → 1 ≤ (nth xs k).wk ∧ (nth xs k).wk ≤ 52 := by
  obtain ⟨h1, _, _⟩ := zb3 h; simp only [zax, Bool.and_eq_true, zaY] at h1; intro k hk; exact zfs (List.all_eq_true.1 h1.1.2 k (by simpa using hk))
theorem zfQ {xs : List Mv} (hw : ∀ k, k < xs.length → 1 ≤ (nth xs k).wk ∧ (nth xs k).wk ≤ 52) : ∀ (s : Nat), s ≤ 2 * xs.length → ∀ q, 0 ≤ SS xs wks s q ∧ SS xs wks s q ≤ 52 * s
  | 0, _, q => by simp [SS]
  | s + 1, hs, q => by
    have h1 := zfQ hw s (by omega) q; have h2 := hw (s / 2) (by omega); have e1 : wks (nth xs (s / 2)) = (nth xs (s / 2)).wk := rfl; rw [SS, e1]
    split <;> omega
theorem zfg (ts cs : List Si) (m : Mv) : capP ts cs (plOf m 0) = zaA ts m.tw := rfl
theorem zfq (ts cs : List Si) (m : Mv) : capP ts cs (plOf m 1) = zaA cs m.cr := rfl
theorem RP0 (xs : List Mv) (f : Mv → Int) (n : Nat) (m : Mv) : RP xs f n (plOf m 0) = RT xs f n m.tw := rfl
theorem RP1 (xs : List Mv) (f : Mv → Int) (n : Nat) (m : Mv) : RP xs f n (plOf m 1) = RC xs f n m.cr := rfl
theorem zej {xs : List Mv} {ts cs : List Si} (k i : Nat) (hk : k < xs.length) (hi : i < 2) : zdE (SS xs wks (2 * xs.length) (plOf (nth xs k) i)) (capP ts cs (plOf (nth xs k) i)) ≤ zdf xs ts cs k ∧ (nth xs k).wk ≤ zdf xs ts cs k := by
  match i, hi with
  | 0, _ => rw [zeB, RP0, zfg]; unfold zdf; omega
  | 1, _ => rw [zeB, RP1, zfq]; unfold zdf; omega
structure BndInv (xs : List Mv) (ts cs : List Si) (k s : Nat) (b : Int) (kv : List (Pl × Value)) : Prop where
  sums : ∀ q, (zam kv q).getD (.int .i64 0) = .int .i64 (SS xs wks s q)
  ge0 : 0 ≤ b
  le : b ≤ zbP xs ts cs
  wk : ∀ j, j < k → (nth xs j).wk ≤ b
  cl : ∀ t, t < s → zdE (SS xs wks (t + 1) (hp xs t)) (capP ts cs (hp xs t)) ≤ b
theorem BndInv.start (xs : List Mv) (ts cs : List Si) : BndInv xs ts cs 0 0 0 [] := ⟨fun q => rfl, by omega, zdh _ _, fun j hj => by omega, fun j hj => by omega⟩
theorem BndInv.week {xs : List Mv} {ts cs : List Si} {k : Nat} {b : Int} {kv : List (Pl × Value)} (h : BndInv xs ts cs k (2 * k) b kv) (hk : k < xs.length) : BndInv xs ts cs (k + 1) (2 * k) (max b (nth xs k).wk) kv := by
  have h1 := (zej (ts := ts) (cs := cs) k 0 hk (by omega)).2; have h2 := zfx (zdf xs ts cs) xs.length k hk; have := h.ge0; refine ⟨h.sums, by omega, ?_, fun j hj => ?_, fun t ht => ?_⟩
  · have h3 := h.le; unfold zbP at h3 ⊢; omega
  · rcases Nat.lt_or_ge j k with e | e
    · have := h.wk j e; omega
    · (obtain rfl : j = k := by omega); omega
  · have := h.cl t ht; omega
theorem BndInv.sum {xs : List Mv} {ts cs : List Si} {k i : Nat} {b : Int} {kv : List (Pl × Value)} (h : BndInv xs ts cs (k + 1) (2 * k + i) b kv) (hk : k < xs.length) (hi : i < 2) (hw : ∀ k, k < xs.length → 1 ≤ (nth xs k).wk ∧ (nth xs k).wk ≤ 52) (hcap : ∀ s, s < 2 * xs.length → 1 ≤ capP ts cs (hp xs s) ∧ capP ts cs (hp xs s) ≤ 64)
    {a c : Int} (ha : a = SS xs wks (2 * k + i) (plOf (nth xs k) i)) (hc : c = capP ts cs (plOf (nth xs k) i)) (u : Value) :
    BndInv xs ts cs (k + 1) (2 * k + i + 1) (max b ((a + (nth xs k).wk + c - 1) / c)) (zar (zar kv (plOf (nth xs k) i) u) (plOf (nth xs k) i) (.int .i64 (a + (nth xs k).wk))) := by
  have hpk := zeJ xs k i hi; (have hd : (2 * k + i) / 2 = k := by omega); (have hS : SS xs wks (2 * k + i + 1) (plOf (nth xs k) i) = a + (nth xs k).wk := by rw [SS, hpk, if_pos rfl, ha, hd]; rfl); (have hcd : (a + (nth xs k).wk + c - 1) / c = zdE (SS xs wks (2 * k + i + 1) (plOf (nth xs k) i)) (capP ts cs (plOf (nth xs k) i)) := by rw [hS, hc]; rfl); have hcp := hcap (2 * k + i) (by omega); rw [hpk] at hcp; have hmono := ze9 (xs := xs) (f := wks) (fun j hj => by have := hw j hj; unfold wks; omega) (2 * xs.length) (2 * k + i + 1) (by omega) (by omega) (plOf (nth xs k) i); have h1 := ze4 hcp.1 hmono; have h2 := (zej (ts := ts) (cs := cs) k i hk hi).1; have h3 := zfx (zdf xs ts cs) xs.length k hk; have h4 := h.ge0; have h5 := h.le; rw [hcd]; refine ⟨fun q => ?_, by omega, ?_, fun j hj => ?_, fun t ht => ?_⟩
  · rw [zak]; by_cases e : q = plOf (nth xs k) i
    · rw [if_pos e, e, hS]; rfl
    · rw [if_neg e, zak, if_neg e, h.sums q, SS, hpk, if_neg (fun x => e x.symm)]
      congr 1; omega
  · unfold zbP at h5 ⊢; omega
  · have := h.wk j hj; omega
  · rcases Nat.lt_or_ge t (2 * k + i) with e | e
    · have := h.cl t e; omega
    · (obtain rfl : t = 2 * k + i := by omega); rw [hpk]; omega
theorem BndInv.done {xs : List Mv} {ts cs : List Si} {k : Nat} {b : Int} {kv : List (Pl × Value)} (h : BndInv xs ts cs k (2 * k) b kv) (hk : k = xs.length) (hw : ∀ k, k < xs.length → 1 ≤ (nth xs k).wk ∧ (nth xs k).wk ≤ 52) : b = zbP xs ts cs := by
  subst hk
  have h1 : zbP xs ts cs ≤ b := zfJ _ _ h.ge0 _ fun k hk => by
    (have hf : ∀ j, j < xs.length → 0 ≤ wks (nth xs j) := fun j hj => by have := hw j hj; unfold wks; omega); have a := h.wk k hk; obtain ⟨t, t1, t2, t3, t4⟩ := zcU hf (2 * xs.length) (by omega) (2 * k) (by omega); have c1 := h.cl t t2; rw [t3, t4, zcO, zeB, RP0, zfg] at c1; obtain ⟨t, t1, t2, t3, t4⟩ := zcU hf (2 * xs.length) (by omega) (2 * k + 1) (by omega); have c2 := h.cl t t2; rw [t3, t4, zdN, zeB, RP1, zfq] at c2; unfold zdf; omega
  have := h.le; omega
theorem zc3 {xs : List Mv} {ts cs : List Si} {kv : List (Pl × Value)} (h : CapInv xs ts cs xs.length kv) (k i : Nat) (hk : k < xs.length) (hi : i < 2) : (zam kv (plOf (nth xs k) i)).getD (.int .i64 0) = .int .i64 (capP ts cs (plOf (nth xs k) i)) := by
  obtain ⟨v, hv⟩ := Option.isSome_iff_exists.1 (h.has k hk i hi).1; rw [hv, h.right _ v hv]; rfl
theorem zdL (xs : List Mv) (ts cs : List Si) (v vt vc : Value) (w : World) (h : zbG w v xs) (ht : zaG w vt ts) (hcr : zaG w vc cs) (hl : xs.length ≤ 9223372036854775807) (hlt : ts.length ≤ 9223372036854775807) (hlc : cs.length ≤ 9223372036854775807) (hco : zat xs ts cs true = 0) : Calls Try.prog 9 #[v, vt, vc] w fun e w' => e = .returned (.tuple #[.int .i64 (zbP xs ts cs), .int .i64 0]) ∧ Below w.heap.size w w' := by
  obtain ⟨A, cap, rfl, hsl⟩ := h.op; obtain ⟨hx, hcap⟩ := zaR hco; have hwk := zex hco; refine zaa (M := fun _ => False) (hs := []) Try.func9 rfl rfl rfl (Hp.refl _ _) ?_; refine T.sr ?_; refine TL.run 2 rfl ?_; refine TL.nx ?_; refine TL.run 3 rfl ?_; (refine TL.ew (Wt.none rfl) rfl rfl (Ew.au rfl rfl rfl (fun w hw => zaU xs ts cs _ _ _ _ _ (h.kept hw) (ht.kept hw) (hcr.kept hw) hl hlt hlc hco)) ?_; rintro _ _ ⟨⟨gm, kv0⟩, hI, rfl, rfl⟩); dsimp only [List.cons_append, List.nil_append] at hI ⊢; refine TL.run 5 rfl ?_; refine TL.ns (T.seq (T.sr ?_)); refine TL.run 2 rfl ?_; refine TL.ns ?_; refine T.aG rfl (by decide) ?_; refine T.skip (K.seq (T.sr ?_)); (refine TL.ew (Wt.none rfl) rfl rfl (Ew.makeMap rfl) ?_; rintro _ _ ⟨g26, rfl, rfl⟩); refine TL.run 2 rfl ?_; refine TL.ns (T.seq (T.sr ?_)); refine TL.run 1 rfl ?_; refine TL.y (Yv.ap rfl rfl) ?_; refine TL.run 1 rfl ?_; refine TL.ns (T.block ?_); refine T.loop (ι := Nat × Int × List (Pl × Value)) (fun x => [(8, .map (some gm)), (10, .int .i64 x.2.1), (11, .map (some g26)), (27, .slice A xs.length cap), (28, .int .i64 (xs.length : Int)), (29, .int .i64 (x.1 : Int))]) (fun x => [.mp g26 x.2.2, .mp gm kv0]) (fun x => x.1 ≤ xs.length ∧ BndInv xs ts cs x.1 (2 * x.1) x.2.1 x.2.2) (fun x => xs.length - x.1) (0, 0, []) ?_ ?_ ?_ ?_
  · exact ⟨by show 0 ≤ _; omega, BndInv.start xs ts cs⟩
  · exact (by repeat (first | exact Sub.nil | refine Sub.cons rfl ?_))
  · exact Sx
  · intro x hphi; obtain ⟨k, b, kv⟩ := x; dsimp only at hphi ⊢; obtain ⟨hkl, hphi⟩ := hphi; refine T.sr ?_; refine TL.run 1 rfl ?_; refine TL.ns (T.seq ?_); refine T.cond rfl (fun h1 => ?_) (fun h1 => ?_)
    · have p1 := h1; (try simp only [nfB] at p1); obtain ⟨g, off, rfl, hc⟩ := hsl (by omega); have hk := hc k (by omega); have hk1 := hc (k - 1) (by omega); simp only [Mv.cells] at hk hk1; have hwk1 := hwk k (by omega); refine T.skip (K.seq (T.seq (T.block (T.sr ?_)))); refine TL.y (Yv.ai rfl rfl rfl rfl (by omega)) ?_; refine TL.y (Yv.az rfl rfl hk rfl (fun h => h)) ?_; (refine TL.ew (Wt.none rfl) rfl rfl (Ew.alloc rfl) ?_; rintro _ _ ⟨g13, rfl, rfl⟩); (refine TL.ax (Wt.none rfl) rfl (Ew.ag 0 rfl rfl rfl rfl rfl rfl) ?_; rintro _ _ ⟨rfl, rfl⟩); refine TL.nx ?_; refine TL.run 1 rfl ?_; refine TL.y (Yv.fieldAddr rfl rfl) ?_; refine TL.y (Yv.ad 0 rfl rfl rfl rfl) ?_; refine TL.y (Yv.max2 rfl rfl rfl) ?_; refine TL.run 1 rfl ?_; refine TL.nx ?_; refine TL.y (Yv.aj 0 rfl rfl rfl rfl) ?_; (refine TL.ew (Wt.none rfl) rfl rfl (Ew.am rfl rfl rfl (fun w hw => zba _ _)) ?_; rintro _ _ ⟨rfl, rfl⟩); refine TL.run 1 rfl ?_; refine TL.ns (T.block ?_); refine T.loop (ι := Nat × Int × List (Pl × Value)) (fun y => [(8, .map (some gm)), (10, .int .i64 y.2.1), (11, .map (some g26)), (13, .pointer (some ⟨g13, 0, none⟩)), (27, .slice (some ⟨g, off, none⟩) xs.length cap), (28, .int .i64 (xs.length : Int)), (29, .int .i64 (k : Int)), (38, .agg (plcells (nth xs k)).toArray), (39, .int .i64 (y.1 : Int))]) (fun y => [.row g13 31 [.int .i64 (nth xs k).st, .int .i64 (nth xs k).old, .int .i64 (nth xs k).nw, .int .i64 (nth xs k).tw, .int .i64 (nth xs k).cr, .int .i64 (nth xs k).wk], .mp g26 y.2.2, .mp gm kv0]) (fun y => y.1 ≤ 2 ∧ BndInv xs ts cs (k + 1) (2 * k + y.1) y.2.1 y.2.2) (fun y => 2 - y.1) (0, max b (nth xs k).wk, kv) ?_ ?_ ?_ ?_
      · exact ⟨by show 0 ≤ _; omega, hphi.week (by omega)⟩
      · exact (by repeat (first | exact Sub.nil | refine Sub.cons rfl ?_))
      · exact Sx
      · intro y hphi; obtain ⟨i, b, kv⟩ := y; dsimp only at hphi ⊢; obtain ⟨hil, hphi⟩ := hphi; refine T.sr ?_; refine TL.run 1 rfl ?_; refine TL.ns (T.seq ?_); refine T.cond rfl (fun h2 => ?_) (fun h2 => ?_)
        · have p2 := h2; (try simp only [nfB] at p2); have hpl := zbe (nth xs k) i (by omega); obtain ⟨a, ha⟩ : ∃ a, a = SS xs wks (2 * k + i) (plOf (nth xs k) i) := ⟨_, rfl⟩; obtain ⟨c, hcq⟩ : ∃ c, c = capP ts cs (plOf (nth xs k) i) := ⟨_, rfl⟩; (have hgv : (zam kv (plOf (nth xs k) i)).getD (.int .i64 0) = .int .i64 a := by rw [hphi.sums, ha]); (have hgu : (zam (zar kv (plOf (nth xs k) i) ((zam kv (plOf (nth xs k) i)).getD (.int .i64 0))) (plOf (nth xs k) i)).getD (.int .i64 0) = .int .i64 a := by rw [zak, if_pos rfl]; exact hgv); (have hgw : ∀ u, (zam (zar (zar kv (plOf (nth xs k) i) u) (plOf (nth xs k) i) (.int .i64 (a + (nth xs k).wk))) (plOf (nth xs k) i)).getD (.int .i64 0) = .int .i64 (a + (nth xs k).wk) := fun u => by rw [zak, if_pos rfl]; rfl); (have hgc : (zam kv0 (plOf (nth xs k) i)).getD (.int .i64 0) = .int .i64 c := by rw [zc3 hI k i (by omega) (by omega), hcq]); have hb1 := zfQ hwk (2 * k + i) (by omega) (plOf (nth xs k) i); rw [← ha] at hb1; have hb2 := hcap (2 * k + i) (by omega); rw [zeJ xs k i (by omega), ← hcq] at hb2; refine T.skip (K.seq (T.seq (T.block (T.sr ?_)))); refine TL.y (Yv.aN rfl rfl rfl rfl (by omega) hpl) ?_; (refine TL.ew (Wt.none rfl) rfl rfl (Ew.alloc rfl) ?_; rintro _ _ ⟨g15, rfl, rfl⟩); (refine TL.ax (Wt.none rfl) rfl (Ew.ag 0 rfl rfl rfl rfl rfl rfl) ?_; rintro _ _ ⟨rfl, rfl⟩); refine TL.ns (T.seq ?_); refine T.aD (.still 0 (.still 1 (.still 3 (.still 4 (.two 2 6 (.still 5 (.eff 6 (.still 7 (.eff 8 .done)))) (.still 7 (.eff 2 (.still 5 (.eff 8 .done))))))))) (List.eraseIdx _ 2) (by kernel_rfl) (List.eraseIdx_sublist _ _) ?_; refine TS.run 1 rfl ?_; refine TS.y rfl (Yv.aj 0 rfl rfl rfl rfl) ?_; refine TS.y rfl (Yv.fieldAddr rfl rfl) ?_; refine TS.y rfl (Yv.ad 1 rfl rfl rfl rfl) ?_; refine TS.two ?_ ?_
          · skip; refine TSo.yv rfl (Wt.none rfl) rfl rfl (Yv.an 2 rfl rfl rfl rfl hgv) Sx ?_; refine TS.y rfl (Yv.ah rfl rfl rfl (by omega)) ?_; refine TS.eff ?_; (refine TSo.ew rfl (Wt.none rfl) rfl rfl (Ew.mapEntry 2 rfl rfl rfl rfl) ?_; rintro _ _ ⟨s48, rfl, rfl⟩; refine ⟨Sx, ?_⟩); refine TS.run 1 rfl ?_; refine TS.eff ?_; (refine TSo.ax rfl (Wt.none rfl) rfl (Ew.entryStore 2 rfl rfl rfl rfl rfl) ?_; rintro _ _ ⟨rfl, rfl⟩; refine ⟨Sx, ?_⟩); refine TS.done ?_; refine K.seq ?_; refine T.aD (.still 0 (.still 1 (.still 2 (.still 3 (.still 4 (.still 5 (.still 6 (.still 7 (.still 8 (.still 9 (.still 10 (.still 11 (.still 12 (.still 13 (.still 14 .done))))))))))))))) _ (by kernel_rfl) (List.Sublist.refl _) ?_; refine TS.run 2 rfl ?_; refine TS.y rfl (Yv.aj 0 rfl rfl rfl rfl) ?_; refine TS.y rfl (Yv.an 2 rfl rfl rfl rfl (hgw _)) ?_; refine TS.run 1 rfl ?_; refine TS.y rfl (Yv.aj 0 rfl rfl rfl rfl) ?_; refine TS.y rfl (Yv.an 3 rfl rfl rfl rfl hgc) ?_; refine TS.y rfl (Yv.ah rfl rfl rfl (by omega)) ?_; refine TS.y rfl (Yv.aR rfl rfl rfl (by omega)) ?_; refine TS.run 1 rfl ?_; refine TS.y rfl (Yv.aj 0 rfl rfl rfl rfl) ?_; refine TS.y rfl (Yv.an 3 rfl rfl rfl rfl hgc) ?_; refine TS.y rfl (Yv.aT rfl rfl rfl (by omega)) ?_; refine TS.y rfl (Yv.max2 rfl rfl rfl) ?_; refine TS.run 1 rfl ?_; refine TS.done ?_; refine K.ab (K.seq (T.region ?_)); refine TL.y (Yv.ah rfl rfl rfl (by omega)) ?_; refine TL.run 1 rfl ?_; refine TL.nil ?_; exact K.next (i + 1, max b ((a + (nth xs k).wk + c - 1) / c), _) ⟨by show i + 1 ≤ _; omega, hphi.sum (by omega) (by omega) hwk hcap ha hcq _⟩ (by show 2 - (i + 1) < 2 - i; omega) (by repeat (first | exact Sub.nil | refine Sub.cons rfl ?_)) Sx
          · skip; (refine TSo.ew rfl (Wt.none rfl) rfl rfl (Ew.mapEntry 2 rfl rfl rfl rfl) ?_; rintro _ _ ⟨s48, rfl, rfl⟩; refine ⟨Sx, ?_⟩); refine TS.run 1 rfl ?_; refine TS.eff ?_; refine TSo.yv rfl (Wt.none rfl) rfl rfl (Yv.bj 2 rfl rfl rfl rfl hgu) Sx ?_; refine TS.y rfl (Yv.ah rfl rfl rfl (by omega)) ?_; refine TS.eff ?_; (refine TSo.ax rfl (Wt.none rfl) rfl (Ew.entryStore 2 rfl rfl rfl rfl rfl) ?_; rintro _ _ ⟨rfl, rfl⟩; refine ⟨Sx, ?_⟩); refine TS.done ?_; refine K.seq ?_; refine T.aD (.still 0 (.still 1 (.still 2 (.still 3 (.still 4 (.still 5 (.still 6 (.still 7 (.still 8 (.still 9 (.still 10 (.still 11 (.still 12 (.still 13 (.still 14 .done))))))))))))))) _ (by kernel_rfl) (List.Sublist.refl _) ?_; refine TS.run 2 rfl ?_; refine TS.y rfl (Yv.aj 0 rfl rfl rfl rfl) ?_; refine TS.y rfl (Yv.an 2 rfl rfl rfl rfl (hgw _)) ?_; refine TS.run 1 rfl ?_; refine TS.y rfl (Yv.aj 0 rfl rfl rfl rfl) ?_; refine TS.y rfl (Yv.an 3 rfl rfl rfl rfl hgc) ?_; refine TS.y rfl (Yv.ah rfl rfl rfl (by omega)) ?_; refine TS.y rfl (Yv.aR rfl rfl rfl (by omega)) ?_; refine TS.run 1 rfl ?_; refine TS.y rfl (Yv.aj 0 rfl rfl rfl rfl) ?_; refine TS.y rfl (Yv.an 3 rfl rfl rfl rfl hgc) ?_; refine TS.y rfl (Yv.aT rfl rfl rfl (by omega)) ?_; refine TS.y rfl (Yv.max2 rfl rfl rfl) ?_; refine TS.run 1 rfl ?_; refine TS.done ?_; refine K.ab (K.seq (T.region ?_)); refine TL.y (Yv.ah rfl rfl rfl (by omega)) ?_; refine TL.run 1 rfl ?_; refine TL.nil ?_; exact K.next (i + 1, max b ((a + (nth xs k).wk + c - 1) / c), _) ⟨by show i + 1 ≤ _; omega, hphi.sum (by omega) (by omega) hwk hcap ha hcq _⟩ (by show 2 - (i + 1) < 2 - i; omega) (by repeat (first | exact Sub.nil | refine Sub.cons rfl ?_)) Sx
        · have p2 := h2; (try simp only [nfB] at p2); refine T.exit (K.aa (K.aa (K.ac (K.ab (K.seq (T.region ?_)))))); refine TL.y (Yv.ah rfl rfl rfl (by omega)) ?_; refine TL.run 1 rfl ?_; refine TL.nil ?_; exact K.next (k + 1, b, kv) ⟨by show k + 1 ≤ _; omega, by show BndInv xs ts cs (k + 1) (2 * (k + 1)) b kv; rw [show 2 * (k + 1) = 2 * k + i from by omega]; exact hphi⟩ (by show xs.length - (k + 1) < xs.length - k; omega) (by repeat (first | exact Sub.nil | refine Sub.cons rfl ?_)) Sx
    · have p1 := h1; (try simp only [nfB] at p1); refine T.exit (K.aa (K.aa (K.ac (K.seq (T.sr ?_))))); refine TL.run 3 rfl ?_; refine TL.ns (T.ret ?_); exact K.aH rfl rfl rfl (fun w' hw => ⟨by rw [hphi.done (by omega) hwk], hw.isBelow⟩)
theorem zeY {xs : List Mv} {ts cs : List Si} {ok : Bool} (h : zat xs ts cs ok = 0) (k : Nat) (hk : k < xs.length) : (1 ≤ zaA ts (nth xs k).tw ∧ zaA ts (nth xs k).tw ≤ 64) ∧ (1 ≤ zaA cs (nth xs k).cr ∧ zaA cs (nth xs k).cr ≤ 64) := by
  have h1 := (zaR h).2 (2 * k) (by omega); have h2 := (zaR h).2 (2 * k + 1) (by omega); rw [zcO, zfg] at h1; rw [zdN, zfq] at h2; exact ⟨h1, h2⟩
structure Wk where
  st : Int
  start : Int
  fin : Int
deriving DecidableEq, Inhabited
def Wk.cells (x : Wk) : List Value := [.int .i64 x.st, .int .i64 x.start, .int .i64 x.fin]
abbrev zdt (w : World) (v : Value) (xs : List Wk) : Prop := SlOf w v Wk.cells 3 xs
def lenM (xs : List Wk) : Int := mx (fun k => (nth xs k).fin) xs.length
theorem zcz (xs : List Wk) (v : Value) (w : World) (h : zdt w v xs) (hl : xs.length ≤ 9223372036854775807) : Calls Try.prog 10 #[v] w fun e w' => e = .returned (.int .i64 (lenM xs)) ∧ Below w.heap.size w w' := by
  obtain ⟨A, cap, rfl, hsl⟩ := h.op; refine zaa (M := fun _ => False) (hs := []) Try.func10 rfl rfl rfl (Hp.refl _ _) ?_; refine T.sr ?_; refine TL.run 1 rfl ?_; refine TL.nx ?_; refine TL.run 1 rfl ?_; refine TL.ns (T.seq (T.sr ?_)); refine TL.run 1 rfl ?_; refine TL.y (Yv.ap rfl rfl) ?_; refine TL.run 1 rfl ?_; refine TL.ns (T.block ?_); refine T.loop (ι := Nat) (fun k => [(3, .int .i64 (mx (fun k => (nth xs k).fin) k)), (6, .slice A xs.length cap), (7, .int .i64 (xs.length : Int)), (8, .int .i64 (k : Int))]) (fun k => []) (fun k => k ≤ xs.length) (fun k => xs.length - k) 0 ?_ ?_ ?_ ?_
  · omega
  · exact (by repeat (first | exact Sub.nil | refine Sub.cons rfl ?_))
  · exact Sx
  · intro k hphi; refine T.sr ?_; refine TL.run 1 rfl ?_; refine TL.ns (T.seq ?_); refine T.cond rfl (fun h1 => ?_) (fun h1 => ?_)
    · have p1 := h1; (try simp only [nfB] at p1); obtain ⟨g, off, rfl, hc⟩ := hsl (by omega); have hk := hc k (by omega); simp only [Wk.cells] at hk; refine T.skip (K.seq (T.seq (T.block (T.sr ?_)))); refine TL.y (Yv.ai rfl rfl rfl rfl (by omega)) ?_; refine TL.y (Yv.az rfl rfl hk rfl (fun h => h)) ?_; (refine TL.ew (Wt.none rfl) rfl rfl (Ew.alloc rfl) ?_; rintro _ _ ⟨g5, rfl, rfl⟩); (refine TL.ax (Wt.none rfl) rfl (Ew.ag 0 rfl rfl rfl rfl rfl rfl) ?_; rintro _ _ ⟨rfl, rfl⟩); refine TL.ns (T.region ?_); refine TL.run 1 rfl ?_; refine TL.y (Yv.fieldAddr rfl rfl) ?_; refine TL.y (Yv.ad 0 rfl rfl rfl rfl) ?_; refine TL.y (Yv.max2 rfl rfl rfl) ?_; refine TL.run 1 rfl ?_; refine TL.nil (K.ab (K.seq (T.region ?_))); refine TL.y (Yv.ah rfl rfl rfl (by omega)) ?_; refine TL.run 1 rfl ?_; refine TL.nil ?_; exact K.next (k + 1) (by omega) (by omega) (by repeat (first | exact Sub.nil | refine Sub.cons rfl ?_)) Sx
    · have p1 := h1; (try simp only [nfB] at p1); refine T.exit (K.aa (K.aa (K.ac (K.seq (T.sr ?_))))); refine TL.run 2 rfl ?_; refine TL.ns (T.ret ?_); exact K.al rfl rfl (fun w' hw => ⟨by rw [show k = xs.length from by omega]; rfl, hw.isBelow⟩)
end Go.Proofs.Ytlfalfmebomfbaa
