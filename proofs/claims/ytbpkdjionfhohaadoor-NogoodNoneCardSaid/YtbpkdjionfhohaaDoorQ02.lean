/- Tg Th Tj Tk Ti Fe Fa Fb Fc Fd Ca: shortened and put together by squeeze.py. -/
import Derived.Test.YtbpkdjionfhohaaDoorQ01
import Derived.Laws.Bits64
import Derived.Lib.TrailingZeros
import Derived.Scope
set_option maxRecDepth 100000
set_option maxHeartbeats 4000000
set_option linter.unusedVariables false
set_option linter.unusedSectionVars false
set_option linter.unusedSimpArgs false
namespace Go.Proofs.YtbpkdjionfhohaaDoor
open Go.RowKit
@[irreducible] def Ent.lp (l:Nat) (r:Loop):Ent where
 fp:=(· =l)
 ok w:=w.heap[l]?=some (.loop r)
 loc h k:=(h l rfl).trans k
 lt h k e:=by subst e;exact (Array.getElem?_eq_some_iff.1 h).1
 nd h k e c:=by subst e;rw [h];simp
theorem Ent.lp_fp {l:Nat}{r:Loop}{k:Nat}:(Ent.lp l r).fp k↔k=l:=by unfold Ent.lp;exact Iff.rfl
theorem Ent.lp_ok {l:Nat}{r:Loop}{w:World}:(Ent.lp l r).ok w↔w.heap[l]?=some (.loop r):=by unfold Ent.lp;exact Iff.rfl
section
variable {P:Program}{n:Nat}{B D:World}{M:Nat→Prop}{Q:Exit→Act→World→Prop}{fs:SFs}{hs:HS}{ops:Array Oper}{rest:List Oper}{o:Oper}{v:Value}
def IterAt {α:Type}(P:Program)(gf:FuncId)(lb:List Value)(enc:α→List Value)(xs:List α)(E:HS)(B:World)(M:Nat→Prop):Prop:=
 ∀(G:Nat→HS→Prop) (Z:HS→Prop) (l:Nat) (W:World) (g0:HS),
  (∀i x g w,xs[i]?=some x→G i g→Hp B M (E++g) w→YieldAt Fence.wide 0 P l (enc x).toArray w fun e w'=>Kp w w'∧((e= .returned (.bool true)∧∃g',G (i+1) g'∧Hp B M (E++g') w')∨(e= .returned (.bool false)∧∃z,Z z∧Hp B M (E++z) w')))→
  G 0 g0→Hp B M (E++g0) W→
  Calls P gf (.func (.yield l) #[] #[] :: lb).toArray W fun e W'=>(∃v,e= .returned v)∧Kp W W'∧((∃ g,G xs.length g∧Hp B M (E++g) W')∨∃z,Z z∧Hp B M (E++z) W')
def zgt {α:Type}(P:Program)(gf:FuncId)(lb:List Value)(A:Nat→α→List Value→HS→Prop)(W0:World→Prop)(xs:List α)(E:HS)(B:World)(M:Nat→Prop):Prop:=
 ∀(G:Nat→HS→Prop) (Z:HS→Prop) (l:Nat) (W:World) (g0:HS),(∀i g w,G i g→Hp B M (E++g) w→W0 w)→
  (∀i x vs gx g w,xs[i]?=some x→A i x vs gx→G i g→Hp B M (E++(gx++g)) w→YieldAt Fence.wide 0 P l vs.toArray w fun e w'=>Kp w w'∧((e= .returned (.bool true)∧∃g',G (i+1) g'∧Hp B M (E++g') w')∨(e= .returned (.bool false)∧∃z,Z z∧Hp B M (E++z) w')))→
  G 0 g0→Hp B M (E++g0) W→
  Calls P gf (.func (.yield l) #[] #[] :: lb).toArray W fun e W'=>(∃v,e= .returned v)∧Kp W W'∧((∃ g,G xs.length g∧Hp B M (E++g) W')∨∃z,Z z∧Hp B M (E++z) W')
theorem IterAt.toH {α:Type}{P:Program}{gf:FuncId}{lb:List Value}{enc:α→List Value}{xs:List α}{E:HS}{B:World}{M:Nat→Prop}(h:IterAt P gf lb enc xs E B M):zgt P gf lb (fun _ x vs gx=>vs=enc x∧gx=[]) (fun _=>True) xs E B M:=
 fun G Z l W g0 _ hy h0 hp=>h G Z l W g0 (fun i x g w hx hg hw=>hy i x _ [] g w hx ⟨rfl,rfl⟩ hg hw) h0 hp
def Iter {α:Type}(P:Program)(gf:FuncId)(lb:List Value)(enc:α→List Value)(xs:List α)(E:HS):Prop:=∀(B:World) (M:Nat→Prop),IterAt P gf lb enc xs E B M
theorem TL.yield {d l : Nat} {c : Operand} {xs : Array Operand} {ts : Array TypeId} {vs : List Value} {Φ : Value → HS → Prop} (hwt : Wt n ops fs o true) (hd : o.dst = some d) (hb : Nat.blt d n = true) (ho : o.op = .call { callee := .value c, args := xs, argTypes := ts })
    (hc : ev fs c = some (.func (.yield l) #[] #[])) (hv : evs fs xs.toList = some vs)
    (Y : ∀ w, Hp B M hs w → YieldAt Fence.wide 0 P l vs.toArray w fun e w' => Kp w w' ∧ ∃ v hs', e = .returned v ∧ Hp B M hs' w' ∧ Φ v hs')
    (k : ∀ v hs', Φ v hs' → TL Fence.wide P n B D M ops Q rest ((d, v) :: fs) hs') : TL Fence.wide P n B D M ops Q (o :: rest) fs hs :=
  ⟨fun a w ha hp hm => wpListIn_step fun K hK => by
    rw [if_pos (hwt a ha)]
    obtain ⟨fn, tmps, assign, body, hr, hround⟩ := Y w hp
    have h1 : xs.map a.eval = vs.toArray := by rw [← ha.evs hv]; apply Array.ext'; simp
    have hrun : (execOp a.eval o).run P w = .ok (.round l fn tmps assign body) w := by
      unfold execOp
      simp only [ho, resolve, ha.ev hc, Deferred.ofValue, h1, invoke, Sem.run_bind, Sem.run_pure, Result.andThen_ok]
      rw [← hr]
      congr 2
      apply Array.ext'
      simp
    refine zf8 (fun c' e => by rw [ho] at e; cases e) ?_
    rw [hrun, Oper.uponIn_round]
    refine ⟨(fun h => by cases h), hround.mono ?_⟩
    rintro e w' ⟨hk, v, hs', rfl, hp', hΦ⟩
    exact hK _ _ (by rw [hd]; exact (k v hs' hΦ).out _ w' (ha.put hb v) hp' ((hm.next hk).put _ _))⟩
theorem TL.bW {α : Type} {d l i : Nat} {c : Operand} {ys : Array Operand} {ts : Array TypeId} {enc : α → List Value} {xs : List α} {x : α} {E g : HS} {G : Nat → HS → Prop} {Z : HS → Prop} (hwt : Wt n ops fs o true) (hd : o.dst = some d) (hb : Nat.blt d n = true) (ho : o.op = .call { callee := .value c, args := ys, argTypes := ts })
    (hc : ev fs c = some (.func (.yield l) #[] #[])) (hv : evs fs ys.toList = some (enc x))
    (hy : ∀ i x g w, xs[i]? = some x → G i g → Hp B M (E ++ g) w → YieldAt Fence.wide 0 P l (enc x).toArray w fun e w' => Kp w w' ∧ ((e = .returned (.bool true) ∧ ∃ g', G (i + 1) g' ∧ Hp B M (E ++ g') w') ∨ (e = .returned (.bool false) ∧ ∃ z, Z z ∧ Hp B M (E ++ z) w')))
    (hx : xs[i]? = some x) (hG : G i g) (kt : ∀ g', G (i + 1) g' → TL Fence.wide P n B D M ops Q rest ((d, .bool true) :: fs) (E ++ g')) (kf : ∀ z, Z z → TL Fence.wide P n B D M ops Q rest ((d, .bool false) :: fs) (E ++ z)) : TL Fence.wide P n B D M ops Q (o :: rest) fs (E ++ g) :=
  TL.yield (Φ := fun v hs' => (v = .bool true ∧ ∃ g', G (i + 1) g' ∧ hs' = E ++ g') ∨ (v = .bool false ∧ ∃ z, Z z ∧ hs' = E ++ z)) hwt hd hb ho hc hv (fun w hw => by
    obtain ⟨fn, tmps, assign, body, hr, hround⟩ := hy i x g w hx hG hw
    refine ⟨fn, tmps, assign, body, hr, hround.mono ?_⟩
    rintro e w' ⟨hk, ⟨rfl, g', hg, hp⟩ | ⟨rfl, z, hz, hp⟩⟩
    · exact ⟨hk, _, _, rfl, hp, .inl ⟨rfl, g', hg, rfl⟩⟩
    · exact ⟨hk, _, _, rfl, hp, .inr ⟨rfl, z, hz, rfl⟩⟩) (by
    rintro v hs' (⟨rfl, g', hg, rfl⟩ | ⟨rfl, z, hz, rfl⟩)
    · exact kt g' hg
    · exact kf z hz)
def zfV (B D:World)(M:Nat→Prop)(H:HS→Prop)(Zx:Code→HS→Prop)(X:Ent):Exit→Act→World→Prop
 | .normal,_,w=>Kp D w∧∃z,H z∧Hp B M (z++[X]) w
 | .ret,_,w=>Kp D w∧∃z,Zx .ret z∧Hp B M (z++[X]) w
 | .exit id,_,w=>Kp D w∧∃z,Zx (.exit id) z∧Hp B M (z++[X]) w
 |_,_,_=>False
instance (B D:World) (M:Nat→Prop) (H:HS→Prop) (Zx:Code→HS→Prop) (X:Ent):NP (zfV B D M H Zx X):=⟨fun c a d v w h=>h⟩
theorem K.round {H:HS→Prop}{Zx:Code→HS→Prop}{X:Ent}(z:HS)(hz:H z)(h:(z++[X]).Sublist hs):K n B D M (zfV B D M H Zx X) .normal fs hs:=⟨fun _ _ _ hw hm=>⟨hm.1,z,hz,hw.sub h⟩⟩
theorem Hp.upLast {X X':Ent}{w w':World}{S:Nat→Prop}(h:Hp B M (hs++[X]) w)(ho:Only S w w')(hS:∀g,S g→X.fp g)(hok:X'.ok w')(hfp:∀g,X'.fp g→X.fp g):Hp B M (hs++[X']) w':=by
 have p:(hs++[X]).Perm (X :: hs):=List.perm_append_singleton X hs
 have p':(X' :: hs).Perm (hs++[X']):=(List.perm_append_singleton X' hs).symm
 exact ((h.perm p).upd ho (fun g _ hg=>hS g hg) hok (fun g hg=> .inl (hfp g hg))).perm p'
theorem ze7 {a:Act}{fs:SFs}{n:Nat}(ha:Fr n fs a):∀(ps:List Nat) (vs:List Value) (fs:SFs) (t:Array Value),Fr n fs ⟨t,[]⟩→(∀p∈ps,p<n)→ps.length=vs.length→Fr n ((ps.zip vs).reverse++fs) ⟨(ps.zip vs).foldl (fun t p=>t.setIfInBounds p.1 p.2) t,[]⟩
 | [],[],fs,t,h,_,_=>h
 | [],_ :: _,_,_,_,_,e=>by cases e
 |_ :: _,[],_,_,_,_,e=>by cases e
 |p :: ps,v :: vs,fs,t,h,hp,e=>by
  have h1:Fr n ((p,v) :: fs) ⟨t.setIfInBounds p v,[]⟩:=h.put (by simpa using hp p (by simp)) v
  have h2:=ze7 ha ps vs ((p,v) :: fs) (t.setIfInBounds p v) h1 (fun q hq=>hp q (by simp [hq])) (by simpa using e)
  simpa using h2
theorem T.bM {α : Type} {g : Operand} {ps : List Nat} {assign body : Code} {gf : FuncId} {lb : List Value} [hE : Enters P gf] (A : Nat → α → List Value → HS → Prop) (xs : List α) (E : HS) (G : Nat → HS → Prop) (Zx : Code → HS → Prop) (fa : Nat → α → List Value → SFs) (g0 : HS) (hg0 : G 0 g0) {W0 : World → Prop} (hk0 : ∀ i g w, G i g → Hp B M (E ++ g) w → W0 w)
    (hg : ev fs g = some (.func (.func gf) #[] lb.toArray)) (hit : zgt P gf lb A W0 xs E B M) (hps : ∀ p ∈ ps, p < n) (hen : ∀ i x vs gx, A i x vs gx → vs.length = ps.length) (h0 : (E ++ g0).Sublist hs)
    (hassign : ∀ (l i : Nat) x X D g vs gx, xs[i]? = some x → A i x vs gx → T (Fence.wide.inRound l) P n B D M assign (Exit.then (At n B D M (fa i x vs) ((E ++ (gx ++ g)) ++ [X])) (fun _ _ _ => False)) ((ps.zip vs).reverse ++ fs) ((E ++ (gx ++ g)) ++ [X]))
    (hbody : ∀ (l i : Nat) x X D g vs gx, xs[i]? = some x → A i x vs gx → G i g → T (Fence.wide.inRound l) P n B D M body (zfV B D M (fun z => ∃ y, z = E ++ y ∧ G (i + 1) y) (fun c z => ∃ y, z = E ++ y ∧ Zx c y) X) (fa i x vs) ((E ++ (gx ++ g)) ++ [X]))
    (hdone : ∀ g, G xs.length g → K n B D M Q .normal fs (E ++ g)) (hstop : ∀ c y, Zx c y → T Fence.wide P n B D M c Q fs (E ++ y)) : T Fence.wide P n B D M (.rangeFunc g ps.toArray assign body) Q fs hs :=
  ⟨fun a w ha hw hm => by
    refine wpIn_rangeFunc (F := Fence.wide) (n := 0) ?_
    intro fn hfn
    obtain ⟨rec, hrec⟩ : ∃ rec : LoopState → Option Code → Loop, rec = fun st pe => { state := st, pending := pe, fn, tmps := a.tmps, params := ps.toArray, assign, body, defers := w.heap.size } := ⟨_, rfl⟩
    obtain ⟨W1, hW1⟩ : ∃ W1, (w.alloc (.deferred (some []))).alloc (.loop (rec .ready none)) = W1 := ⟨_, rfl⟩
    obtain ⟨l, hl⟩ : ∃ l, l = w.heap.size + 1 := ⟨_, rfl⟩
    have hsz : (w.alloc (.deferred (some []))).heap.size = l := by rw [hl]; simp
    have hK1 : W1.heap[w.heap.size]? = some (.deferred (some [])) := by
      rw [← hW1]; exact (Below.heap_alloc _ _ _ (by simp)).trans (zeN w _)
    have hb1 : Below w.heap.size w (w.alloc (.deferred (some []))) := (Below.refl _ _).alloc (Nat.le_refl _) _
    have hw1 : Hp B M (hs ++ [Ent.lp l (rec .ready none)]) W1 := by
      have h1 := hw.below hb1
      have h2 := h1.fresh (e := Ent.lp l (rec .ready none)) (w' := W1) (by rw [← hW1]; exact (Below.refl _ _).alloc (Nat.le_refl _) _) (Ent.lp_ok.2 (by rw [← hW1, ← hsz]; exact zeN _ _)) (fun k hk => by rw [Ent.lp_fp.1 hk, hsz]; exact Nat.le_refl _)
      exact h2.perm (List.perm_append_singleton _ _).symm
    have hkp : Kp w W1 := by rw [← hW1]; exact (Kp.alloc w _).trans (Kp.alloc _ _)
    refine ⟨l, [mark w.heap.size], W1, { target := .fn (.func gf) lb.toArray, args := #[.func (.yield l) #[] #[]] }, W1, gf, (.func (.yield l) #[] #[] :: lb).toArray, W1, ?_, ?_, ?_, ?_, ?_, ?_⟩
    · rw [← hW1, hrec, hl]; exact run_enterLoop_outer _ _ _ _ _
    · simp only [resolve, ha.ev hg]
      simp [Deferred.ofValue, Act.eval]
    · exact fun _ _ => trivial
    · have := hE.run (.func (.yield l) #[] #[] :: lb).toArray W1
      simp only [invoke]
      rw [← this]
      congr 2
      apply Array.ext'
      simp
    · intro h; cases h
    · have hstart : Hp B M (E ++ (g0 ++ [Ent.lp l (rec .ready none)])) W1 := by
        rw [← List.append_assoc]; exact hw1.sub (h0.append (List.Sublist.refl _))
      have ho1 : ∀ (V : World) (o' : Obj), Only (· = l) V (V.putObj l o') := fun V o' => ⟨rfl, rfl, rfl, by rw [World.putObj_size]; exact Nat.le_refl _, fun k hk hne => World.putObj_heap_other hne⟩
      have kput : ∀ (V : World) (r : Loop) (o' : Obj), V.heap[l]? = some (.loop r) → Kp V (V.putObj l o') := fun V r o' h => Kp.only (ho1 _ _) (fun k e c => by subst e; rw [h]; simp)
      have hput : ∀ (V : World) (r r' : Loop) (hs : HS), Hp B M (hs ++ [Ent.lp l r]) V → Hp B M (hs ++ [Ent.lp l r']) (V.putObj l (.loop r')) ∧ V.heap[l]? = some (.loop r) := fun V r r' hs h => by
        have hl := Ent.lp_ok.1 (h.own (Ent.lp l r) (by simp))
        exact ⟨h.upLast (ho1 _ _) (fun k e => Ent.lp_fp.2 e) (Ent.lp_ok.2 (World.putObj_heap_same (Array.getElem?_eq_some_iff.1 hl).1)) (fun k hk => Ent.lp_fp.2 (Ent.lp_fp.1 hk)), hl⟩
      refine callsIn_wide.2 ((hit (fun i z => ∃ y, G i y ∧ z = y ++ [Ent.lp l (rec .ready none)]) (fun z => ∃ c y, Zx c y ∧ z = y ++ [Ent.lp l (rec .done (some c))]) l W1 _ ?_ ?_ ⟨g0, hg0, rfl⟩ hstart).mono ?_)
      · rintro i _ W ⟨g, hg, rfl⟩ hW
        rw [← List.append_assoc] at hW
        exact hk0 i g W hg (hW.sub (List.sublist_append_left _ _))
      · rintro i x vs gx _ W hx hA ⟨g, hg, rfl⟩ hW
        rw [← List.append_assoc gx, ← List.append_assoc] at hW
        have hen' := hen i x vs gx hA
        have hlp : W.heap[l]? = some (.loop (rec .ready none)) := Ent.lp_ok.1 (hW.own _ (by simp))
        have hy := run_yield (P := P) (args := vs.toArray) hlp (by rw [hrec]; simp [hen'])
        have hfr : Fr n ((ps.zip vs).reverse ++ fs) ⟨(ps.zip vs).foldl (fun t p => t.setIfInBounds p.1 p.2) a.tmps, []⟩ := ze7 ha ps vs fs a.tmps ⟨ha.size, ha.get⟩ hps hen'.symm
        have hact : ((rec .ready none).params.zip vs.toArray).foldl (fun tmps (t, a) => tmps.setIfInBounds t a) (rec .ready none).tmps = (ps.zip vs).foldl (fun t p => t.setIfInBounds p.1 p.2) a.tmps := by
          rw [hrec]
          simp [List.zip_toArray]
        rw [hact] at hy
        have e1 : (rec .ready none).fn = fn := by rw [hrec]
        have e2 : (rec .ready none).assign = assign := by rw [hrec]
        have e3 : (rec .ready none).body = body := by rw [hrec]
        rw [e1, e2, e3] at hy
        refine ⟨fn, _, assign, body, hy, roundIn_of_wpIn hfn ?_⟩
        refine wpIn_mono ((hassign l i x (Ent.lp l (rec .ready none)) W g vs gx hx hA).out _ W hfr hW ⟨Kp.refl W, [], rfl, List.nodup_nil, fun _ h => by cases h⟩) ?_
        rintro e a1 W2 hq
        cases e <;> try exact hq.elim
        obtain ⟨hf1, hp1, hm1⟩ := hq
        obtain ⟨hp2, hlp1⟩ := hput W2 _ { rec .ready none with state := .busy } _ hp1
        refine ⟨_, run_beginRound (P := P) hlp1 (by rw [hrec]), ?_⟩
        refine wpIn_mono ((hbody l i x (Ent.lp l { rec .ready none with state := .busy }) W g vs gx hx hA hg).out a1 _ hf1 hp2 (hm1.next (kput _ _ _ hlp1))) ?_
        have er : ∀ (j : Option Code), ({ ({ rec .ready none with state := .busy } : Loop) with state := if j.isNone then LoopState.ready else .done, pending := j } : Loop) = rec (if j.isNone then .ready else .done) j := fun j => by rw [hrec]
        rintro e a3 W3 hq
        cases e with
        | normal =>
          obtain ⟨hk3, z, ⟨y, rfl, hy⟩, hp3⟩ := hq
          obtain ⟨hp4, hl3⟩ := hput W3 _ (rec .ready none) _ hp3
          have hend := run_endRound (P := P) none hl3
          rw [er] at hend
          refine ⟨_, _, hend, hk3.trans (kput _ _ _ hl3), .inl ⟨rfl, _, ⟨y, hy, rfl⟩, ?_⟩⟩
          rw [← List.append_assoc]
          exact hp4
        | ret =>
          obtain ⟨hk3, z, ⟨y, rfl, hz⟩, hp3⟩ := hq
          obtain ⟨hp4, hl3⟩ := hput W3 _ (rec .done (some .ret)) _ hp3
          have hend := run_endRound (P := P) (some .ret) hl3
          rw [er] at hend
          refine ⟨_, _, hend, hk3.trans (kput _ _ _ hl3), .inr ⟨rfl, _, ⟨.ret, y, hz, rfl⟩, ?_⟩⟩
          rw [← List.append_assoc]
          exact hp4
        | exit id =>
          obtain ⟨hk3, z, ⟨y, rfl, hz⟩, hp3⟩ := hq
          obtain ⟨hp4, hl3⟩ := hput W3 _ (rec .done (some (.exit id))) _ hp3
          have hend := run_endRound (P := P) (some (.exit id)) hl3
          rw [er] at hend
          refine ⟨_, _, hend, hk3.trans (kput _ _ _ hl3), .inr ⟨rfl, _, ⟨.exit id, y, hz, rfl⟩, ?_⟩⟩
          rw [← List.append_assoc]
          exact hp4
        | goto t => exact hq.elim
        | panic c => exact hq.elim
        | outgrown => exact hq.elim
      · have mk : ∀ W2, Kp W1 W2 → Mk B D { a with defers := mark w.heap.size :: a.defers } W2 := fun W2 hk => by
          obtain ⟨h0, rs, h1, h2, h3⟩ := hm
          refine ⟨h0.trans (hkp.trans hk), w.heap.size :: rs, by rw [h1]; rfl, ?_, ?_⟩
          · rw [List.nodup_cons]
            refine ⟨fun hin => ?_, h2⟩
            have := (Array.getElem?_eq_some_iff.1 (h3 _ hin).1).1
            omega
          · intro r hr
            rcases List.mem_cons.1 hr with rfl | hr
            · exact ⟨hk.keep _ _ hK1, hw.size, h0.size⟩
            · exact ⟨(hkp.trans hk).keep _ _ (h3 r hr).1, (h3 r hr).2⟩
        rintro e W2 ⟨⟨v, rfl⟩, hk2, hend⟩
        rcases hend with ⟨_, ⟨g, hg, rfl⟩, hend⟩ | ⟨z, ⟨c, y, hz, rfl⟩, hend⟩
        · rw [← List.append_assoc] at hend
          obtain ⟨hp4, hl3⟩ := hput W2 _ (rec .exhausted none) _ hend
          have he := run_endLoop (P := P) hl3 (by rw [hrec]; simp)
          have e5 : ({ rec .ready none with state := .exhausted } : Loop) = rec .exhausted none := by rw [hrec]
          rw [e5] at he
          have hpe : (rec .ready none).pending = none := by rw [hrec]
          rw [hpe] at he
          refine ⟨none, _, he, ?_⟩
          exact (hdone g hg).out _ _ ⟨ha.size, ha.get⟩ (hp4.sub (List.sublist_append_left _ _)) (mk _ (hk2.trans (kput _ _ _ hl3)))
        · rw [← List.append_assoc] at hend
          obtain ⟨hp4, hl3⟩ := hput W2 _ (rec .exhausted (some c)) _ hend
          have he := run_endLoop (P := P) hl3 (by rw [hrec]; simp)
          have e5 : ({ rec .done (some c) with state := .exhausted } : Loop) = rec .exhausted (some c) := by rw [hrec]
          rw [e5] at he
          have hpe : (rec .done (some c)).pending = some c := by rw [hrec]
          rw [hpe] at he
          refine ⟨some c, _, he, ?_⟩
          exact (hstop c y hz).out _ _ ⟨ha.size, ha.get⟩ (hp4.sub (List.sublist_append_left _ _)) (mk _ (hk2.trans (kput _ _ _ hl3)))⟩
theorem T.bB {α : Type} {g : Operand} {ps : List Nat} {assign body : Code} {gf : FuncId} {lb : List Value} [hE : Enters P gf] (enc : α → List Value) (xs : List α) (E : HS) (G : Nat → HS → Prop) (Zx : Code → HS → Prop) (fa : α → SFs) (g0 : HS) (hg0 : G 0 g0)
    (hg : ev fs g = some (.func (.func gf) #[] lb.toArray)) (hit : IterAt P gf lb enc xs E B M) (hps : ∀ p ∈ ps, p < n) (hen : ∀ x, (enc x).length = ps.length) (h0 : (E ++ g0).Sublist hs)
    (hassign : ∀ (l i : Nat) x X D g, xs[i]? = some x → T (Fence.wide.inRound l) P n B D M assign (Exit.then (At n B D M (fa x) ((E ++ g) ++ [X])) (fun _ _ _ => False)) ((ps.zip (enc x)).reverse ++ fs) ((E ++ g) ++ [X]))
    (hbody : ∀ (l i : Nat) x X D g, xs[i]? = some x → G i g → T (Fence.wide.inRound l) P n B D M body (zfV B D M (fun z => ∃ y, z = E ++ y ∧ G (i + 1) y) (fun c z => ∃ y, z = E ++ y ∧ Zx c y) X) (fa x) ((E ++ g) ++ [X]))
    (hdone : ∀ g, G xs.length g → K n B D M Q .normal fs (E ++ g)) (hstop : ∀ c y, Zx c y → T Fence.wide P n B D M c Q fs (E ++ y)) : T Fence.wide P n B D M (.rangeFunc g ps.toArray assign body) Q fs hs := 
  T.bM (fun _ x vs gx => vs = enc x ∧ gx = []) xs E G Zx (fun _ x _ => fa x) g0 hg0 (fun _ _ _ _ _ => trivial) hg hit.toH hps (fun i x vs gx h => by rw [h.1]; exact hen x) h0
    (fun l i x X D g vs gx hx h => by obtain ⟨rfl, rfl⟩ := h; exact hassign l i x X D g hx) (fun l i x X D g vs gx hx h hG => by obtain ⟨rfl, rfl⟩ := h; exact hbody l i x X D g hx hG) hdone hstop
theorem T.range {α : Type} {g : Operand} {ps : List Nat} {assign body : Code} {gf : FuncId} {lb : List Value} [hE : Enters P gf] (enc : α → List Value) (xs : List α) (E : HS) (G : Nat → HS → Prop) (Zx : Code → HS → Prop) (fa : α → SFs) (g0 : HS) (hg0 : G 0 g0)
    (hg : ev fs g = some (.func (.func gf) #[] lb.toArray)) (hit : Iter P gf lb enc xs E) (hps : ∀ p ∈ ps, p < n) (hen : ∀ x, (enc x).length = ps.length) (h0 : (E ++ g0).Sublist hs)
    (hassign : ∀ (l i : Nat) x X D g, xs[i]? = some x → T (Fence.wide.inRound l) P n B D M assign (Exit.then (At n B D M (fa x) ((E ++ g) ++ [X])) (fun _ _ _ => False)) ((ps.zip (enc x)).reverse ++ fs) ((E ++ g) ++ [X]))
    (hbody : ∀ (l i : Nat) x X D g, xs[i]? = some x → G i g → T (Fence.wide.inRound l) P n B D M body (zfV B D M (fun z => ∃ y, z = E ++ y ∧ G (i + 1) y) (fun c z => ∃ y, z = E ++ y ∧ Zx c y) X) (fa x) ((E ++ g) ++ [X]))
    (hdone : ∀ g, G xs.length g → K n B D M Q .normal fs (E ++ g)) (hstop : ∀ c y, Zx c y → T Fence.wide P n B D M c Q fs (E ++ y)) : T Fence.wide P n B D M (.rangeFunc g ps.toArray assign body) Q fs hs := T.bB enc xs E G Zx fa g0 hg0 hg (hit B M) hps hen h0 hassign hbody hdone hstop
end
instance (k:Nat) (v:Value) [h:OneC v]:OneCs (List.replicate k v):=⟨fun x hx=>by rw [(List.mem_replicate.1 hx).2];exact h.h⟩
section
variable {F:Fence}[hF:Calm F]{P:Program}{n:Nat}{B D:World}{M:Nat→Prop}{Q:Exit→Act→World→Prop}{fs:SFs}{hs:HS}{ops:Array Oper}{rest:List Oper}{o:Oper}{v:Value}
theorem Hp.start {w:World}{e:Ent}(h:e.ok w):Hp w e.fp [e] w:=
 ⟨rfl,rfl,rfl,Nat.le_refl _,fun _ _ _=>rfl,fun x hx=>by simp at hx;subst hx;exact h,fun x hx g hg=>by simp at hx;subst hx;exact .inl hg,List.pairwise_singleton _ _⟩
theorem Ew.bv (i : Nat) {ι : Type} {e : Ent} {φ : ι → Prop} {val : ι → Value} {es : ι → Ent} {hs' : ι → HS} {c : Operand} {xs : Array Operand} {ts : Array TypeId} {f : FuncId} {vs : List Value} [hE : Enters P f] (ho : o.op = .call { callee := .value c, args := xs, argTypes := ts }) (hc : ev fs c = some (.func (.func f) #[] #[])) (hv : evs fs xs.toList = some vs) (hi : hs[i]? = some e)
    (C : ∀ w, Hp B M hs w → Calls P f vs.toArray w (fun x w' => ∃ y, φ y ∧ x = .returned (val y) ∧ Hp w e.fp [es y] w')) [hH : ∀ y, SetAt hs i (es y) (hs' y)] : Ew P n B M fs hs o (fun v' hs'' => ∃ y, φ y ∧ v' = val y ∧ hs'' = hs' y) :=
  Ew.bH ho hc hv fun w hp => (C w hp).mono fun x w' ⟨y, hy, he, hk⟩ => ⟨val y, hs' y, he, Kp.only hk.only (fun g hg c => e.nd (hp.get hi) g hg c), by
    rw [← (hH y).h]
    exact hp.updAt hi hk.only (fun g _ hg => hg) (hk.own _ (by simp)) (fun g hg => hk.new _ (by simp) g hg), y, hy, rfl, rfl⟩
theorem Yv.bN (i:Nat){t e e':TypeId}{k size len:Nat}{l:List Value}{x:Operand}{sv:Value}[hT:TySl P t e k](ho:o.op= .call { callee:= .builtin .len,args:= #[x],argTypes:= #[t] })(hx:ev fs x=some sv)(hi:hs[i]?=some (.sl sv e' size len l)):Yv P n B M fs hs o (.int .i64 (len:Int)):=fun a w ha hw=>by
 rcases (Ent.sl_ok.1 (hw.get hi)).2 with ⟨rfl,h0⟩|⟨g,cap,_,rfl,_⟩
 ·subst h0;exact Yv.aq (P:=P) (B:=B) (M:=M) (hs:=hs) (n:=n) ho hx a w ha hw
 ·exact Yv.aq (P:=P) (B:=B) (M:=M) (hs:=hs) (n:=n) ho hx a w ha hw
theorem zf7 {l m:List Value}{p N:Nat}(h:p+m.length≤N):(l.take p++m++l.drop (p+m.length)).take N=(l.take N).take p++m++(l.take N).drop (p+m.length):=by
 rcases Nat.lt_or_ge l.length p with hl|hl
 ·have e1:l.take p=l:=List.take_of_length_le (by omega)
  have e2:l.drop (p+m.length)=[]:=List.drop_of_length_le (by omega)
  have e3:l.take N=l:=List.take_of_length_le (by omega)
  rw [e2,e3,e1,e2]
  exact List.take_of_length_le (by simp;omega)
 ·rw [List.take_append,List.take_of_length_le (by simp;omega),List.take_take,Nat.min_eq_left (by omega),List.drop_take]
  simp
  rw [Nat.min_eq_left hl]
theorem Hp.spliceS {w : World} (hp : Hp B M hs w) {i g k cap size p : Nat} {e : TypeId} {l m : List Value} (hi : hs[i]? = some (.sl (.slice (some ⟨g, 0, none⟩) k cap) e size k l)) (hl : p + m.length ≤ l.length) :
    ∃ cur : List Value, w.heap[g]? = some (.cells cur.toArray e (0, 0)) ∧ p + m.length ≤ cur.length ∧ Hp B M (hs.set i (.sl (.slice (some ⟨g, 0, none⟩) k cap) e size k (l.take p ++ m ++ l.drop (p + m.length)))) (w.setRow g (cur.take p ++ m ++ cur.drop (p + m.length)).toArray) := by
  have h := Ent.sl_ok.1 (hp.get hi)
  rcases h.2 with ⟨h', _⟩ | ⟨g', cap', cur, h', hb, hg, hnc, hcm, hcs, htake⟩
  · simp at h'
  · simp only [Value.slice.injEq, Option.some.injEq, Addr.mk.injEq, and_true, true_and] at h'
    obtain ⟨rfl, rfl⟩ := h'
    have hlen : l.length ≤ cur.toList.length := by rw [← htake]; simp; omega
    have h1 := h.1
    refine ⟨cur.toList, by simpa using hg, by omega, hp.updAt hi (zc2 w g _) (fun k _ hk => Ent.sl_fp.2 (by rw [hk]; rfl)) (Ent.sl_ok.2 ⟨by simp; omega, .inr ⟨g, cap, _, rfl, hb, setRow_heap w g _ _ e _ hg, hnc, hcm, ?_, ?_⟩⟩) (fun k hk => .inl (Ent.sl_fp.2 (Ent.sl_fp.1 hk)))⟩
    · simp at hlen ⊢; omega
    · rw [List.toList_toArray, zf7 (by omega), htake]
theorem Ew.bX (i : Nat) {t e : TypeId} [hT : TyS P t] {x y : Operand} {g p k cap size : Nat} {l : List Value} {hs' : HS} {val : Value} [hv : OneC val] (ho : o.op = .store t x y) (hx : ev fs x = some (.pointer (some ⟨g, p, none⟩))) (hy : ev fs y = some val)
    (hi : hs[i]? = some (.sl (.slice (some ⟨g, 0, none⟩) k cap) e size k l)) (hp : p < l.length) [hH : SetAt hs i (.sl (.slice (some ⟨g, 0, none⟩) k cap) e size k (l.set p val)) hs'] : Ew P n B M fs hs o (fun v hs'' => v = undef ∧ hs'' = hs') := Ew.bh fun a w ha hw => by
  obtain ⟨cur, h1, h2, h3⟩ := hw.spliceS (m := [val]) (p := p) hi (by simp; omega)
  have h := zcF (P := P) (w := w) hT.h ho (ha.ev hx) (ha.ev hy) (m := [val]) hv.cells rfl (by simpa using hv.h) h1 h2
  refine ⟨_, _, h, zdp h1 _, ?_, rfl, rfl⟩
  rw [← hH.h, ← zdD l p val hp]
  exact h3
theorem Ew.bU (i : Nat) {t e : TypeId} {q : Nat} [hT : TyA P t q] {x y : Operand} {g p k cap size : Nat} {l m : List Value} {hs' : HS} [hv : OneCs m] (ho : o.op = .store t x y) (hx : ev fs x = some (.pointer (some ⟨g, p, none⟩))) (hy : ev fs y = some (.agg m.toArray))
    (hi : hs[i]? = some (.sl (.slice (some ⟨g, 0, none⟩) k cap) e size k l)) (hk : m.length = q) (hp : p + m.length ≤ l.length) [hH : SetAt hs i (.sl (.slice (some ⟨g, 0, none⟩) k cap) e size k (l.take p ++ m ++ l.drop (p + m.length))) hs'] : Ew P n B M fs hs o (fun v hs'' => v = undef ∧ hs'' = hs') := Ew.bh fun a w ha hw => by
  obtain ⟨cur, h1, h2, h3⟩ := hw.spliceS (m := m) hi hp
  have h := zcF (P := P) (w := w) hT.h ho (ha.ev hx) (ha.ev hy) (m := m) rfl hk hv.h h1 h2
  refine ⟨_, _, h, zdp h1 _, ?_, rfl, rfl⟩
  rw [← hH.h]
  exact h3
end
abbrev U (b:BitVec 64):Value:= .int .u64 (b.toNat:Int)
theorem zhP (b:BitVec 64):IntKind.u64.wrap (b.toNat:Int)=(b.toNat:Int):=by
 rw [IntKind.wrap_u64];have:=b.isLt;omega
theorem zdc (b:BitVec 64):BitVec.ofInt 64 (b.toNat:Int)=b:=by
 rw [BitVec.ofInt_natCast];simp
theorem U.one (b:BitVec 64):OneC (U b):=inferInstance
section
variable {P:Program}{n:Nat}{B D:World}{M:Nat→Prop}{fs:SFs}{hs:HS}{o:Oper}{v:Value}
theorem zgm {op:BinOp}{a b r:BitVec 64}(h:(op= .and∧r=a &&& b)∨(op= .or∧r=a ||| b)∨(op= .xor∧r=a ^^^ b)∨(op= .andNot∧r=a &&& ~~~b))(t:TypeId)(w:World):(binOp op t (U a) (U b)).run P w= .ok (U r) w:=by
 rcases h with ⟨rfl,rfl⟩|⟨rfl,rfl⟩|⟨rfl,rfl⟩|⟨rfl,rfl⟩
 ·have e:(binOp .and t (U a) (U b)).run P w= .ok (.int .u64 (IntKind.u64.wrap ((BitVec.ofInt 64 (a.toNat:Int) &&& BitVec.ofInt 64 (b.toNat:Int)).toNat:Int))) w:=rfl
  rw [e,zdc,zdc,zhP]
 ·have e:(binOp .or t (U a) (U b)).run P w= .ok (.int .u64 (IntKind.u64.wrap ((BitVec.ofInt 64 (a.toNat:Int) ||| BitVec.ofInt 64 (b.toNat:Int)).toNat:Int))) w:=rfl
  rw [e,zdc,zdc,zhP]
 ·have e:(binOp .xor t (U a) (U b)).run P w= .ok (.int .u64 (IntKind.u64.wrap ((BitVec.ofInt 64 (a.toNat:Int) ^^^ BitVec.ofInt 64 (b.toNat:Int)).toNat:Int))) w:=rfl
  rw [e,zdc,zdc,zhP]
 ·have e:(binOp .andNot t (U a) (U b)).run P w= .ok (.int .u64 (IntKind.u64.wrap ((BitVec.ofInt 64 (a.toNat:Int) &&& ~~~(BitVec.ofInt 64 (b.toNat:Int))).toNat:Int))) w:=rfl
  rw [e,zdc,zdc,zhP]
theorem Yv.bI {op:BinOp}{x y:Operand}{t u:TypeId}{a b r:BitVec 64}(h:(op= .and∧r=a &&& b)∨(op= .or∧r=a ||| b)∨(op= .xor∧r=a ^^^ b)∨(op= .andNot∧r=a &&& ~~~b))(ho:o.op= .binOp op t x y u)(hx:ev fs x=some (U a))(hy:ev fs y=some (U b)):Yv P n B M fs hs o (U r):=fun f w ha _=>by
 have hr:=zgm (P:=P) h t w
 have hg:(eqGuard op t x y (U a) (U b)).run P w= .ok () w:=by rcases h with ⟨rfl,rfl⟩|⟨rfl,rfl⟩|⟨rfl,rfl⟩|⟨rfl,rfl⟩ <;> rfl
 unfold execOp
 simp only [ho,ha.ev hx,ha.ev hy]
 rw [Sem.run_bind,Sem.run_bind,hg]
 simp only [Result.andThen,hr]
 rfl
theorem Yv.aV {x y:Operand}{t u:TypeId}{a b:BitVec 64}(ho:o.op= .binOp .and t x y u)(hx:ev fs x=some (U a))(hy:ev fs y=some (U b)):Yv P n B M fs hs o (U (a &&& b)):=Yv.bI (.inl ⟨rfl,rfl⟩) ho hx hy
theorem Yv.bC {x y:Operand}{t u:TypeId}{a b:BitVec 64}(ho:o.op= .binOp .or t x y u)(hx:ev fs x=some (U a))(hy:ev fs y=some (U b)):Yv P n B M fs hs o (U (a ||| b)):=Yv.bI (.inr (.inl ⟨rfl,rfl⟩)) ho hx hy
theorem Yv.bp {x y:Operand}{t u:TypeId}{a b:BitVec 64}(ho:o.op= .binOp .andNot t x y u)(hx:ev fs x=some (U a))(hy:ev fs y=some (U b)):Yv P n B M fs hs o (U (a &&& ~~~b)):=Yv.bI (.inr (.inr (.inr ⟨rfl,rfl⟩))) ho hx hy
theorem Yv.bb {x y:Operand}{t u:TypeId}{a:BitVec 64}{q:IntKind}{z:Int}(i:Nat)(ho:o.op= .binOp .shl t x y u)(hx:ev fs x=some (U a))(hy:ev fs y=some (.int q z))(hz:z=(i:Int))(hi:i<64):Yv P n B M fs hs o (U (a <<< i)):=fun f w ha _=>by
 subst hz
 have hr:(binOp .shl t (U a) (.int q (i:Int))).run P w= .ok (U (a <<< i)) w:=by
  show (Op.shift .shl .u64 (a.toNat:Int) q (i:Int)).run P w=_
  unfold Op.shift
  rw [if_neg (by omega)]
  have e:min (i:Int).toNat IntKind.u64.bits=i:=by show min (i:Int).toNat 64=i;omega
  simp only [e]
  show Result.ok _ _=_
  congr 2
  rw [IntKind.wrap_u64,BitVec.toNat_shiftLeft,Nat.shiftLeft_eq,Int.natCast_emod,Int.natCast_mul,Int.natCast_pow]
  rfl
 unfold execOp
 simp only [ho,ha.ev hx,ha.ev hy]
 rw [Sem.run_bind,Sem.run_bind,show (eqGuard .shl t x y (U a) (.int q (i:Int))).run P w= .ok () w from rfl]
 simp only [Result.andThen,hr]
 rfl
theorem Yv.aY {x y:Operand}{t u:TypeId}{a:BitVec 64}{q:IntKind}{z:Int}(i:Nat)(ho:o.op= .binOp .shr t x y u)(hx:ev fs x=some (U a))(hy:ev fs y=some (.int q z))(hz:z=(i:Int))(hi:i<64):Yv P n B M fs hs o (U (a >>> i)):=fun f w ha _=>by
 subst hz
 have hr:(binOp .shr t (U a) (.int q (i:Int))).run P w= .ok (U (a >>> i)) w:=by
  show (Op.shift .shr .u64 (a.toNat:Int) q (i:Int)).run P w=_
  unfold Op.shift
  rw [if_neg (by omega)]
  have e:min (i:Int).toNat IntKind.u64.bits=i:=by show min (i:Int).toNat 64=i;omega
  simp only [e]
  show Result.ok _ _=_
  congr 2
  rw [Int.fdiv_eq_ediv_of_nonneg _ (by exact Int.le_of_lt (Int.pow_pos (by decide))),BitVec.toNat_ushiftRight,Nat.shiftRight_eq_div_pow]
  norm_cast
 unfold execOp
 simp only [ho,ha.ev hx,ha.ev hy]
 rw [Sem.run_bind,Sem.run_bind,show (eqGuard .shr t x y (U a) (.int q (i:Int))).run P w= .ok () w from rfl]
 simp only [Result.andThen,hr]
 rfl
theorem Yv.ck {x y:Operand}{t u:TypeId}{a b:BitVec 64}(ho:o.op= .binOp .sub t x y u)(hx:ev fs x=some (U a))(hy:ev fs y=some (U b)):Yv P n B M fs hs o (U (a - b)):=
 (Yv.au (v:= .int .u64 (IntKind.u64.wrap ((a.toNat:Int) - (b.toNat:Int)))) (by rw [ho];simp only [zeM,hx,hy];rfl)).eq (by
  congr 1
  rw [IntKind.wrap_u64,BitVec.toNat_sub]
  have:=a.isLt;have:=b.isLt
  omega)
theorem Yv.bY {x:Operand}{t:TypeId}{a:BitVec 64}(ho:o.op= .unOp .xor t x)(hx:ev fs x=some (U a)):Yv P n B M fs hs o (U (~~~a)):=fun f w ha _=>by
 have hr:(Op.unary .xor (U a)).run P w= .ok (U (~~~a)) w:=by
  have e:(Op.unary .xor (U a)).run P w= .ok (.int .u64 (IntKind.u64.wrap ((BitVec.ofInt 64 (IntKind.u64.max) ^^^ BitVec.ofInt 64 (a.toNat:Int)).toNat:Int))) w:=rfl
  rw [e,zdc,show BitVec.ofInt 64 IntKind.u64.max=BitVec.allOnes 64 from by decide,BitVec.allOnes_xor,zhP]
 unfold execOp
 simp only [ho,ha.ev hx]
 rw [Sem.run_bind,hr]
 rfl
end
section
variable {P:Program}{n:Nat}{B D:World}{M:Nat→Prop}{fs:SFs}{hs:HS}{o:Oper}{v:Value}
theorem Ew.aN (i : Nat) {t u : TypeId} [hT : TyS P t] {x y : Operand} {g p : Nat} {l : List Value} {hs' : HS} {val : Value} [hv : OneC val] (l' : List Value) (ho : o.op = .store t x y) (hx : ev fs x = some (.pointer (some ⟨g, p, none⟩))) (hy : ev fs y = some val)
    (hi : hs[i]? = some (.row g u l)) (hp : p < l.length) (hl : l.set p val = l') [hH : SetAt hs i (.row g u l') hs'] : Ew P n B M fs hs o (fun v hs'' => v = undef ∧ hs'' = hs') := by
  haveI : SetAt l p val l' := ⟨hl⟩
  exact Ew.aB i ho hx hy hi hp
theorem Ew.aF (i : Nat) {t e : TypeId} [hT : TyS P t] {x y : Operand} {g p k cap size : Nat} {l : List Value} {hs' : HS} {val : Value} [hv : OneC val] (l' : List Value) (ho : o.op = .store t x y) (hx : ev fs x = some (.pointer (some ⟨g, p, none⟩))) (hy : ev fs y = some val)
    (hi : hs[i]? = some (.sl (.slice (some ⟨g, 0, none⟩) k cap) e size k l)) (hp : p < l.length) (hl : l.set p val = l') [hH : SetAt hs i (.sl (.slice (some ⟨g, 0, none⟩) k cap) e size k l') hs'] : Ew P n B M fs hs o (fun v hs'' => v = undef ∧ hs'' = hs') := by
  subst hl
  exact Ew.bX i ho hx hy hi hp
end
instance (ws:List (BitVec 64)):OneCs (ws.map fun b=>U b):=⟨fun x hx=>by obtain ⟨b,_,rfl⟩:=List.mem_map.1 hx;rfl⟩
section
variable {P:Program}{n:Nat}{B D:World}{M:Nat→Prop}{fs:SFs}{hs:HS}{o:Oper}{v:Value}
theorem Yv.bt {x y:Operand}{t u:TypeId}{a b:BitVec 64}(ho:o.op= .binOp .add t x y u)(hx:ev fs x=some (U a))(hy:ev fs y=some (U b)):Yv P n B M fs hs o (U (a+b)):=
 (Yv.au (v:= .int .u64 (IntKind.u64.wrap ((a.toNat:Int)+(b.toNat:Int)))) (by rw [ho];simp only [zeM,hx,hy];rfl)).eq (by
  rw [show IntKind.u64.wrap ((a.toNat:Int)+(b.toNat:Int))=((a+b).toNat:Int) from by rw [IntKind.wrap_u64,BitVec.toNat_add];omega])
theorem Yv.cr {x y:Operand}{t u:TypeId}{a b:BitVec 64}(ho:o.op= .binOp .mul t x y u)(hx:ev fs x=some (U a))(hy:ev fs y=some (U b)):Yv P n B M fs hs o (U (a*b)):=
 (Yv.au (v:= .int .u64 (IntKind.u64.wrap ((a.toNat:Int) * (b.toNat:Int)))) (by rw [ho];simp only [zeM,hx,hy];rfl)).eq (by
  rw [show IntKind.u64.wrap ((a.toNat:Int) * (b.toNat:Int))=((a*b).toNat:Int) from by rw [IntKind.wrap_u64,BitVec.toNat_mul,Int.natCast_emod,Int.natCast_mul];rfl])
theorem Yv.ct {x:Operand}{t:TypeId}{a:BitVec 64}(ho:o.op= .unOp .neg t x)(hx:ev fs x=some (U a)):Yv P n B M fs hs o (U (-a)):=fun f w ha _=>by
 have hr:(Op.unary .neg (U a)).run P w= .ok (U (-a)) w:=by
  have e:(Op.unary .neg (U a)).run P w= .ok (.int .u64 (IntKind.u64.wrap (0 - (a.toNat:Int)))) w:=rfl
  rw [e]
  congr 2
  rw [IntKind.wrap_u64,BitVec.toNat_neg]
  have:=a.isLt
  omega
 unfold execOp
 simp only [ho,ha.ev hx]
 rw [Sem.run_bind,hr]
 rfl
theorem Ew.bD {t e : TypeId} {size bytes c : Nat} {z : List Value} {x y : Operand} {q q' : IntKind} {yi : Int} [hT : TyE P t e size bytes z] (ho : o.op = .makeSlice t x y) (hx : ev fs x = some (.int q 0)) (hy : ev fs y = some (.int q' yi)) (hyi : yi = (c : Int)) (hk : c ≤ 9223372036854775807) (hb : bytes * c ≤ 281474976710656) :
    Ew P n B M fs hs o (fun v hs' => ∃ g, v = .slice (some ⟨g, 0, none⟩) 0 c ∧ hs' = .sl (.slice (some ⟨g, 0, none⟩) 0 c) e size 0 [] :: hs) := Ew.aM fun a w ha hp => by
  obtain ⟨inf, zv, hU, hinf, hz, hzc, rfl, rfl, hzs, hpos⟩ := hT.get
  subst hyi
  obtain ⟨w', hr, hown, hgr⟩ := run_make_own (P := P) w 0 t e inf zv inf.size hU hinf hz rfl q q' c hb (by unfold maxLen; omega) (Nat.zero_le _)
  refine ⟨_, w', _, ?_, Kp.only (zbG hgr) (fun g hg => by cases hg), hp.fresh ⟨hgr.os, hgr.tape, hgr.output, hgr.size, fun k hk => hgr.block k hk (by simp)⟩ (Ent.sl_ok.2 hown) (fun p hp => ?_), w.heap.size, rfl, rfl⟩
  · unfold execOp
    simp [ho, ha.ev hx, ha.ev hy, hr]
  · have := Ent.sl_fp.1 hp
    simp [Value.ownBlock] at this
    omega
end
def Tab (w:World):Prop:=∀j,j<64→w.cell? ⟨0,j,none⟩=some (.int .u8 (Lib.deBruijn64tab.getD j 0:Nat))
theorem Tab.kept {B w:World}{M:Nat→Prop}{hs:HS}(hw:Hp B M hs w)(h:Tab B)(hM:¬M 0):Tab w:=fun j hj=>hw.cellB (h j hj) hM
theorem Tab.keptF {B w:World}{hs:HS}(hw:Hp B (fun _=>False) hs w)(h:Tab B):Tab w:=h.kept hw (fun h=>h)
theorem Tab.size {w:World}(h:Tab w):0<w.heap.size:=zgp (h 0 (by decide))
def ctz (a:BitVec 64):Nat:=Lib.ctz 64 a.toNat
theorem zeU {a:BitVec 64}(ha:a≠0#64):∃m,a.toNat=2 ^ ctz a* (2*m+1)∧ctz a<64:=by
 have h0:a.toNat≠0:=fun h=>ha (BitVec.eq_of_toNat_eq (by simpa using h))
 have:=Lib.ctzFrom_spec 64 a.toNat (by omega) a.isLt
 unfold ctz Lib.ctz
 rw [if_neg h0]
 exact this
theorem zeD {a:BitVec 64}(ha:a≠0#64):ctz a<64:=by obtain ⟨m,_,h⟩:=zeU ha;exact h
theorem zkk {a:BitVec 64}(ha:a≠0#64):(((a &&& -a) *285870213051353865#64) >>> 58).toNat=2 ^ ctz a*285870213051353865 % 18446744073709551616 / 288230376151711744:=by
 have h0:a.toNat≠0:=fun h=>ha (BitVec.eq_of_toNat_eq (by simpa using h))
 have hl:=(Lib.lowest_bit 64 a.toNat h0 a.isLt).1
 have hlt:=a.isLt
 rw [BitVec.toNat_ushiftRight,BitVec.toNat_mul,BitVec.toNat_and,BitVec.toNat_neg,Nat.mod_eq_of_lt (show 2 ^ 64 - a.toNat<2 ^ 64 by omega),hl,Nat.shiftRight_eq_div_pow]
 rfl
theorem zj9 {a:BitVec 64}(ha:a≠0#64):(((a &&& -a) *285870213051353865#64) >>> 58).toNat<64∧Lib.deBruijn64tab.getD (((a &&& -a) *285870213051353865#64) >>> 58).toNat 0=ctz a:=by
 rw [zkk ha];exact Lib.deBruijn64_at _ (zeD ha)
theorem zcz {a:BitVec 64}(ha:a≠0#64)(j:Nat):(a.getLsbD (ctz a)=true)∧(j<ctz a→a.getLsbD j=false):=by
 obtain ⟨m,he,hlt⟩:=zeU ha
 have hb:∀j,a.getLsbD j=(2 ^ ctz a* (2*m+1)).testBit j:=fun j=>by rw [←he];rfl
 constructor
 ·rw [hb,Nat.testBit_two_pow_mul];simp
 ·intro hj
  rw [hb,Nat.testBit_two_pow_mul];simp;omega
theorem zdy {a:BitVec 64}(ha:a≠0#64)(j:Nat):(a &&& (a - 1#64)).getLsbD j=(a.getLsbD j&& !decide (j=ctz a)):=by
 obtain ⟨m,he,hlt⟩:=zeU ha
 have hb:∀j,a.getLsbD j=(2 ^ ctz a* (2*m+1)).testBit j:=fun j=>by rw [←he];rfl
 have h2:(2 ^ ctz a:Nat) > 0:=Nat.two_pow_pos _
 have hs:(a - 1#64).toNat=2 ^ ctz a* (2*m)+(2 ^ ctz a - 1):=by
  rw [BitVec.toNat_sub]
  have:=a.isLt
  have e:2 ^ ctz a* (2*m+1)=2 ^ ctz a* (2*m)+2 ^ ctz a:=by rw [Nat.mul_add,Nat.mul_one]
  rw [e] at he
  simp only [BitVec.toNat_ofNat]
  omega
 have hb2:(a - 1#64).getLsbD j=(2 ^ ctz a* (2*m)+(2 ^ ctz a - 1)).testBit j:=by rw [←hs];rfl
 rw [BitVec.getLsbD_and,hb2,hb j,Nat.testBit_two_pow_mul_add _ (by omega),Nat.testBit_two_pow_mul]
 by_cases h1:j<ctz a
 ·rw [if_pos h1,decide_eq_false (show ¬ctz a≤j by omega)];simp
 ·rw [if_neg h1,decide_eq_true (show ctz a≤j by omega)]
  simp only [Bool.true_and]
  by_cases h3:j=ctz a
  ·subst h3;simp
  ·rw [decide_eq_false h3,Bool.not_false,Bool.and_true]
   obtain ⟨i,hi⟩:∃i,j - ctz a=i+1:=⟨j - ctz a - 1,by omega⟩
   rw [hi,Nat.testBit_succ,Nat.testBit_succ,show 2*m / 2=m by omega,show (2*m+1) / 2=m by omega,Bool.and_self]
section
variable {F:Fence}{P:Program}{b:Frame}{a:Act}{k:List Item}{cs:List Frame}{w:World}{Q:Exit→Act→World→Prop}{n:Nat}
theorem zbt {c:Code}:step P (lone (b.atR a (.code (.scope c) :: k)) cs w)= .next (lone (b.atR a (.code c :: .inScope c :: k)) cs w):=step_lone_go (by simp [stepG,stepG.exec,Frame.atR])
theorem zeP {c:Code}:step P (lone (b.atR a (.inScope c :: k)) cs w)= .next (lone (b.atR a k) cs w):=step_lone_go (by simp [stepG,stepG.exec,Frame.atR])
theorem zg4 {c : Code} (h : c.wpIn F n P (Exit.noGoto Q) a w) : (Code.scope c).wpIn F n P Q a w := by
  intro b k cs hro hb hr
  have h0 : (lone (b.atR a (.code (.scope c) :: k)) cs w).fenced P F := fenced_calm hb hr rfl
  obtain ⟨e, a₁, w₁, hq, harr⟩ := h b (.inScope c :: k) cs hro hb hr
  cases e with
  | normal => exact ⟨.normal, a₁, w₁, hq, .head h0 zbt (StepsIn.trans harr (.one (fenced_calm hb hr rfl) zeP))⟩
  | exit id' =>
    have hx : exitTo id' (.inScope c :: k) = exitTo id' k := by simp [exitTo]
    exact ⟨.exit id', a₁, w₁, hq, fun k' hk => .head h0 zbt (harr.1 k' (by rw [hx]; exact hk)),
        fun hr' hk => let ⟨k₁, h1, h2⟩ := harr.2 hr' (by rw [hx]; exact hk); ⟨k₁, h1, .head h0 zbt h2⟩⟩
  | goto l => exact hq.elim
  | ret => exact ⟨_, a₁, w₁, hq, .of_steps (.one h0 zbt) harr⟩
  | panic ch => exact ⟨_, a₁, w₁, hq, .of_steps (.one h0 zbt) harr⟩
  | outgrown => exact ⟨_, a₁, w₁, hq, .of_steps (.one h0 zbt) harr⟩
end
section
variable {F:Fence}{P:Program}{n:Nat}{B D:World}{M:Nat→Prop}{Q:Exit→Act→World→Prop}{fs:SFs}{hs:HS}{c:Code}{id:Nat}
theorem T.scope (h:T F P n B D M c (Exit.noGoto Q) fs hs):T F P n B D M (.scope c) Q fs hs:=⟨fun a w ha hw hm=>zg4 (h.out a w ha hw hm)⟩
theorem T.label {l:Nat}(h:K n B D M Q .normal fs hs):T F P n B D M (.label l) Q fs hs:=⟨fun a w ha hw hm=>wpIn_label (h.out a w ha hw hm)⟩
theorem K.be (h:K n B D M Q .normal fs hs):K n B D M (Exit.noGoto Q) .normal fs hs:=⟨fun a w ha hw hm=>h.out a w ha hw hm⟩
instance (Q:Exit→Act→World→Prop) [h:NP Q]:NP (Exit.noGoto Q):=⟨fun c a d v w k=>h.h c a d v w k⟩
end
section
variable {P:Program}{n:Nat}{B D:World}{M:Nat→Prop}{fs:SFs}{hs:HS}{o:Oper}{v:Value}
theorem Ew.bl (i : Nat) {ι : Type} {e : Ent} {φ : ι → Prop} {val : ι → Value} {es : ι → Ent} {hs' : ι → HS} {c : Operand} {xs : Array Operand} {ts : Array TypeId} {f : FuncId} {caps : Array Value} {x : Value} [hE : Enters P f] (ho : o.op = .call { callee := .value c, args := xs, argTypes := ts }) (hc : ev fs c = some (.func (.func f) #[] caps)) (hv : evs fs xs.toList = some [x]) (hi : hs[i]? = some e)
    (C : ∀ w, Hp B M hs w → Calls P f (x :: caps.toList).toArray w (fun x w' => ∃ y, φ y ∧ x = .returned (val y) ∧ Hp w e.fp [es y] w')) [hH : ∀ y, SetAt hs i (es y) (hs' y)] : Ew P n B M fs hs o (fun v' hs'' => ∃ y, φ y ∧ v' = val y ∧ hs'' = hs' y) :=
  Ew.call ho hc hv fun w hp => by
    have := C w hp
    simp only [List.nil_append, List.singleton_append]
    exact this.mono fun x w' ⟨y, hy, he, hk⟩ => ⟨val y, hs' y, he, Kp.only hk.only (fun g hg c => e.nd (hp.get hi) g hg c), by
      rw [← (hH y).h]
      exact hp.updAt hi hk.only (fun g _ hg => hg) (hk.own _ (by simp)) (fun g hg => hk.new _ (by simp) g hg), y, hy, rfl, rfl⟩
def fps (es:HS)(g:Nat):Prop:=∃e∈es,e.fp g
theorem Hp.startL {w:World}{es:HS}(h:∀e∈es,e.ok w)(hap:es.Pairwise fun e f=>∀g,e.fp g→¬f.fp g):Hp w (fps es) es w:=
 ⟨rfl,rfl,rfl,Nat.le_refl _,fun _ _ _=>rfl,h,fun e he g hg=> .inl ⟨e,he,hg⟩,hap⟩
theorem Ew.bw (es rest : HS) {ι : Type} {φ : ι → Prop} {val : ι → Value} {es' : ι → HS} {c : Operand} {xs : Array Operand} {ts : Array TypeId} {f : FuncId} {vs : List Value} [hE : Enters P f] (ho : o.op = .call { callee := .value c, args := xs, argTypes := ts }) (hc : ev fs c = some (.func (.func f) #[] #[])) (hv : evs fs xs.toList = some vs) (hp : hs.Perm (es ++ rest))
    (C : ∀ w, Hp B M hs w → Hp B M (es ++ rest) w → Calls P f vs.toArray w (fun x w' => ∃ y, φ y ∧ x = .returned (val y) ∧ Hp w (fps es) (es' y) w')) : Ew P n B M fs hs o (fun v' hs'' => ∃ y, φ y ∧ v' = val y ∧ hs'' = es' y ++ rest) :=
  Ew.bH ho hc hv fun w hw => (C w hw (hw.perm hp)).mono fun x w' ⟨y, hy, he, hk⟩ => ⟨val y, es' y ++ rest, he, Kp.only hk.only (fun g hg c => by
      obtain ⟨e, h1, h2⟩ := hg
      exact e.nd ((hw.perm hp).own e (List.mem_append_left _ h1)) g h2 c), Hp.go (es := es) (hw.perm hp) hk.only (fun g _ hg => hg) hk.own (fun e he g hg => hk.new e he g hg) hk.apart, y, hy, rfl, rfl⟩
theorem Hp.ne {w:World}{i j:Nat}{e f:Ent}(h:Hp B M hs w)(hij:i<j)(hi:hs[i]?=some e)(hj:hs[j]?=some f){g:Nat}(he:e.fp g):¬f.fp g:=by
 obtain ⟨h1,rfl⟩:=List.getElem?_eq_some_iff.1 hi
 obtain ⟨h2,rfl⟩:=List.getElem?_eq_some_iff.1 hj
 exact List.pairwise_iff_getElem.1 h.apart i j h1 h2 hij g he
end
theorem zjA (a:BitVec 64):decide ((a.toNat:Int)=0)=decide (a=0#64):=by
 congr 1
 simp only [eq_iff_iff]
 constructor
 ·intro h;exact BitVec.eq_of_toNat_eq (by simpa using h)
 ·rintro rfl;rfl
theorem zdY {k:Nat}{v:Value}{r:SFs}{t:Nat}:look ((k,v) :: r) t=if k=t then some v else look r t:=by
 simp only [look]
 by_cases h:k=t
 ·subst h;simp
 ·rw [show Nat.beq k t=false from by cases hb:Nat.beq k t with|false=>rfl|true=>exact absurd (Nat.eq_of_beq_eq_true hb) h,if_neg h];rfl
theorem zhT {l1 l2:SFs}(h:l1.Perm l2):(l1.map Prod.fst).Nodup→∀fs t,look (l1++fs) t=look (l2++fs) t:=by
 induction h with
 |nil=>intros;rfl
 |cons x _ ih=>
  intro hn fs t
  obtain ⟨k,v⟩:=x
  simp only [List.cons_append,zdY]
  rw [ih (by simp only [List.map_cons,List.nodup_cons] at hn;exact hn.2)]
 |swap x y l=>
  intro hn fs t
  obtain ⟨a,u⟩:=x
  obtain ⟨b,v⟩:=y
  simp only [List.map_cons,List.nodup_cons,List.mem_cons,not_or] at hn
  simp only [List.cons_append,zdY]
  by_cases h1:a=t <;> by_cases h2:b=t
  ·exact absurd (h2.trans h1.symm) hn.1.1
  ·simp [h1,h2]
  ·simp [h1,h2]
  ·simp [h1,h2]
 |trans h1 _ ih1 ih2=>
  intro hn fs t
  rw [ih1 hn,ih2 ((h1.map Prod.fst).nodup_iff.1 hn)]
section
variable {F:Fence}[hF:Calm F]{P:Program}{n:Nat}{B D:World}{M:Nat→Prop}{Q:Exit→Act→World→Prop}{fs:SFs}{hs hs0:HS}{ops:Array Oper}{kk:Ord}
theorem TS.aH {gs:SFs}{hs':HS}{r:Ord}(h1:Sub fs gs)(hp:hs.Perm hs')(h:TS F P n B D M ops Q hs0 r gs hs'):TS F P n B D M ops Q hs0 r fs hs:=
 ⟨fun a w fuel listed h2 h3 h4 ha hw hw0 hm=>h.out a w fuel listed h2 h3 h4 (ha.sub h1) (hw.perm hp) hw0 hm⟩
theorem TS.cu {js : List Nat} (d : Nat → Nat) (V : Nat → Nat → Value) (E : Nat → Nat → Ent)
    (hop : ∀ j ∈ js, ∃ o : Oper, ops[j]? = some o ∧ o.dst = some (d j) ∧ Nat.blt (d j) n = true ∧ look fs (d j) = none ∧ o.guard = none ∧ ∀ fs' hs', Sub fs' fs → Ew P n B M fs' hs' o (fun v hs'' => ∃ g, v = V j g ∧ hs'' = E j g :: hs'))
    (k : ∀ done : List (Nat × Nat), (done.map Prod.fst).Perm js → TS F P n B D M ops Q hs0 kk (done.map (fun p => (d p.1, V p.1 p.2)) ++ fs) (done.map (fun p => E p.1 p.2) ++ hs)) (hsub : hs0.Sublist hs) :
    TS F P n B D M ops Q hs0 (.any js kk) fs hs := by
  have main : ∀ m (rem : List Nat) (done : List (Nat × Nat)) fuel (listed : Array Bool) a w, Region.noSelect ops = true → zce ops = true → (done.map Prod.fst ++ rem).Perm js →
      zew ops (fun f l => zcf ops kk f l) m rem fuel listed = true → ClosedL .any ops listed → Fr n (done.map (fun p => (d p.1, V p.1 p.2)) ++ fs) a → Hp B M (done.map (fun p => E p.1 p.2) ++ hs) w → Hp B M hs0 w → Mk B D a w →
      zbY F P .any ops Q fuel listed (Hp B M hs0) a w := by
    intro m
    induction m with
    | zero =>
      intro rem done fuel listed a w hns hnd hp hok hcl ha hw hw0 hm
      simp only [zew, Bool.and_eq_true, List.isEmpty_iff] at hok
      obtain ⟨rfl, hok⟩ := hok
      rw [List.append_nil] at hp
      exact (k done hp).out a w fuel listed hns hnd ⟨hok, hcl⟩ ha hw hw0 hm
    | succ m ih =>
      intro rem done fuel listed a w hns hnd hp hok hcl ha hw hw0 hm
      cases fuel with
      | zero => simp [zew] at hok
      | succ fuel =>
        simp only [zew, Bool.and_eq_true, beq_iff_eq, Bool.not_eq_true', List.isEmpty_eq_false_iff, List.all_eq_true] at hok
        refine zcI hok.1 hok.2.1 ?_
        intro q hq
        have hqj : q ∈ js := hp.subset (List.mem_append_right _ hq)
        obtain ⟨o, h1, h2, h3, h4, h5, hE⟩ := hop q hqj
        have hs' : Sub (done.map (fun p => (d p.1, V p.1 p.2)) ++ fs) fs := by
          have : ∀ (l : List (Nat × Nat)), (∀ p ∈ l, p.1 ∈ js) → Sub (l.map (fun p => (d p.1, V p.1 p.2)) ++ fs) fs := by
            intro l
            induction l with
            | nil => intro _; exact Sub.refl
            | cons p r ihr =>
              intro hl t v hv
              simp only [List.map_cons, List.cons_append, zdY]
              by_cases hd : d p.1 = t
              · obtain ⟨_, _, _, _, this, _⟩ := hop p.1 (hl p (by simp))
                rw [hd] at this
                rw [this] at hv; cases hv
              · rw [if_neg hd]; exact ihr (fun x hx => hl x (by simp [hx])) t v hv
          exact this done (fun p hp' => hp.subset (List.mem_append_left _ (List.mem_map.2 ⟨p, hp', rfl⟩)))
        unfold wpOpIn
        simp only [h1, (Wt.none (n := n) (ops := ops) (fs := done.map (fun p => (d p.1, V p.1 p.2)) ++ fs) h5) a ha, if_true]
        refine hE _ _ hs' F hF Q _ a w ha hw ?_
        rintro v w' hs'' hk hp' ⟨g, rfl, rfl⟩
        rw [h2]
        have hsub' : hs0.Sublist (E q g :: (done.map (fun p => E p.1 p.2) ++ hs)) := (hsub.trans (List.sublist_append_right _ _)).trans (List.sublist_cons_self _ _)
        refine ⟨_, fun _ => rfl, hp'.sub hsub', ?_⟩
        exact ih (rem.erase q) ((q, g) :: done) fuel _ _ w' hns hnd (by
          simp only [List.map_cons, List.cons_append]
          have : (q :: (done.map Prod.fst ++ rem.erase q)).Perm (done.map Prod.fst ++ q :: rem.erase q) := List.perm_middle.symm
          exact this.trans (((List.perm_cons_erase hq).symm.append_left _).trans hp)) (hok.2.2 q hq) (hcl.step (by rw [hok.1]; exact hq)) (ha.put h3 _) hp' (hp'.sub hsub') ((hm.next hk).put _ _)
  exact ⟨fun a w fuel listed hns hnd hok ha hw hw0 hm => main js.length js [] fuel listed a w hns hnd (by simp) (by simpa [zcf] using hok.1) hok.2 ha hw hw0 hm⟩
def zgZ (done:List (Nat×Nat))(j:Nat):Nat:=match done.find? (fun p=>p.1 == j) with|some p=>p.2|none=>0
theorem zfq:∀(done:List (Nat×Nat)),(done.map Prod.fst).Nodup→∀p∈done,zgZ done p.1=p.2
 | [],_,p,hp=>by cases hp
 |q :: r,hn,p,hp=>by
  simp only [List.map_cons,List.nodup_cons] at hn
  unfold zgZ
  rw [List.find?_cons]
  by_cases h:q.1=p.1
  ·have e:(q.1 == p.1)=true:=by simpa using h
   simp only [e]
   rcases List.mem_cons.1 hp with rfl|hp
   ·rfl
   ·exact absurd (List.mem_map.2 ⟨p,hp,h.symm⟩) hn.1
  ·have e:(q.1 == p.1)=false:=by simpa using h
   simp only [e]
   rcases List.mem_cons.1 hp with rfl|hp
   ·exact absurd rfl h
   ·exact zfq r hn.2 p hp
theorem TS.any {js : List Nat} (d : Nat → Nat) (V : Nat → Nat → Value) (E : Nat → Nat → Ent) (hnd : js.Nodup) (hnd2 : (js.map d).Nodup)
    (hop : ∀ j ∈ js, ∃ o : Oper, ops[j]? = some o ∧ o.dst = some (d j) ∧ Nat.blt (d j) n = true ∧ look fs (d j) = none ∧ o.guard = none ∧ ∀ fs' hs', Sub fs' fs → Ew P n B M fs' hs' o (fun v hs'' => ∃ g, v = V j g ∧ hs'' = E j g :: hs'))
    (hsub : hs0.Sublist hs) (k : ∀ gs : Nat → Nat, TS F P n B D M ops Q hs0 kk (js.map (fun j => (d j, V j (gs j))) ++ fs) (js.map (fun j => E j (gs j)) ++ hs)) : TS F P n B D M ops Q hs0 (.any js kk) fs hs := by
  refine TS.cu d V E hop (fun done hp => ?_) hsub
  have hdn : (done.map Prod.fst).Nodup := hp.nodup_iff.2 hnd
  have he : done = (done.map Prod.fst).map (fun j => (j, zgZ done j)) := by
    rw [List.map_map]
    conv => lhs; rw [← List.map_id done]
    exact List.map_congr_left fun p hp' => by simp [zfq done hdn p hp']
  have hpd : done.Perm (js.map (fun j => (j, zgZ done j))) := by
    have := hp.map (fun j => (j, zgZ done j))
    rw [← he] at this
    exact this
  refine TS.aH (fun t v hv => ?_) ?_ (k (zgZ done))
  · have h1 := hpd.map (fun p => (d p.1, V p.1 p.2))
    rw [List.map_map] at h1
    rw [zhT h1 (by
      rw [List.map_map]
      have := hp.map d
      rw [List.map_map] at this
      exact this.nodup_iff.2 hnd2)]
    exact hv
  · have h1 := hpd.map (fun p => E p.1 p.2)
    rw [List.map_map] at h1
    exact h1.append_right _
end
@[irreducible] def Ent.bag (es:HS):Ent where
 fp g:=∃e∈es,e.fp g
 ok w:=(∀e∈es,e.ok w)∧es.Pairwise fun (e f:Ent)=>∀g:Nat,e.fp g→¬f.fp g
 loc h k:=⟨fun e he=>e.loc (fun g hg=>h g ⟨e,he,hg⟩) (k.1 e he),k.2⟩
 lt h g hg:=by obtain ⟨e,he,hg⟩:=hg;exact e.lt (h.1 e he) g hg
 nd h g hg c:=by obtain ⟨e,he,hg⟩:=hg;exact e.nd (h.1 e he) g hg c
theorem Ent.bag_fp {es:HS}{g:Nat}:(Ent.bag es).fp g↔∃e∈es,e.fp g:=by unfold Ent.bag;exact Iff.rfl
theorem Ent.bag_ok {es:HS}{w:World}:(Ent.bag es).ok w↔(∀e∈es,e.ok w)∧es.Pairwise fun e f=>∀g,e.fp g→¬f.fp g:=by unfold Ent.bag;exact Iff.rfl
section
variable {F:Fence}{P:Program}{n:Nat}{B D:World}{M:Nat→Prop}{Q:Exit→Act→World→Prop}{fs:SFs}{hs:HS}{c:Code}{e:Exit}{w:World}
theorem Hp.repl {es es' rest:HS}(h:Hp B M (es++rest) w)(hok:∀e∈es',e.ok w)(hfp:∀e∈es',∀g,e.fp g→∃f∈es,f.fp g)(hap:es'.Pairwise fun e f=>∀g,e.fp g→¬f.fp g):Hp B M (es'++rest) w:=
 Hp.go (es:=es) h (Only.refl (fun _=>False) w) (fun _ _ h=>h.elim) hok (fun e he g hg=> .inl (hfp e he g hg)) hap
theorem Hp.openB {i a : Nat} {es : HS} {x : Ent} (h : Hp B M hs w) (hi : hs[i]? = some (.bag es)) (ha : es[a]? = some x) : Hp B M (x :: hs.set i (.bag (es.eraseIdx a))) w := by
  have h1 := h.perm (zcj hi)
  have hb := Ent.bag_ok.1 (h1.own (.bag es) (by simp))
  obtain ⟨hal, rfl⟩ := List.getElem?_eq_some_iff.1 ha
  have hpe := zdC es a hal
  have hpw := (hpe.pairwise_iff (fun hxy g hy hx => hxy g hx hy)).1 hb.2
  rw [List.pairwise_cons] at hpw
  have h2 := Hp.repl (es := [.bag es]) (es' := [es[a], .bag (es.eraseIdx a)]) h1 (fun e he => by
      simp only [List.mem_cons, List.not_mem_nil, or_false] at he
      rcases he with rfl | rfl
      · exact hb.1 _ (List.getElem_mem _)
      · exact Ent.bag_ok.2 ⟨fun e he => hb.1 e (List.mem_of_mem_eraseIdx he), hpw.2⟩) (fun e he g hg => by
      simp only [List.mem_cons, List.not_mem_nil, or_false] at he
      refine ⟨_, List.mem_singleton.2 rfl, Ent.bag_fp.2 ?_⟩
      rcases he with rfl | rfl
      · exact ⟨_, List.getElem_mem _, hg⟩
      · obtain ⟨f, hf, hg⟩ := Ent.bag_fp.1 hg
        exact ⟨f, List.mem_of_mem_eraseIdx hf, hg⟩) (by
      refine List.pairwise_cons.2 ⟨fun f hf g hg hfg => ?_, List.pairwise_singleton _ _⟩
      rw [List.mem_singleton.1 hf] at hfg
      obtain ⟨f', hf', hg'⟩ := Ent.bag_fp.1 hfg
      exact hpw.1 f' hf' g hg hg')
  exact h2.perm ((zb3 hi).cons _)
theorem Hp.closeB {i a : Nat} {es : HS} {x : Ent} (h : Hp B M (x :: hs) w) (hi : hs[i]? = some (.bag (es.eraseIdx a))) (ha : a < es.length) : Hp B M (hs.set i (.bag (es.set a x))) w := by
  have h1 : Hp B M ([x, .bag (es.eraseIdx a)] ++ hs.eraseIdx i) w := h.perm ((zcj hi).cons _)
  have hb := Ent.bag_ok.1 (h1.own (.bag (es.eraseIdx a)) (by simp))
  have hx := h1.own x (by simp)
  have hxb := (List.pairwise_cons.1 h1.apart).1 (.bag (es.eraseIdx a)) (by simp)
  have hpe : (x :: es.eraseIdx a).Perm (es.set a x) := by
    have := zb3 (hs := es) (e := es[a]) (e' := x) (i := a) (List.getElem?_eq_getElem ha)
    exact this
  have h2 := Hp.repl (es := [x, .bag (es.eraseIdx a)]) (es' := [.bag (es.set a x)]) h1 (fun e he => by
      rw [List.mem_singleton.1 he]
      refine Ent.bag_ok.2 ⟨fun e he => ?_, (hpe.pairwise_iff (fun hxy g hy hx => hxy g hx hy)).1 (List.pairwise_cons.2 ⟨fun f hf g hg hfg => hxb g hg (Ent.bag_fp.2 ⟨f, hf, hfg⟩), hb.2⟩)⟩
      rcases List.mem_cons.1 (hpe.symm.subset he) with rfl | he
      · exact hx
      · exact hb.1 e he) (fun e he g hg => by
      rw [List.mem_singleton.1 he] at hg
      obtain ⟨f, hf, hfg⟩ := Ent.bag_fp.1 hg
      rcases List.mem_cons.1 (hpe.symm.subset hf) with e1 | hf
      · rw [e1] at hfg; exact ⟨x, by simp, hfg⟩
      · exact ⟨.bag (es.eraseIdx a), by simp, Ent.bag_fp.2 ⟨f, hf, hfg⟩⟩) (List.pairwise_singleton _ _)
  exact h2.perm (zb3 hi)
theorem T.openB (i a:Nat){es:HS}{x:Ent}{hs':HS}(hi:hs[i]?=some (.bag es))(ha:es[a]?=some x)[hH:SetAt hs i (.bag (es.eraseIdx a)) hs'](h:T F P n B D M c Q fs (x :: hs')):T F P n B D M c Q fs hs:=⟨fun a' w ha' hw hm=>h.out a' w ha' (by rw [←hH.h];exact hw.openB hi ha) hm⟩
theorem K.closeB (i a:Nat){es:HS}{x:Ent}{hs':HS}(hi:hs[i]?=some (.bag (es.eraseIdx a)))(ha:a<es.length)[hH:SetAt hs i (.bag (es.set a x)) hs'](h:K n B D M Q e fs hs'):K n B D M Q e fs (x :: hs):=⟨fun a' w ha' hw hm=>h.out a' w ha' (by rw [←hH.h];exact hw.closeB hi ha) hm⟩
theorem K.aK (i a:Nat){es:HS}(es':HS){x:Ent}{hs':HS}(hi:hs[i]?=some (.bag (es.eraseIdx a)))(ha:a<es.length)(he:es.set a x=es')[hH:SetAt hs i (.bag es') hs'](h:K n B D M Q e fs hs'):K n B D M Q e fs (x :: hs):=by
 subst he
 exact K.closeB i a hi ha h
theorem Hp.intoB {i : Nat} {es : HS} {x : Ent} (h : Hp B M (x :: hs) w) (hi : hs[i]? = some (.bag es)) : Hp B M (hs.set i (.bag (es ++ [x]))) w := by
  have h1 : Hp B M ([x, .bag es] ++ hs.eraseIdx i) w := h.perm ((zcj hi).cons _)
  have hb := Ent.bag_ok.1 (h1.own (.bag es) (by simp))
  have hx := h1.own x (by simp)
  have hxb := (List.pairwise_cons.1 h1.apart).1 (.bag es) (by simp)
  have h2 := Hp.repl (es := [x, .bag es]) (es' := [.bag (es ++ [x])]) h1 (fun e he => by
      rw [List.mem_singleton.1 he]
      refine Ent.bag_ok.2 ⟨fun e he => ?_, List.pairwise_append.2 ⟨hb.2, List.pairwise_singleton _ _, fun f hf y hy g hg hyg => ?_⟩⟩
      · rcases List.mem_append.1 he with he | he
        · exact hb.1 e he
        · rw [List.mem_singleton.1 he]; exact hx
      · rw [List.mem_singleton.1 hy] at hyg
        exact hxb g hyg (Ent.bag_fp.2 ⟨f, hf, hg⟩)) (fun e he g hg => by
      rw [List.mem_singleton.1 he] at hg
      obtain ⟨f, hf, hfg⟩ := Ent.bag_fp.1 hg
      rcases List.mem_append.1 hf with hf | hf
      · exact ⟨.bag es, by simp, Ent.bag_fp.2 ⟨f, hf, hfg⟩⟩
      · rw [List.mem_singleton.1 hf] at hfg; exact ⟨x, by simp, hfg⟩) (List.pairwise_singleton _ _)
  exact h2.perm (zb3 hi)
theorem K.bZ (i:Nat){es:HS}(es':HS){x:Ent}{hs':HS}(hi:hs[i]?=some (.bag es))(he:es++[x]=es')[hH:SetAt hs i (.bag es') hs'](h:K n B D M Q e fs hs'):K n B D M Q e fs (x :: hs):=by
 subst he
 exact ⟨fun a' w ha' hw hm=>h.out a' w ha' (by rw [←hH.h];exact hw.intoB hi) hm⟩
theorem Hp.bag0 {es:HS}(h:Hp B M hs w)(hok:∀w,∀e∈es,e.ok w)(hfp:∀e∈es,∀g,¬e.fp g):Hp B M (.bag es :: hs) w:=
 Hp.repl (es:=[]) (es':=[.bag es]) h (fun e he=>by
  rw [List.mem_singleton.1 he]
  exact Ent.bag_ok.2 ⟨hok w,(List.pairwise_iff_forall_sublist).2 (fun {a b} hs g hg=>absurd hg (hfp a (hs.subset (by simp)) g))⟩) (fun e he g hg=>by
  rw [List.mem_singleton.1 he] at hg
  obtain ⟨f,hf,hg⟩:=Ent.bag_fp.1 hg
  exact absurd hg (hfp f hf g)) (List.pairwise_singleton _ _)
theorem T.bag0 (es:HS)(hok:∀w,∀e∈es,e.ok w)(hfp:∀e∈es,∀g,¬e.fp g)(h:T F P n B D M c Q fs (.bag es :: hs)):T F P n B D M c Q fs hs:=⟨fun a w ha hw hm=>h.out a w ha (hw.bag0 hok hfp) hm⟩
end
end Go.Proofs.YtbpkdjionfhohaaDoor
namespace Go.Proofs.YtbpkdjionfhohaaDoor
instance:Mixed Tryd.prog:=⟨by kernel_rfl⟩
instance:Enters Tryd.prog 10:=⟨by kernel_rfl⟩
instance:Enters Tryd.prog 11:=⟨by kernel_rfl⟩
instance:Enters Tryd.prog 112:=⟨by kernel_rfl⟩
instance:Enters Tryd.prog 12:=⟨by kernel_rfl⟩
instance:Enters Tryd.prog 13:=⟨by kernel_rfl⟩
instance:Enters Tryd.prog 14:=⟨by kernel_rfl⟩
instance:Enters Tryd.prog 15:=⟨by kernel_rfl⟩
instance:Enters Tryd.prog 16:=⟨by kernel_rfl⟩
instance:Enters Tryd.prog 17:=⟨by kernel_rfl⟩
instance:Enters Tryd.prog 18:=⟨by kernel_rfl⟩
instance:Enters Tryd.prog 19:=⟨by kernel_rfl⟩
instance:Enters Tryd.prog 2:=⟨by kernel_rfl⟩
instance:Enters Tryd.prog 20:=⟨by kernel_rfl⟩
instance:Enters Tryd.prog 21:=⟨by kernel_rfl⟩
instance:Enters Tryd.prog 22:=⟨by kernel_rfl⟩
instance:Enters Tryd.prog 23:=⟨by kernel_rfl⟩
instance:Enters Tryd.prog 24:=⟨by kernel_rfl⟩
instance:Enters Tryd.prog 25:=⟨by kernel_rfl⟩
instance:Enters Tryd.prog 26:=⟨by kernel_rfl⟩
instance:Enters Tryd.prog 27:=⟨by kernel_rfl⟩
instance:Enters Tryd.prog 28:=⟨by kernel_rfl⟩
instance:Enters Tryd.prog 29:=⟨by kernel_rfl⟩
instance:Enters Tryd.prog 3:=⟨by kernel_rfl⟩
instance:Enters Tryd.prog 30:=⟨by kernel_rfl⟩
instance:Enters Tryd.prog 31:=⟨by kernel_rfl⟩
instance:Enters Tryd.prog 32:=⟨by kernel_rfl⟩
instance:Enters Tryd.prog 33:=⟨by kernel_rfl⟩
instance:Enters Tryd.prog 34:=⟨by kernel_rfl⟩
instance:Enters Tryd.prog 35:=⟨by kernel_rfl⟩
instance:Enters Tryd.prog 36:=⟨by kernel_rfl⟩
instance:Enters Tryd.prog 37:=⟨by kernel_rfl⟩
instance:Enters Tryd.prog 38:=⟨by kernel_rfl⟩
instance:Enters Tryd.prog 39:=⟨by kernel_rfl⟩
instance:Enters Tryd.prog 4:=⟨by kernel_rfl⟩
instance:Enters Tryd.prog 40:=⟨by kernel_rfl⟩
instance:Enters Tryd.prog 41:=⟨by kernel_rfl⟩
instance:Enters Tryd.prog 42:=⟨by kernel_rfl⟩
instance:Enters Tryd.prog 43:=⟨by kernel_rfl⟩
instance:Enters Tryd.prog 44:=⟨by kernel_rfl⟩
instance:Enters Tryd.prog 45:=⟨by kernel_rfl⟩
instance:Enters Tryd.prog 46:=⟨by kernel_rfl⟩
instance:Enters Tryd.prog 47:=⟨by kernel_rfl⟩
instance:Enters Tryd.prog 48:=⟨by kernel_rfl⟩
instance:Enters Tryd.prog 49:=⟨by kernel_rfl⟩
instance:Enters Tryd.prog 5:=⟨by kernel_rfl⟩
instance:Enters Tryd.prog 50:=⟨by kernel_rfl⟩
instance:Enters Tryd.prog 51:=⟨by kernel_rfl⟩
instance:Enters Tryd.prog 52:=⟨by kernel_rfl⟩
instance:Enters Tryd.prog 53:=⟨by kernel_rfl⟩
instance:Enters Tryd.prog 54:=⟨by kernel_rfl⟩
instance:Enters Tryd.prog 55:=⟨by kernel_rfl⟩
instance:Enters Tryd.prog 56:=⟨by kernel_rfl⟩
instance:Enters Tryd.prog 57:=⟨by kernel_rfl⟩
instance:Enters Tryd.prog 58:=⟨by kernel_rfl⟩
instance:Enters Tryd.prog 59:=⟨by kernel_rfl⟩
instance:Enters Tryd.prog 6:=⟨by kernel_rfl⟩
instance:Enters Tryd.prog 60:=⟨by kernel_rfl⟩
instance:Enters Tryd.prog 61:=⟨by kernel_rfl⟩
instance:Enters Tryd.prog 62:=⟨by kernel_rfl⟩
instance:Enters Tryd.prog 63:=⟨by kernel_rfl⟩
instance:Enters Tryd.prog 64:=⟨by kernel_rfl⟩
instance:Enters Tryd.prog 65:=⟨by kernel_rfl⟩
instance:Enters Tryd.prog 66:=⟨by kernel_rfl⟩
instance:Enters Tryd.prog 67:=⟨by kernel_rfl⟩
instance:Enters Tryd.prog 68:=⟨by kernel_rfl⟩
instance:Enters Tryd.prog 69:=⟨by kernel_rfl⟩
instance:Enters Tryd.prog 7:=⟨by kernel_rfl⟩
instance:Enters Tryd.prog 70:=⟨by kernel_rfl⟩
instance:Enters Tryd.prog 71:=⟨by kernel_rfl⟩
instance:Enters Tryd.prog 72:=⟨by kernel_rfl⟩
instance:Enters Tryd.prog 73:=⟨by kernel_rfl⟩
instance:Enters Tryd.prog 74:=⟨by kernel_rfl⟩
instance:Enters Tryd.prog 75:=⟨by kernel_rfl⟩
instance:Enters Tryd.prog 76:=⟨by kernel_rfl⟩
instance:Enters Tryd.prog 77:=⟨by kernel_rfl⟩
instance:Enters Tryd.prog 78:=⟨by kernel_rfl⟩
instance:Enters Tryd.prog 79:=⟨by kernel_rfl⟩
instance:Enters Tryd.prog 8:=⟨by kernel_rfl⟩
instance:Enters Tryd.prog 80:=⟨by kernel_rfl⟩
instance:Enters Tryd.prog 81:=⟨by kernel_rfl⟩
instance:Enters Tryd.prog 82:=⟨by kernel_rfl⟩
instance:Enters Tryd.prog 83:=⟨by kernel_rfl⟩
instance:Enters Tryd.prog 84:=⟨by kernel_rfl⟩
instance:Enters Tryd.prog 85:=⟨by kernel_rfl⟩
instance:Enters Tryd.prog 86:=⟨by kernel_rfl⟩
instance:Enters Tryd.prog 87:=⟨by kernel_rfl⟩
instance:Enters Tryd.prog 88:=⟨by kernel_rfl⟩
instance:Enters Tryd.prog 89:=⟨by kernel_rfl⟩
instance:Enters Tryd.prog 9:=⟨by kernel_rfl⟩
instance:Enters Tryd.prog 90:=⟨by kernel_rfl⟩
instance:Enters Tryd.prog 91:=⟨by kernel_rfl⟩
instance:TyA Tryd.prog 110 8:=⟨by kernel_rfl⟩
instance:TyA Tryd.prog 112 8:=⟨by kernel_rfl⟩
instance:TyA Tryd.prog 118 5:=⟨by kernel_rfl⟩
instance:TyA Tryd.prog 122 4:=⟨by kernel_rfl⟩
instance:TyA Tryd.prog 126 3:=⟨by kernel_rfl⟩
instance:TyA Tryd.prog 133 64:=⟨by kernel_rfl⟩
instance:TyA Tryd.prog 145 52:=⟨by kernel_rfl⟩
instance:TyA Tryd.prog 26 512:=⟨by kernel_rfl⟩
instance:TyA Tryd.prog 30 514:=⟨by kernel_rfl⟩
instance:TyA Tryd.prog 50 3:=⟨by kernel_rfl⟩
instance:TyA Tryd.prog 52 4:=⟨by kernel_rfl⟩
instance:TyA Tryd.prog 55 2:=⟨by kernel_rfl⟩
instance:TyA Tryd.prog 62 2:=⟨by kernel_rfl⟩
instance:TyA Tryd.prog 74 5:=⟨by kernel_rfl⟩
instance:TyA Tryd.prog 79 512:=⟨by kernel_rfl⟩
instance:TyA Tryd.prog 87 3:=⟨by kernel_rfl⟩
instance:TyA Tryd.prog 92 518:=⟨by kernel_rfl⟩
instance:TyAr Tryd.prog 110 8 25 1:=⟨by kernel_rfl⟩
instance:TyAr Tryd.prog 126 3 124 1:=⟨by kernel_rfl⟩
instance:TyAr Tryd.prog 133 64 5 1:=⟨by kernel_rfl⟩
instance:TyAr Tryd.prog 145 52 3 1:=⟨by kernel_rfl⟩
instance:TyAr Tryd.prog 26 512 25 1:=⟨by kernel_rfl⟩
instance:TyAr Tryd.prog 79 512 3 1:=⟨by kernel_rfl⟩
instance:TyE Tryd.prog 22 55 2 16 ([.int .i64 0, .int .i64 0]):=⟨by kernel_rfl⟩
instance:TyE Tryd.prog 28 22 1 24 ([.slice none 0 0]):=⟨by kernel_rfl⟩
instance:TyE Tryd.prog 31 24 1 8 ([.pointer none]):=⟨by kernel_rfl⟩
instance:TyE Tryd.prog 32 62 2 32 ([.int .i64 0, .slice none 0 0]):=⟨by kernel_rfl⟩
instance:TyE Tryd.prog 46 74 5 40 ([.int .i64 0, .int .i64 0, .int .i64 0, .int .i64 0, .int .i64 0]):=⟨by kernel_rfl⟩
instance:TyE Tryd.prog 47 118 5 40 ([.int .i64 0, .int .i64 0, .int .i64 0, .int .i64 0, .int .i64 0]):=⟨by kernel_rfl⟩
instance:TyE Tryd.prog 48 122 4 32 ([.int .i64 0, .int .i64 0, .int .i64 0, .int .i64 0]):=⟨by kernel_rfl⟩
instance:TyE Tryd.prog 60 3 1 8 ([.int .i64 0]):=⟨by kernel_rfl⟩
instance:TyE Tryd.prog 85 25 1 8 ([.int .u64 0]):=⟨by kernel_rfl⟩
instance:TyE Tryd.prog 88 46 1 24 ([.slice none 0 0]):=⟨by kernel_rfl⟩
instance:TyE Tryd.prog 89 48 1 24 ([.slice none 0 0]):=⟨by kernel_rfl⟩
instance:TyE Tryd.prog 90 47 1 24 ([.slice none 0 0]):=⟨by kernel_rfl⟩
instance:TyF Tryd.prog 112 0 0:=⟨by kernel_rfl⟩
instance:TyF Tryd.prog 118 0 0:=⟨by kernel_rfl⟩
instance:TyF Tryd.prog 118 1 1:=⟨by kernel_rfl⟩
instance:TyF Tryd.prog 118 2 2:=⟨by kernel_rfl⟩
instance:TyF Tryd.prog 118 3 3:=⟨by kernel_rfl⟩
instance:TyF Tryd.prog 118 4 4:=⟨by kernel_rfl⟩
instance:TyF Tryd.prog 122 0 0:=⟨by kernel_rfl⟩
instance:TyF Tryd.prog 122 1 1:=⟨by kernel_rfl⟩
instance:TyF Tryd.prog 122 2 2:=⟨by kernel_rfl⟩
instance:TyF Tryd.prog 122 3 3:=⟨by kernel_rfl⟩
instance:TyF Tryd.prog 30 0 0:=⟨by kernel_rfl⟩
instance:TyF Tryd.prog 30 1 512:=⟨by kernel_rfl⟩
instance:TyF Tryd.prog 30 2 513:=⟨by kernel_rfl⟩
instance:TyF Tryd.prog 50 0 0:=⟨by kernel_rfl⟩
instance:TyF Tryd.prog 50 1 1:=⟨by kernel_rfl⟩
instance:TyF Tryd.prog 50 2 2:=⟨by kernel_rfl⟩
instance:TyF Tryd.prog 52 0 0:=⟨by kernel_rfl⟩
instance:TyF Tryd.prog 52 1 1:=⟨by kernel_rfl⟩
instance:TyF Tryd.prog 55 0 0:=⟨by kernel_rfl⟩
instance:TyF Tryd.prog 55 1 1:=⟨by kernel_rfl⟩
instance:TyF Tryd.prog 62 0 0:=⟨by kernel_rfl⟩
instance:TyF Tryd.prog 62 1 1:=⟨by kernel_rfl⟩
instance:TyF Tryd.prog 74 0 0:=⟨by kernel_rfl⟩
instance:TyF Tryd.prog 74 1 1:=⟨by kernel_rfl⟩
instance:TyF Tryd.prog 74 2 2:=⟨by kernel_rfl⟩
instance:TyF Tryd.prog 74 3 3:=⟨by kernel_rfl⟩
instance:TyF Tryd.prog 74 4 4:=⟨by kernel_rfl⟩
instance:TyF Tryd.prog 87 0 0:=⟨by kernel_rfl⟩
instance:TyF Tryd.prog 87 1 1:=⟨by kernel_rfl⟩
instance:TyF Tryd.prog 87 2 2:=⟨by kernel_rfl⟩
instance:TyF Tryd.prog 92 0 0:=⟨by kernel_rfl⟩
instance:TyF Tryd.prog 92 1 1:=⟨by kernel_rfl⟩
instance:TyF Tryd.prog 92 2 513:=⟨by kernel_rfl⟩
instance:TyF Tryd.prog 92 3 514:=⟨by kernel_rfl⟩
instance:TyF Tryd.prog 92 4 515:=⟨by kernel_rfl⟩
instance:TyF Tryd.prog 92 5 516:=⟨by kernel_rfl⟩
instance:TyF Tryd.prog 92 6 517:=⟨by kernel_rfl⟩
instance:TyI Tryd.prog 25 .u64:=⟨by kernel_rfl⟩
instance:TyI Tryd.prog 3 .i64:=⟨by kernel_rfl⟩
instance:TyI Tryd.prog 5 .u8:=⟨by kernel_rfl⟩
instance:TyP Tryd.prog 52 0 false 0 1:=⟨by kernel_rfl⟩
instance:TyPl Tryd.prog 30 0 0 512:=⟨by kernel_rfl⟩
instance:TyPl Tryd.prog 30 1 512 1:=⟨by kernel_rfl⟩
instance:TyPl Tryd.prog 30 2 513 1:=⟨by kernel_rfl⟩
instance:TyPl Tryd.prog 50 0 0 1:=⟨by kernel_rfl⟩
instance:TyPl Tryd.prog 52 0 0 1:=⟨by kernel_rfl⟩
instance:TyPl Tryd.prog 52 1 1 3:=⟨by kernel_rfl⟩
instance:TyPl Tryd.prog 55 0 0 1:=⟨by kernel_rfl⟩
instance:TyPl Tryd.prog 55 1 1 1:=⟨by kernel_rfl⟩
instance:TyPl Tryd.prog 62 0 0 1:=⟨by kernel_rfl⟩
instance:TyPl Tryd.prog 62 1 1 1:=⟨by kernel_rfl⟩
instance:TyPl Tryd.prog 74 0 0 1:=⟨by kernel_rfl⟩
instance:TyPl Tryd.prog 74 1 1 1:=⟨by kernel_rfl⟩
instance:TyPl Tryd.prog 74 3 3 1:=⟨by kernel_rfl⟩
instance:TyPl Tryd.prog 74 4 4 1:=⟨by kernel_rfl⟩
instance:TyPl Tryd.prog 87 0 0 1:=⟨by kernel_rfl⟩
instance:TyPl Tryd.prog 87 1 1 1:=⟨by kernel_rfl⟩
instance:TyPl Tryd.prog 87 2 2 1:=⟨by kernel_rfl⟩
instance:TyPl Tryd.prog 92 0 0 1:=⟨by kernel_rfl⟩
instance:TyPl Tryd.prog 92 3 514 1:=⟨by kernel_rfl⟩
instance:TyPl Tryd.prog 92 4 515 1:=⟨by kernel_rfl⟩
instance:TyPl Tryd.prog 92 5 516 1:=⟨by kernel_rfl⟩
instance:TyPl Tryd.prog 92 6 517 1:=⟨by kernel_rfl⟩
instance:TyS Tryd.prog 124:=⟨by kernel_rfl⟩
instance:TyS Tryd.prog 129:=⟨by kernel_rfl⟩
instance:TyS Tryd.prog 22:=⟨by kernel_rfl⟩
instance:TyS Tryd.prog 24:=⟨by kernel_rfl⟩
instance:TyS Tryd.prog 25:=⟨by kernel_rfl⟩
instance:TyS Tryd.prog 27:=⟨by kernel_rfl⟩
instance:TyS Tryd.prog 28:=⟨by kernel_rfl⟩
instance:TyS Tryd.prog 3:=⟨by kernel_rfl⟩
instance:TyS Tryd.prog 32:=⟨by kernel_rfl⟩
instance:TyS Tryd.prog 4:=⟨by kernel_rfl⟩
instance:TyS Tryd.prog 46:=⟨by kernel_rfl⟩
instance:TyS Tryd.prog 47:=⟨by kernel_rfl⟩
instance:TyS Tryd.prog 48:=⟨by kernel_rfl⟩
instance:TyS Tryd.prog 5:=⟨by kernel_rfl⟩
instance:TyS Tryd.prog 60:=⟨by kernel_rfl⟩
instance:TyS Tryd.prog 84:=⟨by kernel_rfl⟩
instance:TyS Tryd.prog 85:=⟨by kernel_rfl⟩
instance:TyS Tryd.prog 88:=⟨by kernel_rfl⟩
instance:TyS Tryd.prog 89:=⟨by kernel_rfl⟩
instance:TyS Tryd.prog 90:=⟨by kernel_rfl⟩
instance:TySl Tryd.prog 22 55 2:=⟨by kernel_rfl⟩
instance:TySl Tryd.prog 28 22 1:=⟨by kernel_rfl⟩
instance:TySl Tryd.prog 31 24 1:=⟨by kernel_rfl⟩
instance:TySl Tryd.prog 32 62 2:=⟨by kernel_rfl⟩
instance:TySl Tryd.prog 46 74 5:=⟨by kernel_rfl⟩
instance:TySl Tryd.prog 47 118 5:=⟨by kernel_rfl⟩
instance:TySl Tryd.prog 48 122 4:=⟨by kernel_rfl⟩
instance:TySl Tryd.prog 60 3 1:=⟨by kernel_rfl⟩
instance:TySl Tryd.prog 85 25 1:=⟨by kernel_rfl⟩
instance:TySl Tryd.prog 88 46 1:=⟨by kernel_rfl⟩
instance:TySl Tryd.prog 89 48 1:=⟨by kernel_rfl⟩
instance:TySl Tryd.prog 90 47 1:=⟨by kernel_rfl⟩
instance:TySt Tryd.prog 112:=⟨by kernel_rfl⟩
instance:TySt Tryd.prog 30:=⟨by kernel_rfl⟩
instance:TySt Tryd.prog 50:=⟨by kernel_rfl⟩
instance:TySt Tryd.prog 52:=⟨by kernel_rfl⟩
instance:TySt Tryd.prog 55:=⟨by kernel_rfl⟩
instance:TySt Tryd.prog 62:=⟨by kernel_rfl⟩
instance:TySt Tryd.prog 74:=⟨by kernel_rfl⟩
instance:TySt Tryd.prog 87:=⟨by kernel_rfl⟩
instance:TySt Tryd.prog 92:=⟨by kernel_rfl⟩
instance:TyZ Tryd.prog 112 ([.int .u64 0, .int .u64 0, .int .u64 0, .int .u64 0, .int .u64 0, .int .u64 0, .int .u64 0, .int .u64 0]):=⟨by kernel_rfl⟩
instance:TyZ Tryd.prog 118 ([.int .i64 0, .int .i64 0, .int .i64 0, .int .i64 0, .int .i64 0]):=⟨by kernel_rfl⟩
instance:TyZ Tryd.prog 122 ([.int .i64 0, .int .i64 0, .int .i64 0, .int .i64 0]):=⟨by kernel_rfl⟩
instance:TyZ Tryd.prog 126 ([.nilFunc, .nilFunc, .nilFunc]):=⟨by kernel_rfl⟩
instance:TyZ Tryd.prog 133 (List.replicate 64 (.int .u8 0)):=⟨by kernel_rfl⟩
instance:TyZ Tryd.prog 145 (List.replicate 52 (.int .i64 0)):=⟨by kernel_rfl⟩
instance:TyZ Tryd.prog 26 (List.replicate 512 (.int .u64 0)):=⟨by kernel_rfl⟩
instance:TyZ Tryd.prog 28 ([.slice none 0 0]):=⟨by kernel_rfl⟩
instance:TyZ Tryd.prog 30 (List.replicate 512 (.int .u64 0)++[.pointer none]++[.slice none 0 0]):=⟨by kernel_rfl⟩
instance:TyZ Tryd.prog 4 ([.bool false]):=⟨by kernel_rfl⟩
instance:TyZ Tryd.prog 50 ([.slice none 0 0, .slice none 0 0, .slice none 0 0]):=⟨by kernel_rfl⟩
instance:TyZ Tryd.prog 52 ([.slice none 0 0, .slice none 0 0, .slice none 0 0, .slice none 0 0]):=⟨by kernel_rfl⟩
instance:TyZ Tryd.prog 55 ([.int .i64 0, .int .i64 0]):=⟨by kernel_rfl⟩
instance:TyZ Tryd.prog 60 ([.slice none 0 0]):=⟨by kernel_rfl⟩
instance:TyZ Tryd.prog 62 ([.int .i64 0, .slice none 0 0]):=⟨by kernel_rfl⟩
instance:TyZ Tryd.prog 74 ([.int .i64 0, .int .i64 0, .int .i64 0, .int .i64 0, .int .i64 0]):=⟨by kernel_rfl⟩
instance:TyZ Tryd.prog 79 (List.replicate 512 (.int .i64 0)):=⟨by kernel_rfl⟩
instance:TyZ Tryd.prog 87 ([.pointer none, .slice none 0 0, .bool false]):=⟨by kernel_rfl⟩
instance:TyZ Tryd.prog 92 ([.slice none 0 0]++List.replicate 513 (.int .i64 0)++List.replicate 4 (.slice none 0 0)):=⟨by kernel_rfl⟩
instance:Zs [.int .i64 0, .int .i64 0, .int .i64 0, .int .i64 0, .int .i64 0] 1 [.int .i64 0, .int .i64 0, .int .i64 0, .int .i64 0, .int .i64 0]:=⟨by kernel_rfl⟩
instance:Zs [.int .i64 0, .int .i64 0, .int .i64 0, .int .i64 0, .int .i64 0] 3 [.int .i64 0, .int .i64 0, .int .i64 0, .int .i64 0, .int .i64 0, .int .i64 0, .int .i64 0, .int .i64 0, .int .i64 0, .int .i64 0, .int .i64 0, .int .i64 0, .int .i64 0, .int .i64 0, .int .i64 0]:=⟨by kernel_rfl⟩
instance:Zs [.int .i64 0, .int .i64 0, .int .i64 0, .int .i64 0] 1 [.int .i64 0, .int .i64 0, .int .i64 0, .int .i64 0]:=⟨by kernel_rfl⟩
instance:Zs [.int .i64 0, .int .i64 0] 0 []:=⟨by kernel_rfl⟩
instance:Zs [.int .i64 0, .int .i64 0] 1 [.int .i64 0, .int .i64 0]:=⟨by kernel_rfl⟩
instance:Zs [.int .i64 0, .int .i64 0] 2 [.int .i64 0, .int .i64 0, .int .i64 0, .int .i64 0]:=⟨by kernel_rfl⟩
instance:Zs [.int .i64 0, .slice none 0 0] 3 [.int .i64 0, .slice none 0 0, .int .i64 0, .slice none 0 0, .int .i64 0, .slice none 0 0]:=⟨by kernel_rfl⟩
instance:Zs [.int .i64 0] 1 [.int .i64 0]:=⟨by kernel_rfl⟩
instance:Zs [.int .i64 0] 2 [.int .i64 0, .int .i64 0]:=⟨by kernel_rfl⟩
instance:Zs [.int .i64 0] 4 [.int .i64 0, .int .i64 0, .int .i64 0, .int .i64 0]:=⟨by kernel_rfl⟩
instance:Zs [.int .i64 0] 5 [.int .i64 0, .int .i64 0, .int .i64 0, .int .i64 0, .int .i64 0]:=⟨by kernel_rfl⟩
instance:Zs [.pointer none] 2 [.pointer none, .pointer none]:=⟨by kernel_rfl⟩
instance:Zs [.slice none 0 0] 0 []:=⟨by kernel_rfl⟩
instance:Zs [.slice none 0 0] 1 [.slice none 0 0]:=⟨by kernel_rfl⟩
end Go.Proofs.YtbpkdjionfhohaaDoor
namespace Go.Proofs.YtbpkdjionfhohaaDoor
open Go.RowKit
def zi2 (fs:SFs):Op→Option Value
 | .pick c x y=>match ev fs c with
  |some (.bool true)=>ev fs x
  |some (.bool false)=>ev fs y
  |_=>none
 |op=>zeM fs op
def zdb (ops:Array Oper)(fs:SFs)(o:Oper):Option Bool:=
 match o.guard with
 |none=>some true
 |some (j,want)=>match (ops[j]?).bind (·.dst) with
  |some d=>match look fs d with
   |some (.bool true)=>some want
   |some (.bool false)=>some (!want)
   |some (.tuple a)=>bif a.toList.isEmpty then some false else none
   |_=>none
  |none=>none
def ziV (n : Nat) (ops : Array Oper) (fs : SFs) (o : Oper) : Option SFs :=
  match o.dst with
  | none => none
  | some d => bif Nat.blt d n then
      match zdb ops fs o with
      | some true => match zi2 fs o.op with
        | some v => some ((d, v) :: fs)
        | none => none
      | some false => some ((d, undef) :: fs)
      | none => none
    else none
def runP (n:Nat)(ops:Array Oper):Nat→SFs→List Oper→Option (SFs×List Oper)
 |0,fs,l=>some (fs,l)
 |k+1,fs,o :: l=>match ziV n ops fs o with
  |some fs'=>runP n ops k fs' l
  |none=>none
 |_+1,_,[]=>none
def runO (n:Nat)(ops:Array Oper):Nat→SFs→Ord→Option (SFs×Ord)
 |0,fs,r=>some (fs,r)
 |k+1,fs, .still i r=>match ops[i]? with
  |some o=>match ziV n ops fs o with
   |some fs'=>runO n ops k fs' r
   |none=>none
  |none=>none
 |_+1,_,_=>none
theorem zen {a b:Bool}(h:a=true):(a||b)=true:=by rw [h];rfl
theorem or_f {a b:Bool}(h:a=false):b=(a||b):=by rw [h];rfl
theorem zhp {a b c:Bool}(h:a=false)(k:b=c):(a||b)=c:=by rw [h,k];rfl
theorem zbT {a b:Bool}(h:a=false):(a&&b)=false:=by rw [h];rfl
theorem zhE {a b:Bool}(h:a=true):b=(a&&b):=by rw [h];rfl
theorem zdo {a b c:Bool}(h:a=true)(k:b=c):(a&&b)=c:=by rw [h,k];rfl
section
variable {Fe:Fence}[hFe:Calm Fe]{P:Program}{n:Nat}{B D:World}{M S0:Nat→Prop}{Q:Exit→Act→World→Prop}{fs fs':SFs}{hs:HS}{ops:Array Oper}{rest l l':List Oper}{o:Oper}{v val sv:Value}
theorem Yv.cl (h:zi2 fs o.op=some v):Yv P n B M fs hs o v:=by
 unfold zi2 at h
 split at h
 ·rename_i c x y e
  split at h
  ·rename_i hc;exact Yv.am e hc rfl h
  ·rename_i hc;exact Yv.an e hc rfl h
  ·cases h
 ·exact Yv.au h
theorem zbx {b:Bool}(h:zdb ops fs o=some b):Wt n ops fs o b:=by
 unfold zdb at h
 split at h
 ·rename_i hg;cases h;exact Wt.none hg
 ·rename_i j want hg
  split at h
  ·rename_i d hd
   split at h
   ·rename_i hl
    obtain rfl:=Option.some.inj h
    cases want
    ·exact Wt.not hg hd hl rfl
    ·exact Wt.some hg hd hl rfl
   ·rename_i hl
    obtain rfl:=Option.some.inj h
    cases want
    ·exact Wt.some hg hd hl rfl
    ·exact Wt.not hg hd hl rfl
   ·rename_i a hl
    cases ha:a.toList.isEmpty with
    |false=>rw [ha] at h;cases h
    |true=>
     rw [ha] at h;cases h
     have:a= #[]:=by apply Array.ext';simpa using ha
     subst this
     exact Wt.undef hg hd hl
   ·cases h
  ·cases h
theorem ze0 (h:ziV n ops fs o=some fs'):∃d v,o.dst=some d∧Nat.blt d n=true∧fs'=(d,v) :: fs∧((zdb ops fs o=some true∧zi2 fs o.op=some v)∨(zdb ops fs o=some false∧v=undef)):=by
 unfold ziV at h
 split at h
 ·cases h
 ·rename_i d hd
  cases hb:Nat.blt d n with
  |false=>rw [hb] at h;cases h
  |true=>
   rw [hb] at h
   simp only [cond_true] at h
   split at h
   ·rename_i hg
    split at h
    ·rename_i v hv;cases h;exact ⟨d,v,hd,hb,rfl, .inl ⟨hg,hv⟩⟩
    ·cases h
   ·rename_i hg;cases h;exact ⟨d,undef,hd,hb,rfl, .inr ⟨hg,rfl⟩⟩
   ·cases h
theorem TL.run:∀(k:Nat) {fs fs':SFs} {l l':List Oper},runP n ops k fs l=some (fs',l')→TL Fe P n B D M ops Q l' fs' hs→TL Fe P n B D M ops Q l fs hs
 |0,fs,fs',l,l',h,t=>by simp only [runP,Option.some.injEq,Prod.mk.injEq] at h;rw [h.1,h.2];exact t
 |k+1,fs,fs',[],l',h,t=>by simp [runP] at h
 |k+1,fs,fs',o :: r,l',h,t=>by
  simp only [runP] at h
  split at h
  ·rename_i f1 h1
   obtain ⟨d,v,hd,hb,rfl,h2⟩:=ze0 h1
   have ih:=TL.run k h t
   rcases h2 with ⟨hg,hv⟩|⟨hg,rfl⟩
   ·exact TL.yv (zbx hg) hd hb (Yv.cl hv) ih
   ·exact TL.off (zbx hg) hd hb ih
  ·cases h
theorem TS.run [hnp:NP Q]{hs0:HS}:∀(k:Nat) {fs fs':SFs} {r r':Ord},runO n ops k fs r=some (fs',r')→TS Fe P n B D M ops Q hs0 r' fs' hs→TS Fe P n B D M ops Q hs0 r fs hs
 |0,fs,fs',r,r',h,t=>by simp only [runO,Option.some.injEq,Prod.mk.injEq] at h;rw [h.1,h.2];exact t
 |k+1,fs,fs', .still i r,r',h,t=>by
  simp only [runO] at h
  split at h
  ·rename_i o ho
   split at h
   ·rename_i f1 h1
    obtain ⟨d,v,hd,hb,rfl,h2⟩:=ze0 h1
    have ih:=TS.run k h t
    rcases h2 with ⟨hg,hv⟩|⟨hg,rfl⟩
    ·exact TS.still ho (zbx hg) hd hb (Yv.cl hv) ih
    ·exact TS.aG ho (zbx hg) hd hb ih
   ·cases h
  ·cases h
 |k+1,fs,fs', .done,r',h,t=>by simp [runO] at h
 |k+1,fs,fs', .eff _ _,r',h,t=>by simp [runO] at h
 |k+1,fs,fs', .two _ _ _ _,r',h,t=>by simp [runO] at h
 |k+1,fs,fs', .any _ _,r',h,t=>by simp [runO] at h
 |k+1,fs,fs', .bar _ _,r',h,t=>by simp [runO] at h
theorem TL.gs {d j:Nat}{want b:Bool}(hg:o.guard=some (j,want))(hd:(ops[j]?).bind (·.dst)=some d)(hl:look fs d=some (.bool b))(h1:b=true→TL Fe P n B D M ops Q (o :: rest) ((d, .bool true) :: fs) hs)(h2:b=false→TL Fe P n B D M ops Q (o :: rest) ((d, .bool false) :: fs) hs):TL Fe P n B D M ops Q (o :: rest) fs hs:=by
 cases b with
 |true=>exact TL.aH (Sub.cons hl Sub.refl) (List.Sublist.refl _) (h1 rfl)
 |false=>exact TL.aH (Sub.cons hl Sub.refl) (List.Sublist.refl _) (h2 rfl)
theorem TS.gs {hs0:HS}{i d j:Nat}{k:Ord}{want b:Bool}(hi:ops[i]?=some o)(hg:o.guard=some (j,want))(hd:(ops[j]?).bind (·.dst)=some d)(hl:look fs d=some (.bool b))(h1:b=true→TS Fe P n B D M ops Q hs0 (.still i k) ((d, .bool true) :: fs) hs)(h2:b=false→TS Fe P n B D M ops Q hs0 (.still i k) ((d, .bool false) :: fs) hs):TS Fe P n B D M ops Q hs0 (.still i k) fs hs:=by
 cases b with
 |true=>exact TS.aH (Sub.cons hl Sub.refl) (List.Perm.refl _) (h1 rfl)
 |false=>exact TS.aH (Sub.cons hl Sub.refl) (List.Perm.refl _) (h2 rfl)
theorem TSo.gs {hs0:HS}{i d j:Nat}{k:Ord}{want b:Bool}(hi:ops[i]?=some o)(hg:o.guard=some (j,want))(hd:(ops[j]?).bind (·.dst)=some d)(hl:look fs d=some (.bool b))(h1:b=true→TSo Fe P n B D M ops Q hs0 i k ((d, .bool true) :: fs) hs)(h2:b=false→TSo Fe P n B D M ops Q hs0 i k ((d, .bool false) :: fs) hs):TSo Fe P n B D M ops Q hs0 i k fs hs:=by
 cases b with
 |true=>exact ⟨fun a w fuel listed x1 x2 x3 ha hw hw0 hm=>(h1 rfl).out a w fuel listed x1 x2 x3 (ha.sub (Sub.cons hl Sub.refl)) hw hw0 hm⟩
 |false=>exact ⟨fun a w fuel listed x1 x2 x3 ha hw hw0 hm=>(h2 rfl).out a w fuel listed x1 x2 x3 (ha.sub (Sub.cons hl Sub.refl)) hw hw0 hm⟩
theorem T.aX {c:Code}(b:Bool)(h1:b=true→T Fe P n B D M c Q fs hs)(h2:b=false→T Fe P n B D M c Q fs hs):T Fe P n B D M c Q fs hs:=by
 cases b
 ·exact h2 rfl
 ·exact h1 rfl
theorem Yv.aU {x y:Operand}{t u e:TypeId}{A:Option Addr}(hU:P.underlying t=some (.pointer e))(ho:o.op= .binOp .eql t x y u)(hx:ev fs x=some (.pointer A))(hy:ev fs y=some (.pointer none)):Yv P n B M fs hs o (.bool A.isNone):=fun f w ha _=>by
 unfold execOp
 have:(Op.equal t (.pointer A) (.pointer none)).run P w= .ok A.isNone w:=by
  unfold Op.equal
  rw [show Op.maxDepth=Nat.succ 9999 from rfl]
  unfold Op.equalIn
  cases A <;> simp [underlying,hU]
 simp [ho,ha.ev hx,ha.ev hy,eqGuard,binOp,this]
theorem Sub.c {gs:SFs}{t:Nat}{v:Value}(k:Sub fs gs)(h:look fs t=some v:=by rfl):Sub fs ((t,v) :: gs):=Sub.cons h k
theorem Sub.i {gs:SFs}{t:Nat}{q:IntKind}{a b:Int}(e:a=b)(k:Sub fs gs)(h:look fs t=some (.int q a):=by rfl):Sub fs ((t, .int q b) :: gs):=Sub.consI h e k
theorem Sub.b {gs:SFs}{t:Nat}{a b:Bool}(e:a=b)(k:Sub fs gs)(h:look fs t=some (.bool a):=by rfl):Sub fs ((t, .bool b) :: gs):=Sub.consB h e k
theorem T.sr {F:Fence}{l:List Oper}{id:Nat}{y:Code}(h:TL F P n B D M l.toArray (Exit.then (y.wpIn F 0 P Q) Q) l fs hs):T F P n B D M (.seq (.region id l.toArray false) y) Q fs hs:=T.seq (T.region h)
theorem TL.ns {F:Fence}{y:Code}(h:T F P n B D M y Q fs hs):TL F P n B D M ops (Exit.then (y.wpIn F 0 P Q) Q) [] fs hs:=TL.nil (K.seq h)
theorem TL.nx {F:Fence}{l:List Oper}{id:Nat}{y:Code}(h:TL F P n B D M l.toArray (Exit.then (y.wpIn F 0 P Q) Q) l fs hs):TL F P n B D M ops (Exit.then ((Code.seq (.region id l.toArray false) y).wpIn F 0 P Q) Q) [] fs hs:=TL.ns (T.sr h)
theorem TL.y {d:Nat}(h:Yv P n B M fs hs o v)(k:TL Fe P n B D M ops Q rest ((d,v) :: fs) hs)(hw:zdb ops fs o=some true:=by rfl)(hd:o.dst=some d:=by rfl)(hb:Nat.blt d n=true:=by rfl):TL Fe P n B D M ops Q (o :: rest) fs hs:=TL.yv (zbx hw) hd hb h k
theorem TL.e {d:Nat}{Φ:Value→HS→Prop}(h:Ew P n B M fs hs o Φ)(k:∀v hs',Φ v hs'→TL Fe P n B D M ops Q rest ((d,v) :: fs) hs')(hw:zdb ops fs o=some true:=by rfl)(hd:o.dst=some d:=by rfl)(hb:Nat.blt d n=true:=by rfl):TL Fe P n B D M ops Q (o :: rest) fs hs:=TL.ew (zbx hw) hd hb h k
theorem TL.e0 {Φ:Value→HS→Prop}(h:Ew P n B M fs hs o Φ)(k:∀v hs',Φ v hs'→TL Fe P n B D M ops Q rest fs hs')(hw:zdb ops fs o=some true:=by rfl)(hd:o.dst=none:=by rfl):TL Fe P n B D M ops Q (o :: rest) fs hs:=TL.ax (zbx hw) hd h k
theorem TS.y [hnp:NP Q]{hs0:HS}{i:Nat}{k:Ord}{d:Nat}(hi:ops[i]?=some o)(hy:Yv P n B M fs hs0 o v)(h:TS Fe P n B D M ops Q hs0 k ((d,v) :: fs) hs)(hw:zdb ops fs o=some true:=by rfl)(hd:o.dst=some d:=by rfl)(hb:Nat.blt d n=true:=by rfl):TS Fe P n B D M ops Q hs0 (.still i k) fs hs:=TS.still hi (zbx hw) hd hb hy h
end
def Cb (w:World)(g:Nat):Prop:=∃cs t p,w.heap[g]?=some (.cells cs t p)
theorem Cb.lt {w:World}{g:Nat}(h:Cb w g):g<w.heap.size:=by
 obtain ⟨_,_,_,e⟩:=h;exact (Array.getElem?_eq_some_iff.1 e).1
structure Frz where
 S:Nat→Prop
 w:World
 c:∀g,S g→Cb w g
def Frz.Le (F G:Frz):Prop:=∀g,F.S g→G.S g∧G.w.heap[g]?=F.w.heap[g]?
def Frz.At (F:Frz)(w:World):Prop:=∀g,F.S g→w.heap[g]?=F.w.heap[g]?
theorem Frz.Le.refl (F:Frz):F.Le F:=fun _ h=>⟨h,rfl⟩
theorem Frz.Le.trans {F G H:Frz}(h:F.Le G)(k:G.Le H):F.Le H:=fun g hg=>⟨(k g (h g hg).1).1,((k g (h g hg).1).2).trans (h g hg).2⟩
theorem Frz.At.le {F G:Frz}{w:World}(k:G.At w)(h:F.Le G):F.At w:=fun g hg=>(k g (h g hg).1).trans (h g hg).2
theorem Frz.At.cb {F:Frz}{w:World}(h:F.At w){g:Nat}(hg:F.S g):Cb w g:=by
 obtain ⟨a,b,c,e⟩:=F.c g hg;exact ⟨a,b,c,(h g hg).trans e⟩
theorem Frz.At.below {F:Frz}{w w':World}(h:F.At w)(hb:Below w.heap.size w w'):F.At w':=fun g hg=>(hb.block g (h.cb hg).lt).trans (h g hg)
def Frz.all (w:World):Frz:=⟨Cb w,w,fun _ h=>h⟩
theorem Frz.all_at (w:World):(Frz.all w).At w:=fun _ _=>rfl
def Frz.none (w:World):Frz:=⟨fun _=>False,w,fun _ h=>h.elim⟩
structure Fx (F:Frz) (w:World) (G:Frz) (w':World):Prop where
 le:F.Le G
 at_:G.At w'
 new:∀g,G.S g→F.S g∨w.heap.size≤g
 bel:Below w.heap.size w w'
theorem Fx.refl {F:Frz}{w w':World}(h:F.At w)(hb:Below w.heap.size w w'):Fx F w F w':=⟨.refl F,h.below hb,fun _ h=> .inl h,hb⟩
structure FzB (B:World) (M S0:Nat→Prop) extends Frz where
 base:∀g,S g→g<B.heap.size→¬M g→w.heap[g]?=B.heap[g]?
 new:∀g,S g→S0 g∨M g∨B.heap.size≤g
@[irreducible] def Ent.fr {B:World} {M S0:Nat→Prop} (F:FzB B M S0):Ent where
 fp g:=F.S g∧(M g∨B.heap.size≤g)
 ok w:=∀g,F.S g∧(M g∨B.heap.size≤g)→w.heap[g]?=F.w.heap[g]?
 loc h k:=fun g hg=>(h g hg).trans (k g hg)
 lt h g hg:=by
  obtain ⟨_,_,_,e⟩:=F.c g hg.1;exact (Array.getElem?_eq_some_iff.1 ((h g hg).trans e)).1
 nd h g hg c:=by
  obtain ⟨_,_,_,e⟩:=F.c g hg.1;rw [(h g hg).trans e];simp
section
variable {B w w':World}{M S0:Nat→Prop}{hs hs':HS}{F G:FzB B M S0}
theorem Ent.fr_fp {k:Nat}:(Ent.fr F).fp k↔F.S k∧(M k∨B.heap.size≤k):=by unfold Ent.fr;exact Iff.rfl
theorem Ent.fr_ok:(Ent.fr F).ok w↔∀g,F.S g∧(M g∨B.heap.size≤g)→w.heap[g]?=F.w.heap[g]?:=by unfold Ent.fr;exact Iff.rfl
theorem Hp.fr {i:Nat}(hw:Hp B M hs w)(hi:hs[i]?=some (.fr F)):F.toFrz.At w:=fun g hg=>by
 by_cases h:M g∨B.heap.size≤g
 ·exact Ent.fr_ok.1 (hw.get hi) g ⟨hg,h⟩
 ·have h1:g<B.heap.size:=by
   rcases Nat.lt_or_ge g B.heap.size with h2|h2
   ·exact h2
   ·exact absurd (.inr h2) h
  have h2:¬M g:=fun k=>h (.inl k);rw [hw.base g h1 h2,F.base g hg h1 h2]
def Frz.inB {F:Frz}{w:World}(hF:F.At w)(M:Nat→Prop):FzB w M F.S:=⟨F,fun g hg _ _=>(hF g hg).symm,fun g hg=> .inl hg⟩
theorem Hp.startF {F:Frz}{w:World}(hF:F.At w):Hp w (fun _=>False) [.fr (Frz.inB hF (fun _=>False))] w:=by
 have hno:∀g,¬(Ent.fr (Frz.inB hF (fun _=>False))).fp g:=fun g hg=>by
  have h:=Ent.fr_fp.1 hg;rcases h.2 with h2|h2
  ·exact h2
  ·exact absurd (hF.cb h.1).lt (by omega)
 exact ⟨rfl,rfl,rfl,Nat.le_refl _,fun _ _ _=>rfl,fun e he=>by simp at he;subst he;exact Ent.fr_ok.2 (fun g hg=>absurd (Ent.fr_fp.2 hg) (hno g)),fun e he g hg=>by simp at he;subst he;exact absurd hg (hno g),List.pairwise_singleton _ _⟩
theorem Hp.startFM {F:Frz}{w:World}{es:HS}(hF:F.At w)(h:Hp w (fps es) es w)(hM:∀g,fps es g→¬F.S g):Hp w (fps es) (es++[.fr (Frz.inB hF (fps es))]) w:=by
 have hno:∀g,¬(Ent.fr (Frz.inB hF (fps es))).fp g:=fun g hg=>by
  have h:=Ent.fr_fp.1 hg;rcases h.2 with h2|h2
  ·exact hM g h2 h.1
  ·exact absurd (hF.cb h.1).lt (by omega)
 refine ⟨rfl,rfl,rfl,Nat.le_refl _,fun _ _ _=>rfl,fun e he=>?_,fun e he g hg=>?_,?_⟩
 ·rcases List.mem_append.1 he with he|he
  ·exact h.own e he
  ·simp at he;subst he;exact Ent.fr_ok.2 (fun g hg=>absurd (Ent.fr_fp.2 hg) (hno g))
 ·rcases List.mem_append.1 he with he|he
  ·exact h.new e he g hg
  ·simp at he;subst he;exact absurd hg (hno g)
 ·exact List.pairwise_append.2 ⟨h.apart,List.pairwise_singleton _ _,fun e he f hf g hg hfg=>by simp at hf;subst hf;exact hno g hfg⟩
theorem Hp.frLe {i:Nat}(hw:Hp B M hs w)(hi:hs[i]?=some (.fr G))(h:F.toFrz.Le G.toFrz):Hp B M (hs.set i (.fr F)) w:=
 hw.updAt (w':=w) hi (Only.refl _ _) (S:=fun _=>False) (fun _ _ h=>h.elim) (Ent.fr_ok.2 (fun g hg=>((hw.fr hi).le h) g hg.1)) (fun g hg=> .inl (Ent.fr_fp.2 ⟨(h g (Ent.fr_fp.1 hg).1).1,(Ent.fr_fp.1 hg).2⟩))
end
theorem zaA {F:Frz}{w:World}(hF:F.At w):∃(S0:Nat→Prop) (G:FzB w (fun _=>False) S0),G.toFrz=F∧(∀g,S0 g→F.S g)∧Hp w (fun _=>False) [.fr G] w:=⟨F.S,Frz.inB hF _,rfl,fun _ h=>h,Hp.startF hF⟩
theorem Fx.of {F:Frz}{w w':World}{S0:Nat→Prop}{hs:HS}{i:Nat}{G:FzB w (fun _=>False) S0}(hw:Hp w (fun _=>False) hs w')(hi:hs[i]?=some (.fr G))(hS:∀g,S0 g→F.S g)(hle:F.Le G.toFrz):Fx F w G.toFrz w':=
 ⟨hle,hw.fr hi,fun g hg=>(G.new g hg).imp (hS g) (fun h=>h.elim (fun h=>h.elim) id),hw.isBelow⟩
def SlC (F:Frz)(v:Value)(size:Nat)(cs:List (List Value)):Prop:=
 ∃(A:Option Addr) (cap:Nat),v= .slice A cs.length cap∧cs.length≤cap∧cap≤9223372036854775807∧(∀c∈cs,c.length=size)∧(0<cs.length→∃g off,A=some ⟨g,off,none⟩∧F.S g∧∀i,i<cs.length→Cs F.w g (off+i*size) (nth cs i))
theorem zcL {w w':World}{g p:Nat}(h:w'.heap[g]?=w.heap[g]?):w'.cell? ⟨g,p,none⟩=w.cell? ⟨g,p,none⟩:=by
 unfold World.cell?;simp only [h]
theorem Cs.at {F:Frz}{w:World}(h:F.At w){g p:Nat}{l:List Value}(hg:F.S g)(hc:Cs F.w g p l):Cs w g p l:=fun j hj=>by
 rw [zcL (h g hg)];exact hc j hj
theorem SlC.mono {F G:Frz}{v:Value}{size:Nat}{cs:List (List Value)}(h:SlC F v size cs)(hle:F.Le G):SlC G v size cs:=by
 obtain ⟨A,cap,h1,h2,h3,h4,h5⟩:=h;refine ⟨A,cap,h1,h2,h3,h4,fun hl=>?_⟩;obtain ⟨g,off,h6,h7,h8⟩:=h5 hl;exact ⟨g,off,h6,(hle g h7).1,fun i hi j hj=>by rw [zcL (hle g h7).2];exact h8 i hi j hj⟩
theorem SlC.max {F:Frz}{v:Value}{size:Nat}{cs:List (List Value)}(h:SlC F v size cs):cs.length≤9223372036854775807:=by
 obtain ⟨A,cap,h1,h2,h3,_⟩:=h;omega
theorem SlC.nil (F:Frz)(size:Nat):SlC F (.slice none 0 0) size []:=⟨none,0,rfl,Nat.le_refl _,by omega,(fun _ h=>by cases h),(fun h=>absurd h (Nat.lt_irrefl 0))⟩
def zeq (v:Value)(k:Nat):Value:=match v with
 | .slice (some a) _ _=> .pointer (some (a.add k))
 |_=> .pointer none
theorem zbF {g off n cap k:Nat}:zeq (.slice (some ⟨g,off,none⟩) n cap) k= .pointer (some ⟨g,off+k,none⟩):=by
 show Value.pointer (some (Addr.add ⟨g,off,none⟩ k))=_
 rw [zck]
theorem SlC.addr {F:Frz}{v:Value}{size:Nat}{cs:List (List Value)}(h:SlC F v size cs)(hl:0<cs.length):∃g off cap,v= .slice (some ⟨g,off,none⟩) cs.length cap∧F.S g∧∀i,i<cs.length→Cs F.w g (off+i*size) (nth cs i):=by
 obtain ⟨A,cap,h1,h2,h3,h4,h5⟩:=h;obtain ⟨g,off,rfl,h7,h8⟩:=h5 hl;exact ⟨g,off,cap,h1,h7,h8⟩
theorem SlC.row {F:Frz}{v:Value}{size:Nat}{cs:List (List Value)}(h:SlC F v size cs){i:Nat}(hi:i<cs.length):(nth cs i).length=size:=by
 obtain ⟨A,cap,h1,h2,h3,h4,h5⟩:=h;rw [zam hi];exact h4 _ (List.getElem_mem hi)
section
variable {Fe:Fence}[hFe:Calm Fe]{P:Program}{n:Nat}{B D:World}{M S0:Nat→Prop}{Q:Exit→Act→World→Prop}{fs:SFs}{hs:HS}{ops:Array Oper}{rest:List Oper}{o:Oper}{v val:Value}
theorem Yv.aO {F:Frz}{t e k size m:Nat}{cs:List (List Value)}{x:Operand}[hT:TySl P t e k](ho:o.op= .call { callee:= .builtin .len,args:= #[x],argTypes:= #[t] })(hx:ev fs x=some v)(h:SlC F v size cs)(hm:cs.length=m):Yv P n B M fs hs o (.int .i64 (m:Int)):=by
 obtain ⟨A,cap,h1,_⟩:=h;subst h1 hm;exact Yv.aq ho hx
theorem Yv.aP {F:Frz}{t e k i m:Nat}{z:Int}{q:IntKind}{cs:List (List Value)}{x y:Operand}[hT:TySl P t e k](ho:o.op= .indexAddr t x y)(hx:ev fs x=some v)(hy:ev fs y=some (.int q z))(h:SlC F v k cs)(hm:cs.length=m)(hz:z=(i:Int))(hi:i<m):Yv P n B M fs hs o (zeq v (i*k)):=by
 subst hm;obtain ⟨g,off,cap,rfl,_⟩:=h.addr (by omega);rw [zbF];exact Yv.ag ho hx hy hz hi
theorem Yv.bq {F:Frz}{s f off p k m:Nat}{cs:List (List Value)}{x:Operand}[hT:TyF P s f off](ho:o.op= .fieldAddr s x f)(hx:ev fs x=some (zeq v p))(h:SlC F v k cs)(hm:cs.length=m)(hi:0<m):Yv P n B M fs hs o (zeq v (p+off)):=by
 subst hm;obtain ⟨g,o',cap,rfl,_⟩:=h.addr (by omega);rw [zbF] at hx ⊢;exact (Yv.fieldAddr ho hx).eq (by rw [Nat.add_assoc])
theorem Yv.loadR (ix:Nat){F:FzB B M S0}{t:TypeId}[hT:TyS P t]{k i j p m:Nat}{cs:List (List Value)}{x:Operand}(ho:o.op= .load t x)(hx:ev fs x=some (zeq v p))(hF:hs[ix]?=some (.fr F))(h:SlC F.toFrz v k cs)(hm:cs.length=m)(hi:i<m)(hp:p=i*k+j)(hv:(nth cs i)[j]?=some val):Yv P n B M fs hs o val:=by
 subst hm hp;obtain ⟨g,off,cap,rfl,hg,hc⟩:=h.addr (by omega);rw [zbF] at hx;intro a w ha hw;refine zcd ho (ha.ev hx) ?_;have:=Cs.at (hw.fr hF) hg (hc i hi) j (List.getElem?_eq_some_iff.1 hv).1;rw [show off+(i*k+j)=off+i*k+j by omega,this,hv]
theorem Yv.bO (ix:Nat){F:FzB B M S0}{t:TypeId}{q:Nat}[hT:TyA P t q]{k i j p m:Nat}{cs:List (List Value)}{l:List Value}{x:Operand}(ho:o.op= .load t x)(hx:ev fs x=some (zeq v p))(hF:hs[ix]?=some (.fr F))(h:SlC F.toFrz v k cs)(hm:cs.length=m)(hi:i<m)(hp:p=i*k+j)(hv:((nth cs i).drop j).take q=l)(hl:l.length=q):Yv P n B M fs hs o (.agg l.toArray):=by
 subst hm hp;obtain ⟨g,off,cap,rfl,hg,hc⟩:=h.addr (by omega);rw [zbF] at hx;intro a w ha hw;refine zdd ho (ha.ev hx) (fun b hb=>?_) hl
 have hlen:j+b<(nth cs i).length:=by
  have:=congrArg List.length hv;simp at this;omega
 have:=Cs.at (hw.fr hF) hg (hc i hi) (j+b) hlen;rw [show off+(i*k+j)+b=off+i*k+(j+b) by omega,this,←hv,List.getElem?_take_of_lt (by omega),List.getElem?_drop]
def SlK (F:Frz)(v:Value)(size n:Nat)(l:List Value):Prop:=
 l.length=n*size∧∃(A:Option Addr) (cap:Nat),v= .slice A n cap∧n≤cap∧cap≤9223372036854775807∧(0<n→∃g,A=some ⟨g,0,none⟩∧F.S g∧Cs F.w g 0 l)
def FzB.addB {w:World}(F:FzB B M S0)(hF:F.toFrz.At w){g:Nat}(hg:Cb w g)(hb:M g∨B.heap.size≤g):FzB B M S0 where
 S k:=F.S k∨k=g
 w:=w
 c k hk:=by rcases hk with h|rfl;exact hF.cb h;exact hg
 base k hk h1 h2:=by
  rcases hk with h|rfl
  ·rw [hF k h,F.base k h h1 h2]
  ·rcases hb with h|h
   ·exact absurd h h2
   ·omega
 new k hk:=by
  rcases hk with h|rfl
  ·exact F.new k h
  ·exact .inr hb
theorem FzB.addB_le {w:World}(F:FzB B M S0)(hF:F.toFrz.At w){g:Nat}(hg:Cb w g)(hb:M g∨B.heap.size≤g):F.toFrz.Le (F.addB hF hg hb).toFrz:=fun k hk=>⟨.inl hk,hF k hk⟩
theorem zcO {i j : Nat} {a b a' : Ent} (hij : i ≠ j) (hi : hs[i]? = some a) (hj : hs[j]? = some b) : ∃ r : HS, hs.Perm ([a, b] ++ r) ∧ ((hs.set i a').eraseIdx j).Perm ([a'] ++ r) := by
  have h1 := zcj hi; (have hj' : (hs.set i a')[j]? = some b := by rw [List.getElem?_set_ne hij]; exact hj); have h2 := zcj hj'; have h3 := zb3 (e' := a') hi
  -- b lies in the rest
  have hb : b ∈ hs.eraseIdx i := by
    rw [List.mem_eraseIdx_iff_getElem?]; exact ⟨j, fun e => hij e.symm, hj⟩
  obtain ⟨r1, r2, hr⟩ := List.append_of_mem hb; refine ⟨r1 ++ r2, ?_, ?_⟩
  · refine h1.trans ?_; rw [hr]; exact (List.perm_middle.cons a)
  · have h4 : (b :: (hs.set i a').eraseIdx j).Perm (b :: ([a'] ++ (r1 ++ r2))) := by
      refine h2.symm.trans (h3.symm.trans ?_); rw [hr]; exact (List.perm_middle.cons a').trans (List.Perm.swap _ _ _)
    exact (List.perm_cons b).1 h4
theorem Hp.freezeB {w : World} {i j : Nat} {F : FzB B M S0} {e : Ent} (hw : Hp B M hs w) (hij : i ≠ j) (hi : hs[i]? = some (.fr F)) (hj : hs[j]? = some e) {g : Nat} (hfp : e.fp g) (hg : Cb w g) :
    ∃ G : FzB B M S0, F.toFrz.Le G.toFrz ∧ G.S g ∧ G.w = w ∧ Hp B M ((hs.set i (.fr G)).eraseIdx j) w := by
  have hF := hw.fr hi; have hb := hw.new e (List.mem_of_getElem? hj) g hfp; refine ⟨F.addB hF hg hb, F.addB_le hF hg hb, .inr rfl, rfl, ?_⟩; obtain ⟨r, h1, h2⟩ := zcO (a' := .fr (F.addB hF hg hb)) hij hi hj; refine Hp.perm ?_ h2.symm; refine Hp.repl (hw.perm h1) ?_ ?_ (List.pairwise_singleton _ _)
  · intro x hx; simp at hx; subst hx; exact Ent.fr_ok.2 (fun k hk => rfl)
  · intro x hx k hk; simp at hx; subst hx; have h := Ent.fr_fp.1 hk; rcases h.1 with h3 | h3
    · exact ⟨_, by simp, Ent.fr_fp.2 ⟨h3, h.2⟩⟩
    · subst h3; exact ⟨e, by simp, hfp⟩
theorem Hp.drop {w:World}(hw:Hp B M hs w)(j:Nat):Hp B M (hs.eraseIdx j) w:=hw.sub (List.eraseIdx_sublist _ _)
theorem ziu {α:Type}{l:List α}{i:Nat}{a:α}(h:l[i]?=some a):l.set i a=l:=by
 obtain ⟨hi,rfl⟩:=List.getElem?_eq_some_iff.1 h;exact List.set_getElem_self hi
theorem Hp.freezeR {w : World} {i j : Nat} {F : FzB B M S0} {e : TypeId} {g : Nat} {l : List Value} (hw : Hp B M hs w) (hij : i ≠ j) (hi : hs[i]? = some (.fr F)) (hj : hs[j]? = some (.row g e l)) :
    ∃ G : FzB B M S0, (F.toFrz.Le G.toFrz ∧ G.S g ∧ Cs G.w g 0 l) ∧ Hp B M ((hs.set i (.fr G)).eraseIdx j) w := by
  have ho := Ent.row_ok.1 (hw.get hj); obtain ⟨G, h1, h2, h3, h4⟩ := hw.freezeB hij hi hj (g := g) (Ent.row_fp.2 rfl) ⟨_, _, _, ho⟩; exact ⟨G, ⟨h1, h2, fun q hq => by rw [h3, Nat.zero_add, zaE ho]⟩, h4⟩
theorem SlK.lit {F:Frz}{g k c size:Nat}{l:List Value}(h:F.S g∧Cs F.w g 0 l)(hl:l.length=k*size)(hc:k≤c)(hm:c≤9223372036854775807):SlK F (.slice (some ⟨g,0,none⟩) k c) size k l:=⟨hl,_,c,rfl,hc,hm,fun _=>⟨g,rfl,h.1,h.2⟩⟩
theorem zbE {α β:Type}[Inhabited α][Inhabited β]{f:α→β}{xs:List α}{i:Nat}(h:i<xs.length):nth (xs.map f) i=f (nth xs i):=by
 rw [zam (by simpa using h),zam h,List.getElem_map]
theorem zcE {size:Nat}:∀(cs:List (List Value)),(∀c∈cs,c.length=size)→∀i,i<cs.length→∀j,j<size→(cs.flatten)[i*size+j]?=(nth cs i)[j]?
 |c :: r,h,0,_,j,hj=>by
  have:=h c (by simp);simp only [List.flatten_cons,Nat.zero_mul,Nat.zero_add];rw [List.getElem?_append_left (by omega)];rfl
 |c :: r,h,i+1,hi,j,hj=>by
  have hc:=h c (by simp);simp only [List.flatten_cons];rw [List.getElem?_append_right (by rw [hc,Nat.add_mul];omega),hc]; (have e:(i+1) *size+j - size=i*size+j:=by rw [Nat.add_mul];omega);rw [e,zcE r (fun c' h'=>h c' (by simp [h'])) i (by simpa using hi) j hj];simp [nth]
def OwnD {α:Type}[Inhabited α](rep:Frz→List Value→α→Prop)(F:Frz)(size:Nat)(cs:List (List Value))(xs:List α):Prop:=cs.length=xs.length∧(∀c∈cs,c.length=size)∧∀i,i<xs.length→rep F (nth cs i) (nth xs i)
def SlD {α:Type}[Inhabited α](rep:Frz→List Value→α→Prop)(F:Frz)(v:Value)(size:Nat)(cs:List (List Value))(xs:List α):Prop:=SlC F v size cs∧cs.length=xs.length∧∀i,i<xs.length→rep F (nth cs i) (nth xs i)
theorem SlD.mono {α:Type}[Inhabited α]{rep:Frz→List Value→α→Prop}(hm:∀F G c x,F.Le G→rep F c x→rep G c x){F G:Frz}{size:Nat}{cs:List (List Value)}{xs:List α}(h:SlD rep F v size cs xs)(hle:F.Le G):SlD rep G v size cs xs:=⟨h.1.mono hle,h.2.1,fun i hi=>hm _ _ _ _ hle (h.2.2 i hi)⟩
theorem OwnD.mono {α:Type}[Inhabited α]{rep:Frz→List Value→α→Prop}(hm:∀F G c x,F.Le G→rep F c x→rep G c x){F G:Frz}{size:Nat}{cs:List (List Value)}{xs:List α}(h:OwnD rep F size cs xs)(hle:F.Le G):OwnD rep G size cs xs:=⟨h.1,h.2.1,fun i hi=>hm _ _ _ _ hle (h.2.2 i hi)⟩
theorem OwnD.nil {α:Type}[Inhabited α](rep:Frz→List Value→α→Prop)(F:Frz)(size:Nat):OwnD rep F size [] []:=⟨rfl,(fun _ h=>by cases h),fun i hi=>absurd hi (Nat.not_lt_zero i)⟩
theorem zc6 {α:Type}[Inhabited α]{xs ys:List α}{i:Nat}(h:i<xs.length):nth (xs++ys) i=nth xs i:=by
 rw [zam (by simp;omega),zam h,List.getElem_append_left h]
theorem zcP {α:Type}[Inhabited α]{xs:List α}{y:α}{i:Nat}(h:i=xs.length):nth (xs++[y]) i=y:=by
 subst h;simp [nth]
theorem OwnD.snoc {α:Type}[Inhabited α]{rep:Frz→List Value→α→Prop}{F:Frz}{size:Nat}{cs:List (List Value)}{xs:List α}{c:List Value}{x:α}(h:OwnD rep F size cs xs)(hc:rep F c x)(hl:c.length=size):OwnD rep F size (cs++[c]) (xs++[x]):=by
 refine ⟨by simp [h.1],fun d hd=>?_,fun i hi=>?_⟩
 ·rcases List.mem_append.1 hd with hd|hd
  ·exact h.2.1 d hd
  ·simp at hd;subst hd;exact hl
 ·simp at hi;rcases Nat.lt_or_ge i xs.length with h1|h1
  ·rw [zc6 h1,zc6 (by rw [h.1];exact h1)];exact h.2.2 i h1
  ·have h2:=h.1;rw [zcP (show i=cs.length by omega),zcP (show i=xs.length by omega)];exact hc
theorem SlK.toC {F:Frz}{size k:Nat}{l:List Value}{cs:List (List Value)}(h:SlK F v size k l)(hl:l=cs.flatten)(hk:k=cs.length)(hs:∀c∈cs,c.length=size):SlC F v size cs:=by
 obtain ⟨h1,A,cap,h2,h3,h4,h5⟩:=h;subst hk hl;refine ⟨A,cap,h2,h3,h4,hs,fun hp=>?_⟩;obtain ⟨g,hA,hg,hc⟩:=h5 hp;refine ⟨g,0,hA,hg,fun i hi j hj=>?_⟩; (have hrow:(nth cs i).length=size:=by rw [zam hi];exact hs _ (List.getElem_mem hi))
 have hlt:i*size+j<cs.flatten.length:=by
  rw [h1];have:(i+1) *size≤cs.length*size:=Nat.mul_le_mul_right _ hi;rw [Nat.add_mul] at this;omega
 have:=hc (i*size+j) hlt;rw [Nat.zero_add] at this ⊢;rw [this,zcE cs hs i hi j (by omega)]
theorem SlK.toF {α:Type}{F:Frz}{size k:Nat}{enc:α→List Value}{xs:List α}(h:SlK F v size k (xs.flatMap enc))(hk:k=xs.length)(he:∀x,(enc x).length=size):SlC F v size (xs.map enc):=
 h.toC (List.flatMap_def ..) (by simpa using hk) (fun c hc=>by obtain ⟨x,_,rfl⟩:=List.mem_map.1 hc;exact he x)
theorem SlK.toD {α:Type}[Inhabited α]{rep:Frz→List Value→α→Prop}{F:Frz}{size k:Nat}{cs:List (List Value)}{xs:List α}(h:SlK F v size k cs.flatten)(ho:OwnD rep F size cs xs)(hk:k=xs.length):SlD rep F v size cs xs:=
 ⟨h.toC rfl (by rw [ho.1];exact hk) ho.2.1,ho.1,ho.2.2⟩
theorem T.conv {c:Code}{hs':HS}(h1:∀w,Hp B M hs w→Hp B M hs' w)(h:T Fe P n B D M c Q fs hs'):T Fe P n B D M c Q fs hs:=⟨fun a w ha hw hm=>h.out a w ha (h1 w hw) hm⟩
theorem T.aW {ι:Type}{φ:ι→Prop}{c:Code}{hs':ι→HS}(h1:∀w,Hp B M hs w→∃x,φ x∧Hp B M (hs' x) w)(h:∀x,φ x→T Fe P n B D M c Q fs (hs' x)):T Fe P n B D M c Q fs hs:=⟨fun a w ha hw hm=>by
 obtain ⟨x,hx,hw'⟩:=h1 w hw;exact (h x hx).out a w ha hw' hm⟩
theorem TL.aW {ι:Type}{φ:ι→Prop}{l:List Oper}{hs':ι→HS}(h1:∀w,Hp B M hs w→∃x,φ x∧Hp B M (hs' x) w)(h:∀x,φ x→TL Fe P n B D M ops Q l fs (hs' x)):TL Fe P n B D M ops Q l fs hs:=⟨fun a w ha hw hm=>by
 obtain ⟨x,hx,hw'⟩:=h1 w hw;exact (h x hx).out a w ha hw' hm⟩
theorem K.aW {ι:Type}{φ:ι→Prop}{e:Exit}{hs':ι→HS}(h1:∀w,Hp B M hs w→∃x,φ x∧Hp B M (hs' x) w)(h:∀x,φ x→K n B D M Q e fs (hs' x)):K n B D M Q e fs hs:=⟨fun a w ha hw hm=>by
 obtain ⟨x,hx,hw'⟩:=h1 w hw;exact (h x hx).out a w ha hw' hm⟩
theorem TS.aW {ι:Type}{φ:ι→Prop}{hs0:HS}{r:Ord}{hs':ι→HS}(h1:∀w,Hp B M hs w→∃x,φ x∧Hp B M (hs' x) w)(h:∀x,φ x→TS Fe P n B D M ops Q hs0 r fs (hs' x)):TS Fe P n B D M ops Q hs0 r fs hs:=⟨fun a w fuel listed h2 h3 h4 ha hw h5 hm=>by
 obtain ⟨x,hx,hw'⟩:=h1 w hw;exact (h x hx).out a w fuel listed h2 h3 h4 ha hw' h5 hm⟩
theorem TSo.bk {hs0:HS}{i:Nat}{k:Ord}{d:Nat}{Φ:Value→HS→Prop}(hi:ops[i]?=some o)(hwt:Wt n ops fs o true)(hd:o.dst=some d)(hb:Nat.blt d n=true)(h:Ew P n B M fs hs o Φ)(h2:∀v hs',Φ v hs'→(∀w,Hp B M hs' w→Hp B M hs0 w)∧TS Fe P n B D M ops Q hs0 k ((d,v) :: fs) hs'):TSo Fe P n B D M ops Q hs0 i k fs hs:=
 ⟨fun a w fuel listed hns hnd hok ha hw hw0 hm=>by
  unfold wpOpIn;simp only [hi,hwt a ha,if_true];refine h Fe hFe Q _ a w ha hw fun v w' hs' hk hp' hΦ=>?_;rw [hd]
  exact ⟨_,fun _=>rfl,(h2 v hs' hΦ).1 _ hp',(h2 v hs' hΦ).2.out _ w' fuel _ hns hnd hok (ha.put hb v) hp' ((h2 v hs' hΦ).1 _ hp') ((hm.next hk).put _ _)⟩⟩
theorem Fx.up {F:FzB B M S0}{w w':World}{G:Frz}(h:Fx F.toFrz w G w')(hw:Hp B M hs w):∃G':FzB B M S0,G'.toFrz=G:=by
 refine ⟨⟨G,fun g hg hb hM=>?_,fun g hg=>?_⟩,rfl⟩
 ·rcases h.new g hg with h1|h1
  ·rw [(h.le g h1).2,F.base g h1 hb hM]
  ·have:=hw.size;omega
 ·rcases h.new g hg with h1|h1
  ·exact F.new g h1
  ·have:=hw.size;exact .inr (.inr (by omega))
theorem Ew.aQ (i : Nat) {ι : Type} {F : FzB B M S0} {φ : ι → Frz → Prop} {val : ι → Value} {hs' : FzB B M S0 → HS} {c : Operand} {xs : Array Operand} {ts : Array TypeId} {f : FuncId} {fst caps : Array Value} {vs : List Value} [hE : Enters P f] (ho : o.op = .call { callee := .value c, args := xs, argTypes := ts }) (hc : ev fs c = some (.func (.func f) fst caps)) (hv : evs fs xs.toList = some vs) (hi : hs[i]? = some (.fr F))
    (C : ∀ w, Hp B M hs w → F.toFrz.At w → Calls P f (fst.toList ++ vs ++ caps.toList).toArray w (fun e w' => ∃ y G, φ y G ∧ e = .returned (val y) ∧ Fx F.toFrz w G w')) [hH : ∀ G, SetAt hs i (.fr G) (hs' G)] : Ew P n B M fs hs o (fun v hs'' => ∃ y, ∃ G : FzB B M S0, F.toFrz.Le G.toFrz ∧ φ y G.toFrz ∧ v = val y ∧ hs'' = hs' G) :=
  Ew.call ho hc hv fun w hp => (C w hp (hp.fr hi)).mono fun e w' ⟨y, G, hy, he, hx⟩ => by
    obtain ⟨G', rfl⟩ := hx.up hp; refine ⟨val y, hs' G', he, Kp.below hx.bel, ?_, y, G', hx.le, hy, rfl, rfl⟩; rw [← (hH G').h]; refine hp.updAt hi (S := fun _ => False) (.of_below_new hx.bel _) (fun _ _ h => h.elim) (Ent.fr_ok.2 (fun g hg => hx.at_ g hg.1)) (fun g hg => ?_); have h := Ent.fr_fp.1 hg; rcases hx.new g h.1 with h1 | h1
    · exact .inl (Ent.fr_fp.2 ⟨h1, h.2⟩)
    · exact .inr h1
end
def zav {σ ρ:Type}(f:Nat→(σ→ρ)→σ→ρ)(k:σ→ρ):Nat→Nat→σ→ρ
 |0,_,s=>k s
 |m+1,i,s=>f i (zav f k m (i+1)) s
def zib {σ ρ:Type}(f:Nat→(σ→ρ)→σ→ρ)(k:σ→ρ):Nat→σ→ρ
 |0,s=>k s
 |m+1,s=>f m (zib f k m) s
def zb4 {σ ρ:Type}(f:(σ→Option ρ)→σ→Option ρ):Nat→σ→Option ρ
 |0,_=>none
 |m+1,s=>f (zb4 f m) s
def za0 {σ ρ:Type}(k:σ→ρ)(e:(σ→ρ)→ρ):ρ:=e k
def grd {ρ:Type}(c:Prop)[Decidable c](x:Option ρ):Option ρ:=if c then x else none
section
variable {σ ρ:Type}
theorem zbg {f:Nat→(σ→ρ)→σ→ρ}{k:σ→ρ}{n i:Nat}{s:σ}(h:i<n):zav f k (n - i) i s=f i (zav f k (n - (i+1)) (i+1)) s:=by
 rw [show n - i=(n - (i+1))+1 by omega];rfl
theorem zbh {f:Nat→(σ→ρ)→σ→ρ}{k:σ→ρ}{n i:Nat}{s:σ}(h:n≤i):zav f k (n - i) i s=k s:=by
 rw [show n - i=0 by omega];rfl
theorem zaS {f:Nat→(σ→ρ)→σ→ρ}{k:σ→ρ}{m i:Nat}{s:σ}{R:ρ}(h:zav f k m i s=R):∃f' k',f=f'∧k=k'∧zav f' k' m i s=R:=⟨f,k,rfl,rfl,h⟩
theorem zgw {f:(σ→Option ρ)→σ→Option ρ}{m:Nat}{s:σ}{R:Option ρ}(h:zb4 f m s=R):∃f',f=f'∧zb4 f' m s=R:=⟨f,rfl,h⟩
theorem zaF {k:σ→ρ}{e:(σ→ρ)→ρ}{R:ρ}(h:za0 k e=R):∃k',k=k'∧e k'=R:=⟨k,rfl,h⟩
theorem zhe {f:(σ→Option ρ)→σ→Option ρ}{m:Nat}{s:σ}{r:ρ}(h:zb4 f m s=some r):∃m',m=m'+1∧f (zb4 f m') s=some r:=by
 cases m with
 |zero=>cases h
 |succ m=>exact ⟨m,rfl,h⟩
theorem zbn {c:Prop}[Decidable c]{x:Option ρ}{r:ρ}(h:grd c x=some r):c∧x=some r:=by
 unfold grd at h;split at h
 ·exact ⟨by assumption,h⟩
 ·cases h
theorem zbL {c:Prop}[Decidable c]{x:Option ρ}(h:c):grd c x=x:=by unfold grd;rw [if_pos h]
theorem zak {α:Type}{x:Option α}{f:α→Option ρ}{r:ρ}(h:x.bind f=some r):∃a,x=some a∧f a=some r:=by
 cases x with
 |none=>cases h
 |some a=>exact ⟨a,rfl,h⟩
theorem zd7 {f:Nat→(σ→ρ)→σ→ρ}{k:σ→ρ}{n:Nat}{s:σ}(I:Nat→σ→Prop)(post:ρ→Prop)(h0:I 0 s)(hk:∀s,I n s→post (k s))(hf:∀i s next,i<n→I i s→(∀s',I (i+1) s'→post (next s'))→post (f i next s)):post (zav f k n 0 s):=by
 have key:∀m i s,i+m=n→I i s→post (zav f k m i s):=by
  intro m
  induction m with
  |zero=>intro i s e hI;rw [show i=n by omega] at hI;exact hk s hI
  |succ m ih=>intro i s e hI;exact hf i s _ (by omega) hI (fun s' hs'=>ih (i+1) s' (by omega) hs')
 exact key n 0 s (by omega) h0
theorem zhz {f:Nat→(σ→ρ)→σ→ρ}{k:σ→ρ}{n:Nat}{s:σ}(I:Nat→σ→Prop)(post:ρ→Prop)(h0:I n s)(hk:∀s,I 0 s→post (k s))(hf:∀i s next,i<n→I (i+1) s→(∀s',I i s'→post (next s'))→post (f i next s)):post (zib f k n s):=by
 have key:∀m s,m≤n→I m s→post (zib f k m s):=by
  intro m
  induction m with
  |zero=>intro s _ hI;exact hk s hI
  |succ m ih=>intro s e hI;exact hf m s _ (by omega) hI (fun s' hs'=>ih s' (by omega) hs')
 exact key n s (Nat.le_refl _) h0
theorem zeE {f:(σ→Option ρ)→σ→Option ρ}{m:Nat}{s:σ}(I:σ→Prop)(μ:σ→Nat)(post:Option ρ→Prop)(h0:I s)(hm:μ s<m)(hf:∀s next,I s→(∀s',I s'→μ s'<μ s→post (next s'))→post (f next s)):post (zb4 f m s):=by
 induction m generalizing s with
 |zero=>omega
 |succ m ih=>exact hf s _ h0 (fun s' hs' hl=>ih hs' (by omega))
end
section
variable {Fe:Fence}[hFe:Calm Fe]{P:Program}{n:Nat}{B D:World}{M:Nat→Prop}{Q:Exit→Act→World→Prop}{fs:SFs}{hs:HS}{ops:Array Oper}{rest:List Oper}{o:Oper}{v val sv:Value}
theorem Hp.slAddr {w:World}{j k size:Nat}{e:TypeId}{l:List Value}(hw:Hp B M hs w)(hj:hs[j]?=some (.sl v e size k l))(hk:0<k):∃g cap,v= .slice (some ⟨g,0,none⟩) k cap:=by
 rcases (Ent.sl_ok.1 (hw.get hj)).2 with ⟨_,h0⟩|⟨g,cap,_,e,_⟩
 ·omega
 ·exact ⟨g,cap,e⟩
theorem Yv.cv (j:Nat){t e k i m:Nat}{z:Int}{q:IntKind}{l:List Value}{x y:Operand}{e':TypeId}[hT:TySl P t e k](ho:o.op= .indexAddr t x y)(hx:ev fs x=some sv)(hy:ev fs y=some (.int q z))(hj:hs[j]?=some (.sl sv e' k m l))(hz:z=(i:Int))(hi:i<m):Yv P n B M fs hs o (zeq sv (i*k)):=fun a w ha hw=>by
 obtain ⟨g,cap,rfl⟩:=hw.slAddr hj (by omega);rw [zbF];exact Yv.ag (B:=B) (M:=M) (hs:=hs) ho hx hy hz hi a w ha hw
theorem Yv.ca (j:Nat){t e:TypeId}[hT:TyS P t]{p size k:Nat}{l:List Value}{x:Operand}(ho:o.op= .load t x)(hx:ev fs x=some (zeq sv p))(hj:hs[j]?=some (.sl sv e size k l))(hk:0<k)(hv:l[p]?=some val):Yv P n B M fs hs o val:=fun a w ha hw=>by
 obtain ⟨g,cap,rfl⟩:=hw.slAddr hj hk;rw [zbF,Nat.zero_add] at hx;exact Yv.aI (B:=B) (M:=M) (hs:=hs) j ho hx hj hv a w ha hw
theorem Ew.bE (i : Nat) {s x : Operand} {t e : TypeId} {size bytes m c k k' g off : Nat} {z l news l' : List Value} {hs' : Value → HS} [hT : TyE P t e size bytes z] (h1 : ∀ v ∈ news, v.oneCell' = true) (ho : o.op = .call { callee := .builtin .append, args := #[s, x], argTypes := #[t, t] })
    (hs1 : ev fs s = some sv) (hx : ev fs x = some (.slice (some ⟨g, off, none⟩) m c)) (hi : hs[i]? = some (.sl sv e size k l)) (hj : ∀ w, Hp B M hs w → Cs w g off news) (hl : news.length = m * size) (hk : k + m = k') (hl' : l ++ news = l') (hb : k' * bytes ≤ 140737488355328) (hbs : 0 < bytes)
    [hH : ∀ v', SetAt hs i (.sl v' e size k' l') (hs' v')] : Ew P n B M fs hs o (fun v hs'' => OneC v ∧ hs'' = hs' v) := Ew.aM fun a w ha hp => by
  obtain ⟨inf, zv, hU, hinf, hz, hzc, rfl, rfl, hzs, hpos⟩ := hT.get; subst hk hl'; have hkm : k + m ≤ 140737488355328 := Nat.le_trans (Nat.le_mul_of_pos_right _ hbs) hb
  have hnews : ∀ q u, news[q]? = some u → w.cell? ((⟨g, off, none⟩ : Addr).add q) = some u := by
    intro q u hq; rw [zck]; exact (hj w hp q (List.getElem?_eq_some_iff.1 hq).1).trans hq
  obtain ⟨v', w', hr, hown, hgr, _, hat⟩ := run_append_own_at (P := P) w 0 t o.type e inf zv inf.size inf.bytes hU hinf hz rfl rfl hzs hpos sv k l (Ent.sl_ok.1 (hp.get hi)) ⟨g, off, none⟩ m c news hl hnews h1 (by unfold maxLen; omega) hb (Nat.zero_le _); refine ⟨v', w', hs' v', ?_, ?_, ?_, ?_, rfl⟩
  · unfold execOp; simp [ho, resolve, invoke, builtin, ha.ev hs1, ha.ev hx, hr]
  · exact Kp.only (zbG hgr) (fun g hg c => (Ent.sl sv e inf.size k l).nd (hp.get hi) g (Ent.sl_fp.2 hg) c)
  · rw [← (hH v').h]; refine hp.updAt hi (zbG hgr) (fun q _ hq => Ent.sl_fp.2 hq) (Ent.sl_ok.2 hown) (fun q hq => ?_); have := Ent.sl_fp.1 hq; rcases hat with h | h
    · exact .inl (Ent.sl_fp.2 (by rw [← h]; exact this))
    · rw [h] at this; simp at this; exact .inr (by omega)
  · rcases hown.2 with ⟨rfl, _⟩ | ⟨_, _, _, rfl, _⟩ <;> exact ⟨rfl⟩
theorem Ew.br (i j : Nat) {s x : Operand} {t e u : TypeId} {size bytes m c k k' g : Nat} {z l news l' : List Value} {hs' : Value → HS} [hT : TyE P t e size bytes z] [h1 : OneCs news] (ho : o.op = .call { callee := .builtin .append, args := #[s, x], argTypes := #[t, t] })
    (hs1 : ev fs s = some sv) (hx : ev fs x = some (.slice (some ⟨g, 0, none⟩) m c)) (hi : hs[i]? = some (.sl sv e size k l)) (hj : hs[j]? = some (.row g u news)) (hl : news.length = m * size) (hk : k + m = k') (hl' : l ++ news = l') (hb : k' * bytes ≤ 140737488355328) (hbs : 0 < bytes)
    [hH : ∀ v', SetAt hs i (.sl v' e size k' l') (hs' v')] : Ew P n B M fs hs o (fun v hs'' => OneC v ∧ hs'' = hs' v) :=
  Ew.bE i h1.h ho hs1 hx hi (fun w hw => Cs.of_row (Ent.row_ok.1 (hw.get hj)) (by simp)) hl hk hl' hb hbs
end
abbrev eI (x:Int):List Value:=[.int .i64 x]
abbrev eK (k:IntKind)(x:Int):List Value:=[.int k x]
abbrev wI (x:Int):Int:=IntKind.i64.wrap x
abbrev room (n bytes:Nat):Prop:=n*bytes≤140737488355328
theorem zac {ρ:Type}{b:Bool}{x y R:ρ}(h:(bif b then x else y)=R)(hb:b=true):x=R:=by subst hb;exact h
theorem zad {ρ:Type}{b:Bool}{x y R:ρ}(h:(bif b then x else y)=R)(hb:b=false):y=R:=by subst hb;exact h
theorem SlC.oneC {F:Frz}{v:Value}{size:Nat}{cs:List (List Value)}(h:SlC F v size cs):OneC v:=by
 obtain ⟨A,cap,rfl,_⟩:=h;exact ⟨rfl⟩
theorem SlD.nil {α:Type}[Inhabited α](rep:Frz→List Value→α→Prop)(F:Frz)(size:Nat):SlD rep F (.slice none 0 0) size [] []:=⟨SlC.nil F size,rfl,fun i hi=>absurd hi (Nat.not_lt_zero i)⟩
theorem zd8 {cs ds:List (List Value)}:cs.flatten++ds.flatten=(cs++ds).flatten:=(List.flatten_append ..).symm
theorem zio {α:Type}{enc:α→List Value}{xs:List α}(h:∀x,OneCs (enc x)):∀c∈xs.map enc,∀v∈c,v.oneCell'=true:=fun c hc=>by
 obtain ⟨x,_,rfl⟩:=List.mem_map.1 hc;exact (h x).h
def zdM (hs:HS):List Nat→Option HS
 | []=>some []
 |i :: r=>match hs[i]? with
  |some e=>match zdM hs r with
   |some l=>some (e :: l)
   |none=>none
  |none=>none
section
variable {B w:World}{M:Nat→Prop}{hs hs':HS}
theorem zdl:∀ {idx:List Nat} {hs':HS},zdM hs idx=some hs'→∀e∈hs',∃i∈idx,hs[i]?=some e
 | [],hs',h,e,he=>by simp only [zdM] at h;cases h;cases he
 |i :: r,hs',h,e,he=>by
  simp only [zdM] at h
  split at h
  ·rename_i x hx
   split at h
   ·rename_i l hl
    cases h
    rcases List.mem_cons.1 he with rfl|he
    ·exact ⟨i,by simp,hx⟩
    ·obtain ⟨j,hj,hje⟩:=zdl hl e he;exact ⟨j,by simp [hj],hje⟩
   ·cases h
  ·cases h
theorem Hp.two (hw:Hp B M hs w){i j:Nat}{e f:Ent}(hij:i≠j)(hi:hs[i]?=some e)(hj:hs[j]?=some f)(g:Nat)(he:e.fp g):¬f.fp g:=by
 obtain ⟨hi',rfl⟩:=List.getElem?_eq_some_iff.1 hi;obtain ⟨hj',rfl⟩:=List.getElem?_eq_some_iff.1 hj;have h:=List.pairwise_iff_getElem.1 hw.apart;rcases Nat.lt_or_ge i j with h1|h1
 ·exact h i j hi' hj' h1 g he
 ·exact fun hf=>h j i hj' hi' (by omega) g hf he
theorem zek (hw:Hp B M hs w):∀ {idx:List Nat} {hs':HS},zdM hs idx=some hs'→idx.Nodup→hs'.Pairwise fun e f=>∀g,e.fp g→¬f.fp g
 | [],hs',h,_=>by simp only [zdM] at h;cases h;exact .nil
 |i :: r,hs',h,hn=>by
  simp only [zdM] at h
  split at h
  ·rename_i x hx
   split at h
   ·rename_i l hl
    cases h
    rw [List.nodup_cons] at hn;refine List.Pairwise.cons (fun f hf g hg=>?_) (zek hw hl hn.2);obtain ⟨j,hj,hje⟩:=zdl hl f hf;exact hw.two (i:=i) (j:=j) (fun e=>hn.1 (by rw [e];exact hj)) hx hje g hg
   ·cases h
  ·cases h
theorem Hp.pick {idx:List Nat}(hw:Hp B M hs w)(h:zdM hs idx=some hs')(hn:idx.Nodup):Hp B M hs' w:=
 ⟨hw.os,hw.tape,hw.output,hw.size,hw.base,fun e he=>by obtain ⟨i,_,hi⟩:=zdl h e he;exact hw.get hi,fun e he=>by
  obtain ⟨i,_,hi⟩:=zdl h e he;exact hw.new e (List.mem_of_getElem? hi),zek hw h hn⟩
end
section
variable {Fe:Fence}[hFe:Calm Fe]{P:Program}{n:Nat}{B D:World}{M S0:Nat→Prop}{Q:Exit→Act→World→Prop}{fs:SFs}{hs:HS}{ops:Array Oper}{rest:List Oper}{o:Oper}{v val sv:Value}
theorem T.pick (idx:List Nat){c:Code}{hs':HS}(h:zdM hs idx=some hs')(hn:idx.Nodup)(k:T Fe P n B D M c Q fs hs'):T Fe P n B D M c Q fs hs:=⟨fun a w ha hw hm=>k.out a w ha (hw.pick h hn) hm⟩
theorem K.pick (idx:List Nat){e:Exit}{hs':HS}(h:zdM hs idx=some hs')(hn:idx.Nodup)(k:K n B D M Q e fs hs'):K n B D M Q e fs hs:=⟨fun a w ha hw hm=>k.out a w ha (hw.pick h hn) hm⟩
theorem T.az {ι:Type}{x y:Code}(G:ι→SFs)(H:ι→HS)(φ:ι→Prop)(h:T Fe P n B D M x (Exit.then (fun a w=>∃i,φ i∧At n B D M (G i) (H i) a w) Q) fs hs)(k:∀i,φ i→T Fe P n B D M y Q (G i) (H i)):T Fe P n B D M x (Exit.then (y.wpIn Fe 0 P Q) Q) fs hs:=
 ⟨fun a w ha hw hm=>wpIn_mono (h.out a w ha hw hm) fun e a w hq=>by
  cases e <;> first|(obtain ⟨i,hi,h1,h2,h3⟩:=hq;exact (k i hi).out a w h1 h2 h3)|exact hq⟩
theorem TSo.cc {hs0:HS}{i:Nat}{k:Ord}{d:Nat}(hi:ops[i]?=some o)(hwt:Wt n ops fs o true)(hd:o.dst=some d)(hb:Nat.blt d n=true)(hy:Yv P n B M fs hs o v)(h2:∀w,Hp B M hs w→Hp B M hs0 w)(h:TS Fe P n B D M ops Q hs0 k ((d,v) :: fs) hs):TSo Fe P n B D M ops Q hs0 i k fs hs:=
 TSo.bk hi hwt hd hb (Ew.yv hy) (by rintro _ _ ⟨rfl,rfl⟩;exact ⟨h2,h⟩)
theorem TSo.ewG0 {hs0:HS}{i:Nat}{k:Ord}{Φ:Value→HS→Prop}(hi:ops[i]?=some o)(hwt:Wt n ops fs o true)(hd:o.dst=none)(h:Ew P n B M fs hs o Φ)(h2:∀v hs',Φ v hs'→(∀w,Hp B M hs' w→Hp B M hs0 w)∧TS Fe P n B D M ops Q hs0 k fs hs'):TSo Fe P n B D M ops Q hs0 i k fs hs:=
 ⟨fun a w fuel listed hns hnd hok ha hw hw0 hm=>by
  unfold wpOpIn;simp only [hi,hwt a ha,if_true];refine h Fe hFe Q _ a w ha hw fun v w' hs' hk hp' hΦ=>?_;rw [hd]
  exact ⟨_,fun _=>rfl,(h2 v hs' hΦ).1 _ hp',(h2 v hs' hΦ).2.out _ w' fuel _ hns hnd hok (ha.put_none v) hp' ((h2 v hs' hΦ).1 _ hp') ((hm.next hk).put _ _)⟩⟩
theorem TSb.ewG0 {i:Nat}{k:Ord}{Φ:Value→HS→Prop}(hs1:HS)(hi:ops[i]?=some o)(hwt:Wt n ops fs o true)(hd:o.dst=none)(h:Ew P n B M fs hs o Φ)(h2:∀v hs',Φ v hs'→(∀w,Hp B M hs' w→Hp B M hs1 w)∧TS Fe P n B D M ops Q hs1 k fs hs'):TSb Fe P n B D M ops Q i k fs hs:=
 ⟨fun a w fuel listed hns hnd hok ha hw hm=>by
  unfold wpOpIn;simp only [hi,hwt a ha,if_true];refine h Fe hFe Q _ a w ha hw fun v w' hs' hk hp' hΦ=>?_;rw [hd]
  exact ⟨_,(h2 v hs' hΦ).1 _ hp',(h2 v hs' hΦ).2.out _ w' fuel _ hns hnd hok (ha.put_none v) hp' ((h2 v hs' hΦ).1 _ hp') ((hm.next hk).put _ _)⟩⟩
theorem TS.slNil {hs0:HS}{r:Ord}(e:TypeId)(size:Nat)(h:TS Fe P n B D M ops Q hs0 r fs (.sl (.slice none 0 0) e size 0 [] :: hs)):TS Fe P n B D M ops Q hs0 r fs hs:=⟨fun a w fuel listed h2 h3 h4 ha hw h5 hm=>h.out a w fuel listed h2 h3 h4 ha (hw.slNil e size) h5 hm⟩
theorem TSo.slNil {hs0:HS}{i:Nat}{r:Ord}(e:TypeId)(size:Nat)(h:TSo Fe P n B D M ops Q hs0 i r fs (.sl (.slice none 0 0) e size 0 [] :: hs)):TSo Fe P n B D M ops Q hs0 i r fs hs:=⟨fun a w fuel listed h2 h3 h4 ha hw h5 hm=>h.out a w fuel listed h2 h3 h4 ha (hw.slNil e size) h5 hm⟩
theorem Yv.bm (ix:Nat){F:FzB B M S0}{α:Type}[Inhabited α]{enc:α→List Value}{t:TypeId}[hT:TyS P t]{k i j p:Nat}{xs:List α}{x:Operand}(ho:o.op= .load t x)(hx:ev fs x=some (zeq v p))(hF:hs[ix]?=some (.fr F))(h:SlC F.toFrz v k (xs.map enc))(hi:i<xs.length)(hp:p=i*k+j)(hv:(enc (nth xs i))[j]?=some val):Yv P n B M fs hs o val:=
 Yv.loadR ix (i:=i) (j:=j) ho hx hF h (List.length_map _) hi hp (by rw [zbE hi];exact hv)
theorem Yv.aT (ix:Nat){F:FzB B M S0}{α:Type}[Inhabited α]{enc:α→List Value}{t:TypeId}{q:Nat}[hT:TyA P t q]{k i p:Nat}{xs:List α}{x:Operand}{l:List Value}(ho:o.op= .load t x)(hx:ev fs x=some (zeq v p))(hF:hs[ix]?=some (.fr F))(h:SlC F.toFrz v k (xs.map enc))(hi:i<xs.length)(hp:p=i*k)(hv:(enc (nth xs i))=l)(hl:l.length=q):Yv P n B M fs hs o (.agg l.toArray):=
 Yv.bO ix (i:=i) (j:=0) ho hx hF h (List.length_map _) hi hp (by rw [zbE hi,hv,List.drop_zero,List.take_of_length_le (by omega)]) hl
theorem zef {t e ty:TypeId}{k:Nat}{w:World}[hT:TySl P t e k]{b:Option Addr}{m c:Nat}{A:Option Addr}{c2:Nat}(hc:m≤c):(Builtin.append_ #[t,t] ty #[.slice b m c, .slice A 0 c2]).run P w= .ok (.slice b m c) w:=by
 have h:=hT.h;unfold zdt at h
 split at h
 ·rename_i el hU
  cases hi':P.info? el with
  |none=>rw [hi'] at h;cases h
  |some inf=>
   rw [hi'] at h
   cases h
   unfold Builtin.append_
   cases A <;> cases b <;> simp [underlying,hU,sizeOf,typeInfo,hi',Builtin.lenOf,hc,Builtin.firstCells,loadCells,loadCellsFrom,storeCells]
 ·cases h
theorem Cs.flat {w:World}{g off size:Nat}{cs:List (List Value)}(hp:0<size)(hr:∀c∈cs,c.length=size)(h:∀i,i<cs.length→Cs w g (off+i*size) (nth cs i)):Cs w g off cs.flatten:=fun q hq=>by
 have hl:cs.flatten.length=cs.length*size:=by
  clear h hq
  induction cs with
  |nil=>simp
  |cons c r ih=>rw [List.flatten_cons,List.length_append,ih (fun c' h'=>hr c' (by simp [h'])),hr c (by simp),List.length_cons,Nat.add_mul];omega
 (have hi:q / size<cs.length:=by rw [Nat.div_lt_iff_lt_mul hp];omega);have hj:q % size<size:=Nat.mod_lt _ hp; (have e:q / size*size+q % size=q:=by rw [Nat.mul_comm];exact Nat.div_add_mod q size); (have hrow:(nth cs (q / size)).length=size:=by rw [zam hi];exact hr _ (List.getElem_mem hi));have h1:=h (q / size) hi (q % size) (by omega);have h2:=zcE cs hr (q / size) hi (q % size) hj;rw [e] at h2;rw [h2,←h1]
 congr 2
 omega
theorem Ew.bF (i ix : Nat) {F : FzB B M S0} {s x : Operand} {t e : TypeId} {size bytes k k' : Nat} {z l l' : List Value} {cs : List (List Value)} {hs' : Value → HS} [hT : TyE P t e size bytes z] [hT2 : TySl P t e size] (h1 : ∀ c ∈ cs, ∀ v ∈ c, v.oneCell' = true) (ho : o.op = .call { callee := .builtin .append, args := #[s, x], argTypes := #[t, t] })
    (hs1 : ev fs s = some sv) (hx : ev fs x = some v) (hi : hs[i]? = some (.sl sv e size k l)) (hF : hs[ix]? = some (.fr F)) (h : SlC F.toFrz v size cs) (hk : k + cs.length = k') (hl' : l ++ cs.flatten = l') (hb : k' * bytes ≤ 140737488355328) (hbs : 0 < bytes)
    [hH : ∀ v', SetAt hs i (.sl v' e size k' l') (hs' v')] : Ew P n B M fs hs o (fun v hs'' => OneC v ∧ hs'' = hs' v) := by
  obtain ⟨inf, zv, hU, hinf, hz, hzc, h6, h7, hzs, hpos⟩ := hT.get; rcases Nat.eq_zero_or_pos cs.length with h0 | h0
  · obtain rfl := List.eq_nil_of_length_eq_zero h0; obtain ⟨A, cap, hv, _⟩ := h; subst hk; simp at hl' hv; subst hl' hv; refine Ew.aM fun a w ha hp => ?_; have ho' := Ent.sl_ok.1 (hp.get hi)
    obtain ⟨b, c, rfl, hc⟩ : ∃ b c, sv = .slice b k c ∧ k ≤ c := by
      rcases ho'.2 with ⟨rfl, h0⟩ | ⟨g, cap, cur, rfl, hb, hg, hnc, _⟩
      · exact ⟨none, 0, by rw [h0], by omega⟩
      · exact ⟨_, cap, rfl, hnc⟩
    refine ⟨.slice b k c, w, hs' (.slice b k c), ?_, Kp.refl w, ?_, ⟨rfl⟩, rfl⟩
    · unfold execOp; simp [ho, resolve, invoke, builtin, ha.ev hs1, ha.ev hx, zef (P := P) (t := t) hc]
    · rw [← (hH _).h]; simp only [List.length_nil, Nat.add_zero]; rw [ziu hi]; exact hp
  · obtain ⟨g, off, cap, rfl, hg, hc⟩ := h.addr h0; (have hr : ∀ c ∈ cs, c.length = size := by obtain ⟨_, _, _, _, _, h4, _⟩ := h; exact h4); refine Ew.bE i (news := cs.flatten) (fun v hv => ?_) ho hs1 hx hi (fun w hw => Cs.flat (by omega) hr (fun i hi => Cs.at (hw.fr hF) hg (hc i hi))) ?_ hk hl' hb hbs
    · obtain ⟨c, hc', hv'⟩ := List.mem_flatten.1 hv; exact h1 c hc' v hv'
    · clear hc hl' hx hk h1 h0 h
      induction cs with
      | nil => simp
      | cons c r ih => rw [List.flatten_cons, List.length_append, ih (fun c' h' => hr c' (by simp [h'])), hr c (by simp), List.length_cons, Nat.add_mul]; omega
theorem K.bf {fn:Func}{R:Ending→World→Prop}{t u s:Nat}{v x y:Value}(hr:fn.results= #[.tmp t, .tmp u, .tmp s])(hv:look fs t=some v)(hx:look fs u=some x)(hy:look fs s=some y)(h:∀w,Hp B M hs w→R (.returned (.tuple #[v,x,y])) w):K n B D M (zcx P fn R) .ret fs hs:=
 (K.ba (fun a w ha _=>by rw [results_tmp3 hr];simp only [Array.getD_eq_getD_getElem?,ha.get t v hv,ha.get u x hx,ha.get s y hy];rfl) h).1
end
theorem zfY {α:Type}{xs ys:List α}{m:Nat}(h:ys.length=m):xs.length+m=(xs++ys).length:=by rw [List.length_append,h]
section
variable {P:Program}{n:Nat}{B:World}{M:Nat→Prop}{fs:SFs}{hs:HS}{o:Oper}
end
section
variable {P:Program}{n:Nat}{B:World}{M:Nat→Prop}{fs:SFs}{hs:HS}{o:Oper}
end
section
variable {P:Program}{n:Nat}{B:World}{M:Nat→Prop}{fs:SFs}{hs:HS}{o:Oper}
end
section
variable {P:Program}{n:Nat}{B:World}{M:Nat→Prop}{fs:SFs}{hs:HS}{o:Oper}
end
section
variable {σ ρ α:Type}
theorem zdh {f:Nat→(Unit→Bool)→Unit→Bool}{k:Unit→Bool}{n:Nat}(q:Nat→Bool)(hf:∀i next,i<n→f i next ()=(q i||next ())):zav f k n 0 ()=((List.range n).any q||k ()):=by
 have key:∀m i,i+m=n→zav f k m i ()=((List.range' i m).any q||k ()):=by
  intro m
  induction m with
  |zero=>intro i _;simp [zav]
  |succ m ih=>
   intro i e
   show f i (zav f k m (i+1)) ()=_
   rw [hf i _ (by omega),ih (i+1) (by omega),List.range'_succ,List.any_cons,Bool.or_assoc]
 rw [key n 0 (by omega),List.range_eq_range']
theorem zfw {f:Nat→(Unit→Bool)→Unit→Bool}{k:Unit→Bool}{n:Nat}(q:Nat→Bool)(hf:∀i next,i<n→f i next ()=(q i&&next ())):zav f k n 0 ()=((List.range n).all q&&k ()):=by
 have key:∀m i,i+m=n→zav f k m i ()=((List.range' i m).all q&&k ()):=by
  intro m
  induction m with
  |zero=>intro i _;simp [zav]
  |succ m ih=>
   intro i e
   show f i (zav f k m (i+1)) ()=_
   rw [hf i _ (by omega),ih (i+1) (by omega),List.range'_succ,List.all_cons,Bool.and_assoc]
 rw [key n 0 (by omega),List.range_eq_range']
theorem zha {f:Nat→(σ→ρ)→σ→ρ}{k:σ→ρ}{n:Nat}{s:σ}(g:Nat→σ→σ)(hf:∀i next s,i<n→f i next s=next (g i s)):zav f k n 0 s=k ((List.range n).foldl (fun s i=>g i s) s):=by
 have key:∀m i s,i+m=n→zav f k m i s=k ((List.range' i m).foldl (fun s i=>g i s) s):=by
  intro m
  induction m with
  |zero=>intro i s _;rfl
  |succ m ih=>
   intro i s e
   show f i (zav f k m (i+1)) s=_
   rw [hf i _ _ (by omega),ih (i+1) _ (by omega),List.range'_succ,List.foldl_cons]
 rw [key n 0 s (by omega),List.range_eq_range']
theorem zc4 {f:Nat→(σ→ρ)→σ→ρ}{k:σ→ρ}{n:Nat}{s:σ}(I:Nat→σ→Prop)(g:Nat→σ→σ)(h0:I 0 s)(hI:∀i s,i<n→I i s→I (i+1) (g i s))(hf:∀i next s,i<n→I i s→f i next s=next (g i s)):zav f k n 0 s=k ((List.range n).foldl (fun s i=>g i s) s)∧I n ((List.range n).foldl (fun s i=>g i s) s):=by
 have key:∀m i s,i+m=n→I i s→zav f k m i s=k ((List.range' i m).foldl (fun s i=>g i s) s)∧I n ((List.range' i m).foldl (fun s i=>g i s) s):=by
  intro m
  induction m with
  |zero=>intro i s e hs;rw [show i=n by omega] at hs;exact ⟨rfl,hs⟩
  |succ m ih=>
   intro i s e hs;have:=ih (i+1) (g i s) (by omega) (hI i s (by omega) hs);rw [List.range'_succ,List.foldl_cons];refine ⟨?_,this.2⟩;rw [←this.1];exact hf i _ s (by omega) hs
 rw [List.range_eq_range'];exact key n 0 s (by omega) h0
theorem zcy {l:List α}[Inhabited α]{q:α→Bool}:((List.range l.length).any fun i=>q (nth l i))=l.any q:=by
 rw [Bool.eq_iff_iff,List.any_eq_true,List.any_eq_true];constructor
 ·rintro ⟨i,hi,h⟩;exact ⟨nth l i,by rw [zam (List.mem_range.1 hi)];exact List.getElem_mem _,h⟩
 ·rintro ⟨x,hx,h⟩;obtain ⟨i,hi,rfl⟩:=List.mem_iff_getElem.1 hx;exact ⟨i,List.mem_range.2 hi,by rw [zam hi];exact h⟩
theorem zfU {l:List α}[Inhabited α]{q:α→Bool}:((List.range l.length).all fun i=>q (nth l i))=l.all q:=by
 have h:=zcy (l:=l) (q:=fun x=> !q x);rw [Bool.eq_iff_iff,List.all_eq_true,List.all_eq_true];constructor
 ·intro h x hx;obtain ⟨i,hi,rfl⟩:=List.mem_iff_getElem.1 hx;have:=h i (List.mem_range.2 hi)
  rwa [zam hi] at this
 ·intro h i hi;have hi:=List.mem_range.1 hi;rw [zam hi];exact h _ (List.getElem_mem _)
theorem zcg {l:List α}[Inhabited α]{g:σ→α→σ}{s:σ}:(List.range l.length).foldl (fun s i=>g s (nth l i)) s=l.foldl g s:=by
 have e:l=(List.range l.length).map (nth l):=by
  apply List.ext_getElem
  ·simp
  ·intro i h1 h2;simp [zam h1]
 conv=>rhs;rw [e,List.foldl_map]
theorem zgW {x:Int}(h: -9223372036854775808≤x∧x≤9223372036854775807):wI x=x:=IntWalk.i64_in _ h
theorem zey {l:List α}{β:Type}{g:α→β}{s:List β}:l.foldl (fun s x=>s++[g x]) s=s++l.map g:=by
 induction l generalizing s with
 |nil=>simp
 |cons x r ih=>rw [List.foldl_cons,ih];simp
theorem zgX {l:List α}{β:Type}{q:α→Bool}{g:α→β}{s:List β}:l.foldl (fun s x=>bif q x then s++[g x] else s) s=s++(l.filter q).map g:=by
 induction l generalizing s with
 |nil=>simp
 |cons x r ih=>
  rw [List.foldl_cons,ih,List.filter_cons]
  cases q x <;> simp
theorem zh6 {l:List α}{β γ:Type}{g:γ→α→γ}{a:β}{b:γ}:l.foldl (fun s x=>(s.1,g s.2 x)) (a,b)=(a,l.foldl g b):=by
 induction l generalizing b with
 |nil=>rfl
 |cons x r ih=>rw [List.foldl_cons,List.foldl_cons];exact ih
end
end Go.Proofs.YtbpkdjionfhohaaDoor
