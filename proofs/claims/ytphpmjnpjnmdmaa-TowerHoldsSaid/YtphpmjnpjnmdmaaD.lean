/- Capacities. -/
import Derived.Test.YtphpmjnpjnmdmaaC
set_option maxRecDepth 100000
set_option maxHeartbeats 4000000
set_option linter.unusedSimpArgs false
set_option linter.unusedVariables false
set_option linter.unusedSectionVars false
namespace Go.Proofs.Ytphpmjnpjnmdmaa
open Go.RowKit

/-- The entries so far are right, and hold both places of the first k moves. -/
structure CapInv (xs : List Mv) (ts cs : List Si) (k : Nat) (kv : List (Pl × Value)) : Prop where
  le : k ≤ xs.length
  right : ∀ p v, kvGet kv p = some v → v = .int .i64 (capP ts cs p)
  has : ∀ j, j < k → ∀ i, i < 2 → (kvGet kv (plOf (nth xs j) i)).isSome = true ∧ foundP ts cs (plOf (nth xs j) i) = true
theorem CapInv.start (xs : List Mv) (ts cs : List Si) : CapInv xs ts cs 0 [] := ⟨by omega, (fun p v h => by cases h), fun j hj => by omega⟩
theorem kvSome_set {kv : List (Pl × Value)} {p q : Pl} {v : Value} (h : (kvGet kv p).isSome = true) : (kvGet (kvSet kv q v) p).isSome = true := by
  rw [kvGet_set]; split
  · rfl
  · exact h
def CapMid (xs : List Mv) (ts cs : List Si) (k i : Nat) (kv : List (Pl × Value)) : Prop :=
  CapInv xs ts cs k kv ∧ i ≤ 2 ∧ ∀ q, q < i → (kvGet kv (plOf (nth xs k) q)).isSome = true ∧ foundP ts cs (plOf (nth xs k) q) = true
theorem CapMid.step {xs : List Mv} {ts cs : List Si} {k i : Nat} {kv : List (Pl × Value)} (h : CapMid xs ts cs k i kv) (hi : i < 2) {c : Int} (hc : c = capP ts cs (plOf (nth xs k) i)) (hf : foundP ts cs (plOf (nth xs k) i) = true) :
    CapMid xs ts cs k (i + 1) (kvSet kv (plOf (nth xs k) i) (.int .i64 c)) := by
  obtain ⟨⟨h1, h2, h3⟩, h4, h5⟩ := h
  refine ⟨⟨h1, fun p v hp => ?_, fun j hj q hq => ⟨kvSome_set (h3 j hj q hq).1, (h3 j hj q hq).2⟩⟩, by omega, fun q hq => ?_⟩
  · rw [kvGet_set] at hp
    split at hp
    · rename_i e; subst e; cases hp; rw [hc]
    · exact h2 p v hp
  · rcases Nat.lt_or_ge q i with e | e
    · exact ⟨kvSome_set (h5 q e).1, (h5 q e).2⟩
    · obtain rfl : q = i := by omega
      exact ⟨by rw [kvGet_set, if_pos rfl]; rfl, hf⟩
theorem CapMid.out {xs : List Mv} {ts cs : List Si} {k i : Nat} {kv : List (Pl × Value)} (h : CapMid xs ts cs k i kv) (hk : k < xs.length) (hi : 2 ≤ i) : CapInv xs ts cs (k + 1) kv := by
  obtain ⟨⟨h1, h2, h3⟩, h4, h5⟩ := h
  refine ⟨by omega, h2, fun j hj q hq => ?_⟩
  rcases Nat.lt_or_ge j k with e | e
  · exact h3 j e q hq
  · obtain rfl : j = k := by omega
    exact h5 q (by omega)
theorem CapInv.to_len {xs : List Mv} {ts cs : List Si} {k : Nat} {kv : List (Pl × Value)} (h : CapInv xs ts cs k kv) (hk : xs.length ≤ k) : CapInv xs ts cs xs.length kv := by
  have e : k = xs.length := by have := h.le; omega
  rw [← e]; exact h
theorem CapInv.mid {xs : List Mv} {ts cs : List Si} {k : Nat} {kv : List (Pl × Value)} (h : CapInv xs ts cs k kv) : CapMid xs ts cs k 0 kv := ⟨h, by omega, fun q hq => by omega⟩
/-- The error of the arguments. -/
def argsOk (xs : List Mv) (ts cs : List Si) : Bool := movesOk xs && (sitesOk ts && sitesOk cs)
def allFound (xs : List Mv) (ts cs : List Si) : Bool := (List.range xs.length).all fun k => foundP ts cs (plOf (nth xs k) 0) && foundP ts cs (plOf (nth xs k) 1)
def codeOf (xs : List Mv) (ts cs : List Si) (ok : Bool) : Int := if (argsOk xs ts cs && ok) = false then 2 else if allFound xs ts cs = false then 9 else 0
def CapPost (xs : List Mv) (ts cs : List Si) (ok : Bool) (w : World) (e : Ending) (w' : World) : Prop :=
  (codeOf xs ts cs ok ≠ 0 ∧ e = .returned (.tuple #[.map none, .int .i64 (codeOf xs ts cs ok)]) ∧ Below w.heap.size w w') ∨
  (codeOf xs ts cs ok = 0 ∧ ∃ g kv, CapInv xs ts cs xs.length kv ∧ e = .returned (.tuple #[.map (some g), .int .i64 0]) ∧ Hp w (fun _ => False) [.mp g kv] w')
theorem codeOf_bad {xs : List Mv} {ts cs : List Si} {ok : Bool} (h : (argsOk xs ts cs && ok) = false) : codeOf xs ts cs ok = 2 := by simp [codeOf, h]
theorem codeOf_none {xs : List Mv} {ts cs : List Si} {ok : Bool} (h : (argsOk xs ts cs && ok) = true) (k i : Nat) (hk : k < xs.length) (hi : i < 2) (hf : foundP ts cs (plOf (nth xs k) i) = false) : codeOf xs ts cs ok = 9 := by
  have : allFound xs ts cs = false := range_false k hk (by
    match i, hi with
    | 0, _ => simp [hf]
    | 1, _ => simp [hf])
  simp [codeOf, h, this]
theorem codeOf_ok {xs : List Mv} {ts cs : List Si} {ok : Bool} (h : (argsOk xs ts cs && ok) = true) {kv : List (Pl × Value)} {k : Nat} (hI : CapInv xs ts cs k kv) (hk : xs.length ≤ k) : codeOf xs ts cs ok = 0 := by
  have : allFound xs ts cs = true := range_true fun j hj => by
    have h0 := (hI.has j (by omega) 0 (by omega)).2
    have h1 := (hI.has j (by omega) 1 (by omega)).2
    simp [h0, h1]
  simp [codeOf, h, this]
theorem found_false {ts cs : List Si} {p : Pl} {xs : List Si} (hp : xs = if p.1 = true then cs else ts) (h : (findSi xs p.2).isSome = false) : foundP ts cs p = false := by
  subst hp
  unfold foundP
  by_cases e : p.1 = true <;> simp [e] at h ⊢ <;> simp [h]
theorem found_true {ts cs : List Si} {p : Pl} {xs : List Si} (hp : xs = if p.1 = true then cs else ts) (h : (findSi xs p.2).isSome = true) : foundP ts cs p = true ∧ (sOf xs p.2).cap = capP ts cs p := by
  subst hp
  unfold foundP capP
  by_cases e : p.1 = true <;> simp [e] at h ⊢ <;> simp [h, capOf_find, sOf]
  all_goals (obtain ⟨s, hs⟩ := Option.isSome_iff_exists.1 h; simp [hs])

theorem capacities_all (xs : List Mv) (ts cs : List Si) (v vt vc : Value) (ok : Bool) (w : World) (h : MovesAt w v xs) (ht : SitesAt w vt ts) (hcr : SitesAt w vc cs) (hl : xs.length ≤ 9223372036854775807) (hlt : ts.length ≤ 9223372036854775807) (hlc : cs.length ≤ 9223372036854775807) : Calls Try.prog 35 #[v, vt, vc, .bool ok] w fun e w' => CapPost xs ts cs ok w e w' := by
  obtain ⟨A, cap, rfl, hsl⟩ := h.op
  refine calls_T (M := fun _ => False) (hs := []) Try.func35 rfl rfl rfl (Hp.refl _ _) ?_
  refine T.seq ?_
  refine T.region ?_
  refine TL.yv (Wt.none rfl) rfl rfl (Yv.pur rfl) ?_
  refine TL.yv (Wt.none rfl) rfl rfl (Yv.pur rfl) ?_
  refine TL.nil ?_
  refine K.seq ?_
  refine T.seq ?_
  refine T.seq ?_
  refine T.region ?_
  refine TL.yv (Wt.none rfl) rfl rfl (Yv.pur rfl) ?_
  (refine TL.ew (Wt.none rfl) rfl rfl (Ew.callD rfl rfl rfl (fun w hw => validMoves_ret xs _ _ (h.kept hw) hl)) ?_; rintro _ _ ⟨rfl, rfl⟩)
  first | refine TL.yv (Wt.none rfl) rfl rfl (Yv.pur rfl) ?_ | refine TL.yv (Wt.none rfl) rfl rfl (Yv.not rfl rfl) ?_
  refine TL.yv (Wt.none rfl) rfl rfl (Yv.pur rfl) ?_
  refine TL.gsplit rfl rfl rfl (fun h1 => ?_) (fun h1 => ?_)
  · have p1 := h1
    try simp only [decide_eq_true_eq, decide_eq_false_iff_not, Int.not_lt, Int.not_le, Bool.not_eq_true', Bool.not_eq_false', Decidable.not_not, Bool.and_eq_true, Bool.or_eq_true, Bool.and_eq_false_iff, Bool.or_eq_false_iff] at p1
    refine TL.off (Wt.not rfl rfl rfl h1) rfl rfl ?_
    refine TL.off (Wt.not rfl rfl rfl h1) rfl rfl ?_
    refine TL.off (Wt.not rfl rfl rfl h1) rfl rfl ?_
    refine TL.yv (Wt.none rfl) rfl rfl (Yv.pickT rfl rfl h1 rfl) ?_
    refine TL.yv (Wt.none rfl) rfl rfl (Yv.pur rfl) ?_
    refine TL.off (Wt.not rfl rfl rfl rfl) rfl rfl ?_
    refine TL.off (Wt.not rfl rfl rfl rfl) rfl rfl ?_
    refine TL.off (Wt.not rfl rfl rfl rfl) rfl rfl ?_
    refine TL.yv (Wt.none rfl) rfl rfl (Yv.pickT rfl rfl rfl rfl) ?_
    refine TL.yv (Wt.none rfl) rfl rfl (Yv.pur rfl) ?_
    refine TL.off (Wt.not rfl rfl rfl rfl) rfl rfl ?_
    refine TL.off (Wt.not rfl rfl rfl rfl) rfl rfl ?_
    refine TL.yv (Wt.none rfl) rfl rfl (Yv.pickT rfl rfl rfl rfl) ?_
    refine TL.nil ?_
    refine K.seq ?_
    refine T.condT rfl rfl ?_
    refine T.seq ?_
    refine T.region ?_
    refine TL.yv (Wt.none rfl) rfl rfl (Yv.pur rfl) ?_
    refine TL.yv (Wt.none rfl) rfl rfl (Yv.pur rfl) ?_
    refine TL.nil ?_
    refine K.seq ?_
    refine T.ret ?_
    refine K.then_ret ?_
    exact K.ret2 rfl rfl rfl (fun w' hw => .inl ⟨by rw [codeOf_bad (by simp only [argsOk, *, Bool.not_true, Bool.not_false, Bool.or_false, Bool.false_or, Bool.or_true, Bool.true_or, Bool.and_false, Bool.false_and, Bool.true_and, Bool.and_true, Bool.or_self, Bool.and_self, Bool.not_not, decide_true, decide_false, not_true_eq_false, not_false_eq_true, cond_true, cond_false])]; decide, by rw [codeOf_bad (by simp only [argsOk, *, Bool.not_true, Bool.not_false, Bool.or_false, Bool.false_or, Bool.or_true, Bool.true_or, Bool.and_false, Bool.false_and, Bool.true_and, Bool.and_true, Bool.or_self, Bool.and_self, Bool.not_not, decide_true, decide_false, not_true_eq_false, not_false_eq_true, cond_true, cond_false])], hw.isBelow⟩)
  · have p1 := h1
    try simp only [decide_eq_true_eq, decide_eq_false_iff_not, Int.not_lt, Int.not_le, Bool.not_eq_true', Bool.not_eq_false', Decidable.not_not, Bool.and_eq_true, Bool.or_eq_true, Bool.and_eq_false_iff, Bool.or_eq_false_iff] at p1
    refine TL.yv (Wt.some rfl rfl rfl h1) rfl rfl (Yv.pur rfl) ?_
    (refine TL.ew (Wt.some rfl rfl rfl h1) rfl rfl (Ew.callD rfl rfl rfl (fun w hw => validSites_ret ts _ _ (ht.kept hw) hlt)) ?_; rintro _ _ ⟨rfl, rfl⟩)
    first | refine TL.yv (Wt.some rfl rfl rfl h1) rfl rfl (Yv.pur rfl) ?_ | refine TL.yv (Wt.some rfl rfl rfl h1) rfl rfl (Yv.not rfl rfl) ?_
    refine TL.yv (Wt.none rfl) rfl rfl (Yv.pickF rfl rfl h1 rfl) ?_
    refine TL.yv (Wt.none rfl) rfl rfl (Yv.pur rfl) ?_
    refine TL.gsplit rfl rfl rfl (fun h2 => ?_) (fun h2 => ?_)
    · have p2 := h2
      try simp only [decide_eq_true_eq, decide_eq_false_iff_not, Int.not_lt, Int.not_le, Bool.not_eq_true', Bool.not_eq_false', Decidable.not_not, Bool.and_eq_true, Bool.or_eq_true, Bool.and_eq_false_iff, Bool.or_eq_false_iff] at p2
      refine TL.off (Wt.not rfl rfl rfl h2) rfl rfl ?_
      refine TL.off (Wt.not rfl rfl rfl h2) rfl rfl ?_
      refine TL.off (Wt.not rfl rfl rfl h2) rfl rfl ?_
      refine TL.yv (Wt.none rfl) rfl rfl (Yv.pickT rfl rfl h2 rfl) ?_
      refine TL.yv (Wt.none rfl) rfl rfl (Yv.pur rfl) ?_
      refine TL.off (Wt.not rfl rfl rfl rfl) rfl rfl ?_
      refine TL.off (Wt.not rfl rfl rfl rfl) rfl rfl ?_
      refine TL.yv (Wt.none rfl) rfl rfl (Yv.pickT rfl rfl rfl rfl) ?_
      refine TL.nil ?_
      refine K.seq ?_
      refine T.condT rfl rfl ?_
      refine T.seq ?_
      refine T.region ?_
      refine TL.yv (Wt.none rfl) rfl rfl (Yv.pur rfl) ?_
      refine TL.yv (Wt.none rfl) rfl rfl (Yv.pur rfl) ?_
      refine TL.nil ?_
      refine K.seq ?_
      refine T.ret ?_
      refine K.then_ret ?_
      exact K.ret2 rfl rfl rfl (fun w' hw => .inl ⟨by rw [codeOf_bad (by simp only [argsOk, *, Bool.not_true, Bool.not_false, Bool.or_false, Bool.false_or, Bool.or_true, Bool.true_or, Bool.and_false, Bool.false_and, Bool.true_and, Bool.and_true, Bool.or_self, Bool.and_self, Bool.not_not, decide_true, decide_false, not_true_eq_false, not_false_eq_true, cond_true, cond_false])]; decide, by rw [codeOf_bad (by simp only [argsOk, *, Bool.not_true, Bool.not_false, Bool.or_false, Bool.false_or, Bool.or_true, Bool.true_or, Bool.and_false, Bool.false_and, Bool.true_and, Bool.and_true, Bool.or_self, Bool.and_self, Bool.not_not, decide_true, decide_false, not_true_eq_false, not_false_eq_true, cond_true, cond_false])], hw.isBelow⟩)
    · have p2 := h2
      try simp only [decide_eq_true_eq, decide_eq_false_iff_not, Int.not_lt, Int.not_le, Bool.not_eq_true', Bool.not_eq_false', Decidable.not_not, Bool.and_eq_true, Bool.or_eq_true, Bool.and_eq_false_iff, Bool.or_eq_false_iff] at p2
      refine TL.yv (Wt.some rfl rfl rfl h2) rfl rfl (Yv.pur rfl) ?_
      (refine TL.ew (Wt.some rfl rfl rfl h2) rfl rfl (Ew.callD rfl rfl rfl (fun w hw => validSites_ret cs _ _ (hcr.kept hw) hlc)) ?_; rintro _ _ ⟨rfl, rfl⟩)
      first | refine TL.yv (Wt.some rfl rfl rfl h2) rfl rfl (Yv.pur rfl) ?_ | refine TL.yv (Wt.some rfl rfl rfl h2) rfl rfl (Yv.not rfl rfl) ?_
      refine TL.yv (Wt.none rfl) rfl rfl (Yv.pickF rfl rfl h2 rfl) ?_
      refine TL.yv (Wt.none rfl) rfl rfl (Yv.pur rfl) ?_
      refine TL.gsplit rfl rfl rfl (fun h3 => ?_) (fun h3 => ?_)
      · have p3 := h3
        try simp only [decide_eq_true_eq, decide_eq_false_iff_not, Int.not_lt, Int.not_le, Bool.not_eq_true', Bool.not_eq_false', Decidable.not_not, Bool.and_eq_true, Bool.or_eq_true, Bool.and_eq_false_iff, Bool.or_eq_false_iff] at p3
        refine TL.off (Wt.not rfl rfl rfl h3) rfl rfl ?_
        refine TL.off (Wt.not rfl rfl rfl h3) rfl rfl ?_
        refine TL.yv (Wt.none rfl) rfl rfl (Yv.pickT rfl rfl h3 rfl) ?_
        refine TL.nil ?_
        refine K.seq ?_
        refine T.condT rfl rfl ?_
        refine T.seq ?_
        refine T.region ?_
        refine TL.yv (Wt.none rfl) rfl rfl (Yv.pur rfl) ?_
        refine TL.yv (Wt.none rfl) rfl rfl (Yv.pur rfl) ?_
        refine TL.nil ?_
        refine K.seq ?_
        refine T.ret ?_
        refine K.then_ret ?_
        exact K.ret2 rfl rfl rfl (fun w' hw => .inl ⟨by rw [codeOf_bad (by simp only [argsOk, *, Bool.not_true, Bool.not_false, Bool.or_false, Bool.false_or, Bool.or_true, Bool.true_or, Bool.and_false, Bool.false_and, Bool.true_and, Bool.and_true, Bool.or_self, Bool.and_self, Bool.not_not, decide_true, decide_false, not_true_eq_false, not_false_eq_true, cond_true, cond_false])]; decide, by rw [codeOf_bad (by simp only [argsOk, *, Bool.not_true, Bool.not_false, Bool.or_false, Bool.false_or, Bool.or_true, Bool.true_or, Bool.and_false, Bool.false_and, Bool.true_and, Bool.and_true, Bool.or_self, Bool.and_self, Bool.not_not, decide_true, decide_false, not_true_eq_false, not_false_eq_true, cond_true, cond_false])], hw.isBelow⟩)
      · have p3 := h3
        try simp only [decide_eq_true_eq, decide_eq_false_iff_not, Int.not_lt, Int.not_le, Bool.not_eq_true', Bool.not_eq_false', Decidable.not_not, Bool.and_eq_true, Bool.or_eq_true, Bool.and_eq_false_iff, Bool.or_eq_false_iff] at p3
        refine TL.yv (Wt.some rfl rfl rfl h3) rfl rfl (Yv.pur rfl) ?_
        first | refine TL.yv (Wt.some rfl rfl rfl h3) rfl rfl (Yv.pur rfl) ?_ | refine TL.yv (Wt.some rfl rfl rfl h3) rfl rfl (Yv.not rfl rfl) ?_
        refine TL.yv (Wt.none rfl) rfl rfl (Yv.pickF rfl rfl h3 rfl) ?_
        refine TL.nil ?_
        refine K.seq ?_
        refine T.cond rfl (fun h4 => ?_) (fun h4 => ?_)
        · have p4 := h4
          try simp only [decide_eq_true_eq, decide_eq_false_iff_not, Int.not_lt, Int.not_le, Bool.not_eq_true', Bool.not_eq_false', Decidable.not_not, Bool.and_eq_true, Bool.or_eq_true, Bool.and_eq_false_iff, Bool.or_eq_false_iff] at p4
          refine T.seq ?_
          refine T.region ?_
          refine TL.yv (Wt.none rfl) rfl rfl (Yv.pur rfl) ?_
          refine TL.yv (Wt.none rfl) rfl rfl (Yv.pur rfl) ?_
          refine TL.nil ?_
          refine K.seq ?_
          refine T.ret ?_
          refine K.then_ret ?_
          exact K.ret2 rfl rfl rfl (fun w' hw => .inl ⟨by rw [codeOf_bad (by simp only [argsOk, *, Bool.not_true, Bool.not_false, Bool.or_false, Bool.false_or, Bool.or_true, Bool.true_or, Bool.and_false, Bool.false_and, Bool.true_and, Bool.and_true, Bool.or_self, Bool.and_self, Bool.not_not, decide_true, decide_false, not_true_eq_false, not_false_eq_true, cond_true, cond_false])]; decide, by rw [codeOf_bad (by simp only [argsOk, *, Bool.not_true, Bool.not_false, Bool.or_false, Bool.false_or, Bool.or_true, Bool.true_or, Bool.and_false, Bool.false_and, Bool.true_and, Bool.and_true, Bool.or_self, Bool.and_self, Bool.not_not, decide_true, decide_false, not_true_eq_false, not_false_eq_true, cond_true, cond_false])], hw.isBelow⟩)
        · have p4 := h4
          try simp only [decide_eq_true_eq, decide_eq_false_iff_not, Int.not_lt, Int.not_le, Bool.not_eq_true', Bool.not_eq_false', Decidable.not_not, Bool.and_eq_true, Bool.or_eq_true, Bool.and_eq_false_iff, Bool.or_eq_false_iff] at p4
          refine T.skip ?_
          refine K.seq ?_
          refine T.seq ?_
          refine T.region ?_
          refine TL.yv (Wt.none rfl) rfl rfl (Yv.pur rfl) ?_
          refine TL.nil ?_
          refine K.seq ?_
          refine T.seq ?_
          refine T.region ?_
          (refine TL.ew (Wt.none rfl) rfl rfl (Ew.makeMap rfl) ?_; rintro _ _ ⟨g36, rfl, rfl⟩)
          refine TL.yv (Wt.none rfl) rfl rfl (Yv.pur rfl) ?_
          refine TL.nil ?_
          refine K.seq ?_
          refine T.seq ?_
          refine T.seq ?_
          refine T.region ?_
          refine TL.yv (Wt.none rfl) rfl rfl (Yv.pur rfl) ?_
          first | refine TL.yv (Wt.none rfl) rfl rfl (Yv.lenSl rfl rfl) ?_ | refine TL.yv (Wt.none rfl) rfl rfl (Yv.lenAr rfl) ?_
          refine TL.yv (Wt.none rfl) rfl rfl (Yv.pur rfl) ?_
          refine TL.nil ?_
          refine K.seq ?_
          refine T.block ?_
          refine T.loop (ι := Nat × List (Pl × Value)) (fun x => [(1, vt), (2, vc), (10, .func (.func 47) #[] #[]), (11, .map (some g36)), (37, .slice A xs.length cap), (38, .int .i64 (xs.length : Int)), (39, .int .i64 (x.1 : Int))]) (fun x => [.mp g36 x.2]) (fun x => CapInv xs ts cs x.1 x.2) (fun x => xs.length - x.1) (0, []) ?_ ?_ ?_ ?_
          · exact CapInv.start xs ts cs
          · exact (by repeat (first | exact Sub.nil | refine Sub.cons rfl ?_))
          · exact (by repeat (first | exact List.Sublist.refl _ | exact List.nil_sublist _ | refine List.Sublist.cons_cons _ ?_ | refine List.Sublist.cons _ ?_))
          · intro x hphi
            obtain ⟨k, kv⟩ := x
            dsimp only at hphi ⊢
            have hkl := hphi.le
            refine T.seq ?_
            refine T.region ?_
            refine TL.yv (Wt.none rfl) rfl rfl (Yv.pur rfl) ?_
            refine TL.nil ?_
            refine K.seq ?_
            refine T.seq ?_
            refine T.cond rfl (fun h5 => ?_) (fun h5 => ?_)
            · have p5 := h5
              try simp only [decide_eq_true_eq, decide_eq_false_iff_not, Int.not_lt, Int.not_le, Bool.not_eq_true', Bool.not_eq_false', Decidable.not_not, Bool.and_eq_true, Bool.or_eq_true, Bool.and_eq_false_iff, Bool.or_eq_false_iff] at p5
              obtain ⟨g, off, rfl, hc⟩ := hsl (by omega)
              have hk := hc k (by omega)
              have hk1 := hc (k - 1) (by omega)
              simp only [Mv.cells] at hk hk1
              refine T.skip ?_
              refine K.seq ?_
              refine T.seq ?_
              refine T.block ?_
              refine T.seq ?_
              refine T.region ?_
              first | refine TL.yv (Wt.none rfl) rfl rfl (Yv.indexSl rfl rfl rfl rfl (by omega)) ?_ | refine TL.yv (Wt.none rfl) rfl rfl (Yv.indexAr rfl rfl rfl rfl (by omega)) ?_
              first | refine TL.yv (Wt.none rfl) rfl rfl (Yv.loadC rfl rfl hk rfl rfl (fun h => h)) ?_ | refine TL.yv (Wt.none rfl) rfl rfl (Yv.loadC rfl rfl hk1 rfl rfl (fun h => h)) ?_ | refine TL.yv (Wt.none rfl) rfl rfl (Yv.loadAB rfl rfl hk rfl (fun h => h)) ?_ | refine TL.yv (Wt.none rfl) rfl rfl (Yv.loadAO 0 rfl rfl rfl rfl) ?_ | refine TL.yv (Wt.none rfl) rfl rfl (Yv.loadAO 1 rfl rfl rfl rfl) ?_ | refine TL.yv (Wt.none rfl) rfl rfl (Yv.loadAO 2 rfl rfl rfl rfl) ?_ | refine TL.yv (Wt.none rfl) rfl rfl (Yv.loadAB rfl rfl (by assumption) rfl (fun h => h)) ?_
              (refine TL.ew (Wt.none rfl) rfl rfl (Ew.alloc rfl) ?_; rintro _ _ ⟨g13, rfl, rfl⟩)
              first | (refine TL.ew0 (Wt.none rfl) rfl (Ew.storeAll 0 rfl rfl rfl rfl rfl rfl) ?_; rintro _ _ ⟨rfl, rfl⟩) | (refine TL.ew0 (Wt.none rfl) rfl (Ew.storeAll 1 rfl rfl rfl rfl rfl rfl) ?_; rintro _ _ ⟨rfl, rfl⟩) | (refine TL.ew0 (Wt.none rfl) rfl (Ew.storeAll 2 rfl rfl rfl rfl rfl rfl) ?_; rintro _ _ ⟨rfl, rfl⟩) | (refine TL.ew0 (Wt.none rfl) rfl (Ew.storeAll 3 rfl rfl rfl rfl rfl rfl) ?_; rintro _ _ ⟨rfl, rfl⟩)
              refine TL.nil ?_
              refine K.seq ?_
              refine T.seq ?_
              refine T.region ?_
              first | refine TL.yv (Wt.none rfl) rfl rfl (Yv.loadC rfl rfl hk rfl rfl (fun h => h)) ?_ | refine TL.yv (Wt.none rfl) rfl rfl (Yv.loadC rfl rfl hk1 rfl rfl (fun h => h)) ?_ | refine TL.yv (Wt.none rfl) rfl rfl (Yv.loadAB rfl rfl hk rfl (fun h => h)) ?_ | refine TL.yv (Wt.none rfl) rfl rfl (Yv.loadAO 0 rfl rfl rfl rfl) ?_ | refine TL.yv (Wt.none rfl) rfl rfl (Yv.loadAO 1 rfl rfl rfl rfl) ?_ | refine TL.yv (Wt.none rfl) rfl rfl (Yv.loadAO 2 rfl rfl rfl rfl) ?_ | refine TL.yv (Wt.none rfl) rfl rfl (Yv.loadAO 3 rfl rfl rfl rfl) ?_ | refine TL.yv (Wt.none rfl) rfl rfl (Yv.loadAB rfl rfl (by assumption) rfl (fun h => h)) ?_
              (refine TL.ew (Wt.none rfl) rfl rfl (Ew.callD rfl rfl rfl (fun w hw => places_ret _ _)) ?_; rintro _ _ ⟨rfl, rfl⟩)
              refine TL.yv (Wt.none rfl) rfl rfl (Yv.pur rfl) ?_
              refine TL.nil ?_
              refine K.seq ?_
              refine T.block ?_
              refine T.loop (ι := Nat × List (Pl × Value)) (fun y => [(1, vt), (2, vc), (10, .func (.func 47) #[] #[]), (11, .map (some g36)), (37, .slice (some ⟨g, off, none⟩) xs.length cap), (38, .int .i64 (xs.length : Int)), (39, .int .i64 (k : Int)), (44, .agg (plcells (nth xs k)).toArray), (45, .int .i64 (y.1 : Int))]) (fun y => [.mp g36 y.2]) (fun y => CapMid xs ts cs k y.1 y.2) (fun y => 2 - y.1) (0, kv) ?_ ?_ ?_ ?_
              · exact hphi.mid
              · exact (by repeat (first | exact Sub.nil | refine Sub.cons rfl ?_))
              · exact (by repeat (first | exact List.Sublist.refl _ | exact List.nil_sublist _ | refine List.Sublist.cons_cons _ ?_ | refine List.Sublist.cons _ ?_))
              · intro y hphi
                obtain ⟨i, kv⟩ := y
                dsimp only at hphi ⊢
                have hil := hphi.2.1
                refine T.seq ?_
                refine T.region ?_
                refine TL.yv (Wt.none rfl) rfl rfl (Yv.pur rfl) ?_
                refine TL.nil ?_
                refine K.seq ?_
                refine T.seq ?_
                refine T.cond rfl (fun h6 => ?_) (fun h6 => ?_)
                · have p6 := h6
                  try simp only [decide_eq_true_eq, decide_eq_false_iff_not, Int.not_lt, Int.not_le, Bool.not_eq_true', Bool.not_eq_false', Decidable.not_not, Bool.and_eq_true, Bool.or_eq_true, Bool.and_eq_false_iff, Bool.or_eq_false_iff] at p6
                  have hpl := plcells_at (nth xs k) i (by omega)
                  refine T.skip ?_
                  refine K.seq ?_
                  refine T.seq ?_
                  refine T.block ?_
                  refine T.seq ?_
                  refine T.region ?_
                  first | refine TL.yv (Wt.none rfl) rfl rfl (Yv.indexV rfl rfl rfl rfl (by omega) hpl) ?_ | refine TL.yv (Wt.none rfl) rfl rfl (Yv.indexV rfl rfl rfl rfl (by omega) rfl) ?_ | refine TL.yv (Wt.none rfl) rfl rfl (Yv.indexS rfl rfl rfl rfl (by omega) rfl) ?_
                  (refine TL.ew (Wt.none rfl) rfl rfl (Ew.alloc rfl) ?_; rintro _ _ ⟨g15, rfl, rfl⟩)
                  first | (refine TL.ew0 (Wt.none rfl) rfl (Ew.storeAll 0 rfl rfl rfl rfl rfl rfl) ?_; rintro _ _ ⟨rfl, rfl⟩) | (refine TL.ew0 (Wt.none rfl) rfl (Ew.storeAll 1 rfl rfl rfl rfl rfl rfl) ?_; rintro _ _ ⟨rfl, rfl⟩) | (refine TL.ew0 (Wt.none rfl) rfl (Ew.storeAll 2 rfl rfl rfl rfl rfl rfl) ?_; rintro _ _ ⟨rfl, rfl⟩) | (refine TL.ew0 (Wt.none rfl) rfl (Ew.storeAll 3 rfl rfl rfl rfl rfl rfl) ?_; rintro _ _ ⟨rfl, rfl⟩)
                  refine TL.nil ?_
                  refine K.seq ?_
                  refine T.seq ?_
                  refine T.region ?_
                  refine TL.yv (Wt.none rfl) rfl rfl (Yv.pur rfl) ?_
                  refine TL.yv (Wt.none rfl) rfl rfl (Yv.pur rfl) ?_
                  refine TL.nil ?_
                  refine K.seq ?_
                  refine T.seq ?_
                  refine T.seq ?_
                  refine T.region ?_
                  refine TL.yv (Wt.none rfl) rfl rfl (Yv.fieldAddr rfl rfl) ?_
                  first | refine TL.yv (Wt.none rfl) rfl rfl (Yv.loadC rfl rfl hk rfl rfl (fun h => h)) ?_ | refine TL.yv (Wt.none rfl) rfl rfl (Yv.loadC rfl rfl hk1 rfl rfl (fun h => h)) ?_ | refine TL.yv (Wt.none rfl) rfl rfl (Yv.loadAB rfl rfl hk rfl (fun h => h)) ?_ | refine TL.yv (Wt.none rfl) rfl rfl (Yv.loadO 0 rfl rfl rfl rfl) ?_ | refine TL.yv (Wt.none rfl) rfl rfl (Yv.loadO 1 rfl rfl rfl rfl) ?_ | refine TL.yv (Wt.none rfl) rfl rfl (Yv.loadO 2 rfl rfl rfl rfl) ?_ | refine TL.yv (Wt.none rfl) rfl rfl (Yv.loadO 3 rfl rfl rfl rfl) ?_ | refine TL.yv (Wt.none rfl) rfl rfl (Yv.loadB rfl rfl (by assumption) (fun h => h)) ?_ | refine TL.yv (Wt.none rfl) rfl rfl (Yv.loadS 0 rfl rfl rfl (by first | rfl | assumption)) ?_ | refine TL.yv (Wt.none rfl) rfl rfl (Yv.loadS 1 rfl rfl rfl (by first | rfl | assumption)) ?_ | refine TL.yv (Wt.none rfl) rfl rfl (Yv.loadS 2 rfl rfl rfl (by first | rfl | assumption)) ?_ | refine TL.yv (Wt.none rfl) rfl rfl (Yv.loadS 3 rfl rfl rfl (by first | rfl | assumption)) ?_
                  refine TL.nil ?_
                  refine K.seq ?_
                  refine T.cond rfl (fun h7 => ?_) (fun h7 => ?_)
                  · have p7 := h7
                    try simp only [decide_eq_true_eq, decide_eq_false_iff_not, Int.not_lt, Int.not_le, Bool.not_eq_true', Bool.not_eq_false', Decidable.not_not, Bool.and_eq_true, Bool.or_eq_true, Bool.and_eq_false_iff, Bool.or_eq_false_iff] at p7
                    refine T.region ?_
                    refine TL.yv (Wt.none rfl) rfl rfl (Yv.pur rfl) ?_
                    refine TL.yv (Wt.none rfl) rfl rfl (Yv.pur rfl) ?_
                    refine TL.nil ?_
                    refine K.seq ?_
                    refine T.seq ?_
                    refine T.region ?_
                    refine TL.yv (Wt.none rfl) rfl rfl (Yv.pur rfl) ?_
                    refine TL.yv (Wt.none rfl) rfl rfl (Yv.fieldAddr rfl rfl) ?_
                    first | refine TL.yv (Wt.none rfl) rfl rfl (Yv.loadC rfl rfl hk rfl rfl (fun h => h)) ?_ | refine TL.yv (Wt.none rfl) rfl rfl (Yv.loadC rfl rfl hk1 rfl rfl (fun h => h)) ?_ | refine TL.yv (Wt.none rfl) rfl rfl (Yv.loadAB rfl rfl hk rfl (fun h => h)) ?_ | refine TL.yv (Wt.none rfl) rfl rfl (Yv.loadO 0 rfl rfl rfl rfl) ?_ | refine TL.yv (Wt.none rfl) rfl rfl (Yv.loadO 1 rfl rfl rfl rfl) ?_ | refine TL.yv (Wt.none rfl) rfl rfl (Yv.loadO 2 rfl rfl rfl rfl) ?_ | refine TL.yv (Wt.none rfl) rfl rfl (Yv.loadO 3 rfl rfl rfl rfl) ?_ | refine TL.yv (Wt.none rfl) rfl rfl (Yv.loadB rfl rfl (by assumption) (fun h => h)) ?_ | refine TL.yv (Wt.none rfl) rfl rfl (Yv.loadS 0 rfl rfl rfl (by first | rfl | assumption)) ?_ | refine TL.yv (Wt.none rfl) rfl rfl (Yv.loadS 1 rfl rfl rfl (by first | rfl | assumption)) ?_ | refine TL.yv (Wt.none rfl) rfl rfl (Yv.loadS 2 rfl rfl rfl (by first | rfl | assumption)) ?_ | refine TL.yv (Wt.none rfl) rfl rfl (Yv.loadS 3 rfl rfl rfl (by first | rfl | assumption)) ?_
                    refine TL.yv (Wt.none rfl) rfl rfl (Yv.pur rfl) ?_
                    first | (refine TL.ew (Wt.none rfl) rfl rfl (Ew.callD rfl rfl rfl (fun w hw => find_ret _ _ _ _ (ht.kept hw) hlt)) ?_; rintro _ _ ⟨rfl, rfl⟩) | (refine TL.ew (Wt.none rfl) rfl rfl (Ew.callD rfl rfl rfl (fun w hw => find_ret _ _ _ _ (hcr.kept hw) hlc)) ?_; rintro _ _ ⟨rfl, rfl⟩)
                    refine TL.yv (Wt.none rfl) rfl rfl (Yv.pur rfl) ?_
                    refine TL.yv (Wt.none rfl) rfl rfl (Yv.pur rfl) ?_
                    refine TL.yv (Wt.none rfl) rfl rfl (Yv.pur rfl) ?_
                    (refine TL.ew (Wt.none rfl) rfl rfl (Ew.alloc rfl) ?_; rintro _ _ ⟨g17, rfl, rfl⟩)
                    first | (refine TL.ew0 (Wt.none rfl) rfl (Ew.storeAll 0 rfl rfl rfl rfl rfl rfl) ?_; rintro _ _ ⟨rfl, rfl⟩) | (refine TL.ew0 (Wt.none rfl) rfl (Ew.storeAll 1 rfl rfl rfl rfl rfl rfl) ?_; rintro _ _ ⟨rfl, rfl⟩) | (refine TL.ew0 (Wt.none rfl) rfl (Ew.storeAll 2 rfl rfl rfl rfl rfl rfl) ?_; rintro _ _ ⟨rfl, rfl⟩) | (refine TL.ew0 (Wt.none rfl) rfl (Ew.storeAll 3 rfl rfl rfl rfl rfl rfl) ?_; rintro _ _ ⟨rfl, rfl⟩) | (refine TL.ew0 (Wt.none rfl) rfl (Ew.storeAll 4 rfl rfl rfl rfl rfl rfl) ?_; rintro _ _ ⟨rfl, rfl⟩)
                    refine TL.yv (Wt.none rfl) rfl rfl (Yv.pur rfl) ?_
                    refine TL.nil ?_
                    refine K.seq ?_
                    refine T.seq ?_
                    refine T.seq ?_
                    refine T.region ?_
                    refine TL.yv (Wt.none rfl) rfl rfl (Yv.pur rfl) ?_
                    first | refine TL.yv (Wt.none rfl) rfl rfl (Yv.pur rfl) ?_ | refine TL.yv (Wt.none rfl) rfl rfl (Yv.not rfl rfl) ?_
                    refine TL.nil ?_
                    refine K.seq ?_
                    refine T.cond rfl (fun h8 => ?_) (fun h8 => ?_)
                    · have p8 := h8
                      try simp only [decide_eq_true_eq, decide_eq_false_iff_not, Int.not_lt, Int.not_le, Bool.not_eq_true', Bool.not_eq_false', Decidable.not_not, Bool.and_eq_true, Bool.or_eq_true, Bool.and_eq_false_iff, Bool.or_eq_false_iff] at p8
                      refine T.seq ?_
                      refine T.region ?_
                      refine TL.yv (Wt.none rfl) rfl rfl (Yv.pur rfl) ?_
                      refine TL.yv (Wt.none rfl) rfl rfl (Yv.pur rfl) ?_
                      refine TL.nil ?_
                      refine K.seq ?_
                      refine T.ret ?_
                      refine K.then_ret ?_
                      refine K.blk_ret ?_
                      refine K.then_ret ?_
                      refine K.then_ret ?_
                      refine K.blk_ret ?_
                      refine K.blk_ret ?_
                      refine K.then_ret ?_
                      refine K.then_ret ?_
                      refine K.blk_ret ?_
                      refine K.then_ret ?_
                      have e9 := codeOf_none (xs := xs) (ts := ts) (cs := cs) (ok := ok) (by simp only [argsOk, *, Bool.not_true, Bool.not_false, Bool.or_false, Bool.false_or, Bool.or_true, Bool.true_or, Bool.and_false, Bool.false_and, Bool.true_and, Bool.and_true, Bool.or_self, Bool.and_self, Bool.not_not, decide_true, decide_false, not_true_eq_false, not_false_eq_true, cond_true, cond_false]) k i (by omega) (by omega) (found_false (ts := ts) (cs := cs) (p := plOf (nth xs k) i) (xs := cs) (by simp only [*]; rfl) (by assumption))
                      exact K.ret2 rfl rfl rfl (fun w' hw => .inl ⟨by rw [e9]; decide, by rw [e9], hw.isBelow⟩)
                    · have p8 := h8
                      try simp only [decide_eq_true_eq, decide_eq_false_iff_not, Int.not_lt, Int.not_le, Bool.not_eq_true', Bool.not_eq_false', Decidable.not_not, Bool.and_eq_true, Bool.or_eq_true, Bool.and_eq_false_iff, Bool.or_eq_false_iff] at p8
                      refine T.skip ?_
                      refine K.seq ?_
                      refine T.region ?_
                      refine TL.yv (Wt.none rfl) rfl rfl (Yv.pur rfl) ?_
                      first | refine TL.yv (Wt.none rfl) rfl rfl (Yv.loadC rfl rfl hk rfl rfl (fun h => h)) ?_ | refine TL.yv (Wt.none rfl) rfl rfl (Yv.loadC rfl rfl hk1 rfl rfl (fun h => h)) ?_ | refine TL.yv (Wt.none rfl) rfl rfl (Yv.loadAB rfl rfl hk rfl (fun h => h)) ?_ | refine TL.yv (Wt.none rfl) rfl rfl (Yv.loadAO 0 rfl rfl rfl rfl) ?_ | refine TL.yv (Wt.none rfl) rfl rfl (Yv.loadAO 1 rfl rfl rfl rfl) ?_ | refine TL.yv (Wt.none rfl) rfl rfl (Yv.loadAO 2 rfl rfl rfl rfl) ?_ | refine TL.yv (Wt.none rfl) rfl rfl (Yv.loadAO 3 rfl rfl rfl rfl) ?_ | refine TL.yv (Wt.none rfl) rfl rfl (Yv.loadAO 4 rfl rfl rfl rfl) ?_ | refine TL.yv (Wt.none rfl) rfl rfl (Yv.loadAB rfl rfl (by assumption) rfl (fun h => h)) ?_
                      refine TL.yv (Wt.none rfl) rfl rfl (Yv.fieldAddr rfl rfl) ?_
                      first | refine TL.yv (Wt.none rfl) rfl rfl (Yv.loadC rfl rfl hk rfl rfl (fun h => h)) ?_ | refine TL.yv (Wt.none rfl) rfl rfl (Yv.loadC rfl rfl hk1 rfl rfl (fun h => h)) ?_ | refine TL.yv (Wt.none rfl) rfl rfl (Yv.loadAB rfl rfl hk rfl (fun h => h)) ?_ | refine TL.yv (Wt.none rfl) rfl rfl (Yv.loadO 0 rfl rfl rfl rfl) ?_ | refine TL.yv (Wt.none rfl) rfl rfl (Yv.loadO 1 rfl rfl rfl rfl) ?_ | refine TL.yv (Wt.none rfl) rfl rfl (Yv.loadO 2 rfl rfl rfl rfl) ?_ | refine TL.yv (Wt.none rfl) rfl rfl (Yv.loadO 3 rfl rfl rfl rfl) ?_ | refine TL.yv (Wt.none rfl) rfl rfl (Yv.loadO 4 rfl rfl rfl rfl) ?_ | refine TL.yv (Wt.none rfl) rfl rfl (Yv.loadB rfl rfl (by assumption) (fun h => h)) ?_ | refine TL.yv (Wt.none rfl) rfl rfl (Yv.loadS 0 rfl rfl rfl (by first | rfl | assumption)) ?_ | refine TL.yv (Wt.none rfl) rfl rfl (Yv.loadS 1 rfl rfl rfl (by first | rfl | assumption)) ?_ | refine TL.yv (Wt.none rfl) rfl rfl (Yv.loadS 2 rfl rfl rfl (by first | rfl | assumption)) ?_ | refine TL.yv (Wt.none rfl) rfl rfl (Yv.loadS 3 rfl rfl rfl (by first | rfl | assumption)) ?_ | refine TL.yv (Wt.none rfl) rfl rfl (Yv.loadS 4 rfl rfl rfl (by first | rfl | assumption)) ?_
                      first | (refine TL.ew0 (Wt.none rfl) rfl (Ew.mapUpdate 0 rfl rfl rfl rfl rfl) ?_; rintro _ _ ⟨rfl, rfl⟩) | (refine TL.ew0 (Wt.none rfl) rfl (Ew.mapUpdate 1 rfl rfl rfl rfl rfl) ?_; rintro _ _ ⟨rfl, rfl⟩) | (refine TL.ew0 (Wt.none rfl) rfl (Ew.mapUpdate 2 rfl rfl rfl rfl rfl) ?_; rintro _ _ ⟨rfl, rfl⟩) | (refine TL.ew0 (Wt.none rfl) rfl (Ew.mapUpdate 3 rfl rfl rfl rfl rfl) ?_; rintro _ _ ⟨rfl, rfl⟩) | (refine TL.ew0 (Wt.none rfl) rfl (Ew.mapUpdate 4 rfl rfl rfl rfl rfl) ?_; rintro _ _ ⟨rfl, rfl⟩) | (refine TL.ew0 (Wt.none rfl) rfl (Ew.mapUpdate 5 rfl rfl rfl rfl rfl) ?_; rintro _ _ ⟨rfl, rfl⟩) | (refine TL.ew0 (Wt.none rfl) rfl (Ew.mapUpdate 6 rfl rfl rfl rfl rfl) ?_; rintro _ _ ⟨rfl, rfl⟩)
                      refine TL.nil ?_
                      refine K.blk_normal ?_
                      refine K.seq ?_
                      refine T.region ?_
                      first | refine TL.yv (Wt.none rfl) rfl rfl (Yv.addI rfl rfl rfl (by omega)) ?_ | refine TL.yv (Wt.none rfl) rfl rfl (Yv.pur rfl) ?_
                      refine TL.yv (Wt.none rfl) rfl rfl (Yv.pur rfl) ?_
                      refine TL.nil ?_
                      have hx := found_true (ts := ts) (cs := cs) (p := plOf (nth xs k) i) (xs := cs) (by simp only [*]; rfl) (by assumption)
                      exact K.next (i + 1, kvSet kv (plOf (nth xs k) i) (.int .i64 (sOf cs (plOf (nth xs k) i).2).cap)) (hphi.step (by omega) hx.2 hx.1) (by show 2 - (i + 1) < 2 - i; omega) (by repeat (first | exact Sub.nil | refine Sub.cons rfl ?_)) (by repeat (first | exact List.Sublist.refl _ | exact List.nil_sublist _ | refine List.Sublist.cons_cons _ ?_ | refine List.Sublist.cons _ ?_))
                  · have p7 := h7
                    try simp only [decide_eq_true_eq, decide_eq_false_iff_not, Int.not_lt, Int.not_le, Bool.not_eq_true', Bool.not_eq_false', Decidable.not_not, Bool.and_eq_true, Bool.or_eq_true, Bool.and_eq_false_iff, Bool.or_eq_false_iff] at p7
                    refine T.skip ?_
                    refine K.seq ?_
                    refine T.seq ?_
                    refine T.region ?_
                    refine TL.yv (Wt.none rfl) rfl rfl (Yv.pur rfl) ?_
                    refine TL.yv (Wt.none rfl) rfl rfl (Yv.fieldAddr rfl rfl) ?_
                    first | refine TL.yv (Wt.none rfl) rfl rfl (Yv.loadC rfl rfl hk rfl rfl (fun h => h)) ?_ | refine TL.yv (Wt.none rfl) rfl rfl (Yv.loadC rfl rfl hk1 rfl rfl (fun h => h)) ?_ | refine TL.yv (Wt.none rfl) rfl rfl (Yv.loadAB rfl rfl hk rfl (fun h => h)) ?_ | refine TL.yv (Wt.none rfl) rfl rfl (Yv.loadO 0 rfl rfl rfl rfl) ?_ | refine TL.yv (Wt.none rfl) rfl rfl (Yv.loadO 1 rfl rfl rfl rfl) ?_ | refine TL.yv (Wt.none rfl) rfl rfl (Yv.loadO 2 rfl rfl rfl rfl) ?_ | refine TL.yv (Wt.none rfl) rfl rfl (Yv.loadO 3 rfl rfl rfl rfl) ?_ | refine TL.yv (Wt.none rfl) rfl rfl (Yv.loadB rfl rfl (by assumption) (fun h => h)) ?_ | refine TL.yv (Wt.none rfl) rfl rfl (Yv.loadS 0 rfl rfl rfl (by first | rfl | assumption)) ?_ | refine TL.yv (Wt.none rfl) rfl rfl (Yv.loadS 1 rfl rfl rfl (by first | rfl | assumption)) ?_ | refine TL.yv (Wt.none rfl) rfl rfl (Yv.loadS 2 rfl rfl rfl (by first | rfl | assumption)) ?_ | refine TL.yv (Wt.none rfl) rfl rfl (Yv.loadS 3 rfl rfl rfl (by first | rfl | assumption)) ?_
                    refine TL.yv (Wt.none rfl) rfl rfl (Yv.pur rfl) ?_
                    first | (refine TL.ew (Wt.none rfl) rfl rfl (Ew.callD rfl rfl rfl (fun w hw => find_ret _ _ _ _ (ht.kept hw) hlt)) ?_; rintro _ _ ⟨rfl, rfl⟩) | (refine TL.ew (Wt.none rfl) rfl rfl (Ew.callD rfl rfl rfl (fun w hw => find_ret _ _ _ _ (hcr.kept hw) hlc)) ?_; rintro _ _ ⟨rfl, rfl⟩)
                    refine TL.yv (Wt.none rfl) rfl rfl (Yv.pur rfl) ?_
                    refine TL.yv (Wt.none rfl) rfl rfl (Yv.pur rfl) ?_
                    refine TL.yv (Wt.none rfl) rfl rfl (Yv.pur rfl) ?_
                    (refine TL.ew (Wt.none rfl) rfl rfl (Ew.alloc rfl) ?_; rintro _ _ ⟨g17, rfl, rfl⟩)
                    first | (refine TL.ew0 (Wt.none rfl) rfl (Ew.storeAll 0 rfl rfl rfl rfl rfl rfl) ?_; rintro _ _ ⟨rfl, rfl⟩) | (refine TL.ew0 (Wt.none rfl) rfl (Ew.storeAll 1 rfl rfl rfl rfl rfl rfl) ?_; rintro _ _ ⟨rfl, rfl⟩) | (refine TL.ew0 (Wt.none rfl) rfl (Ew.storeAll 2 rfl rfl rfl rfl rfl rfl) ?_; rintro _ _ ⟨rfl, rfl⟩) | (refine TL.ew0 (Wt.none rfl) rfl (Ew.storeAll 3 rfl rfl rfl rfl rfl rfl) ?_; rintro _ _ ⟨rfl, rfl⟩) | (refine TL.ew0 (Wt.none rfl) rfl (Ew.storeAll 4 rfl rfl rfl rfl rfl rfl) ?_; rintro _ _ ⟨rfl, rfl⟩)
                    refine TL.yv (Wt.none rfl) rfl rfl (Yv.pur rfl) ?_
                    refine TL.nil ?_
                    refine K.seq ?_
                    refine T.seq ?_
                    refine T.seq ?_
                    refine T.region ?_
                    refine TL.yv (Wt.none rfl) rfl rfl (Yv.pur rfl) ?_
                    first | refine TL.yv (Wt.none rfl) rfl rfl (Yv.pur rfl) ?_ | refine TL.yv (Wt.none rfl) rfl rfl (Yv.not rfl rfl) ?_
                    refine TL.nil ?_
                    refine K.seq ?_
                    refine T.cond rfl (fun h9 => ?_) (fun h9 => ?_)
                    · have p9 := h9
                      try simp only [decide_eq_true_eq, decide_eq_false_iff_not, Int.not_lt, Int.not_le, Bool.not_eq_true', Bool.not_eq_false', Decidable.not_not, Bool.and_eq_true, Bool.or_eq_true, Bool.and_eq_false_iff, Bool.or_eq_false_iff] at p9
                      refine T.seq ?_
                      refine T.region ?_
                      refine TL.yv (Wt.none rfl) rfl rfl (Yv.pur rfl) ?_
                      refine TL.yv (Wt.none rfl) rfl rfl (Yv.pur rfl) ?_
                      refine TL.nil ?_
                      refine K.seq ?_
                      refine T.ret ?_
                      refine K.then_ret ?_
                      refine K.blk_ret ?_
                      refine K.then_ret ?_
                      refine K.then_ret ?_
                      refine K.blk_ret ?_
                      refine K.blk_ret ?_
                      refine K.then_ret ?_
                      refine K.then_ret ?_
                      refine K.blk_ret ?_
                      refine K.then_ret ?_
                      have e9 := codeOf_none (xs := xs) (ts := ts) (cs := cs) (ok := ok) (by simp only [argsOk, *, Bool.not_true, Bool.not_false, Bool.or_false, Bool.false_or, Bool.or_true, Bool.true_or, Bool.and_false, Bool.false_and, Bool.true_and, Bool.and_true, Bool.or_self, Bool.and_self, Bool.not_not, decide_true, decide_false, not_true_eq_false, not_false_eq_true, cond_true, cond_false]) k i (by omega) (by omega) (found_false (ts := ts) (cs := cs) (p := plOf (nth xs k) i) (xs := ts) (by simp only [*]; rfl) (by assumption))
                      exact K.ret2 rfl rfl rfl (fun w' hw => .inl ⟨by rw [e9]; decide, by rw [e9], hw.isBelow⟩)
                    · have p9 := h9
                      try simp only [decide_eq_true_eq, decide_eq_false_iff_not, Int.not_lt, Int.not_le, Bool.not_eq_true', Bool.not_eq_false', Decidable.not_not, Bool.and_eq_true, Bool.or_eq_true, Bool.and_eq_false_iff, Bool.or_eq_false_iff] at p9
                      refine T.skip ?_
                      refine K.seq ?_
                      refine T.region ?_
                      refine TL.yv (Wt.none rfl) rfl rfl (Yv.pur rfl) ?_
                      first | refine TL.yv (Wt.none rfl) rfl rfl (Yv.loadC rfl rfl hk rfl rfl (fun h => h)) ?_ | refine TL.yv (Wt.none rfl) rfl rfl (Yv.loadC rfl rfl hk1 rfl rfl (fun h => h)) ?_ | refine TL.yv (Wt.none rfl) rfl rfl (Yv.loadAB rfl rfl hk rfl (fun h => h)) ?_ | refine TL.yv (Wt.none rfl) rfl rfl (Yv.loadAO 0 rfl rfl rfl rfl) ?_ | refine TL.yv (Wt.none rfl) rfl rfl (Yv.loadAO 1 rfl rfl rfl rfl) ?_ | refine TL.yv (Wt.none rfl) rfl rfl (Yv.loadAO 2 rfl rfl rfl rfl) ?_ | refine TL.yv (Wt.none rfl) rfl rfl (Yv.loadAO 3 rfl rfl rfl rfl) ?_ | refine TL.yv (Wt.none rfl) rfl rfl (Yv.loadAO 4 rfl rfl rfl rfl) ?_ | refine TL.yv (Wt.none rfl) rfl rfl (Yv.loadAB rfl rfl (by assumption) rfl (fun h => h)) ?_
                      refine TL.yv (Wt.none rfl) rfl rfl (Yv.fieldAddr rfl rfl) ?_
                      first | refine TL.yv (Wt.none rfl) rfl rfl (Yv.loadC rfl rfl hk rfl rfl (fun h => h)) ?_ | refine TL.yv (Wt.none rfl) rfl rfl (Yv.loadC rfl rfl hk1 rfl rfl (fun h => h)) ?_ | refine TL.yv (Wt.none rfl) rfl rfl (Yv.loadAB rfl rfl hk rfl (fun h => h)) ?_ | refine TL.yv (Wt.none rfl) rfl rfl (Yv.loadO 0 rfl rfl rfl rfl) ?_ | refine TL.yv (Wt.none rfl) rfl rfl (Yv.loadO 1 rfl rfl rfl rfl) ?_ | refine TL.yv (Wt.none rfl) rfl rfl (Yv.loadO 2 rfl rfl rfl rfl) ?_ | refine TL.yv (Wt.none rfl) rfl rfl (Yv.loadO 3 rfl rfl rfl rfl) ?_ | refine TL.yv (Wt.none rfl) rfl rfl (Yv.loadO 4 rfl rfl rfl rfl) ?_ | refine TL.yv (Wt.none rfl) rfl rfl (Yv.loadB rfl rfl (by assumption) (fun h => h)) ?_ | refine TL.yv (Wt.none rfl) rfl rfl (Yv.loadS 0 rfl rfl rfl (by first | rfl | assumption)) ?_ | refine TL.yv (Wt.none rfl) rfl rfl (Yv.loadS 1 rfl rfl rfl (by first | rfl | assumption)) ?_ | refine TL.yv (Wt.none rfl) rfl rfl (Yv.loadS 2 rfl rfl rfl (by first | rfl | assumption)) ?_ | refine TL.yv (Wt.none rfl) rfl rfl (Yv.loadS 3 rfl rfl rfl (by first | rfl | assumption)) ?_ | refine TL.yv (Wt.none rfl) rfl rfl (Yv.loadS 4 rfl rfl rfl (by first | rfl | assumption)) ?_
                      first | (refine TL.ew0 (Wt.none rfl) rfl (Ew.mapUpdate 0 rfl rfl rfl rfl rfl) ?_; rintro _ _ ⟨rfl, rfl⟩) | (refine TL.ew0 (Wt.none rfl) rfl (Ew.mapUpdate 1 rfl rfl rfl rfl rfl) ?_; rintro _ _ ⟨rfl, rfl⟩) | (refine TL.ew0 (Wt.none rfl) rfl (Ew.mapUpdate 2 rfl rfl rfl rfl rfl) ?_; rintro _ _ ⟨rfl, rfl⟩) | (refine TL.ew0 (Wt.none rfl) rfl (Ew.mapUpdate 3 rfl rfl rfl rfl rfl) ?_; rintro _ _ ⟨rfl, rfl⟩) | (refine TL.ew0 (Wt.none rfl) rfl (Ew.mapUpdate 4 rfl rfl rfl rfl rfl) ?_; rintro _ _ ⟨rfl, rfl⟩) | (refine TL.ew0 (Wt.none rfl) rfl (Ew.mapUpdate 5 rfl rfl rfl rfl rfl) ?_; rintro _ _ ⟨rfl, rfl⟩) | (refine TL.ew0 (Wt.none rfl) rfl (Ew.mapUpdate 6 rfl rfl rfl rfl rfl) ?_; rintro _ _ ⟨rfl, rfl⟩)
                      refine TL.nil ?_
                      refine K.blk_normal ?_
                      refine K.seq ?_
                      refine T.region ?_
                      first | refine TL.yv (Wt.none rfl) rfl rfl (Yv.addI rfl rfl rfl (by omega)) ?_ | refine TL.yv (Wt.none rfl) rfl rfl (Yv.pur rfl) ?_
                      refine TL.yv (Wt.none rfl) rfl rfl (Yv.pur rfl) ?_
                      refine TL.nil ?_
                      have hx := found_true (ts := ts) (cs := cs) (p := plOf (nth xs k) i) (xs := ts) (by simp only [*]; rfl) (by assumption)
                      exact K.next (i + 1, kvSet kv (plOf (nth xs k) i) (.int .i64 (sOf ts (plOf (nth xs k) i).2).cap)) (hphi.step (by omega) hx.2 hx.1) (by show 2 - (i + 1) < 2 - i; omega) (by repeat (first | exact Sub.nil | refine Sub.cons rfl ?_)) (by repeat (first | exact List.Sublist.refl _ | exact List.nil_sublist _ | refine List.Sublist.cons_cons _ ?_ | refine List.Sublist.cons _ ?_))
                · have p6 := h6
                  try simp only [decide_eq_true_eq, decide_eq_false_iff_not, Int.not_lt, Int.not_le, Bool.not_eq_true', Bool.not_eq_false', Decidable.not_not, Bool.and_eq_true, Bool.or_eq_true, Bool.and_eq_false_iff, Bool.or_eq_false_iff] at p6
                  refine T.exit ?_
                  refine K.then_exit ?_
                  refine K.then_exit ?_
                  refine K.blk_exit_eq ?_
                  refine K.blk_normal ?_
                  refine K.seq ?_
                  refine T.region ?_
                  first | refine TL.yv (Wt.none rfl) rfl rfl (Yv.addI rfl rfl rfl (by omega)) ?_ | refine TL.yv (Wt.none rfl) rfl rfl (Yv.pur rfl) ?_
                  refine TL.yv (Wt.none rfl) rfl rfl (Yv.pur rfl) ?_
                  refine TL.nil ?_
                  refine K.next (k + 1, kv) (hphi.out (by omega) (by omega)) (by show xs.length - (k + 1) < xs.length - k; omega) (by repeat (first | exact Sub.nil | refine Sub.cons rfl ?_)) (by repeat (first | exact List.Sublist.refl _ | exact List.nil_sublist _ | refine List.Sublist.cons_cons _ ?_ | refine List.Sublist.cons _ ?_))
            · have p5 := h5
              try simp only [decide_eq_true_eq, decide_eq_false_iff_not, Int.not_lt, Int.not_le, Bool.not_eq_true', Bool.not_eq_false', Decidable.not_not, Bool.and_eq_true, Bool.or_eq_true, Bool.and_eq_false_iff, Bool.or_eq_false_iff] at p5
              refine T.exit ?_
              refine K.then_exit ?_
              refine K.then_exit ?_
              refine K.blk_exit_eq ?_
              refine K.seq ?_
              refine T.seq ?_
              refine T.region ?_
              refine TL.yv (Wt.none rfl) rfl rfl (Yv.pur rfl) ?_
              refine TL.yv (Wt.none rfl) rfl rfl (Yv.pur rfl) ?_
              refine TL.yv (Wt.none rfl) rfl rfl (Yv.pur rfl) ?_
              refine TL.nil ?_
              refine K.seq ?_
              refine T.ret ?_
              exact K.ret2 rfl rfl rfl (fun w' hw => .inr ⟨codeOf_ok (by simp only [argsOk, *, Bool.not_true, Bool.not_false, Bool.or_false, Bool.false_or, Bool.or_true, Bool.true_or, Bool.and_false, Bool.false_and, Bool.true_and, Bool.and_true, Bool.or_self, Bool.and_self, Bool.not_not, decide_true, decide_false, not_true_eq_false, not_false_eq_true, cond_true, cond_false]) hphi (by omega), g36, kv, hphi.to_len (by omega), rfl, hw⟩)
end Go.Proofs.Ytphpmjnpjnmdmaa
