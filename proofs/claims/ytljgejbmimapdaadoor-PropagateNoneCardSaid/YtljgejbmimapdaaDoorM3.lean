/- Cutting a domain. -/
import Derived.Test.YtljgejbmimapdaaDoorM2
set_option maxRecDepth 100000
set_option maxHeartbeats 4000000
set_option linter.unusedSimpArgs false
set_option linter.unusedVariables false
set_option linter.unusedSectionVars false
namespace Go.Proofs.YtljgejbmimapdaaDoor
open Go.RowKit
theorem check_ret (sp : Nat) (Y : Tb) (L : Ws) (c : Bool) (x : Ch) (w : World) (h : StateAt w sp Y L c) (hix : ∀ j, 0 ≤ Y.ix j ∧ Y.ix j ≤ 512) : Calls Tryd.prog 53 #[.pointer (some ⟨sp, 0, none⟩), .agg (Ch.cells x).toArray] w fun e w' => e = .returned (.tuple #[.int .i64 (checkF Y c x).1, .int .i64 (checkF Y c x).2]) ∧ Below w.heap.size w w' := by
  obtain ⟨tp, hsp0, hT⟩ := h.tb
  have hcon := h.con
  refine calls_T (M := fun _ => False) (hs := []) Tryd.func53 rfl rfl rfl (Hp.refl _ _) ?_
  simp only [Ch.cells]
  refine T.seq ?_
  refine T.region ?_
  (refine TL.ew (Wt.none rfl) rfl rfl (Ew.boxA rfl rfl) ?_; rintro _ _ ⟨g3, rfl, rfl⟩)
  refine TL.yv (Wt.none rfl) rfl rfl (Yv.pur rfl) ?_
  refine TL.yv (Wt.none rfl) rfl rfl (Yv.pur rfl) ?_
  refine TL.nil ?_
  refine K.seq ?_
  refine T.seq ?_
  refine T.seq ?_
  refine T.region ?_
  refine TL.yv (Wt.none rfl) rfl rfl (Yv.pur rfl) ?_
  (refine TL.ew (Wt.none rfl) rfl rfl (Ew.callD rfl rfl rfl (fun w hw => missing_ret sp Y L c w (h.kept hw))) ?_; rintro _ _ ⟨rfl, rfl⟩)
  refine TL.nil ?_
  refine K.seq ?_
  refine T.condF rfl rfl ?_
  refine T.skip ?_
  refine K.seq ?_
  refine T.seq ?_
  refine T.seq ?_
  refine T.region ?_
  refine TL.yv (Wt.none rfl) rfl rfl (Yv.fieldAddr rfl rfl) ?_
  refine TL.yv (Wt.none rfl) rfl rfl (Yv.loadO 0 rfl rfl rfl rfl) ?_
  refine TL.yv (Wt.none rfl) rfl rfl (Yv.pur rfl) ?_
  refine TL.yv (Wt.none rfl) rfl rfl (Yv.pur rfl) ?_
  refine TL.gsplit rfl rfl rfl (fun h1 => ?_) (fun h1 => ?_)
  · have p1 := h1
    try simp only [decide_eq_true_eq, decide_eq_false_iff_not, Int.not_lt, Int.not_le, Bool.not_eq_true', Bool.not_eq_false', Decidable.not_not, Bool.and_eq_true, Bool.or_eq_true, Bool.and_eq_false_iff, Bool.or_eq_false_iff] at p1
    refine TL.off (Wt.not rfl rfl rfl h1) rfl rfl ?_
    refine TL.off (Wt.not rfl rfl rfl h1) rfl rfl ?_
    refine TL.off (Wt.not rfl rfl rfl h1) rfl rfl ?_
    refine TL.yv (Wt.none rfl) rfl rfl (Yv.pickT rfl rfl h1 rfl) ?_
    refine TL.yv (Wt.none rfl) rfl rfl (Yv.pur rfl) ?_
    refine TL.off (Wt.not rfl rfl rfl rfl) rfl rfl ?_
    refine TL.off (Wt.not rfl rfl rfl rfl) rfl rfl ?_
    refine TL.off (Wt.not rfl rfl rfl rfl) rfl rfl ?_
    refine TL.yv (Wt.none rfl) rfl rfl (Yv.pickT rfl rfl rfl rfl) ?_
    refine TL.yv (Wt.none rfl) rfl rfl (Yv.pur rfl) ?_
    refine TL.off (Wt.not rfl rfl rfl rfl) rfl rfl ?_
    refine TL.off (Wt.not rfl rfl rfl rfl) rfl rfl ?_
    refine TL.off (Wt.not rfl rfl rfl rfl) rfl rfl ?_
    refine TL.yv (Wt.none rfl) rfl rfl (Yv.pickT rfl rfl rfl rfl) ?_
    refine TL.nil ?_
    refine K.seq ?_
    refine T.condT rfl rfl ?_
    refine T.seq ?_
    refine T.region ?_
    refine TL.yv (Wt.none rfl) rfl rfl (Yv.pur rfl) ?_
    refine TL.yv (Wt.none rfl) rfl rfl (Yv.pur rfl) ?_
    refine TL.nil ?_
    refine K.seq ?_
    refine T.ret ?_
    refine K.then_ret ?_
    refine K.ret2 rfl rfl rfl (fun w' hw => ⟨?_, hw.isBelow⟩)
    (rw [show checkF Y c x = (0, 2) from if_pos (by omega)])
  · have p1 := h1
    try simp only [decide_eq_true_eq, decide_eq_false_iff_not, Int.not_lt, Int.not_le, Bool.not_eq_true', Bool.not_eq_false', Decidable.not_not, Bool.and_eq_true, Bool.or_eq_true, Bool.and_eq_false_iff, Bool.or_eq_false_iff] at p1
    refine TL.yv (Wt.some rfl rfl rfl h1) rfl rfl (Yv.fieldAddr rfl rfl) ?_
    refine TL.yv (Wt.some rfl rfl rfl h1) rfl rfl (Yv.loadO 0 rfl rfl rfl rfl) ?_
    refine TL.yv (Wt.some rfl rfl rfl h1) rfl rfl (Yv.pur rfl) ?_
    refine TL.yv (Wt.none rfl) rfl rfl (Yv.pickF rfl rfl h1 rfl) ?_
    refine TL.yv (Wt.none rfl) rfl rfl (Yv.pur rfl) ?_
    refine TL.gsplit rfl rfl rfl (fun h2 => ?_) (fun h2 => ?_)
    · have p2 := h2
      try simp only [decide_eq_true_eq, decide_eq_false_iff_not, Int.not_lt, Int.not_le, Bool.not_eq_true', Bool.not_eq_false', Decidable.not_not, Bool.and_eq_true, Bool.or_eq_true, Bool.and_eq_false_iff, Bool.or_eq_false_iff] at p2
      refine TL.off (Wt.not rfl rfl rfl h2) rfl rfl ?_
      refine TL.off (Wt.not rfl rfl rfl h2) rfl rfl ?_
      refine TL.off (Wt.not rfl rfl rfl h2) rfl rfl ?_
      refine TL.yv (Wt.none rfl) rfl rfl (Yv.pickT rfl rfl h2 rfl) ?_
      refine TL.yv (Wt.none rfl) rfl rfl (Yv.pur rfl) ?_
      refine TL.off (Wt.not rfl rfl rfl rfl) rfl rfl ?_
      refine TL.off (Wt.not rfl rfl rfl rfl) rfl rfl ?_
      refine TL.off (Wt.not rfl rfl rfl rfl) rfl rfl ?_
      refine TL.yv (Wt.none rfl) rfl rfl (Yv.pickT rfl rfl rfl rfl) ?_
      refine TL.nil ?_
      refine K.seq ?_
      refine T.condT rfl rfl ?_
      refine T.seq ?_
      refine T.region ?_
      refine TL.yv (Wt.none rfl) rfl rfl (Yv.pur rfl) ?_
      refine TL.yv (Wt.none rfl) rfl rfl (Yv.pur rfl) ?_
      refine TL.nil ?_
      refine K.seq ?_
      refine T.ret ?_
      refine K.then_ret ?_
      refine K.ret2 rfl rfl rfl (fun w' hw => ⟨?_, hw.isBelow⟩)
      (rw [show checkF Y c x = (0, 2) from if_pos (by omega)])
    · have p2 := h2
      try simp only [decide_eq_true_eq, decide_eq_false_iff_not, Int.not_lt, Int.not_le, Bool.not_eq_true', Bool.not_eq_false', Decidable.not_not, Bool.and_eq_true, Bool.or_eq_true, Bool.and_eq_false_iff, Bool.or_eq_false_iff] at p2
      refine TL.yv (Wt.some rfl rfl rfl h2) rfl rfl (Yv.fieldAddr rfl rfl) ?_
      refine TL.yv (Wt.some rfl rfl rfl h2) rfl rfl (Yv.loadO 0 rfl rfl rfl rfl) ?_
      refine TL.yv (Wt.some rfl rfl rfl h2) rfl rfl (Yv.pur rfl) ?_
      refine TL.yv (Wt.none rfl) rfl rfl (Yv.pickF rfl rfl h2 rfl) ?_
      refine TL.yv (Wt.none rfl) rfl rfl (Yv.pur rfl) ?_
      refine TL.gsplit rfl rfl rfl (fun h3 => ?_) (fun h3 => ?_)
      · have p3 := h3
        try simp only [decide_eq_true_eq, decide_eq_false_iff_not, Int.not_lt, Int.not_le, Bool.not_eq_true', Bool.not_eq_false', Decidable.not_not, Bool.and_eq_true, Bool.or_eq_true, Bool.and_eq_false_iff, Bool.or_eq_false_iff] at p3
        refine TL.off (Wt.not rfl rfl rfl h3) rfl rfl ?_
        refine TL.off (Wt.not rfl rfl rfl h3) rfl rfl ?_
        refine TL.off (Wt.not rfl rfl rfl h3) rfl rfl ?_
        refine TL.yv (Wt.none rfl) rfl rfl (Yv.pickT rfl rfl h3 rfl) ?_
        refine TL.nil ?_
        refine K.seq ?_
        refine T.condT rfl rfl ?_
        refine T.seq ?_
        refine T.region ?_
        refine TL.yv (Wt.none rfl) rfl rfl (Yv.pur rfl) ?_
        refine TL.yv (Wt.none rfl) rfl rfl (Yv.pur rfl) ?_
        refine TL.nil ?_
        refine K.seq ?_
        refine T.ret ?_
        refine K.then_ret ?_
        refine K.ret2 rfl rfl rfl (fun w' hw => ⟨?_, hw.isBelow⟩)
        (rw [show checkF Y c x = (0, 2) from if_pos (by omega)])
      · have p3 := h3
        try simp only [decide_eq_true_eq, decide_eq_false_iff_not, Int.not_lt, Int.not_le, Bool.not_eq_true', Bool.not_eq_false', Decidable.not_not, Bool.and_eq_true, Bool.or_eq_true, Bool.and_eq_false_iff, Bool.or_eq_false_iff] at p3
        refine TL.yv (Wt.some rfl rfl rfl h3) rfl rfl (Yv.fieldAddr rfl rfl) ?_
        refine TL.yv (Wt.some rfl rfl rfl h3) rfl rfl (Yv.loadO 0 rfl rfl rfl rfl) ?_
        refine TL.yv (Wt.some rfl rfl rfl h3) rfl rfl (Yv.pur rfl) ?_
        refine TL.yv (Wt.none rfl) rfl rfl (Yv.pickF rfl rfl h3 rfl) ?_
        refine TL.nil ?_
        refine K.seq ?_
        refine T.cond rfl (fun h4 => ?_) (fun h4 => ?_)
        · have p4 := h4
          try simp only [decide_eq_true_eq, decide_eq_false_iff_not, Int.not_lt, Int.not_le, Bool.not_eq_true', Bool.not_eq_false', Decidable.not_not, Bool.and_eq_true, Bool.or_eq_true, Bool.and_eq_false_iff, Bool.or_eq_false_iff] at p4
          refine T.seq ?_
          refine T.region ?_
          refine TL.yv (Wt.none rfl) rfl rfl (Yv.pur rfl) ?_
          refine TL.yv (Wt.none rfl) rfl rfl (Yv.pur rfl) ?_
          refine TL.nil ?_
          refine K.seq ?_
          refine T.ret ?_
          refine K.then_ret ?_
          refine K.ret2 rfl rfl rfl (fun w' hw => ⟨?_, hw.isBelow⟩)
          (rw [show checkF Y c x = (0, 2) from if_pos (by omega)])
        · have p4 := h4
          try simp only [decide_eq_true_eq, decide_eq_false_iff_not, Int.not_lt, Int.not_le, Bool.not_eq_true', Bool.not_eq_false', Decidable.not_not, Bool.and_eq_true, Bool.or_eq_true, Bool.and_eq_false_iff, Bool.or_eq_false_iff] at p4
          refine T.skip ?_
          refine K.seq ?_
          refine T.seq ?_
          refine T.seq ?_
          refine T.region ?_
          refine TL.yv (Wt.none rfl) rfl rfl (Yv.pur rfl) ?_
          refine TL.yv (Wt.none rfl) rfl rfl (Yv.pur rfl) ?_
          refine TL.yv (Wt.none rfl) rfl rfl (Yv.fieldAddr rfl rfl) ?_
          refine TL.yv (Wt.none rfl) rfl rfl (Yv.loadB rfl rfl hcon (fun h => h)) ?_
          refine TL.nil ?_
          refine K.seq ?_
          refine T.cond rfl (fun h5 => ?_) (fun h5 => ?_)
          · have p5 := h5
            try simp only [decide_eq_true_eq, decide_eq_false_iff_not, Int.not_lt, Int.not_le, Bool.not_eq_true', Bool.not_eq_false', Decidable.not_not, Bool.and_eq_true, Bool.or_eq_true, Bool.and_eq_false_iff, Bool.or_eq_false_iff] at p5
            refine T.seq ?_
            refine T.region ?_
            refine TL.yv (Wt.none rfl) rfl rfl (Yv.pur rfl) ?_
            refine TL.yv (Wt.none rfl) rfl rfl (Yv.pur rfl) ?_
            refine TL.nil ?_
            refine K.seq ?_
            refine T.ret ?_
            refine K.then_ret ?_
            refine K.ret2 rfl rfl rfl (fun w' hw => ⟨?_, hw.isBelow⟩)
            (rw [show checkF Y c x = (0, 8) from by rw [checkF, if_neg (by omega), if_pos (by assumption)]])
          · have p5 := h5
            try simp only [decide_eq_true_eq, decide_eq_false_iff_not, Int.not_lt, Int.not_le, Bool.not_eq_true', Bool.not_eq_false', Decidable.not_not, Bool.and_eq_true, Bool.or_eq_true, Bool.and_eq_false_iff, Bool.or_eq_false_iff] at p5
            refine T.skip ?_
            refine K.seq ?_
            refine T.seq ?_
            refine T.draw (.still 0 (.still 1 (.still 2 (.still 3 (.still 4 (.still 5 (.eff 6 (.still 7 (.still 8 (.still 9 (.still 10 (.still 11 .done)))))))))))) _ (by kernel_rfl) (List.Sublist.refl _) ?_
            refine TS.still rfl (Wt.none rfl) rfl rfl (Yv.pur rfl) ?_
            refine TS.still rfl (Wt.none rfl) rfl rfl (Yv.pur rfl) ?_
            refine TS.still rfl (Wt.none rfl) rfl rfl (Yv.fieldAddr rfl rfl) ?_
            refine TS.still rfl (Wt.none rfl) rfl rfl (Yv.loadB rfl rfl hsp0 (fun h => h)) ?_
            refine TS.still rfl (Wt.none rfl) rfl rfl (Yv.fieldAddr rfl rfl) ?_
            refine TS.still rfl (Wt.none rfl) rfl rfl (Yv.loadO 0 rfl rfl rfl rfl) ?_
            refine TS.eff ?_
            (refine TSo.ew rfl (Wt.none rfl) rfl rfl (Ew.callD rfl rfl rfl (fun w hw => at_ret tp Y x.st w (hT.later (Fz.of_below hw.isBelow)) hix)) ?_; rintro _ _ ⟨rfl, rfl⟩; refine ⟨(by repeat (first | exact List.Sublist.refl _ | exact List.nil_sublist _ | refine List.Sublist.cons_cons _ ?_ | refine List.Sublist.cons _ ?_)), ?_⟩)
            refine TS.still rfl (Wt.none rfl) rfl rfl (Yv.pur rfl) ?_
            refine TS.still rfl (Wt.none rfl) rfl rfl (Yv.pur rfl) ?_
            refine TS.still rfl (Wt.none rfl) rfl rfl (Yv.pur rfl) ?_
            refine TS.still rfl (Wt.none rfl) rfl rfl (Yv.pur rfl) ?_
            refine TS.still rfl (Wt.none rfl) rfl rfl (Yv.pur rfl) ?_
            refine TS.done ?_
            refine K.seq ?_
            refine T.seq ?_
            refine T.seq ?_
            refine T.region ?_
            refine TL.yv (Wt.none rfl) rfl rfl (Yv.pur rfl) ?_
            refine TL.yv (Wt.none rfl) rfl rfl (Yv.pur rfl) ?_
            refine TL.nil ?_
            refine K.seq ?_
            refine T.cond rfl (fun h6 => ?_) (fun h6 => ?_)
            · have p6 := h6
              try simp only [decide_eq_true_eq, decide_eq_false_iff_not, Int.not_lt, Int.not_le, Bool.not_eq_true', Bool.not_eq_false', Decidable.not_not, Bool.and_eq_true, Bool.or_eq_true, Bool.and_eq_false_iff, Bool.or_eq_false_iff] at p6
              refine T.seq ?_
              refine T.region ?_
              refine TL.yv (Wt.none rfl) rfl rfl (Yv.pur rfl) ?_
              refine TL.yv (Wt.none rfl) rfl rfl (Yv.pur rfl) ?_
              refine TL.nil ?_
              refine K.seq ?_
              refine T.ret ?_
              refine K.then_ret ?_
              refine K.ret2 rfl rfl rfl (fun w' hw => ⟨?_, hw.isBelow⟩)
              (rw [show checkF Y c x = (0, 9) from by rw [checkF, if_neg (by omega), if_neg (by simp_all), if_pos (by assumption)]])
            · have p6 := h6
              try simp only [decide_eq_true_eq, decide_eq_false_iff_not, Int.not_lt, Int.not_le, Bool.not_eq_true', Bool.not_eq_false', Decidable.not_not, Bool.and_eq_true, Bool.or_eq_true, Bool.and_eq_false_iff, Bool.or_eq_false_iff] at p6
              refine T.skip ?_
              refine K.seq ?_
              refine T.seq ?_
              refine T.region ?_
              refine TL.yv (Wt.none rfl) rfl rfl (Yv.pur rfl) ?_
              refine TL.yv (Wt.none rfl) rfl rfl (Yv.pur rfl) ?_
              refine TL.yv (Wt.none rfl) rfl rfl (Yv.pur rfl) ?_
              refine TL.nil ?_
              refine K.seq ?_
              refine T.ret ?_
              refine K.ret2 rfl rfl rfl (fun w' hw => ⟨?_, hw.isBelow⟩)
              (rw [show checkF Y c x = ((atF Y x.st).1, 0) from by rw [checkF, if_neg (by omega), if_neg (by simp_all), if_neg (by simp_all)]])

def cutL (L : Ws) (i : Nat) (g : BitVec 64) : Ws := L.set i (nth L i &&& ~~~g)
theorem cutL_same {L : Ws} {i : Nat} {g : BitVec 64} (hi : i < L.length) (h : nth L i &&& g = 0#64) : cutL L i g = L := by
  have e : nth L i &&& ~~~g = nth L i := by
    apply BitVec.eq_of_getLsbD_eq
    intro j hj
    have := congrArg (fun b => BitVec.getLsbD b j) h
    simp only [BitVec.getLsbD_and, BitVec.getLsbD_zero] at this
    simp only [BitVec.getLsbD_and, BitVec.getLsbD_not]
    cases h1 : (nth L i).getLsbD j <;> cases h2 : g.getLsbD j <;> simp_all
  unfold cutL
  rw [e]
  apply List.ext_getElem?
  intro j
  by_cases hj : j = i
  · subst hj; rw [List.getElem?_set_self hi, List.getElem?_eq_getElem hi, nth_eq hi]
  · rw [List.getElem?_set_ne (fun e => hj e.symm)]
theorem cutL_at {L : Ws} {i : Nat} {g : BitVec 64} (hi : i < L.length) : nth (cutL L i g) i = nth L i &&& ~~~g := by unfold cutL; rw [set_nth hi, if_pos rfl]
theorem SInv.cut {Y : Tb} {L : Ws} {i : Nat} {g : BitVec 64} (hok : Y.Ok) (hi : i < Y.n) (hl : L.length = Y.n) (hcalm : ∀ k, k < Y.n → Calm1 Y L k) (hne : nth L i &&& g ≠ 0#64) :
    SInv Y (cutL L i g) (cutL L i g) (memN (touchF Y (cutL L i g) i sNil)) sNil (decide (nth (cutL L i g) i = 0#64)) := by
  have hil : i < L.length := by omega
  have hn := hok.n
  have hat := cutL_at (g := g) hil
  have hlen : (cutL L i g).length = Y.n := by unfold cutL; rw [List.length_set, hl]
  have hsub : ∀ j, (nth (cutL L i g) i).getLsbD j = true → (nth L i).getLsbD j = true := fun j hj => by
    rw [hat, BitVec.getLsbD_and, Bool.and_eq_true] at hj; exact hj.1
  have hchg : nth (cutL L i g) i ≠ nth L i := fun e => hne (by
    rw [hat] at e
    apply BitVec.eq_of_getLsbD_eq
    intro j hj
    have := congrArg (fun b => BitVec.getLsbD b j) e
    simp only [BitVec.getLsbD_and, BitVec.getLsbD_not] at this
    simp only [BitVec.getLsbD_and, BitVec.getLsbD_zero]
    cases h1 : (nth L i).getLsbD j <;> cases h2 : g.getLsbD j <;> simp_all)
  have ht8 : (touchF Y (cutL L i g) i sNil).length = 8 := by rw [touchF_len]; rfl
  refine ⟨.refl, hlen, rfl, (fun j _ hb => by rw [sBit_nil] at hb; cases hb), fun j hj => ?_, memF_len _ 0, fun hc => ⟨i, hi, of_decide_eq_true hc⟩, fun hc k hk => ?_⟩
  · obtain ⟨_, h5, hb⟩ := memF_mem.1 hj
    rcases (touchF_bit hok hi (by rfl) j h5).1 hb with h1 | ⟨_, h1 | h1 | h1⟩
    · rw [sBit_nil] at h1; cases h1
    · obtain ⟨x, hx, he⟩ := h1; have := (hok.ps i hi).2 x hx; omega
    · obtain ⟨x, hx, he⟩ := h1; have := (hok.inn i hi).2 x hx; omega
    · obtain ⟨x, hx, he⟩ := h1
      have h2 := (hok.out i hi).2 x hx
      rcases he with he | ⟨_, o, ho, he⟩
      · omega
      · have := (hok.inn x.to.toNat (by omega)).2 o ho; omega
  · have h0 : nth (cutL L i g) i ≠ 0#64 := of_decide_eq_false hc
    by_cases hki : k = i
    · subst hki
      refine .inr (.inr ⟨h0, ?_⟩)
      have e := goneF_own (b := nth L k &&& ~~~g) hok hi hl
      have hg : goneF Y (cutL L k g) k = goneF Y L k := by unfold goneF cutL; rw [e.1, e.2.1, e.2.2]
      rw [hg]
      have hc := (hcalm k hk).2
      apply BitVec.eq_of_getLsbD_eq
      intro j hj
      have := congrArg (fun b => BitVec.getLsbD b j) hc
      simp only [BitVec.getLsbD_and, BitVec.getLsbD_zero] at this ⊢
      cases h1 : (nth (cutL L k g) k).getLsbD j
      · rfl
      · rw [hsub j h1] at this; simpa using this
    · have hkeep : nth (cutL L i g) k = nth L k := by unfold cutL; rw [set_nth hil, if_neg hki]
      have h00 : only L i = 0 := two_bits hsub hchg h0
      have honly : ∀ j, j ≠ i → only (cutL L i g) j = only L j := fun j hj => by unfold cutL; exact only_set hil hj
      by_cases hnear : only (cutL L i g) i ≠ 0 ∧ Near Y (cutL L i g) i k
      · exact .inl (memF_mem.2 ⟨Nat.zero_le _, by omega, (touchF_bit hok hi (by rfl) k (by omega)).2 (.inr hnear)⟩)
      · refine .inr (.inr ⟨by rw [hkeep]; exact (hcalm k hk).1, ?_⟩)
        have ha : Alike Y L (cutL L i g) k := by
          by_cases hz : only (cutL L i g) i = 0
          · have hall : ∀ j, only (cutL L i g) j = only L j := fun j => by
              by_cases hj : j = i
              · subst hj; rw [hz, h00]
              · exact honly j hj
            exact ⟨fun x _ => ⟨fun _ => hall _, fun _ => hall _⟩, fun x _ => hall _, fun x _ => ⟨hall _, fun _ o _ _ => hall _⟩⟩
          · exact alike_far hok hi hk hki honly h00 (fun hh => hnear ⟨hz, hh⟩)
        rw [goneF_alike ha (fun x hx => by have := (hok.out k hk).2 x hx; omega), hkeep]
        exact (hcalm k hk).2


theorem cutPerm (a b c d : Ent) : [a, b, c, d].Perm ([c, d, a] ++ [b]) := by
  have h1 : [a, b, c, d].Perm ([c, d] ++ [a, b]) := List.perm_append_comm (l₁ := [a, b]) (l₂ := [c, d])
  exact h1
theorem cutMN {w0 w w1 : World} {M : Nat → Prop} {es rest : HS} (hfr : Fz w0 w) (h : Hp w M (es ++ rest) w1) (hMN : ∀ g, M g → ¬ IsC w0 g) (g : Nat) (hg : fps es g) : ¬ IsC w0 g := fun hc => by
  obtain ⟨e, he, hf⟩ := hg
  rcases h.new e (List.mem_append_left _ he) g hf with hh | hh
  · exact hMN g hh hc
  · have h9 := hfr g hc
    obtain ⟨_, _, _, h8⟩ := hc
    rw [h8] at h9
    have := (Array.getElem?_eq_some_iff.1 h9).1
    omega
theorem cutM0 {w w1 : World} {M : Nat → Prop} {es rest : HS} (htab : Tab w) (h : Hp w M (es ++ rest) w1) (hM0 : ¬ M 0) (hg : fps es 0) : False := by
  obtain ⟨e, he, hf⟩ := hg
  rcases h.new e (List.mem_append_left _ he) 0 hf with hh | hh
  · exact hM0 hh
  · have := htab.size; omega

theorem cut_ret (w0 : World) (sp gl tp : Nat) (Y : Tb) (L : Ws) (w : World) (ht : TablesAt w0 tp Y) (hok : Y.Ok) (hfr : Fz w0 w) (htab : Tab w) (hes : Hp w (fps [sRow sp gl tp Y.n false, sLeft gl Y.n L]) [sRow sp gl tp Y.n false, sLeft gl Y.n L] w) (hMN : ∀ g, fps [sRow sp gl tp Y.n false, sLeft gl Y.n L] g → ¬ IsC w0 g) (hM0 : ¬ fps [sRow sp gl tp Y.n false, sLeft gl Y.n L] 0) (hl : L.length = Y.n) (hcalm : ∀ k, k < Y.n → Calm1 Y L k) (i : Nat) (z : Int) (hz : z = (i : Int)) (hi : i < Y.n) (gone : BitVec 64) : Calls Tryd.prog 54 #[.pointer (some ⟨sp, 0, none⟩), .int .i64 z, U gone] w fun e w' => ∃ y : Ws × Bool, SPost Y (cutL L i gone) y.1 y.2 ∧ e = .returned (.tuple #[]) ∧ Hp w (fps [sRow sp gl tp Y.n false, sLeft gl Y.n L]) [sRow sp gl tp Y.n y.2, sLeft gl Y.n y.1] w' := by
  subst hz
  have hld : (Ws.cells L)[0 + i * 1]? = some (U (nth L i)) := Ws.get (by omega) (by omega)
  have hcl : (cutL L i gone).length = Y.n := by unfold cutL; rw [List.length_set, hl]
  have hld1 : (Ws.cells (cutL L i gone))[0 + i * 1]? = some (U (nth (cutL L i gone) i)) := Ws.get (by omega) (by omega)
  have ht8 : (touchF Y (cutL L i gone) i sNil).length = 8 := by rw [touchF_len]; rfl
  refine calls_T (M := fps [sRow sp gl tp Y.n false, sLeft gl Y.n L]) (hs := [sRow sp gl tp Y.n false, sLeft gl Y.n L]) Tryd.func54 rfl rfl rfl hes ?_
  refine T.seq ?_
  refine T.seq ?_
  refine T.region ?_
  refine TL.yv (Wt.none rfl) rfl rfl (Yv.pur rfl) ?_
  refine TL.yv (Wt.none rfl) rfl rfl (Yv.pur rfl) ?_
  refine TL.yv (Wt.none rfl) rfl rfl (Yv.fieldAddr rfl rfl) ?_
  refine TL.yv (Wt.none rfl) rfl rfl (Yv.loadO 0 rfl rfl rfl rfl) ?_
  refine TL.yv (Wt.none rfl) rfl rfl (Yv.pur rfl) ?_
  refine TL.yv (Wt.none rfl) rfl rfl (Yv.indexSl rfl rfl rfl rfl (by omega)) ?_
  refine TL.yv (Wt.none rfl) rfl rfl (Yv.loadS 1 rfl rfl rfl hld) ?_
  refine TL.yv (Wt.none rfl) rfl rfl (Yv.pur rfl) ?_
  refine TL.yv (Wt.none rfl) rfl rfl (Yv.andV rfl rfl rfl) ?_
  refine TL.yv (Wt.none rfl) rfl rfl (Yv.pur rfl) ?_
  refine TL.nil ?_
  refine K.seq ?_
  refine T.cond rfl (fun h1 => ?_) (fun h1 => ?_)
  · have p1 := h1
    try simp only [decide_eq_true_eq, decide_eq_false_iff_not, Int.not_lt, Int.not_le, Bool.not_eq_true', Bool.not_eq_false', Decidable.not_not, Bool.and_eq_true, Bool.or_eq_true, Bool.and_eq_false_iff, Bool.or_eq_false_iff] at p1
    have hz0 : nth L i &&& gone = 0#64 := BitVec.eq_of_toNat_eq (by show _ = 0; omega)
    refine T.ret ?_
    refine K.then_ret ?_
    exact K.ret0 rfl (fun w' hw => ⟨(L, false), ⟨by rw [cutL_same (by omega) hz0]; exact .refl, hl, (fun hh => by cases hh), fun _ => hcalm⟩, rfl, hw⟩)
  · have p1 := h1
    try simp only [decide_eq_true_eq, decide_eq_false_iff_not, Int.not_lt, Int.not_le, Bool.not_eq_true', Bool.not_eq_false', Decidable.not_not, Bool.and_eq_true, Bool.or_eq_true, Bool.and_eq_false_iff, Bool.or_eq_false_iff] at p1
    have hz1 : nth L i &&& gone ≠ 0#64 := fun hh => p1 (by rw [hh]; rfl)
    have hinv := SInv.cut hok hi hl hcalm hz1
    refine T.skip ?_
    refine K.seq ?_
    refine T.seq ?_
    refine T.region ?_
    refine TL.yv (Wt.none rfl) rfl rfl (Yv.pur rfl) ?_
    refine TL.yv (Wt.none rfl) rfl rfl (Yv.pur rfl) ?_
    refine TL.yv (Wt.none rfl) rfl rfl (Yv.fieldAddr rfl rfl) ?_
    refine TL.yv (Wt.none rfl) rfl rfl (Yv.loadO 0 rfl rfl rfl rfl) ?_
    refine TL.yv (Wt.none rfl) rfl rfl (Yv.pur rfl) ?_
    refine TL.yv (Wt.none rfl) rfl rfl (Yv.indexSl rfl rfl rfl rfl (by omega)) ?_
    refine TL.yv (Wt.none rfl) rfl rfl (Yv.loadS 1 rfl rfl rfl hld) ?_
    refine TL.yv (Wt.none rfl) rfl rfl (Yv.pur rfl) ?_
    refine TL.yv (Wt.none rfl) rfl rfl (Yv.andNotV rfl rfl rfl) ?_
    refine TL.yv (Wt.none rfl) rfl rfl (Yv.indexSl rfl rfl rfl rfl (by omega)) ?_
    (refine TL.ew0 (Wt.none rfl) rfl (Ew.storeSE 1 (Ws.cells (cutL L i gone)) rfl rfl rfl rfl (by rw [List.length_map]; omega) (set_cells (by omega))) ?_; rintro _ _ ⟨rfl, rfl⟩)
    refine TL.nil ?_
    refine K.seq ?_
    refine T.seq ?_
    refine T.region ?_
    (refine TL.ew (Wt.none rfl) rfl rfl (Ew.alloc rfl) ?_; rintro _ _ ⟨g6, rfl, rfl⟩)
    refine TL.nil ?_
    refine K.seq ?_
    refine T.seq ?_
    refine T.region ?_
    refine TL.yv (Wt.none rfl) rfl rfl (Yv.pur rfl) ?_
    refine TL.yv (Wt.none rfl) rfl rfl (Yv.pur rfl) ?_
    (refine TL.ew (Wt.none rfl) rfl rfl (Ew.callM 0 rfl rfl rfl rfl (fun w hw => touch_ret w0 sp gl tp g6 Y (cutL L i gone) _ sNil rfl i _ rfl hi w (StF.of hw ht (Fz.hp hfr hw hMN) (htab.kept hw hM0) 1 2 rfl rfl (by unfold cutL; rw [List.length_set, hl])) hok (by rcases hw.new _ (List.mem_of_getElem? (i := 0) rfl) g6 (Ent.row_fp.2 rfl) with hh | hh; exact hMN _ hh; exact (fun hc => by have h9 := hfr _ hc; obtain ⟨_, _, _, h8⟩ := hc; rw [h8] at h9; have := (Array.getElem?_eq_some_iff.1 h9).1; omega)) (by intro hz0; subst hz0; rcases hw.new _ (List.mem_of_getElem? (i := 0) rfl) 0 (Ent.row_fp.2 rfl) with hh | hh; exact hM0 hh; have := htab.size; omega) (fun hh => hw.ne (i := 0) (j := 1) (by omega) rfl rfl (g := g6) (Ent.row_fp.2 rfl) (Ent.row_fp.2 hh.symm)) (fun hh => hw.ne (i := 0) (j := 2) (by omega) rfl rfl (g := g6) (Ent.row_fp.2 rfl) (Ent.sl_fp.2 (by rw [hh]; rfl))) (hw.get (i := 0) rfl))) ?_; rintro _ _ ⟨-, -, rfl, rfl⟩)
    refine TL.nil ?_
    refine K.seq ?_
    refine T.cut (gs := [(0, .pointer (some ⟨sp, 0, none⟩)), (6, .pointer (some ⟨g6, 0, none⟩))]) (hs' := [.row g6 127 (Ws.cells (touchF Y (cutL L i gone) i sNil)), sRow sp gl tp Y.n (decide (nth (cutL L i gone) i = 0#64)), sLeft gl Y.n (cutL L i gone)]) ?_ ?_
    · skip
      refine T.seq ?_
      refine T.region ?_
      refine TL.yv (Wt.none rfl) rfl rfl (Yv.pur rfl) ?_
      refine TL.yv (Wt.none rfl) rfl rfl (Yv.pur rfl) ?_
      refine TL.yv (Wt.none rfl) rfl rfl (Yv.fieldAddr rfl rfl) ?_
      refine TL.yv (Wt.none rfl) rfl rfl (Yv.loadO 1 rfl rfl rfl rfl) ?_
      refine TL.yv (Wt.none rfl) rfl rfl (Yv.pur rfl) ?_
      refine TL.yv (Wt.none rfl) rfl rfl (Yv.indexSl rfl rfl rfl rfl (by omega)) ?_
      refine TL.yv (Wt.none rfl) rfl rfl (Yv.loadS 2 rfl rfl rfl hld1) ?_
      refine TL.yv (Wt.none rfl) rfl rfl (Yv.pur rfl) ?_
      refine TL.nil ?_
      refine K.seq ?_
      refine T.cond rfl (fun h2 => ?_) (fun h2 => ?_)
      · have p2 := h2
        try simp only [decide_eq_true_eq, decide_eq_false_iff_not, Int.not_lt, Int.not_le, Bool.not_eq_true', Bool.not_eq_false', Decidable.not_not, Bool.and_eq_true, Bool.or_eq_true, Bool.and_eq_false_iff, Bool.or_eq_false_iff] at p2
        have hd0 : decide (nth (cutL L i gone) i = 0#64) = true := decide_eq_true (BitVec.eq_of_toNat_eq (by show _ = 0; omega))
        refine T.region ?_
        refine TL.yv (Wt.none rfl) rfl rfl (Yv.pur rfl) ?_
        refine TL.yv (Wt.none rfl) rfl rfl (Yv.pur rfl) ?_
        refine TL.yv (Wt.none rfl) rfl rfl (Yv.fieldAddr rfl rfl) ?_
        (refine TL.ew0 (Wt.none rfl) rfl (Ew.store1 1 rfl rfl rfl rfl (by first | omega | simp)) ?_; rintro _ _ ⟨rfl, rfl⟩)
        refine TL.nil ?_
        (rw [hd0]; exact K.at (by repeat (first | exact Sub.nil | refine Sub.cons rfl ?_)) (by repeat (first | exact List.Sublist.refl _ | exact List.nil_sublist _ | refine List.Sublist.cons_cons _ ?_ | refine List.Sublist.cons _ ?_)))
      · have p2 := h2
        try simp only [decide_eq_true_eq, decide_eq_false_iff_not, Int.not_lt, Int.not_le, Bool.not_eq_true', Bool.not_eq_false', Decidable.not_not, Bool.and_eq_true, Bool.or_eq_true, Bool.and_eq_false_iff, Bool.or_eq_false_iff] at p2
        have hd1 : decide (nth (cutL L i gone) i = 0#64) = false := decide_eq_false (fun hh => p2 (by rw [hh]; rfl))
        refine T.skip ?_
        (rw [hd1]; exact K.at (by repeat (first | exact Sub.nil | refine Sub.cons rfl ?_)) (by repeat (first | exact List.Sublist.refl _ | exact List.nil_sublist _ | refine List.Sublist.cons_cons _ ?_ | refine List.Sublist.cons _ ?_)))
    · skip
      refine T.region ?_
      refine TL.yv (Wt.none rfl) rfl rfl (Yv.pur rfl) ?_
      refine TL.yv (Wt.none rfl) rfl rfl (Yv.loadAO 0 rfl rfl rfl (by rw [List.length_map, ht8])) ?_
      (refine TL.ew (Wt.none rfl) rfl rfl (Ew.callH rfl rfl rfl (fun w hw => list_ret _ ht8 w (htab.kept hw hM0))) ?_; rintro v43 _ ⟨_, -, rfl, rfl⟩)
      dsimp only [List.cons_append, List.nil_append]
      refine TL.conv 0 _ (Ent.qu v43 (memN (touchF Y (cutL L i gone) i sNil))) rfl (fun w hh => qu_of_sl rfl hh) (fun g hg => Ent.sl_fp.2 (Ent.qu_fp.1 hg)) ?_
      (refine TL.ew (Wt.none rfl) rfl rfl (Ew.callL [sRow sp gl tp Y.n (decide (nth (cutL L i gone) i = 0#64)), sLeft gl Y.n (cutL L i gone), Ent.qu v43 (memN (touchF Y (cutL L i gone) i sNil))] [.row g6 127 (Ws.cells (touchF Y (cutL L i gone) i sNil))] rfl rfl rfl (cutPerm _ _ _ _) (fun w hw hw2 => settle_ret w0 sp gl tp Y (cutL L i gone) _ _ _ w ht hok (Fz.hp hfr hw hMN) (htab.kept hw hM0) hw2.part (fun g hg => cutMN hfr hw2 hMN g hg) (fun hg => cutM0 htab hw2 hM0 hg) hinv)) ?_; rintro _ _ ⟨y44, hpost, rfl, rfl⟩)
      dsimp only [List.cons_append, List.nil_append]
      refine TL.nil ?_
      exact K.end0 rfl (fun w' hw => ⟨y44, hpost, rfl, hw.sub (by repeat (first | exact List.Sublist.refl _ | exact List.nil_sublist _ | refine List.Sublist.cons_cons _ ?_ | refine List.Sublist.cons _ ?_))⟩)
end Go.Proofs.YtljgejbmimapdaaDoor
