/- Parts of a state. -/
import Derived.Test.YtljgejbmimapdaaDoorM1
set_option maxRecDepth 100000
set_option maxHeartbeats 4000000
set_option linter.unusedSimpArgs false
set_option linter.unusedVariables false
set_option linter.unusedSectionVars false
namespace Go.Proofs.YtljgejbmimapdaaDoor
open Go.RowKit

section
variable {P : Program} {n : Nat} {B D : World} {M : Nat → Prop} {fs : SFs} {hs : HS} {o : Oper} {v : Value}
theorem Yv.binR {op : BinOp} {x y : Operand} {t u : TypeId} {a b : Value} (ho : o.op = .binOp op t x y u) (hx : ev fs x = some a) (hy : ev fs y = some b) (hr : ∀ w, (do eqGuard op t x y a b; binOp op t a b : Sem Value).run P w = .ok v w) : Yv P n B M fs hs o v := fun f w ha _ => by
  unfold execOp
  simp only [ho, ha.ev hx, ha.ev hy]
  rw [Sem.run_bind, hr w]
  rfl
end
theorem eq46s (x y : Operand) (a : Addr) (w : World) : (do eqGuard .eql 46 x y (.pointer (some a)) (.pointer none); binOp .eql 46 (.pointer (some a)) (.pointer none) : Sem Value).run Tryd.prog w = .ok (.bool false) w := by kernel_rfl
theorem eq46n (x y : Operand) (w : World) : (do eqGuard .eql 46 x y (.pointer none) (.pointer none); binOp .eql 46 (.pointer none) (.pointer none) : Sem Value).run Tryd.prog w = .ok (.bool true) w := by kernel_rfl
theorem eq66s (x y : Operand) (a : Addr) (w : World) : (do eqGuard .eql 66 x y (.pointer (some a)) (.pointer none); binOp .eql 66 (.pointer (some a)) (.pointer none) : Sem Value).run Tryd.prog w = .ok (.bool false) w := by kernel_rfl
theorem eq66n (x y : Operand) (w : World) : (do eqGuard .eql 66 x y (.pointer none) (.pointer none); binOp .eql 66 (.pointer none) (.pointer none) : Sem Value).run Tryd.prog w = .ok (.bool true) w := by kernel_rfl
def atF (Y : Tb) (s : Int) : Int × Bool := if s < 0 ∨ 512 ≤ s ∨ Y.ix s.toNat = 0 then (0, false) else (Y.ix s.toNat - 1, true)
def checkF (Y : Tb) (c : Bool) (x : Ch) : Int × Int :=
  if x.st < 0 ∨ 512 ≤ x.st ∨ x.ch < 2 ∨ 51 < x.ch then (0, 2) else if c = true then (0, 8) else if (atF Y x.st).2 = false then (0, 9) else ((atF Y x.st).1, 0)

theorem missing_ret (sp : Nat) (Y : Tb) (L : Ws) (c : Bool) (w : World) (h : StateAt w sp Y L c) : Calls Tryd.prog 46 #[.pointer (some ⟨sp, 0, none⟩)] w fun e w' => e = .returned (.bool false) ∧ Below w.heap.size w w' := by
  obtain ⟨tp, hsp0, hT⟩ := h.tb
  refine calls_T (M := fun _ => False) (hs := []) Tryd.func46 rfl rfl rfl (Hp.refl _ _) ?_
  refine T.seq ?_
  refine T.region ?_
  refine TL.yv (Wt.none rfl) rfl rfl (Yv.pur rfl) ?_
  refine TL.nil ?_
  refine K.seq ?_
  refine T.seq ?_
  refine T.region ?_
  refine TL.yv (Wt.none rfl) rfl rfl (Yv.pur rfl) ?_
  refine TL.yv (Wt.none rfl) rfl rfl (Yv.binR rfl rfl rfl (eq46s _ _ _)) ?_
  refine TL.yv (Wt.none rfl) rfl rfl (Yv.pur rfl) ?_
  refine TL.yv (Wt.some rfl rfl rfl rfl) rfl rfl (Yv.pur rfl) ?_
  refine TL.yv (Wt.some rfl rfl rfl rfl) rfl rfl (Yv.pur rfl) ?_
  refine TL.yv (Wt.some rfl rfl rfl rfl) rfl rfl (Yv.fieldAddr rfl rfl) ?_
  refine TL.yv (Wt.some rfl rfl rfl rfl) rfl rfl (Yv.loadB rfl rfl hsp0 (fun h => h)) ?_
  refine TL.yv (Wt.some rfl rfl rfl rfl) rfl rfl (Yv.binR rfl rfl rfl (eq66s _ _ _)) ?_
  refine TL.yv (Wt.none rfl) rfl rfl (Yv.pickF rfl rfl rfl rfl) ?_
  refine TL.yv (Wt.none rfl) rfl rfl (Yv.pur rfl) ?_
  refine TL.nil ?_
  refine K.seq ?_
  refine T.ret ?_
  refine K.ret1 rfl rfl (fun w' hw => ⟨?_, hw.isBelow⟩)
  rfl
theorem missing_nil (w : World) : Calls Tryd.prog 46 #[.pointer none] w fun e w' => e = .returned (.bool true) ∧ Below w.heap.size w w' := by
  refine calls_T (M := fun _ => False) (hs := []) Tryd.func46 rfl rfl rfl (Hp.refl _ _) ?_
  refine T.seq ?_
  refine T.region ?_
  refine TL.yv (Wt.none rfl) rfl rfl (Yv.pur rfl) ?_
  refine TL.nil ?_
  refine K.seq ?_
  refine T.seq ?_
  refine T.region ?_
  refine TL.yv (Wt.none rfl) rfl rfl (Yv.pur rfl) ?_
  refine TL.yv (Wt.none rfl) rfl rfl (Yv.binR rfl rfl rfl (eq46n _ _)) ?_
  refine TL.yv (Wt.none rfl) rfl rfl (Yv.pur rfl) ?_
  refine TL.off (Wt.not rfl rfl rfl rfl) rfl rfl ?_
  refine TL.off (Wt.not rfl rfl rfl rfl) rfl rfl ?_
  refine TL.off (Wt.not rfl rfl rfl rfl) rfl rfl ?_
  refine TL.off (Wt.not rfl rfl rfl rfl) rfl rfl ?_
  refine TL.off (Wt.not rfl rfl rfl rfl) rfl rfl ?_
  refine TL.yv (Wt.none rfl) rfl rfl (Yv.pickT rfl rfl rfl rfl) ?_
  refine TL.yv (Wt.none rfl) rfl rfl (Yv.pur rfl) ?_
  refine TL.nil ?_
  refine K.seq ?_
  refine T.ret ?_
  refine K.ret1 rfl rfl (fun w' hw => ⟨?_, hw.isBelow⟩)
  rfl
theorem missing_zero (sp : Nat) (w : World) (h : w.cell? ⟨sp, 0, none⟩ = some (.pointer none)) : Calls Tryd.prog 46 #[.pointer (some ⟨sp, 0, none⟩)] w fun e w' => e = .returned (.bool true) ∧ Below w.heap.size w w' := by
  refine calls_T (M := fun _ => False) (hs := []) Tryd.func46 rfl rfl rfl (Hp.refl _ _) ?_
  refine T.seq ?_
  refine T.region ?_
  refine TL.yv (Wt.none rfl) rfl rfl (Yv.pur rfl) ?_
  refine TL.nil ?_
  refine K.seq ?_
  refine T.seq ?_
  refine T.region ?_
  refine TL.yv (Wt.none rfl) rfl rfl (Yv.pur rfl) ?_
  refine TL.yv (Wt.none rfl) rfl rfl (Yv.binR rfl rfl rfl (eq46s _ _ _)) ?_
  refine TL.yv (Wt.none rfl) rfl rfl (Yv.pur rfl) ?_
  refine TL.yv (Wt.some rfl rfl rfl rfl) rfl rfl (Yv.pur rfl) ?_
  refine TL.yv (Wt.some rfl rfl rfl rfl) rfl rfl (Yv.pur rfl) ?_
  refine TL.yv (Wt.some rfl rfl rfl rfl) rfl rfl (Yv.fieldAddr rfl rfl) ?_
  refine TL.yv (Wt.some rfl rfl rfl rfl) rfl rfl (Yv.loadB rfl rfl h (fun h => h)) ?_
  refine TL.yv (Wt.some rfl rfl rfl rfl) rfl rfl (Yv.binR rfl rfl rfl (eq66n _ _)) ?_
  refine TL.yv (Wt.none rfl) rfl rfl (Yv.pickF rfl rfl rfl rfl) ?_
  refine TL.yv (Wt.none rfl) rfl rfl (Yv.pur rfl) ?_
  refine TL.nil ?_
  refine K.seq ?_
  refine T.ret ?_
  refine K.ret1 rfl rfl (fun w' hw => ⟨?_, hw.isBelow⟩)
  rfl
theorem conflict_ret (sp : Nat) (Y : Tb) (L : Ws) (c : Bool) (w : World) (h : StateAt w sp Y L c) : Calls Tryd.prog 19 #[.pointer (some ⟨sp, 0, none⟩)] w fun e w' => e = .returned (.bool c) ∧ Below w.heap.size w w' := by
  refine calls_T (M := fun _ => False) (hs := []) Tryd.func19 rfl rfl rfl (Hp.refl _ _) ?_
  refine T.seq ?_
  refine T.region ?_
  refine TL.yv (Wt.none rfl) rfl rfl (Yv.pur rfl) ?_
  refine TL.nil ?_
  refine K.seq ?_
  refine T.seq ?_
  refine T.region ?_
  refine TL.yv (Wt.none rfl) rfl rfl (Yv.pur rfl) ?_
  (refine TL.ew (Wt.none rfl) rfl rfl (Ew.callD rfl rfl rfl (fun w hw => missing_ret sp Y L c w (h.kept hw))) ?_; rintro _ _ ⟨rfl, rfl⟩)
  refine TL.yv (Wt.none rfl) rfl rfl (Yv.pur rfl) ?_
  refine TL.yv (Wt.none rfl) rfl rfl (Yv.pur rfl) ?_
  refine TL.yv (Wt.some rfl rfl rfl rfl) rfl rfl (Yv.pur rfl) ?_
  refine TL.yv (Wt.some rfl rfl rfl rfl) rfl rfl (Yv.pur rfl) ?_
  refine TL.yv (Wt.some rfl rfl rfl rfl) rfl rfl (Yv.fieldAddr rfl rfl) ?_
  refine TL.yv (Wt.some rfl rfl rfl rfl) rfl rfl (Yv.loadB rfl rfl h.con (fun h => h)) ?_
  refine TL.yv (Wt.none rfl) rfl rfl (Yv.pickT rfl rfl rfl rfl) ?_
  refine TL.yv (Wt.none rfl) rfl rfl (Yv.pur rfl) ?_
  refine TL.nil ?_
  refine K.seq ?_
  refine T.ret ?_
  refine K.ret1 rfl rfl (fun w' hw => ⟨?_, hw.isBelow⟩)
  rfl
theorem at_ret (tp : Nat) (Y : Tb) (s : Int) (w : World) (hT : TablesAt w tp Y) (hix : ∀ j, 0 ≤ Y.ix j ∧ Y.ix j ≤ 512) : Calls Tryd.prog 36 #[.pointer (some ⟨tp, 0, none⟩), .int .i64 s] w fun e w' => e = .returned (.tuple #[.int .i64 (atF Y s).1, .bool (atF Y s).2]) ∧ Below w.heap.size w w' := by
  refine calls_T (M := fun _ => False) (hs := []) Tryd.func36 rfl rfl rfl (Hp.refl _ _) ?_
  refine T.seq ?_
  refine T.region ?_
  refine TL.yv (Wt.none rfl) rfl rfl (Yv.pur rfl) ?_
  refine TL.yv (Wt.none rfl) rfl rfl (Yv.pur rfl) ?_
  refine TL.nil ?_
  refine K.seq ?_
  refine T.seq ?_
  refine T.seq ?_
  refine T.region ?_
  refine TL.yv (Wt.none rfl) rfl rfl (Yv.pur rfl) ?_
  refine TL.yv (Wt.none rfl) rfl rfl (Yv.pur rfl) ?_
  refine TL.yv (Wt.none rfl) rfl rfl (Yv.pur rfl) ?_
  refine TL.gsplit rfl rfl rfl (fun h1 => ?_) (fun h1 => ?_)
  · have p1 := h1
    try simp only [decide_eq_true_eq, decide_eq_false_iff_not, Int.not_lt, Int.not_le, Bool.not_eq_true', Bool.not_eq_false', Decidable.not_not, Bool.and_eq_true, Bool.or_eq_true, Bool.and_eq_false_iff, Bool.or_eq_false_iff] at p1
    refine TL.off (Wt.not rfl rfl rfl h1) rfl rfl ?_
    refine TL.off (Wt.not rfl rfl rfl h1) rfl rfl ?_
    refine TL.yv (Wt.none rfl) rfl rfl (Yv.pickT rfl rfl h1 rfl) ?_
    refine TL.yv (Wt.none rfl) rfl rfl (Yv.pur rfl) ?_
    try have hcx := hT.ix s.toNat (by omega)
    have hx512 := hix s.toNat
    refine TL.off (Wt.not rfl rfl rfl rfl) rfl rfl ?_
    refine TL.off (Wt.not rfl rfl rfl rfl) rfl rfl ?_
    refine TL.off (Wt.not rfl rfl rfl rfl) rfl rfl ?_
    refine TL.off (Wt.not rfl rfl rfl rfl) rfl rfl ?_
    refine TL.off (Wt.not rfl rfl rfl rfl) rfl rfl ?_
    refine TL.off (Wt.not rfl rfl rfl rfl) rfl rfl ?_
    refine TL.off (Wt.not rfl rfl rfl rfl) rfl rfl ?_
    refine TL.yv (Wt.none rfl) rfl rfl (Yv.pickT rfl rfl rfl rfl) ?_
    refine TL.nil ?_
    refine K.seq ?_
    refine T.condT rfl rfl ?_
    refine T.seq ?_
    refine T.region ?_
    refine TL.yv (Wt.none rfl) rfl rfl (Yv.pur rfl) ?_
    refine TL.yv (Wt.none rfl) rfl rfl (Yv.pur rfl) ?_
    refine TL.nil ?_
    refine K.seq ?_
    refine T.ret ?_
    refine K.then_ret ?_
    refine K.ret2 rfl rfl rfl (fun w' hw => ⟨?_, hw.isBelow⟩)
    (rw [show atF Y s = (0, false) from if_pos (by omega)]; done)
  · have p1 := h1
    try simp only [decide_eq_true_eq, decide_eq_false_iff_not, Int.not_lt, Int.not_le, Bool.not_eq_true', Bool.not_eq_false', Decidable.not_not, Bool.and_eq_true, Bool.or_eq_true, Bool.and_eq_false_iff, Bool.or_eq_false_iff] at p1
    refine TL.yv (Wt.some rfl rfl rfl h1) rfl rfl (Yv.pur rfl) ?_
    refine TL.yv (Wt.some rfl rfl rfl h1) rfl rfl (Yv.pur rfl) ?_
    refine TL.yv (Wt.none rfl) rfl rfl (Yv.pickF rfl rfl h1 rfl) ?_
    refine TL.yv (Wt.none rfl) rfl rfl (Yv.pur rfl) ?_
    refine TL.gsplit rfl rfl rfl (fun h2 => ?_) (fun h2 => ?_)
    · have p2 := h2
      try simp only [decide_eq_true_eq, decide_eq_false_iff_not, Int.not_lt, Int.not_le, Bool.not_eq_true', Bool.not_eq_false', Decidable.not_not, Bool.and_eq_true, Bool.or_eq_true, Bool.and_eq_false_iff, Bool.or_eq_false_iff] at p2
      try have hcx := hT.ix s.toNat (by omega)
      have hx512 := hix s.toNat
      refine TL.off (Wt.not rfl rfl rfl h2) rfl rfl ?_
      refine TL.off (Wt.not rfl rfl rfl h2) rfl rfl ?_
      refine TL.off (Wt.not rfl rfl rfl h2) rfl rfl ?_
      refine TL.off (Wt.not rfl rfl rfl h2) rfl rfl ?_
      refine TL.off (Wt.not rfl rfl rfl h2) rfl rfl ?_
      refine TL.off (Wt.not rfl rfl rfl h2) rfl rfl ?_
      refine TL.off (Wt.not rfl rfl rfl h2) rfl rfl ?_
      refine TL.yv (Wt.none rfl) rfl rfl (Yv.pickT rfl rfl h2 rfl) ?_
      refine TL.nil ?_
      refine K.seq ?_
      refine T.condT rfl rfl ?_
      refine T.seq ?_
      refine T.region ?_
      refine TL.yv (Wt.none rfl) rfl rfl (Yv.pur rfl) ?_
      refine TL.yv (Wt.none rfl) rfl rfl (Yv.pur rfl) ?_
      refine TL.nil ?_
      refine K.seq ?_
      refine T.ret ?_
      refine K.then_ret ?_
      refine K.ret2 rfl rfl rfl (fun w' hw => ⟨?_, hw.isBelow⟩)
      (rw [show atF Y s = (0, false) from if_pos (by omega)]; done)
    · have p2 := h2
      try simp only [decide_eq_true_eq, decide_eq_false_iff_not, Int.not_lt, Int.not_le, Bool.not_eq_true', Bool.not_eq_false', Decidable.not_not, Bool.and_eq_true, Bool.or_eq_true, Bool.and_eq_false_iff, Bool.or_eq_false_iff] at p2
      try have hcx := hT.ix s.toNat (by omega)
      have hx512 := hix s.toNat
      refine TL.yv (Wt.some rfl rfl rfl h2) rfl rfl (Yv.pur rfl) ?_
      refine TL.yv (Wt.some rfl rfl rfl h2) rfl rfl (Yv.pur rfl) ?_
      refine TL.yv (Wt.some rfl rfl rfl h2) rfl rfl (Yv.pur rfl) ?_
      refine TL.yv (Wt.some rfl rfl rfl h2) rfl rfl (Yv.fieldAddr rfl rfl) ?_
      refine TL.yv (Wt.some rfl rfl rfl h2) rfl rfl (Yv.indexAr rfl rfl rfl (show s = ((s.toNat : Nat) : Int) from by omega) (by omega)) ?_
      refine TL.yv (Wt.some rfl rfl rfl h2) rfl rfl (Yv.loadB rfl rfl (by rw [show 0 + 1 + s.toNat * 1 = 1 + s.toNat from by omega]; exact hcx) (fun h => h)) ?_
      refine TL.yv (Wt.some rfl rfl rfl h2) rfl rfl (Yv.pur rfl) ?_
      refine TL.yv (Wt.none rfl) rfl rfl (Yv.pickF rfl rfl h2 rfl) ?_
      refine TL.nil ?_
      refine K.seq ?_
      refine T.cond rfl (fun h3 => ?_) (fun h3 => ?_)
      · have p3 := h3
        try simp only [decide_eq_true_eq, decide_eq_false_iff_not, Int.not_lt, Int.not_le, Bool.not_eq_true', Bool.not_eq_false', Decidable.not_not, Bool.and_eq_true, Bool.or_eq_true, Bool.and_eq_false_iff, Bool.or_eq_false_iff] at p3
        refine T.seq ?_
        refine T.region ?_
        refine TL.yv (Wt.none rfl) rfl rfl (Yv.pur rfl) ?_
        refine TL.yv (Wt.none rfl) rfl rfl (Yv.pur rfl) ?_
        refine TL.nil ?_
        refine K.seq ?_
        refine T.ret ?_
        refine K.then_ret ?_
        refine K.ret2 rfl rfl rfl (fun w' hw => ⟨?_, hw.isBelow⟩)
        (rw [show atF Y s = (0, false) from if_pos (by omega)]; done)
      · have p3 := h3
        try simp only [decide_eq_true_eq, decide_eq_false_iff_not, Int.not_lt, Int.not_le, Bool.not_eq_true', Bool.not_eq_false', Decidable.not_not, Bool.and_eq_true, Bool.or_eq_true, Bool.and_eq_false_iff, Bool.or_eq_false_iff] at p3
        refine T.skip ?_
        refine K.seq ?_
        refine T.seq ?_
        refine T.region ?_
        refine TL.yv (Wt.none rfl) rfl rfl (Yv.pur rfl) ?_
        refine TL.yv (Wt.none rfl) rfl rfl (Yv.pur rfl) ?_
        refine TL.yv (Wt.none rfl) rfl rfl (Yv.pur rfl) ?_
        refine TL.yv (Wt.none rfl) rfl rfl (Yv.fieldAddr rfl rfl) ?_
        refine TL.yv (Wt.none rfl) rfl rfl (Yv.indexAr rfl rfl rfl (show s = ((s.toNat : Nat) : Int) from by omega) (by omega)) ?_
        refine TL.yv (Wt.none rfl) rfl rfl (Yv.loadB rfl rfl (by rw [show 0 + 1 + s.toNat * 1 = 1 + s.toNat from by omega]; exact hcx) (fun h => h)) ?_
        refine TL.yv (Wt.none rfl) rfl rfl (Yv.subI rfl rfl rfl (by omega)) ?_
        refine TL.yv (Wt.none rfl) rfl rfl (Yv.pur rfl) ?_
        refine TL.yv (Wt.none rfl) rfl rfl (Yv.pur rfl) ?_
        refine TL.nil ?_
        refine K.seq ?_
        refine T.ret ?_
        refine K.ret2 rfl rfl rfl (fun w' hw => ⟨?_, hw.isBelow⟩)
        (rw [show atF Y s = (Y.ix s.toNat - 1, true) from if_neg (by omega)]; done)
end Go.Proofs.YtljgejbmimapdaaDoor
