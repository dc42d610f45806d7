/- Bits. -/
import Derived.Test.YtljgejbmimapdaaDoorC
set_option maxRecDepth 100000
set_option maxHeartbeats 4000000
set_option linter.unusedSimpArgs false
set_option linter.unusedVariables false
set_option linter.unusedSectionVars false
namespace Go.Proofs.YtljgejbmimapdaaDoor
open Go.RowKit

def maskOf (l : List Int) : BitVec 64 := l.foldl (fun m c => m ||| 1#64 <<< c.toNat) 0#64
theorem maskOf_take {l : List Int} {k : Nat} (h : k < l.length) : maskOf (l.take (k + 1)) = (maskOf (l.take k) ||| 1#64 <<< (nth l k).toNat) := by
  unfold maskOf
  rw [List.take_succ_eq_append_getElem h, nth_eq h, List.foldl_append]; rfl
def pop1 (a : BitVec 64) : BitVec 64 := ((a >>> 1) &&& 6148914691236517205#64) + (a &&& 6148914691236517205#64)
def pop2 (a : BitVec 64) : BitVec 64 := ((a >>> 2) &&& 3689348814741910323#64) + (a &&& 3689348814741910323#64)
def pop3 (a : BitVec 64) : BitVec 64 := ((a >>> 4) + a) &&& 1085102592571150095#64
def pop4 (k : Nat) (a : BitVec 64) : BitVec 64 := a + (a >>> k)
def pop64 (a : BitVec 64) : Nat := (pop4 32 (pop4 16 (pop4 8 (pop3 (pop2 (pop1 a))))) &&& 127#64).toNat
theorem pop64_le (a : BitVec 64) : pop64 a ≤ 127 := by
  unfold pop64; rw [BitVec.toNat_and]; exact Nat.and_le_right
theorem ofInt_wrap (b : BitVec 64) : BitVec.ofInt 64 (IntKind.i64.wrap (b.toNat : Int)) = b := by
  apply BitVec.eq_of_toNat_eq
  rw [BitVec.toNat_ofInt, IntKind.wrap_i64]
  have := b.isLt
  omega
section
variable {P : Program} {n : Nat} {B D : World} {M : Nat → Prop} {fs : SFs} {hs : HS} {o : Oper} {v : Value}
theorem Yv.convU {x : Operand} {a : BitVec 64} (ho : o.op = .convert 93 3 x) (hx : ev fs x = some (U a)) : Yv Tryd.prog n B M fs hs o (.int .i64 (IntKind.i64.wrap (a.toNat : Int))) := fun f w ha _ => by
  have hr : (convert 93 3 (U a)).run Tryd.prog w = .ok (.int .i64 (IntKind.i64.wrap (a.toNat : Int))) w := by kernel_rfl
  unfold execOp
  simp only [ho, ha.ev hx]
  rw [Sem.run_bind, hr]
  rfl
theorem Yv.and127 {x : Operand} {t u : TypeId} {a : BitVec 64} (ho : o.op = .binOp .and t x (.const (.int .i64 127)) u) (hx : ev fs x = some (.int .i64 (IntKind.i64.wrap (a.toNat : Int)))) : Yv P n B M fs hs o (.int .i64 ((a &&& 127#64).toNat : Int)) := fun f w ha _ => by
  have hr : (binOp .and t (.int .i64 (IntKind.i64.wrap (a.toNat : Int))) (.int .i64 127)).run P w = .ok (.int .i64 ((a &&& 127#64).toNat : Int)) w := by
    have e : (binOp .and t (.int .i64 (IntKind.i64.wrap (a.toNat : Int))) (.int .i64 127)).run P w = .ok (.int .i64 (IntKind.i64.wrap ((BitVec.ofInt 64 (IntKind.i64.wrap (a.toNat : Int)) &&& BitVec.ofInt 64 127).toNat : Int))) w := rfl
    have hle : (a &&& 127#64).toNat ≤ 127 := by rw [BitVec.toNat_and]; exact Nat.and_le_right
    rw [e, ofInt_wrap, show BitVec.ofInt 64 127 = 127#64 from rfl, IntWalk.i64_in _ ⟨by omega, by omega⟩]
  unfold execOp
  simp only [ho, ha.ev hx, ha.ev (x := .const (.int .i64 127)) rfl]
  rw [Sem.run_bind, Sem.run_bind, show (eqGuard .and t x (.const (.int .i64 127)) (.int .i64 (IntKind.i64.wrap (a.toNat : Int))) (.int .i64 127)).run P w = .ok () w from rfl]
  simp only [Result.andThen, hr]
  rfl
end

theorem ones_ret (a : BitVec 64) (w : World) : Calls Tryd.prog 48 #[U a] w fun e w' => e = .returned (.int .i64 (pop64 a : Int)) ∧ Below w.heap.size w w' := by
  refine calls_T (M := fun _ => False) (hs := []) Tryd.func48 rfl rfl rfl (Hp.refl _ _) ?_
  refine T.seq ?_
  refine T.region ?_
  refine TL.yv (Wt.none rfl) rfl rfl (Yv.pur rfl) ?_
  refine TL.nil ?_
  refine K.seq ?_
  refine T.seq ?_
  refine T.region ?_
  refine TL.yv (Wt.none rfl) rfl rfl (Yv.pur rfl) ?_
  refine TL.yv (Wt.none rfl) rfl rfl (Yv.shrV 1 rfl rfl rfl rfl (by decide)) ?_
  refine TL.yv (Wt.none rfl) rfl rfl (Yv.andV (b := 6148914691236517205#64) rfl rfl rfl) ?_
  refine TL.yv (Wt.none rfl) rfl rfl (Yv.pur rfl) ?_
  refine TL.yv (Wt.none rfl) rfl rfl (Yv.andV (b := 6148914691236517205#64) rfl rfl rfl) ?_
  refine TL.yv (Wt.none rfl) rfl rfl (Yv.addV rfl rfl rfl) ?_
  refine TL.yv (Wt.none rfl) rfl rfl (Yv.pur rfl) ?_
  refine TL.nil ?_
  refine K.seq ?_
  refine T.seq ?_
  refine T.region ?_
  refine TL.yv (Wt.none rfl) rfl rfl (Yv.pur rfl) ?_
  refine TL.yv (Wt.none rfl) rfl rfl (Yv.shrV 2 rfl rfl rfl rfl (by decide)) ?_
  refine TL.yv (Wt.none rfl) rfl rfl (Yv.andV (b := 3689348814741910323#64) rfl rfl rfl) ?_
  refine TL.yv (Wt.none rfl) rfl rfl (Yv.pur rfl) ?_
  refine TL.yv (Wt.none rfl) rfl rfl (Yv.andV (b := 3689348814741910323#64) rfl rfl rfl) ?_
  refine TL.yv (Wt.none rfl) rfl rfl (Yv.addV rfl rfl rfl) ?_
  refine TL.yv (Wt.none rfl) rfl rfl (Yv.pur rfl) ?_
  refine TL.nil ?_
  refine K.seq ?_
  refine T.seq ?_
  refine T.region ?_
  refine TL.yv (Wt.none rfl) rfl rfl (Yv.pur rfl) ?_
  refine TL.yv (Wt.none rfl) rfl rfl (Yv.shrV 4 rfl rfl rfl rfl (by decide)) ?_
  refine TL.yv (Wt.none rfl) rfl rfl (Yv.pur rfl) ?_
  refine TL.yv (Wt.none rfl) rfl rfl (Yv.addV rfl rfl rfl) ?_
  refine TL.yv (Wt.none rfl) rfl rfl (Yv.andV (b := 1085102592571150095#64) rfl rfl rfl) ?_
  refine TL.yv (Wt.none rfl) rfl rfl (Yv.pur rfl) ?_
  refine TL.nil ?_
  refine K.seq ?_
  refine T.seq ?_
  refine T.region ?_
  refine TL.yv (Wt.none rfl) rfl rfl (Yv.pur rfl) ?_
  refine TL.yv (Wt.none rfl) rfl rfl (Yv.pur rfl) ?_
  refine TL.yv (Wt.none rfl) rfl rfl (Yv.shrV 8 rfl rfl rfl rfl (by decide)) ?_
  refine TL.yv (Wt.none rfl) rfl rfl (Yv.addV rfl rfl rfl) ?_
  refine TL.yv (Wt.none rfl) rfl rfl (Yv.pur rfl) ?_
  refine TL.nil ?_
  refine K.seq ?_
  refine T.seq ?_
  refine T.region ?_
  refine TL.yv (Wt.none rfl) rfl rfl (Yv.pur rfl) ?_
  refine TL.yv (Wt.none rfl) rfl rfl (Yv.pur rfl) ?_
  refine TL.yv (Wt.none rfl) rfl rfl (Yv.shrV 16 rfl rfl rfl rfl (by decide)) ?_
  refine TL.yv (Wt.none rfl) rfl rfl (Yv.addV rfl rfl rfl) ?_
  refine TL.yv (Wt.none rfl) rfl rfl (Yv.pur rfl) ?_
  refine TL.nil ?_
  refine K.seq ?_
  refine T.seq ?_
  refine T.region ?_
  refine TL.yv (Wt.none rfl) rfl rfl (Yv.pur rfl) ?_
  refine TL.yv (Wt.none rfl) rfl rfl (Yv.pur rfl) ?_
  refine TL.yv (Wt.none rfl) rfl rfl (Yv.shrV 32 rfl rfl rfl rfl (by decide)) ?_
  refine TL.yv (Wt.none rfl) rfl rfl (Yv.addV rfl rfl rfl) ?_
  refine TL.yv (Wt.none rfl) rfl rfl (Yv.pur rfl) ?_
  refine TL.nil ?_
  refine K.seq ?_
  refine T.seq ?_
  refine T.region ?_
  refine TL.yv (Wt.none rfl) rfl rfl (Yv.pur rfl) ?_
  refine TL.yv (Wt.none rfl) rfl rfl (Yv.convU rfl rfl) ?_
  refine TL.yv (Wt.none rfl) rfl rfl (Yv.and127 rfl rfl) ?_
  refine TL.yv (Wt.none rfl) rfl rfl (Yv.pur rfl) ?_
  refine TL.nil ?_
  refine K.seq ?_
  refine T.ret ?_
  refine K.ret1 rfl rfl (fun w' hw => ⟨?_, hw.isBelow⟩)
  rfl
theorem tz_ret (a : BitVec 64) (ha : a ≠ 0#64) (w : World) (ht : Tab w) : Calls Tryd.prog 84 #[U a] w fun e w' => e = .returned (.int .i64 (ctz a : Int)) ∧ Below w.heap.size w w' := by
  obtain ⟨hi, htab⟩ := tz_tab ha
  have hcell := ht _ hi
  rw [htab] at hcell
  have hlt := ctz_lt ha
  refine calls_T (M := fun _ => False) (hs := []) Tryd.func84 rfl rfl rfl (Hp.refl _ _) ?_
  refine T.seq ?_
  refine T.region ?_
  refine TL.yv (Wt.none rfl) rfl rfl (Yv.pur rfl) ?_
  refine TL.nil ?_
  refine K.seq ?_
  refine T.seq ?_
  refine T.seq ?_
  refine T.region ?_
  refine TL.yv (Wt.none rfl) rfl rfl (Yv.pur rfl) ?_
  refine TL.yv (Wt.none rfl) rfl rfl (Yv.pur rfl) ?_
  refine TL.nil ?_
  refine K.seq ?_
  refine T.condF rfl (by rw [U_eq0]; exact decide_eq_false ha) ?_
  refine T.skip ?_
  refine K.seq ?_
  refine T.seq ?_
  refine T.region ?_
  refine TL.yv (Wt.none rfl) rfl rfl (Yv.pur rfl) ?_
  refine TL.yv (Wt.none rfl) rfl rfl (Yv.pur rfl) ?_
  refine TL.yv (Wt.none rfl) rfl rfl (Yv.negV rfl rfl) ?_
  refine TL.yv (Wt.none rfl) rfl rfl (Yv.andV rfl rfl rfl) ?_
  refine TL.yv (Wt.none rfl) rfl rfl (Yv.mulV (b := 285870213051353865#64) rfl rfl rfl) ?_
  refine TL.yv (Wt.none rfl) rfl rfl (Yv.shrV 58 rfl rfl rfl rfl (by decide)) ?_
  refine TL.yv (Wt.none rfl) rfl rfl (Yv.indexAr rfl rfl rfl rfl (by omega)) ?_
  refine TL.yv (Wt.none rfl) rfl rfl (Yv.loadB rfl rfl (by rw [show ∀ x : Nat, 0 + x * 1 = x from fun x => by omega]; exact hcell) (fun h => h)) ?_
  refine TL.yv (Wt.none rfl) rfl rfl (Yv.convI rfl rfl (by first | exact IntWalk.i64_in _ (by omega) | exact IntWalk.u64_in _ (by omega) | exact IntWalk.u8_in _ (by omega))) ?_
  refine TL.yv (Wt.none rfl) rfl rfl (Yv.pur rfl) ?_
  refine TL.nil ?_
  refine K.seq ?_
  refine T.ret ?_
  refine K.ret1 rfl rfl (fun w' hw => ⟨?_, hw.isBelow⟩)
  rfl
theorem mask_ret (l : List Int) (v : Value) (w : World) (h : IntsAt w v l) (hl : l.length ≤ 9223372036854775807) (hr : ∀ x ∈ l, 2 ≤ x ∧ x ≤ 51) : Calls Tryd.prog 44 #[v] w fun e w' => e = .returned (U (maskOf l)) ∧ Below w.heap.size w w' := by
  obtain ⟨A, cap, rfl, hsl⟩ := h.op
  refine calls_T (M := fun _ => False) (hs := []) Tryd.func44 rfl rfl rfl (Hp.refl _ _) ?_
  refine T.seq ?_
  refine T.region ?_
  refine TL.yv (Wt.none rfl) rfl rfl (Yv.pur rfl) ?_
  refine TL.nil ?_
  refine K.seq ?_
  refine T.seq ?_
  refine T.region ?_
  refine TL.yv (Wt.none rfl) rfl rfl (Yv.pur rfl) ?_
  refine TL.nil ?_
  refine K.seq ?_
  refine T.seq ?_
  refine T.seq ?_
  refine T.region ?_
  refine TL.yv (Wt.none rfl) rfl rfl (Yv.pur rfl) ?_
  refine TL.yv (Wt.none rfl) rfl rfl (Yv.lenSl rfl rfl) ?_
  refine TL.yv (Wt.none rfl) rfl rfl (Yv.pur rfl) ?_
  refine TL.nil ?_
  refine K.seq ?_
  refine T.block ?_
  refine T.loop (ι := Nat) (fun k => [(3, U (maskOf (l.take k))), (6, .slice A l.length cap), (7, .int .i64 (l.length : Int)), (8, .int .i64 (k : Int))]) (fun k => []) (fun k => k ≤ l.length) (fun k => l.length - k) 0 ?_ ?_ ?_ ?_
  · omega
  · exact (by repeat (first | exact Sub.nil | refine Sub.cons rfl ?_))
  · exact (by repeat (first | exact List.Sublist.refl _ | exact List.nil_sublist _ | refine List.Sublist.cons_cons _ ?_ | refine List.Sublist.cons _ ?_))
  · intro k hphi
    refine T.seq ?_
    refine T.region ?_
    refine TL.yv (Wt.none rfl) rfl rfl (Yv.pur rfl) ?_
    refine TL.nil ?_
    refine K.seq ?_
    refine T.seq ?_
    refine T.cond rfl (fun h1 => ?_) (fun h1 => ?_)
    · have p1 := h1
      try simp only [decide_eq_true_eq, decide_eq_false_iff_not, Int.not_lt, Int.not_le, Bool.not_eq_true', Bool.not_eq_false', Decidable.not_not, Bool.and_eq_true, Bool.or_eq_true, Bool.and_eq_false_iff, Bool.or_eq_false_iff] at p1
      obtain ⟨g, off, rfl, hc⟩ := hsl (by omega)
      have hk := hc k (by omega)
      simp only [Ie] at hk
      have hr1 := hr _ (nth_mem (xs := l) (k := k) (by omega))
      refine T.skip ?_
      refine K.seq ?_
      refine T.seq ?_
      refine T.block ?_
      refine T.seq ?_
      refine T.region ?_
      refine TL.yv (Wt.none rfl) rfl rfl (Yv.indexSl rfl rfl rfl rfl (by omega)) ?_
      refine TL.yv (Wt.none rfl) rfl rfl (Yv.loadC (j := 0) rfl rfl hk rfl rfl (fun h => h)) ?_
      refine TL.yv (Wt.none rfl) rfl rfl (Yv.pur rfl) ?_
      refine TL.nil ?_
      refine K.seq ?_
      refine T.region ?_
      refine TL.yv (Wt.none rfl) rfl rfl (Yv.pur rfl) ?_
      refine TL.yv (Wt.none rfl) rfl rfl (Yv.pur rfl) ?_
      refine TL.yv (Wt.none rfl) rfl rfl (Yv.shlV (a := 1#64) (nth l k).toNat rfl rfl rfl (by omega) (by omega)) ?_
      refine TL.yv (Wt.none rfl) rfl rfl (Yv.orV rfl rfl rfl) ?_
      refine TL.yv (Wt.none rfl) rfl rfl (Yv.pur rfl) ?_
      refine TL.nil ?_
      refine K.blk_normal ?_
      refine K.seq ?_
      refine T.region ?_
      refine TL.yv (Wt.none rfl) rfl rfl (Yv.addI rfl rfl rfl (by omega)) ?_
      refine TL.yv (Wt.none rfl) rfl rfl (Yv.pur rfl) ?_
      refine TL.nil ?_
      exact K.next (k + 1) (by omega) (by omega) (by rw [maskOf_take (by omega)]; exact (by repeat (first | exact Sub.nil | refine Sub.cons rfl ?_))) (by repeat (first | exact List.Sublist.refl _ | exact List.nil_sublist _ | refine List.Sublist.cons_cons _ ?_ | refine List.Sublist.cons _ ?_))
    · have p1 := h1
      try simp only [decide_eq_true_eq, decide_eq_false_iff_not, Int.not_lt, Int.not_le, Bool.not_eq_true', Bool.not_eq_false', Decidable.not_not, Bool.and_eq_true, Bool.or_eq_true, Bool.and_eq_false_iff, Bool.or_eq_false_iff] at p1
      refine T.exit ?_
      refine K.then_exit ?_
      refine K.then_exit ?_
      refine K.blk_exit_eq ?_
      refine K.seq ?_
      refine T.seq ?_
      refine T.region ?_
      refine TL.yv (Wt.none rfl) rfl rfl (Yv.pur rfl) ?_
      refine TL.yv (Wt.none rfl) rfl rfl (Yv.pur rfl) ?_
      refine TL.nil ?_
      refine K.seq ?_
      refine T.ret ?_
      exact K.ret1 rfl rfl (fun w' hw => ⟨by rw [List.take_of_length_le (by omega)], hw.isBelow⟩)
end Go.Proofs.YtljgejbmimapdaaDoor
