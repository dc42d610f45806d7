/- Assuming and forbidding; what a state shows. -/
import Derived.Test.YtljgejbmimapdaaDoorM3
set_option maxRecDepth 100000
set_option maxHeartbeats 4000000
set_option linter.unusedSimpArgs false
set_option linter.unusedVariables false
set_option linter.unusedSectionVars false
namespace Go.Proofs.YtljgejbmimapdaaDoor
open Go.RowKit

theorem at_facts {Y : Tb} (hix : ∀ j, 0 ≤ Y.ix j ∧ Y.ix j ≤ Y.n) {s : Int} (h : (atF Y s).2 = true) : 0 ≤ (atF Y s).1 ∧ (atF Y s).1 < Y.n := by
  unfold atF at h ⊢
  split
  · rename_i hh; rw [if_pos hh] at h; cases h
  · have := hix s.toNat; simp only; omega
theorem check_facts {Y : Tb} {c : Bool} (hix : ∀ j, 0 ≤ Y.ix j ∧ Y.ix j ≤ Y.n) {x : Ch} (h : (checkF Y c x).2 = 0) : 0 ≤ (checkF Y c x).1 ∧ (checkF Y c x).1 < Y.n ∧ 2 ≤ x.ch ∧ x.ch ≤ 51 := by
  unfold checkF at h ⊢
  split
  · rename_i hh; rw [if_pos hh] at h; cases h
  · rename_i hh; rw [if_neg hh] at h
    split
    · rename_i h2; rw [if_pos h2] at h; cases h
    · rename_i h2; rw [if_neg h2] at h
      split
      · rename_i h3; rw [if_pos h3] at h; cases h
      · rename_i h3
        have := at_facts hix (s := x.st) (by simpa using h3)
        simp only; omega
theorem Tb.ix512 {Y : Tb} (hok : Y.Ok) (hix : ∀ j, 0 ≤ Y.ix j ∧ Y.ix j ≤ Y.n) : ∀ j, 0 ≤ Y.ix j ∧ Y.ix j ≤ 512 := fun j => by have := hix j; have := hok.n; omega

theorem assume_err (sp : Nat) (Y : Tb) (L : Ws) (c : Bool) (x : Ch) (w : World) (h : StateAt w sp Y L c) (hix : ∀ j, 0 ≤ Y.ix j ∧ Y.ix j ≤ 512) (he : (checkF Y c x).2 ≠ 0) : Calls Tryd.prog 29 #[.pointer (some ⟨sp, 0, none⟩), .agg (Ch.cells x).toArray] w fun e w' => e = .returned (.int .i64 (checkF Y c x).2) ∧ Below w.heap.size w w' := by
  refine calls_T (M := fun _ => False) (hs := []) Tryd.func29 rfl rfl rfl (Hp.refl _ _) ?_
  simp only [Ch.cells]
  refine T.seq ?_
  refine T.region ?_
  (refine TL.ew (Wt.none rfl) rfl rfl (Ew.boxA rfl rfl) ?_; rintro _ _ ⟨g3, rfl, rfl⟩)
  refine TL.yv (Wt.none rfl) rfl rfl (Yv.pur rfl) ?_
  refine TL.nil ?_
  refine K.seq ?_
  refine T.seq ?_
  refine T.region ?_
  refine TL.yv (Wt.none rfl) rfl rfl (Yv.pur rfl) ?_
  refine TL.yv (Wt.none rfl) rfl rfl (Yv.loadAO 0 rfl rfl rfl rfl) ?_
  (refine TL.ew (Wt.none rfl) rfl rfl (Ew.callD rfl rfl rfl (fun w hw => check_ret sp Y L c x w (h.kept hw) hix)) ?_; rintro _ _ ⟨rfl, rfl⟩)
  refine TL.yv (Wt.none rfl) rfl rfl (Yv.pur rfl) ?_
  refine TL.yv (Wt.none rfl) rfl rfl (Yv.pur rfl) ?_
  refine TL.yv (Wt.none rfl) rfl rfl (Yv.pur rfl) ?_
  refine TL.yv (Wt.none rfl) rfl rfl (Yv.pur rfl) ?_
  refine TL.yv (Wt.none rfl) rfl rfl (Yv.pur rfl) ?_
  refine TL.nil ?_
  refine K.seq ?_
  refine T.seq ?_
  refine T.seq ?_
  refine T.region ?_
  refine TL.yv (Wt.none rfl) rfl rfl (Yv.pur rfl) ?_
  refine TL.yv (Wt.none rfl) rfl rfl (Yv.pur rfl) ?_
  refine TL.nil ?_
  refine K.seq ?_
  refine T.condF rfl (decide_eq_false he) ?_
  refine T.skip ?_
  refine K.seq ?_
  refine T.seq ?_
  refine T.region ?_
  refine TL.yv (Wt.none rfl) rfl rfl (Yv.pur rfl) ?_
  refine TL.yv (Wt.none rfl) rfl rfl (Yv.pur rfl) ?_
  refine TL.nil ?_
  refine K.seq ?_
  refine T.ret ?_
  refine K.ret1 rfl rfl (fun w' hw => ⟨?_, hw.isBelow⟩)
  rfl
theorem assume_ok (w0 : World) (sp gl tp : Nat) (Y : Tb) (L : Ws) (w : World) (ht : TablesAt w0 tp Y) (hok : Y.Ok) (hfr : Fz w0 w) (htab : Tab w) (hes : Hp w (fps [sRow sp gl tp Y.n false, sLeft gl Y.n L]) [sRow sp gl tp Y.n false, sLeft gl Y.n L] w) (hMN : ∀ g, fps [sRow sp gl tp Y.n false, sLeft gl Y.n L] g → ¬ IsC w0 g) (hM0 : ¬ fps [sRow sp gl tp Y.n false, sLeft gl Y.n L] 0) (hl : L.length = Y.n) (hcalm : ∀ k, k < Y.n → Calm1 Y L k) (hix : ∀ j, 0 ≤ Y.ix j ∧ Y.ix j ≤ Y.n) (x : Ch) (he : (checkF Y false x).2 = 0) : Calls Tryd.prog 29 #[.pointer (some ⟨sp, 0, none⟩), .agg (Ch.cells x).toArray] w fun e w' => ∃ y : Ws × Bool, SPost Y (cutL L (checkF Y false x).1.toNat (~~~(1#64 <<< x.ch.toNat))) y.1 y.2 ∧ e = .returned (.int .i64 0) ∧ Hp w (fps [sRow sp gl tp Y.n false, sLeft gl Y.n L]) [sRow sp gl tp Y.n y.2, sLeft gl Y.n y.1] w' := by
  obtain ⟨hc1, hc2, hc3, hc4⟩ := check_facts hix he
  refine calls_T (M := fps [sRow sp gl tp Y.n false, sLeft gl Y.n L]) (hs := [sRow sp gl tp Y.n false, sLeft gl Y.n L]) Tryd.func29 rfl rfl rfl hes ?_
  simp only [Ch.cells]
  refine T.seq ?_
  refine T.region ?_
  (refine TL.ew (Wt.none rfl) rfl rfl (Ew.boxA rfl rfl) ?_; rintro _ _ ⟨g3, rfl, rfl⟩)
  refine TL.yv (Wt.none rfl) rfl rfl (Yv.pur rfl) ?_
  refine TL.nil ?_
  refine K.seq ?_
  refine T.seq ?_
  refine T.region ?_
  refine TL.yv (Wt.none rfl) rfl rfl (Yv.pur rfl) ?_
  refine TL.yv (Wt.none rfl) rfl rfl (Yv.loadAO 0 rfl rfl rfl rfl) ?_
  (refine TL.ew (Wt.none rfl) rfl rfl (Ew.callD rfl rfl rfl (fun w hw => check_ret sp Y L false x w (StF.of hw ht (Fz.hp hfr hw hMN) (htab.kept hw hM0) 1 2 rfl rfl hl).st (Y.ix512 hok hix))) ?_; rintro _ _ ⟨rfl, rfl⟩)
  refine TL.yv (Wt.none rfl) rfl rfl (Yv.pur rfl) ?_
  refine TL.yv (Wt.none rfl) rfl rfl (Yv.pur rfl) ?_
  refine TL.yv (Wt.none rfl) rfl rfl (Yv.pur rfl) ?_
  refine TL.yv (Wt.none rfl) rfl rfl (Yv.pur rfl) ?_
  refine TL.yv (Wt.none rfl) rfl rfl (Yv.pur rfl) ?_
  refine TL.nil ?_
  refine K.seq ?_
  refine T.seq ?_
  refine T.seq ?_
  refine T.region ?_
  refine TL.yv (Wt.none rfl) rfl rfl (Yv.pur rfl) ?_
  refine TL.yv (Wt.none rfl) rfl rfl (Yv.pur rfl) ?_
  refine TL.nil ?_
  refine K.seq ?_
  refine T.condT rfl (decide_eq_true he) ?_
  refine T.region ?_
  refine TL.yv (Wt.none rfl) rfl rfl (Yv.pur rfl) ?_
  refine TL.yv (Wt.none rfl) rfl rfl (Yv.pur rfl) ?_
  refine TL.yv (Wt.none rfl) rfl rfl (Yv.fieldAddr rfl rfl) ?_
  refine TL.yv (Wt.none rfl) rfl rfl (Yv.loadO 0 rfl rfl rfl rfl) ?_
  refine TL.yv (Wt.none rfl) rfl rfl (Yv.shlV (a := 1#64) x.ch.toNat rfl rfl rfl (by omega) (by omega)) ?_
  refine TL.yv (Wt.none rfl) rfl rfl (Yv.complV rfl rfl) ?_
  (refine TL.ew (Wt.none rfl) rfl rfl (Ew.callL [sRow sp gl tp Y.n false, sLeft gl Y.n L] [Ent.row g3 40 [.int .i64 x.st, .int .i64 x.ch]] rfl rfl rfl (List.perm_append_comm (l₁ := [Ent.row g3 40 [.int .i64 x.st, .int .i64 x.ch]])) (fun w hw hw2 => cut_ret w0 sp gl tp Y L w ht hok (Fz.hp hfr hw hMN) (htab.kept hw hM0) hw2.part (fun g hg => cutMN hfr hw2 hMN g hg) (fun hg => cutM0 htab hw2 hM0 hg) hl hcalm (checkF Y false x).1.toNat _ (by omega) (by omega) (~~~(1#64 <<< x.ch.toNat)))) ?_; rintro _ _ ⟨y, hpost, rfl, rfl⟩)
  dsimp only [List.cons_append, List.nil_append]
  refine TL.nil ?_
  refine K.seq ?_
  refine T.seq ?_
  refine T.region ?_
  refine TL.yv (Wt.none rfl) rfl rfl (Yv.pur rfl) ?_
  refine TL.yv (Wt.none rfl) rfl rfl (Yv.pur rfl) ?_
  refine TL.nil ?_
  refine K.seq ?_
  refine T.ret ?_
  exact K.ret1 rfl rfl (fun w' hw => ⟨y, hpost, by rw [he], hw.sub (by repeat (first | exact List.Sublist.refl _ | exact List.nil_sublist _ | refine List.Sublist.cons_cons _ ?_ | refine List.Sublist.cons _ ?_))⟩)
theorem forbid_err (sp : Nat) (Y : Tb) (L : Ws) (c : Bool) (x : Ch) (w : World) (h : StateAt w sp Y L c) (hix : ∀ j, 0 ≤ Y.ix j ∧ Y.ix j ≤ 512) (he : (checkF Y c x).2 ≠ 0) : Calls Tryd.prog 30 #[.pointer (some ⟨sp, 0, none⟩), .agg (Ch.cells x).toArray] w fun e w' => e = .returned (.int .i64 (checkF Y c x).2) ∧ Below w.heap.size w w' := by
  refine calls_T (M := fun _ => False) (hs := []) Tryd.func30 rfl rfl rfl (Hp.refl _ _) ?_
  simp only [Ch.cells]
  refine T.seq ?_
  refine T.region ?_
  (refine TL.ew (Wt.none rfl) rfl rfl (Ew.boxA rfl rfl) ?_; rintro _ _ ⟨g3, rfl, rfl⟩)
  refine TL.yv (Wt.none rfl) rfl rfl (Yv.pur rfl) ?_
  refine TL.nil ?_
  refine K.seq ?_
  refine T.seq ?_
  refine T.region ?_
  refine TL.yv (Wt.none rfl) rfl rfl (Yv.pur rfl) ?_
  refine TL.yv (Wt.none rfl) rfl rfl (Yv.loadAO 0 rfl rfl rfl rfl) ?_
  (refine TL.ew (Wt.none rfl) rfl rfl (Ew.callD rfl rfl rfl (fun w hw => check_ret sp Y L c x w (h.kept hw) hix)) ?_; rintro _ _ ⟨rfl, rfl⟩)
  refine TL.yv (Wt.none rfl) rfl rfl (Yv.pur rfl) ?_
  refine TL.yv (Wt.none rfl) rfl rfl (Yv.pur rfl) ?_
  refine TL.yv (Wt.none rfl) rfl rfl (Yv.pur rfl) ?_
  refine TL.yv (Wt.none rfl) rfl rfl (Yv.pur rfl) ?_
  refine TL.yv (Wt.none rfl) rfl rfl (Yv.pur rfl) ?_
  refine TL.nil ?_
  refine K.seq ?_
  refine T.seq ?_
  refine T.seq ?_
  refine T.region ?_
  refine TL.yv (Wt.none rfl) rfl rfl (Yv.pur rfl) ?_
  refine TL.yv (Wt.none rfl) rfl rfl (Yv.pur rfl) ?_
  refine TL.nil ?_
  refine K.seq ?_
  refine T.condF rfl (decide_eq_false he) ?_
  refine T.skip ?_
  refine K.seq ?_
  refine T.seq ?_
  refine T.region ?_
  refine TL.yv (Wt.none rfl) rfl rfl (Yv.pur rfl) ?_
  refine TL.yv (Wt.none rfl) rfl rfl (Yv.pur rfl) ?_
  refine TL.nil ?_
  refine K.seq ?_
  refine T.ret ?_
  refine K.ret1 rfl rfl (fun w' hw => ⟨?_, hw.isBelow⟩)
  rfl
theorem forbid_ok (w0 : World) (sp gl tp : Nat) (Y : Tb) (L : Ws) (w : World) (ht : TablesAt w0 tp Y) (hok : Y.Ok) (hfr : Fz w0 w) (htab : Tab w) (hes : Hp w (fps [sRow sp gl tp Y.n false, sLeft gl Y.n L]) [sRow sp gl tp Y.n false, sLeft gl Y.n L] w) (hMN : ∀ g, fps [sRow sp gl tp Y.n false, sLeft gl Y.n L] g → ¬ IsC w0 g) (hM0 : ¬ fps [sRow sp gl tp Y.n false, sLeft gl Y.n L] 0) (hl : L.length = Y.n) (hcalm : ∀ k, k < Y.n → Calm1 Y L k) (hix : ∀ j, 0 ≤ Y.ix j ∧ Y.ix j ≤ Y.n) (x : Ch) (he : (checkF Y false x).2 = 0) : Calls Tryd.prog 30 #[.pointer (some ⟨sp, 0, none⟩), .agg (Ch.cells x).toArray] w fun e w' => ∃ y : Ws × Bool, SPost Y (cutL L (checkF Y false x).1.toNat (1#64 <<< x.ch.toNat)) y.1 y.2 ∧ e = .returned (.int .i64 0) ∧ Hp w (fps [sRow sp gl tp Y.n false, sLeft gl Y.n L]) [sRow sp gl tp Y.n y.2, sLeft gl Y.n y.1] w' := by
  obtain ⟨hc1, hc2, hc3, hc4⟩ := check_facts hix he
  refine calls_T (M := fps [sRow sp gl tp Y.n false, sLeft gl Y.n L]) (hs := [sRow sp gl tp Y.n false, sLeft gl Y.n L]) Tryd.func30 rfl rfl rfl hes ?_
  simp only [Ch.cells]
  refine T.seq ?_
  refine T.region ?_
  (refine TL.ew (Wt.none rfl) rfl rfl (Ew.boxA rfl rfl) ?_; rintro _ _ ⟨g3, rfl, rfl⟩)
  refine TL.yv (Wt.none rfl) rfl rfl (Yv.pur rfl) ?_
  refine TL.nil ?_
  refine K.seq ?_
  refine T.seq ?_
  refine T.region ?_
  refine TL.yv (Wt.none rfl) rfl rfl (Yv.pur rfl) ?_
  refine TL.yv (Wt.none rfl) rfl rfl (Yv.loadAO 0 rfl rfl rfl rfl) ?_
  (refine TL.ew (Wt.none rfl) rfl rfl (Ew.callD rfl rfl rfl (fun w hw => check_ret sp Y L false x w (StF.of hw ht (Fz.hp hfr hw hMN) (htab.kept hw hM0) 1 2 rfl rfl hl).st (Y.ix512 hok hix))) ?_; rintro _ _ ⟨rfl, rfl⟩)
  refine TL.yv (Wt.none rfl) rfl rfl (Yv.pur rfl) ?_
  refine TL.yv (Wt.none rfl) rfl rfl (Yv.pur rfl) ?_
  refine TL.yv (Wt.none rfl) rfl rfl (Yv.pur rfl) ?_
  refine TL.yv (Wt.none rfl) rfl rfl (Yv.pur rfl) ?_
  refine TL.yv (Wt.none rfl) rfl rfl (Yv.pur rfl) ?_
  refine TL.nil ?_
  refine K.seq ?_
  refine T.seq ?_
  refine T.seq ?_
  refine T.region ?_
  refine TL.yv (Wt.none rfl) rfl rfl (Yv.pur rfl) ?_
  refine TL.yv (Wt.none rfl) rfl rfl (Yv.pur rfl) ?_
  refine TL.nil ?_
  refine K.seq ?_
  refine T.condT rfl (decide_eq_true he) ?_
  refine T.region ?_
  refine TL.yv (Wt.none rfl) rfl rfl (Yv.pur rfl) ?_
  refine TL.yv (Wt.none rfl) rfl rfl (Yv.pur rfl) ?_
  refine TL.yv (Wt.none rfl) rfl rfl (Yv.fieldAddr rfl rfl) ?_
  refine TL.yv (Wt.none rfl) rfl rfl (Yv.loadO 0 rfl rfl rfl rfl) ?_
  refine TL.yv (Wt.none rfl) rfl rfl (Yv.shlV (a := 1#64) x.ch.toNat rfl rfl rfl (by omega) (by omega)) ?_
  (refine TL.ew (Wt.none rfl) rfl rfl (Ew.callL [sRow sp gl tp Y.n false, sLeft gl Y.n L] [Ent.row g3 40 [.int .i64 x.st, .int .i64 x.ch]] rfl rfl rfl (List.perm_append_comm (l₁ := [Ent.row g3 40 [.int .i64 x.st, .int .i64 x.ch]])) (fun w hw hw2 => cut_ret w0 sp gl tp Y L w ht hok (Fz.hp hfr hw hMN) (htab.kept hw hM0) hw2.part (fun g hg => cutMN hfr hw2 hMN g hg) (fun hg => cutM0 htab hw2 hM0 hg) hl hcalm (checkF Y false x).1.toNat _ (by omega) (by omega) (1#64 <<< x.ch.toNat))) ?_; rintro _ _ ⟨y, hpost, rfl, rfl⟩)
  dsimp only [List.cons_append, List.nil_append]
  refine TL.nil ?_
  refine K.seq ?_
  refine T.seq ?_
  refine T.region ?_
  refine TL.yv (Wt.none rfl) rfl rfl (Yv.pur rfl) ?_
  refine TL.yv (Wt.none rfl) rfl rfl (Yv.pur rfl) ?_
  refine TL.nil ?_
  refine K.seq ?_
  refine T.ret ?_
  exact K.ret1 rfl rfl (fun w' hw => ⟨y, hpost, by rw [he], hw.sub (by repeat (first | exact List.Sublist.refl _ | exact List.nil_sublist _ | refine List.Sublist.cons_cons _ ?_ | refine List.Sublist.cons _ ?_))⟩)

def popsum (L : Ws) (k : Nat) : Int := ((L.take k).map fun b => (pop64 b : Int)).sum
theorem popsum_succ {L : Ws} {k : Nat} (h : k < L.length) : popsum L (k + 1) = popsum L k + (pop64 (nth L k) : Int) := by
  unfold popsum
  rw [List.take_succ_eq_append_getElem h, nth_eq h, List.map_append, List.sum_append]; simp
theorem popsum_le (L : Ws) : ∀ k, 0 ≤ popsum L k ∧ popsum L k ≤ 127 * (k : Int)
  | 0 => by simp [popsum]
  | k + 1 => by
    have := popsum_le L k
    rcases Nat.lt_or_ge k L.length with h | h
    · rw [popsum_succ h]; have := pop64_le (nth L k); omega
    · unfold popsum at *; rw [List.take_of_length_le (by omega)] at *; omega
def removedF (Y : Tb) (L : Ws) (c : Bool) : Int := if c then 0 else Y.total - popsum L L.length
def fixF (Y : Tb) (L : Ws) (k : Nat) : List Ch := ((List.range k).filter fun i => decide (only L i ≠ 0)).map fun i => ⟨nth Y.st i, (only L i : Int)⟩
theorem fixF_succ {Y : Tb} {L : Ws} {k : Nat} : fixF Y L (k + 1) = fixF Y L k ++ (if only L k ≠ 0 then [⟨nth Y.st k, (only L k : Int)⟩] else []) := by
  unfold fixF
  rw [List.range_succ, List.filter_append, List.map_append]
  congr 1
  by_cases h : only L k = 0 <;> simp [h]
theorem fixF_len {Y : Tb} {L : Ws} {k : Nat} : (fixF Y L k).length ≤ k := by
  unfold fixF; rw [List.length_map]
  have := List.length_filter_le (fun i => decide (only L i ≠ 0)) (List.range k)
  rw [List.length_range] at this; exact this

theorem removed_ret (sp : Nat) (Y : Tb) (L : Ws) (c : Bool) (w : World) (h : StateAt w sp Y L c) (hok : Y.Ok) (htot : 0 ≤ Y.total ∧ Y.total ≤ 1000000) : Calls Tryd.prog 21 #[.pointer (some ⟨sp, 0, none⟩)] w fun e w' => e = .returned (.int .i64 (removedF Y L c)) ∧ Below w.heap.size w w' := by
  obtain ⟨tp, hsp0, hT⟩ := h.tb
  obtain ⟨vL, hsp1, hL⟩ := h.left
  obtain ⟨AL, capL, rfl, hLs⟩ := hL.op
  have hLn := h.len
  have hcon := h.con
  have htl := hT.total
  have hn512 := hok.n
  refine calls_T (M := fun _ => False) (hs := []) Tryd.func21 rfl rfl rfl (Hp.refl _ _) ?_
  refine T.seq ?_
  refine T.region ?_
  refine TL.yv (Wt.none rfl) rfl rfl (Yv.pur rfl) ?_
  refine TL.nil ?_
  refine K.seq ?_
  refine T.seq ?_
  refine T.seq ?_
  refine T.region ?_
  refine TL.yv (Wt.none rfl) rfl rfl (Yv.pur rfl) ?_
  (refine TL.ew (Wt.none rfl) rfl rfl (Ew.callD rfl rfl rfl (fun w hw => missing_ret sp Y L c w (h.kept hw))) ?_; rintro _ _ ⟨rfl, rfl⟩)
  refine TL.yv (Wt.none rfl) rfl rfl (Yv.pur rfl) ?_
  refine TL.yv (Wt.some rfl rfl rfl rfl) rfl rfl (Yv.pur rfl) ?_
  refine TL.yv (Wt.some rfl rfl rfl rfl) rfl rfl (Yv.pur rfl) ?_
  refine TL.yv (Wt.some rfl rfl rfl rfl) rfl rfl (Yv.fieldAddr rfl rfl) ?_
  refine TL.yv (Wt.some rfl rfl rfl rfl) rfl rfl (Yv.loadB rfl rfl hcon (fun h => h)) ?_
  refine TL.yv (Wt.none rfl) rfl rfl (Yv.pickF rfl rfl rfl rfl) ?_
  refine TL.nil ?_
  refine K.seq ?_
  refine T.cond rfl (fun h1 => ?_) (fun h1 => ?_)
  · have p1 := h1
    try simp only [decide_eq_true_eq, decide_eq_false_iff_not, Int.not_lt, Int.not_le, Bool.not_eq_true', Bool.not_eq_false', Decidable.not_not, Bool.and_eq_true, Bool.or_eq_true, Bool.and_eq_false_iff, Bool.or_eq_false_iff] at p1
    refine T.seq ?_
    refine T.region ?_
    refine TL.yv (Wt.none rfl) rfl rfl (Yv.pur rfl) ?_
    refine TL.nil ?_
    refine K.seq ?_
    refine T.ret ?_
    refine K.then_ret ?_
    exact K.ret1 rfl rfl (fun w' hw => ⟨ret_int (by rw [removedF, if_pos (by assumption)]), hw.isBelow⟩)
  · have p1 := h1
    try simp only [decide_eq_true_eq, decide_eq_false_iff_not, Int.not_lt, Int.not_le, Bool.not_eq_true', Bool.not_eq_false', Decidable.not_not, Bool.and_eq_true, Bool.or_eq_true, Bool.and_eq_false_iff, Bool.or_eq_false_iff] at p1
    refine T.skip ?_
    refine K.seq ?_
    refine T.seq ?_
    refine T.region ?_
    refine TL.yv (Wt.none rfl) rfl rfl (Yv.pur rfl) ?_
    refine TL.yv (Wt.none rfl) rfl rfl (Yv.pur rfl) ?_
    refine TL.yv (Wt.none rfl) rfl rfl (Yv.fieldAddr rfl rfl) ?_
    refine TL.yv (Wt.none rfl) rfl rfl (Yv.loadB rfl rfl hsp0 (fun h => h)) ?_
    refine TL.yv (Wt.none rfl) rfl rfl (Yv.pur rfl) ?_
    refine TL.yv (Wt.none rfl) rfl rfl (Yv.fieldAddr rfl rfl) ?_
    refine TL.yv (Wt.none rfl) rfl rfl (Yv.loadB rfl rfl htl (fun h => h)) ?_
    refine TL.yv (Wt.none rfl) rfl rfl (Yv.pur rfl) ?_
    refine TL.nil ?_
    refine K.seq ?_
    refine T.seq ?_
    refine T.seq ?_
    refine T.region ?_
    refine TL.yv (Wt.none rfl) rfl rfl (Yv.pur rfl) ?_
    refine TL.yv (Wt.none rfl) rfl rfl (Yv.pur rfl) ?_
    refine TL.yv (Wt.none rfl) rfl rfl (Yv.fieldAddr rfl rfl) ?_
    refine TL.yv (Wt.none rfl) rfl rfl (Yv.loadB rfl rfl hsp1 (fun h => h)) ?_
    refine TL.yv (Wt.none rfl) rfl rfl (Yv.lenSl rfl rfl) ?_
    refine TL.yv (Wt.none rfl) rfl rfl (Yv.pur rfl) ?_
    refine TL.nil ?_
    refine K.seq ?_
    refine T.block ?_
    refine T.loop (ι := Nat) (fun k => [(3, .int .i64 (Y.total - popsum L k)), (24, .slice AL L.length capL), (25, .int .i64 (L.length : Int)), (26, .int .i64 (k : Int))]) (fun k => []) (fun k => k ≤ L.length) (fun k => L.length - k) 0 ?_ ?_ ?_ ?_
    · omega
    · exact (by repeat (first | exact Sub.nil | refine Sub.cons rfl ?_ | (refine Sub.consI rfl (by simp [popsum]) ?_)))
    · exact (by repeat (first | exact List.Sublist.refl _ | exact List.nil_sublist _ | refine List.Sublist.cons_cons _ ?_ | refine List.Sublist.cons _ ?_))
    · intro k hphi
      have hpl := popsum_le L k
      refine T.seq ?_
      refine T.region ?_
      refine TL.yv (Wt.none rfl) rfl rfl (Yv.pur rfl) ?_
      refine TL.nil ?_
      refine K.seq ?_
      refine T.seq ?_
      refine T.cond rfl (fun h2 => ?_) (fun h2 => ?_)
      · have p2 := h2
        try simp only [decide_eq_true_eq, decide_eq_false_iff_not, Int.not_lt, Int.not_le, Bool.not_eq_true', Bool.not_eq_false', Decidable.not_not, Bool.and_eq_true, Bool.or_eq_true, Bool.and_eq_false_iff, Bool.or_eq_false_iff] at p2
        obtain ⟨gL, oL, rfl, hc⟩ := hLs (by omega)
        have hk := hc k (by omega)
        simp only [Le] at hk
        have hp8 := pop64_le (nth L k)
        refine T.skip ?_
        refine K.seq ?_
        refine T.seq ?_
        refine T.block ?_
        refine T.seq ?_
        refine T.region ?_
        refine TL.yv (Wt.none rfl) rfl rfl (Yv.indexSl rfl rfl rfl rfl (by omega)) ?_
        refine TL.yv (Wt.none rfl) rfl rfl (Yv.loadC (j := 0) rfl rfl hk rfl rfl (fun h => h)) ?_
        refine TL.yv (Wt.none rfl) rfl rfl (Yv.pur rfl) ?_
        refine TL.nil ?_
        refine K.seq ?_
        refine T.region ?_
        refine TL.yv (Wt.none rfl) rfl rfl (Yv.pur rfl) ?_
        refine TL.yv (Wt.none rfl) rfl rfl (Yv.pur rfl) ?_
        (refine TL.ew (Wt.none rfl) rfl rfl (Ew.callD rfl rfl rfl (fun w hw => ones_ret _ w)) ?_; rintro _ _ ⟨rfl, rfl⟩)
        refine TL.yv (Wt.none rfl) rfl rfl (Yv.subI rfl rfl rfl (by omega)) ?_
        refine TL.yv (Wt.none rfl) rfl rfl (Yv.pur rfl) ?_
        refine TL.nil ?_
        refine K.blk_normal ?_
        refine K.seq ?_
        refine T.region ?_
        refine TL.yv (Wt.none rfl) rfl rfl (Yv.addI rfl rfl rfl (by omega)) ?_
        refine TL.yv (Wt.none rfl) rfl rfl (Yv.pur rfl) ?_
        refine TL.nil ?_
        exact K.next (k + 1) (by omega) (by omega) (by repeat (first | exact Sub.nil | refine Sub.cons rfl ?_ | (refine Sub.consI rfl (by rw [popsum_succ (by omega)]; omega) ?_))) (by repeat (first | exact List.Sublist.refl _ | exact List.nil_sublist _ | refine List.Sublist.cons_cons _ ?_ | refine List.Sublist.cons _ ?_))
      · have p2 := h2
        try simp only [decide_eq_true_eq, decide_eq_false_iff_not, Int.not_lt, Int.not_le, Bool.not_eq_true', Bool.not_eq_false', Decidable.not_not, Bool.and_eq_true, Bool.or_eq_true, Bool.and_eq_false_iff, Bool.or_eq_false_iff] at p2
        refine T.exit ?_
        refine K.then_exit ?_
        refine K.then_exit ?_
        refine K.blk_exit_eq ?_
        refine K.seq ?_
        refine T.seq ?_
        refine T.region ?_
        refine TL.yv (Wt.none rfl) rfl rfl (Yv.pur rfl) ?_
        refine TL.yv (Wt.none rfl) rfl rfl (Yv.pur rfl) ?_
        refine TL.nil ?_
        refine K.seq ?_
        refine T.ret ?_
        exact K.ret1 rfl rfl (fun w' hw => ⟨ret_int (by rw [removedF, if_neg (by simp_all), show k = L.length by omega]), hw.isBelow⟩)
theorem fixed_ret (sp : Nat) (Y : Tb) (L : Ws) (w : World) (h : StateAt w sp Y L false) (hok : Y.Ok) : Calls Tryd.prog 23 #[.pointer (some ⟨sp, 0, none⟩)] w fun e w' => ∃ v : Value, True ∧ e = .returned v ∧ Hp w (fun _ => False) [.sl v 40 2 (fixF Y L Y.n).length ((fixF Y L Y.n).flatMap Ch.cells)] w' := by
  obtain ⟨tp, hsp0, hT⟩ := h.tb
  obtain ⟨vL, hsp1, hL⟩ := h.left
  obtain ⟨AL, capL, rfl, hLs⟩ := hL.op
  have hLn := h.len
  have hcon := h.con
  obtain ⟨vS, hS0, hS⟩ := hT.st
  obtain ⟨AS, capS, rfl, hSs⟩ := hS.op
  have hn512 := hok.n
  have hstn : Y.st.length = Y.n := rfl
  refine calls_T (M := fun _ => False) (hs := []) Tryd.func23 rfl rfl rfl (Hp.refl _ _) ?_
  refine T.seq ?_
  refine T.region ?_
  refine TL.yv (Wt.none rfl) rfl rfl (Yv.pur rfl) ?_
  refine TL.nil ?_
  refine K.seq ?_
  refine T.seq ?_
  refine T.seq ?_
  refine T.region ?_
  refine TL.yv (Wt.none rfl) rfl rfl (Yv.pur rfl) ?_
  (refine TL.ew (Wt.none rfl) rfl rfl (Ew.callD rfl rfl rfl (fun w hw => missing_ret sp Y L false w (h.kept hw))) ?_; rintro _ _ ⟨rfl, rfl⟩)
  refine TL.yv (Wt.none rfl) rfl rfl (Yv.pur rfl) ?_
  refine TL.yv (Wt.some rfl rfl rfl rfl) rfl rfl (Yv.pur rfl) ?_
  refine TL.yv (Wt.some rfl rfl rfl rfl) rfl rfl (Yv.pur rfl) ?_
  refine TL.yv (Wt.some rfl rfl rfl rfl) rfl rfl (Yv.fieldAddr rfl rfl) ?_
  refine TL.yv (Wt.some rfl rfl rfl rfl) rfl rfl (Yv.loadB rfl rfl hcon (fun h => h)) ?_
  refine TL.yv (Wt.none rfl) rfl rfl (Yv.pickF rfl rfl rfl rfl) ?_
  refine TL.nil ?_
  refine K.seq ?_
  refine T.condF rfl rfl ?_
  refine T.skip ?_
  refine K.seq ?_
  refine T.seq ?_
  refine T.region ?_
  refine TL.yv (Wt.none rfl) rfl rfl (Yv.pur rfl) ?_
  refine TL.nil ?_
  refine K.seq ?_
  refine T.seq ?_
  refine T.seq ?_
  refine T.region ?_
  refine TL.yv (Wt.none rfl) rfl rfl (Yv.pur rfl) ?_
  refine TL.yv (Wt.none rfl) rfl rfl (Yv.pur rfl) ?_
  refine TL.yv (Wt.none rfl) rfl rfl (Yv.fieldAddr rfl rfl) ?_
  refine TL.yv (Wt.none rfl) rfl rfl (Yv.loadB rfl rfl hsp1 (fun h => h)) ?_
  refine TL.yv (Wt.none rfl) rfl rfl (Yv.lenSl rfl rfl) ?_
  refine TL.yv (Wt.none rfl) rfl rfl (Yv.pur rfl) ?_
  refine TL.nil ?_
  refine K.seq ?_
  refine T.block ?_
  refine T.slNil 40 2 ?_
  refine T.loop (ι := Nat × Value) (fun x => [(0, .pointer (some ⟨sp, 0, none⟩)), (3, x.2), (18, .int .i64 (L.length : Int)), (19, .int .i64 (x.1 : Int))]) (fun x => [.sl x.2 40 2 (fixF Y L x.1).length ((fixF Y L x.1).flatMap Ch.cells)]) (fun x => x.1 ≤ L.length) (fun x => L.length - x.1) (0, .slice none 0 0) ?_ ?_ ?_ ?_
  · exact Nat.zero_le _
  · exact (by repeat (first | exact Sub.nil | refine Sub.cons rfl ?_))
  · exact (by repeat (first | exact List.Sublist.refl _ | exact List.nil_sublist _ | refine List.Sublist.cons_cons _ ?_ | refine List.Sublist.cons _ ?_))
  · intro x hphi
    obtain ⟨k, v⟩ := x
    dsimp only at hphi ⊢
    have hfl := fixF_len (Y := Y) (L := L) (k := k)
    refine T.seq ?_
    refine T.region ?_
    refine TL.yv (Wt.none rfl) rfl rfl (Yv.pur rfl) ?_
    refine TL.nil ?_
    refine K.seq ?_
    refine T.seq ?_
    refine T.cond rfl (fun h1 => ?_) (fun h1 => ?_)
    · have p1 := h1
      try simp only [decide_eq_true_eq, decide_eq_false_iff_not, Int.not_lt, Int.not_le, Bool.not_eq_true', Bool.not_eq_false', Decidable.not_not, Bool.and_eq_true, Bool.or_eq_true, Bool.and_eq_false_iff, Bool.or_eq_false_iff] at p1
      obtain ⟨gS, oS, rfl, hc⟩ := hSs (by omega)
      have hk := hc k (by omega)
      simp only [Ie] at hk
      refine T.skip ?_
      refine K.seq ?_
      refine T.seq ?_
      refine T.block ?_
      refine T.seq ?_
      refine T.region ?_
      refine TL.yv (Wt.none rfl) rfl rfl (Yv.pur rfl) ?_
      refine TL.yv (Wt.none rfl) rfl rfl (Yv.pur rfl) ?_
      refine TL.nil ?_
      refine K.seq ?_
      refine T.seq ?_
      refine T.region ?_
      refine TL.yv (Wt.none rfl) rfl rfl (Yv.pur rfl) ?_
      refine TL.yv (Wt.none rfl) rfl rfl (Yv.pur rfl) ?_
      (refine TL.ew (Wt.none rfl) rfl rfl (Ew.callD rfl rfl rfl (fun w hw => only_ret sp Y L false k _ rfl (by omega) w (h.kept hw))) ?_; rintro _ _ ⟨rfl, rfl⟩)
      refine TL.yv (Wt.none rfl) rfl rfl (Yv.pur rfl) ?_
      refine TL.nil ?_
      refine K.seq ?_
      refine T.seq ?_
      refine T.region ?_
      refine TL.yv (Wt.none rfl) rfl rfl (Yv.pur rfl) ?_
      refine TL.yv (Wt.none rfl) rfl rfl (Yv.pur rfl) ?_
      refine TL.nil ?_
      refine K.seq ?_
      refine T.cond rfl (fun h2 => ?_) (fun h2 => ?_)
      · have p2 := h2
        try simp only [decide_eq_true_eq, decide_eq_false_iff_not, Int.not_lt, Int.not_le, Bool.not_eq_true', Bool.not_eq_false', Decidable.not_not, Bool.and_eq_true, Bool.or_eq_true, Bool.and_eq_false_iff, Bool.or_eq_false_iff] at p2
        refine T.region ?_
        refine TL.yv (Wt.none rfl) rfl rfl (Yv.pur rfl) ?_
        refine TL.yv (Wt.none rfl) rfl rfl (Yv.pur rfl) ?_
        refine TL.yv (Wt.none rfl) rfl rfl (Yv.pur rfl) ?_
        refine TL.yv (Wt.none rfl) rfl rfl (Yv.fieldAddr rfl rfl) ?_
        refine TL.yv (Wt.none rfl) rfl rfl (Yv.loadB rfl rfl hsp0 (fun h => h)) ?_
        refine TL.yv (Wt.none rfl) rfl rfl (Yv.pur rfl) ?_
        refine TL.yv (Wt.none rfl) rfl rfl (Yv.fieldAddr rfl rfl) ?_
        refine TL.yv (Wt.none rfl) rfl rfl (Yv.loadB rfl rfl hS0 (fun h => h)) ?_
        refine TL.yv (Wt.none rfl) rfl rfl (Yv.pur rfl) ?_
        refine TL.yv (Wt.none rfl) rfl rfl (Yv.indexSl rfl rfl rfl rfl (by omega)) ?_
        refine TL.yv (Wt.none rfl) rfl rfl (Yv.loadC (j := 0) rfl rfl hk rfl rfl (fun h => h)) ?_
        refine TL.yv (Wt.none rfl) rfl rfl (Yv.pur rfl) ?_
        refine TL.yv (Wt.none rfl) rfl rfl (Yv.build rfl rfl) ?_
        (refine TL.ew (Wt.none rfl) rfl rfl (Ew.buildSlice rfl rfl rfl (by decide)) ?_; rintro _ _ ⟨g40, rfl, rfl⟩)
        (refine TL.ew (Wt.none rfl) rfl rfl (Ew.append 1 0 rfl rfl rfl rfl rfl rfl (by omega) (by omega)) ?_; rintro v41 _ ⟨hv41, rfl⟩)
        refine TL.yv (Wt.none rfl) rfl rfl (Yv.pur rfl) ?_
        refine TL.nil ?_
        refine K.blk_normal ?_
        refine K.seq ?_
        refine T.region ?_
        refine TL.yv (Wt.none rfl) rfl rfl (Yv.addI rfl rfl rfl (by omega)) ?_
        refine TL.yv (Wt.none rfl) rfl rfl (Yv.pur rfl) ?_
        refine TL.nil ?_
        exact K.next (k + 1, v41) (by dsimp only; omega) (by dsimp only; omega) (by repeat (first | exact Sub.nil | refine Sub.cons rfl ?_)) (by dsimp only; rw [fixF_succ, if_pos (by omega), List.length_append, List.flatMap_append]; exact (by repeat (first | exact List.Sublist.refl _ | exact List.nil_sublist _ | refine List.Sublist.cons_cons _ ?_ | refine List.Sublist.cons _ ?_)))
      · have p2 := h2
        try simp only [decide_eq_true_eq, decide_eq_false_iff_not, Int.not_lt, Int.not_le, Bool.not_eq_true', Bool.not_eq_false', Decidable.not_not, Bool.and_eq_true, Bool.or_eq_true, Bool.and_eq_false_iff, Bool.or_eq_false_iff] at p2
        refine T.skip ?_
        refine K.blk_normal ?_
        refine K.seq ?_
        refine T.region ?_
        refine TL.yv (Wt.none rfl) rfl rfl (Yv.addI rfl rfl rfl (by omega)) ?_
        refine TL.yv (Wt.none rfl) rfl rfl (Yv.pur rfl) ?_
        refine TL.nil ?_
        exact K.next (k + 1, v) (by dsimp only; omega) (by dsimp only; omega) (by repeat (first | exact Sub.nil | refine Sub.cons rfl ?_)) (by dsimp only; rw [fixF_succ, if_neg (by omega), List.append_nil]; exact (by repeat (first | exact List.Sublist.refl _ | exact List.nil_sublist _ | refine List.Sublist.cons_cons _ ?_ | refine List.Sublist.cons _ ?_)))
    · have p1 := h1
      try simp only [decide_eq_true_eq, decide_eq_false_iff_not, Int.not_lt, Int.not_le, Bool.not_eq_true', Bool.not_eq_false', Decidable.not_not, Bool.and_eq_true, Bool.or_eq_true, Bool.and_eq_false_iff, Bool.or_eq_false_iff] at p1
      refine T.exit ?_
      refine K.then_exit ?_
      refine K.then_exit ?_
      refine K.blk_exit_eq ?_
      refine K.seq ?_
      refine T.seq ?_
      refine T.region ?_
      refine TL.yv (Wt.none rfl) rfl rfl (Yv.pur rfl) ?_
      refine TL.yv (Wt.none rfl) rfl rfl (Yv.pur rfl) ?_
      refine TL.nil ?_
      refine K.seq ?_
      refine T.ret ?_
      exact K.ret1 rfl rfl (fun w' hw => ⟨_, trivial, rfl, by rw [show k = Y.n by omega] at hw; exact hw.sub (by repeat (first | exact List.Sublist.refl _ | exact List.nil_sublist _ | refine List.Sublist.cons_cons _ ?_ | refine List.Sublist.cons _ ?_))⟩)
end Go.Proofs.YtljgejbmimapdaaDoor
