/- Places of a move; the site with an ID. -/
import Derived.Test.YtphpmjnpjnmdmaaMa
set_option maxRecDepth 100000
set_option maxHeartbeats 4000000
set_option linter.unusedSimpArgs false
set_option linter.unusedVariables false
set_option linter.unusedSectionVars false
namespace Go.Proofs.Ytphpmjnpjnmdmaa
open Go.RowKit

def findSi (xs : List Si) (id : Int) : Option Si := xs.find? fun s => decide (s.id = id)
theorem findSi_drop {xs : List Si} {k : Nat} (h : k < xs.length) (id : Int) : findSi (xs.drop k) id = if (nth xs k).id = id then some (nth xs k) else findSi (xs.drop (k + 1)) id := by
  unfold findSi
  rw [List.drop_eq_getElem_cons h, List.find?_cons, nth_eq h]
  by_cases hh : xs[k].id = id <;> simp [hh]
theorem capOf_find (xs : List Si) (id : Int) : capOf xs id = ((findSi xs id).map (·.cap)).getD 0 := by
  unfold findSi
  induction xs with
  | nil => rfl
  | cons s r ih =>
    rw [capOf, List.find?_cons]
    by_cases h : s.id = id <;> simp [h, ih]
def sOf (xs : List Si) (key : Int) : Si := (findSi xs key).getD ⟨0, 0⟩
def capP (ts cs : List Si) (p : Pl) : Int := if p.1 = true then capOf cs p.2 else capOf ts p.2
def foundP (ts cs : List Si) (p : Pl) : Bool := if p.1 = true then (findSi cs p.2).isSome else (findSi ts p.2).isSome
def plOf (m : Mv) (i : Nat) : Pl := if i = 0 then (false, m.tw) else (true, m.cr)
def plcells (m : Mv) : List Value := [.bool false, .int .i64 m.tw, .bool true, .int .i64 m.cr]
theorem plcells_at (m : Mv) (i : Nat) (h : i < 2) : ((plcells m).drop (i * 2)).take 2 = [.bool (plOf m i).1, .int .i64 (plOf m i).2] := by
  match i, h with
  | 0, _ => rfl
  | 1, _ => rfl

theorem places_ret (m : Mv) (w : World) : Calls Try.prog 36 #[.agg m.cells.toArray] w fun e w' => e = .returned (.agg (plcells m).toArray) ∧ Below w.heap.size w w' := by
  refine calls_T (M := fun _ => False) (hs := []) Try.func36 rfl rfl rfl (Hp.refl _ _) ?_
  simp only [Mv.cells]
  refine T.seq ?_
  refine T.region ?_
  first | (refine TL.ew (Wt.none rfl) rfl rfl (Ew.box rfl rfl) ?_; rintro _ _ ⟨g1, rfl, rfl⟩) | (refine TL.ew (Wt.none rfl) rfl rfl (Ew.boxA rfl rfl) ?_; rintro _ _ ⟨g1, rfl, rfl⟩)
  (refine TL.ew (Wt.none rfl) rfl rfl (Ew.alloc rfl) ?_; rintro _ _ ⟨g2, rfl, rfl⟩)
  refine TL.nil ?_
  refine K.seq ?_
  refine T.seq ?_
  refine T.region ?_
  refine TL.yv (Wt.none rfl) rfl rfl (Yv.fieldAddr rfl rfl) ?_
  first | refine TL.yv (Wt.none rfl) rfl rfl (Yv.loadO 0 rfl rfl rfl rfl) ?_ | refine TL.yv (Wt.none rfl) rfl rfl (Yv.loadO 1 rfl rfl rfl rfl) ?_ | refine TL.yv (Wt.none rfl) rfl rfl (Yv.loadO 2 rfl rfl rfl rfl) ?_ | refine TL.yv (Wt.none rfl) rfl rfl (Yv.loadO 3 rfl rfl rfl rfl) ?_ | refine TL.yv (Wt.none rfl) rfl rfl (Yv.loadB rfl rfl (by assumption) (fun h => h)) ?_ | refine TL.yv (Wt.none rfl) rfl rfl (Yv.loadS 0 rfl rfl rfl (by first | rfl | assumption)) ?_ | refine TL.yv (Wt.none rfl) rfl rfl (Yv.loadS 1 rfl rfl rfl (by first | rfl | assumption)) ?_ | refine TL.yv (Wt.none rfl) rfl rfl (Yv.loadS 2 rfl rfl rfl (by first | rfl | assumption)) ?_ | refine TL.yv (Wt.none rfl) rfl rfl (Yv.loadS 3 rfl rfl rfl (by first | rfl | assumption)) ?_
  first | refine TL.yv (Wt.none rfl) rfl rfl (Yv.build rfl rfl) ?_ | refine TL.yv (Wt.none rfl) rfl rfl (Yv.buildAr rfl rfl) ?_
  refine TL.yv (Wt.none rfl) rfl rfl (Yv.fieldAddr rfl rfl) ?_
  first | refine TL.yv (Wt.none rfl) rfl rfl (Yv.loadO 0 rfl rfl rfl rfl) ?_ | refine TL.yv (Wt.none rfl) rfl rfl (Yv.loadO 1 rfl rfl rfl rfl) ?_ | refine TL.yv (Wt.none rfl) rfl rfl (Yv.loadO 2 rfl rfl rfl rfl) ?_ | refine TL.yv (Wt.none rfl) rfl rfl (Yv.loadO 3 rfl rfl rfl rfl) ?_ | refine TL.yv (Wt.none rfl) rfl rfl (Yv.loadB rfl rfl (by assumption) (fun h => h)) ?_ | refine TL.yv (Wt.none rfl) rfl rfl (Yv.loadS 0 rfl rfl rfl (by first | rfl | assumption)) ?_ | refine TL.yv (Wt.none rfl) rfl rfl (Yv.loadS 1 rfl rfl rfl (by first | rfl | assumption)) ?_ | refine TL.yv (Wt.none rfl) rfl rfl (Yv.loadS 2 rfl rfl rfl (by first | rfl | assumption)) ?_ | refine TL.yv (Wt.none rfl) rfl rfl (Yv.loadS 3 rfl rfl rfl (by first | rfl | assumption)) ?_
  first | refine TL.yv (Wt.none rfl) rfl rfl (Yv.build rfl rfl) ?_ | refine TL.yv (Wt.none rfl) rfl rfl (Yv.buildAr rfl rfl) ?_
  first | refine TL.yv (Wt.none rfl) rfl rfl (Yv.build rfl rfl) ?_ | refine TL.yv (Wt.none rfl) rfl rfl (Yv.buildAr rfl rfl) ?_
  first | (refine TL.ew0 (Wt.none rfl) rfl (Ew.storeAll 0 rfl rfl rfl rfl rfl rfl) ?_; rintro _ _ ⟨rfl, rfl⟩) | (refine TL.ew0 (Wt.none rfl) rfl (Ew.storeAll 1 rfl rfl rfl rfl rfl rfl) ?_; rintro _ _ ⟨rfl, rfl⟩) | (refine TL.ew0 (Wt.none rfl) rfl (Ew.storeAll 2 rfl rfl rfl rfl rfl rfl) ?_; rintro _ _ ⟨rfl, rfl⟩) | (refine TL.ew0 (Wt.none rfl) rfl (Ew.storeAll 3 rfl rfl rfl rfl rfl rfl) ?_; rintro _ _ ⟨rfl, rfl⟩)
  refine TL.nil ?_
  refine K.seq ?_
  refine T.ret ?_
  exact K.retC 0 rfl rfl rfl rfl (fun w' hw => ⟨rfl, hw.isBelow⟩)
theorem find_ret (xs : List Si) (v : Value) (key : Int) (w : World) (h : SitesAt w v xs) (hl : xs.length ≤ 9223372036854775807) : Calls Try.prog 48 #[v, .int .i64 key, .func (.func 47) #[] #[]] w fun e w' => e = .returned (.tuple #[.agg [Value.int .i64 (sOf xs key).id, .int .i64 (sOf xs key).cap].toArray, .bool (findSi xs key).isSome]) ∧ Below w.heap.size w w' := by
  obtain ⟨A, cap, rfl, hsl⟩ := h.op
  refine calls_T (M := fun _ => False) (hs := []) Try.func48 rfl rfl rfl (Hp.refl _ _) ?_
  refine T.seq ?_
  refine T.region ?_
  (refine TL.ew (Wt.none rfl) rfl rfl (Ew.alloc rfl) ?_; rintro _ _ ⟨g6, rfl, rfl⟩)
  refine TL.yv (Wt.none rfl) rfl rfl (Yv.pur rfl) ?_
  refine TL.nil ?_
  refine K.seq ?_
  refine T.seq ?_
  refine T.seq ?_
  refine T.region ?_
  refine TL.yv (Wt.none rfl) rfl rfl (Yv.pur rfl) ?_
  first | refine TL.yv (Wt.none rfl) rfl rfl (Yv.lenSl rfl rfl) ?_ | refine TL.yv (Wt.none rfl) rfl rfl (Yv.lenAr rfl) ?_
  refine TL.yv (Wt.none rfl) rfl rfl (Yv.pur rfl) ?_
  refine TL.nil ?_
  refine K.seq ?_
  refine T.block ?_
  refine T.loop (ι := Nat) (fun k => [(1, .int .i64 key), (2, .func (.func 47) #[] #[]), (6, .pointer (some ⟨g6, 0, none⟩)), (11, .slice A xs.length cap), (12, .int .i64 (xs.length : Int)), (13, .int .i64 (k : Int))]) (fun k => [.row g6 63 [.int .i64 0, .int .i64 0]]) (fun k => k ≤ xs.length ∧ findSi (xs.drop k) key = findSi xs key) (fun k => xs.length - k) 0 ?_ ?_ ?_ ?_
  · exact ⟨by omega, rfl⟩
  · exact (by repeat (first | exact Sub.nil | refine Sub.cons rfl ?_))
  · exact (by repeat (first | exact List.Sublist.refl _ | exact List.nil_sublist _ | refine List.Sublist.cons_cons _ ?_ | refine List.Sublist.cons _ ?_))
  · intro k hphi
    obtain ⟨hkl, hall⟩ := hphi
    refine T.seq ?_
    refine T.region ?_
    refine TL.yv (Wt.none rfl) rfl rfl (Yv.pur rfl) ?_
    refine TL.nil ?_
    refine K.seq ?_
    refine T.seq ?_
    refine T.cond rfl (fun h1 => ?_) (fun h1 => ?_)
    · have p1 := h1
      try simp only [decide_eq_true_eq, decide_eq_false_iff_not, Int.not_lt, Int.not_le, Bool.not_eq_true', Bool.not_eq_false', Decidable.not_not, Bool.and_eq_true, Bool.or_eq_true, Bool.and_eq_false_iff, Bool.or_eq_false_iff] at p1
      obtain ⟨g, off, rfl, hc⟩ := hsl (by omega)
      have hk := hc k (by omega)
      have hk1 := hc (k - 1) (by omega)
      simp only [Si.cells] at hk hk1
      refine T.skip ?_
      refine K.seq ?_
      refine T.seq ?_
      refine T.block ?_
      refine T.seq ?_
      refine T.region ?_
      first | refine TL.yv (Wt.none rfl) rfl rfl (Yv.indexSl rfl rfl rfl rfl (by omega)) ?_ | refine TL.yv (Wt.none rfl) rfl rfl (Yv.indexAr rfl rfl rfl rfl (by omega)) ?_
      first | refine TL.yv (Wt.none rfl) rfl rfl (Yv.loadC rfl rfl hk rfl rfl (fun h => h)) ?_ | refine TL.yv (Wt.none rfl) rfl rfl (Yv.loadC rfl rfl hk1 rfl rfl (fun h => h)) ?_ | refine TL.yv (Wt.none rfl) rfl rfl (Yv.loadAB rfl rfl hk rfl (fun h => h)) ?_ | refine TL.yv (Wt.none rfl) rfl rfl (Yv.loadAO 0 rfl rfl rfl rfl) ?_ | refine TL.yv (Wt.none rfl) rfl rfl (Yv.loadAO 1 rfl rfl rfl rfl) ?_ | refine TL.yv (Wt.none rfl) rfl rfl (Yv.loadAO 2 rfl rfl rfl rfl) ?_ | refine TL.yv (Wt.none rfl) rfl rfl (Yv.loadAB rfl rfl (by assumption) rfl (fun h => h)) ?_
      (refine TL.ew (Wt.none rfl) rfl rfl (Ew.alloc rfl) ?_; rintro _ _ ⟨g9, rfl, rfl⟩)
      first | (refine TL.ew0 (Wt.none rfl) rfl (Ew.storeAll 0 rfl rfl rfl rfl rfl rfl) ?_; rintro _ _ ⟨rfl, rfl⟩) | (refine TL.ew0 (Wt.none rfl) rfl (Ew.storeAll 1 rfl rfl rfl rfl rfl rfl) ?_; rintro _ _ ⟨rfl, rfl⟩) | (refine TL.ew0 (Wt.none rfl) rfl (Ew.storeAll 2 rfl rfl rfl rfl rfl rfl) ?_; rintro _ _ ⟨rfl, rfl⟩) | (refine TL.ew0 (Wt.none rfl) rfl (Ew.storeAll 3 rfl rfl rfl rfl rfl rfl) ?_; rintro _ _ ⟨rfl, rfl⟩)
      refine TL.nil ?_
      refine K.seq ?_
      refine T.seq ?_
      refine T.region ?_
      refine TL.yv (Wt.none rfl) rfl rfl (Yv.pur rfl) ?_
      first | refine TL.yv (Wt.none rfl) rfl rfl (Yv.loadC rfl rfl hk rfl rfl (fun h => h)) ?_ | refine TL.yv (Wt.none rfl) rfl rfl (Yv.loadC rfl rfl hk1 rfl rfl (fun h => h)) ?_ | refine TL.yv (Wt.none rfl) rfl rfl (Yv.loadAB rfl rfl hk rfl (fun h => h)) ?_ | refine TL.yv (Wt.none rfl) rfl rfl (Yv.loadAO 0 rfl rfl rfl rfl) ?_ | refine TL.yv (Wt.none rfl) rfl rfl (Yv.loadAO 1 rfl rfl rfl rfl) ?_ | refine TL.yv (Wt.none rfl) rfl rfl (Yv.loadAO 2 rfl rfl rfl rfl) ?_ | refine TL.yv (Wt.none rfl) rfl rfl (Yv.loadAO 3 rfl rfl rfl rfl) ?_ | refine TL.yv (Wt.none rfl) rfl rfl (Yv.loadAB rfl rfl (by assumption) rfl (fun h => h)) ?_
      (refine TL.ew (Wt.none rfl) rfl rfl (Ew.callD rfl rfl rfl (fun w hw => capId_ret _ _)) ?_; rintro _ _ ⟨rfl, rfl⟩)
      refine TL.yv (Wt.none rfl) rfl rfl (Yv.pur rfl) ?_
      first | refine TL.yv (Wt.none rfl) rfl rfl (Yv.pur rfl) ?_ | refine TL.yv (Wt.none rfl) rfl rfl (Yv.eqB rfl rfl rfl rfl) ?_
      refine TL.nil ?_
      refine K.seq ?_
      refine T.cond rfl (fun h2 => ?_) (fun h2 => ?_)
      · have p2 := h2
        try simp only [decide_eq_true_eq, decide_eq_false_iff_not, Int.not_lt, Int.not_le, Bool.not_eq_true', Bool.not_eq_false', Decidable.not_not, Bool.and_eq_true, Bool.or_eq_true, Bool.and_eq_false_iff, Bool.or_eq_false_iff] at p2
        refine T.seq ?_
        refine T.region ?_
        first | refine TL.yv (Wt.none rfl) rfl rfl (Yv.loadC rfl rfl hk rfl rfl (fun h => h)) ?_ | refine TL.yv (Wt.none rfl) rfl rfl (Yv.loadC rfl rfl hk1 rfl rfl (fun h => h)) ?_ | refine TL.yv (Wt.none rfl) rfl rfl (Yv.loadAB rfl rfl hk rfl (fun h => h)) ?_ | refine TL.yv (Wt.none rfl) rfl rfl (Yv.loadAO 0 rfl rfl rfl rfl) ?_ | refine TL.yv (Wt.none rfl) rfl rfl (Yv.loadAO 1 rfl rfl rfl rfl) ?_ | refine TL.yv (Wt.none rfl) rfl rfl (Yv.loadAO 2 rfl rfl rfl rfl) ?_ | refine TL.yv (Wt.none rfl) rfl rfl (Yv.loadAO 3 rfl rfl rfl rfl) ?_ | refine TL.yv (Wt.none rfl) rfl rfl (Yv.loadAB rfl rfl (by assumption) rfl (fun h => h)) ?_
        first | (refine TL.ew0 (Wt.none rfl) rfl (Ew.storeAll 0 rfl rfl rfl rfl rfl rfl) ?_; rintro _ _ ⟨rfl, rfl⟩) | (refine TL.ew0 (Wt.none rfl) rfl (Ew.storeAll 1 rfl rfl rfl rfl rfl rfl) ?_; rintro _ _ ⟨rfl, rfl⟩) | (refine TL.ew0 (Wt.none rfl) rfl (Ew.storeAll 2 rfl rfl rfl rfl rfl rfl) ?_; rintro _ _ ⟨rfl, rfl⟩) | (refine TL.ew0 (Wt.none rfl) rfl (Ew.storeAll 3 rfl rfl rfl rfl rfl rfl) ?_; rintro _ _ ⟨rfl, rfl⟩)
        refine TL.yv (Wt.none rfl) rfl rfl (Yv.pur rfl) ?_
        refine TL.nil ?_
        refine K.seq ?_
        refine T.ret ?_
        refine K.blk_ret ?_
        refine K.then_ret ?_
        refine K.then_ret ?_
        refine K.blk_ret ?_
        refine K.then_ret ?_
        first | exact K.retCT 1 rfl rfl rfl rfl rfl (fun w' hw => ⟨by have e : findSi xs key = some (nth xs k) := (by rw [← hall, findSi_drop (by omega), if_pos (by assumption)]); simp [sOf, e], hw.isBelow⟩) | exact K.retCT 1 rfl rfl rfl rfl rfl (fun w' hw => ⟨by have e : findSi xs key = none := (by rw [← hall, List.drop_eq_nil_of_le (by omega)]; rfl); simp [sOf, e], hw.isBelow⟩)
      · have p2 := h2
        try simp only [decide_eq_true_eq, decide_eq_false_iff_not, Int.not_lt, Int.not_le, Bool.not_eq_true', Bool.not_eq_false', Decidable.not_not, Bool.and_eq_true, Bool.or_eq_true, Bool.and_eq_false_iff, Bool.or_eq_false_iff] at p2
        refine T.skip ?_
        refine K.blk_normal ?_
        refine K.seq ?_
        refine T.region ?_
        first | refine TL.yv (Wt.none rfl) rfl rfl (Yv.addI rfl rfl rfl (by omega)) ?_ | refine TL.yv (Wt.none rfl) rfl rfl (Yv.pur rfl) ?_
        refine TL.yv (Wt.none rfl) rfl rfl (Yv.pur rfl) ?_
        refine TL.nil ?_
        refine K.next (k + 1) ⟨by omega, by have e := findSi_drop (xs := xs) (k := k) (by omega) key; rw [if_neg (by assumption)] at e; rw [← e]; exact hall⟩ (by omega) (by repeat (first | exact Sub.nil | refine Sub.cons rfl ?_)) (by repeat (first | exact List.Sublist.refl _ | exact List.nil_sublist _ | refine List.Sublist.cons_cons _ ?_ | refine List.Sublist.cons _ ?_))
    · have p1 := h1
      try simp only [decide_eq_true_eq, decide_eq_false_iff_not, Int.not_lt, Int.not_le, Bool.not_eq_true', Bool.not_eq_false', Decidable.not_not, Bool.and_eq_true, Bool.or_eq_true, Bool.and_eq_false_iff, Bool.or_eq_false_iff] at p1
      refine T.exit ?_
      refine K.then_exit ?_
      refine K.then_exit ?_
      refine K.blk_exit_eq ?_
      refine K.seq ?_
      refine T.seq ?_
      refine T.region ?_
      (refine TL.ew (Wt.none rfl) rfl rfl (Ew.alloc rfl) ?_; rintro _ _ ⟨g10, rfl, rfl⟩)
      refine TL.nil ?_
      refine K.seq ?_
      refine T.seq ?_
      refine T.region ?_
      first | refine TL.yv (Wt.none rfl) rfl rfl (Yv.loadC rfl rfl hk rfl rfl (fun h => h)) ?_ | refine TL.yv (Wt.none rfl) rfl rfl (Yv.loadC rfl rfl hk1 rfl rfl (fun h => h)) ?_ | refine TL.yv (Wt.none rfl) rfl rfl (Yv.loadAB rfl rfl hk rfl (fun h => h)) ?_ | refine TL.yv (Wt.none rfl) rfl rfl (Yv.loadAO 0 rfl rfl rfl rfl) ?_ | refine TL.yv (Wt.none rfl) rfl rfl (Yv.loadAO 1 rfl rfl rfl rfl) ?_ | refine TL.yv (Wt.none rfl) rfl rfl (Yv.loadAO 2 rfl rfl rfl rfl) ?_ | refine TL.yv (Wt.none rfl) rfl rfl (Yv.loadAO 3 rfl rfl rfl rfl) ?_ | refine TL.yv (Wt.none rfl) rfl rfl (Yv.loadAB rfl rfl (by assumption) rfl (fun h => h)) ?_
      first | (refine TL.ew0 (Wt.none rfl) rfl (Ew.storeAll 0 rfl rfl rfl rfl rfl rfl) ?_; rintro _ _ ⟨rfl, rfl⟩) | (refine TL.ew0 (Wt.none rfl) rfl (Ew.storeAll 1 rfl rfl rfl rfl rfl rfl) ?_; rintro _ _ ⟨rfl, rfl⟩) | (refine TL.ew0 (Wt.none rfl) rfl (Ew.storeAll 2 rfl rfl rfl rfl rfl rfl) ?_; rintro _ _ ⟨rfl, rfl⟩) | (refine TL.ew0 (Wt.none rfl) rfl (Ew.storeAll 3 rfl rfl rfl rfl rfl rfl) ?_; rintro _ _ ⟨rfl, rfl⟩)
      refine TL.yv (Wt.none rfl) rfl rfl (Yv.pur rfl) ?_
      refine TL.nil ?_
      refine K.seq ?_
      refine T.ret ?_
      first | exact K.retCT 1 rfl rfl rfl rfl rfl (fun w' hw => ⟨by have e : findSi xs key = some (nth xs k) := (by rw [← hall, findSi_drop (by omega), if_pos (by assumption)]); simp [sOf, e], hw.isBelow⟩) | exact K.retCT 1 rfl rfl rfl rfl rfl (fun w' hw => ⟨by have e : findSi xs key = none := (by rw [← hall, List.drop_eq_nil_of_le (by omega)]; rfl); simp [sOf, e], hw.isBelow⟩)
end Go.Proofs.Ytphpmjnpjnmdmaa
