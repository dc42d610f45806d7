/- The domains of a state. -/
import Derived.Test.YtljgejbmimapdaaDoorM4
set_option maxRecDepth 100000
set_option maxHeartbeats 4000000
set_option linter.unusedSimpArgs false
set_option linter.unusedVariables false
set_option linter.unusedSectionVars false
namespace Go.Proofs.YtljgejbmimapdaaDoor
open Go.RowKit

def dE (d : Dx) : Ent := .sl d.v 3 1 d.chs.length (d.chs.flatMap Ie)
def domsF (Y : Tb) (L : Ws) (k : Nat) : List (Int × List Int) := (List.range k).map fun i => (nth Y.st i, (chansN (nth L i)).map fun j : Nat => (j : Int))
def Dx.pl (d : Dx) : Int × List Int := (d.st, d.chs)
def fillD (xs : List Dx) (n : Nat) : List Value := xs.flatMap Dx.cells ++ (List.replicate (n - xs.length) (default : Dx)).flatMap Dx.cells
theorem cellsD_len (xs : List Dx) : (xs.flatMap Dx.cells).length = xs.length * 2 := flat_len Dx.cells 2 (fun _ => rfl) xs
theorem fillD_len {xs : List Dx} {n : Nat} (h : xs.length ≤ n) : (fillD xs n).length = n * 2 := by
  unfold fillD; rw [List.length_append, cellsD_len, cellsD_len, List.length_replicate]; omega
theorem fillD_store {xs : List Dx} {n p : Nat} {d : Dx} (h : xs.length < n) (hp : p = xs.length * 2) : (fillD xs n).take p ++ [.int .i64 d.st, d.v] ++ (fillD xs n).drop (p + [Value.int .i64 d.st, d.v].length) = fillD (xs ++ [d]) n := by
  subst hp
  have e : fillD xs n = xs.flatMap Dx.cells ++ (Dx.cells default ++ (List.replicate (n - (xs.length + 1)) (default : Dx)).flatMap Dx.cells) := by
    unfold fillD
    rw [show n - xs.length = (n - (xs.length + 1)) + 1 by omega, List.replicate_succ, List.flatMap_cons]
  rw [e, List.take_left' (cellsD_len xs), ← List.append_assoc, List.drop_left' (by rw [List.length_append, cellsD_len]; rfl)]
  unfold fillD
  rw [List.flatMap_append, List.length_append]
  rfl
theorem made_two (n : Nat) : (madeCells [Value.int .i64 0, .slice none 0 0].toArray (n * 2)).toList = fillD [] n := by
  apply List.ext_getElem?
  intro i
  unfold fillD
  simp only [List.flatMap_nil, List.nil_append, List.length_nil, Nat.sub_zero]
  by_cases h : i < n * 2
  · have h2 := flat_get Dx.cells 2 (fun _ => rfl) (List.replicate n (default : Dx)) (i / 2) (by rw [List.length_replicate]; omega) (i % 2) (by omega)
    rw [show i / 2 * 2 + i % 2 = i by omega] at h2
    rw [h2, List.getElem_replicate]
    simp only [madeCells]
    rcases Nat.mod_two_eq_zero_or_one i with hm | hm <;> simp [h, hm, Dx.cells, default, instInhabitedDx]
  · rw [List.getElem?_eq_none (by simp [madeCells]; omega), List.getElem?_eq_none (by rw [cellsD_len, List.length_replicate]; omega)]
theorem domsF_succ {Y : Tb} {L : Ws} {k : Nat} : domsF Y L (k + 1) = domsF Y L k ++ [(nth Y.st k, (chansN (nth L k)).map fun j : Nat => (j : Int))] := by
  unfold domsF; rw [List.range_succ, List.map_append]; rfl
theorem DomsAt.own {B w : World} {M : Nat → Prop} {hs : HS} {v : Value} {xs : List Dx} {e : TypeId} (hw : Hp B M hs w) (i j : Nat) (hi : hs[i]? = some (.sl v e 2 xs.length (xs.flatMap Dx.cells))) (hj : hs[j]? = some (.bag (xs.map dE))) : DomsAt w v xs where
  sl := SlOf.own (enc := Dx.cells) (size := 2) (fun _ => rfl) (Ent.sl_ok.1 (hw.get hi)) rfl
  each d hd := by
    have h1 : (Ent.sl d.v 3 1 d.chs.length (d.chs.flatMap Ie)).ok w := (Ent.bag_ok.1 (hw.get hj)).1 (dE d) (List.mem_map.2 ⟨d, hd, rfl⟩)
    exact SlOf.own (enc := Ie) (size := 1) (fun _ => rfl) (Ent.sl_ok.1 h1) rfl
theorem fillD_full {xs : List Dx} : fillD xs xs.length = xs.flatMap Dx.cells := by unfold fillD; simp

theorem domains_bad (sp : Nat) (Y : Tb) (L : Ws) (w : World) (h : StateAt w sp Y L true) : Calls Tryd.prog 20 #[.pointer (some ⟨sp, 0, none⟩)] w fun e w' => e = .returned (.slice none 0 0) ∧ Below w.heap.size w w' := by
  have hcon := h.con
  refine calls_T (M := fun _ => False) (hs := []) Tryd.func20 rfl rfl rfl (Hp.refl _ _) ?_
  refine T.seq ?_
  refine T.region ?_
  refine TL.yv (Wt.none rfl) rfl rfl (Yv.pur rfl) ?_
  refine TL.nil ?_
  refine K.seq ?_
  refine T.seq ?_
  refine T.seq ?_
  refine T.region ?_
  refine TL.yv (Wt.none rfl) rfl rfl (Yv.pur rfl) ?_
  (refine TL.ew (Wt.none rfl) rfl rfl (Ew.callD rfl rfl rfl (fun w hw => missing_ret sp Y L true w (h.kept hw))) ?_; rintro _ _ ⟨rfl, rfl⟩)
  refine TL.yv (Wt.none rfl) rfl rfl (Yv.pur rfl) ?_
  refine TL.yv (Wt.some rfl rfl rfl rfl) rfl rfl (Yv.pur rfl) ?_
  refine TL.yv (Wt.some rfl rfl rfl rfl) rfl rfl (Yv.pur rfl) ?_
  refine TL.yv (Wt.some rfl rfl rfl rfl) rfl rfl (Yv.fieldAddr rfl rfl) ?_
  refine TL.yv (Wt.some rfl rfl rfl rfl) rfl rfl (Yv.loadB rfl rfl hcon (fun h => h)) ?_
  refine TL.yv (Wt.none rfl) rfl rfl (Yv.pickF rfl rfl rfl rfl) ?_
  refine TL.nil ?_
  refine K.seq ?_
  refine T.condT rfl rfl ?_
  refine T.seq ?_
  refine T.region ?_
  refine TL.yv (Wt.none rfl) rfl rfl (Yv.pur rfl) ?_
  refine TL.nil ?_
  refine K.seq ?_
  refine T.ret ?_
  refine K.then_ret ?_
  refine K.ret1 rfl rfl (fun w' hw => ⟨?_, hw.isBelow⟩)
  rfl
theorem domains_ok (sp : Nat) (Y : Tb) (L : Ws) (w : World) (h : StateAt w sp Y L false) (hok : Y.Ok) : Calls Tryd.prog 20 #[.pointer (some ⟨sp, 0, none⟩)] w fun e w' => ∃ y : Value × List Dx, y.2.map Dx.pl = domsF Y L Y.n ∧ e = .returned y.1 ∧ Hp w (fun _ => False) [.sl y.1 64 2 y.2.length (y.2.flatMap Dx.cells), .bag (y.2.map dE)] w' := by
  obtain ⟨tp, hsp0, hT⟩ := h.tb
  obtain ⟨vL, hsp1, hL⟩ := h.left
  obtain ⟨AL, capL, rfl, hLs⟩ := hL.op
  have hLn := h.len
  have hcon := h.con
  obtain ⟨vS, hS0, hS⟩ := hT.st
  obtain ⟨AS, capS, rfl, hSs⟩ := hS.op
  have hn512 := hok.n
  have hstn : Y.st.length = Y.n := rfl
  refine calls_T (M := fun _ => False) (hs := []) Tryd.func20 rfl rfl rfl (Hp.refl _ _) ?_
  refine T.seq ?_
  refine T.region ?_
  refine TL.yv (Wt.none rfl) rfl rfl (Yv.pur rfl) ?_
  refine TL.nil ?_
  refine K.seq ?_
  refine T.seq ?_
  refine T.seq ?_
  refine T.region ?_
  refine TL.yv (Wt.none rfl) rfl rfl (Yv.pur rfl) ?_
  (refine TL.ew (Wt.none rfl) rfl rfl (Ew.callD rfl rfl rfl (fun w hw => missing_ret sp Y L false w (h.kept hw))) ?_; rintro _ _ ⟨rfl, rfl⟩)
  refine TL.yv (Wt.none rfl) rfl rfl (Yv.pur rfl) ?_
  refine TL.yv (Wt.some rfl rfl rfl rfl) rfl rfl (Yv.pur rfl) ?_
  refine TL.yv (Wt.some rfl rfl rfl rfl) rfl rfl (Yv.pur rfl) ?_
  refine TL.yv (Wt.some rfl rfl rfl rfl) rfl rfl (Yv.fieldAddr rfl rfl) ?_
  refine TL.yv (Wt.some rfl rfl rfl rfl) rfl rfl (Yv.loadB rfl rfl hcon (fun h => h)) ?_
  refine TL.yv (Wt.none rfl) rfl rfl (Yv.pickF rfl rfl rfl rfl) ?_
  refine TL.nil ?_
  refine K.seq ?_
  refine T.condF rfl rfl ?_
  refine T.skip ?_
  refine K.seq ?_
  refine T.seq ?_
  refine T.region ?_
  refine TL.yv (Wt.none rfl) rfl rfl (Yv.pur rfl) ?_
  refine TL.yv (Wt.none rfl) rfl rfl (Yv.pur rfl) ?_
  refine TL.yv (Wt.none rfl) rfl rfl (Yv.fieldAddr rfl rfl) ?_
  refine TL.yv (Wt.none rfl) rfl rfl (Yv.loadB rfl rfl hsp1 (fun h => h)) ?_
  refine TL.yv (Wt.none rfl) rfl rfl (Yv.lenSl rfl rfl) ?_
  (refine TL.ew (Wt.none rfl) rfl rfl (Ew.makeSlice rfl rfl rfl rfl rfl (by omega) (by omega)) ?_; rintro _ _ ⟨g19, rfl, rfl⟩)
  refine TL.yv (Wt.none rfl) rfl rfl (Yv.pur rfl) ?_
  refine TL.nil ?_
  refine K.seq ?_
  refine T.seq ?_
  refine T.seq ?_
  rw [made_two]
  refine T.bag0 [] (fun _ _ he => by cases he) (fun _ he => by cases he) ?_
  refine T.permH (List.Perm.swap _ _ _) ?_
  refine T.region ?_
  refine TL.yv (Wt.none rfl) rfl rfl (Yv.pur rfl) ?_
  refine TL.yv (Wt.none rfl) rfl rfl (Yv.pur rfl) ?_
  refine TL.yv (Wt.none rfl) rfl rfl (Yv.fieldAddr rfl rfl) ?_
  refine TL.yv (Wt.none rfl) rfl rfl (Yv.loadB rfl rfl hsp1 (fun h => h)) ?_
  refine TL.yv (Wt.none rfl) rfl rfl (Yv.lenSl rfl rfl) ?_
  refine TL.yv (Wt.none rfl) rfl rfl (Yv.pur rfl) ?_
  refine TL.nil ?_
  refine K.seq ?_
  refine T.block ?_
  refine T.loop (ι := List Dx) (fun xs => [(0, .pointer (some ⟨sp, 0, none⟩)), (3, sV g19 L.length), (23, .slice AL L.length capL), (24, .int .i64 (L.length : Int)), (25, .int .i64 (xs.length : Int))]) (fun xs => [.sl (sV g19 L.length) 64 2 L.length (fillD xs L.length), .bag (xs.map dE)]) (fun xs => xs.length ≤ L.length ∧ xs.map Dx.pl = domsF Y L xs.length) (fun xs => L.length - xs.length) [] ?_ ?_ ?_ ?_
  · exact ⟨Nat.zero_le _, rfl⟩
  · exact (by repeat (first | exact Sub.nil | refine Sub.cons rfl ?_))
  · exact (by repeat (first | exact List.Sublist.refl _ | exact List.nil_sublist _ | refine List.Sublist.cons_cons _ ?_ | refine List.Sublist.cons _ ?_))
  · intro xs hphi
    obtain ⟨hxl, hxs⟩ := hphi
    refine T.seq ?_
    refine T.region ?_
    refine TL.yv (Wt.none rfl) rfl rfl (Yv.pur rfl) ?_
    refine TL.nil ?_
    refine K.seq ?_
    refine T.seq ?_
    refine T.cond rfl (fun h1 => ?_) (fun h1 => ?_)
    · have p1 := h1
      try simp only [decide_eq_true_eq, decide_eq_false_iff_not, Int.not_lt, Int.not_le, Bool.not_eq_true', Bool.not_eq_false', Decidable.not_not, Bool.and_eq_true, Bool.or_eq_true, Bool.and_eq_false_iff, Bool.or_eq_false_iff] at p1
      obtain ⟨gL, oL, rfl, hc⟩ := hLs (by omega)
      have hk := hc xs.length (by omega)
      simp only [Le] at hk
      obtain ⟨gS, oS, rfl, hcS⟩ := hSs (by omega)
      have hkS := hcS xs.length (by omega)
      simp only [Ie] at hkS
      refine T.skip ?_
      refine K.seq ?_
      refine T.seq ?_
      refine T.block ?_
      refine T.seq ?_
      refine T.region ?_
      refine TL.yv (Wt.none rfl) rfl rfl (Yv.pur rfl) ?_
      refine TL.yv (Wt.none rfl) rfl rfl (Yv.indexSl rfl rfl rfl rfl (by omega)) ?_
      refine TL.yv (Wt.none rfl) rfl rfl (Yv.loadC (j := 0) rfl rfl hk rfl rfl (fun h => h)) ?_
      refine TL.yv (Wt.none rfl) rfl rfl (Yv.pur rfl) ?_
      refine TL.yv (Wt.none rfl) rfl rfl (Yv.pur rfl) ?_
      refine TL.nil ?_
      refine K.seq ?_
      refine T.draw (.still 0 (.still 1 (.still 2 (.still 3 (.still 4 (.still 5 (.still 6 (.still 7 (.still 8 (.still 9 (.still 10 (.still 11 (.still 12 (.eff 13 (.still 14 (.still 15 (.eff 16 .done))))))))))))))))) [.bag (xs.map dE)] (by kernel_rfl) (by repeat (first | exact List.Sublist.refl _ | exact List.nil_sublist _ | refine List.Sublist.cons_cons _ ?_ | refine List.Sublist.cons _ ?_)) ?_
      refine TS.still rfl (Wt.none rfl) rfl rfl (Yv.pur rfl) ?_
      refine TS.still rfl (Wt.none rfl) rfl rfl (Yv.pur rfl) ?_
      refine TS.still rfl (Wt.none rfl) rfl rfl (Yv.pur rfl) ?_
      refine TS.still rfl (Wt.none rfl) rfl rfl (Yv.pur rfl) ?_
      refine TS.still rfl (Wt.none rfl) rfl rfl (Yv.fieldAddr rfl rfl) ?_
      refine TS.still rfl (Wt.none rfl) rfl rfl (Yv.loadB rfl rfl hsp0 (fun h => h)) ?_
      refine TS.still rfl (Wt.none rfl) rfl rfl (Yv.pur rfl) ?_
      refine TS.still rfl (Wt.none rfl) rfl rfl (Yv.fieldAddr rfl rfl) ?_
      refine TS.still rfl (Wt.none rfl) rfl rfl (Yv.loadB rfl rfl hS0 (fun h => h)) ?_
      refine TS.still rfl (Wt.none rfl) rfl rfl (Yv.pur rfl) ?_
      refine TS.still rfl (Wt.none rfl) rfl rfl (Yv.indexSl rfl rfl rfl rfl (by omega)) ?_
      refine TS.still rfl (Wt.none rfl) rfl rfl (Yv.loadC (j := 0) rfl rfl hkS rfl rfl (fun h => h)) ?_
      refine TS.still rfl (Wt.none rfl) rfl rfl (Yv.pur rfl) ?_
      refine TS.eff ?_
      (refine TSo.ew rfl (Wt.none rfl) rfl rfl (Ew.callH rfl rfl rfl (fun w hw => channels_ret _ w (h.tab.keptF hw))) ?_; rintro v43 _ ⟨_, hv43, rfl, rfl⟩; refine ⟨(by repeat (first | exact List.Sublist.refl _ | exact List.nil_sublist _ | refine List.Sublist.cons_cons _ ?_ | refine List.Sublist.cons _ ?_)), ?_⟩)
      refine TS.still rfl (Wt.none rfl) rfl rfl (Yv.build rfl rfl) ?_
      refine TS.still rfl (Wt.none rfl) rfl rfl (Yv.indexSl rfl rfl rfl rfl (by omega)) ?_
      refine TS.eff ?_
      (refine TSo.ew0 rfl (Wt.none rfl) rfl (Ew.storeSA 1 rfl rfl rfl rfl rfl (by rw [fillD_len (by omega)]; simp; omega)) ?_; rintro _ _ ⟨rfl, rfl⟩; refine ⟨(by repeat (first | exact List.Sublist.refl _ | exact List.nil_sublist _ | refine List.Sublist.cons_cons _ ?_ | refine List.Sublist.cons _ ?_)), ?_⟩)
      refine TS.done ?_
      refine K.blk_normal ?_
      refine K.seq ?_
      refine T.region ?_
      refine TL.yv (Wt.none rfl) rfl rfl (Yv.addI rfl rfl rfl (by omega)) ?_
      refine TL.yv (Wt.none rfl) rfl rfl (Yv.pur rfl) ?_
      refine TL.nil ?_
      refine K.intoBE 1 ((xs ++ [(Dx.mk (nth Y.st xs.length) v43 ((chansN (nth L xs.length)).map fun j : Nat => (j : Int)))]).map dE) rfl (by rw [List.map_append]; simp only [List.map_cons, List.map_nil, dE, List.length_map]; rw [← nums_flat]) ?_
      exact K.next (xs ++ [(Dx.mk (nth Y.st xs.length) v43 ((chansN (nth L xs.length)).map fun j : Nat => (j : Int)))]) ⟨by simp; omega, by rw [List.map_append, hxs, List.length_append]; exact domsF_succ.symm⟩ (by simp; omega) (by repeat (first | exact Sub.nil | refine Sub.cons rfl ?_ | (refine Sub.consI rfl (by simp) ?_))) (by rw [← fillD_store (p := 0 + xs.length * 2) (d := (Dx.mk (nth Y.st xs.length) v43 ((chansN (nth L xs.length)).map fun j : Nat => (j : Int)))) (by omega) (by omega)]; exact (by repeat (first | exact List.Sublist.refl _ | exact List.nil_sublist _ | refine List.Sublist.cons_cons _ ?_ | refine List.Sublist.cons _ ?_)))
    · have p1 := h1
      try simp only [decide_eq_true_eq, decide_eq_false_iff_not, Int.not_lt, Int.not_le, Bool.not_eq_true', Bool.not_eq_false', Decidable.not_not, Bool.and_eq_true, Bool.or_eq_true, Bool.and_eq_false_iff, Bool.or_eq_false_iff] at p1
      refine T.exit ?_
      refine K.then_exit ?_
      refine K.then_exit ?_
      refine K.blk_exit_eq ?_
      refine K.seq ?_
      refine T.seq ?_
      refine T.region ?_
      refine TL.yv (Wt.none rfl) rfl rfl (Yv.pur rfl) ?_
      refine TL.yv (Wt.none rfl) rfl rfl (Yv.pur rfl) ?_
      refine TL.nil ?_
      refine K.seq ?_
      refine T.ret ?_
      exact K.ret1 rfl rfl (fun w' hw => ⟨(sV g19 L.length, xs), by rw [hxs, show xs.length = Y.n by omega], rfl, by rw [show L.length = xs.length by omega, fillD_full] at hw; rw [show L.length = xs.length by omega]; exact hw⟩)
end Go.Proofs.YtljgejbmimapdaaDoor
