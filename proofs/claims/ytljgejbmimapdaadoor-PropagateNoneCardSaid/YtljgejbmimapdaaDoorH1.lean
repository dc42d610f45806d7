/- The stations that a change concerns. -/
import Derived.Test.YtljgejbmimapdaaDoorG2
set_option maxRecDepth 100000
set_option maxHeartbeats 4000000
set_option linter.unusedSimpArgs false
set_option linter.unusedVariables false
set_option linter.unusedSectionVars false
namespace Go.Proofs.YtljgejbmimapdaaDoor
open Go.RowKit

/-- A state over tables that stay: w0 is the world in which they were made. -/
structure StF (w0 w : World) (sp gl tp : Nat) (Y : Tb) (L : Ws) (c : Bool) : Prop where
  tb : TablesAt w0 tp Y
  fr : Fz w0 w
  c0 : w.cell? ⟨sp, 0, none⟩ = some (.pointer (some ⟨tp, 0, none⟩))
  c1 : w.cell? ⟨sp, 1, none⟩ = some (.slice (some ⟨gl, 0, none⟩) L.length L.length)
  lf : SlOf w (.slice (some ⟨gl, 0, none⟩) L.length L.length) Le 1 L
  len : L.length = Y.n
  c2 : w.cell? ⟨sp, 2, none⟩ = some (.bool c)
  tab : Tab w
theorem StF.st {w0 w : World} {sp gl tp : Nat} {Y : Tb} {L : Ws} {c : Bool} (h : StF w0 w sp gl tp Y L c) : StateAt w sp Y L c :=
  ⟨h.tab, ⟨tp, h.c0, h.tb.later h.fr⟩, ⟨_, h.c1, h.lf⟩, h.len, h.c2⟩
theorem StF.kept {w0 w w' : World} {M : Nat → Prop} {hs : HS} {sp gl tp : Nat} {Y : Tb} {L : Ws} {c : Bool} (h : StF w0 w sp gl tp Y L c) (hw : Hp w M hs w') (h0 : ∀ g, M g → ¬ IsC w0 g) (h1 : ¬ M sp) (h2 : ¬ M gl) (h3 : ¬ M 0) : StF w0 w' sp gl tp Y L c :=
  ⟨h.tb, Fz.hp h.fr hw h0, hw.cellB h.c0 h1, hw.cellB h.c1 h1, h.lf.keptM hw (fun g hg => by simp [Value.ownBlock] at hg; subst hg; exact h2), h.len, hw.cellB h.c2 h1, h.tab.kept hw h3⟩
def touchF (Y : Tb) (L : Ws) (i : Nat) (ws : Ws) : Ws :=
  if (only L i : Int) = 0 then ws else
    (Y.out i).foldl (fun s x => if (only L x.to.toNat : Int) = 0 then sAdd s x.to.toNat else (Y.inn x.to.toNat).foldl (fun s o => sAdd s o.fr.toNat) (sAdd s x.to.toNat))
      ((Y.inn i).foldl (fun s x => sAdd s x.fr.toNat) ((Y.ps i).foldl (fun s x => sAdd s (x.a + x.b - (i : Int)).toNat) ws))
theorem fold_len {α : Type} (f : Ws → α → Ws) (hf : ∀ s x, (f s x).length = s.length) : ∀ (l : List α) (s : Ws), (l.foldl f s).length = s.length
  | [], _ => rfl
  | x :: r, s => by rw [List.foldl_cons, fold_len f hf r, hf]
theorem addFr_len (l : List Ld) (s : Ws) : (l.foldl (fun s x => sAdd s x.fr.toNat) s).length = s.length := fold_len _ (fun _ _ => sAdd_len) l s
theorem addPr_len (i : Int) (l : List Pr) (s : Ws) : (l.foldl (fun s x => sAdd s (x.a + x.b - (i : Int)).toNat) s).length = s.length := fold_len _ (fun _ _ => sAdd_len) l s
def outStep (Y : Tb) (L : Ws) (s : Ws) (x : Ld) : Ws := if (only L x.to.toNat : Int) = 0 then sAdd s x.to.toNat else (Y.inn x.to.toNat).foldl (fun s o => sAdd s o.fr.toNat) (sAdd s x.to.toNat)
theorem outStep_len {Y : Tb} {L s : Ws} {x : Ld} : (outStep Y L s x).length = s.length := by
  unfold outStep; split
  · exact sAdd_len
  · rw [addFr_len, sAdd_len]
theorem addOut_len (Y : Tb) (L : Ws) (l : List Ld) (s : Ws) : (l.foldl (outStep Y L) s).length = s.length := fold_len _ (fun _ _ => outStep_len) l s
theorem touchF_len (Y : Tb) (L : Ws) (i : Nat) (ws : Ws) : (touchF Y L i ws).length = ws.length := by
  unfold touchF; split
  · rfl
  · exact (addOut_len Y L _ _).trans ((addFr_len _ _).trans (addPr_len _ _ _))

theorem addTo_ret (ws : Ws) (hws : ws.length = 8) (j : Nat) (hj : j < 512) (z : Int) (hz : z = (j : Int)) (p q : Nat) (w : World) (hq : w.cell? ⟨q, 0, none⟩ = some (.pointer (some ⟨p, 0, none⟩))) (hqp : q ≠ p) (hp : (Ent.row p 127 ws.cells).ok w) : Calls Tryd.prog 108 #[.int .i64 z, .pointer (some ⟨q, 0, none⟩)] w fun e w' => ∃ y : Unit, True ∧ e = .returned (.tuple #[]) ∧ Hp w (Ent.row p 127 ws.cells).fp [.row p 127 (Ws.cells (sAdd ws j))] w' := by
  subst hz
  refine calls_T (M := (Ent.row p 127 ws.cells).fp) (hs := [Ent.row p 127 ws.cells]) Tryd.func108 rfl rfl rfl (Hp.start hp) ?_
  refine T.draw (.still 0 (.still 1 (.still 2 (.still 4 (.eff 3 (.eff 5 (.still 6 (.still 7 (.still 8 (.still 9 (.eff 10 .done))))))))))) [] (by kernel_rfl) (by repeat (first | exact List.Sublist.refl _ | exact List.nil_sublist _ | refine List.Sublist.cons_cons _ ?_ | refine List.Sublist.cons _ ?_)) ?_
  refine TS.still rfl (Wt.none rfl) rfl rfl (Yv.loadB rfl rfl hq (fun hh => hqp (Ent.row_fp.1 hh))) ?_
  refine TS.still rfl (Wt.none rfl) rfl rfl (Yv.loadB rfl rfl hq (fun hh => hqp (Ent.row_fp.1 hh))) ?_
  refine TS.still rfl (Wt.none rfl) rfl rfl (Yv.pur rfl) ?_
  refine TS.still rfl (Wt.none rfl) rfl rfl (Yv.pur rfl) ?_
  refine TS.eff ?_
  refine TSo.yv rfl (Wt.none rfl) rfl rfl (Yv.loadAO 0 rfl rfl rfl (by rw [List.length_map, hws])) (by repeat (first | exact List.Sublist.refl _ | exact List.nil_sublist _ | refine List.Sublist.cons_cons _ ?_ | refine List.Sublist.cons _ ?_)) ?_
  refine TS.eff ?_
  (refine TSo.ew rfl (Wt.none rfl) rfl rfl (Ew.callD rfl rfl rfl (fun w hw => add_ret ws hws j hj w)) ?_; rintro _ _ ⟨rfl, rfl⟩; refine ⟨(by repeat (first | exact List.Sublist.refl _ | exact List.nil_sublist _ | refine List.Sublist.cons_cons _ ?_ | refine List.Sublist.cons _ ?_)), ?_⟩)
  refine TS.still rfl (Wt.none rfl) rfl rfl (Yv.pur rfl) ?_
  refine TS.still rfl (Wt.none rfl) rfl rfl (Yv.pur rfl) ?_
  refine TS.still rfl (Wt.none rfl) rfl rfl (Yv.pur rfl) ?_
  refine TS.still rfl (Wt.none rfl) rfl rfl (Yv.pur rfl) ?_
  refine TS.eff ?_
  (refine TSo.ew0 rfl (Wt.none rfl) rfl (Ew.storeAll 0 rfl rfl rfl rfl (by rw [List.length_map, sAdd_len, hws]) (by rw [List.length_map, List.length_map, sAdd_len])) ?_; rintro _ _ ⟨rfl, rfl⟩; refine ⟨(by repeat (first | exact List.Sublist.refl _ | exact List.nil_sublist _ | refine List.Sublist.cons_cons _ ?_ | refine List.Sublist.cons _ ?_)), ?_⟩)
  refine TS.done ?_
  exact K.end0 rfl (fun w' hw => ⟨(), trivial, rfl, hw⟩)
theorem touch_ret (w0 : World) (sp gl tp p : Nat) (Y : Tb) (L : Ws) (c : Bool) (ws : Ws) (hws : ws.length = 8) (i : Nat) (z : Int) (hz : z = (i : Int)) (hi : i < Y.n) (w : World) (h : StF w0 w sp gl tp Y L c) (hok : Y.Ok) (hpN : ¬ IsC w0 p) (hp0 : p ≠ 0) (hsp : sp ≠ p) (hgl : gl ≠ p) (hp : (Ent.row p 127 ws.cells).ok w) : Calls Tryd.prog 83 #[.pointer (some ⟨sp, 0, none⟩), .int .i64 z, .pointer (some ⟨p, 0, none⟩)] w fun e w' => ∃ y : Unit, True ∧ e = .returned (.tuple #[]) ∧ Hp w (Ent.row p 127 ws.cells).fp [.row p 127 (Ws.cells (touchF Y L i ws))] w' := by
  subst hz
  obtain ⟨hTb, hfr, hsp0, hsp1, hlf, hLn, hsp2, htab⟩ := id h
  have hT := hTb
  have hn512 := hok.n
  obtain ⟨hlenP, hrngP⟩ := hok.ps i hi
  obtain ⟨hlenI, hrngI⟩ := hok.inn i hi
  obtain ⟨hlenO, hrngO⟩ := hok.out i hi
  obtain ⟨vP, hP0, hP⟩ := hT.ps.at'
  obtain ⟨AP, capP, rfl, hPs⟩ := hP.op
  have hPn := hT.ps.len
  obtain ⟨gP, oP, rfl, hPc⟩ := hPs (by omega)
  rw [hPn] at hP0
  have hPi := hPc i (by rw [hPn]; exact hi)
  obtain ⟨BP, cpP, hvP, hslP⟩ := (hT.ps.each i hi).op
  simp only [hvP] at hPi
  obtain ⟨vI, hI0, hI⟩ := hT.inn.at'
  obtain ⟨AI, capI, rfl, hIs⟩ := hI.op
  have hIn := hT.inn.len
  obtain ⟨gI, oI, rfl, hIc⟩ := hIs (by omega)
  rw [hIn] at hI0
  have hIi := hIc i (by rw [hIn]; exact hi)
  obtain ⟨BI, cpI, hvI, hslI⟩ := (hT.inn.each i hi).op
  simp only [hvI] at hIi
  obtain ⟨vO, hO0, hO⟩ := hT.out.at'
  obtain ⟨AO, capO, rfl, hOs⟩ := hO.op
  have hOn := hT.out.len
  obtain ⟨gO, oO, rfl, hOc⟩ := hOs (by omega)
  rw [hOn] at hO0
  have hOi := hOc i (by rw [hOn]; exact hi)
  obtain ⟨BO, cpO, hvO, hslO⟩ := (hT.out.each i hi).op
  simp only [hvO] at hOi
  have hkeep : ∀ hs w', Hp w (Ent.row p 127 ws.cells).fp hs w' → StateAt w' sp Y L c := fun hs w' hw => (h.kept hw (fun g hg => by rw [Ent.row_fp.1 hg]; exact hpN) (fun hg => hsp (Ent.row_fp.1 hg)) (fun hg => hgl (Ent.row_fp.1 hg)) (fun hg => hp0 (Ent.row_fp.1 hg).symm)).st
  refine calls_T (M := (Ent.row p 127 ws.cells).fp) (hs := [Ent.row p 127 ws.cells]) Tryd.func83 rfl rfl rfl (Hp.start hp) ?_
  refine T.seq ?_
  refine T.region ?_
  (refine TL.ew (Wt.none rfl) rfl rfl (Ew.box rfl rfl) ?_; rintro _ _ ⟨g5, rfl, rfl⟩)
  refine TL.nil ?_
  refine K.seq ?_
  refine T.seq ?_
  refine T.seq ?_
  refine T.region ?_
  refine TL.yv (Wt.none rfl) rfl rfl (Yv.pur rfl) ?_
  refine TL.yv (Wt.none rfl) rfl rfl (Yv.pur rfl) ?_
  (refine TL.ew (Wt.none rfl) rfl rfl (Ew.callD rfl rfl rfl (fun w hw => only_ret sp Y L c i _ rfl hi w (hkeep _ _ hw))) ?_; rintro _ _ ⟨rfl, rfl⟩)
  refine TL.yv (Wt.none rfl) rfl rfl (Yv.pur rfl) ?_
  refine TL.nil ?_
  refine K.seq ?_
  refine T.cond rfl (fun h1 => ?_) (fun h1 => ?_)
  · have p1 := h1
    try simp only [decide_eq_true_eq, decide_eq_false_iff_not, Int.not_lt, Int.not_le, Bool.not_eq_true', Bool.not_eq_false', Decidable.not_not, Bool.and_eq_true, Bool.or_eq_true, Bool.and_eq_false_iff, Bool.or_eq_false_iff] at p1
    refine T.ret ?_
    refine K.then_ret ?_
    exact K.ret0 rfl (fun w' hw => ⟨(), trivial, rfl, by rw [touchF, if_pos p1]; exact hw.sub (by repeat (first | exact List.Sublist.refl _ | exact List.nil_sublist _ | refine List.Sublist.cons_cons _ ?_ | refine List.Sublist.cons _ ?_))⟩)
  · have p1 := h1
    try simp only [decide_eq_true_eq, decide_eq_false_iff_not, Int.not_lt, Int.not_le, Bool.not_eq_true', Bool.not_eq_false', Decidable.not_not, Bool.and_eq_true, Bool.or_eq_true, Bool.and_eq_false_iff, Bool.or_eq_false_iff] at p1
    refine T.skip ?_
    refine K.seq ?_
    refine T.seq ?_
    refine T.region ?_
    refine TL.yv (Wt.none rfl) rfl rfl (Yv.pur rfl) ?_
    refine TL.yv (Wt.none rfl) rfl rfl (Yv.pur rfl) ?_
    refine TL.nil ?_
    refine K.seq ?_
    refine T.cut (gs := [(0, .pointer (some ⟨sp, 0, none⟩)), (1, .int .i64 (i : Int)), (6, .func (.func 108) #[] #[.pointer (some ⟨g5, 0, none⟩)])]) (hs' := [.row g5 140 [.pointer (some ⟨p, 0, none⟩)], .row p 127 (Ws.cells ((Y.ps i).foldl (fun s x => sAdd s (x.a + x.b - (i : Int)).toNat) ws))]) ?_ ?_
    · skip
      refine T.seq ?_
      refine T.region ?_
      refine TL.yv (Wt.none rfl) rfl rfl (Yv.pur rfl) ?_
      refine TL.yv (Wt.none rfl) rfl rfl (Yv.pur rfl) ?_
      refine TL.yv (Wt.none rfl) rfl rfl (Yv.fieldAddr rfl rfl) ?_
      refine TL.yv (Wt.none rfl) rfl rfl (Yv.loadB rfl rfl hsp0 (fun hh => hsp (Ent.row_fp.1 hh))) ?_
      refine TL.yv (Wt.none rfl) rfl rfl (Yv.pur rfl) ?_
      refine TL.yv (Wt.none rfl) rfl rfl (Yv.fieldAddr rfl rfl) ?_
      refine TL.yv (Wt.none rfl) rfl rfl (Yv.loadB rfl rfl (hfr.cell hP0) (fun hh => hpN (by have := cell_isC hP0; rw [← Ent.row_fp.1 hh]; exact this))) ?_
      refine TL.yv (Wt.none rfl) rfl rfl (Yv.pur rfl) ?_
      refine TL.yv (Wt.none rfl) rfl rfl (Yv.indexSl rfl rfl rfl rfl (by omega)) ?_
      refine TL.yv (Wt.none rfl) rfl rfl (Yv.loadC (j := 0) rfl rfl (Fz.cs hfr hPi) rfl rfl (fun hh => hpN (by have := Cs.isC hPi (by simp); rw [← Ent.row_fp.1 hh]; exact this))) ?_
      refine TL.yv (Wt.none rfl) rfl rfl (Yv.lenSl rfl rfl) ?_
      refine TL.yv (Wt.none rfl) rfl rfl (Yv.pur rfl) ?_
      refine TL.nil ?_
      refine K.seq ?_
      refine T.block ?_
      refine T.loop (ι := Nat) (fun k => [(0, .pointer (some ⟨sp, 0, none⟩)), (1, .int .i64 (i : Int)), (6, .func (.func 108) #[] #[.pointer (some ⟨g5, 0, none⟩)]), (29, .slice BP (Y.ps i).length cpP), (30, .int .i64 ((Y.ps i).length : Int)), (31, .int .i64 (k : Int))]) (fun k => [.row g5 140 [.pointer (some ⟨p, 0, none⟩)], .row p 127 (Ws.cells (((Y.ps i).take k).foldl (fun s x => sAdd s (x.a + x.b - (i : Int)).toNat) ws))]) (fun k => k ≤ (Y.ps i).length) (fun k => (Y.ps i).length - k) 0 ?_ ?_ ?_ ?_
      · omega
      · exact (by repeat (first | exact Sub.nil | refine Sub.cons rfl ?_))
      · exact (by repeat (first | exact List.Sublist.refl _ | exact List.nil_sublist _ | refine List.Sublist.cons_cons _ ?_ | refine List.Sublist.cons _ ?_))
      · intro k hphi
        refine T.seq ?_
        refine T.region ?_
        refine TL.yv (Wt.none rfl) rfl rfl (Yv.pur rfl) ?_
        refine TL.nil ?_
        refine K.seq ?_
        refine T.seq ?_
        refine T.cond rfl (fun h2 => ?_) (fun h2 => ?_)
        · have p2 := h2
          try simp only [decide_eq_true_eq, decide_eq_false_iff_not, Int.not_lt, Int.not_le, Bool.not_eq_true', Bool.not_eq_false', Decidable.not_not, Bool.and_eq_true, Bool.or_eq_true, Bool.and_eq_false_iff, Bool.or_eq_false_iff] at p2
          obtain ⟨ghk, offhk, rfl, hc⟩ := hslP (by omega)
          have hk := hc k (by omega)
          simp only [Pr.cells] at hk
          have hrhk := hrngP _ (nth_mem (xs := Y.ps i) (k := k) (by omega))
          refine T.skip ?_
          refine K.seq ?_
          refine T.seq ?_
          refine T.block ?_
          refine T.seq ?_
          refine T.region ?_
          refine TL.yv (Wt.none rfl) rfl rfl (Yv.indexSl rfl rfl rfl rfl (by omega)) ?_
          refine TL.yv (Wt.none rfl) rfl rfl (Yv.loadAB rfl rfl (Fz.cs hfr hk) rfl (fun hh => hpN (by have := Cs.isC hk (by simp); rw [← Ent.row_fp.1 hh]; exact this))) ?_
          (refine TL.ew (Wt.none rfl) rfl rfl (Ew.alloc rfl) ?_; rintro _ _ ⟨g8, rfl, rfl⟩)
          (refine TL.ew0 (Wt.none rfl) rfl (Ew.storeAll 0 rfl rfl rfl rfl rfl rfl) ?_; rintro _ _ ⟨rfl, rfl⟩)
          refine TL.nil ?_
          refine K.seq ?_
          refine T.region ?_
          refine TL.yv (Wt.none rfl) rfl rfl (Yv.pur rfl) ?_
          refine TL.yv (Wt.none rfl) rfl rfl (Yv.fieldAddr rfl rfl) ?_
          refine TL.yv (Wt.none rfl) rfl rfl (Yv.loadO 0 rfl rfl rfl rfl) ?_
          refine TL.yv (Wt.none rfl) rfl rfl (Yv.fieldAddr rfl rfl) ?_
          refine TL.yv (Wt.none rfl) rfl rfl (Yv.loadO 0 rfl rfl rfl rfl) ?_
          refine TL.yv (Wt.none rfl) rfl rfl (Yv.addI rfl rfl rfl (by omega)) ?_
          refine TL.yv (Wt.none rfl) rfl rfl (Yv.pur rfl) ?_
          refine TL.yv (Wt.none rfl) rfl rfl (Yv.subI rfl rfl rfl (by omega)) ?_
          (refine TL.ew (Wt.none rfl) rfl rfl (Ew.callMC 2 rfl rfl rfl rfl (fun w hw => addTo_ret (((Y.ps i).take k).foldl (fun s x => sAdd s (x.a + x.b - (i : Int)).toNat) ws) (by rw [addPr_len, hws]) ((nth (Y.ps i) k).a + (nth (Y.ps i) k).b - (i : Int)).toNat (by omega) _ (by omega) p g5 w (row_cell (Ent.row_ok.1 (hw.get (i := 1) rfl)) 0) (fun hh => hw.ne (i := 1) (j := 2) (by omega) rfl rfl (g := g5) (Ent.row_fp.2 rfl) (Ent.row_fp.2 hh)) (hw.get (i := 2) rfl))) ?_; rintro _ _ ⟨-, -, rfl, rfl⟩)
          refine TL.nil ?_
          refine K.blk_normal ?_
          refine K.seq ?_
          refine T.region ?_
          refine TL.yv (Wt.none rfl) rfl rfl (Yv.addI rfl rfl rfl (by omega)) ?_
          refine TL.yv (Wt.none rfl) rfl rfl (Yv.pur rfl) ?_
          refine TL.nil ?_
          exact K.next (k + 1) (by omega) (by omega) (by repeat (first | exact Sub.nil | refine Sub.cons rfl ?_)) (by rw [foldl_take _ _ (by omega)]; exact (by repeat (first | exact List.Sublist.refl _ | exact List.nil_sublist _ | refine List.Sublist.cons_cons _ ?_ | refine List.Sublist.cons _ ?_)))
        · have p2 := h2
          try simp only [decide_eq_true_eq, decide_eq_false_iff_not, Int.not_lt, Int.not_le, Bool.not_eq_true', Bool.not_eq_false', Decidable.not_not, Bool.and_eq_true, Bool.or_eq_true, Bool.and_eq_false_iff, Bool.or_eq_false_iff] at p2
          refine T.exit ?_
          refine K.then_exit ?_
          refine K.then_exit ?_
          refine K.blk_exit_eq ?_
          exact K.at (by repeat (first | exact Sub.nil | refine Sub.cons rfl ?_)) (by rw [show (Y.ps i).take k = Y.ps i from List.take_of_length_le (by omega)]; exact (by repeat (first | exact List.Sublist.refl _ | exact List.nil_sublist _ | refine List.Sublist.cons_cons _ ?_ | refine List.Sublist.cons _ ?_)))
    · skip
      refine T.cut (gs := [(0, .pointer (some ⟨sp, 0, none⟩)), (1, .int .i64 (i : Int)), (6, .func (.func 108) #[] #[.pointer (some ⟨g5, 0, none⟩)])]) (hs' := [.row g5 140 [.pointer (some ⟨p, 0, none⟩)], .row p 127 (Ws.cells ((Y.inn i).foldl (fun s x => sAdd s x.fr.toNat) ((Y.ps i).foldl (fun s x => sAdd s (x.a + x.b - (i : Int)).toNat) ws)))]) ?_ ?_
      · skip
        refine T.seq ?_
        refine T.region ?_
        refine TL.yv (Wt.none rfl) rfl rfl (Yv.pur rfl) ?_
        refine TL.yv (Wt.none rfl) rfl rfl (Yv.pur rfl) ?_
        refine TL.yv (Wt.none rfl) rfl rfl (Yv.fieldAddr rfl rfl) ?_
        refine TL.yv (Wt.none rfl) rfl rfl (Yv.loadB rfl rfl hsp0 (fun hh => hsp (Ent.row_fp.1 hh))) ?_
        refine TL.yv (Wt.none rfl) rfl rfl (Yv.pur rfl) ?_
        refine TL.yv (Wt.none rfl) rfl rfl (Yv.fieldAddr rfl rfl) ?_
        refine TL.yv (Wt.none rfl) rfl rfl (Yv.loadB rfl rfl (hfr.cell hI0) (fun hh => hpN (by have := cell_isC hI0; rw [← Ent.row_fp.1 hh]; exact this))) ?_
        refine TL.yv (Wt.none rfl) rfl rfl (Yv.pur rfl) ?_
        refine TL.yv (Wt.none rfl) rfl rfl (Yv.indexSl rfl rfl rfl rfl (by omega)) ?_
        refine TL.yv (Wt.none rfl) rfl rfl (Yv.loadC (j := 0) rfl rfl (Fz.cs hfr hIi) rfl rfl (fun hh => hpN (by have := Cs.isC hIi (by simp); rw [← Ent.row_fp.1 hh]; exact this))) ?_
        refine TL.yv (Wt.none rfl) rfl rfl (Yv.lenSl rfl rfl) ?_
        refine TL.yv (Wt.none rfl) rfl rfl (Yv.pur rfl) ?_
        refine TL.nil ?_
        refine K.seq ?_
        refine T.block ?_
        refine T.loop (ι := Nat) (fun k => [(0, .pointer (some ⟨sp, 0, none⟩)), (1, .int .i64 (i : Int)), (6, .func (.func 108) #[] #[.pointer (some ⟨g5, 0, none⟩)]), (54, .slice BI (Y.inn i).length cpI), (55, .int .i64 ((Y.inn i).length : Int)), (56, .int .i64 (k : Int))]) (fun k => [.row g5 140 [.pointer (some ⟨p, 0, none⟩)], .row p 127 (Ws.cells (((Y.inn i).take k).foldl (fun s x => sAdd s x.fr.toNat) ((Y.ps i).foldl (fun s x => sAdd s (x.a + x.b - (i : Int)).toNat) ws)))]) (fun k => k ≤ (Y.inn i).length) (fun k => (Y.inn i).length - k) 0 ?_ ?_ ?_ ?_
        · omega
        · exact (by repeat (first | exact Sub.nil | refine Sub.cons rfl ?_))
        · exact (by repeat (first | exact List.Sublist.refl _ | exact List.nil_sublist _ | refine List.Sublist.cons_cons _ ?_ | refine List.Sublist.cons _ ?_))
        · intro k hphi
          refine T.seq ?_
          refine T.region ?_
          refine TL.yv (Wt.none rfl) rfl rfl (Yv.pur rfl) ?_
          refine TL.nil ?_
          refine K.seq ?_
          refine T.seq ?_
          refine T.cond rfl (fun h3 => ?_) (fun h3 => ?_)
          · have p3 := h3
            try simp only [decide_eq_true_eq, decide_eq_false_iff_not, Int.not_lt, Int.not_le, Bool.not_eq_true', Bool.not_eq_false', Decidable.not_not, Bool.and_eq_true, Bool.or_eq_true, Bool.and_eq_false_iff, Bool.or_eq_false_iff] at p3
            obtain ⟨ghk, offhk, rfl, hc⟩ := hslI (by omega)
            have hk := hc k (by omega)
            simp only [Ld.cells] at hk
            have hrhk := hrngI _ (nth_mem (xs := Y.inn i) (k := k) (by omega))
            refine T.skip ?_
            refine K.seq ?_
            refine T.seq ?_
            refine T.block ?_
            refine T.seq ?_
            refine T.region ?_
            refine TL.yv (Wt.none rfl) rfl rfl (Yv.indexSl rfl rfl rfl rfl (by omega)) ?_
            refine TL.yv (Wt.none rfl) rfl rfl (Yv.loadAB rfl rfl (Fz.cs hfr hk) rfl (fun hh => hpN (by have := Cs.isC hk (by simp); rw [← Ent.row_fp.1 hh]; exact this))) ?_
            (refine TL.ew (Wt.none rfl) rfl rfl (Ew.alloc rfl) ?_; rintro _ _ ⟨g10, rfl, rfl⟩)
            (refine TL.ew0 (Wt.none rfl) rfl (Ew.storeAll 0 rfl rfl rfl rfl rfl rfl) ?_; rintro _ _ ⟨rfl, rfl⟩)
            refine TL.nil ?_
            refine K.seq ?_
            refine T.region ?_
            refine TL.yv (Wt.none rfl) rfl rfl (Yv.pur rfl) ?_
            refine TL.yv (Wt.none rfl) rfl rfl (Yv.fieldAddr rfl rfl) ?_
            refine TL.yv (Wt.none rfl) rfl rfl (Yv.loadO 0 rfl rfl rfl rfl) ?_
            (refine TL.ew (Wt.none rfl) rfl rfl (Ew.callMC 2 rfl rfl rfl rfl (fun w hw => addTo_ret (((Y.inn i).take k).foldl (fun s x => sAdd s x.fr.toNat) ((Y.ps i).foldl (fun s x => sAdd s (x.a + x.b - (i : Int)).toNat) ws)) (by rw [addFr_len, addPr_len, hws]) (nth (Y.inn i) k).fr.toNat (by omega) _ (by omega) p g5 w (row_cell (Ent.row_ok.1 (hw.get (i := 1) rfl)) 0) (fun hh => hw.ne (i := 1) (j := 2) (by omega) rfl rfl (g := g5) (Ent.row_fp.2 rfl) (Ent.row_fp.2 hh)) (hw.get (i := 2) rfl))) ?_; rintro _ _ ⟨-, -, rfl, rfl⟩)
            refine TL.nil ?_
            refine K.blk_normal ?_
            refine K.seq ?_
            refine T.region ?_
            refine TL.yv (Wt.none rfl) rfl rfl (Yv.addI rfl rfl rfl (by omega)) ?_
            refine TL.yv (Wt.none rfl) rfl rfl (Yv.pur rfl) ?_
            refine TL.nil ?_
            exact K.next (k + 1) (by omega) (by omega) (by repeat (first | exact Sub.nil | refine Sub.cons rfl ?_)) (by rw [foldl_take _ _ (by omega)]; exact (by repeat (first | exact List.Sublist.refl _ | exact List.nil_sublist _ | refine List.Sublist.cons_cons _ ?_ | refine List.Sublist.cons _ ?_)))
          · have p3 := h3
            try simp only [decide_eq_true_eq, decide_eq_false_iff_not, Int.not_lt, Int.not_le, Bool.not_eq_true', Bool.not_eq_false', Decidable.not_not, Bool.and_eq_true, Bool.or_eq_true, Bool.and_eq_false_iff, Bool.or_eq_false_iff] at p3
            refine T.exit ?_
            refine K.then_exit ?_
            refine K.then_exit ?_
            refine K.blk_exit_eq ?_
            exact K.at (by repeat (first | exact Sub.nil | refine Sub.cons rfl ?_)) (by rw [show (Y.inn i).take k = Y.inn i from List.take_of_length_le (by omega)]; exact (by repeat (first | exact List.Sublist.refl _ | exact List.nil_sublist _ | refine List.Sublist.cons_cons _ ?_ | refine List.Sublist.cons _ ?_)))
      · skip
        refine T.seq ?_
        refine T.region ?_
        refine TL.yv (Wt.none rfl) rfl rfl (Yv.pur rfl) ?_
        refine TL.yv (Wt.none rfl) rfl rfl (Yv.pur rfl) ?_
        refine TL.yv (Wt.none rfl) rfl rfl (Yv.fieldAddr rfl rfl) ?_
        refine TL.yv (Wt.none rfl) rfl rfl (Yv.loadB rfl rfl hsp0 (fun hh => hsp (Ent.row_fp.1 hh))) ?_
        refine TL.yv (Wt.none rfl) rfl rfl (Yv.pur rfl) ?_
        refine TL.yv (Wt.none rfl) rfl rfl (Yv.fieldAddr rfl rfl) ?_
        refine TL.yv (Wt.none rfl) rfl rfl (Yv.loadB rfl rfl (hfr.cell hO0) (fun hh => hpN (by have := cell_isC hO0; rw [← Ent.row_fp.1 hh]; exact this))) ?_
        refine TL.yv (Wt.none rfl) rfl rfl (Yv.pur rfl) ?_
        refine TL.yv (Wt.none rfl) rfl rfl (Yv.indexSl rfl rfl rfl rfl (by omega)) ?_
        refine TL.yv (Wt.none rfl) rfl rfl (Yv.loadC (j := 0) rfl rfl (Fz.cs hfr hOi) rfl rfl (fun hh => hpN (by have := Cs.isC hOi (by simp); rw [← Ent.row_fp.1 hh]; exact this))) ?_
        refine TL.yv (Wt.none rfl) rfl rfl (Yv.lenSl rfl rfl) ?_
        refine TL.yv (Wt.none rfl) rfl rfl (Yv.pur rfl) ?_
        refine TL.nil ?_
        refine K.seq ?_
        refine T.block ?_
        refine T.loop (ι := Nat) (fun k => [(0, .pointer (some ⟨sp, 0, none⟩)), (1, .int .i64 (i : Int)), (6, .func (.func 108) #[] #[.pointer (some ⟨g5, 0, none⟩)]), (74, .slice BO (Y.out i).length cpO), (75, .int .i64 ((Y.out i).length : Int)), (76, .int .i64 (k : Int))]) (fun k => [.row g5 140 [.pointer (some ⟨p, 0, none⟩)], .row p 127 (Ws.cells (((Y.out i).take k).foldl (outStep Y L) ((Y.inn i).foldl (fun s x => sAdd s x.fr.toNat) ((Y.ps i).foldl (fun s x => sAdd s (x.a + x.b - (i : Int)).toNat) ws))))]) (fun k => k ≤ (Y.out i).length) (fun k => (Y.out i).length - k) 0 ?_ ?_ ?_ ?_
        · omega
        · exact (by repeat (first | exact Sub.nil | refine Sub.cons rfl ?_))
        · exact (by repeat (first | exact List.Sublist.refl _ | exact List.nil_sublist _ | refine List.Sublist.cons_cons _ ?_ | refine List.Sublist.cons _ ?_))
        · intro k hphi
          refine T.seq ?_
          refine T.region ?_
          refine TL.yv (Wt.none rfl) rfl rfl (Yv.pur rfl) ?_
          refine TL.nil ?_
          refine K.seq ?_
          refine T.seq ?_
          refine T.cond rfl (fun h4 => ?_) (fun h4 => ?_)
          · have p4 := h4
            try simp only [decide_eq_true_eq, decide_eq_false_iff_not, Int.not_lt, Int.not_le, Bool.not_eq_true', Bool.not_eq_false', Decidable.not_not, Bool.and_eq_true, Bool.or_eq_true, Bool.and_eq_false_iff, Bool.or_eq_false_iff] at p4
            obtain ⟨ghk, offhk, rfl, hc⟩ := hslO (by omega)
            have hk := hc k (by omega)
            simp only [Ld.cells] at hk
            have hrhk := hrngO _ (nth_mem (xs := Y.out i) (k := k) (by omega))
            have htn : (nth (Y.out i) k).to.toNat < Y.n := by omega
            obtain ⟨hlenI2, hrngI2⟩ := hok.inn _ htn
            have hIi2 := hIc (nth (Y.out i) k).to.toNat (by rw [hIn]; exact htn)
            obtain ⟨BI2, cpI2, hvI2, hslI2⟩ := (hT.inn.each (nth (Y.out i) k).to.toNat htn).op
            simp only [hvI2] at hIi2
            refine T.skip ?_
            refine K.seq ?_
            refine T.cut (gs := [(0, .pointer (some ⟨sp, 0, none⟩)), (1, .int .i64 (i : Int)), (6, .func (.func 108) #[] #[.pointer (some ⟨g5, 0, none⟩)]), (74, .slice (some ⟨ghk, offhk, none⟩) (Y.out i).length cpO), (75, .int .i64 ((Y.out i).length : Int)), (76, .int .i64 (k : Int))]) (hs' := [.row g5 140 [.pointer (some ⟨p, 0, none⟩)], .row p 127 (Ws.cells (((Y.out i).take (k + 1)).foldl (outStep Y L) ((Y.inn i).foldl (fun s x => sAdd s x.fr.toNat) ((Y.ps i).foldl (fun s x => sAdd s (x.a + x.b - (i : Int)).toNat) ws))))]) ?_ ?_
            · skip
              refine T.block ?_
              refine T.seq ?_
              refine T.region ?_
              refine TL.yv (Wt.none rfl) rfl rfl (Yv.indexSl rfl rfl rfl rfl (by omega)) ?_
              refine TL.yv (Wt.none rfl) rfl rfl (Yv.loadAB rfl rfl (Fz.cs hfr hk) rfl (fun hh => hpN (by have := Cs.isC hk (by simp); rw [← Ent.row_fp.1 hh]; exact this))) ?_
              (refine TL.ew (Wt.none rfl) rfl rfl (Ew.alloc rfl) ?_; rintro _ _ ⟨g12, rfl, rfl⟩)
              (refine TL.ew0 (Wt.none rfl) rfl (Ew.storeAll 0 rfl rfl rfl rfl rfl rfl) ?_; rintro _ _ ⟨rfl, rfl⟩)
              refine TL.nil ?_
              refine K.seq ?_
              refine T.seq ?_
              refine T.region ?_
              refine TL.yv (Wt.none rfl) rfl rfl (Yv.pur rfl) ?_
              refine TL.yv (Wt.none rfl) rfl rfl (Yv.fieldAddr rfl rfl) ?_
              refine TL.yv (Wt.none rfl) rfl rfl (Yv.loadO 0 rfl rfl rfl rfl) ?_
              (refine TL.ew (Wt.none rfl) rfl rfl (Ew.callMC 2 rfl rfl rfl rfl (fun w hw => addTo_ret (((Y.out i).take k).foldl (outStep Y L) ((Y.inn i).foldl (fun s x => sAdd s x.fr.toNat) ((Y.ps i).foldl (fun s x => sAdd s (x.a + x.b - (i : Int)).toNat) ws))) (by rw [addOut_len, addFr_len, addPr_len, hws]) (nth (Y.out i) k).to.toNat (by omega) _ (by omega) p g5 w (row_cell (Ent.row_ok.1 (hw.get (i := 1) rfl)) 0) (fun hh => hw.ne (i := 1) (j := 2) (by omega) rfl rfl (g := g5) (Ent.row_fp.2 rfl) (Ent.row_fp.2 hh)) (hw.get (i := 2) rfl))) ?_; rintro _ _ ⟨-, -, rfl, rfl⟩)
              refine TL.nil ?_
              refine K.seq ?_
              refine T.seq ?_
              refine T.region ?_
              refine TL.yv (Wt.none rfl) rfl rfl (Yv.pur rfl) ?_
              refine TL.yv (Wt.none rfl) rfl rfl (Yv.fieldAddr rfl rfl) ?_
              refine TL.yv (Wt.none rfl) rfl rfl (Yv.loadO 0 rfl rfl rfl rfl) ?_
              (refine TL.ew (Wt.none rfl) rfl rfl (Ew.callD rfl rfl rfl (fun w hw => only_ret sp Y L c ((nth (Y.out i) k).to.toNat) _ (by omega) (by omega) w (hkeep _ _ hw))) ?_; rintro _ _ ⟨rfl, rfl⟩)
              refine TL.yv (Wt.none rfl) rfl rfl (Yv.pur rfl) ?_
              refine TL.nil ?_
              refine K.seq ?_
              refine T.cond rfl (fun h5 => ?_) (fun h5 => ?_)
              · have p5 := h5
                try simp only [decide_eq_true_eq, decide_eq_false_iff_not, Int.not_lt, Int.not_le, Bool.not_eq_true', Bool.not_eq_false', Decidable.not_not, Bool.and_eq_true, Bool.or_eq_true, Bool.and_eq_false_iff, Bool.or_eq_false_iff] at p5
                have hno : ¬ (only L ((nth (Y.out i) k).to.toNat) : Int) = 0 := by assumption
                refine T.seq ?_
                refine T.draw (.still 0 (.still 1 (.still 2 (.still 3 (.still 4 (.still 5 (.still 6 (.still 7 (.still 8 (.still 9 (.still 10 (.still 11 (.still 12 .done))))))))))))) _ (by kernel_rfl) (List.Sublist.refl _) ?_
                refine TS.still rfl (Wt.none rfl) rfl rfl (Yv.pur rfl) ?_
                refine TS.still rfl (Wt.none rfl) rfl rfl (Yv.pur rfl) ?_
                refine TS.still rfl (Wt.none rfl) rfl rfl (Yv.fieldAddr rfl rfl) ?_
                refine TS.still rfl (Wt.none rfl) rfl rfl (Yv.loadB rfl rfl hsp0 (fun hh => hsp (Ent.row_fp.1 hh))) ?_
                refine TS.still rfl (Wt.none rfl) rfl rfl (Yv.pur rfl) ?_
                refine TS.still rfl (Wt.none rfl) rfl rfl (Yv.fieldAddr rfl rfl) ?_
                refine TS.still rfl (Wt.none rfl) rfl rfl (Yv.loadB rfl rfl (hfr.cell hI0) (fun hh => hpN (by have := cell_isC hI0; rw [← Ent.row_fp.1 hh]; exact this))) ?_
                refine TS.still rfl (Wt.none rfl) rfl rfl (Yv.fieldAddr rfl rfl) ?_
                refine TS.still rfl (Wt.none rfl) rfl rfl (Yv.loadO 0 rfl rfl rfl rfl) ?_
                refine TS.still rfl (Wt.none rfl) rfl rfl (Yv.indexSl rfl rfl rfl (show (nth (Y.out i) k).to = (((nth (Y.out i) k).to.toNat : Nat) : Int) from by omega) (by omega)) ?_
                refine TS.still rfl (Wt.none rfl) rfl rfl (Yv.loadC (j := 0) rfl rfl (Fz.cs hfr hIi2) rfl rfl (fun hh => hpN (by have := Cs.isC hIi2 (by simp); rw [← Ent.row_fp.1 hh]; exact this))) ?_
                refine TS.still rfl (Wt.none rfl) rfl rfl (Yv.lenSl rfl rfl) ?_
                refine TS.still rfl (Wt.none rfl) rfl rfl (Yv.pur rfl) ?_
                refine TS.done ?_
                refine K.seq ?_
                refine T.block ?_
                refine T.loop (ι := Nat) (fun j => [(0, .pointer (some ⟨sp, 0, none⟩)), (1, .int .i64 (i : Int)), (6, .func (.func 108) #[] #[.pointer (some ⟨g5, 0, none⟩)]), (74, .slice (some ⟨ghk, offhk, none⟩) (Y.out i).length cpO), (75, .int .i64 ((Y.out i).length : Int)), (76, .int .i64 (k : Int)), (99, .slice BI2 (Y.inn (nth (Y.out i) k).to.toNat).length cpI2), (100, .int .i64 ((Y.inn (nth (Y.out i) k).to.toNat).length : Int)), (101, .int .i64 (j : Int))]) (fun j => [.row g5 140 [.pointer (some ⟨p, 0, none⟩)], .row p 127 (Ws.cells (((Y.inn (nth (Y.out i) k).to.toNat).take j).foldl (fun s o => sAdd s o.fr.toNat) (sAdd (((Y.out i).take k).foldl (outStep Y L) ((Y.inn i).foldl (fun s x => sAdd s x.fr.toNat) ((Y.ps i).foldl (fun s x => sAdd s (x.a + x.b - (i : Int)).toNat) ws))) (nth (Y.out i) k).to.toNat)))]) (fun j => j ≤ (Y.inn (nth (Y.out i) k).to.toNat).length) (fun j => (Y.inn (nth (Y.out i) k).to.toNat).length - j) 0 ?_ ?_ ?_ ?_
                · omega
                · exact (by repeat (first | exact Sub.nil | refine Sub.cons rfl ?_))
                · exact (by repeat (first | exact List.Sublist.refl _ | exact List.nil_sublist _ | refine List.Sublist.cons_cons _ ?_ | refine List.Sublist.cons _ ?_))
                · intro j hphi
                  refine T.seq ?_
                  refine T.region ?_
                  refine TL.yv (Wt.none rfl) rfl rfl (Yv.pur rfl) ?_
                  refine TL.nil ?_
                  refine K.seq ?_
                  refine T.seq ?_
                  refine T.cond rfl (fun h6 => ?_) (fun h6 => ?_)
                  · have p6 := h6
                    try simp only [decide_eq_true_eq, decide_eq_false_iff_not, Int.not_lt, Int.not_le, Bool.not_eq_true', Bool.not_eq_false', Decidable.not_not, Bool.and_eq_true, Bool.or_eq_true, Bool.and_eq_false_iff, Bool.or_eq_false_iff] at p6
                    obtain ⟨ghj, offhj, rfl, hcj⟩ := hslI2 (by omega)
                    have hj := hcj j (by omega)
                    simp only [Ld.cells] at hj
                    have hrhj := hrngI2 _ (nth_mem (xs := Y.inn (nth (Y.out i) k).to.toNat) (k := j) (by omega))
                    refine T.skip ?_
                    refine K.seq ?_
                    refine T.seq ?_
                    refine T.block ?_
                    refine T.seq ?_
                    refine T.region ?_
                    refine TL.yv (Wt.none rfl) rfl rfl (Yv.indexSl rfl rfl rfl rfl (by omega)) ?_
                    refine TL.yv (Wt.none rfl) rfl rfl (Yv.loadAB rfl rfl (Fz.cs hfr hj) rfl (fun hh => hpN (by have := Cs.isC hj (by simp); rw [← Ent.row_fp.1 hh]; exact this))) ?_
                    (refine TL.ew (Wt.none rfl) rfl rfl (Ew.alloc rfl) ?_; rintro _ _ ⟨g14, rfl, rfl⟩)
                    (refine TL.ew0 (Wt.none rfl) rfl (Ew.storeAll 0 rfl rfl rfl rfl rfl rfl) ?_; rintro _ _ ⟨rfl, rfl⟩)
                    refine TL.nil ?_
                    refine K.seq ?_
                    refine T.region ?_
                    refine TL.yv (Wt.none rfl) rfl rfl (Yv.pur rfl) ?_
                    refine TL.yv (Wt.none rfl) rfl rfl (Yv.fieldAddr rfl rfl) ?_
                    refine TL.yv (Wt.none rfl) rfl rfl (Yv.loadO 0 rfl rfl rfl rfl) ?_
                    (refine TL.ew (Wt.none rfl) rfl rfl (Ew.callMC 2 rfl rfl rfl rfl (fun w hw => addTo_ret (((Y.inn (nth (Y.out i) k).to.toNat).take j).foldl (fun s o => sAdd s o.fr.toNat) (sAdd (((Y.out i).take k).foldl (outStep Y L) ((Y.inn i).foldl (fun s x => sAdd s x.fr.toNat) ((Y.ps i).foldl (fun s x => sAdd s (x.a + x.b - (i : Int)).toNat) ws))) (nth (Y.out i) k).to.toNat)) (by rw [addFr_len, sAdd_len, addOut_len, addFr_len, addPr_len, hws]) (nth (Y.inn (nth (Y.out i) k).to.toNat) j).fr.toNat (by omega) _ (by omega) p g5 w (row_cell (Ent.row_ok.1 (hw.get (i := 1) rfl)) 0) (fun hh => hw.ne (i := 1) (j := 2) (by omega) rfl rfl (g := g5) (Ent.row_fp.2 rfl) (Ent.row_fp.2 hh)) (hw.get (i := 2) rfl))) ?_; rintro _ _ ⟨-, -, rfl, rfl⟩)
                    refine TL.nil ?_
                    refine K.blk_normal ?_
                    refine K.seq ?_
                    refine T.region ?_
                    refine TL.yv (Wt.none rfl) rfl rfl (Yv.addI rfl rfl rfl (by omega)) ?_
                    refine TL.yv (Wt.none rfl) rfl rfl (Yv.pur rfl) ?_
                    refine TL.nil ?_
                    exact K.next (j + 1) (by omega) (by omega) (by repeat (first | exact Sub.nil | refine Sub.cons rfl ?_)) (by rw [foldl_take _ _ (by omega)]; exact (by repeat (first | exact List.Sublist.refl _ | exact List.nil_sublist _ | refine List.Sublist.cons_cons _ ?_ | refine List.Sublist.cons _ ?_)))
                  · have p6 := h6
                    try simp only [decide_eq_true_eq, decide_eq_false_iff_not, Int.not_lt, Int.not_le, Bool.not_eq_true', Bool.not_eq_false', Decidable.not_not, Bool.and_eq_true, Bool.or_eq_true, Bool.and_eq_false_iff, Bool.or_eq_false_iff] at p6
                    refine T.exit ?_
                    refine K.then_exit ?_
                    refine K.then_exit ?_
                    refine K.blk_exit_eq ?_
                    refine K.blk_normal ?_
                    (have hy := hno; refine K.at (by repeat (first | exact Sub.nil | refine Sub.cons rfl ?_)) ?_; rw [foldl_take _ _ (by omega), outStep, if_neg hy, show (Y.inn (nth (Y.out i) k).to.toNat).take j = Y.inn (nth (Y.out i) k).to.toNat from List.take_of_length_le (by omega)]; exact (by repeat (first | exact List.Sublist.refl _ | exact List.nil_sublist _ | refine List.Sublist.cons_cons _ ?_ | refine List.Sublist.cons _ ?_)))
              · have p5 := h5
                try simp only [decide_eq_true_eq, decide_eq_false_iff_not, Int.not_lt, Int.not_le, Bool.not_eq_true', Bool.not_eq_false', Decidable.not_not, Bool.and_eq_true, Bool.or_eq_true, Bool.and_eq_false_iff, Bool.or_eq_false_iff] at p5
                have hyes : (only L ((nth (Y.out i) k).to.toNat) : Int) = 0 := by assumption
                refine T.skip ?_
                refine K.blk_normal ?_
                (have hy := hyes; refine K.at (by repeat (first | exact Sub.nil | refine Sub.cons rfl ?_)) ?_; rw [foldl_take _ _ (by omega), outStep, if_pos hy]; exact (by repeat (first | exact List.Sublist.refl _ | exact List.nil_sublist _ | refine List.Sublist.cons_cons _ ?_ | refine List.Sublist.cons _ ?_)))
            · skip
              refine T.region ?_
              refine TL.yv (Wt.none rfl) rfl rfl (Yv.addI rfl rfl rfl (by omega)) ?_
              refine TL.yv (Wt.none rfl) rfl rfl (Yv.pur rfl) ?_
              refine TL.nil ?_
              exact K.next (k + 1) (by omega) (by omega) (by repeat (first | exact Sub.nil | refine Sub.cons rfl ?_)) (by repeat (first | exact List.Sublist.refl _ | exact List.nil_sublist _ | refine List.Sublist.cons_cons _ ?_ | refine List.Sublist.cons _ ?_))
          · have p4 := h4
            try simp only [decide_eq_true_eq, decide_eq_false_iff_not, Int.not_lt, Int.not_le, Bool.not_eq_true', Bool.not_eq_false', Decidable.not_not, Bool.and_eq_true, Bool.or_eq_true, Bool.and_eq_false_iff, Bool.or_eq_false_iff] at p4
            refine T.exit ?_
            refine K.then_exit ?_
            refine K.then_exit ?_
            refine K.blk_exit_eq ?_
            exact K.end0 rfl (fun w' hw => ⟨(), trivial, rfl, by rw [touchF, if_neg p1]; rw [show (Y.out i).take k = Y.out i from List.take_of_length_le (by omega)] at hw; exact hw.sub (by repeat (first | exact List.Sublist.refl _ | exact List.nil_sublist _ | refine List.Sublist.cons_cons _ ?_ | refine List.Sublist.cons _ ?_))⟩)
end Go.Proofs.YtljgejbmimapdaaDoor
