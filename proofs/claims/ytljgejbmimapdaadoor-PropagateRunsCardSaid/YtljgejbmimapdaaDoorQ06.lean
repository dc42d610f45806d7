/- J4 M1 M2 M3 M4 M5 M6 M7 Pm Pw: shortened and put together by squeeze.py. -/
import Derived.Test.YtljgejbmimapdaaDoorQ05
set_option maxRecDepth 100000
set_option maxHeartbeats 4000000
set_option linter.unusedVariables false
set_option linter.unusedSectionVars false
set_option linter.unusedSimpArgs false
namespace Go.Proofs.YtljgejbmimapdaaDoor
open Go.RowKit
/-- A world without its first blocks. -/
def blank (K : Nat) (w : World) : World := { w with heap := w.heap.mapIdx fun i o => if i < K then .deferred none else o }
theorem blank_get {K : Nat} {w : World} {g : Nat} (h : K ≤ g) : (blank K w).heap[g]? = w.heap[g]? := by
  unfold blank; rw [Array.getElem?_mapIdx]
  cases w.heap[g]? with
  | none => rfl
  | some o => simp; omega
theorem blank_isC {K : Nat} {w : World} {g : Nat} (h : IsC (blank K w) g) : K ≤ g := by
  obtain ⟨cs, t, p, e⟩ := h; rcases Nat.lt_or_ge g K with hk | hk
  · unfold blank at e; rw [Array.getElem?_mapIdx] at e
    cases hg : w.heap[g]? with
    | none => rw [hg] at e; cases e
    | some o => rw [hg] at e; simp [hk] at e
  · exact hk
/-- Blocks that stay as they are. -/
@[irreducible] def Ent.fz (w0 : World) : Ent where
  fp g := IsC w0 g
  ok w := Fz w0 w
  loc h k g hg := (h g hg).trans (k g hg)
  lt h g hg := by
    have := h g hg; obtain ⟨cs, t, p, e⟩ := hg; rw [e] at this; exact (Array.getElem?_eq_some_iff.1 this).1
  nd h g hg c := by
    have := h g hg; obtain ⟨cs, t, p, e⟩ := hg; rw [this, e]; simp
theorem Ent.fz_fp {w0 : World} {g : Nat} : (Ent.fz w0).fp g ↔ IsC w0 g := by unfold Ent.fz; exact Iff.rfl
theorem Ent.fz_ok {w0 w : World} : (Ent.fz w0).ok w ↔ Fz w0 w := by unfold Ent.fz; exact Iff.rfl
theorem flat_one (l : List Value) : l.flatMap (fun u => [u]) = l := by
  induction l with
  | nil => rfl
  | cons x r ih => simp [ih]
structure TbOf (P : Pb) (Y : Tb) : Prop where
  st : Y.st = P.ds.map (·.st)
  ix : Y.ix = ixAt P.ds P.ds.length
  total : Y.total = totAt P.ds P.ds.length
  ps : Y.ps = P.psA P.ps.length
  cs : Y.cs = P.csA P.cs.length
  inn : Y.inn = P.inA P.ls.length
  out : Y.out = P.ouA P.ls.length
theorem lists_of {α : Type} {W : World} {tp off q n size : Nat} {e t : TypeId} {enc : α → List Value} (he : ∀ x, (enc x).length = size) {f : Nat → List α} {vv : Nat → Value} (hc : W.cell? ⟨tp, off, none⟩ = some (sV q n)) (ho : (Ent.sl (sV q n) t 1 n ((List.range n).map vv)).ok W) (hb : (Ent.bag (ents e size n vv enc f)).ok W) : Lists W ⟨tp, off, none⟩ enc size ((List.range n).map vv) n f where
  at' := ⟨_, hc, by
    have h1 := Ent.sl_ok.1 ho; rw [← flat_one ((List.range n).map vv)] at h1
    exact SlOf.own (enc := fun u => [u]) (size := 1) (fun _ => rfl) h1 (by simp)⟩
  len := by simp
  each i hi := by
    have h1 := (Ent.bag_ok.1 hb).1 _ (List.mem_of_getElem? (ents_get hi)); have h2 := SlOf.own he (Ent.sl_ok.1 h1) rfl; rw [show nth ((List.range n).map vv) i = vv i from by simp [nth, hi]]; exact h2
theorem arrange_end {P : Pb} {w w' : World} {g27 q1 q3 q5 q7 q9 : Nat} {ya2 ya3 yb3 ya4 : Nat → Value} (hw : Hp w (fun _ => False) [Ent.bag (ents 84 5 P.ds.length ya2 Pr.cells (P.psA P.ps.length)), Ent.bag (ents 88 4 P.ds.length ya4 Cp.cells (P.csA P.cs.length)), Ent.bag (ents 86 5 P.ds.length ya3 Ld.cells (P.inA P.ls.length)), Ent.bag (ents 86 5 P.ds.length yb3 Ld.cells (P.ouA P.ls.length)), .row g27 101 (tcells (sV q1 P.ds.length) (cellsK 512 (ixAt P.ds P.ds.length)) (totAt P.ds P.ds.length) (sV q3 P.ds.length) (sV q5 P.ds.length) (sV q7 P.ds.length) (sV q9 P.ds.length)), .sl (sV q1 P.ds.length) 3 1 P.ds.length (fillL (fun j => .int .i64 (nth P.ds j).st) (.int .i64 0) P.ds.length P.ds.length), .sl (sV q3 P.ds.length) 23 1 P.ds.length ((List.range P.ds.length).map ya2), .sl (sV q5 P.ds.length) 25 1 P.ds.length ((List.range P.ds.length).map ya4), .sl (sV q7 P.ds.length) 24 1 P.ds.length ((List.range P.ds.length).map ya3), .sl (sV q9 P.ds.length) 24 1 P.ds.length ((List.range P.ds.length).map yb3)] w') :
    ∃ Y w0, TbOf P Y ∧ TablesAt w0 g27 Y ∧ Hp w (fun _ => False) [Ent.fz w0] w' := by
  have hok : ∀ e ∈ [Ent.bag (ents 84 5 P.ds.length ya2 Pr.cells (P.psA P.ps.length)), Ent.bag (ents 88 4 P.ds.length ya4 Cp.cells (P.csA P.cs.length)), Ent.bag (ents 86 5 P.ds.length ya3 Ld.cells (P.inA P.ls.length)), Ent.bag (ents 86 5 P.ds.length yb3 Ld.cells (P.ouA P.ls.length)), .row g27 101 (tcells (sV q1 P.ds.length) (cellsK 512 (ixAt P.ds P.ds.length)) (totAt P.ds P.ds.length) (sV q3 P.ds.length) (sV q5 P.ds.length) (sV q7 P.ds.length) (sV q9 P.ds.length)), .sl (sV q1 P.ds.length) 3 1 P.ds.length (fillL (fun j => .int .i64 (nth P.ds j).st) (.int .i64 0) P.ds.length P.ds.length), .sl (sV q3 P.ds.length) 23 1 P.ds.length ((List.range P.ds.length).map ya2), .sl (sV q5 P.ds.length) 25 1 P.ds.length ((List.range P.ds.length).map ya4), .sl (sV q7 P.ds.length) 24 1 P.ds.length ((List.range P.ds.length).map ya3), .sl (sV q9 P.ds.length) 24 1 P.ds.length ((List.range P.ds.length).map yb3)], e.ok (blank w.heap.size w') := fun e he => e.loc (fun g hg => by
    rcases hw.new e he g hg with h | h
    · exact h.elim
    · exact blank_get h) (hw.own e he)
  have hrow := Ent.row_ok.1 (hok _ (List.mem_of_getElem? (i := 4) rfl)); have hst := Ent.sl_ok.1 (hok _ (List.mem_of_getElem? (i := 5) rfl)); rw [fillL_all (fun d : Dx => d.st) (fun _ => rfl) rfl] at hst; have hix := cellsK_len (N := 512) (f := ixAt P.ds P.ds.length); (have e1 : (P.ds.map fun d : Dx => d.st).length = P.ds.length := by simp); refine ⟨⟨P.ds.map (·.st), ixAt P.ds P.ds.length, totAt P.ds P.ds.length, (List.range P.ds.length).map ya2, P.psA P.ps.length, (List.range P.ds.length).map ya4, P.csA P.cs.length, (List.range P.ds.length).map ya3, P.inA P.ls.length, (List.range P.ds.length).map yb3, P.ouA P.ls.length⟩, blank w.heap.size w', ⟨rfl, rfl, rfl, rfl, rfl, rfl, rfl⟩, ⟨?_, ?_, ?_, ?_, ?_, ?_, ?_⟩, ?_⟩
  · exact ⟨_, by rw [row_cell hrow]; rfl, SlOf.own (enc := Ie) (size := 1) (fun _ => rfl) hst (by simp)⟩
  · intro j hj; rw [row_cell hrow, tcells_ix hix hj rfl, cellsK_get rfl hj]
  · rw [row_cell hrow, tcells_hi hix (j := 0) rfl]; rfl
  · have := lists_of (enc := Pr.cells) (fun _ => rfl) (tp := g27) (off := 514) (by rw [row_cell hrow, tcells_hi hix (j := 1) rfl]; rfl) (hok _ (List.mem_of_getElem? (i := 6) rfl)) (hok _ (List.mem_of_getElem? (i := 0) rfl)); simpa [Tb.n] using this
  · have := lists_of (enc := Cp.cells) (fun _ => rfl) (tp := g27) (off := 515) (by rw [row_cell hrow, tcells_hi hix (j := 2) rfl]; rfl) (hok _ (List.mem_of_getElem? (i := 7) rfl)) (hok _ (List.mem_of_getElem? (i := 1) rfl)); simpa [Tb.n] using this
  · have := lists_of (enc := Ld.cells) (fun _ => rfl) (tp := g27) (off := 516) (by rw [row_cell hrow, tcells_hi hix (j := 3) rfl]; rfl) (hok _ (List.mem_of_getElem? (i := 8) rfl)) (hok _ (List.mem_of_getElem? (i := 2) rfl)); simpa [Tb.n] using this
  · have := lists_of (enc := Ld.cells) (fun _ => rfl) (tp := g27) (off := 517) (by rw [row_cell hrow, tcells_hi hix (j := 4) rfl]; rfl) (hok _ (List.mem_of_getElem? (i := 9) rfl)) (hok _ (List.mem_of_getElem? (i := 3) rfl)); simpa [Tb.n] using this
  · refine ⟨hw.os, hw.tape, hw.output, hw.size, hw.base, fun e he => ?_, fun e he g hg => ?_, List.pairwise_singleton _ _⟩
    · rw [List.mem_singleton.1 he]; exact Ent.fz_ok.2 fun g hg => (blank_get (blank_isC hg)).symm
    · rw [List.mem_singleton.1 he] at hg; exact .inr (blank_isC (Ent.fz_fp.1 hg))
theorem arrange_ret (P : Pb) (vd vp vl vc : Value) (w : World) (h : ProbAt w vd vp vl vc P) (hok : P.ok = true) : Calls Tryd.prog 43 #[.agg [vd, vp, vl, vc].toArray] w fun e w' => ∃ y : Nat × Tb × World, (TbOf P y.2.1 ∧ TablesAt y.2.2 y.1 y.2.1) ∧ e = .returned (.pointer (some ⟨y.1, 0, none⟩)) ∧ Hp w (fun _ => False) [Ent.fz y.2.2] w' :=
  (arrange_raw P vd vp vl vc w h hok).mono fun e w' ⟨g27, q1, q3, q5, q7, q9, ya2, ya3, yb3, ya4, he, hw⟩ => by
    obtain ⟨Y, w0, h1, h2, h3⟩ := arrange_end hw; exact ⟨(g27, Y, w0), ⟨h1, h2⟩, he, h3⟩
theorem mem_psA {P : Pb} {j : Nat} {x : Pr} : x ∈ P.psA P.ps.length j ↔ (∃ y ∈ P.ps, P.rp y = x) ∧ (x.a = (j : Int) ∨ x.b = (j : Int)) := by
  unfold Pb.psA; rw [List.take_length, List.mem_filter, List.mem_map]; simp
theorem mem_inA {P : Pb} {j : Nat} {x : Ld} : x ∈ P.inA P.ls.length j ↔ (∃ y ∈ P.ls, P.rl y = x) ∧ x.to = (j : Int) := by
  unfold Pb.inA; rw [List.take_length, List.mem_filter, List.mem_map]; simp
theorem mem_ouA {P : Pb} {j : Nat} {x : Ld} : x ∈ P.ouA P.ls.length j ↔ (∃ y ∈ P.ls, P.rl y = x) ∧ x.fr = (j : Int) := by
  unfold Pb.ouA; rw [List.take_length, List.mem_filter, List.mem_map]; simp
theorem mem_csA {P : Pb} {j : Nat} {x : Cp} : x ∈ P.csA P.cs.length j ↔ (∃ y ∈ P.cs, P.rc y = x) ∧ x.st = (j : Int) := by
  unfold Pb.csA; rw [List.take_length, List.mem_filter, List.mem_map]; simp
theorem rp_facts {P : Pb} (hG : P.Good) {y : Pr} (hy : y ∈ P.ps) : 0 ≤ (P.rp y).a ∧ (P.rp y).a < P.ds.length ∧ 0 ≤ (P.rp y).b ∧ (P.rp y).b < P.ds.length ∧ (P.rp y).a ≠ (P.rp y).b ∧ -1 ≤ y.off ∧ y.off ≤ 1 ∧ 2 ≤ y.lo ∧ y.lo ≤ y.hi ∧ y.hi ≤ 51 := by
  obtain ⟨ho, ⟨ia, hia, hea⟩, ib, hib, heb⟩ := hG.ps y hy; simp only [Pr.ok, inB, rngB, Bool.and_eq_true, decide_eq_true_eq] at ho; (have h1 : (P.rp y).a = (ia : Int) := by show P.ix y.a = _; rw [hea]; exact Pb.ix_of hG hia); (have h2 : (P.rp y).b = (ib : Int) := by show P.ix y.b = _; rw [heb]; exact Pb.ix_of hG hib); (have h3 : ia ≠ ib := by rintro rfl; omega); omega
theorem rl_facts {P : Pb} (hG : P.Good) {y : Ld} (hy : y ∈ P.ls) : 0 ≤ (P.rl y).to ∧ (P.rl y).to < P.ds.length ∧ 0 ≤ (P.rl y).fr ∧ (P.rl y).fr < P.ds.length ∧ (P.rl y).to ≠ (P.rl y).fr ∧ 1 ≤ y.wt ∧ y.wt ≤ 1073741824 ∧ 2 ≤ y.lo ∧ y.lo ≤ y.hi ∧ y.hi ≤ 51 := by
  obtain ⟨ho, ⟨ia, hia, hea⟩, ib, hib, heb⟩ := hG.ls y hy; simp only [Ld.ok, inB, rngB, Bool.and_eq_true, decide_eq_true_eq] at ho; (have h1 : (P.rl y).to = (ia : Int) := by show P.ix y.to = _; rw [hea]; exact Pb.ix_of hG hia); (have h2 : (P.rl y).fr = (ib : Int) := by show P.ix y.fr = _; rw [heb]; exact Pb.ix_of hG hib); (have h3 : ia ≠ ib := by rintro rfl; exact ho.2.2.1 (by rw [hea, heb])); omega
theorem TbOf.ok {P : Pb} {Y : Tb} (hG : P.Good) (h : TbOf P Y) : Y.Ok := by
  (have hn : Y.n = P.ds.length := by unfold Tb.n; rw [h.st]; simp); have l1 := hG.lps; have l2 := hG.lls; have l3 := hG.lcs; refine ⟨by rw [hn]; exact hG.n, fun i hi => ⟨?_, fun x hx => ?_⟩, fun i hi => ⟨?_, fun x hx => ?_⟩, fun i hi => ⟨?_, fun x hx => ?_⟩, fun i hi x hx => ?_, fun i hi x hx => ?_, fun i hi x hx => ?_, fun i hi => ⟨?_, fun x hx => ?_⟩⟩
  · rw [h.ps]; exact Nat.le_trans filt_len l1
  · rw [h.ps] at hx; obtain ⟨⟨y, hy, rfl⟩, hj⟩ := mem_psA.1 hx; have := rp_facts hG hy; rw [hn]; exact ⟨this.1, this.2.1, this.2.2.1, this.2.2.2.1, this.2.2.2.2.2.1, this.2.2.2.2.2.2.1, this.2.2.2.2.2.2.2.1, this.2.2.2.2.2.2.2.2.1, this.2.2.2.2.2.2.2.2.2, hj⟩
  · rw [h.cs]; exact Nat.le_trans filt_len l3
  · rw [h.cs] at hx; obtain ⟨⟨y, hy, rfl⟩, hj⟩ := mem_csA.1 hx; have ho := (hG.cs y hy).1; simp only [Cp.ok, inB, rngB, Bool.and_eq_true, decide_eq_true_eq] at ho
    show 0 ≤ y.mx ∧ y.mx ≤ _ ∧ 2 ≤ y.lo ∧ y.lo ≤ y.hi ∧ y.hi ≤ 51
    omega
  · rw [h.inn]; exact Nat.le_trans filt_len l2
  · rw [h.inn] at hx; obtain ⟨⟨y, hy, rfl⟩, hj⟩ := mem_inA.1 hx; have := rl_facts hG hy; rw [hn]; exact ⟨hj, this.2.2.1, this.2.2.2.1, this.2.2.2.2.2⟩
  · rw [h.ps] at hx ⊢; obtain ⟨⟨y, hy, rfl⟩, hj⟩ := mem_psA.1 hx; have := rp_facts hG hy; exact ⟨this.2.2.2.2.1, mem_psA.2 ⟨⟨y, hy, rfl⟩, .inl (by omega)⟩, mem_psA.2 ⟨⟨y, hy, rfl⟩, .inr (by omega)⟩⟩
  · rw [h.inn] at hx; rw [h.out]; obtain ⟨⟨y, hy, rfl⟩, hj⟩ := mem_inA.1 hx; have := rl_facts hG hy; exact ⟨this.2.2.2.2.1, mem_ouA.2 ⟨⟨y, hy, rfl⟩, by omega⟩⟩
  · rw [h.out] at hx; rw [h.inn]; obtain ⟨⟨y, hy, rfl⟩, hj⟩ := mem_ouA.1 hx; have := rl_facts hG hy; exact ⟨this.2.2.2.2.1, mem_inA.2 ⟨⟨y, hy, rfl⟩, by omega⟩⟩
  · rw [h.out]; exact Nat.le_trans filt_len l2
  · rw [h.out] at hx; obtain ⟨⟨y, hy, rfl⟩, hj⟩ := mem_ouA.1 hx; have := rl_facts hG hy; rw [hn]; exact ⟨hj, this.1, this.2.1, this.2.2.2.2.2⟩
end Go.Proofs.YtljgejbmimapdaaDoor
namespace Go.Proofs.YtljgejbmimapdaaDoor
open Go.RowKit
theorem Hp.part {B w : World} {M : Nat → Prop} {es rest : HS} (h : Hp B M (es ++ rest) w) : Hp w (fps es) es w := Hp.startL (fun e he => h.own e (List.mem_append_left _ he)) (List.pairwise_append.1 h.apart).1
theorem Hp.sep {B w : World} {M : Nat → Prop} {es rest : HS} (h : Hp B M (es ++ rest) w) {f : Ent} (hf : f ∈ rest) : ∀ g, fps es g → ¬ f.fp g := fun g ⟨e, he, hg⟩ hfg => (List.pairwise_append.1 h.apart).2.2 e he f hf g hg hfg
theorem Hp.no0 {B w : World} {es rest : HS} (h : Hp B (fun _ => False) (es ++ rest) w) (ht : Tab B) : ¬ fps es 0 := fun ⟨e, he, hg⟩ => by
  rcases h.new e (List.mem_append_left _ he) 0 hg with hh | hh
  · exact hh
  · have := ht.size; omega
def Pb.left (P : Pb) : Ws := P.ds.map fun d => maskOf d.chs
theorem left_cells {P : Pb} : fillL (fun j => U (maskOf (nth P.ds j).chs)) (.int .u64 0) P.ds.length P.ds.length = Ws.cells P.left := by
  unfold fillL Pb.left; apply List.ext_getElem?; intro i; by_cases h : i < P.ds.length
  · simp [h, nth]
  · simp [h]
theorem all_cells (n : Nat) : fillL (fun j => .int .i64 (j : Int)) (.int .i64 0) n n = nums (List.range n) := by
  unfold fillL nums; simp
theorem SInv.first {Y : Tb} {L : Ws} (hok : Y.Ok) (hl : L.length = Y.n) : SInv Y L L (List.range Y.n) sNil false where
  reach := .refl
  len := hl
  ws8 := rfl
  wsn j _ hb := by rw [sBit_nil] at hb; cases hb
  qn j hj := List.mem_range.1 hj
  q512 := by rw [List.length_range]; exact hok.n
  bad h := by cases h
  good _ i hi := .inl (List.mem_range.2 hi)
/-- What New makes of a valid problem. -/
structure NewIs (P : Pb) (Y : Tb) (L : Ws) (c : Bool) (tp : Nat) (w0 : World) : Prop where
  tb : TbOf P Y
  at' : TablesAt w0 tp Y
  post : SPost Y P.left L c
theorem new_bad (P : Pb) (vd vp vl vc : Value) (w : World) (h : ProbAt w vd vp vl vc P) (hok : P.ok = false) : Calls Tryd.prog 17 #[.agg [vd, vp, vl, vc].toArray] w fun e w' => e = .returned (.tuple #[.pointer none, .int .i64 2]) ∧ Below w.heap.size w w' := by
  obtain ⟨A, cap, rfl, hsl⟩ := h.ds.sl.op; obtain ⟨A1, cap1, rfl, -⟩ := h.ru.ps.op; obtain ⟨A2, cap2, rfl, -⟩ := h.ru.ls.op; obtain ⟨A3, cap3, rfl, -⟩ := h.ru.cs.op; refine calls_T (M := fun _ => False) (hs := []) Tryd.func17 rfl rfl rfl (Hp.refl _ _) ?_; refine T.seq (T.region ?_); (refine TL.ew (Wt.none rfl) rfl rfl (Ew.boxA rfl rfl) ?_; rintro _ _ ⟨g1, rfl, rfl⟩); refine TL.run 2 rfl ?_; refine TL.nil (K.seq (T.seq (T.seq (T.region ?_)))); refine TL.y (Yv.loadAO 0 rfl rfl rfl rfl) ?_; (refine TL.ew (Wt.none rfl) rfl rfl (Ew.callD rfl rfl rfl (fun w hw => valid_ret P _ _ _ _ w (h.kept hw))) ?_; rintro _ _ ⟨rfl, rfl⟩); refine TL.run 1 rfl ?_; refine TL.nil (K.seq ?_); refine T.condT rfl (by rw [hok]; rfl) ?_; refine T.seq (T.region ?_); refine TL.run 2 rfl ?_; refine TL.nil (K.seq (T.ret (K.then_ret ?_))); refine K.ret2 rfl rfl rfl (fun w' hw => ⟨?_, hw.isBelow⟩)
  rfl
theorem new_ok (P : Pb) (vd vp vl vc : Value) (w : World) (h : ProbAt w vd vp vl vc P) (htab : Tab w) (hok : P.ok = true) : Calls Tryd.prog 17 #[.agg [vd, vp, vl, vc].toArray] w fun e w' => ∃ y : Nat × Nat × Nat × Tb × Ws × Bool × World, NewIs P y.2.2.2.1 y.2.2.2.2.1 y.2.2.2.2.2.1 y.2.2.1 y.2.2.2.2.2.2 ∧ e = .returned (.tuple #[.pointer (some ⟨y.1, 0, none⟩), .int .i64 0]) ∧ Hp w (fun _ => False) [sRow y.1 y.2.1 y.2.2.1 P.ds.length y.2.2.2.2.2.1, sLeft y.2.1 P.ds.length y.2.2.2.2.1, Ent.fz y.2.2.2.2.2.2] w' := by
  obtain ⟨A, cap, rfl, hsl⟩ := h.ds.sl.op; obtain ⟨A1, cap1, rfl, -⟩ := h.ru.ps.op; obtain ⟨A2, cap2, rfl, -⟩ := h.ru.ls.op; obtain ⟨A3, cap3, rfl, -⟩ := h.ru.cs.op; have hG := Pb.good hok; have hn512 := hG.n; refine calls_T (M := fun _ => False) (hs := []) Tryd.func17 rfl rfl rfl (Hp.refl _ _) ?_; refine T.seq (T.region ?_); (refine TL.ew (Wt.none rfl) rfl rfl (Ew.boxA rfl rfl) ?_; rintro _ _ ⟨g1, rfl, rfl⟩); refine TL.run 2 rfl ?_; refine TL.nil (K.seq (T.seq (T.seq (T.region ?_)))); refine TL.y (Yv.loadAO 0 rfl rfl rfl rfl) ?_; (refine TL.ew (Wt.none rfl) rfl rfl (Ew.callD rfl rfl rfl (fun w hw => valid_ret P _ _ _ _ w (h.kept hw))) ?_; rintro _ _ ⟨rfl, rfl⟩); refine TL.run 1 rfl ?_; refine TL.nil (K.seq ?_); refine T.condF rfl (by rw [hok]; rfl) ?_; refine T.skip (K.seq (T.seq (T.region ?_))); refine TL.y (Yv.loadAO 0 rfl rfl rfl rfl) ?_; (refine TL.ew (Wt.none rfl) rfl rfl (Ew.callH rfl rfl rfl (fun w hw => arrange_ret P _ _ _ _ w (h.kept hw) hok)) ?_; rintro _ _ ⟨⟨tp, Y, w0⟩, ⟨hTb, hT⟩, rfl, rfl⟩); dsimp only [List.cons_append, List.nil_append]; (have hYn : Y.n = P.ds.length := by unfold Tb.n; rw [hTb.st]; simp); have hYok := hTb.ok hG; (have hLl : P.left.length = Y.n := by rw [hYn]; simp [Pb.left]); refine TL.y (Yv.build rfl rfl) ?_; (refine TL.ew (Wt.none rfl) rfl rfl (Ew.boxA rfl rfl) ?_; rintro _ _ ⟨g14, rfl, rfl⟩); refine TL.run 1 rfl ?_; refine TL.nil (K.seq (T.seq (T.region ?_))); refine TL.run 1 rfl ?_; refine TL.y (Yv.fieldAddr rfl rfl) ?_; refine TL.y (Yv.loadO 2 rfl rfl rfl rfl) ?_; refine TL.y (Yv.lenSl rfl rfl) ?_; (refine TL.ew (Wt.none rfl) rfl rfl (Ew.makeSlice rfl rfl rfl rfl rfl (by omega) (by omega)) ?_; rintro _ _ ⟨g19, rfl, rfl⟩); refine TL.run 1 rfl ?_; refine TL.y (Yv.fieldAddr rfl rfl) ?_; (refine TL.ew0 (Wt.none rfl) rfl (Ew.store1 1 rfl rfl rfl rfl (by first | omega | simp)) ?_; rintro _ _ ⟨rfl, rfl⟩); refine TL.nil (K.seq (T.seq ?_)); rw [made_one (.int .u64 0)]; refine T.region ?_; refine TL.y (Yv.fieldAddr rfl rfl) ?_; refine TL.y (Yv.loadO 3 rfl rfl rfl rfl) ?_; refine TL.y (Yv.lenSl rfl rfl) ?_; (refine TL.ew (Wt.none rfl) rfl rfl (Ew.makeSlice rfl rfl rfl rfl rfl (by omega) (by omega)) ?_; rintro _ _ ⟨g25, rfl, rfl⟩); refine TL.run 1 rfl ?_; refine TL.nil (K.seq ?_); refine T.cut (gs := [(4, .pointer (some ⟨g14, 0, none⟩)), (5, sV g25 P.ds.length)]) (hs' := [.sl (sV g25 P.ds.length) 3 1 P.ds.length (nums (List.range P.ds.length)), sLeft g19 P.ds.length P.left, sRow g14 g19 tp P.ds.length false, Ent.fz w0]) ?_ ?_
  · skip; refine T.seq ?_; rw [made_one (.int .i64 0)]; refine T.region ?_; refine TL.y (Yv.fieldAddr rfl rfl) ?_; refine TL.y (Yv.loadO 4 rfl rfl rfl rfl) ?_; refine TL.y (Yv.lenSl rfl rfl) ?_; refine TL.run 1 rfl ?_; refine TL.nil (K.seq (T.block ?_)); refine T.loop (ι := Nat) (fun k => [(4, .pointer (some ⟨g14, 0, none⟩)), (5, sV g25 P.ds.length), (27, .slice A P.ds.length cap), (28, .int .i64 (P.ds.length : Int)), (29, .int .i64 (k : Int))]) (fun k => [.sl (sV g25 P.ds.length) 3 1 P.ds.length (fillL (fun j => .int .i64 (j : Int)) (.int .i64 0) P.ds.length k), .sl (sV g19 P.ds.length) 93 1 P.ds.length (fillL (fun j => U (maskOf (nth P.ds j).chs)) (.int .u64 0) P.ds.length k), sRow g14 g19 tp P.ds.length false, Ent.fz w0]) (fun k => k ≤ P.ds.length) (fun k => P.ds.length - k) 0 ?_ ?_ ?_ ?_
    · omega
    · exact (by repeat (first | exact Sub.nil | refine Sub.cons rfl ?_))
    · exact (by repeat first | exact S0 | exact S1 | refine S2 ?_ | refine S3 ?_)
    · intro k hphi; refine T.seq (T.region ?_); refine TL.run 1 rfl ?_; refine TL.nil (K.seq (T.seq ?_)); refine T.cond rfl (fun h1 => ?_) (fun h1 => ?_)
      · have p1 := h1; (try simp only [nfB] at p1); obtain ⟨g, off, rfl, hc⟩ := hsl (by omega); have hk := hc k (by omega); haveI := (h.ds.at (k := k) (by omega)).one; simp only [Dx.cells] at hk; obtain ⟨hcl, hcr⟩ := hG.chs _ (nth_mem (xs := P.ds) (k := k) (by omega)); refine T.skip (K.seq (T.seq (T.block (T.seq (T.region ?_))))); refine TL.run 1 rfl ?_; refine TL.y (Yv.indexSl rfl rfl rfl rfl (by omega)) ?_; refine TL.y (Yv.loadAB rfl rfl hk rfl (fun h => h)) ?_; (refine TL.ew (Wt.none rfl) rfl rfl (Ew.alloc rfl) ?_; rintro _ _ ⟨g7, rfl, rfl⟩); refine TL.run 1 rfl ?_; (refine TL.ew0 (Wt.none rfl) rfl (Ew.storeAll 0 rfl rfl rfl rfl rfl rfl) ?_; rintro _ _ ⟨rfl, rfl⟩); refine TL.nil (K.seq (T.seq ?_)); refine T.draw (.still 0 (.still 1 (.still 2 (.still 3 (.still 4 (.still 5 (.still 6 (.eff 7 (.still 8 (.eff 9 .done)))))))))) (List.eraseIdx _ 2) (by kernel_rfl) (List.eraseIdx_sublist _ _) ?_; refine TS.run 2 rfl ?_; refine TS.y rfl (Yv.fieldAddr rfl rfl) ?_; refine TS.y rfl (Yv.loadO 2 rfl rfl rfl rfl) ?_; refine TS.run 1 rfl ?_; refine TS.y rfl (Yv.fieldAddr rfl rfl) ?_; refine TS.y rfl (Yv.loadO 0 rfl rfl rfl rfl) ?_; refine TS.eff ?_; (refine TSo.ew rfl (Wt.none rfl) rfl rfl (Ew.callD rfl rfl rfl (fun w hw => mask_ret (nth P.ds k).chs _ w ((h.ds.at (k := k) (by omega)).kept hw) (by omega) hcr)) ?_; rintro _ _ ⟨rfl, rfl⟩; refine ⟨(by repeat first | exact S0 | exact S1 | refine S2 ?_ | refine S3 ?_), ?_⟩); refine TS.y rfl (Yv.indexSl rfl rfl rfl rfl (by omega)) ?_; refine TS.eff ?_; (refine TSo.ew0 rfl (Wt.none rfl) rfl (Ew.storeSE 2 (fillL (fun j => U (maskOf (nth P.ds j).chs)) (.int .u64 0) P.ds.length (k + 1)) rfl rfl rfl rfl (by rw [fillL_len (by omega)]; omega) (fillL_set (by omega) (by omega))) ?_; rintro _ _ ⟨rfl, rfl⟩; refine ⟨(by repeat first | exact S0 | exact S1 | refine S2 ?_ | refine S3 ?_), ?_⟩); refine TS.done ?_; refine K.seq (T.region ?_); refine TL.run 3 rfl ?_; refine TL.y (Yv.indexSl rfl rfl rfl rfl (by omega)) ?_; (refine TL.ew0 (Wt.none rfl) rfl (Ew.storeSE 1 (fillL (fun j => .int .i64 (j : Int)) (.int .i64 0) P.ds.length (k + 1)) rfl rfl rfl rfl (by rw [fillL_len (by omega)]; omega) (fillL_set (f := fun j => .int .i64 (j : Int)) (by omega) (by omega))) ?_; rintro _ _ ⟨rfl, rfl⟩); refine TL.nil (K.blk_normal (K.seq (T.region ?_))); refine TL.y (Yv.addI rfl rfl rfl (by omega)) ?_; refine TL.run 1 rfl ?_; refine TL.nil ?_; exact K.next (k + 1) (by omega) (by omega) (by repeat (first | exact Sub.nil | refine Sub.cons rfl ?_)) (by repeat first | exact S0 | exact S1 | refine S2 ?_ | refine S3 ?_)
      · have p1 := h1; (try simp only [nfB] at p1); refine T.exit (K.then_exit (K.then_exit (K.blk_exit_eq ?_))); (obtain rfl : k = P.ds.length := by omega); rw [left_cells, all_cells]; exact K.at (by repeat (first | exact Sub.nil | refine Sub.cons rfl ?_)) (by repeat first | exact S0 | exact S1 | refine S2 ?_ | refine S3 ?_)
  · skip; refine T.seq (T.region ?_); refine TL.run 2 rfl ?_; rw [← hYn]; refine TL.conv 0 _ (Ent.qu (sV g25 Y.n) (List.range Y.n)) rfl (fun w hh => qu_of_sl (by rw [List.length_range]) hh) (fun g hg => Ent.sl_fp.2 (Ent.qu_fp.1 hg)) ?_; (refine TL.ew (Wt.none rfl) rfl rfl (Ew.callL [sRow g14 g19 tp Y.n false, sLeft g19 Y.n P.left, Ent.qu (sV g25 Y.n) (List.range Y.n)] [Ent.fz w0] rfl rfl rfl ((List.reverse_perm [sRow g14 g19 tp Y.n false, sLeft g19 Y.n P.left, Ent.qu (sV g25 Y.n) (List.range Y.n)]).append_right _) (fun w hw hw2 => settle_ret w0 g14 g19 tp Y P.left false _ (List.range Y.n) w hT hYok (Ent.fz_ok.1 (hw2.own (Ent.fz w0) (by simp))) (htab.keptF hw) hw2.part (fun g hg hc => hw2.sep (f := Ent.fz w0) (by simp) g hg (Ent.fz_fp.2 hc)) (hw2.no0 htab) (SInv.first hYok hLl))) ?_; rintro _ _ ⟨y50, hpost, rfl, rfl⟩); dsimp only [List.cons_append, List.nil_append]; refine TL.nil (K.seq (T.seq (T.region ?_))); refine TL.run 3 rfl ?_; refine TL.nil (K.seq (T.ret ?_)); exact K.ret2 rfl rfl rfl (fun w' hw => ⟨(g14, g19, tp, Y, y50.1, y50.2, w0), ⟨hTb, hT, hpost⟩, rfl, hw.sub (by repeat first | exact S0 | exact S1 | refine S2 ?_ | refine S3 ?_)⟩)
end Go.Proofs.YtljgejbmimapdaaDoor
namespace Go.Proofs.YtljgejbmimapdaaDoor
open Go.RowKit
section
variable {P : Program} {n : Nat} {B D : World} {M : Nat → Prop} {fs : SFs} {hs : HS} {o : Oper} {v : Value}
theorem Yv.binR {op : BinOp} {x y : Operand} {t u : TypeId} {a b : Value} (ho : o.op = .binOp op t x y u) (hx : ev fs x = some a) (hy : ev fs y = some b) (hr : ∀ w, (do eqGuard op t x y a b; binOp op t a b : Sem Value).run P w = .ok v w) : Yv P n B M fs hs o v := fun f w ha _ => by
  unfold execOp; simp only [ho, ha.ev hx, ha.ev hy]; rw [Sem.run_bind, hr w]
  rfl
end
theorem eq46s (x y : Operand) (a : Addr) (w : World) : (do eqGuard .eql 46 x y (.pointer (some a)) (.pointer none); binOp .eql 46 (.pointer (some a)) (.pointer none) : Sem Value).run Tryd.prog w = .ok (.bool false) w := by kernel_rfl
theorem eq46n (x y : Operand) (w : World) : (do eqGuard .eql 46 x y (.pointer none) (.pointer none); binOp .eql 46 (.pointer none) (.pointer none) : Sem Value).run Tryd.prog w = .ok (.bool true) w := by kernel_rfl
theorem eq66s (x y : Operand) (a : Addr) (w : World) : (do eqGuard .eql 66 x y (.pointer (some a)) (.pointer none); binOp .eql 66 (.pointer (some a)) (.pointer none) : Sem Value).run Tryd.prog w = .ok (.bool false) w := by kernel_rfl
theorem eq66n (x y : Operand) (w : World) : (do eqGuard .eql 66 x y (.pointer none) (.pointer none); binOp .eql 66 (.pointer none) (.pointer none) : Sem Value).run Tryd.prog w = .ok (.bool true) w := by kernel_rfl
def atF (Y : Tb) (s : Int) : Int × Bool := if s < 0 ∨ 512 ≤ s ∨ Y.ix s.toNat = 0 then (0, false) else (Y.ix s.toNat - 1, true)
def checkF (Y : Tb) (c : Bool) (x : Ch) : Int × Int :=
  if x.st < 0 ∨ 512 ≤ x.st ∨ x.ch < 2 ∨ 51 < x.ch then (0, 2) else if c = true then (0, 8) else if (atF Y x.st).2 = false then (0, 9) else ((atF Y x.st).1, 0)
theorem missing_ret (sp : Nat) (Y : Tb) (L : Ws) (c : Bool) (w : World) (h : StateAt w sp Y L c) : Calls Tryd.prog 46 #[.pointer (some ⟨sp, 0, none⟩)] w fun e w' => e = .returned (.bool false) ∧ Below w.heap.size w w' := by
  obtain ⟨tp, hsp0, hT⟩ := h.tb; refine calls_T (M := fun _ => False) (hs := []) Tryd.func46 rfl rfl rfl (Hp.refl _ _) ?_; refine T.seq (T.region ?_); refine TL.run 1 rfl ?_; refine TL.nil (K.seq (T.seq (T.region ?_))); refine TL.run 1 rfl ?_; refine TL.y (Yv.binR rfl rfl rfl (eq46s _ _ _)) ?_; refine TL.run 1 rfl ?_; refine TL.yv (Wt.some rfl rfl rfl rfl) rfl rfl (Yv.pur rfl) ?_; refine TL.yv (Wt.some rfl rfl rfl rfl) rfl rfl (Yv.pur rfl) ?_; refine TL.yv (Wt.some rfl rfl rfl rfl) rfl rfl (Yv.fieldAddr rfl rfl) ?_; refine TL.yv (Wt.some rfl rfl rfl rfl) rfl rfl (Yv.loadB rfl rfl hsp0 (fun h => h)) ?_; refine TL.yv (Wt.some rfl rfl rfl rfl) rfl rfl (Yv.binR rfl rfl rfl (eq66s _ _ _)) ?_; refine TL.run 2 rfl ?_; refine TL.nil (K.seq (T.ret ?_)); refine K.ret1 rfl rfl (fun w' hw => ⟨?_, hw.isBelow⟩)
  rfl
theorem missing_nil (w : World) : Calls Tryd.prog 46 #[.pointer none] w fun e w' => e = .returned (.bool true) ∧ Below w.heap.size w w' := by
  refine calls_T (M := fun _ => False) (hs := []) Tryd.func46 rfl rfl rfl (Hp.refl _ _) ?_; refine T.seq (T.region ?_); refine TL.run 1 rfl ?_; refine TL.nil (K.seq (T.seq (T.region ?_))); refine TL.run 1 rfl ?_; refine TL.y (Yv.binR rfl rfl rfl (eq46n _ _)) ?_; refine TL.run 8 rfl ?_; refine TL.nil (K.seq (T.ret ?_)); refine K.ret1 rfl rfl (fun w' hw => ⟨?_, hw.isBelow⟩)
  rfl
theorem missing_zero (sp : Nat) (w : World) (h : w.cell? ⟨sp, 0, none⟩ = some (.pointer none)) : Calls Tryd.prog 46 #[.pointer (some ⟨sp, 0, none⟩)] w fun e w' => e = .returned (.bool true) ∧ Below w.heap.size w w' := by
  refine calls_T (M := fun _ => False) (hs := []) Tryd.func46 rfl rfl rfl (Hp.refl _ _) ?_; refine T.seq (T.region ?_); refine TL.run 1 rfl ?_; refine TL.nil (K.seq (T.seq (T.region ?_))); refine TL.run 1 rfl ?_; refine TL.y (Yv.binR rfl rfl rfl (eq46s _ _ _)) ?_; refine TL.run 1 rfl ?_; refine TL.yv (Wt.some rfl rfl rfl rfl) rfl rfl (Yv.pur rfl) ?_; refine TL.yv (Wt.some rfl rfl rfl rfl) rfl rfl (Yv.pur rfl) ?_; refine TL.yv (Wt.some rfl rfl rfl rfl) rfl rfl (Yv.fieldAddr rfl rfl) ?_; refine TL.yv (Wt.some rfl rfl rfl rfl) rfl rfl (Yv.loadB rfl rfl h (fun h => h)) ?_; refine TL.yv (Wt.some rfl rfl rfl rfl) rfl rfl (Yv.binR rfl rfl rfl (eq66n _ _)) ?_; refine TL.run 2 rfl ?_; refine TL.nil (K.seq (T.ret ?_)); refine K.ret1 rfl rfl (fun w' hw => ⟨?_, hw.isBelow⟩)
  rfl
theorem conflict_ret (sp : Nat) (Y : Tb) (L : Ws) (c : Bool) (w : World) (h : StateAt w sp Y L c) : Calls Tryd.prog 19 #[.pointer (some ⟨sp, 0, none⟩)] w fun e w' => e = .returned (.bool c) ∧ Below w.heap.size w w' := by
  refine calls_T (M := fun _ => False) (hs := []) Tryd.func19 rfl rfl rfl (Hp.refl _ _) ?_; refine T.seq (T.region ?_); refine TL.run 1 rfl ?_; refine TL.nil (K.seq (T.seq (T.region ?_))); refine TL.run 1 rfl ?_; (refine TL.ew (Wt.none rfl) rfl rfl (Ew.callD rfl rfl rfl (fun w hw => missing_ret sp Y L c w (h.kept hw))) ?_; rintro _ _ ⟨rfl, rfl⟩); refine TL.run 2 rfl ?_; refine TL.yv (Wt.some rfl rfl rfl rfl) rfl rfl (Yv.pur rfl) ?_; refine TL.yv (Wt.some rfl rfl rfl rfl) rfl rfl (Yv.pur rfl) ?_; refine TL.yv (Wt.some rfl rfl rfl rfl) rfl rfl (Yv.fieldAddr rfl rfl) ?_; refine TL.yv (Wt.some rfl rfl rfl rfl) rfl rfl (Yv.loadB rfl rfl h.con (fun h => h)) ?_; refine TL.run 2 rfl ?_; refine TL.nil (K.seq (T.ret ?_)); refine K.ret1 rfl rfl (fun w' hw => ⟨?_, hw.isBelow⟩)
  rfl
theorem at_ret (tp : Nat) (Y : Tb) (s : Int) (w : World) (hT : TablesAt w tp Y) (hix : ∀ j, 0 ≤ Y.ix j ∧ Y.ix j ≤ 512) : Calls Tryd.prog 36 #[.pointer (some ⟨tp, 0, none⟩), .int .i64 s] w fun e w' => e = .returned (.tuple #[.int .i64 (atF Y s).1, .bool (atF Y s).2]) ∧ Below w.heap.size w w' := by
  refine calls_T (M := fun _ => False) (hs := []) Tryd.func36 rfl rfl rfl (Hp.refl _ _) ?_; refine T.seq (T.region ?_); refine TL.run 2 rfl ?_; refine TL.nil (K.seq (T.seq (T.seq (T.region ?_)))); refine TL.run 3 rfl ?_; refine TL.gsplit rfl rfl rfl (fun h1 => ?_) (fun h1 => ?_)
  · have p1 := h1; (try simp only [nfB] at p1); refine TL.off (Wt.not rfl rfl rfl h1) rfl rfl ?_; refine TL.off (Wt.not rfl rfl rfl h1) rfl rfl ?_; refine TL.y (Yv.pickT rfl rfl h1 rfl) ?_; refine TL.run 1 rfl ?_; (try have hcx := hT.ix s.toNat (by omega)); have hx512 := hix s.toNat; refine TL.run 8 rfl ?_; refine TL.nil (K.seq ?_); refine T.condT rfl rfl ?_; refine T.seq (T.region ?_); refine TL.run 2 rfl ?_; refine TL.nil (K.seq (T.ret (K.then_ret ?_))); refine K.ret2 rfl rfl rfl (fun w' hw => ⟨?_, hw.isBelow⟩); (rw [show atF Y s = (0, false) from if_pos (by omega)]; done)
  · have p1 := h1; (try simp only [nfB] at p1); refine TL.yv (Wt.some rfl rfl rfl h1) rfl rfl (Yv.pur rfl) ?_; refine TL.yv (Wt.some rfl rfl rfl h1) rfl rfl (Yv.pur rfl) ?_; refine TL.y (Yv.pickF rfl rfl h1 rfl) ?_; refine TL.run 1 rfl ?_; refine TL.gsplit rfl rfl rfl (fun h2 => ?_) (fun h2 => ?_)
    · have p2 := h2; (try simp only [nfB] at p2); (try have hcx := hT.ix s.toNat (by omega)); have hx512 := hix s.toNat; refine TL.off (Wt.not rfl rfl rfl h2) rfl rfl ?_; refine TL.off (Wt.not rfl rfl rfl h2) rfl rfl ?_; refine TL.off (Wt.not rfl rfl rfl h2) rfl rfl ?_; refine TL.off (Wt.not rfl rfl rfl h2) rfl rfl ?_; refine TL.off (Wt.not rfl rfl rfl h2) rfl rfl ?_; refine TL.off (Wt.not rfl rfl rfl h2) rfl rfl ?_; refine TL.off (Wt.not rfl rfl rfl h2) rfl rfl ?_; refine TL.y (Yv.pickT rfl rfl h2 rfl) ?_; refine TL.nil (K.seq ?_); refine T.condT rfl rfl ?_; refine T.seq (T.region ?_); refine TL.run 2 rfl ?_; refine TL.nil (K.seq (T.ret (K.then_ret ?_))); refine K.ret2 rfl rfl rfl (fun w' hw => ⟨?_, hw.isBelow⟩); (rw [show atF Y s = (0, false) from if_pos (by omega)]; done)
    · have p2 := h2; (try simp only [nfB] at p2); (try have hcx := hT.ix s.toNat (by omega)); have hx512 := hix s.toNat; refine TL.yv (Wt.some rfl rfl rfl h2) rfl rfl (Yv.pur rfl) ?_; refine TL.yv (Wt.some rfl rfl rfl h2) rfl rfl (Yv.pur rfl) ?_; refine TL.yv (Wt.some rfl rfl rfl h2) rfl rfl (Yv.pur rfl) ?_; refine TL.yv (Wt.some rfl rfl rfl h2) rfl rfl (Yv.fieldAddr rfl rfl) ?_; refine TL.yv (Wt.some rfl rfl rfl h2) rfl rfl (Yv.indexAr rfl rfl rfl (show s = ((s.toNat : Nat) : Int) from by omega) (by omega)) ?_; refine TL.yv (Wt.some rfl rfl rfl h2) rfl rfl (Yv.loadB rfl rfl (by rw [show 0 + 1 + s.toNat * 1 = 1 + s.toNat from by omega]; exact hcx) (fun h => h)) ?_; refine TL.yv (Wt.some rfl rfl rfl h2) rfl rfl (Yv.pur rfl) ?_; refine TL.y (Yv.pickF rfl rfl h2 rfl) ?_; refine TL.nil (K.seq ?_); refine T.cond rfl (fun h3 => ?_) (fun h3 => ?_)
      · have p3 := h3; (try simp only [nfB] at p3); refine T.seq (T.region ?_); refine TL.run 2 rfl ?_; refine TL.nil (K.seq (T.ret (K.then_ret ?_))); refine K.ret2 rfl rfl rfl (fun w' hw => ⟨?_, hw.isBelow⟩); (rw [show atF Y s = (0, false) from if_pos (by omega)]; done)
      · have p3 := h3; (try simp only [nfB] at p3); refine T.skip (K.seq (T.seq (T.region ?_))); refine TL.run 3 rfl ?_; refine TL.y (Yv.fieldAddr rfl rfl) ?_; refine TL.y (Yv.indexAr rfl rfl rfl (show s = ((s.toNat : Nat) : Int) from by omega) (by omega)) ?_; refine TL.y (Yv.loadB rfl rfl (by rw [show 0 + 1 + s.toNat * 1 = 1 + s.toNat from by omega]; exact hcx) (fun h => h)) ?_; refine TL.y (Yv.subI rfl rfl rfl (by omega)) ?_; refine TL.run 2 rfl ?_; refine TL.nil (K.seq (T.ret ?_)); refine K.ret2 rfl rfl rfl (fun w' hw => ⟨?_, hw.isBelow⟩); (rw [show atF Y s = (Y.ix s.toNat - 1, true) from if_neg (by omega)]; done)
end Go.Proofs.YtljgejbmimapdaaDoor
namespace Go.Proofs.YtljgejbmimapdaaDoor
open Go.RowKit
theorem check_ret (sp : Nat) (Y : Tb) (L : Ws) (c : Bool) (x : Ch) (w : World) (h : StateAt w sp Y L c) (hix : ∀ j, 0 ≤ Y.ix j ∧ Y.ix j ≤ 512) : Calls Tryd.prog 53 #[.pointer (some ⟨sp, 0, none⟩), .agg (Ch.cells x).toArray] w fun e w' => e = .returned (.tuple #[.int .i64 (checkF Y c x).1, .int .i64 (checkF Y c x).2]) ∧ Below w.heap.size w w' := by
  obtain ⟨tp, hsp0, hT⟩ := h.tb; have hcon := h.con; refine calls_T (M := fun _ => False) (hs := []) Tryd.func53 rfl rfl rfl (Hp.refl _ _) ?_; simp only [Ch.cells]; refine T.seq (T.region ?_); (refine TL.ew (Wt.none rfl) rfl rfl (Ew.boxA rfl rfl) ?_; rintro _ _ ⟨g3, rfl, rfl⟩); refine TL.run 2 rfl ?_; refine TL.nil (K.seq (T.seq (T.seq (T.region ?_)))); refine TL.run 1 rfl ?_; (refine TL.ew (Wt.none rfl) rfl rfl (Ew.callD rfl rfl rfl (fun w hw => missing_ret sp Y L c w (h.kept hw))) ?_; rintro _ _ ⟨rfl, rfl⟩); refine TL.nil (K.seq ?_); refine T.condF rfl rfl ?_; refine T.skip (K.seq (T.seq (T.seq (T.region ?_)))); refine TL.y (Yv.fieldAddr rfl rfl) ?_; refine TL.y (Yv.loadO 0 rfl rfl rfl rfl) ?_; refine TL.run 2 rfl ?_; refine TL.gsplit rfl rfl rfl (fun h1 => ?_) (fun h1 => ?_)
  · have p1 := h1; (try simp only [nfB] at p1); refine TL.off (Wt.not rfl rfl rfl h1) rfl rfl ?_; refine TL.off (Wt.not rfl rfl rfl h1) rfl rfl ?_; refine TL.off (Wt.not rfl rfl rfl h1) rfl rfl ?_; refine TL.y (Yv.pickT rfl rfl h1 rfl) ?_; refine TL.run 10 rfl ?_; refine TL.nil (K.seq ?_); refine T.condT rfl rfl ?_; refine T.seq (T.region ?_); refine TL.run 2 rfl ?_; refine TL.nil (K.seq (T.ret (K.then_ret ?_))); refine K.ret2 rfl rfl rfl (fun w' hw => ⟨?_, hw.isBelow⟩); (rw [show checkF Y c x = (0, 2) from if_pos (by omega)])
  · have p1 := h1; (try simp only [nfB] at p1); refine TL.yv (Wt.some rfl rfl rfl h1) rfl rfl (Yv.fieldAddr rfl rfl) ?_; refine TL.yv (Wt.some rfl rfl rfl h1) rfl rfl (Yv.loadO 0 rfl rfl rfl rfl) ?_; refine TL.yv (Wt.some rfl rfl rfl h1) rfl rfl (Yv.pur rfl) ?_; refine TL.y (Yv.pickF rfl rfl h1 rfl) ?_; refine TL.run 1 rfl ?_; refine TL.gsplit rfl rfl rfl (fun h2 => ?_) (fun h2 => ?_)
    · have p2 := h2; (try simp only [nfB] at p2); refine TL.off (Wt.not rfl rfl rfl h2) rfl rfl ?_; refine TL.off (Wt.not rfl rfl rfl h2) rfl rfl ?_; refine TL.off (Wt.not rfl rfl rfl h2) rfl rfl ?_; refine TL.y (Yv.pickT rfl rfl h2 rfl) ?_; refine TL.run 5 rfl ?_; refine TL.nil (K.seq ?_); refine T.condT rfl rfl ?_; refine T.seq (T.region ?_); refine TL.run 2 rfl ?_; refine TL.nil (K.seq (T.ret (K.then_ret ?_))); refine K.ret2 rfl rfl rfl (fun w' hw => ⟨?_, hw.isBelow⟩); (rw [show checkF Y c x = (0, 2) from if_pos (by omega)])
    · have p2 := h2; (try simp only [nfB] at p2); refine TL.yv (Wt.some rfl rfl rfl h2) rfl rfl (Yv.fieldAddr rfl rfl) ?_; refine TL.yv (Wt.some rfl rfl rfl h2) rfl rfl (Yv.loadO 0 rfl rfl rfl rfl) ?_; refine TL.yv (Wt.some rfl rfl rfl h2) rfl rfl (Yv.pur rfl) ?_; refine TL.y (Yv.pickF rfl rfl h2 rfl) ?_; refine TL.run 1 rfl ?_; refine TL.gsplit rfl rfl rfl (fun h3 => ?_) (fun h3 => ?_)
      · have p3 := h3; (try simp only [nfB] at p3); refine TL.off (Wt.not rfl rfl rfl h3) rfl rfl ?_; refine TL.off (Wt.not rfl rfl rfl h3) rfl rfl ?_; refine TL.off (Wt.not rfl rfl rfl h3) rfl rfl ?_; refine TL.y (Yv.pickT rfl rfl h3 rfl) ?_; refine TL.nil (K.seq ?_); refine T.condT rfl rfl ?_; refine T.seq (T.region ?_); refine TL.run 2 rfl ?_; refine TL.nil (K.seq (T.ret (K.then_ret ?_))); refine K.ret2 rfl rfl rfl (fun w' hw => ⟨?_, hw.isBelow⟩); (rw [show checkF Y c x = (0, 2) from if_pos (by omega)])
      · have p3 := h3; (try simp only [nfB] at p3); refine TL.yv (Wt.some rfl rfl rfl h3) rfl rfl (Yv.fieldAddr rfl rfl) ?_; refine TL.yv (Wt.some rfl rfl rfl h3) rfl rfl (Yv.loadO 0 rfl rfl rfl rfl) ?_; refine TL.yv (Wt.some rfl rfl rfl h3) rfl rfl (Yv.pur rfl) ?_; refine TL.y (Yv.pickF rfl rfl h3 rfl) ?_; refine TL.nil (K.seq ?_); refine T.cond rfl (fun h4 => ?_) (fun h4 => ?_)
        · have p4 := h4; (try simp only [nfB] at p4); refine T.seq (T.region ?_); refine TL.run 2 rfl ?_; refine TL.nil (K.seq (T.ret (K.then_ret ?_))); refine K.ret2 rfl rfl rfl (fun w' hw => ⟨?_, hw.isBelow⟩); (rw [show checkF Y c x = (0, 2) from if_pos (by omega)])
        · have p4 := h4; (try simp only [nfB] at p4); refine T.skip (K.seq (T.seq (T.seq (T.region ?_)))); refine TL.run 2 rfl ?_; refine TL.y (Yv.fieldAddr rfl rfl) ?_; refine TL.y (Yv.loadB rfl rfl hcon (fun h => h)) ?_; refine TL.nil (K.seq ?_); refine T.cond rfl (fun h5 => ?_) (fun h5 => ?_)
          · have p5 := h5; (try simp only [nfB] at p5); refine T.seq (T.region ?_); refine TL.run 2 rfl ?_; refine TL.nil (K.seq (T.ret (K.then_ret ?_))); refine K.ret2 rfl rfl rfl (fun w' hw => ⟨?_, hw.isBelow⟩); (rw [show checkF Y c x = (0, 8) from by rw [checkF, if_neg (by omega), if_pos (by assumption)]])
          · have p5 := h5; (try simp only [nfB] at p5); refine T.skip (K.seq (T.seq ?_)); refine T.draw (.still 0 (.still 1 (.still 2 (.still 3 (.still 4 (.still 5 (.eff 6 (.still 7 (.still 8 (.still 9 (.still 10 (.still 11 .done)))))))))))) _ (by kernel_rfl) (List.Sublist.refl _) ?_; refine TS.run 2 rfl ?_; refine TS.y rfl (Yv.fieldAddr rfl rfl) ?_; refine TS.y rfl (Yv.loadB rfl rfl hsp0 (fun h => h)) ?_; refine TS.y rfl (Yv.fieldAddr rfl rfl) ?_; refine TS.y rfl (Yv.loadO 0 rfl rfl rfl rfl) ?_; refine TS.eff ?_; (refine TSo.ew rfl (Wt.none rfl) rfl rfl (Ew.callD rfl rfl rfl (fun w hw => at_ret tp Y x.st w (hT.later (Fz.of_below hw.isBelow)) hix)) ?_; rintro _ _ ⟨rfl, rfl⟩; refine ⟨(by repeat first | exact S0 | exact S1 | refine S2 ?_ | refine S3 ?_), ?_⟩); refine TS.run 5 rfl ?_; refine TS.done ?_; refine K.seq (T.seq (T.seq (T.region ?_))); refine TL.run 2 rfl ?_; refine TL.nil (K.seq ?_); refine T.cond rfl (fun h6 => ?_) (fun h6 => ?_)
            · have p6 := h6; (try simp only [nfB] at p6); refine T.seq (T.region ?_); refine TL.run 2 rfl ?_; refine TL.nil (K.seq (T.ret (K.then_ret ?_))); refine K.ret2 rfl rfl rfl (fun w' hw => ⟨?_, hw.isBelow⟩); (rw [show checkF Y c x = (0, 9) from by rw [checkF, if_neg (by omega), if_neg (by simp_all), if_pos (by assumption)]])
            · have p6 := h6; (try simp only [nfB] at p6); refine T.skip (K.seq (T.seq (T.region ?_))); refine TL.run 3 rfl ?_; refine TL.nil (K.seq (T.ret ?_)); refine K.ret2 rfl rfl rfl (fun w' hw => ⟨?_, hw.isBelow⟩); (rw [show checkF Y c x = ((atF Y x.st).1, 0) from by rw [checkF, if_neg (by omega), if_neg (by simp_all), if_neg (by simp_all)]])
def cutL (L : Ws) (i : Nat) (g : BitVec 64) : Ws := L.set i (nth L i &&& ~~~g)
theorem cutL_same {L : Ws} {i : Nat} {g : BitVec 64} (hi : i < L.length) (h : nth L i &&& g = 0#64) : cutL L i g = L := by
  have e : nth L i &&& ~~~g = nth L i := by
    apply BitVec.eq_of_getLsbD_eq; intro j hj; have := congrArg (fun b => BitVec.getLsbD b j) h; simp only [BitVec.getLsbD_and, BitVec.getLsbD_zero] at this; simp only [BitVec.getLsbD_and, BitVec.getLsbD_not]
    cases h1 : (nth L i).getLsbD j <;> cases h2 : g.getLsbD j <;> simp_all
  unfold cutL; rw [e]; apply List.ext_getElem?; intro j; by_cases hj : j = i
  · subst hj; rw [List.getElem?_set_self hi, List.getElem?_eq_getElem hi, nth_eq hi]
  · rw [List.getElem?_set_ne (fun e => hj e.symm)]
theorem cutL_at {L : Ws} {i : Nat} {g : BitVec 64} (hi : i < L.length) : nth (cutL L i g) i = nth L i &&& ~~~g := by unfold cutL; rw [set_nth hi, if_pos rfl]
theorem SInv.cut {Y : Tb} {L : Ws} {i : Nat} {g : BitVec 64} (hok : Y.Ok) (hi : i < Y.n) (hl : L.length = Y.n) (hcalm : ∀ k, k < Y.n → Calm1 Y L k) (hne : nth L i &&& g ≠ 0#64) :
    SInv Y (cutL L i g) (cutL L i g) (memN (touchF Y (cutL L i g) i sNil)) sNil (decide (nth (cutL L i g) i = 0#64)) := by
  (have hil : i < L.length := by omega); have hn := hok.n; have hat := cutL_at (g := g) hil; (have hlen : (cutL L i g).length = Y.n := by unfold cutL; rw [List.length_set, hl])
  have hsub : ∀ j, (nth (cutL L i g) i).getLsbD j = true → (nth L i).getLsbD j = true := fun j hj => by
    rw [hat, BitVec.getLsbD_and, Bool.and_eq_true] at hj; exact hj.1
  have hchg : nth (cutL L i g) i ≠ nth L i := fun e => hne (by
    rw [hat] at e; apply BitVec.eq_of_getLsbD_eq; intro j hj; have := congrArg (fun b => BitVec.getLsbD b j) e; simp only [BitVec.getLsbD_and, BitVec.getLsbD_not] at this; simp only [BitVec.getLsbD_and, BitVec.getLsbD_zero]
    cases h1 : (nth L i).getLsbD j <;> cases h2 : g.getLsbD j <;> simp_all)
  (have ht8 : (touchF Y (cutL L i g) i sNil).length = 8 := by rw [touchF_len]; rfl); refine ⟨.refl, hlen, rfl, (fun j _ hb => by rw [sBit_nil] at hb; cases hb), fun j hj => ?_, memF_len _ 0, fun hc => ⟨i, hi, of_decide_eq_true hc⟩, fun hc k hk => ?_⟩
  · obtain ⟨_, h5, hb⟩ := memF_mem.1 hj; rcases (touchF_bit hok hi (by rfl) j h5).1 hb with h1 | ⟨_, h1 | h1 | h1⟩
    · rw [sBit_nil] at h1; cases h1
    · obtain ⟨x, hx, he⟩ := h1; have := (hok.ps i hi).2 x hx; omega
    · obtain ⟨x, hx, he⟩ := h1; have := (hok.inn i hi).2 x hx; omega
    · obtain ⟨x, hx, he⟩ := h1; have h2 := (hok.out i hi).2 x hx; rcases he with he | ⟨_, o, ho, he⟩
      · omega
      · have := (hok.inn x.to.toNat (by omega)).2 o ho; omega
  · have h0 : nth (cutL L i g) i ≠ 0#64 := of_decide_eq_false hc; by_cases hki : k = i
    · subst hki; refine .inr (.inr ⟨h0, ?_⟩); have e := goneF_own (b := nth L k &&& ~~~g) hok hi hl; (have hg : goneF Y (cutL L k g) k = goneF Y L k := by unfold goneF cutL; rw [e.1, e.2.1, e.2.2]); rw [hg]; have hc := (hcalm k hk).2; apply BitVec.eq_of_getLsbD_eq; intro j hj; have := congrArg (fun b => BitVec.getLsbD b j) hc; simp only [BitVec.getLsbD_and, BitVec.getLsbD_zero] at this ⊢
      cases h1 : (nth (cutL L k g) k).getLsbD j
      · rfl
      · rw [hsub j h1] at this; simpa using this
    · (have hkeep : nth (cutL L i g) k = nth L k := by unfold cutL; rw [set_nth hil, if_neg hki]); have h00 : only L i = 0 := two_bits hsub hchg h0; (have honly : ∀ j, j ≠ i → only (cutL L i g) j = only L j := fun j hj => by unfold cutL; exact only_set hil hj); by_cases hnear : only (cutL L i g) i ≠ 0 ∧ Near Y (cutL L i g) i k
      · exact .inl (memF_mem.2 ⟨Nat.zero_le _, by omega, (touchF_bit hok hi (by rfl) k (by omega)).2 (.inr hnear)⟩)
      · refine .inr (.inr ⟨by rw [hkeep]; exact (hcalm k hk).1, ?_⟩)
        have ha : Alike Y L (cutL L i g) k := by
          by_cases hz : only (cutL L i g) i = 0
          · have hall : ∀ j, only (cutL L i g) j = only L j := fun j => by
              by_cases hj : j = i
              · subst hj; rw [hz, h00]
              · exact honly j hj
            exact ⟨fun x _ => ⟨fun _ => hall _, fun _ => hall _⟩, fun x _ => hall _, fun x _ => ⟨hall _, fun _ o _ _ => hall _⟩⟩
          · exact alike_far hok hi hk hki honly h00 (fun hh => hnear ⟨hz, hh⟩)
        rw [goneF_alike ha (fun x hx => by have := (hok.out k hk).2 x hx; omega), hkeep]; exact (hcalm k hk).2
theorem cutPerm (a b c d : Ent) : [a, b, c, d].Perm ([c, d, a] ++ [b]) := by
  have h1 : [a, b, c, d].Perm ([c, d] ++ [a, b]) := List.perm_append_comm (l₁ := [a, b]) (l₂ := [c, d]); exact h1
theorem cutMN {w0 w w1 : World} {M : Nat → Prop} {es rest : HS} (hfr : Fz w0 w) (h : Hp w M (es ++ rest) w1) (hMN : ∀ g, M g → ¬ IsC w0 g) (g : Nat) (hg : fps es g) : ¬ IsC w0 g := fun hc => by
  obtain ⟨e, he, hf⟩ := hg; rcases h.new e (List.mem_append_left _ he) g hf with hh | hh
  · exact hMN g hh hc
  · have h9 := hfr g hc; obtain ⟨_, _, _, h8⟩ := hc; rw [h8] at h9; have := (Array.getElem?_eq_some_iff.1 h9).1; omega
theorem cutM0 {w w1 : World} {M : Nat → Prop} {es rest : HS} (htab : Tab w) (h : Hp w M (es ++ rest) w1) (hM0 : ¬ M 0) (hg : fps es 0) : False := by
  obtain ⟨e, he, hf⟩ := hg; rcases h.new e (List.mem_append_left _ he) 0 hf with hh | hh
  · exact hM0 hh
  · have := htab.size; omega
theorem cut_ret (w0 : World) (sp gl tp : Nat) (Y : Tb) (L : Ws) (w : World) (ht : TablesAt w0 tp Y) (hok : Y.Ok) (hfr : Fz w0 w) (htab : Tab w) (hes : Hp w (fps [sRow sp gl tp Y.n false, sLeft gl Y.n L]) [sRow sp gl tp Y.n false, sLeft gl Y.n L] w) (hMN : ∀ g, fps [sRow sp gl tp Y.n false, sLeft gl Y.n L] g → ¬ IsC w0 g) (hM0 : ¬ fps [sRow sp gl tp Y.n false, sLeft gl Y.n L] 0) (hl : L.length = Y.n) (hcalm : ∀ k, k < Y.n → Calm1 Y L k) (i : Nat) (z : Int) (hz : z = (i : Int)) (hi : i < Y.n) (gone : BitVec 64) : Calls Tryd.prog 54 #[.pointer (some ⟨sp, 0, none⟩), .int .i64 z, U gone] w fun e w' => ∃ y : Ws × Bool, SPost Y (cutL L i gone) y.1 y.2 ∧ e = .returned (.tuple #[]) ∧ Hp w (fps [sRow sp gl tp Y.n false, sLeft gl Y.n L]) [sRow sp gl tp Y.n y.2, sLeft gl Y.n y.1] w' := by
  subst hz; have hld : (Ws.cells L)[0 + i * 1]? = some (U (nth L i)) := Ws.get (by omega) (by omega); (have hcl : (cutL L i gone).length = Y.n := by unfold cutL; rw [List.length_set, hl]); have hld1 : (Ws.cells (cutL L i gone))[0 + i * 1]? = some (U (nth (cutL L i gone) i)) := Ws.get (by omega) (by omega); (have ht8 : (touchF Y (cutL L i gone) i sNil).length = 8 := by rw [touchF_len]; rfl); refine calls_T (M := fps [sRow sp gl tp Y.n false, sLeft gl Y.n L]) (hs := [sRow sp gl tp Y.n false, sLeft gl Y.n L]) Tryd.func54 rfl rfl rfl hes ?_; refine T.seq (T.seq (T.region ?_)); refine TL.run 2 rfl ?_; refine TL.y (Yv.fieldAddr rfl rfl) ?_; refine TL.y (Yv.loadO 0 rfl rfl rfl rfl) ?_; refine TL.run 1 rfl ?_; refine TL.y (Yv.indexSl rfl rfl rfl rfl (by omega)) ?_; refine TL.y (Yv.loadS 1 rfl rfl rfl hld) ?_; refine TL.run 1 rfl ?_; refine TL.y (Yv.andV rfl rfl rfl) ?_; refine TL.run 1 rfl ?_; refine TL.nil (K.seq ?_); refine T.cond rfl (fun h1 => ?_) (fun h1 => ?_)
  · have p1 := h1; (try simp only [nfB] at p1); have hz0 : nth L i &&& gone = 0#64 := BitVec.eq_of_toNat_eq (by show _ = 0; omega); refine T.ret (K.then_ret ?_); exact K.ret0 rfl (fun w' hw => ⟨(L, false), ⟨by rw [cutL_same (by omega) hz0]; exact .refl, hl, (fun hh => by cases hh), fun _ => hcalm⟩, rfl, hw⟩)
  · have p1 := h1; (try simp only [nfB] at p1); have hz1 : nth L i &&& gone ≠ 0#64 := fun hh => p1 (by rw [hh]; rfl); have hinv := SInv.cut hok hi hl hcalm hz1; refine T.skip (K.seq (T.seq (T.region ?_))); refine TL.run 2 rfl ?_; refine TL.y (Yv.fieldAddr rfl rfl) ?_; refine TL.y (Yv.loadO 0 rfl rfl rfl rfl) ?_; refine TL.run 1 rfl ?_; refine TL.y (Yv.indexSl rfl rfl rfl rfl (by omega)) ?_; refine TL.y (Yv.loadS 1 rfl rfl rfl hld) ?_; refine TL.run 1 rfl ?_; refine TL.y (Yv.andNotV rfl rfl rfl) ?_; refine TL.y (Yv.indexSl rfl rfl rfl rfl (by omega)) ?_; (refine TL.ew0 (Wt.none rfl) rfl (Ew.storeSE 1 (Ws.cells (cutL L i gone)) rfl rfl rfl rfl (by rw [List.length_map]; omega) (set_cells (by omega))) ?_; rintro _ _ ⟨rfl, rfl⟩); refine TL.nil (K.seq (T.seq (T.region ?_))); (refine TL.ew (Wt.none rfl) rfl rfl (Ew.alloc rfl) ?_; rintro _ _ ⟨g6, rfl, rfl⟩); refine TL.nil (K.seq (T.seq (T.region ?_))); refine TL.run 2 rfl ?_; (refine TL.ew (Wt.none rfl) rfl rfl (Ew.callM 0 rfl rfl rfl rfl (fun w hw => touch_ret w0 sp gl tp g6 Y (cutL L i gone) _ sNil rfl i _ rfl hi w (StF.of hw ht (Fz.hp hfr hw hMN) (htab.kept hw hM0) 1 2 rfl rfl (by unfold cutL; rw [List.length_set, hl])) hok (by rcases hw.new _ (List.mem_of_getElem? (i := 0) rfl) g6 (Ent.row_fp.2 rfl) with hh | hh; exact hMN _ hh; exact (fun hc => by have h9 := hfr _ hc; obtain ⟨_, _, _, h8⟩ := hc; rw [h8] at h9; have := (Array.getElem?_eq_some_iff.1 h9).1; omega)) (by intro hz0; subst hz0; rcases hw.new _ (List.mem_of_getElem? (i := 0) rfl) 0 (Ent.row_fp.2 rfl) with hh | hh; exact hM0 hh; have := htab.size; omega) (fun hh => hw.ne (i := 0) (j := 1) (by omega) rfl rfl (g := g6) (Ent.row_fp.2 rfl) (Ent.row_fp.2 hh.symm)) (fun hh => hw.ne (i := 0) (j := 2) (by omega) rfl rfl (g := g6) (Ent.row_fp.2 rfl) (Ent.sl_fp.2 (by rw [hh]; rfl))) (hw.get (i := 0) rfl))) ?_; rintro _ _ ⟨-, -, rfl, rfl⟩); refine TL.nil (K.seq ?_); refine T.cut (gs := [(0, .pointer (some ⟨sp, 0, none⟩)), (6, .pointer (some ⟨g6, 0, none⟩))]) (hs' := [.row g6 127 (Ws.cells (touchF Y (cutL L i gone) i sNil)), sRow sp gl tp Y.n (decide (nth (cutL L i gone) i = 0#64)), sLeft gl Y.n (cutL L i gone)]) ?_ ?_
    · skip; refine T.seq (T.region ?_); refine TL.run 2 rfl ?_; refine TL.y (Yv.fieldAddr rfl rfl) ?_; refine TL.y (Yv.loadO 1 rfl rfl rfl rfl) ?_; refine TL.run 1 rfl ?_; refine TL.y (Yv.indexSl rfl rfl rfl rfl (by omega)) ?_; refine TL.y (Yv.loadS 2 rfl rfl rfl hld1) ?_; refine TL.run 1 rfl ?_; refine TL.nil (K.seq ?_); refine T.cond rfl (fun h2 => ?_) (fun h2 => ?_)
      · have p2 := h2; (try simp only [nfB] at p2); have hd0 : decide (nth (cutL L i gone) i = 0#64) = true := decide_eq_true (BitVec.eq_of_toNat_eq (by show _ = 0; omega)); refine T.region ?_; refine TL.run 2 rfl ?_; refine TL.y (Yv.fieldAddr rfl rfl) ?_; (refine TL.ew0 (Wt.none rfl) rfl (Ew.store1 1 rfl rfl rfl rfl (by first | omega | simp)) ?_; rintro _ _ ⟨rfl, rfl⟩); refine TL.nil ?_; (rw [hd0]; exact K.at (by repeat (first | exact Sub.nil | refine Sub.cons rfl ?_)) (by repeat first | exact S0 | exact S1 | refine S2 ?_ | refine S3 ?_))
      · have p2 := h2; (try simp only [nfB] at p2); have hd1 : decide (nth (cutL L i gone) i = 0#64) = false := decide_eq_false (fun hh => p2 (by rw [hh]; rfl)); refine T.skip ?_; (rw [hd1]; exact K.at (by repeat (first | exact Sub.nil | refine Sub.cons rfl ?_)) (by repeat first | exact S0 | exact S1 | refine S2 ?_ | refine S3 ?_))
    · skip; refine T.region ?_; refine TL.run 1 rfl ?_; refine TL.y (Yv.loadAO 0 rfl rfl rfl (by rw [List.length_map, ht8])) ?_; (refine TL.ew (Wt.none rfl) rfl rfl (Ew.callH rfl rfl rfl (fun w hw => list_ret _ ht8 w (htab.kept hw hM0))) ?_; rintro v43 _ ⟨_, -, rfl, rfl⟩); dsimp only [List.cons_append, List.nil_append]; refine TL.conv 0 _ (Ent.qu v43 (memN (touchF Y (cutL L i gone) i sNil))) rfl (fun w hh => qu_of_sl rfl hh) (fun g hg => Ent.sl_fp.2 (Ent.qu_fp.1 hg)) ?_; (refine TL.ew (Wt.none rfl) rfl rfl (Ew.callL [sRow sp gl tp Y.n (decide (nth (cutL L i gone) i = 0#64)), sLeft gl Y.n (cutL L i gone), Ent.qu v43 (memN (touchF Y (cutL L i gone) i sNil))] [.row g6 127 (Ws.cells (touchF Y (cutL L i gone) i sNil))] rfl rfl rfl (cutPerm _ _ _ _) (fun w hw hw2 => settle_ret w0 sp gl tp Y (cutL L i gone) _ _ _ w ht hok (Fz.hp hfr hw hMN) (htab.kept hw hM0) hw2.part (fun g hg => cutMN hfr hw2 hMN g hg) (fun hg => cutM0 htab hw2 hM0 hg) hinv)) ?_; rintro _ _ ⟨y44, hpost, rfl, rfl⟩); dsimp only [List.cons_append, List.nil_append]; refine TL.nil ?_; exact K.end0 rfl (fun w' hw => ⟨y44, hpost, rfl, hw.sub (by repeat first | exact S0 | exact S1 | refine S2 ?_ | refine S3 ?_)⟩)
end Go.Proofs.YtljgejbmimapdaaDoor
namespace Go.Proofs.YtljgejbmimapdaaDoor
open Go.RowKit
theorem at_facts {Y : Tb} (hix : ∀ j, 0 ≤ Y.ix j ∧ Y.ix j ≤ Y.n) {s : Int} (h : (atF Y s).2 = true) : 0 ≤ (atF Y s).1 ∧ (atF Y s).1 < Y.n := by
  unfold atF at h ⊢
  split
  · rename_i hh; rw [if_pos hh] at h; cases h
  · have := hix s.toNat; simp only; omega
theorem check_facts {Y : Tb} {c : Bool} (hix : ∀ j, 0 ≤ Y.ix j ∧ Y.ix j ≤ Y.n) {x : Ch} (h : (checkF Y c x).2 = 0) : 0 ≤ (checkF Y c x).1 ∧ (checkF Y c x).1 < Y.n ∧ 2 ≤ x.ch ∧ x.ch ≤ 51 := by
  unfold checkF at h ⊢
  split
  · rename_i hh; rw [if_pos hh] at h; cases h
  · rename_i hh; rw [if_neg hh] at h
    split
    · rename_i h2; rw [if_pos h2] at h; cases h
    · rename_i h2; rw [if_neg h2] at h
      split
      · rename_i h3; rw [if_pos h3] at h; cases h
      · rename_i h3; have := at_facts hix (s := x.st) (by simpa using h3); simp only; omega
theorem Tb.ix512 {Y : Tb} (hok : Y.Ok) (hix : ∀ j, 0 ≤ Y.ix j ∧ Y.ix j ≤ Y.n) : ∀ j, 0 ≤ Y.ix j ∧ Y.ix j ≤ 512 := fun j => by have := hix j; have := hok.n; omega
theorem assume_err (sp : Nat) (Y : Tb) (L : Ws) (c : Bool) (x : Ch) (w : World) (h : StateAt w sp Y L c) (hix : ∀ j, 0 ≤ Y.ix j ∧ Y.ix j ≤ 512) (he : (checkF Y c x).2 ≠ 0) : Calls Tryd.prog 29 #[.pointer (some ⟨sp, 0, none⟩), .agg (Ch.cells x).toArray] w fun e w' => e = .returned (.int .i64 (checkF Y c x).2) ∧ Below w.heap.size w w' := by
  refine calls_T (M := fun _ => False) (hs := []) Tryd.func29 rfl rfl rfl (Hp.refl _ _) ?_; simp only [Ch.cells]; refine T.seq (T.region ?_); (refine TL.ew (Wt.none rfl) rfl rfl (Ew.boxA rfl rfl) ?_; rintro _ _ ⟨g3, rfl, rfl⟩); refine TL.run 1 rfl ?_; refine TL.nil (K.seq (T.seq (T.region ?_))); refine TL.run 1 rfl ?_; refine TL.y (Yv.loadAO 0 rfl rfl rfl rfl) ?_; (refine TL.ew (Wt.none rfl) rfl rfl (Ew.callD rfl rfl rfl (fun w hw => check_ret sp Y L c x w (h.kept hw) hix)) ?_; rintro _ _ ⟨rfl, rfl⟩); refine TL.run 5 rfl ?_; refine TL.nil (K.seq (T.seq (T.seq (T.region ?_)))); refine TL.run 2 rfl ?_; refine TL.nil (K.seq ?_); refine T.condF rfl (decide_eq_false he) ?_; refine T.skip (K.seq (T.seq (T.region ?_))); refine TL.run 2 rfl ?_; refine TL.nil (K.seq (T.ret ?_)); refine K.ret1 rfl rfl (fun w' hw => ⟨?_, hw.isBelow⟩)
  rfl
theorem assume_ok (w0 : World) (sp gl tp : Nat) (Y : Tb) (L : Ws) (w : World) (ht : TablesAt w0 tp Y) (hok : Y.Ok) (hfr : Fz w0 w) (htab : Tab w) (hes : Hp w (fps [sRow sp gl tp Y.n false, sLeft gl Y.n L]) [sRow sp gl tp Y.n false, sLeft gl Y.n L] w) (hMN : ∀ g, fps [sRow sp gl tp Y.n false, sLeft gl Y.n L] g → ¬ IsC w0 g) (hM0 : ¬ fps [sRow sp gl tp Y.n false, sLeft gl Y.n L] 0) (hl : L.length = Y.n) (hcalm : ∀ k, k < Y.n → Calm1 Y L k) (hix : ∀ j, 0 ≤ Y.ix j ∧ Y.ix j ≤ Y.n) (x : Ch) (he : (checkF Y false x).2 = 0) : Calls Tryd.prog 29 #[.pointer (some ⟨sp, 0, none⟩), .agg (Ch.cells x).toArray] w fun e w' => ∃ y : Ws × Bool, SPost Y (cutL L (checkF Y false x).1.toNat (~~~(1#64 <<< x.ch.toNat))) y.1 y.2 ∧ e = .returned (.int .i64 0) ∧ Hp w (fps [sRow sp gl tp Y.n false, sLeft gl Y.n L]) [sRow sp gl tp Y.n y.2, sLeft gl Y.n y.1] w' := by
  obtain ⟨hc1, hc2, hc3, hc4⟩ := check_facts hix he; refine calls_T (M := fps [sRow sp gl tp Y.n false, sLeft gl Y.n L]) (hs := [sRow sp gl tp Y.n false, sLeft gl Y.n L]) Tryd.func29 rfl rfl rfl hes ?_; simp only [Ch.cells]; refine T.seq (T.region ?_); (refine TL.ew (Wt.none rfl) rfl rfl (Ew.boxA rfl rfl) ?_; rintro _ _ ⟨g3, rfl, rfl⟩); refine TL.run 1 rfl ?_; refine TL.nil (K.seq (T.seq (T.region ?_))); refine TL.run 1 rfl ?_; refine TL.y (Yv.loadAO 0 rfl rfl rfl rfl) ?_; (refine TL.ew (Wt.none rfl) rfl rfl (Ew.callD rfl rfl rfl (fun w hw => check_ret sp Y L false x w (StF.of hw ht (Fz.hp hfr hw hMN) (htab.kept hw hM0) 1 2 rfl rfl hl).st (Y.ix512 hok hix))) ?_; rintro _ _ ⟨rfl, rfl⟩); refine TL.run 5 rfl ?_; refine TL.nil (K.seq (T.seq (T.seq (T.region ?_)))); refine TL.run 2 rfl ?_; refine TL.nil (K.seq ?_); refine T.condT rfl (decide_eq_true he) ?_; refine T.region ?_; refine TL.run 2 rfl ?_; refine TL.y (Yv.fieldAddr rfl rfl) ?_; refine TL.y (Yv.loadO 0 rfl rfl rfl rfl) ?_; refine TL.y (Yv.shlV (a := 1#64) x.ch.toNat rfl rfl rfl (by omega) (by omega)) ?_; refine TL.y (Yv.complV rfl rfl) ?_; (refine TL.ew (Wt.none rfl) rfl rfl (Ew.callL [sRow sp gl tp Y.n false, sLeft gl Y.n L] [Ent.row g3 40 [.int .i64 x.st, .int .i64 x.ch]] rfl rfl rfl (List.perm_append_comm (l₁ := [Ent.row g3 40 [.int .i64 x.st, .int .i64 x.ch]])) (fun w hw hw2 => cut_ret w0 sp gl tp Y L w ht hok (Fz.hp hfr hw hMN) (htab.kept hw hM0) hw2.part (fun g hg => cutMN hfr hw2 hMN g hg) (fun hg => cutM0 htab hw2 hM0 hg) hl hcalm (checkF Y false x).1.toNat _ (by omega) (by omega) (~~~(1#64 <<< x.ch.toNat)))) ?_; rintro _ _ ⟨y, hpost, rfl, rfl⟩); dsimp only [List.cons_append, List.nil_append]; refine TL.nil (K.seq (T.seq (T.region ?_))); refine TL.run 2 rfl ?_; refine TL.nil (K.seq (T.ret ?_)); exact K.ret1 rfl rfl (fun w' hw => ⟨y, hpost, by rw [he], hw.sub (by repeat first | exact S0 | exact S1 | refine S2 ?_ | refine S3 ?_)⟩)
theorem forbid_err (sp : Nat) (Y : Tb) (L : Ws) (c : Bool) (x : Ch) (w : World) (h : StateAt w sp Y L c) (hix : ∀ j, 0 ≤ Y.ix j ∧ Y.ix j ≤ 512) (he : (checkF Y c x).2 ≠ 0) : Calls Tryd.prog 30 #[.pointer (some ⟨sp, 0, none⟩), .agg (Ch.cells x).toArray] w fun e w' => e = .returned (.int .i64 (checkF Y c x).2) ∧ Below w.heap.size w w' := by
  refine calls_T (M := fun _ => False) (hs := []) Tryd.func30 rfl rfl rfl (Hp.refl _ _) ?_; simp only [Ch.cells]; refine T.seq (T.region ?_); (refine TL.ew (Wt.none rfl) rfl rfl (Ew.boxA rfl rfl) ?_; rintro _ _ ⟨g3, rfl, rfl⟩); refine TL.run 1 rfl ?_; refine TL.nil (K.seq (T.seq (T.region ?_))); refine TL.run 1 rfl ?_; refine TL.y (Yv.loadAO 0 rfl rfl rfl rfl) ?_; (refine TL.ew (Wt.none rfl) rfl rfl (Ew.callD rfl rfl rfl (fun w hw => check_ret sp Y L c x w (h.kept hw) hix)) ?_; rintro _ _ ⟨rfl, rfl⟩); refine TL.run 5 rfl ?_; refine TL.nil (K.seq (T.seq (T.seq (T.region ?_)))); refine TL.run 2 rfl ?_; refine TL.nil (K.seq ?_); refine T.condF rfl (decide_eq_false he) ?_; refine T.skip (K.seq (T.seq (T.region ?_))); refine TL.run 2 rfl ?_; refine TL.nil (K.seq (T.ret ?_)); refine K.ret1 rfl rfl (fun w' hw => ⟨?_, hw.isBelow⟩)
  rfl
theorem forbid_ok (w0 : World) (sp gl tp : Nat) (Y : Tb) (L : Ws) (w : World) (ht : TablesAt w0 tp Y) (hok : Y.Ok) (hfr : Fz w0 w) (htab : Tab w) (hes : Hp w (fps [sRow sp gl tp Y.n false, sLeft gl Y.n L]) [sRow sp gl tp Y.n false, sLeft gl Y.n L] w) (hMN : ∀ g, fps [sRow sp gl tp Y.n false, sLeft gl Y.n L] g → ¬ IsC w0 g) (hM0 : ¬ fps [sRow sp gl tp Y.n false, sLeft gl Y.n L] 0) (hl : L.length = Y.n) (hcalm : ∀ k, k < Y.n → Calm1 Y L k) (hix : ∀ j, 0 ≤ Y.ix j ∧ Y.ix j ≤ Y.n) (x : Ch) (he : (checkF Y false x).2 = 0) : Calls Tryd.prog 30 #[.pointer (some ⟨sp, 0, none⟩), .agg (Ch.cells x).toArray] w fun e w' => ∃ y : Ws × Bool, SPost Y (cutL L (checkF Y false x).1.toNat (1#64 <<< x.ch.toNat)) y.1 y.2 ∧ e = .returned (.int .i64 0) ∧ Hp w (fps [sRow sp gl tp Y.n false, sLeft gl Y.n L]) [sRow sp gl tp Y.n y.2, sLeft gl Y.n y.1] w' := by
  obtain ⟨hc1, hc2, hc3, hc4⟩ := check_facts hix he; refine calls_T (M := fps [sRow sp gl tp Y.n false, sLeft gl Y.n L]) (hs := [sRow sp gl tp Y.n false, sLeft gl Y.n L]) Tryd.func30 rfl rfl rfl hes ?_; simp only [Ch.cells]; refine T.seq (T.region ?_); (refine TL.ew (Wt.none rfl) rfl rfl (Ew.boxA rfl rfl) ?_; rintro _ _ ⟨g3, rfl, rfl⟩); refine TL.run 1 rfl ?_; refine TL.nil (K.seq (T.seq (T.region ?_))); refine TL.run 1 rfl ?_; refine TL.y (Yv.loadAO 0 rfl rfl rfl rfl) ?_; (refine TL.ew (Wt.none rfl) rfl rfl (Ew.callD rfl rfl rfl (fun w hw => check_ret sp Y L false x w (StF.of hw ht (Fz.hp hfr hw hMN) (htab.kept hw hM0) 1 2 rfl rfl hl).st (Y.ix512 hok hix))) ?_; rintro _ _ ⟨rfl, rfl⟩); refine TL.run 5 rfl ?_; refine TL.nil (K.seq (T.seq (T.seq (T.region ?_)))); refine TL.run 2 rfl ?_; refine TL.nil (K.seq ?_); refine T.condT rfl (decide_eq_true he) ?_; refine T.region ?_; refine TL.run 2 rfl ?_; refine TL.y (Yv.fieldAddr rfl rfl) ?_; refine TL.y (Yv.loadO 0 rfl rfl rfl rfl) ?_; refine TL.y (Yv.shlV (a := 1#64) x.ch.toNat rfl rfl rfl (by omega) (by omega)) ?_; (refine TL.ew (Wt.none rfl) rfl rfl (Ew.callL [sRow sp gl tp Y.n false, sLeft gl Y.n L] [Ent.row g3 40 [.int .i64 x.st, .int .i64 x.ch]] rfl rfl rfl (List.perm_append_comm (l₁ := [Ent.row g3 40 [.int .i64 x.st, .int .i64 x.ch]])) (fun w hw hw2 => cut_ret w0 sp gl tp Y L w ht hok (Fz.hp hfr hw hMN) (htab.kept hw hM0) hw2.part (fun g hg => cutMN hfr hw2 hMN g hg) (fun hg => cutM0 htab hw2 hM0 hg) hl hcalm (checkF Y false x).1.toNat _ (by omega) (by omega) (1#64 <<< x.ch.toNat))) ?_; rintro _ _ ⟨y, hpost, rfl, rfl⟩); dsimp only [List.cons_append, List.nil_append]; refine TL.nil (K.seq (T.seq (T.region ?_))); refine TL.run 2 rfl ?_; refine TL.nil (K.seq (T.ret ?_)); exact K.ret1 rfl rfl (fun w' hw => ⟨y, hpost, by rw [he], hw.sub (by repeat first | exact S0 | exact S1 | refine S2 ?_ | refine S3 ?_)⟩)
def popsum (L : Ws) (k : Nat) : Int := ((L.take k).map fun b => (pop64 b : Int)).sum
theorem popsum_succ {L : Ws} {k : Nat} (h : k < L.length) : popsum L (k + 1) = popsum L k + (pop64 (nth L k) : Int) := by
  unfold popsum; rw [List.take_succ_eq_append_getElem h, nth_eq h, List.map_append, List.sum_append]; simp
theorem popsum_le (L : Ws) : ∀ k, 0 ≤ popsum L k ∧ popsum L k ≤ 127 * (k : Int)
  | 0 => by simp [popsum]
  | k + 1 => by
    have := popsum_le L k; rcases Nat.lt_or_ge k L.length with h | h
    · rw [popsum_succ h]; have := pop64_le (nth L k); omega
    · unfold popsum at *; rw [List.take_of_length_le (by omega)] at *; omega
def removedF (Y : Tb) (L : Ws) (c : Bool) : Int := if c then 0 else Y.total - popsum L L.length
def fixF (Y : Tb) (L : Ws) (k : Nat) : List Ch := ((List.range k).filter fun i => decide (only L i ≠ 0)).map fun i => ⟨nth Y.st i, (only L i : Int)⟩
theorem fixF_succ {Y : Tb} {L : Ws} {k : Nat} : fixF Y L (k + 1) = fixF Y L k ++ (if only L k ≠ 0 then [⟨nth Y.st k, (only L k : Int)⟩] else []) := by
  unfold fixF; rw [List.range_succ, List.filter_append, List.map_append]
  congr 1
  by_cases h : only L k = 0 <;> simp [h]
theorem fixF_len {Y : Tb} {L : Ws} {k : Nat} : (fixF Y L k).length ≤ k := by
  unfold fixF; rw [List.length_map]; have := List.length_filter_le (fun i => decide (only L i ≠ 0)) (List.range k); rw [List.length_range] at this; exact this
theorem removed_ret (sp : Nat) (Y : Tb) (L : Ws) (c : Bool) (w : World) (h : StateAt w sp Y L c) (hok : Y.Ok) (htot : 0 ≤ Y.total ∧ Y.total ≤ 1000000) : Calls Tryd.prog 21 #[.pointer (some ⟨sp, 0, none⟩)] w fun e w' => e = .returned (.int .i64 (removedF Y L c)) ∧ Below w.heap.size w w' := by
  obtain ⟨tp, hsp0, hT⟩ := h.tb; obtain ⟨vL, hsp1, hL⟩ := h.left; obtain ⟨AL, capL, rfl, hLs⟩ := hL.op; have hLn := h.len; have hcon := h.con; have htl := hT.total; have hn512 := hok.n; refine calls_T (M := fun _ => False) (hs := []) Tryd.func21 rfl rfl rfl (Hp.refl _ _) ?_; refine T.seq (T.region ?_); refine TL.run 1 rfl ?_; refine TL.nil (K.seq (T.seq (T.seq (T.region ?_)))); refine TL.run 1 rfl ?_; (refine TL.ew (Wt.none rfl) rfl rfl (Ew.callD rfl rfl rfl (fun w hw => missing_ret sp Y L c w (h.kept hw))) ?_; rintro _ _ ⟨rfl, rfl⟩); refine TL.run 1 rfl ?_; refine TL.yv (Wt.some rfl rfl rfl rfl) rfl rfl (Yv.pur rfl) ?_; refine TL.yv (Wt.some rfl rfl rfl rfl) rfl rfl (Yv.pur rfl) ?_; refine TL.yv (Wt.some rfl rfl rfl rfl) rfl rfl (Yv.fieldAddr rfl rfl) ?_; refine TL.yv (Wt.some rfl rfl rfl rfl) rfl rfl (Yv.loadB rfl rfl hcon (fun h => h)) ?_; refine TL.run 1 rfl ?_; refine TL.nil (K.seq ?_); refine T.cond rfl (fun h1 => ?_) (fun h1 => ?_)
  · have p1 := h1; (try simp only [nfB] at p1); refine T.seq (T.region ?_); refine TL.run 1 rfl ?_; refine TL.nil (K.seq (T.ret (K.then_ret ?_))); exact K.ret1 rfl rfl (fun w' hw => ⟨ret_int (by rw [removedF, if_pos (by assumption)]), hw.isBelow⟩)
  · have p1 := h1; (try simp only [nfB] at p1); refine T.skip (K.seq (T.seq (T.region ?_))); refine TL.run 2 rfl ?_; refine TL.y (Yv.fieldAddr rfl rfl) ?_; refine TL.y (Yv.loadB rfl rfl hsp0 (fun h => h)) ?_; refine TL.run 1 rfl ?_; refine TL.y (Yv.fieldAddr rfl rfl) ?_; refine TL.y (Yv.loadB rfl rfl htl (fun h => h)) ?_; refine TL.run 1 rfl ?_; refine TL.nil (K.seq (T.seq (T.seq (T.region ?_)))); refine TL.run 2 rfl ?_; refine TL.y (Yv.fieldAddr rfl rfl) ?_; refine TL.y (Yv.loadB rfl rfl hsp1 (fun h => h)) ?_; refine TL.y (Yv.lenSl rfl rfl) ?_; refine TL.run 1 rfl ?_; refine TL.nil (K.seq (T.block ?_)); refine T.loop (ι := Nat) (fun k => [(3, .int .i64 (Y.total - popsum L k)), (24, .slice AL L.length capL), (25, .int .i64 (L.length : Int)), (26, .int .i64 (k : Int))]) (fun k => []) (fun k => k ≤ L.length) (fun k => L.length - k) 0 ?_ ?_ ?_ ?_
    · omega
    · exact (by repeat (first | exact Sub.nil | refine Sub.cons rfl ?_ | (refine Sub.consI rfl (by simp [popsum]) ?_)))
    · exact (by repeat first | exact S0 | exact S1 | refine S2 ?_ | refine S3 ?_)
    · intro k hphi; have hpl := popsum_le L k; refine T.seq (T.region ?_); refine TL.run 1 rfl ?_; refine TL.nil (K.seq (T.seq ?_)); refine T.cond rfl (fun h2 => ?_) (fun h2 => ?_)
      · have p2 := h2; (try simp only [nfB] at p2); obtain ⟨gL, oL, rfl, hc⟩ := hLs (by omega); have hk := hc k (by omega); simp only [Le] at hk; have hp8 := pop64_le (nth L k); refine T.skip (K.seq (T.seq (T.block (T.seq (T.region ?_))))); refine TL.y (Yv.indexSl rfl rfl rfl rfl (by omega)) ?_; refine TL.y (Yv.loadC (j := 0) rfl rfl hk rfl rfl (fun h => h)) ?_; refine TL.run 1 rfl ?_; refine TL.nil (K.seq (T.region ?_)); refine TL.run 2 rfl ?_; (refine TL.ew (Wt.none rfl) rfl rfl (Ew.callD rfl rfl rfl (fun w hw => ones_ret _ w)) ?_; rintro _ _ ⟨rfl, rfl⟩); refine TL.y (Yv.subI rfl rfl rfl (by omega)) ?_; refine TL.run 1 rfl ?_; refine TL.nil (K.blk_normal (K.seq (T.region ?_))); refine TL.y (Yv.addI rfl rfl rfl (by omega)) ?_; refine TL.run 1 rfl ?_; refine TL.nil ?_; exact K.next (k + 1) (by omega) (by omega) (by repeat (first | exact Sub.nil | refine Sub.cons rfl ?_ | (refine Sub.consI rfl (by rw [popsum_succ (by omega)]; omega) ?_))) (by repeat first | exact S0 | exact S1 | refine S2 ?_ | refine S3 ?_)
      · have p2 := h2; (try simp only [nfB] at p2); refine T.exit (K.then_exit (K.then_exit (K.blk_exit_eq (K.seq (T.seq (T.region ?_)))))); refine TL.run 2 rfl ?_; refine TL.nil (K.seq (T.ret ?_)); exact K.ret1 rfl rfl (fun w' hw => ⟨ret_int (by rw [removedF, if_neg (by simp_all), show k = L.length by omega]), hw.isBelow⟩)
theorem fixed_ret (sp : Nat) (Y : Tb) (L : Ws) (w : World) (h : StateAt w sp Y L false) (hok : Y.Ok) : Calls Tryd.prog 23 #[.pointer (some ⟨sp, 0, none⟩)] w fun e w' => ∃ v : Value, True ∧ e = .returned v ∧ Hp w (fun _ => False) [.sl v 40 2 (fixF Y L Y.n).length ((fixF Y L Y.n).flatMap Ch.cells)] w' := by
  obtain ⟨tp, hsp0, hT⟩ := h.tb; obtain ⟨vL, hsp1, hL⟩ := h.left; obtain ⟨AL, capL, rfl, hLs⟩ := hL.op; have hLn := h.len; have hcon := h.con; obtain ⟨vS, hS0, hS⟩ := hT.st; obtain ⟨AS, capS, rfl, hSs⟩ := hS.op; have hn512 := hok.n; have hstn : Y.st.length = Y.n := rfl; refine calls_T (M := fun _ => False) (hs := []) Tryd.func23 rfl rfl rfl (Hp.refl _ _) ?_; refine T.seq (T.region ?_); refine TL.run 1 rfl ?_; refine TL.nil (K.seq (T.seq (T.seq (T.region ?_)))); refine TL.run 1 rfl ?_; (refine TL.ew (Wt.none rfl) rfl rfl (Ew.callD rfl rfl rfl (fun w hw => missing_ret sp Y L false w (h.kept hw))) ?_; rintro _ _ ⟨rfl, rfl⟩); refine TL.run 1 rfl ?_; refine TL.yv (Wt.some rfl rfl rfl rfl) rfl rfl (Yv.pur rfl) ?_; refine TL.yv (Wt.some rfl rfl rfl rfl) rfl rfl (Yv.pur rfl) ?_; refine TL.yv (Wt.some rfl rfl rfl rfl) rfl rfl (Yv.fieldAddr rfl rfl) ?_; refine TL.yv (Wt.some rfl rfl rfl rfl) rfl rfl (Yv.loadB rfl rfl hcon (fun h => h)) ?_; refine TL.run 1 rfl ?_; refine TL.nil (K.seq ?_); refine T.condF rfl rfl ?_; refine T.skip (K.seq (T.seq (T.region ?_))); refine TL.run 1 rfl ?_; refine TL.nil (K.seq (T.seq (T.seq (T.region ?_)))); refine TL.run 2 rfl ?_; refine TL.y (Yv.fieldAddr rfl rfl) ?_; refine TL.y (Yv.loadB rfl rfl hsp1 (fun h => h)) ?_; refine TL.y (Yv.lenSl rfl rfl) ?_; refine TL.run 1 rfl ?_; refine TL.nil (K.seq (T.block ?_)); refine T.slNil 40 2 ?_; refine T.loop (ι := Nat × Value) (fun x => [(0, .pointer (some ⟨sp, 0, none⟩)), (3, x.2), (18, .int .i64 (L.length : Int)), (19, .int .i64 (x.1 : Int))]) (fun x => [.sl x.2 40 2 (fixF Y L x.1).length ((fixF Y L x.1).flatMap Ch.cells)]) (fun x => x.1 ≤ L.length) (fun x => L.length - x.1) (0, .slice none 0 0) ?_ ?_ ?_ ?_
  · exact Nat.zero_le _
  · exact (by repeat (first | exact Sub.nil | refine Sub.cons rfl ?_))
  · exact (by repeat first | exact S0 | exact S1 | refine S2 ?_ | refine S3 ?_)
  · intro x hphi; obtain ⟨k, v⟩ := x; dsimp only at hphi ⊢; have hfl := fixF_len (Y := Y) (L := L) (k := k); refine T.seq (T.region ?_); refine TL.run 1 rfl ?_; refine TL.nil (K.seq (T.seq ?_)); refine T.cond rfl (fun h1 => ?_) (fun h1 => ?_)
    · have p1 := h1; (try simp only [nfB] at p1); obtain ⟨gS, oS, rfl, hc⟩ := hSs (by omega); have hk := hc k (by omega); simp only [Ie] at hk; refine T.skip (K.seq (T.seq (T.block (T.seq (T.region ?_))))); refine TL.run 2 rfl ?_; refine TL.nil (K.seq (T.seq (T.region ?_))); refine TL.run 2 rfl ?_; (refine TL.ew (Wt.none rfl) rfl rfl (Ew.callD rfl rfl rfl (fun w hw => only_ret sp Y L false k _ rfl (by omega) w (h.kept hw))) ?_; rintro _ _ ⟨rfl, rfl⟩); refine TL.run 1 rfl ?_; refine TL.nil (K.seq (T.seq (T.region ?_))); refine TL.run 2 rfl ?_; refine TL.nil (K.seq ?_); refine T.cond rfl (fun h2 => ?_) (fun h2 => ?_)
      · have p2 := h2; (try simp only [nfB] at p2); refine T.region ?_; refine TL.run 3 rfl ?_; refine TL.y (Yv.fieldAddr rfl rfl) ?_; refine TL.y (Yv.loadB rfl rfl hsp0 (fun h => h)) ?_; refine TL.run 1 rfl ?_; refine TL.y (Yv.fieldAddr rfl rfl) ?_; refine TL.y (Yv.loadB rfl rfl hS0 (fun h => h)) ?_; refine TL.run 1 rfl ?_; refine TL.y (Yv.indexSl rfl rfl rfl rfl (by omega)) ?_; refine TL.y (Yv.loadC (j := 0) rfl rfl hk rfl rfl (fun h => h)) ?_; refine TL.run 1 rfl ?_; refine TL.y (Yv.build rfl rfl) ?_; (refine TL.ew (Wt.none rfl) rfl rfl (Ew.buildSlice rfl rfl rfl (by decide)) ?_; rintro _ _ ⟨g40, rfl, rfl⟩); (refine TL.ew (Wt.none rfl) rfl rfl (Ew.append 1 0 rfl rfl rfl rfl rfl rfl (by omega) (by omega)) ?_; rintro v41 _ ⟨hv41, rfl⟩); refine TL.run 1 rfl ?_; refine TL.nil (K.blk_normal (K.seq (T.region ?_))); refine TL.y (Yv.addI rfl rfl rfl (by omega)) ?_; refine TL.run 1 rfl ?_; refine TL.nil ?_; exact K.next (k + 1, v41) (by dsimp only; omega) (by dsimp only; omega) (by repeat (first | exact Sub.nil | refine Sub.cons rfl ?_)) (by dsimp only; rw [fixF_succ, if_pos (by omega), List.length_append, List.flatMap_append]; exact (by repeat first | exact S0 | exact S1 | refine S2 ?_ | refine S3 ?_))
      · have p2 := h2; (try simp only [nfB] at p2); refine T.skip (K.blk_normal (K.seq (T.region ?_))); refine TL.y (Yv.addI rfl rfl rfl (by omega)) ?_; refine TL.run 1 rfl ?_; refine TL.nil ?_; exact K.next (k + 1, v) (by dsimp only; omega) (by dsimp only; omega) (by repeat (first | exact Sub.nil | refine Sub.cons rfl ?_)) (by dsimp only; rw [fixF_succ, if_neg (by omega), List.append_nil]; exact (by repeat first | exact S0 | exact S1 | refine S2 ?_ | refine S3 ?_))
    · have p1 := h1; (try simp only [nfB] at p1); refine T.exit (K.then_exit (K.then_exit (K.blk_exit_eq (K.seq (T.seq (T.region ?_)))))); refine TL.run 2 rfl ?_; refine TL.nil (K.seq (T.ret ?_)); exact K.ret1 rfl rfl (fun w' hw => ⟨_, trivial, rfl, by rw [show k = Y.n by omega] at hw; exact hw.sub (by repeat first | exact S0 | exact S1 | refine S2 ?_ | refine S3 ?_)⟩)
end Go.Proofs.YtljgejbmimapdaaDoor
namespace Go.Proofs.YtljgejbmimapdaaDoor
open Go.RowKit
def dE (d : Dx) : Ent := .sl d.v 3 1 d.chs.length (d.chs.flatMap Ie)
def domsF (Y : Tb) (L : Ws) (k : Nat) : List (Int × List Int) := (List.range k).map fun i => (nth Y.st i, (chansN (nth L i)).map fun j : Nat => (j : Int))
def Dx.pl (d : Dx) : Int × List Int := (d.st, d.chs)
def fillD (xs : List Dx) (n : Nat) : List Value := xs.flatMap Dx.cells ++ (List.replicate (n - xs.length) (default : Dx)).flatMap Dx.cells
theorem cellsD_len (xs : List Dx) : (xs.flatMap Dx.cells).length = xs.length * 2 := flat_len Dx.cells 2 (fun _ => rfl) xs
theorem fillD_len {xs : List Dx} {n : Nat} (h : xs.length ≤ n) : (fillD xs n).length = n * 2 := by
  unfold fillD; rw [List.length_append, cellsD_len, cellsD_len, List.length_replicate]; omega
theorem fillD_store {xs : List Dx} {n p : Nat} {d : Dx} (h : xs.length < n) (hp : p = xs.length * 2) : (fillD xs n).take p ++ [.int .i64 d.st, d.v] ++ (fillD xs n).drop (p + [Value.int .i64 d.st, d.v].length) = fillD (xs ++ [d]) n := by
  subst hp
  have e : fillD xs n = xs.flatMap Dx.cells ++ (Dx.cells default ++ (List.replicate (n - (xs.length + 1)) (default : Dx)).flatMap Dx.cells) := by
    unfold fillD; rw [show n - xs.length = (n - (xs.length + 1)) + 1 by omega, List.replicate_succ, List.flatMap_cons]
  rw [e, List.take_left' (cellsD_len xs), ← List.append_assoc, List.drop_left' (by rw [List.length_append, cellsD_len]; rfl)]; unfold fillD; rw [List.flatMap_append, List.length_append]
  rfl
theorem made_two (n : Nat) : (madeCells [Value.int .i64 0, .slice none 0 0].toArray (n * 2)).toList = fillD [] n := by
  apply List.ext_getElem?; intro i; unfold fillD; simp only [List.flatMap_nil, List.nil_append, List.length_nil, Nat.sub_zero]; by_cases h : i < n * 2
  · have h2 := flat_get Dx.cells 2 (fun _ => rfl) (List.replicate n (default : Dx)) (i / 2) (by rw [List.length_replicate]; omega) (i % 2) (by omega); rw [show i / 2 * 2 + i % 2 = i by omega] at h2; rw [h2, List.getElem_replicate]; simp only [madeCells]; rcases Nat.mod_two_eq_zero_or_one i with hm | hm <;> simp [h, hm, Dx.cells, default, instInhabitedDx]
  · rw [List.getElem?_eq_none (by simp [madeCells]; omega), List.getElem?_eq_none (by rw [cellsD_len, List.length_replicate]; omega)]
theorem domsF_succ {Y : Tb} {L : Ws} {k : Nat} : domsF Y L (k + 1) = domsF Y L k ++ [(nth Y.st k, (chansN (nth L k)).map fun j : Nat => (j : Int))] := by
  unfold domsF; rw [List.range_succ, List.map_append]; rfl
theorem DomsAt.own {B w : World} {M : Nat → Prop} {hs : HS} {v : Value} {xs : List Dx} {e : TypeId} (hw : Hp B M hs w) (i j : Nat) (hi : hs[i]? = some (.sl v e 2 xs.length (xs.flatMap Dx.cells))) (hj : hs[j]? = some (.bag (xs.map dE))) : DomsAt w v xs where
  sl := SlOf.own (enc := Dx.cells) (size := 2) (fun _ => rfl) (Ent.sl_ok.1 (hw.get hi)) rfl
  each d hd := by
    have h1 : (Ent.sl d.v 3 1 d.chs.length (d.chs.flatMap Ie)).ok w := (Ent.bag_ok.1 (hw.get hj)).1 (dE d) (List.mem_map.2 ⟨d, hd, rfl⟩); exact SlOf.own (enc := Ie) (size := 1) (fun _ => rfl) (Ent.sl_ok.1 h1) rfl
theorem fillD_full {xs : List Dx} : fillD xs xs.length = xs.flatMap Dx.cells := by unfold fillD; simp
theorem domains_bad (sp : Nat) (Y : Tb) (L : Ws) (w : World) (h : StateAt w sp Y L true) : Calls Tryd.prog 20 #[.pointer (some ⟨sp, 0, none⟩)] w fun e w' => e = .returned (.slice none 0 0) ∧ Below w.heap.size w w' := by
  have hcon := h.con; refine calls_T (M := fun _ => False) (hs := []) Tryd.func20 rfl rfl rfl (Hp.refl _ _) ?_; refine T.seq (T.region ?_); refine TL.run 1 rfl ?_; refine TL.nil (K.seq (T.seq (T.seq (T.region ?_)))); refine TL.run 1 rfl ?_; (refine TL.ew (Wt.none rfl) rfl rfl (Ew.callD rfl rfl rfl (fun w hw => missing_ret sp Y L true w (h.kept hw))) ?_; rintro _ _ ⟨rfl, rfl⟩); refine TL.run 1 rfl ?_; refine TL.yv (Wt.some rfl rfl rfl rfl) rfl rfl (Yv.pur rfl) ?_; refine TL.yv (Wt.some rfl rfl rfl rfl) rfl rfl (Yv.pur rfl) ?_; refine TL.yv (Wt.some rfl rfl rfl rfl) rfl rfl (Yv.fieldAddr rfl rfl) ?_; refine TL.yv (Wt.some rfl rfl rfl rfl) rfl rfl (Yv.loadB rfl rfl hcon (fun h => h)) ?_; refine TL.run 1 rfl ?_; refine TL.nil (K.seq ?_); refine T.condT rfl rfl ?_; refine T.seq (T.region ?_); refine TL.run 1 rfl ?_; refine TL.nil (K.seq (T.ret (K.then_ret ?_))); refine K.ret1 rfl rfl (fun w' hw => ⟨?_, hw.isBelow⟩)
  rfl
theorem domains_ok (sp : Nat) (Y : Tb) (L : Ws) (w : World) (h : StateAt w sp Y L false) (hok : Y.Ok) : Calls Tryd.prog 20 #[.pointer (some ⟨sp, 0, none⟩)] w fun e w' => ∃ y : Value × List Dx, y.2.map Dx.pl = domsF Y L Y.n ∧ e = .returned y.1 ∧ Hp w (fun _ => False) [.sl y.1 64 2 y.2.length (y.2.flatMap Dx.cells), .bag (y.2.map dE)] w' := by
  obtain ⟨tp, hsp0, hT⟩ := h.tb; obtain ⟨vL, hsp1, hL⟩ := h.left; obtain ⟨AL, capL, rfl, hLs⟩ := hL.op; have hLn := h.len; have hcon := h.con; obtain ⟨vS, hS0, hS⟩ := hT.st; obtain ⟨AS, capS, rfl, hSs⟩ := hS.op; have hn512 := hok.n; have hstn : Y.st.length = Y.n := rfl; refine calls_T (M := fun _ => False) (hs := []) Tryd.func20 rfl rfl rfl (Hp.refl _ _) ?_; refine T.seq (T.region ?_); refine TL.run 1 rfl ?_; refine TL.nil (K.seq (T.seq (T.seq (T.region ?_)))); refine TL.run 1 rfl ?_; (refine TL.ew (Wt.none rfl) rfl rfl (Ew.callD rfl rfl rfl (fun w hw => missing_ret sp Y L false w (h.kept hw))) ?_; rintro _ _ ⟨rfl, rfl⟩); refine TL.run 1 rfl ?_; refine TL.yv (Wt.some rfl rfl rfl rfl) rfl rfl (Yv.pur rfl) ?_; refine TL.yv (Wt.some rfl rfl rfl rfl) rfl rfl (Yv.pur rfl) ?_; refine TL.yv (Wt.some rfl rfl rfl rfl) rfl rfl (Yv.fieldAddr rfl rfl) ?_; refine TL.yv (Wt.some rfl rfl rfl rfl) rfl rfl (Yv.loadB rfl rfl hcon (fun h => h)) ?_; refine TL.run 1 rfl ?_; refine TL.nil (K.seq ?_); refine T.condF rfl rfl ?_; refine T.skip (K.seq (T.seq (T.region ?_))); refine TL.run 2 rfl ?_; refine TL.y (Yv.fieldAddr rfl rfl) ?_; refine TL.y (Yv.loadB rfl rfl hsp1 (fun h => h)) ?_; refine TL.y (Yv.lenSl rfl rfl) ?_; (refine TL.ew (Wt.none rfl) rfl rfl (Ew.makeSlice rfl rfl rfl rfl rfl (by omega) (by omega)) ?_; rintro _ _ ⟨g19, rfl, rfl⟩); refine TL.run 1 rfl ?_; refine TL.nil (K.seq (T.seq (T.seq ?_))); rw [made_two]; refine T.bag0 [] (fun _ _ he => by cases he) (fun _ he => by cases he) ?_; refine T.permH (List.Perm.swap _ _ _) ?_; refine T.region ?_; refine TL.run 2 rfl ?_; refine TL.y (Yv.fieldAddr rfl rfl) ?_; refine TL.y (Yv.loadB rfl rfl hsp1 (fun h => h)) ?_; refine TL.y (Yv.lenSl rfl rfl) ?_; refine TL.run 1 rfl ?_; refine TL.nil (K.seq (T.block ?_)); refine T.loop (ι := List Dx) (fun xs => [(0, .pointer (some ⟨sp, 0, none⟩)), (3, sV g19 L.length), (23, .slice AL L.length capL), (24, .int .i64 (L.length : Int)), (25, .int .i64 (xs.length : Int))]) (fun xs => [.sl (sV g19 L.length) 64 2 L.length (fillD xs L.length), .bag (xs.map dE)]) (fun xs => xs.length ≤ L.length ∧ xs.map Dx.pl = domsF Y L xs.length) (fun xs => L.length - xs.length) [] ?_ ?_ ?_ ?_
  · exact ⟨Nat.zero_le _, rfl⟩
  · exact (by repeat (first | exact Sub.nil | refine Sub.cons rfl ?_))
  · exact (by repeat first | exact S0 | exact S1 | refine S2 ?_ | refine S3 ?_)
  · intro xs hphi; obtain ⟨hxl, hxs⟩ := hphi; refine T.seq (T.region ?_); refine TL.run 1 rfl ?_; refine TL.nil (K.seq (T.seq ?_)); refine T.cond rfl (fun h1 => ?_) (fun h1 => ?_)
    · have p1 := h1; (try simp only [nfB] at p1); obtain ⟨gL, oL, rfl, hc⟩ := hLs (by omega); have hk := hc xs.length (by omega); simp only [Le] at hk; obtain ⟨gS, oS, rfl, hcS⟩ := hSs (by omega); have hkS := hcS xs.length (by omega); simp only [Ie] at hkS; refine T.skip (K.seq (T.seq (T.block (T.seq (T.region ?_))))); refine TL.run 1 rfl ?_; refine TL.y (Yv.indexSl rfl rfl rfl rfl (by omega)) ?_; refine TL.y (Yv.loadC (j := 0) rfl rfl hk rfl rfl (fun h => h)) ?_; refine TL.run 2 rfl ?_; refine TL.nil (K.seq ?_); refine T.draw (.still 0 (.still 1 (.still 2 (.still 3 (.still 4 (.still 5 (.still 6 (.still 7 (.still 8 (.still 9 (.still 10 (.still 11 (.still 12 (.eff 13 (.still 14 (.still 15 (.eff 16 .done))))))))))))))))) [.bag (xs.map dE)] (by kernel_rfl) (by repeat first | exact S0 | exact S1 | refine S2 ?_ | refine S3 ?_) ?_; refine TS.run 4 rfl ?_; refine TS.y rfl (Yv.fieldAddr rfl rfl) ?_; refine TS.y rfl (Yv.loadB rfl rfl hsp0 (fun h => h)) ?_; refine TS.run 1 rfl ?_; refine TS.y rfl (Yv.fieldAddr rfl rfl) ?_; refine TS.y rfl (Yv.loadB rfl rfl hS0 (fun h => h)) ?_; refine TS.run 1 rfl ?_; refine TS.y rfl (Yv.indexSl rfl rfl rfl rfl (by omega)) ?_; refine TS.y rfl (Yv.loadC (j := 0) rfl rfl hkS rfl rfl (fun h => h)) ?_; refine TS.run 1 rfl ?_; refine TS.eff ?_; (refine TSo.ew rfl (Wt.none rfl) rfl rfl (Ew.callH rfl rfl rfl (fun w hw => channels_ret _ w (h.tab.keptF hw))) ?_; rintro v43 _ ⟨_, hv43, rfl, rfl⟩; refine ⟨(by repeat first | exact S0 | exact S1 | refine S2 ?_ | refine S3 ?_), ?_⟩); refine TS.y rfl (Yv.build rfl rfl) ?_; refine TS.y rfl (Yv.indexSl rfl rfl rfl rfl (by omega)) ?_; refine TS.eff ?_; (refine TSo.ew0 rfl (Wt.none rfl) rfl (Ew.storeSA 1 rfl rfl rfl rfl rfl (by rw [fillD_len (by omega)]; simp; omega)) ?_; rintro _ _ ⟨rfl, rfl⟩; refine ⟨(by repeat first | exact S0 | exact S1 | refine S2 ?_ | refine S3 ?_), ?_⟩); refine TS.done ?_; refine K.blk_normal (K.seq (T.region ?_)); refine TL.y (Yv.addI rfl rfl rfl (by omega)) ?_; refine TL.run 1 rfl ?_; refine TL.nil ?_; refine K.intoBE 1 ((xs ++ [(Dx.mk (nth Y.st xs.length) v43 ((chansN (nth L xs.length)).map fun j : Nat => (j : Int)))]).map dE) rfl (by rw [List.map_append]; simp only [List.map_cons, List.map_nil, dE, List.length_map]; rw [← nums_flat]) ?_; exact K.next (xs ++ [(Dx.mk (nth Y.st xs.length) v43 ((chansN (nth L xs.length)).map fun j : Nat => (j : Int)))]) ⟨by simp; omega, by rw [List.map_append, hxs, List.length_append]; exact domsF_succ.symm⟩ (by simp; omega) (by repeat (first | exact Sub.nil | refine Sub.cons rfl ?_ | (refine Sub.consI rfl (by simp) ?_))) (by rw [← fillD_store (p := 0 + xs.length * 2) (d := (Dx.mk (nth Y.st xs.length) v43 ((chansN (nth L xs.length)).map fun j : Nat => (j : Int)))) (by omega) (by omega)]; exact (by repeat first | exact S0 | exact S1 | refine S2 ?_ | refine S3 ?_))
    · have p1 := h1; (try simp only [nfB] at p1); refine T.exit (K.then_exit (K.then_exit (K.blk_exit_eq (K.seq (T.seq (T.region ?_)))))); refine TL.run 2 rfl ?_; refine TL.nil (K.seq (T.ret ?_)); exact K.ret1 rfl rfl (fun w' hw => ⟨(sV g19 L.length, xs), by rw [hxs, show xs.length = Y.n by omega], rfl, by rw [show L.length = xs.length by omega, fillD_full] at hw; rw [show L.length = xs.length by omega]; exact hw⟩)
end Go.Proofs.YtljgejbmimapdaaDoor
namespace Go.Proofs.YtljgejbmimapdaaDoor
open Go.RowKit
theorem eq3 (i j : Int) (n : Nat) (w : World) : (Op.equalIn (n + 1) 3 (.int .i64 i) (.int .i64 j)).run Tryd.prog w = .ok (i == j) w := by
  unfold Op.equalIn; simp [underlying, Tryd.underlying3]
theorem stoodC : Tryd.prog.stoodInHeld 40 = false := by kernel_rfl
theorem eqgC : Tryd.prog.eqGuardType Tryd.prog.depth 40 = false := by kernel_rfl
theorem ptc0 (a b : Int) (w : World) : (part 3 #[.int .i64 a, .int .i64 b] 0).run Tryd.prog w = .ok (.int .i64 a) w := by kernel_rfl
theorem ptc1 (a b : Int) (w : World) : (part 3 #[.int .i64 a, .int .i64 b] 1).run Tryd.prog w = .ok (.int .i64 b) w := by kernel_rfl
theorem equal_ch (x y : Ch) (w : World) : (Op.equal 40 (.agg x.cells.toArray) (.agg y.cells.toArray)).run Tryd.prog w = .ok (decide (x = y)) w := by
  obtain ⟨a, b⟩ := x; obtain ⟨a', b'⟩ := y; have e3 : ∀ (i j : Int) w, (Op.equalIn 9999 3 (.int .i64 i) (.int .i64 j)).run Tryd.prog w = .ok (i == j) w := fun i j => eq3 i j 9998; unfold Op.equal Ch.cells; rw [show Op.maxDepth = 9998 + 1 + 1 from rfl]; unfold Op.equalIn; simp [underlying, Tryd.underlying40, stoodC, ptc0, ptc1, e3]; by_cases h1 : a = a' <;> by_cases h2 : b = b' <;> simp [h1, h2]
section
variable {n : Nat} {B : World} {M : Nat → Prop} {fs : SFs} {hs : HS} {o : Oper}
theorem Yv.neCh {x y : Operand} {u : TypeId} {a b : Ch} (ho : o.op = .binOp .neq 40 x y u) (hx : ev fs x = some (.agg a.cells.toArray)) (hy : ev fs y = some (.agg b.cells.toArray)) : Yv Tryd.prog n B M fs hs o (.bool (!decide (a = b))) := fun f w ha _ => by
  have he := equal_ch a b w; unfold execOp
  have hg : (eqGuard .neq 40 x y (.agg a.cells.toArray) (.agg b.cells.toArray)).run Tryd.prog w = .ok () w := by
    simp [eqGuard, eqgC]
  simp only [ho, ha.ev hx, ha.ev hy, Sem.run_bind, hg, Result.andThen_ok]; simp only [binOp, Sem.run_bind, he, Result.andThen_ok, Sem.run_pure]
end
theorem same_end {α : Type} [Inhabited α] [DecidableEq α] {xs ys : List α} {k : Nat} (hl : (xs.length : Int) = (ys.length : Int)) (h : ∀ j, j < k → nth xs j = nth ys j) (hk : xs.length ≤ k) : decide (xs = ys) = true := by
  apply decide_eq_true; apply List.ext_getElem (by omega); intro j h1 h2; have := h j (by omega)
  rwa [nth_eq h1, nth_eq h2] at this
theorem same_not {α : Type} [Inhabited α] [DecidableEq α] {xs ys : List α} {k : Nat} (h : ¬ nth xs k = nth ys k) : decide (xs = ys) = false := decide_eq_false fun e => h (by rw [e])
theorem same_len {α : Type} [DecidableEq α] {xs ys : List α} (h : ¬ (xs.length : Int) = (ys.length : Int)) : decide (xs = ys) = false := decide_eq_false fun e => h (by rw [e])
theorem sameInts_ret (xs ys : List Int) (v v2 : Value) (w : World) (h : SlOf w v Ie 1 xs) (h2 : SlOf w v2 Ie 1 ys) (hl : xs.length ≤ 9223372036854775807) : Calls Tryd.prog 41 #[v, v2] w fun e w' => e = .returned (.bool (decide (xs = ys))) ∧ Below w.heap.size w w' := by
  obtain ⟨A, cap, rfl, hsl⟩ := h.op; obtain ⟨A2, cap2, rfl, hsl2⟩ := h2.op; refine calls_T (M := fun _ => False) (hs := []) Tryd.func41 rfl rfl rfl (Hp.refl _ _) ?_; refine T.seq (T.region ?_); refine TL.run 1 rfl ?_; refine TL.nil (K.seq (T.seq (T.seq (T.region ?_)))); refine TL.run 1 rfl ?_; refine TL.y (Yv.lenSl rfl rfl) ?_; refine TL.run 1 rfl ?_; refine TL.y (Yv.lenSl rfl rfl) ?_; refine TL.run 1 rfl ?_; refine TL.nil (K.seq ?_); refine T.cond rfl (fun h1 => ?_) (fun h1 => ?_)
  · have p1 := h1; (try simp only [nfB] at p1); refine T.seq (T.region ?_); refine TL.run 1 rfl ?_; refine TL.nil (K.seq (T.ret (K.then_ret ?_))); exact K.ret1 rfl rfl (fun w' hw => ⟨by rw [same_len (by assumption)], hw.isBelow⟩)
  · have p1 := h1; (try simp only [nfB] at p1); refine T.skip (K.seq (T.seq (T.seq (T.region ?_)))); refine TL.run 1 rfl ?_; refine TL.nil (K.seq (T.block ?_)); refine T.loop (ι := Nat) (fun k => [(0, .slice A xs.length cap), (1, .slice A2 ys.length cap2), (5, .int .i64 (k : Int))]) (fun k => []) (fun k => k ≤ xs.length ∧ ∀ j, j < k → nth xs j = nth ys j) (fun k => xs.length - k) 0 ?_ ?_ ?_ ?_
    · exact ⟨by omega, fun j hj => by omega⟩
    · exact (by repeat (first | exact Sub.nil | refine Sub.cons rfl ?_))
    · exact (by repeat first | exact S0 | exact S1 | refine S2 ?_ | refine S3 ?_)
    · intro k hphi; obtain ⟨hkl, hall⟩ := hphi; refine T.seq (T.seq (T.region ?_)); refine TL.run 2 rfl ?_; refine TL.y (Yv.lenSl rfl rfl) ?_; refine TL.run 1 rfl ?_; refine TL.nil (K.seq ?_); refine T.cond rfl (fun h2 => ?_) (fun h2 => ?_)
      · have p2 := h2; (try simp only [nfB] at p2); obtain ⟨g, off, rfl, hc⟩ := hsl (by omega); obtain ⟨g2, off2, rfl, hc2⟩ := hsl2 (by omega); have hk := hc k (by omega); have hk2 := hc2 k (by omega); simp only [Ie] at hk hk2; refine T.skip (K.seq (T.seq (T.block (T.seq ?_)))); refine T.draw (.still 0 (.still 1 (.still 2 (.still 3 (.still 4 (.still 5 (.still 6 (.still 7 (.still 8 .done))))))))) _ (by kernel_rfl) (List.Sublist.refl _) ?_; refine TS.run 2 rfl ?_; refine TS.y rfl (Yv.indexSl rfl rfl rfl rfl (by omega)) ?_; refine TS.y rfl (Yv.loadC (j := 0) rfl rfl hk rfl rfl (fun h => h)) ?_; refine TS.run 2 rfl ?_; refine TS.y rfl (Yv.indexSl rfl rfl rfl rfl (by omega)) ?_; refine TS.y rfl (Yv.loadC (j := 0) rfl rfl hk2 rfl rfl (fun h => h)) ?_; refine TS.run 1 rfl ?_; refine TS.done ?_; refine K.seq ?_; refine T.cond rfl (fun h3 => ?_) (fun h3 => ?_)
        · have p3 := h3; (try simp only [nfB] at p3); refine T.seq (T.region ?_); refine TL.run 1 rfl ?_; refine TL.nil (K.seq (T.ret (K.blk_ret (K.then_ret (K.then_ret (K.blk_ret (K.then_ret ?_))))))); exact K.ret1 rfl rfl (fun w' hw => ⟨by rw [same_not (k := k) (by simpa using h3)], hw.isBelow⟩)
        · have p3 := h3; (try simp only [nfB] at p3); refine T.skip (K.blk_normal (K.seq (T.region ?_))); refine TL.run 1 rfl ?_; refine TL.y (Yv.addI rfl rfl rfl (by omega)) ?_; refine TL.run 1 rfl ?_; refine TL.nil ?_; exact K.next (k + 1) ⟨by omega, upto_succ hall (by simpa using h3)⟩ (by omega) (by repeat (first | exact Sub.nil | refine Sub.cons rfl ?_)) (by repeat first | exact S0 | exact S1 | refine S2 ?_ | refine S3 ?_)
      · have p2 := h2; (try simp only [nfB] at p2); refine T.exit (K.then_exit (K.then_exit (K.blk_exit_eq (K.seq (T.seq (T.region ?_)))))); refine TL.run 1 rfl ?_; refine TL.nil (K.seq (T.ret ?_)); exact K.ret1 rfl rfl (fun w' hw => ⟨by rw [same_end (by omega) hall (by omega)], hw.isBelow⟩)
theorem sameList_ret (xs ys : List Ch) (v v2 : Value) (w : World) (h : SlOf w v Ch.cells 2 xs) (h2 : SlOf w v2 Ch.cells 2 ys) (hl : xs.length ≤ 9223372036854775807) : Calls Tryd.prog 33 #[v, v2] w fun e w' => e = .returned (.bool (decide (xs = ys))) ∧ Below w.heap.size w w' := by
  obtain ⟨A, cap, rfl, hsl⟩ := h.op; obtain ⟨A2, cap2, rfl, hsl2⟩ := h2.op; refine calls_T (M := fun _ => False) (hs := []) Tryd.func33 rfl rfl rfl (Hp.refl _ _) ?_; refine T.seq (T.region ?_); refine TL.run 1 rfl ?_; refine TL.nil (K.seq (T.seq (T.seq (T.region ?_)))); refine TL.run 1 rfl ?_; refine TL.y (Yv.lenSl rfl rfl) ?_; refine TL.run 1 rfl ?_; refine TL.y (Yv.lenSl rfl rfl) ?_; refine TL.run 1 rfl ?_; refine TL.nil (K.seq ?_); refine T.cond rfl (fun h1 => ?_) (fun h1 => ?_)
  · have p1 := h1; (try simp only [nfB] at p1); refine T.seq (T.region ?_); refine TL.run 1 rfl ?_; refine TL.nil (K.seq (T.ret (K.then_ret ?_))); exact K.ret1 rfl rfl (fun w' hw => ⟨by rw [same_len (by assumption)], hw.isBelow⟩)
  · have p1 := h1; (try simp only [nfB] at p1); refine T.skip (K.seq (T.seq (T.seq (T.region ?_)))); refine TL.run 1 rfl ?_; refine TL.nil (K.seq (T.block ?_)); refine T.loop (ι := Nat) (fun k => [(0, .slice A xs.length cap), (1, .slice A2 ys.length cap2), (5, .int .i64 (k : Int))]) (fun k => []) (fun k => k ≤ xs.length ∧ ∀ j, j < k → nth xs j = nth ys j) (fun k => xs.length - k) 0 ?_ ?_ ?_ ?_
    · exact ⟨by omega, fun j hj => by omega⟩
    · exact (by repeat (first | exact Sub.nil | refine Sub.cons rfl ?_))
    · exact (by repeat first | exact S0 | exact S1 | refine S2 ?_ | refine S3 ?_)
    · intro k hphi; obtain ⟨hkl, hall⟩ := hphi; refine T.seq (T.seq (T.region ?_)); refine TL.run 2 rfl ?_; refine TL.y (Yv.lenSl rfl rfl) ?_; refine TL.run 1 rfl ?_; refine TL.nil (K.seq ?_); refine T.cond rfl (fun h2 => ?_) (fun h2 => ?_)
      · have p2 := h2; (try simp only [nfB] at p2); obtain ⟨g, off, rfl, hc⟩ := hsl (by omega); obtain ⟨g2, off2, rfl, hc2⟩ := hsl2 (by omega); have hk := hc k (by omega); have hk2 := hc2 k (by omega); refine T.skip (K.seq (T.seq (T.block (T.seq ?_)))); refine T.draw (.still 0 (.still 1 (.still 2 (.still 3 (.still 4 (.still 5 (.still 6 (.still 7 (.still 8 .done))))))))) _ (by kernel_rfl) (List.Sublist.refl _) ?_; refine TS.run 2 rfl ?_; refine TS.y rfl (Yv.indexSl rfl rfl rfl rfl (by omega)) ?_; refine TS.y rfl (Yv.loadAB rfl rfl hk rfl (fun h => h)) ?_; refine TS.run 2 rfl ?_; refine TS.y rfl (Yv.indexSl rfl rfl rfl rfl (by omega)) ?_; refine TS.y rfl (Yv.loadAB rfl rfl hk2 rfl (fun h => h)) ?_; refine TS.y rfl (Yv.neCh rfl rfl rfl) ?_; refine TS.done ?_; refine K.seq ?_; refine T.cond rfl (fun h3 => ?_) (fun h3 => ?_)
        · have p3 := h3; (try simp only [nfB] at p3); refine T.seq (T.region ?_); refine TL.run 1 rfl ?_; refine TL.nil (K.seq (T.ret (K.blk_ret (K.then_ret (K.then_ret (K.blk_ret (K.then_ret ?_))))))); exact K.ret1 rfl rfl (fun w' hw => ⟨by rw [same_not (k := k) (by simpa using h3)], hw.isBelow⟩)
        · have p3 := h3; (try simp only [nfB] at p3); refine T.skip (K.blk_normal (K.seq (T.region ?_))); refine TL.run 1 rfl ?_; refine TL.y (Yv.addI rfl rfl rfl (by omega)) ?_; refine TL.run 1 rfl ?_; refine TL.nil ?_; exact K.next (k + 1) ⟨by omega, upto_succ hall (by simpa using h3)⟩ (by omega) (by repeat (first | exact Sub.nil | refine Sub.cons rfl ?_)) (by repeat first | exact S0 | exact S1 | refine S2 ?_ | refine S3 ?_)
      · have p2 := h2; (try simp only [nfB] at p2); refine T.exit (K.then_exit (K.then_exit (K.blk_exit_eq (K.seq (T.seq (T.region ?_)))))); refine TL.run 1 rfl ?_; refine TL.nil (K.seq (T.ret ?_)); exact K.ret1 rfl rfl (fun w' hw => ⟨by rw [same_end (by omega) hall (by omega)], hw.isBelow⟩)
instance : Inhabited (Int × List Int) := ⟨(0, [])⟩
theorem nth_map {α β : Type} [Inhabited α] [Inhabited β] {f : α → β} {xs : List α} {k : Nat} (h : k < xs.length) : nth (xs.map f) k = f (nth xs k) := by simp [nth, h]
theorem sameDomains_ret (xs ys : List Dx) (v v2 : Value) (w : World) (h : DomsAt w v xs) (h2 : DomsAt w v2 ys) (hl : xs.length ≤ 9223372036854775807) (hlc : ∀ d ∈ xs, d.chs.length ≤ 9223372036854775807) : Calls Tryd.prog 16 #[v, v2] w fun e w' => e = .returned (.bool (decide (xs.map Dx.pl = ys.map Dx.pl))) ∧ Below w.heap.size w w' := by
  obtain ⟨A, cap, rfl, hsl⟩ := h.sl.op; obtain ⟨A2, cap2, rfl, hsl2⟩ := h2.sl.op; refine calls_T (M := fun _ => False) (hs := []) Tryd.func16 rfl rfl rfl (Hp.refl _ _) ?_; refine T.seq (T.region ?_); refine TL.run 1 rfl ?_; refine TL.nil (K.seq (T.seq (T.seq (T.region ?_)))); refine TL.run 1 rfl ?_; refine TL.y (Yv.lenSl rfl rfl) ?_; refine TL.run 1 rfl ?_; refine TL.y (Yv.lenSl rfl rfl) ?_; refine TL.run 1 rfl ?_; refine TL.nil (K.seq ?_); refine T.cond rfl (fun h1 => ?_) (fun h1 => ?_)
  · have p1 := h1; (try simp only [nfB] at p1); refine T.seq (T.region ?_); refine TL.run 1 rfl ?_; refine TL.nil (K.seq (T.ret (K.then_ret ?_))); exact K.ret1 rfl rfl (fun w' hw => ⟨by rw [same_len (by rw [List.length_map, List.length_map]; assumption)], hw.isBelow⟩)
  · have p1 := h1; (try simp only [nfB] at p1); refine T.skip (K.seq (T.seq (T.seq (T.region ?_)))); refine TL.run 1 rfl ?_; refine TL.nil (K.seq (T.block ?_)); refine T.loop (ι := Nat) (fun k => [(0, .slice A xs.length cap), (1, .slice A2 ys.length cap2), (5, .int .i64 (k : Int))]) (fun k => []) (fun k => k ≤ xs.length ∧ ∀ j, j < k → nth (xs.map Dx.pl) j = nth (ys.map Dx.pl) j) (fun k => xs.length - k) 0 ?_ ?_ ?_ ?_
    · exact ⟨by omega, fun j hj => by omega⟩
    · exact (by repeat (first | exact Sub.nil | refine Sub.cons rfl ?_))
    · exact (by repeat first | exact S0 | exact S1 | refine S2 ?_ | refine S3 ?_)
    · intro k hphi; obtain ⟨hkl, hall⟩ := hphi; refine T.seq (T.seq (T.region ?_)); refine TL.run 2 rfl ?_; refine TL.y (Yv.lenSl rfl rfl) ?_; refine TL.run 1 rfl ?_; refine TL.nil (K.seq ?_); refine T.cond rfl (fun h2 => ?_) (fun h2 => ?_)
      · have p2 := h2; (try simp only [nfB] at p2); obtain ⟨g, off, rfl, hc⟩ := hsl (by omega); obtain ⟨g2, off2, rfl, hc2⟩ := hsl2 (by omega); have hk := hc k (by omega); have hk2 := hc2 k (by omega); simp only [Dx.cells] at hk hk2; refine T.skip (K.seq (T.seq (T.block (T.seq ?_)))); refine T.draw (.still 0 (.still 1 (.still 2 (.still 3 (.still 4 (.still 5 (.still 6 (.still 7 (.still 8 (.still 9 (.still 10 (.still 11 (.still 12 (.still 13 (.still 14 (.still 15 (.still 16 (.still 17 (.still 18 (.still 19 (.still 20 (.still 21 (.eff 22 (.still 23 (.still 24 .done))))))))))))))))))))))))) _ (by kernel_rfl) (List.Sublist.refl _) ?_; refine TS.run 2 rfl ?_; refine TS.y rfl (Yv.indexSl rfl rfl rfl rfl (by omega)) ?_; refine TS.y rfl (Yv.fieldAddr rfl rfl) ?_; refine TS.y rfl (Yv.loadC (j := 0) rfl rfl hk rfl rfl (fun h => h)) ?_; refine TS.run 2 rfl ?_; refine TS.y rfl (Yv.indexSl rfl rfl rfl rfl (by omega)) ?_; refine TS.y rfl (Yv.fieldAddr rfl rfl) ?_; refine TS.y rfl (Yv.loadC (j := 0) rfl rfl hk2 rfl rfl (fun h => h)) ?_; refine TS.run 2 rfl ?_; refine TS.gsplit rfl rfl rfl rfl (fun h3 => ?_) (fun h3 => ?_)
        · have p3 := h3; (try simp only [nfB] at p3); refine TS.stillOff rfl (Wt.not rfl rfl rfl h3) rfl rfl ?_; refine TS.stillOff rfl (Wt.not rfl rfl rfl h3) rfl rfl ?_; refine TS.stillOff rfl (Wt.not rfl rfl rfl h3) rfl rfl ?_; refine TS.stillOff rfl (Wt.not rfl rfl rfl h3) rfl rfl ?_; refine TS.stillOff rfl (Wt.not rfl rfl rfl h3) rfl rfl ?_; refine TS.stillOff rfl (Wt.not rfl rfl rfl h3) rfl rfl ?_; refine TS.stillOff rfl (Wt.not rfl rfl rfl h3) rfl rfl ?_; refine TS.stillOff rfl (Wt.not rfl rfl rfl h3) rfl rfl ?_; refine TS.stillOff rfl (Wt.not rfl rfl rfl h3) rfl rfl ?_; refine TS.stillOff rfl (Wt.not rfl rfl rfl h3) rfl rfl ?_; refine TS.eff ?_; refine TSo.off rfl (Wt.not rfl rfl rfl h3) rfl rfl ?_; refine TS.stillOff rfl (Wt.not rfl rfl rfl h3) rfl rfl ?_; refine TS.y rfl (Yv.pickT rfl rfl h3 rfl) ?_; refine TS.done ?_; refine K.seq ?_; refine T.condT rfl rfl ?_; refine T.seq (T.region ?_); refine TL.run 1 rfl ?_; refine TL.nil (K.seq (T.ret (K.blk_ret (K.then_ret (K.then_ret (K.blk_ret (K.then_ret ?_))))))); exact K.ret1 rfl rfl (fun w' hw => ⟨by rw [same_not (k := k) (by rw [nth_map (by omega), nth_map (by omega)]; unfold Dx.pl; simp_all)], hw.isBelow⟩)
        · have p3 := h3; (try simp only [nfB] at p3); refine TS.still rfl (Wt.some rfl rfl rfl h3) rfl rfl (Yv.pur rfl) ?_; refine TS.still rfl (Wt.some rfl rfl rfl h3) rfl rfl (Yv.pur rfl) ?_; refine TS.still rfl (Wt.some rfl rfl rfl h3) rfl rfl (Yv.indexSl rfl rfl rfl rfl (by omega)) ?_; refine TS.still rfl (Wt.some rfl rfl rfl h3) rfl rfl (Yv.fieldAddr rfl rfl) ?_; refine TS.still rfl (Wt.some rfl rfl rfl h3) rfl rfl (Yv.loadC (j := 1) rfl rfl hk rfl rfl (fun h => h)) ?_; refine TS.still rfl (Wt.some rfl rfl rfl h3) rfl rfl (Yv.pur rfl) ?_; refine TS.still rfl (Wt.some rfl rfl rfl h3) rfl rfl (Yv.pur rfl) ?_; refine TS.still rfl (Wt.some rfl rfl rfl h3) rfl rfl (Yv.indexSl rfl rfl rfl rfl (by omega)) ?_; refine TS.still rfl (Wt.some rfl rfl rfl h3) rfl rfl (Yv.fieldAddr rfl rfl) ?_; refine TS.still rfl (Wt.some rfl rfl rfl h3) rfl rfl (Yv.loadC (j := 1) rfl rfl hk2 rfl rfl (fun h => h)) ?_; refine TS.eff ?_; (refine TSo.ew rfl (Wt.some rfl rfl rfl h3) rfl rfl (Ew.callD rfl rfl rfl (fun w hw => sameInts_ret (nth xs k).chs (nth ys k).chs _ _ w ((h.at (k := k) (by omega)).kept hw) ((h2.at (k := k) (by omega)).kept hw) (hlc _ (nth_mem (by omega))))) ?_; rintro _ _ ⟨rfl, rfl⟩; refine ⟨(by repeat first | exact S0 | exact S1 | refine S2 ?_ | refine S3 ?_), ?_⟩); refine TS.still rfl (Wt.some rfl rfl rfl h3) rfl rfl (Yv.pur rfl) ?_; refine TS.y rfl (Yv.pickF rfl rfl h3 rfl) ?_; refine TS.done ?_; refine K.seq ?_; refine T.cond rfl (fun h4 => ?_) (fun h4 => ?_)
          · have p4 := h4; (try simp only [nfB] at p4); refine T.seq (T.region ?_); refine TL.run 1 rfl ?_; refine TL.nil (K.seq (T.ret (K.blk_ret (K.then_ret (K.then_ret (K.blk_ret (K.then_ret ?_))))))); exact K.ret1 rfl rfl (fun w' hw => ⟨by rw [same_not (k := k) (by rw [nth_map (by omega), nth_map (by omega)]; unfold Dx.pl; simp_all)], hw.isBelow⟩)
          · have p4 := h4; (try simp only [nfB] at p4); refine T.skip (K.blk_normal (K.seq (T.region ?_))); refine TL.run 1 rfl ?_; refine TL.y (Yv.addI rfl rfl rfl (by omega)) ?_; refine TL.run 1 rfl ?_; refine TL.nil ?_; exact K.next (k + 1) ⟨by omega, upto_succ hall (by rw [nth_map (by omega), nth_map (by omega)]; unfold Dx.pl; simp_all)⟩ (by omega) (by repeat (first | exact Sub.nil | refine Sub.cons rfl ?_)) (by repeat first | exact S0 | exact S1 | refine S2 ?_ | refine S3 ?_)
      · have p2 := h2; (try simp only [nfB] at p2); refine T.exit (K.then_exit (K.then_exit (K.blk_exit_eq (K.seq (T.seq (T.region ?_)))))); refine TL.run 1 rfl ?_; refine TL.nil (K.seq (T.ret ?_)); exact K.ret1 rfl rfl (fun w' hw => ⟨by rw [same_end (by rw [List.length_map, List.length_map]; omega) hall (by rw [List.length_map]; omega)], hw.isBelow⟩)
def chOk (xs : List Ch) (k : Nat) : Bool := inB (nth xs k).st 0 511 && (inB (nth xs k).ch 2 51 && !(decide (0 < (k : Int)) && decide ((nth xs k).st ≤ (nth xs (k - 1)).st)))
def listOk (xs : List Ch) : Bool := (List.range xs.length).all (chOk xs)
theorem validList_ret (xs : List Ch) (v : Value) (w : World) (h : ChsAt w v xs) (hl : xs.length ≤ 9223372036854775807) : Calls Tryd.prog 35 #[v] w fun e w' => e = .returned (.bool (listOk xs)) ∧ Below w.heap.size w w' := by
  obtain ⟨A, cap, rfl, hsl⟩ := h.op; refine calls_T (M := fun _ => False) (hs := []) Tryd.func35 rfl rfl rfl (Hp.refl _ _) ?_; refine T.seq (T.region ?_); refine TL.run 1 rfl ?_; refine TL.nil (K.seq (T.seq (T.seq (T.region ?_)))); refine TL.run 1 rfl ?_; refine TL.y (Yv.lenSl rfl rfl) ?_; refine TL.run 1 rfl ?_; refine TL.nil (K.seq (T.block ?_)); refine T.loop (ι := Nat) (fun k => [(0, .slice A xs.length cap), (5, .slice A xs.length cap), (6, .int .i64 (xs.length : Int)), (7, .int .i64 (k : Int))]) (fun k => []) (fun k => k ≤ xs.length ∧ ∀ j, j < k → chOk xs j = true) (fun k => xs.length - k) 0 ?_ ?_ ?_ ?_
  · exact ⟨by omega, fun j hj => by omega⟩
  · exact (by repeat (first | exact Sub.nil | refine Sub.cons rfl ?_))
  · exact (by repeat first | exact S0 | exact S1 | refine S2 ?_ | refine S3 ?_)
  · intro k hphi; obtain ⟨hkl, hall⟩ := hphi; refine T.seq (T.region ?_); refine TL.run 1 rfl ?_; refine TL.nil (K.seq (T.seq ?_)); refine T.cond rfl (fun h1 => ?_) (fun h1 => ?_)
    · have p1 := h1; (try simp only [nfB] at p1); obtain ⟨g, off, rfl, hc⟩ := hsl (by omega); have hk := hc k (by omega); have hk1 := hc (k - 1) (by omega); simp only [Ch.cells] at hk hk1; refine T.skip (K.seq (T.seq (T.block (T.seq (T.region ?_))))); refine TL.run 1 rfl ?_; refine TL.y (Yv.indexSl rfl rfl rfl rfl (by omega)) ?_; refine TL.y (Yv.loadAB rfl rfl hk rfl (fun h => h)) ?_; (refine TL.ew (Wt.none rfl) rfl rfl (Ew.alloc rfl) ?_; rintro _ _ ⟨g4, rfl, rfl⟩); refine TL.run 1 rfl ?_; (refine TL.ew0 (Wt.none rfl) rfl (Ew.storeAll 0 rfl rfl rfl rfl rfl rfl) ?_; rintro _ _ ⟨rfl, rfl⟩); refine TL.nil (K.seq (T.seq (T.seq (T.region ?_)))); refine TL.y (Yv.fieldAddr rfl rfl) ?_; refine TL.y (Yv.loadO 0 rfl rfl rfl rfl) ?_; (refine TL.ew (Wt.none rfl) rfl rfl (Ew.callD rfl rfl rfl (fun w hw => isStation_ret _ _)) ?_; rintro _ _ ⟨rfl, rfl⟩); refine TL.run 2 rfl ?_; refine TL.gsplit rfl rfl rfl (fun h2 => ?_) (fun h2 => ?_)
      · have p2 := h2; (try simp only [nfB] at p2); refine TL.off (Wt.not rfl rfl rfl h2) rfl rfl ?_; refine TL.off (Wt.not rfl rfl rfl h2) rfl rfl ?_; refine TL.off (Wt.not rfl rfl rfl h2) rfl rfl ?_; refine TL.off (Wt.not rfl rfl rfl h2) rfl rfl ?_; refine TL.y (Yv.pickT rfl rfl h2 rfl) ?_; refine TL.nil (K.seq ?_); refine T.condT rfl rfl ?_; refine T.seq (T.region ?_); refine TL.run 1 rfl ?_; refine TL.nil (K.seq (T.ret (K.then_ret (K.blk_ret (K.then_ret (K.then_ret (K.blk_ret (K.then_ret ?_)))))))); refine K.ret1 rfl rfl (fun w' hw => ⟨?_, hw.isBelow⟩); exact ret_bool (range_false k (by omega) (by simp only [chOk, *, Bool.not_true, Bool.not_false, Bool.or_false, Bool.false_or, Bool.or_true, Bool.true_or, Bool.and_false, Bool.false_and, Bool.true_and, Bool.and_true, Bool.or_self, Bool.and_self, Bool.not_not, decide_true, decide_false, not_true_eq_false, not_false_eq_true, cond_true, cond_false])).symm
      · have p2 := h2; (try simp only [nfB] at p2); refine TL.yv (Wt.some rfl rfl rfl h2) rfl rfl (Yv.fieldAddr rfl rfl) ?_; refine TL.yv (Wt.some rfl rfl rfl h2) rfl rfl (Yv.loadO 0 rfl rfl rfl rfl) ?_; (refine TL.ew (Wt.some rfl rfl rfl h2) rfl rfl (Ew.callD rfl rfl rfl (fun w hw => between_ret _ _ _ _)) ?_; rintro _ _ ⟨rfl, rfl⟩); refine TL.yv (Wt.some rfl rfl rfl h2) rfl rfl (Yv.pur rfl) ?_; refine TL.y (Yv.pickF rfl rfl h2 rfl) ?_; refine TL.nil (K.seq ?_); refine T.cond rfl (fun h3 => ?_) (fun h3 => ?_)
        · have p3 := h3; (try simp only [nfB] at p3); refine T.seq (T.region ?_); refine TL.run 1 rfl ?_; refine TL.nil (K.seq (T.ret (K.then_ret (K.blk_ret (K.then_ret (K.then_ret (K.blk_ret (K.then_ret ?_)))))))); refine K.ret1 rfl rfl (fun w' hw => ⟨?_, hw.isBelow⟩); exact ret_bool (range_false k (by omega) (by simp only [chOk, *, Bool.not_true, Bool.not_false, Bool.or_false, Bool.false_or, Bool.or_true, Bool.true_or, Bool.and_false, Bool.false_and, Bool.true_and, Bool.and_true, Bool.or_self, Bool.and_self, Bool.not_not, decide_true, decide_false, not_true_eq_false, not_false_eq_true, cond_true, cond_false])).symm
        · have p3 := h3; (try simp only [nfB] at p3); refine T.skip (K.seq (T.seq ?_)); refine T.draw (.still 0 (.still 1 (.still 2 (.still 3 (.still 4 (.still 5 (.still 6 (.still 7 (.still 8 (.still 9 (.still 10 (.still 11 (.still 12 .done))))))))))))) _ (by kernel_rfl) (List.Sublist.refl _) ?_; refine TS.run 3 rfl ?_; refine TS.gsplit rfl rfl rfl rfl (fun h4 => ?_) (fun h4 => ?_)
          · have p4 := h4; (try simp only [nfB] at p4); refine TS.still rfl (Wt.some rfl rfl rfl h4) rfl rfl (Yv.pur rfl) ?_; refine TS.still rfl (Wt.some rfl rfl rfl h4) rfl rfl (Yv.pur rfl) ?_; refine TS.still rfl (Wt.some rfl rfl rfl h4) rfl rfl (Yv.subI rfl rfl rfl (by omega)) ?_; refine TS.still rfl (Wt.some rfl rfl rfl h4) rfl rfl (Yv.indexSl rfl rfl rfl (show (k : Int) - 1 = ((k - 1 : Nat) : Int) from by omega) (by omega)) ?_; refine TS.still rfl (Wt.some rfl rfl rfl h4) rfl rfl (Yv.fieldAddr rfl rfl) ?_; refine TS.still rfl (Wt.some rfl rfl rfl h4) rfl rfl (Yv.loadC rfl rfl hk1 rfl rfl (fun h => h)) ?_; refine TS.still rfl (Wt.some rfl rfl rfl h4) rfl rfl (Yv.fieldAddr rfl rfl) ?_; refine TS.still rfl (Wt.some rfl rfl rfl h4) rfl rfl (Yv.loadO 0 rfl rfl rfl rfl) ?_; refine TS.still rfl (Wt.some rfl rfl rfl h4) rfl rfl (Yv.pur rfl) ?_; refine TS.y rfl (Yv.pickT rfl rfl h4 rfl) ?_; refine TS.done ?_; refine K.seq ?_; refine T.cond rfl (fun h5 => ?_) (fun h5 => ?_)
            · have p5 := h5; (try simp only [nfB] at p5); refine T.seq (T.region ?_); refine TL.run 1 rfl ?_; refine TL.nil (K.seq (T.ret (K.blk_ret (K.then_ret (K.then_ret (K.blk_ret (K.then_ret ?_))))))); refine K.ret1 rfl rfl (fun w' hw => ⟨?_, hw.isBelow⟩); exact ret_bool (range_false k (by omega) (by simp only [chOk, *, Bool.not_true, Bool.not_false, Bool.or_false, Bool.false_or, Bool.or_true, Bool.true_or, Bool.and_false, Bool.false_and, Bool.true_and, Bool.and_true, Bool.or_self, Bool.and_self, Bool.not_not, decide_true, decide_false, not_true_eq_false, not_false_eq_true, cond_true, cond_false])).symm
            · have p5 := h5; (try simp only [nfB] at p5); refine T.skip (K.blk_normal (K.seq (T.region ?_))); refine TL.y (Yv.addI rfl rfl rfl (by omega)) ?_; refine TL.run 1 rfl ?_; refine TL.nil ?_; refine K.next (k + 1) ⟨by omega, upto_succ hall (by simp only [chOk, *, Bool.not_true, Bool.not_false, Bool.or_false, Bool.false_or, Bool.or_true, Bool.true_or, Bool.and_false, Bool.false_and, Bool.true_and, Bool.and_true, Bool.or_self, Bool.and_self, Bool.not_not, decide_true, decide_false, not_true_eq_false, not_false_eq_true, cond_true, cond_false])⟩ (by omega) (by repeat (first | exact Sub.nil | refine Sub.cons rfl ?_)) (by repeat first | exact S0 | exact S1 | refine S2 ?_ | refine S3 ?_)
          · have p4 := h4; (try simp only [nfB] at p4); refine TS.stillOff rfl (Wt.not rfl rfl rfl h4) rfl rfl ?_; refine TS.stillOff rfl (Wt.not rfl rfl rfl h4) rfl rfl ?_; refine TS.stillOff rfl (Wt.not rfl rfl rfl h4) rfl rfl ?_; refine TS.stillOff rfl (Wt.not rfl rfl rfl h4) rfl rfl ?_; refine TS.stillOff rfl (Wt.not rfl rfl rfl h4) rfl rfl ?_; refine TS.stillOff rfl (Wt.not rfl rfl rfl h4) rfl rfl ?_; refine TS.stillOff rfl (Wt.not rfl rfl rfl h4) rfl rfl ?_; refine TS.stillOff rfl (Wt.not rfl rfl rfl h4) rfl rfl ?_; refine TS.stillOff rfl (Wt.not rfl rfl rfl h4) rfl rfl ?_; refine TS.y rfl (Yv.pickF rfl rfl h4 rfl) ?_; refine TS.done ?_; refine K.seq ?_; refine T.condF rfl rfl ?_; refine T.skip (K.blk_normal (K.seq (T.region ?_))); refine TL.y (Yv.addI rfl rfl rfl (by omega)) ?_; refine TL.run 1 rfl ?_; refine TL.nil ?_; refine K.next (k + 1) ⟨by omega, upto_succ hall (by simp only [chOk, *, Bool.not_true, Bool.not_false, Bool.or_false, Bool.false_or, Bool.or_true, Bool.true_or, Bool.and_false, Bool.false_and, Bool.true_and, Bool.and_true, Bool.or_self, Bool.and_self, Bool.not_not, decide_true, decide_false, not_true_eq_false, not_false_eq_true, cond_true, cond_false])⟩ (by omega) (by repeat (first | exact Sub.nil | refine Sub.cons rfl ?_)) (by repeat first | exact S0 | exact S1 | refine S2 ?_ | refine S3 ?_)
    · have p1 := h1; (try simp only [nfB] at p1); refine T.exit (K.then_exit (K.then_exit (K.blk_exit_eq (K.seq (T.seq (T.region ?_)))))); refine TL.run 1 rfl ?_; refine TL.nil (K.seq (T.ret ?_)); refine K.ret1 rfl rfl (fun w' hw => ⟨?_, hw.isBelow⟩); exact ret_bool (range_end hall (by omega)).symm
end Go.Proofs.YtljgejbmimapdaaDoor
namespace Go.Proofs.YtljgejbmimapdaaDoor
open Go.RowKit
def dfix (xs : List Dx) (k : Nat) : List Ch := ((xs.take k).filter fun d => decide (d.chs.length = 1)).map fun d => ⟨d.st, nth d.chs 0⟩
theorem dfix_succ {xs : List Dx} {k : Nat} (h : k < xs.length) : dfix xs (k + 1) = dfix xs k ++ (if (nth xs k).chs.length = 1 then [⟨(nth xs k).st, nth (nth xs k).chs 0⟩] else []) := by
  unfold dfix; rw [List.take_succ_eq_append_getElem h, nth_eq h, List.filter_append, List.map_append]
  congr 1
  by_cases h1 : xs[k].chs.length = 1 <;> simp [h1]
theorem dfix_len {xs : List Dx} {k : Nat} : (dfix xs k).length ≤ xs.length := by
  unfold dfix; rw [List.length_map]; refine Nat.le_trans (List.length_filter_le _ _) ?_; rw [List.length_take]; omega
theorem dfixed_ret (xs : List Dx) (v : Value) (w : World) (h : DomsAt w v xs) (hl : xs.length ≤ 100000) : Calls Tryd.prog 34 #[v] w fun e w' => ∃ v : Value, True ∧ e = .returned v ∧ Hp w (fun _ => False) [.sl v 40 2 (dfix xs xs.length).length ((dfix xs xs.length).flatMap Ch.cells)] w' := by
  obtain ⟨A, cap, rfl, hsl⟩ := h.sl.op; refine calls_T (M := fun _ => False) (hs := []) Tryd.func34 rfl rfl rfl (Hp.refl _ _) ?_; refine T.seq (T.region ?_); refine TL.run 1 rfl ?_; refine TL.nil (K.seq (T.seq (T.region ?_))); refine TL.run 1 rfl ?_; refine TL.nil (K.seq (T.seq (T.seq (T.region ?_)))); refine TL.run 1 rfl ?_; refine TL.nil (K.seq (T.block ?_)); refine T.slNil 40 2 ?_; refine T.loop (ι := Nat × Value) (fun x => [(0, .slice A xs.length cap), (3, x.2), (4, .int .i64 (x.1 : Int))]) (fun x => [.sl x.2 40 2 (dfix xs x.1).length ((dfix xs x.1).flatMap Ch.cells)]) (fun x => x.1 ≤ xs.length) (fun x => xs.length - x.1) (0, .slice none 0 0) ?_ ?_ ?_ ?_
  · exact Nat.zero_le _
  · exact (by repeat (first | exact Sub.nil | refine Sub.cons rfl ?_))
  · exact (by repeat first | exact S0 | exact S1 | refine S2 ?_ | refine S3 ?_)
  · intro x hphi; obtain ⟨k, v⟩ := x; dsimp only at hphi ⊢; have hfl := dfix_len (xs := xs) (k := k); refine T.seq (T.seq (T.region ?_)); refine TL.run 2 rfl ?_; refine TL.y (Yv.lenSl rfl rfl) ?_; refine TL.run 1 rfl ?_; refine TL.nil (K.seq ?_); refine T.cond rfl (fun h1 => ?_) (fun h1 => ?_)
    · have p1 := h1; (try simp only [nfB] at p1); obtain ⟨g, off, rfl, hc⟩ := hsl (by omega); have hk := hc k (by omega); obtain ⟨Ad, capd, hvd, hsd⟩ := (h.at (k := k) (by omega)).op; simp only [Dx.cells, hvd] at hk; refine T.skip (K.seq (T.seq (T.block (T.seq (T.region ?_))))); refine TL.run 2 rfl ?_; refine TL.y (Yv.indexSl rfl rfl rfl rfl (by omega)) ?_; refine TL.y (Yv.fieldAddr rfl rfl) ?_; refine TL.y (Yv.loadC (j := 1) rfl rfl hk rfl rfl (fun h => h)) ?_; refine TL.y (Yv.lenSl rfl rfl) ?_; refine TL.run 1 rfl ?_; refine TL.nil (K.seq ?_); refine T.cond rfl (fun h2 => ?_) (fun h2 => ?_)
      · have p2 := h2; (try simp only [nfB] at p2); obtain ⟨gd, od, rfl, hcd⟩ := hsd (by omega); have hk0 := hcd 0 (by omega); simp only [Ie] at hk0; refine T.draw (.still 0 (.still 1 (.still 2 (.still 3 (.still 4 (.still 5 (.still 6 (.still 7 (.still 8 (.still 9 (.still 10 (.still 11 (.still 12 (.still 13 (.eff 14 (.eff 15 (.still 16 .done))))))))))))))))) [] (by kernel_rfl) (by repeat first | exact S0 | exact S1 | refine S2 ?_ | refine S3 ?_) ?_; refine TS.run 3 rfl ?_; refine TS.y rfl (Yv.indexSl rfl rfl rfl rfl (by omega)) ?_; refine TS.y rfl (Yv.fieldAddr rfl rfl) ?_; refine TS.y rfl (Yv.loadC (j := 0) rfl rfl hk rfl rfl (fun h => h)) ?_; refine TS.run 2 rfl ?_; refine TS.y rfl (Yv.indexSl rfl rfl rfl rfl (by omega)) ?_; refine TS.y rfl (Yv.fieldAddr rfl rfl) ?_; refine TS.y rfl (Yv.loadC (j := 1) rfl rfl hk rfl rfl (fun h => h)) ?_; refine TS.y rfl (Yv.indexSl rfl rfl rfl (show (0 : Int) = ((0 : Nat) : Int) from rfl) (by omega)) ?_; refine TS.y rfl (Yv.loadC (j := 0) rfl rfl hk0 rfl rfl (fun h => h)) ?_; refine TS.y rfl (Yv.build rfl rfl) ?_; refine TS.eff ?_; (refine TSo.ew rfl (Wt.none rfl) rfl rfl (Ew.buildSlice rfl rfl rfl (by decide)) ?_; rintro _ _ ⟨g32, rfl, rfl⟩; refine ⟨(by repeat first | exact S0 | exact S1 | refine S2 ?_ | refine S3 ?_), ?_⟩); refine TS.eff ?_; (refine TSo.ew rfl (Wt.none rfl) rfl rfl (Ew.append 1 0 rfl rfl rfl rfl rfl rfl (by omega) (by omega)) ?_; rintro v33 _ ⟨hv33, rfl⟩; refine ⟨(by repeat first | exact S0 | exact S1 | refine S2 ?_ | refine S3 ?_), ?_⟩); refine TS.run 1 rfl ?_; refine TS.done ?_; refine K.blk_normal (K.seq (T.region ?_)); refine TL.run 1 rfl ?_; refine TL.y (Yv.addI rfl rfl rfl (by omega)) ?_; refine TL.run 1 rfl ?_; refine TL.nil ?_; exact K.next (k + 1, v33) (by dsimp only; omega) (by dsimp only; omega) (by repeat (first | exact Sub.nil | refine Sub.cons rfl ?_)) (by dsimp only; rw [dfix_succ (by omega), if_pos (by omega), List.length_append, List.flatMap_append]; exact (by repeat first | exact S0 | exact S1 | refine S2 ?_ | refine S3 ?_))
      · have p2 := h2; (try simp only [nfB] at p2); refine T.skip (K.blk_normal (K.seq (T.region ?_))); refine TL.run 1 rfl ?_; refine TL.y (Yv.addI rfl rfl rfl (by omega)) ?_; refine TL.run 1 rfl ?_; refine TL.nil ?_; exact K.next (k + 1, v) (by dsimp only; omega) (by dsimp only; omega) (by repeat (first | exact Sub.nil | refine Sub.cons rfl ?_)) (by dsimp only; rw [dfix_succ (by omega), if_neg (by omega), List.append_nil]; exact (by repeat first | exact S0 | exact S1 | refine S2 ?_ | refine S3 ?_))
    · have p1 := h1; (try simp only [nfB] at p1); refine T.exit (K.then_exit (K.then_exit (K.blk_exit_eq (K.seq (T.seq (T.region ?_)))))); refine TL.run 2 rfl ?_; refine TL.nil (K.seq (T.ret ?_)); exact K.ret1 rfl rfl (fun w' hw => ⟨_, trivial, rfl, by rw [show k = xs.length by omega] at hw; exact hw.sub (by repeat first | exact S0 | exact S1 | refine S2 ?_ | refine S3 ?_)⟩)
def smp (a b c : Value) : Pb := { ds := [⟨1, a, [14, 15]⟩, ⟨2, b, [14, 15]⟩, ⟨3, c, [14, 15, 16]⟩], ps := [⟨1, 2, 0, 14, 51⟩, ⟨2, 3, 0, 14, 51⟩], ls := [⟨3, 1, 2, 14, 51⟩, ⟨3, 2, 2, 14, 51⟩], cs := [⟨3, 1, 14, 51⟩] }
abbrev sL (g n : Nat) : Value := .slice (some ⟨g, 0, none⟩) n n
structure Smp where
  a : Nat
  b : Nat
  c : Nat
  d : Nat
  p : Nat
  l : Nat
  k : Nat
def Smp.pb (s : Smp) : Pb := smp (sL s.a 2) (sL s.b 2) (sL s.c 3)
def Smp.val (s : Smp) : List Value := [sL s.d 3, sL s.p 2, sL s.l 2, sL s.k 1]
def Smp.hs (s : Smp) : HS := [.row s.k 88 (s.pb.cs.flatMap Cp.cells), .row s.l 86 (s.pb.ls.flatMap Ld.cells), .row s.p 84 (s.pb.ps.flatMap Pr.cells), .row s.d 64 (s.pb.ds.flatMap Dx.cells), .row s.c 3 ([14, 15, 16].flatMap Ie), .row s.b 3 ([14, 15].flatMap Ie), .row s.a 3 ([14, 15].flatMap Ie)]
theorem Smp.prob {B w : World} {M : Nat → Prop} {hs : HS} (s : Smp) (h : Hp B M (s.hs ++ hs) w) : ProbAt w (sL s.d 3) (sL s.p 2) (sL s.l 2) (sL s.k 1) s.pb := by
  have hk := Ent.row_ok.1 (h.own (.row s.k 88 (s.pb.cs.flatMap Cp.cells)) (by simp [Smp.hs])); have hl := Ent.row_ok.1 (h.own (.row s.l 86 (s.pb.ls.flatMap Ld.cells)) (by simp [Smp.hs])); have hp := Ent.row_ok.1 (h.own (.row s.p 84 (s.pb.ps.flatMap Pr.cells)) (by simp [Smp.hs])); have hd := Ent.row_ok.1 (h.own (.row s.d 64 (s.pb.ds.flatMap Dx.cells)) (by simp [Smp.hs])); have hc := Ent.row_ok.1 (h.own (.row s.c 3 ([14, 15, 16].flatMap Ie)) (by simp [Smp.hs])); have hb := Ent.row_ok.1 (h.own (.row s.b 3 ([14, 15].flatMap Ie)) (by simp [Smp.hs])); have ha := Ent.row_ok.1 (h.own (.row s.a 3 ([14, 15].flatMap Ie)) (by simp [Smp.hs])); refine ⟨⟨SlOf.lit (enc := Dx.cells) (size := 2) (fun _ => rfl) s.pb.ds hd rfl rfl, fun d hd' => ?_⟩, ⟨SlOf.lit (enc := Pr.cells) (size := 5) (fun _ => rfl) s.pb.ps hp rfl rfl, SlOf.lit (enc := Ld.cells) (size := 5) (fun _ => rfl) s.pb.ls hl rfl rfl, SlOf.lit (enc := Cp.cells) (size := 4) (fun _ => rfl) s.pb.cs hk rfl rfl, by simp [Smp.pb, smp], by simp [Smp.pb, smp], by simp [Smp.pb, smp]⟩, by simp [Smp.pb, smp], fun d hd' => ?_⟩
  · simp only [Smp.pb, smp, List.mem_cons, List.not_mem_nil, or_false] at hd'; rcases hd' with rfl | rfl | rfl
    · exact SlOf.lit (enc := Ie) (size := 1) (fun _ => rfl) [14, 15] ha rfl rfl
    · exact SlOf.lit (enc := Ie) (size := 1) (fun _ => rfl) [14, 15] hb rfl rfl
    · exact SlOf.lit (enc := Ie) (size := 1) (fun _ => rfl) [14, 15, 16] hc rfl rfl
  · simp only [Smp.pb, smp, List.mem_cons, List.not_mem_nil, or_false] at hd'; rcases hd' with rfl | rfl | rfl <;> simp
theorem sample_ret (w : World) : Calls Tryd.prog 32 #[] w fun e w' => ∃ s : Smp, True ∧ e = .returned (.agg s.val.toArray) ∧ Hp w (fun _ => False) s.hs w' := by
  refine calls_T (M := fun _ => False) (hs := []) Tryd.func32 rfl rfl rfl (Hp.refl _ _) ?_; refine T.seq (T.region ?_); (refine TL.ew (Wt.none rfl) rfl rfl (Ew.alloc rfl) ?_; rintro _ _ ⟨g0, rfl, rfl⟩); refine TL.nil (K.seq (T.seq (T.region ?_))); (refine TL.ew (Wt.none rfl) rfl rfl (Ew.buildSlice rfl rfl rfl (by decide)) ?_; rintro _ _ ⟨g1, rfl, rfl⟩); refine TL.y (Yv.build rfl rfl) ?_; (refine TL.ew (Wt.none rfl) rfl rfl (Ew.buildSlice rfl rfl rfl (by decide)) ?_; rintro _ _ ⟨g3, rfl, rfl⟩); refine TL.y (Yv.build rfl rfl) ?_; (refine TL.ew (Wt.none rfl) rfl rfl (Ew.buildSlice rfl rfl rfl (by decide)) ?_; rintro _ _ ⟨g5, rfl, rfl⟩); refine TL.y (Yv.build rfl rfl) ?_; (refine TL.ew (Wt.none rfl) rfl rfl (Ew.buildSlice rfl rfl rfl (by decide)) ?_; rintro _ _ ⟨g7, rfl, rfl⟩); refine TL.y (Yv.build rfl rfl) ?_; refine TL.y (Yv.build rfl rfl) ?_; (refine TL.ew (Wt.none rfl) rfl rfl (Ew.buildSlice rfl rfl rfl (by decide)) ?_; rintro _ _ ⟨g10, rfl, rfl⟩); refine TL.y (Yv.build rfl rfl) ?_; refine TL.y (Yv.build rfl rfl) ?_; (refine TL.ew (Wt.none rfl) rfl rfl (Ew.buildSlice rfl rfl rfl (by decide)) ?_; rintro _ _ ⟨g13, rfl, rfl⟩); refine TL.y (Yv.build rfl rfl) ?_; (refine TL.ew (Wt.none rfl) rfl rfl (Ew.buildSlice rfl rfl rfl (by decide)) ?_; rintro _ _ ⟨g15, rfl, rfl⟩); refine TL.y (Yv.build rfl rfl) ?_; refine TL.y (Yv.build rfl rfl) ?_; (refine TL.ew0 (Wt.none rfl) rfl (Ew.storeAll 7 rfl rfl rfl rfl rfl rfl) ?_; rintro _ _ ⟨rfl, rfl⟩); refine TL.nil (K.seq (T.ret ?_)); exact K.retC 7 rfl rfl rfl rfl (fun w' hw => ⟨⟨g1, g3, g5, g7, g10, g13, g15⟩, trivial, rfl, hw.sub (by repeat first | exact S0 | exact S1 | refine S2 ?_ | refine S3 ?_)⟩)
end Go.Proofs.YtljgejbmimapdaaDoor
namespace Go.Proofs.YtljgejbmimapdaaDoor
open Go.RowKit
theorem foldBit {α : Type} {f : BitVec 64 → α → BitVec 64} {h : α → Bool} {j : Nat} (hf : ∀ g x, (f g x).getLsbD j = (g.getLsbD j || h x)) : ∀ (l : List α) (g : BitVec 64), (l.foldl f g).getLsbD j = (g.getLsbD j || l.any h)
  | [], g => by simp
  | x :: r, g => by rw [List.foldl_cons, foldBit hf r, hf, List.any_cons, Bool.or_assoc]
theorem foldBitM {α : Type} {f : BitVec 64 → α → BitVec 64} {h : α → Bool} {j : Nat} : ∀ (l : List α) (g : BitVec 64), (∀ x ∈ l, ∀ g, (f g x).getLsbD j = (g.getLsbD j || h x)) → (l.foldl f g).getLsbD j = (g.getLsbD j || l.any h)
  | [], g, _ => by simp
  | x :: r, g, hf => by rw [List.foldl_cons, foldBitM r _ (fun y hy => hf y (by simp [hy])), hf x (by simp), List.any_cons, Bool.or_assoc]
theorem one_bit {c j : Nat} (hj : j < 64) : (1#64 <<< c).getLsbD j = decide (c = j) := by
  rw [BitVec.getLsbD_shiftLeft, BitVec.getLsbD_one]; by_cases h : c = j
  · subst h; simp [hj]
  · by_cases h2 : j < c
    · simp [h2, h]
    · simp [hj, h]; omega
theorem or_bit {g : BitVec 64} {c j : Nat} (hj : j < 64) : (g ||| 1#64 <<< c).getLsbD j = (g.getLsbD j || decide (c = j)) := by rw [BitVec.getLsbD_or, one_bit hj]
def pairHit (L : Ws) (i j : Nat) (x : Pr) : Bool :=
  if x.a = (i : Int) then decide ((only L x.b.toNat : Int) ≠ 0 ∧ x.lo ≤ (only L x.b.toNat : Int) - x.off ∧ (only L x.b.toNat : Int) - x.off ≤ x.hi ∧ ((only L x.b.toNat : Int) - x.off).toNat = j)
  else decide (x.lo ≤ (only L x.a.toNat : Int) ∧ (only L x.a.toNat : Int) ≤ x.hi ∧ ((only L x.a.toNat : Int) + x.off).toNat = j)
theorem pairs_bit {Y : Tb} {L : Ws} {i j : Nat} (hj : j < 64) : (pairsF Y L i).getLsbD j = (Y.ps i).any (pairHit L i j) := by
  unfold pairsF; rw [foldBit (h := pairHit L i j) (fun g x => ?_), BitVec.getLsbD_zero, Bool.false_or]; unfold pairStep pairHit
  split
  · split
    · rename_i h; rw [or_bit hj]; congr 1; exact decide_eq_decide.2 ⟨fun hh => ⟨h.1, h.2.1, h.2.2, hh⟩, fun hh => hh.2.2.2⟩
    · rename_i h; have : ¬ ((only L x.b.toNat : Int) ≠ 0 ∧ x.lo ≤ (only L x.b.toNat : Int) - x.off ∧ (only L x.b.toNat : Int) - x.off ≤ x.hi ∧ ((only L x.b.toNat : Int) - x.off).toNat = j) := fun hh => h ⟨hh.1, hh.2.1, hh.2.2.1⟩; rw [decide_eq_false this, Bool.or_false]
  · split
    · rename_i h; rw [or_bit hj]; simp [h]
    · rename_i h; have : ¬ (x.lo ≤ (only L x.a.toNat : Int) ∧ (only L x.a.toNat : Int) ≤ x.hi ∧ ((only L x.a.toNat : Int) + x.off).toNat = j) := fun hh => h ⟨hh.1, hh.2.1⟩; rw [decide_eq_false this, Bool.or_false]
theorem capStep_bit {f : Nat → Int} {g : BitVec 64} {x : Cp} {j : Nat} (hj : j < 64) (hlo : 0 ≤ x.lo) (hhi : 0 ≤ x.hi) : (capStep f g x).getLsbD j = (g.getLsbD j || decide (x.lo ≤ (j : Int) ∧ (j : Int) ≤ x.hi ∧ x.mx < f j)) := by
  unfold capStep; rw [foldBit (h := fun d => decide (x.mx < f d) && decide (d = j)) (fun g d => ?_)]
  · congr 1
    rw [Bool.eq_iff_iff, List.any_eq_true, decide_eq_true_eq]; constructor
    · rintro ⟨d, hd, h⟩; obtain ⟨h1, h2⟩ := List.mem_range'_1.1 hd; simp only [Bool.and_eq_true, decide_eq_true_eq] at h; obtain ⟨h3, rfl⟩ := h; exact ⟨by omega, by omega, h3⟩
    · rintro ⟨h1, h2, h3⟩; exact ⟨j, List.mem_range'_1.2 ⟨by omega, by omega⟩, by simp [h3]⟩
  · unfold capBit
    split
    · rename_i h; rw [or_bit hj]; simp [h]
    · rename_i h; simp [h]
theorem caps_bit {Y : Tb} {L : Ws} {i j : Nat} (hok : Y.Ok) (hi : i < Y.n) (hj : j < 64) : (capsF Y L i).getLsbD j = (Y.cs i).any fun x => decide (x.lo ≤ (j : Int) ∧ (j : Int) ≤ x.hi ∧ x.mx < lossOf L (Y.inn i) j) := by
  unfold capsF; rw [foldBitM (h := fun x => decide (x.lo ≤ (j : Int) ∧ (j : Int) ≤ x.hi ∧ x.mx < lossOf L (Y.inn i) j)) _ _ (fun x hx g => by have := (hok.cs i hi).2 x hx; exact capStep_bit hj (by omega) (by omega)), BitVec.getLsbD_zero, Bool.false_or]
def loadHit (Y : Tb) (L : Ws) (i j : Nat) (x : Ld) : Bool := decide (x.lo ≤ (only L x.to.toNat : Int) ∧ (only L x.to.toNat : Int) ≤ x.hi ∧ only L x.to.toNat = j ∧ ∃ c ∈ Y.cs x.to.toNat, (c.lo ≤ (j : Int) ∧ (j : Int) ≤ c.hi) ∧ c.mx < sumOf L i j (Y.inn x.to.toNat))
theorem lim_bit {lost : Int} {d j : Nat} {l : List Cp} {g : BitVec 64} (hj : j < 64) : (l.foldl (limStep lost d) g).getLsbD j = (g.getLsbD j || (decide (d = j) && decide (∃ c ∈ l, (c.lo ≤ (d : Int) ∧ (d : Int) ≤ c.hi) ∧ c.mx < lost))) := by
  rw [foldBit (h := fun c => decide (d = j) && decide ((c.lo ≤ (d : Int) ∧ (d : Int) ≤ c.hi) ∧ c.mx < lost)) (fun g c => ?_)]
  · congr 1
    rw [Bool.eq_iff_iff, List.any_eq_true]; simp only [Bool.and_eq_true, decide_eq_true_eq]; constructor
    · rintro ⟨c, hc, h1, h2⟩; exact ⟨h1, c, hc, h2⟩
    · rintro ⟨h1, c, hc, h2⟩; exact ⟨c, hc, h1, h2⟩
  · unfold limStep
    split
    · rename_i h; rw [or_bit hj]; simp [h]
    · rename_i h; simp [h]
theorem loads_bit {Y : Tb} {L : Ws} {i j : Nat} (hj : j < 64) : (loadsF Y L i).getLsbD j = (Y.out i).any (loadHit Y L i j) := by
  unfold loadsF; rw [foldBit (h := loadHit Y L i j) (fun g x => ?_), BitVec.getLsbD_zero, Bool.false_or]; unfold loadStep
  split
  · rename_i h; rcases h with h | h
    · rw [show loadHit Y L i j x = false from decide_eq_false (fun hh => by omega), Bool.or_false]
    · cases hh : loadHit Y L i j x with
      | false => rw [Bool.or_false]
      | true =>
        have := of_decide_eq_true hh; rw [this.2.2.1] at h; rw [h]; rfl
  · rename_i h; rw [lim_bit hj]
    congr 1
    unfold loadHit; rw [Bool.eq_iff_iff]; simp only [Bool.and_eq_true, decide_eq_true_eq]; constructor
    · rintro ⟨rfl, hc⟩; exact ⟨by omega, by omega, rfl, hc⟩
    · rintro ⟨_, _, rfl, hc⟩; exact ⟨rfl, hc⟩
/-- Every channel of S is one of M. -/
def Le' (S M : Ws) : Prop := ∀ i j, (nth S i).getLsbD j = true → (nth M i).getLsbD j = true
theorem only_mono {a b : BitVec 64} (hs : ∀ j, a.getLsbD j = true → b.getLsbD j = true) (ha : a ≠ 0#64) (h : onlyB b ≠ 0) : onlyB a = onlyB b := by
  by_cases e : a = b
  · rw [e]
  · exact absurd (two_bits hs e ha) h
section
variable {Y : Tb} {S M : Ws}
theorem onlyW (hle : Le' S M) (hne : ∀ i, i < Y.n → nth S i ≠ 0#64) {k : Nat} (hk : k < Y.n) (h : only M k ≠ 0) : only S k = only M k := only_mono (hle k) (hne k hk) h
theorem loss_mono (hok : Y.Ok) (hle : Le' S M) (hne : ∀ i, i < Y.n → nth S i ≠ 0#64) {d : Nat} (hd : d ≠ 0) : ∀ (l : List Ld), (∀ x ∈ l, 0 ≤ x.fr ∧ x.fr < Y.n ∧ 1 ≤ x.wt) → ∀ f f' : Nat → Int, f d ≤ f' d → l.foldl (lossStep M) f d ≤ l.foldl (lossStep S) f' d
  | [], _, f, f', h => h
  | x :: r, hx, f, f', h => by
    rw [List.foldl_cons, List.foldl_cons]; refine loss_mono hok hle hne hd r (fun y hy => hx y (by simp [hy])) _ _ ?_; have h1 := hx x (by simp); unfold lossStep; by_cases hh : x.lo ≤ (only M x.fr.toNat : Int) ∧ (only M x.fr.toNat : Int) ≤ x.hi ∧ only M x.fr.toNat = d
    · have e := onlyW (Y := Y) hle hne (k := x.fr.toNat) (by omega) (by omega); rw [if_pos hh, if_pos (by rw [e]; exact hh)]; omega
    · rw [if_neg hh]; split <;> omega
theorem sum_mono (hok : Y.Ok) (hle : Le' S M) (hne : ∀ i, i < Y.n → nth S i ≠ 0#64) {i d : Nat} (hd : d ≠ 0) : ∀ (l : List Ld), (∀ x ∈ l, 0 ≤ x.fr ∧ x.fr < Y.n ∧ 1 ≤ x.wt) → ∀ s s' : Int, s ≤ s' → l.foldl (sumStep M i d) s ≤ l.foldl (sumStep S i d) s'
  | [], _, s, s', h => h
  | x :: r, hx, s, s', h => by
    rw [List.foldl_cons, List.foldl_cons]; refine sum_mono hok hle hne hd r (fun y hy => hx y (by simp [hy])) _ _ ?_; have h1 := hx x (by simp); unfold sumStep; by_cases hh : (x.lo ≤ (d : Int) ∧ (d : Int) ≤ x.hi) ∧ (x.fr = (i : Int) ∨ only M x.fr.toNat = d)
    · rw [if_pos hh, if_pos ⟨hh.1, by
        rcases hh.2 with h2 | h2
        · exact .inl h2
        · exact .inr (by rw [onlyW (Y := Y) hle hne (k := x.fr.toNat) (by omega) (by omega)]; exact h2)⟩]
      omega
    · rw [if_neg hh]; split <;> omega
/-- What is removed from M is removed from every smaller state without an empty domain. -/
theorem gone_mono (hok : Y.Ok) (hle : Le' S M) (hne : ∀ i, i < Y.n → nth S i ≠ 0#64) {i j : Nat} (hi : i < Y.n) (h : (goneF Y M i).getLsbD j = true) : (goneF Y S i).getLsbD j = true := by
  have hj : j < 64 := BitVec.lt_of_getLsbD h; unfold goneF at h ⊢; rw [BitVec.getLsbD_or, BitVec.getLsbD_or, pairs_bit hj, caps_bit hok hi hj, loads_bit hj, Bool.or_eq_true, Bool.or_eq_true, List.any_eq_true, List.any_eq_true, List.any_eq_true] at h ⊢; rcases h with (⟨x, hx, h⟩ | ⟨x, hx, h⟩) | ⟨x, hx, h⟩
  · refine .inl (.inl ⟨x, hx, ?_⟩); have hr := (hok.ps i hi).2 x hx; unfold pairHit at h ⊢
    split at h
    · rename_i ha; rw [if_pos ha]; have h1 := of_decide_eq_true h; have e := onlyW (Y := Y) hle hne (k := x.b.toNat) (by omega) (by omega); rw [e]; exact h
    · rename_i ha; rw [if_neg ha]; have h1 := of_decide_eq_true h; have e := onlyW (Y := Y) hle hne (k := x.a.toNat) (by omega) (by omega); rw [e]; exact h
  · refine .inl (.inr ⟨x, hx, ?_⟩); have hr := (hok.cs i hi).2 x hx; have h1 := of_decide_eq_true h; have hm := loss_mono hok hle hne (d := j) (by omega) (Y.inn i) (fun y hy => by have := (hok.inn i hi).2 y hy; omega) (fun _ => 0) (fun _ => 0) (Int.le_refl _); exact decide_eq_true ⟨h1.1, h1.2.1, by have : lossOf M (Y.inn i) j ≤ lossOf S (Y.inn i) j := hm; omega⟩
  · refine .inr ⟨x, hx, ?_⟩; have hr := (hok.out i hi).2 x hx; have h1 := of_decide_eq_true h; obtain ⟨h2, h3, h4, c, hc, h5, h6⟩ := h1; have e := onlyW (Y := Y) hle hne (k := x.to.toNat) (by omega) (by omega); have hm := sum_mono hok hle hne (i := i) (d := j) (by omega) (Y.inn x.to.toNat) (fun y hy => by have := (hok.inn _ (show x.to.toNat < Y.n by omega)).2 y hy; omega) 0 0 (Int.le_refl _); exact decide_eq_true ⟨by rw [e]; exact h2, by rw [e]; exact h3, by rw [e]; exact h4, c, hc, h5, by have : sumOf M i j (Y.inn x.to.toNat) ≤ sumOf S i j (Y.inn x.to.toNat) := hm; omega⟩
/-- A settled state without an empty domain. -/
structure Closed (Y : Tb) (S : Ws) : Prop where
  len : S.length = Y.n
  calm : ∀ i, i < Y.n → Calm1 Y S i
theorem Closed.ne (h : Closed Y S) : ∀ i, i < Y.n → nth S i ≠ 0#64 := fun i hi => (h.calm i hi).1
theorem Closed.keep (hok : Y.Ok) (h : Closed Y S) {L : Ws} (hl : L.length = Y.n) (hle : Le' S L) (hr : Reach Y L M) : Le' S M := by
  induction hr with
  | refl => exact hle
  | @step M' k b hr hk hb ih =>
    intro i j hij; rw [set_nth (by rw [hr.len, hl]; exact hk)]
    split
    · rename_i e; subst e; rw [BitVec.getLsbD_and, ih i j hij, BitVec.getLsbD_not, Bool.true_and]; have hj : j < 64 := BitVec.lt_of_getLsbD hij
      cases hbj : b.getLsbD j with
      | false => simp [hj]
      | true =>
        have h1 := gone_mono hok ih h.ne hk (hb j hbj); have h2 := congrArg (fun v => BitVec.getLsbD v j) (h.calm i hk).2; simp only [BitVec.getLsbD_and, BitVec.getLsbD_zero] at h2; rw [hij, h1] at h2
        cases h2
    · exact ih i j hij
/-- The state that belongs to the channels T. -/
structure Is (Y : Tb) (T L : Ws) (c : Bool) : Prop where
  tlen : T.length = Y.n
  len : L.length = Y.n
  sub : Le' L T
  best : ∀ S, Closed Y S → Le' S T → Le' S L
  bad : c = true → ∃ i, i < Y.n ∧ nth L i = 0#64
  good : c = false → Closed Y L
theorem Is.of {T L : Ws} {c : Bool} (hok : Y.Ok) (hl : T.length = Y.n) (h : SPost Y T L c) : Is Y T L c :=
  ⟨hl, h.2.1, h.1.sub hl, fun S hS hle => hS.keep hok hl hle h.1, h.2.2.1, fun hc => ⟨h.2.1, h.2.2.2 hc⟩⟩
theorem Le'.antisymm (h1 : Le' S M) (h2 : Le' M S) (hl : S.length = M.length) : S = M := by
  apply List.ext_getElem hl; intro i hi1 hi2; have a1 := h1 i; have a2 := h2 i; rw [nth_eq hi1, nth_eq hi2] at a1 a2; apply BitVec.eq_of_getLsbD_eq; intro j _
  cases h : S[i].getLsbD j with
  | true => rw [a1 j h]
  | false =>
    cases h' : M[i].getLsbD j with
    | false => rfl
    | true => rw [a2 j h'] at h; cases h
/-- A smaller start. -/
theorem Is.cut {T L L' : Ws} {c : Bool} {i : Nat} {g : BitVec 64} (hok : Y.Ok) (hi : i < Y.n) (h : Is Y T L false) (k : Is Y (cutL L i g) L' c) : Is Y (cutL T i g) L' c where
  tlen := by unfold cutL; rw [List.length_set, h.tlen]
  len := k.len
  sub a j hj := by
    have h1 := k.sub a j hj; unfold cutL at h1 ⊢; rw [set_nth (by rw [h.len]; exact hi)] at h1; rw [set_nth (by rw [h.tlen]; exact hi)]
    split at h1
    · rename_i e; rw [if_pos e]; rw [BitVec.getLsbD_and, Bool.and_eq_true] at h1 ⊢; exact ⟨h.sub _ _ h1.1, h1.2⟩
    · rename_i e; rw [if_neg e]; exact h.sub _ _ h1
  best S hS hle := k.best S hS (fun a j hj => by
    have h0 : Le' S T := fun a j hj => by
      have := hle a j hj; unfold cutL at this; rw [set_nth (by rw [h.tlen]; exact hi)] at this
      split at this
      · rename_i e; subst e; rw [BitVec.getLsbD_and, Bool.and_eq_true] at this; exact this.1
      · exact this
    have h1 := h.best S hS h0 a j hj; have h2 := hle a j hj; unfold cutL at h2 ⊢; rw [set_nth (by rw [h.tlen]; exact hi)] at h2; rw [set_nth (by rw [h.len]; exact hi)]
    split at h2
    · rename_i e; rw [if_pos e]; subst e; rw [BitVec.getLsbD_and, Bool.and_eq_true] at h2 ⊢; exact ⟨h1, h2.2⟩
    · rename_i e; rw [if_neg e]; exact h1)
  bad := k.bad
  good := k.good
/-- Which state it is, if one is known that is settled and is reached. -/
theorem Is.eq {T L K : Ws} {c : Bool} (hok : Y.Ok) (h : Is Y T L c) (hK : Closed Y K) (hr : Reach Y T K) : L = K ∧ c = false := by
  have hKT : Le' K T := hr.sub h.tlen; have h1 := h.best K hK hKT
  have hc : c = false := by
    cases c with
    | false => rfl
    | true =>
      obtain ⟨i, hi, h0⟩ := h.bad rfl; exfalso; apply hK.ne i hi; apply BitVec.eq_of_getLsbD_eq; intro j _
      cases hh : (nth K i).getLsbD j with
      | false => rw [BitVec.getLsbD_zero]
      | true => have := h1 i j hh; rw [h0, BitVec.getLsbD_zero] at this; cases this
  subst hc; exact ⟨Le'.antisymm ((h.good rfl).keep hok h.tlen h.sub hr) h1 (by rw [h.len, hK.len]), rfl⟩
theorem Is.conflict {T L K : Ws} {c : Bool} {i : Nat} (hok : Y.Ok) (h : Is Y T L c) (hi : i < Y.n) (h0 : nth K i = 0#64) (hr : Reach Y T K) : c = true := by
  cases c with
  | true => rfl
  | false =>
    have hL := h.good rfl; have h1 := hL.keep hok h.tlen h.sub hr; exfalso; apply hL.ne i hi; apply BitVec.eq_of_getLsbD_eq; intro j _
    cases hh : (nth L i).getLsbD j with
    | false => rw [BitVec.getLsbD_zero]
    | true => have := h1 i j hh; rw [h0, BitVec.getLsbD_zero] at this; cases this
end
end Go.Proofs.YtljgejbmimapdaaDoor
namespace Go.Proofs.YtljgejbmimapdaaDoor
open Go.RowKit
def lessL : List Int → List Int → Bool
  | a :: x, b :: y => if a = b then lessL x y else decide (a < b)
  | _, _ => false
theorem lessL_drop {x y : List Int} {k : Nat} (h : k < x.length) (h2 : k < y.length) : lessL (x.drop k) (y.drop k) = if nth x k = nth y k then lessL (x.drop (k + 1)) (y.drop (k + 1)) else decide (nth x k < nth y k) := by
  rw [List.drop_eq_getElem_cons h, List.drop_eq_getElem_cons h2, nth_eq h, nth_eq h2]; rfl
def findD (ds : List Dx) (s : Int) : Int := match ds.findIdx? (fun d => decide (d.st = s)) with | some i => (i : Int) | none => -1
theorem findD_yes {ds : List Dx} {s : Int} {k : Nat} (hk : k < ds.length) (h : (nth ds k).st = s) (hb : ∀ j, j < k → ¬ (nth ds j).st = s) : findD ds s = (k : Int) := by
  unfold findD
  rw [show ds.findIdx? (fun d => decide (d.st = s)) = some k from by
    rw [List.findIdx?_eq_some_iff_getElem]; refine ⟨hk, by rw [← nth_eq hk]; simpa using h, fun j hj => ?_⟩; have := hb j hj; rw [nth_eq (by omega)] at this
    simpa using this]
theorem findD_no {ds : List Dx} {s : Int} (hb : ∀ j, j < ds.length → ¬ (nth ds j).st = s) : findD ds s = -1 := by
  unfold findD
  rw [show ds.findIdx? (fun d => decide (d.st = s)) = none from by
    rw [List.findIdx?_eq_none_iff]; intro d hd; obtain ⟨j, hj, rfl⟩ := List.mem_iff_getElem.1 hd; have := hb j hj; rw [nth_eq hj] at this
    simpa using this]
theorem inB_iff {n a b : Int} : inB n a b = true ↔ a ≤ n ∧ n ≤ b := by simp [inB]
def refPr (xs : List Pr) (k : Nat) : Bool := decide ((inB (nth xs k).a 0 511 = true ∧ inB (nth xs k).b 0 511 = true ∧ (nth xs k).a < (nth xs k).b ∧ -1 ≤ (nth xs k).off ∧ (nth xs k).off ≤ 1 ∧ rngB (nth xs k).lo (nth xs k).hi = true) ∧ (0 < k → lessL [(nth xs (k - 1)).a, (nth xs (k - 1)).b, (nth xs (k - 1)).off, (nth xs (k - 1)).lo, (nth xs (k - 1)).hi] [(nth xs k).a, (nth xs k).b, (nth xs k).off, (nth xs k).lo, (nth xs k).hi] = true))
def refLd (xs : List Ld) (k : Nat) : Bool := decide ((inB (nth xs k).to 0 511 = true ∧ inB (nth xs k).fr 0 511 = true ∧ ¬ (nth xs k).to = (nth xs k).fr ∧ 1 ≤ (nth xs k).wt ∧ (nth xs k).wt ≤ 1073741824 ∧ rngB (nth xs k).lo (nth xs k).hi = true) ∧ (0 < k → lessL [(nth xs (k - 1)).to, (nth xs (k - 1)).fr, (nth xs (k - 1)).wt, (nth xs (k - 1)).lo, (nth xs (k - 1)).hi] [(nth xs k).to, (nth xs k).fr, (nth xs k).wt, (nth xs k).lo, (nth xs k).hi] = true))
def refCp (xs : List Cp) (k : Nat) : Bool := decide ((inB (nth xs k).st 0 511 = true ∧ 0 ≤ (nth xs k).mx ∧ (nth xs k).mx ≤ 1099511627776 ∧ rngB (nth xs k).lo (nth xs k).hi = true) ∧ (0 < k → lessL [(nth xs (k - 1)).st, (nth xs (k - 1)).mx, (nth xs (k - 1)).lo, (nth xs (k - 1)).hi] [(nth xs k).st, (nth xs k).mx, (nth xs k).lo, (nth xs k).hi] = true))
def rulesR (P : Pb) : Bool := decide (P.ps.length ≤ 4096 ∧ P.ls.length ≤ 1024 ∧ P.cs.length ≤ 1024) && ((List.range P.ps.length).all (refPr P.ps) && ((List.range P.ls.length).all (refLd P.ls) && (List.range P.cs.length).all (refCp P.cs)))
def refCh (cs : List Int) (j : Nat) : Bool := decide (2 ≤ nth cs j ∧ nth cs j ≤ 51 ∧ (0 < j → nth cs (j - 1) < nth cs j))
def refDo (ds : List Dx) (k : Nat) : Bool := decide ((inB (nth ds k).st 0 511 = true ∧ (0 < k → (nth ds (k - 1)).st < (nth ds k).st) ∧ (nth ds k).chs.length ≤ 50) ∧ (List.range (nth ds k).chs.length).all (refCh (nth ds k).chs) = true)
def refFp (P : Pb) (k : Nat) : Bool := decide (0 ≤ findD P.ds (nth P.ps k).a ∧ 0 ≤ findD P.ds (nth P.ps k).b)
def refFl (P : Pb) (k : Nat) : Bool := decide (0 ≤ findD P.ds (nth P.ls k).to ∧ 0 ≤ findD P.ds (nth P.ls k).fr)
def refFc (P : Pb) (k : Nat) : Bool := decide (0 ≤ findD P.ds (nth P.cs k).st)
def validR (P : Pb) : Bool := decide (P.ds.length ≤ 512) && (rulesR P && ((List.range P.ds.length).all (refDo P.ds) && ((List.range P.ps.length).all (refFp P) && ((List.range P.ls.length).all (refFl P) && (List.range P.cs.length).all (refFc P)))))
theorem incB_pos {α : Type} [Inhabited α] {c : α → α → Int} {xs : List α} : incB c xs = true ↔ ∀ k, 0 < k → k < xs.length → c (nth xs (k - 1)) (nth xs k) < 0 := by
  unfold incB; rw [List.all_eq_true]; constructor
  · intro h k h0 hk; have := h k (List.mem_range.2 hk); simp only [Bool.or_eq_true, decide_eq_true_eq, Bool.not_eq_true', decide_eq_false_iff_not] at this; omega
  · intro h k hk; simp only [Bool.or_eq_true, decide_eq_true_eq, Bool.not_eq_true', decide_eq_false_iff_not]; by_cases h0 : k = 0
    · exact .inl h0
    · have := h k (by omega) (List.mem_range.1 hk); exact .inr (by omega)
theorem rangeAll {f : Nat → Bool} {n : Nat} : (List.range n).all f = true ↔ ∀ k, k < n → f k = true := by
  rw [List.all_eq_true]; exact ⟨fun h k hk => h k (List.mem_range.2 hk), fun h k hk => h k (List.mem_range.1 hk)⟩
theorem cmpI_lt0 {a b : Int} : cmpI a b < 0 ↔ a < b := by unfold cmpI; split <;> (try split) <;> omega
theorem cmpI_zero {a b : Int} : cmpI a b = 0 ↔ a = b := by unfold cmpI; split <;> (try split) <;> omega
theorem less_or : ∀ (xs ys : List Int), xs.length = ys.length → (lessL xs ys = true ↔ orL (List.zipWith cmpI xs ys) < 0)
  | [], [], _ => by simp [lessL, orL]
  | a :: x, b :: y, h => by
    have ih := less_or x y (by simpa using h); unfold lessL; rw [List.zipWith_cons_cons]; unfold orL; by_cases e : a = b
    · rw [if_pos e, if_pos (cmpI_zero.2 e)]; exact ih
    · rw [if_neg e, if_neg (fun hh => e (cmpI_zero.1 hh)), cmpI_lt0, decide_eq_true_eq]
  | [], _ :: _, h => by simp at h
  | _ :: _, [], h => by simp at h
theorem refPr_iff {xs : List Pr} {k : Nat} : refPr xs k = true ↔ (nth xs k).ok = true ∧ (0 < k → Pr.cmp (nth xs (k - 1)) (nth xs k) < 0) := by
  have e := less_or [(nth xs (k - 1)).a, (nth xs (k - 1)).b, (nth xs (k - 1)).off, (nth xs (k - 1)).lo, (nth xs (k - 1)).hi] [(nth xs k).a, (nth xs k).b, (nth xs k).off, (nth xs k).lo, (nth xs k).hi] rfl; simp only [refPr, decide_eq_true_eq, e, Pr.ok, Bool.and_eq_true, inB_iff, Pr.cmp, List.zipWith, and_assoc]
theorem refLd_iff {xs : List Ld} {k : Nat} : refLd xs k = true ↔ (nth xs k).ok = true ∧ (0 < k → Ld.cmp (nth xs (k - 1)) (nth xs k) < 0) := by
  have e := less_or [(nth xs (k - 1)).to, (nth xs (k - 1)).fr, (nth xs (k - 1)).wt, (nth xs (k - 1)).lo, (nth xs (k - 1)).hi] [(nth xs k).to, (nth xs k).fr, (nth xs k).wt, (nth xs k).lo, (nth xs k).hi] rfl; simp only [refLd, decide_eq_true_eq, e, Ld.ok, Bool.and_eq_true, inB_iff, Ld.cmp, List.zipWith, and_assoc]
theorem refCp_iff {xs : List Cp} {k : Nat} : refCp xs k = true ↔ (nth xs k).ok = true ∧ (0 < k → Cp.cmp (nth xs (k - 1)) (nth xs k) < 0) := by
  have e := less_or [(nth xs (k - 1)).st, (nth xs (k - 1)).mx, (nth xs (k - 1)).lo, (nth xs (k - 1)).hi] [(nth xs k).st, (nth xs k).mx, (nth xs k).lo, (nth xs k).hi] rfl; simp only [refCp, decide_eq_true_eq, e, Cp.ok, Bool.and_eq_true, inB_iff, Cp.cmp, List.zipWith, and_assoc]
theorem both_iff {α : Type} [Inhabited α] {r : List α → Nat → Bool} {q : α → Bool} {c : α → α → Int} {xs : List α} (h : ∀ k, r xs k = true ↔ q (nth xs k) = true ∧ (0 < k → c (nth xs (k - 1)) (nth xs k) < 0)) : (List.range xs.length).all (r xs) = true ↔ allB q xs = true ∧ incB c xs = true := by
  rw [rangeAll, allB_iff, incB_pos]; exact ⟨fun hh => ⟨fun k hk => ((h k).1 (hh k hk)).1, fun k h0 hk => ((h k).1 (hh k hk)).2 h0⟩, fun hh k hk => (h k).2 ⟨hh.1 k hk, fun h0 => hh.2 k h0 hk⟩⟩
theorem rulesR_eq (P : Pb) : rulesR P = P.rulesOk := by
  rw [Bool.eq_iff_iff]; simp only [rulesR, Pb.rulesOk, Bool.and_eq_true, decide_eq_true_eq, both_iff (r := refPr) (q := Pr.ok) (c := Pr.cmp) (xs := P.ps) (fun k => refPr_iff), both_iff (r := refLd) (q := Ld.ok) (c := Ld.cmp) (xs := P.ls) (fun k => refLd_iff), both_iff (r := refCp) (q := Cp.ok) (c := Cp.cmp) (xs := P.cs) (fun k => refCp_iff)]; constructor
  · rintro ⟨⟨h1, h2, h3⟩, ⟨h4, h5⟩, ⟨h6, h7⟩, h8, h9⟩; exact ⟨by omega, h4, h5, by omega, h6, h7, by omega, h8, h9⟩
  · rintro ⟨h1, h4, h5, h2, h6, h7, h3, h8, h9⟩; exact ⟨⟨by omega, by omega, by omega⟩, ⟨h4, h5⟩, ⟨h6, h7⟩, h8, h9⟩
theorem inc_most {f : Nat → Int} {lo hi : Int} {n : Nat} (h0 : ∀ k, k < n → lo ≤ f k ∧ f k ≤ hi) (h : ∀ k, 0 < k → k < n → f (k - 1) < f k) : (n : Int) ≤ hi - lo + 1 ∨ n = 0 := by
  have key : ∀ k, k < n → lo + (k : Int) ≤ f k := by
    intro k
    induction k with
    | zero => intro hk; have := h0 0 hk; omega
    | succ k ih => intro hk; have := ih (by omega); have := h (k + 1) (by omega) hk; rw [Nat.add_sub_cancel] at this; omega
  rcases Nat.eq_zero_or_pos n with h1 | h1
  · exact .inr h1
  · have := key (n - 1) (by omega); have := h0 (n - 1) (by omega); exact .inl (by omega)
theorem findD_iff {ds : List Dx} {s : Int} : 0 ≤ findD ds s ↔ ∃ i, i < ds.length ∧ (nth ds i).st = s := by
  unfold findD
  cases hf : ds.findIdx? (fun d => decide (d.st = s)) with
  | none =>
    refine ⟨fun h => by simp at h, fun ⟨i, hi, h⟩ => ?_⟩; rw [List.findIdx?_eq_none_iff] at hf; have := hf (nth ds i) (nth_mem hi); simp [h] at this
  | some i =>
    refine ⟨fun _ => ?_, fun _ => by simp⟩; obtain ⟨hi, h1, _⟩ := List.findIdx?_eq_some_iff_getElem.1 hf; exact ⟨i, hi, by rw [nth_eq hi]; simpa using h1⟩
theorem has_iff {P : Pb} (hst : ∀ d ∈ P.ds, 0 ≤ d.st ∧ d.st ≤ 511) {s : Int} : P.has s = true ↔ 0 ≤ findD P.ds s := by
  unfold Pb.has; rw [setOf_has (P.ds.map fun d : Dx => d.st) (fun y hy => by obtain ⟨d, hd, rfl⟩ := List.mem_map.1 hy; exact hst d hd), findD_iff, List.mem_map]; constructor
  · rintro ⟨d, hd, rfl⟩; obtain ⟨i, hi, rfl⟩ := List.mem_iff_getElem.1 hd; exact ⟨i, hi, by rw [nth_eq hi]⟩
  · rintro ⟨i, hi, rfl⟩; exact ⟨_, nth_mem hi, rfl⟩
theorem refCh_iff {cs : List Int} : (List.range cs.length).all (refCh cs) = true ↔ allB (fun c => inB c 2 51) cs = true ∧ incB cmpI cs = true := by
  refine both_iff (r := refCh) (q := fun c => inB c 2 51) (c := cmpI) fun k => ?_; simp only [refCh, decide_eq_true_eq, inB_iff, cmpI_lt0, and_assoc]
theorem validR_eq (P : Pb) : validR P = P.ok := by
  rw [Bool.eq_iff_iff]; simp only [validR, Pb.ok, Bool.and_eq_true, decide_eq_true_eq, rulesR_eq, rangeAll, allB_iff, incB_pos, cmpI_lt0, refDo, refFp, refFl, refFc, Dx.ok]
  have stOf : (∀ k, k < P.ds.length → inB (nth P.ds k).st 0 511 = true) → ∀ d ∈ P.ds, 0 ≤ d.st ∧ d.st ≤ 511 := fun h d hd => by
    obtain ⟨i, hi, rfl⟩ := List.mem_iff_getElem.1 hd; have := inB_iff.1 (h i hi)
    rwa [nth_eq hi] at this
  constructor
  · rintro ⟨h1, h2, h3, h4, h5, h6⟩; have hst := stOf fun k hk => (h3 k hk).1.1; refine ⟨fun k hk => ⟨(h3 k hk).1.1, ?_⟩, h2, fun k h0 hk => (h3 k hk).1.2.1 h0, fun k hk => ⟨(has_iff hst).2 (h4 k hk).1, (has_iff hst).2 (h4 k hk).2⟩, fun k hk => ⟨(has_iff hst).2 (h5 k hk).1, (has_iff hst).2 (h5 k hk).2⟩, fun k hk => (has_iff hst).2 (h6 k hk)⟩; have := refCh_iff.1 (rangeAll.2 (h3 k hk).2); simp only [allB_iff, incB_pos, cmpI_lt0] at this; exact this
  · rintro ⟨h1, h2, h3, h4, h5, h6⟩; have hst := stOf fun k hk => (h1 k hk).1; refine ⟨?_, h2, fun k hk => ⟨⟨(h1 k hk).1, fun h0 => h3 k h0 hk, ?_⟩, ?_⟩, fun k hk => ⟨(has_iff hst).1 (h4 k hk).1, (has_iff hst).1 (h4 k hk).2⟩, fun k hk => ⟨(has_iff hst).1 (h5 k hk).1, (has_iff hst).1 (h5 k hk).2⟩, fun k hk => (has_iff hst).1 (h6 k hk)⟩
    · have := inc_most (f := fun k => (nth P.ds k).st) (lo := 0) (hi := 511) (n := P.ds.length) (fun k hk => inB_iff.1 (h1 k hk).1) h3; omega
    · have := inc_most (f := nth (nth P.ds k).chs) (lo := 2) (hi := 51) (n := (nth P.ds k).chs.length) (fun j hj => inB_iff.1 ((h1 k hk).2.1 j hj)) (h1 k hk).2.2; omega
    · exact rangeAll.1 (refCh_iff.2 (by simp only [allB_iff, incB_pos, cmpI_lt0]; exact (h1 k hk).2))
end Go.Proofs.YtljgejbmimapdaaDoor
