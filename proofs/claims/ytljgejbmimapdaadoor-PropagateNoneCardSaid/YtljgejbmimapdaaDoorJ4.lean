/- Arranging a problem: the contract. -/
import Derived.Test.YtljgejbmimapdaaDoorJ3
set_option maxRecDepth 100000
set_option maxHeartbeats 4000000
set_option linter.unusedSimpArgs false
set_option linter.unusedVariables false
set_option linter.unusedSectionVars false
namespace Go.Proofs.YtljgejbmimapdaaDoor
open Go.RowKit

/-- A world without its first blocks. -/
def blank (K : Nat) (w : World) : World := { w with heap := w.heap.mapIdx fun i o => if i < K then .deferred none else o }
theorem blank_get {K : Nat} {w : World} {g : Nat} (h : K ≤ g) : (blank K w).heap[g]? = w.heap[g]? := by
  unfold blank
  rw [Array.getElem?_mapIdx]
  cases w.heap[g]? with
  | none => rfl
  | some o => simp; omega
theorem blank_isC {K : Nat} {w : World} {g : Nat} (h : IsC (blank K w) g) : K ≤ g := by
  obtain ⟨cs, t, p, e⟩ := h
  rcases Nat.lt_or_ge g K with hk | hk
  · unfold blank at e
    rw [Array.getElem?_mapIdx] at e
    cases hg : w.heap[g]? with
    | none => rw [hg] at e; cases e
    | some o => rw [hg] at e; simp [hk] at e
  · exact hk
/-- Blocks that stay as they are. -/
@[irreducible] def Ent.fz (w0 : World) : Ent where
  fp g := IsC w0 g
  ok w := Fz w0 w
  loc h k g hg := (h g hg).trans (k g hg)
  lt h g hg := by
    have := h g hg
    obtain ⟨cs, t, p, e⟩ := hg
    rw [e] at this
    exact (Array.getElem?_eq_some_iff.1 this).1
  nd h g hg c := by
    have := h g hg
    obtain ⟨cs, t, p, e⟩ := hg
    rw [this, e]; simp
theorem Ent.fz_fp {w0 : World} {g : Nat} : (Ent.fz w0).fp g ↔ IsC w0 g := by unfold Ent.fz; exact Iff.rfl
theorem Ent.fz_ok {w0 w : World} : (Ent.fz w0).ok w ↔ Fz w0 w := by unfold Ent.fz; exact Iff.rfl
theorem flat_one (l : List Value) : l.flatMap (fun u => [u]) = l := by
  induction l with
  | nil => rfl
  | cons x r ih => simp [ih]
structure TbOf (P : Pb) (Y : Tb) : Prop where
  st : Y.st = P.ds.map (·.st)
  ix : Y.ix = ixAt P.ds P.ds.length
  total : Y.total = totAt P.ds P.ds.length
  ps : Y.ps = P.psA P.ps.length
  cs : Y.cs = P.csA P.cs.length
  inn : Y.inn = P.inA P.ls.length
  out : Y.out = P.ouA P.ls.length
theorem lists_of {α : Type} {W : World} {tp off q n size : Nat} {e t : TypeId} {enc : α → List Value} (he : ∀ x, (enc x).length = size) {f : Nat → List α} {vv : Nat → Value} (hc : W.cell? ⟨tp, off, none⟩ = some (sV q n)) (ho : (Ent.sl (sV q n) t 1 n ((List.range n).map vv)).ok W) (hb : (Ent.bag (ents e size n vv enc f)).ok W) : Lists W ⟨tp, off, none⟩ enc size ((List.range n).map vv) n f where
  at' := ⟨_, hc, by
    have h1 := Ent.sl_ok.1 ho
    rw [← flat_one ((List.range n).map vv)] at h1
    exact SlOf.own (enc := fun u => [u]) (size := 1) (fun _ => rfl) h1 (by simp)⟩
  len := by simp
  each i hi := by
    have h1 := (Ent.bag_ok.1 hb).1 _ (List.mem_of_getElem? (ents_get hi))
    have h2 := SlOf.own he (Ent.sl_ok.1 h1) rfl
    rw [show nth ((List.range n).map vv) i = vv i from by simp [nth, hi]]
    exact h2
theorem arrange_end {P : Pb} {w w' : World} {g27 q1 q3 q5 q7 q9 : Nat} {ya2 ya3 yb3 ya4 : Nat → Value} (hw : Hp w (fun _ => False) [Ent.bag (ents 84 5 P.ds.length ya2 Pr.cells (P.psA P.ps.length)), Ent.bag (ents 88 4 P.ds.length ya4 Cp.cells (P.csA P.cs.length)), Ent.bag (ents 86 5 P.ds.length ya3 Ld.cells (P.inA P.ls.length)), Ent.bag (ents 86 5 P.ds.length yb3 Ld.cells (P.ouA P.ls.length)), .row g27 101 (tcells (sV q1 P.ds.length) (cellsK 512 (ixAt P.ds P.ds.length)) (totAt P.ds P.ds.length) (sV q3 P.ds.length) (sV q5 P.ds.length) (sV q7 P.ds.length) (sV q9 P.ds.length)), .sl (sV q1 P.ds.length) 3 1 P.ds.length (fillL (fun j => .int .i64 (nth P.ds j).st) (.int .i64 0) P.ds.length P.ds.length), .sl (sV q3 P.ds.length) 23 1 P.ds.length ((List.range P.ds.length).map ya2), .sl (sV q5 P.ds.length) 25 1 P.ds.length ((List.range P.ds.length).map ya4), .sl (sV q7 P.ds.length) 24 1 P.ds.length ((List.range P.ds.length).map ya3), .sl (sV q9 P.ds.length) 24 1 P.ds.length ((List.range P.ds.length).map yb3)] w') :
    ∃ Y w0, TbOf P Y ∧ TablesAt w0 g27 Y ∧ Hp w (fun _ => False) [Ent.fz w0] w' := by
  have hok : ∀ e ∈ [Ent.bag (ents 84 5 P.ds.length ya2 Pr.cells (P.psA P.ps.length)), Ent.bag (ents 88 4 P.ds.length ya4 Cp.cells (P.csA P.cs.length)), Ent.bag (ents 86 5 P.ds.length ya3 Ld.cells (P.inA P.ls.length)), Ent.bag (ents 86 5 P.ds.length yb3 Ld.cells (P.ouA P.ls.length)), .row g27 101 (tcells (sV q1 P.ds.length) (cellsK 512 (ixAt P.ds P.ds.length)) (totAt P.ds P.ds.length) (sV q3 P.ds.length) (sV q5 P.ds.length) (sV q7 P.ds.length) (sV q9 P.ds.length)), .sl (sV q1 P.ds.length) 3 1 P.ds.length (fillL (fun j => .int .i64 (nth P.ds j).st) (.int .i64 0) P.ds.length P.ds.length), .sl (sV q3 P.ds.length) 23 1 P.ds.length ((List.range P.ds.length).map ya2), .sl (sV q5 P.ds.length) 25 1 P.ds.length ((List.range P.ds.length).map ya4), .sl (sV q7 P.ds.length) 24 1 P.ds.length ((List.range P.ds.length).map ya3), .sl (sV q9 P.ds.length) 24 1 P.ds.length ((List.range P.ds.length).map yb3)], e.ok (blank w.heap.size w') := fun e he => e.loc (fun g hg => by
    rcases hw.new e he g hg with h | h
    · exact h.elim
    · exact blank_get h) (hw.own e he)
  have hrow := Ent.row_ok.1 (hok _ (List.mem_of_getElem? (i := 4) rfl))
  have hst := Ent.sl_ok.1 (hok _ (List.mem_of_getElem? (i := 5) rfl))
  rw [fillL_all (fun d : Dx => d.st) (fun _ => rfl) rfl] at hst
  have hix := cellsK_len (N := 512) (f := ixAt P.ds P.ds.length)
  have e1 : (P.ds.map fun d : Dx => d.st).length = P.ds.length := by simp
  refine ⟨⟨P.ds.map (·.st), ixAt P.ds P.ds.length, totAt P.ds P.ds.length, (List.range P.ds.length).map ya2, P.psA P.ps.length, (List.range P.ds.length).map ya4, P.csA P.cs.length, (List.range P.ds.length).map ya3, P.inA P.ls.length, (List.range P.ds.length).map yb3, P.ouA P.ls.length⟩, blank w.heap.size w', ⟨rfl, rfl, rfl, rfl, rfl, rfl, rfl⟩, ⟨?_, ?_, ?_, ?_, ?_, ?_, ?_⟩, ?_⟩
  · exact ⟨_, by rw [row_cell hrow]; rfl, SlOf.own (enc := Ie) (size := 1) (fun _ => rfl) hst (by simp)⟩
  · intro j hj
    rw [row_cell hrow, tcells_ix hix hj rfl, cellsK_get rfl hj]
  · rw [row_cell hrow, tcells_hi hix (j := 0) rfl]; rfl
  · have := lists_of (enc := Pr.cells) (fun _ => rfl) (tp := g27) (off := 514) (by rw [row_cell hrow, tcells_hi hix (j := 1) rfl]; rfl) (hok _ (List.mem_of_getElem? (i := 6) rfl)) (hok _ (List.mem_of_getElem? (i := 0) rfl))
    simpa [Tb.n] using this
  · have := lists_of (enc := Cp.cells) (fun _ => rfl) (tp := g27) (off := 515) (by rw [row_cell hrow, tcells_hi hix (j := 2) rfl]; rfl) (hok _ (List.mem_of_getElem? (i := 7) rfl)) (hok _ (List.mem_of_getElem? (i := 1) rfl))
    simpa [Tb.n] using this
  · have := lists_of (enc := Ld.cells) (fun _ => rfl) (tp := g27) (off := 516) (by rw [row_cell hrow, tcells_hi hix (j := 3) rfl]; rfl) (hok _ (List.mem_of_getElem? (i := 8) rfl)) (hok _ (List.mem_of_getElem? (i := 2) rfl))
    simpa [Tb.n] using this
  · have := lists_of (enc := Ld.cells) (fun _ => rfl) (tp := g27) (off := 517) (by rw [row_cell hrow, tcells_hi hix (j := 4) rfl]; rfl) (hok _ (List.mem_of_getElem? (i := 9) rfl)) (hok _ (List.mem_of_getElem? (i := 3) rfl))
    simpa [Tb.n] using this
  · refine ⟨hw.os, hw.tape, hw.output, hw.size, hw.base, fun e he => ?_, fun e he g hg => ?_, List.pairwise_singleton _ _⟩
    · rw [List.mem_singleton.1 he]
      exact Ent.fz_ok.2 fun g hg => (blank_get (blank_isC hg)).symm
    · rw [List.mem_singleton.1 he] at hg
      exact .inr (blank_isC (Ent.fz_fp.1 hg))
theorem arrange_ret (P : Pb) (vd vp vl vc : Value) (w : World) (h : ProbAt w vd vp vl vc P) (hok : P.ok = true) : Calls Tryd.prog 43 #[.agg [vd, vp, vl, vc].toArray] w fun e w' => ∃ y : Nat × Tb × World, (TbOf P y.2.1 ∧ TablesAt y.2.2 y.1 y.2.1) ∧ e = .returned (.pointer (some ⟨y.1, 0, none⟩)) ∧ Hp w (fun _ => False) [Ent.fz y.2.2] w' :=
  (arrange_raw P vd vp vl vc w h hok).mono fun e w' ⟨g27, q1, q3, q5, q7, q9, ya2, ya3, yb3, ya4, he, hw⟩ => by
    obtain ⟨Y, w0, h1, h2, h3⟩ := arrange_end hw
    exact ⟨(g27, Y, w0), ⟨h1, h2⟩, he, h3⟩
theorem mem_psA {P : Pb} {j : Nat} {x : Pr} : x ∈ P.psA P.ps.length j ↔ (∃ y ∈ P.ps, P.rp y = x) ∧ (x.a = (j : Int) ∨ x.b = (j : Int)) := by
  unfold Pb.psA; rw [List.take_length, List.mem_filter, List.mem_map]; simp
theorem mem_inA {P : Pb} {j : Nat} {x : Ld} : x ∈ P.inA P.ls.length j ↔ (∃ y ∈ P.ls, P.rl y = x) ∧ x.to = (j : Int) := by
  unfold Pb.inA; rw [List.take_length, List.mem_filter, List.mem_map]; simp
theorem mem_ouA {P : Pb} {j : Nat} {x : Ld} : x ∈ P.ouA P.ls.length j ↔ (∃ y ∈ P.ls, P.rl y = x) ∧ x.fr = (j : Int) := by
  unfold Pb.ouA; rw [List.take_length, List.mem_filter, List.mem_map]; simp
theorem mem_csA {P : Pb} {j : Nat} {x : Cp} : x ∈ P.csA P.cs.length j ↔ (∃ y ∈ P.cs, P.rc y = x) ∧ x.st = (j : Int) := by
  unfold Pb.csA; rw [List.take_length, List.mem_filter, List.mem_map]; simp
theorem rp_facts {P : Pb} (hG : P.Good) {y : Pr} (hy : y ∈ P.ps) : 0 ≤ (P.rp y).a ∧ (P.rp y).a < P.ds.length ∧ 0 ≤ (P.rp y).b ∧ (P.rp y).b < P.ds.length ∧ (P.rp y).a ≠ (P.rp y).b ∧ -1 ≤ y.off ∧ y.off ≤ 1 ∧ 2 ≤ y.lo ∧ y.lo ≤ y.hi ∧ y.hi ≤ 51 := by
  obtain ⟨ho, ⟨ia, hia, hea⟩, ib, hib, heb⟩ := hG.ps y hy
  simp only [Pr.ok, inB, rngB, Bool.and_eq_true, decide_eq_true_eq] at ho
  have h1 : (P.rp y).a = (ia : Int) := by show P.ix y.a = _; rw [hea]; exact Pb.ix_of hG hia
  have h2 : (P.rp y).b = (ib : Int) := by show P.ix y.b = _; rw [heb]; exact Pb.ix_of hG hib
  have h3 : ia ≠ ib := by rintro rfl; omega
  omega
theorem rl_facts {P : Pb} (hG : P.Good) {y : Ld} (hy : y ∈ P.ls) : 0 ≤ (P.rl y).to ∧ (P.rl y).to < P.ds.length ∧ 0 ≤ (P.rl y).fr ∧ (P.rl y).fr < P.ds.length ∧ (P.rl y).to ≠ (P.rl y).fr ∧ 1 ≤ y.wt ∧ y.wt ≤ 1073741824 ∧ 2 ≤ y.lo ∧ y.lo ≤ y.hi ∧ y.hi ≤ 51 := by
  obtain ⟨ho, ⟨ia, hia, hea⟩, ib, hib, heb⟩ := hG.ls y hy
  simp only [Ld.ok, inB, rngB, Bool.and_eq_true, decide_eq_true_eq] at ho
  have h1 : (P.rl y).to = (ia : Int) := by show P.ix y.to = _; rw [hea]; exact Pb.ix_of hG hia
  have h2 : (P.rl y).fr = (ib : Int) := by show P.ix y.fr = _; rw [heb]; exact Pb.ix_of hG hib
  have h3 : ia ≠ ib := by rintro rfl; exact ho.2.2.1 (by rw [hea, heb])
  omega
theorem TbOf.ok {P : Pb} {Y : Tb} (hG : P.Good) (h : TbOf P Y) : Y.Ok := by
  have hn : Y.n = P.ds.length := by unfold Tb.n; rw [h.st]; simp
  have l1 := hG.lps; have l2 := hG.lls; have l3 := hG.lcs
  refine ⟨by rw [hn]; exact hG.n, fun i hi => ⟨?_, fun x hx => ?_⟩, fun i hi => ⟨?_, fun x hx => ?_⟩, fun i hi => ⟨?_, fun x hx => ?_⟩, fun i hi x hx => ?_, fun i hi x hx => ?_, fun i hi x hx => ?_, fun i hi => ⟨?_, fun x hx => ?_⟩⟩
  · rw [h.ps]; exact Nat.le_trans filt_len l1
  · rw [h.ps] at hx
    obtain ⟨⟨y, hy, rfl⟩, hj⟩ := mem_psA.1 hx
    have := rp_facts hG hy
    rw [hn]
    exact ⟨this.1, this.2.1, this.2.2.1, this.2.2.2.1, this.2.2.2.2.2.1, this.2.2.2.2.2.2.1, this.2.2.2.2.2.2.2.1, this.2.2.2.2.2.2.2.2.1, this.2.2.2.2.2.2.2.2.2, hj⟩
  · rw [h.cs]; exact Nat.le_trans filt_len l3
  · rw [h.cs] at hx
    obtain ⟨⟨y, hy, rfl⟩, hj⟩ := mem_csA.1 hx
    have ho := (hG.cs y hy).1
    simp only [Cp.ok, inB, rngB, Bool.and_eq_true, decide_eq_true_eq] at ho
    show 0 ≤ y.mx ∧ y.mx ≤ _ ∧ 2 ≤ y.lo ∧ y.lo ≤ y.hi ∧ y.hi ≤ 51
    omega
  · rw [h.inn]; exact Nat.le_trans filt_len l2
  · rw [h.inn] at hx
    obtain ⟨⟨y, hy, rfl⟩, hj⟩ := mem_inA.1 hx
    have := rl_facts hG hy
    rw [hn]
    exact ⟨hj, this.2.2.1, this.2.2.2.1, this.2.2.2.2.2⟩
  · rw [h.ps] at hx ⊢
    obtain ⟨⟨y, hy, rfl⟩, hj⟩ := mem_psA.1 hx
    have := rp_facts hG hy
    exact ⟨this.2.2.2.2.1, mem_psA.2 ⟨⟨y, hy, rfl⟩, .inl (by omega)⟩, mem_psA.2 ⟨⟨y, hy, rfl⟩, .inr (by omega)⟩⟩
  · rw [h.inn] at hx
    rw [h.out]
    obtain ⟨⟨y, hy, rfl⟩, hj⟩ := mem_inA.1 hx
    have := rl_facts hG hy
    exact ⟨this.2.2.2.2.1, mem_ouA.2 ⟨⟨y, hy, rfl⟩, by omega⟩⟩
  · rw [h.out] at hx
    rw [h.inn]
    obtain ⟨⟨y, hy, rfl⟩, hj⟩ := mem_ouA.1 hx
    have := rl_facts hG hy
    exact ⟨this.2.2.2.2.1, mem_inA.2 ⟨⟨y, hy, rfl⟩, by omega⟩⟩
  · rw [h.out]; exact Nat.le_trans filt_len l2
  · rw [h.out] at hx
    obtain ⟨⟨y, hy, rfl⟩, hj⟩ := mem_ouA.1 hx
    have := rl_facts hG hy
    rw [hn]
    exact ⟨hj, this.1, this.2.1, this.2.2.2.2.2⟩

end Go.Proofs.YtljgejbmimapdaaDoor
