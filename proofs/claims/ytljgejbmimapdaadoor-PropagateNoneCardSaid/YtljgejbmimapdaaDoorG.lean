/- The rule of caps. -/
import Derived.Test.YtljgejbmimapdaaDoorF
set_option maxRecDepth 100000
set_option maxHeartbeats 4000000
set_option linter.unusedSimpArgs false
set_option linter.unusedVariables false
set_option linter.unusedSectionVars false
namespace Go.Proofs.YtljgejbmimapdaaDoor
open Go.RowKit

def cells52 (f : Nat → Int) : List Value := (List.range 52).map fun d => .int .i64 (f d)
theorem cells52_len (f : Nat → Int) : (cells52 f).length = 52 := by simp [cells52]
theorem cells52_get {f : Nat → Int} {d p : Nat} (hp : p = d) (hd : d < 52) : (cells52 f)[p]? = some (.int .i64 (f d)) := by subst hp; simp [cells52, hd]
theorem cells52_set {f f' : Nat → Int} {d p : Nat} {v : Int} (hp : p = d) (hd : d < 52) (h1 : f' d = v) (h2 : ∀ e, e ≠ d → f' e = f e) : (cells52 f).set p (.int .i64 v) = cells52 f' := by
  subst hp h1
  apply List.ext_getElem?
  intro e
  unfold cells52
  by_cases he : e = p
  · subst he; rw [List.getElem?_set_self (by simpa using hd)]; simp [hd]
  · rw [List.getElem?_set_ne (fun h => he h.symm)]
    simp only [List.getElem?_map, List.getElem?_range]
    by_cases h52 : e < 52
    · simp [h52, h2 e he]
    · simp [h52]
def lossStep (L : Ws) (f : Nat → Int) (x : Ld) : Nat → Int := fun d => if x.lo ≤ (only L x.fr.toNat : Int) ∧ (only L x.fr.toNat : Int) ≤ x.hi ∧ only L x.fr.toNat = d then f d + x.wt else f d
def lossOf (L : Ws) (l : List Ld) : Nat → Int := l.foldl (lossStep L) (fun _ => 0)
theorem loss_le (L : Ws) : ∀ (l : List Ld), (∀ x ∈ l, 1 ≤ x.wt ∧ x.wt ≤ 1073741824) → ∀ (f : Nat → Int) (b : Int), (∀ d, 0 ≤ f d ∧ f d ≤ b) → ∀ d, 0 ≤ l.foldl (lossStep L) f d ∧ l.foldl (lossStep L) f d ≤ b + 1073741824 * (l.length : Int)
  | [], _, f, b, hf, d => by simpa using hf d
  | x :: r, hx, f, b, hf, d => by
    have h1 := hx x (by simp)
    have := loss_le L r (fun y hy => hx y (by simp [hy])) (lossStep L f x) (b + 1073741824) (fun e => by
      have := hf e
      unfold lossStep; split <;> omega) d
    simp only [List.foldl_cons, List.length_cons]
    omega
def capBit (f : Nat → Int) (mx : Int) (g : BitVec 64) (d : Nat) : BitVec 64 := if mx < f d then g ||| 1#64 <<< d else g
def capStep (f : Nat → Int) (g : BitVec 64) (x : Cp) : BitVec 64 := (List.range' x.lo.toNat (x.hi.toNat + 1 - x.lo.toNat)).foldl (capBit f x.mx) g
def capsF (Y : Tb) (L : Ws) (i : Nat) : BitVec 64 := (Y.cs i).foldl (capStep (lossOf L (Y.inn i))) 0#64
theorem loss_take {L : Ws} {l : List Ld} {k : Nat} (h : k < l.length) : lossOf L (l.take (k + 1)) = lossStep L (lossOf L (l.take k)) (nth l k) := foldl_take _ _ h
theorem loss_bd {L : Ws} {l : List Ld} (hl : l.length ≤ 1024) (hw : ∀ x ∈ l, 1 ≤ x.wt ∧ x.wt ≤ 1073741824) (k d : Nat) : 0 ≤ lossOf L (l.take k) d ∧ lossOf L (l.take k) d ≤ 1099511627776 := by
  have := loss_le L (l.take k) (fun x hx => hw x (List.mem_of_mem_take hx)) (fun _ => 0) 0 (fun _ => ⟨by simp, by simp⟩) d
  have hk : (l.take k).length ≤ 1024 := by rw [List.length_take]; omega
  unfold lossOf
  omega
def sumStep (L : Ws) (i d : Nat) (s : Int) (x : Ld) : Int := if (x.lo ≤ (d : Int) ∧ (d : Int) ≤ x.hi) ∧ (x.fr = (i : Int) ∨ only L x.fr.toNat = d) then s + x.wt else s
theorem sum_le (L : Ws) (i d : Nat) : ∀ (l : List Ld), (∀ x ∈ l, 1 ≤ x.wt ∧ x.wt ≤ 1073741824) → ∀ (s : Int), 0 ≤ s → 0 ≤ l.foldl (sumStep L i d) s ∧ l.foldl (sumStep L i d) s ≤ s + 1073741824 * (l.length : Int)
  | [], _, s, h => by simp; exact h
  | x :: r, hx, s, h => by
    have h1 := hx x (by simp)
    have hs : 0 ≤ sumStep L i d s x ∧ sumStep L i d s x ≤ s + 1073741824 := by unfold sumStep; split <;> omega
    have := sum_le L i d r (fun y hy => hx y (by simp [hy])) (sumStep L i d s x) hs.1
    simp only [List.foldl_cons, List.length_cons]
    omega
def sumOf (L : Ws) (i d : Nat) (l : List Ld) : Int := l.foldl (sumStep L i d) 0
theorem sum_bd {L : Ws} {l : List Ld} {i d : Nat} (hl : l.length ≤ 1024) (hw : ∀ x ∈ l, 1 ≤ x.wt ∧ x.wt ≤ 1073741824) (k : Nat) : 0 ≤ sumOf L i d (l.take k) ∧ sumOf L i d (l.take k) ≤ 1099511627776 := by
  have := sum_le L i d (l.take k) (fun x hx => hw x (List.mem_of_mem_take hx)) 0 (Int.le_refl _)
  have hk : (l.take k).length ≤ 1024 := by rw [List.length_take]; omega
  unfold sumOf
  omega
def limStep (lost : Int) (d : Nat) (g : BitVec 64) (x : Cp) : BitVec 64 := if (x.lo ≤ (d : Int) ∧ (d : Int) ≤ x.hi) ∧ x.mx < lost then g ||| 1#64 <<< d else g
def loadStep (Y : Tb) (L : Ws) (i : Nat) (g : BitVec 64) (x : Ld) : BitVec 64 :=
  if ((only L x.to.toNat : Int) < x.lo ∨ x.hi < (only L x.to.toNat : Int)) ∨ g.getLsbD (only L x.to.toNat) = true then g
  else (Y.cs x.to.toNat).foldl (limStep (sumOf L i (only L x.to.toNat) (Y.inn x.to.toNat)) (only L x.to.toNat)) g
def loadsF (Y : Tb) (L : Ws) (i : Nat) : BitVec 64 := (Y.out i).foldl (loadStep Y L i) 0#64

theorem capsOf_ret (sp : Nat) (Y : Tb) (L : Ws) (c : Bool) (i : Nat) (z : Int) (hz : z = (i : Int)) (hi : i < Y.n) (w : World) (h : StateAt w sp Y L c) (hok : Y.Ok) : Calls Tryd.prog 80 #[.pointer (some ⟨sp, 0, none⟩), .int .i64 z] w fun e w' => e = .returned (U (capsF Y L i)) ∧ Below w.heap.size w w' := by
  subst hz
  obtain ⟨tp, hsp0, hT⟩ := h.tb
  obtain ⟨vL, hsp1, hL⟩ := h.left
  obtain ⟨AL, capL, rfl, hLs⟩ := hL.op
  have hLn := h.len
  obtain ⟨vC, hC0, hC⟩ := hT.cs.at'
  obtain ⟨AC, capC, rfl, hCs⟩ := hC.op
  have hCn := hT.cs.len
  obtain ⟨gC, oC, rfl, hCc⟩ := hCs (by omega)
  rw [hCn] at hC0
  have hCi := hCc i (by rw [hCn]; exact hi)
  obtain ⟨BC, cpC, hvC, hslC⟩ := (hT.cs.each i hi).op
  simp only [hvC] at hCi
  obtain ⟨vI, hI0, hI⟩ := hT.inn.at'
  obtain ⟨AI, capI, rfl, hIs⟩ := hI.op
  have hIn := hT.inn.len
  obtain ⟨gI, oI, rfl, hIc⟩ := hIs (by omega)
  rw [hIn] at hI0
  have hIi := hIc i (by rw [hIn]; exact hi)
  obtain ⟨BI, cpI, hvI, hslI⟩ := (hT.inn.each i hi).op
  simp only [hvI] at hIi
  obtain ⟨hlenC, hrngC⟩ := hok.cs i hi
  obtain ⟨hlen, hrng⟩ := hok.inn i hi
  have hn512 := hok.n
  have hwt : ∀ x ∈ Y.inn i, 1 ≤ x.wt ∧ x.wt ≤ 1073741824 := fun x hx => by have := hrng x hx; omega
  refine calls_T (M := fun _ => False) (hs := []) Tryd.func80 rfl rfl rfl (Hp.refl _ _) ?_
  refine T.seq ?_
  refine T.region ?_
  refine TL.yv (Wt.none rfl) rfl rfl (Yv.pur rfl) ?_
  refine TL.nil ?_
  refine K.seq ?_
  refine T.seq ?_
  refine T.seq ?_
  refine T.region ?_
  refine TL.yv (Wt.none rfl) rfl rfl (Yv.pur rfl) ?_
  refine TL.yv (Wt.none rfl) rfl rfl (Yv.pur rfl) ?_
  refine TL.yv (Wt.none rfl) rfl rfl (Yv.fieldAddr rfl rfl) ?_
  refine TL.yv (Wt.none rfl) rfl rfl (Yv.loadB rfl rfl hsp0 (fun h => h)) ?_
  refine TL.yv (Wt.none rfl) rfl rfl (Yv.pur rfl) ?_
  refine TL.yv (Wt.none rfl) rfl rfl (Yv.fieldAddr rfl rfl) ?_
  refine TL.yv (Wt.none rfl) rfl rfl (Yv.loadB rfl rfl hC0 (fun h => h)) ?_
  refine TL.yv (Wt.none rfl) rfl rfl (Yv.pur rfl) ?_
  refine TL.yv (Wt.none rfl) rfl rfl (Yv.indexSl rfl rfl rfl rfl (by omega)) ?_
  refine TL.yv (Wt.none rfl) rfl rfl (Yv.loadC (j := 0) rfl rfl hCi rfl rfl (fun h => h)) ?_
  refine TL.yv (Wt.none rfl) rfl rfl (Yv.lenSl rfl rfl) ?_
  refine TL.yv (Wt.none rfl) rfl rfl (Yv.pur rfl) ?_
  refine TL.nil ?_
  refine K.seq ?_
  refine T.cond rfl (fun h1 => ?_) (fun h1 => ?_)
  · have p1 := h1
    try simp only [decide_eq_true_eq, decide_eq_false_iff_not, Int.not_lt, Int.not_le, Bool.not_eq_true', Bool.not_eq_false', Decidable.not_not, Bool.and_eq_true, Bool.or_eq_true, Bool.and_eq_false_iff, Bool.or_eq_false_iff] at p1
    refine T.seq ?_
    refine T.region ?_
    refine TL.yv (Wt.none rfl) rfl rfl (Yv.pur rfl) ?_
    refine TL.nil ?_
    refine K.seq ?_
    refine T.ret ?_
    refine K.then_ret ?_
    exact K.ret1 rfl rfl (fun w' hw => ⟨by rw [capsF, List.eq_nil_of_length_eq_zero (show (Y.cs i).length = 0 by omega)]; rfl, hw.isBelow⟩)
  · have p1 := h1
    try simp only [decide_eq_true_eq, decide_eq_false_iff_not, Int.not_lt, Int.not_le, Bool.not_eq_true', Bool.not_eq_false', Decidable.not_not, Bool.and_eq_true, Bool.or_eq_true, Bool.and_eq_false_iff, Bool.or_eq_false_iff] at p1
    refine T.skip ?_
    refine K.seq ?_
    refine T.seq ?_
    refine T.region ?_
    (refine TL.ew (Wt.none rfl) rfl rfl (Ew.alloc rfl) ?_; rintro _ _ ⟨g5, rfl, rfl⟩)
    refine TL.nil ?_
    refine K.seq ?_
    refine T.cut (gs := [(0, .pointer (some ⟨sp, 0, none⟩)), (1, .int .i64 (i : Int)), (5, .pointer (some ⟨g5, 0, none⟩))]) (hs' := [.row g5 156 (cells52 (lossOf L (Y.inn i)))]) ?_ ?_
    · skip
      refine T.seq ?_
      refine T.region ?_
      refine TL.yv (Wt.none rfl) rfl rfl (Yv.pur rfl) ?_
      refine TL.yv (Wt.none rfl) rfl rfl (Yv.pur rfl) ?_
      refine TL.yv (Wt.none rfl) rfl rfl (Yv.fieldAddr rfl rfl) ?_
      refine TL.yv (Wt.none rfl) rfl rfl (Yv.loadB rfl rfl hsp0 (fun h => h)) ?_
      refine TL.yv (Wt.none rfl) rfl rfl (Yv.pur rfl) ?_
      refine TL.yv (Wt.none rfl) rfl rfl (Yv.fieldAddr rfl rfl) ?_
      refine TL.yv (Wt.none rfl) rfl rfl (Yv.loadB rfl rfl hI0 (fun h => h)) ?_
      refine TL.yv (Wt.none rfl) rfl rfl (Yv.pur rfl) ?_
      refine TL.yv (Wt.none rfl) rfl rfl (Yv.indexSl rfl rfl rfl rfl (by omega)) ?_
      refine TL.yv (Wt.none rfl) rfl rfl (Yv.loadC (j := 0) rfl rfl hIi rfl rfl (fun h => h)) ?_
      refine TL.yv (Wt.none rfl) rfl rfl (Yv.lenSl rfl rfl) ?_
      refine TL.yv (Wt.none rfl) rfl rfl (Yv.pur rfl) ?_
      refine TL.nil ?_
      refine K.seq ?_
      refine T.block ?_
      refine T.loop (ι := Nat) (fun k => [(0, .pointer (some ⟨sp, 0, none⟩)), (1, .int .i64 (i : Int)), (5, .pointer (some ⟨g5, 0, none⟩)), (34, .slice BI (Y.inn i).length cpI), (35, .int .i64 ((Y.inn i).length : Int)), (36, .int .i64 (k : Int))]) (fun k => [.row g5 156 (cells52 (lossOf L ((Y.inn i).take k)))]) (fun k => k ≤ (Y.inn i).length) (fun k => (Y.inn i).length - k) 0 ?_ ?_ ?_ ?_
      · omega
      · exact (by repeat (first | exact Sub.nil | refine Sub.cons rfl ?_))
      · exact (by repeat (first | exact List.Sublist.refl _ | exact List.nil_sublist _ | refine List.Sublist.cons_cons _ ?_ | refine List.Sublist.cons _ ?_))
      · intro k hphi
        refine T.seq ?_
        refine T.region ?_
        refine TL.yv (Wt.none rfl) rfl rfl (Yv.pur rfl) ?_
        refine TL.nil ?_
        refine K.seq ?_
        refine T.seq ?_
        refine T.cond rfl (fun h2 => ?_) (fun h2 => ?_)
        · have p2 := h2
          try simp only [decide_eq_true_eq, decide_eq_false_iff_not, Int.not_lt, Int.not_le, Bool.not_eq_true', Bool.not_eq_false', Decidable.not_not, Bool.and_eq_true, Bool.or_eq_true, Bool.and_eq_false_iff, Bool.or_eq_false_iff] at p2
          obtain ⟨g, off, rfl, hc⟩ := hslI (by omega)
          have hk := hc k (by omega)
          simp only [Ld.cells] at hk
          have hr := hrng _ (nth_mem (xs := Y.inn i) (k := k) (by omega))
          have oa := only_lt L (nth (Y.inn i) k).fr.toNat
          refine T.skip ?_
          refine K.seq ?_
          refine T.seq ?_
          refine T.block ?_
          refine T.seq ?_
          refine T.region ?_
          refine TL.yv (Wt.none rfl) rfl rfl (Yv.indexSl rfl rfl rfl rfl (by omega)) ?_
          refine TL.yv (Wt.none rfl) rfl rfl (Yv.loadAB rfl rfl hk rfl (fun h => h)) ?_
          (refine TL.ew (Wt.none rfl) rfl rfl (Ew.alloc rfl) ?_; rintro _ _ ⟨g7, rfl, rfl⟩)
          (refine TL.ew0 (Wt.none rfl) rfl (Ew.storeAll 0 rfl rfl rfl rfl rfl rfl) ?_; rintro _ _ ⟨rfl, rfl⟩)
          refine TL.nil ?_
          refine K.seq ?_
          refine T.seq ?_
          refine T.region ?_
          refine TL.yv (Wt.none rfl) rfl rfl (Yv.pur rfl) ?_
          refine TL.yv (Wt.none rfl) rfl rfl (Yv.fieldAddr rfl rfl) ?_
          refine TL.yv (Wt.none rfl) rfl rfl (Yv.loadO 0 rfl rfl rfl rfl) ?_
          (refine TL.ew (Wt.none rfl) rfl rfl (Ew.callD rfl rfl rfl (fun w hw => only_ret sp Y L c (nth (Y.inn i) k).fr.toNat _ (by omega) (by omega) w (h.kept hw))) ?_; rintro _ _ ⟨rfl, rfl⟩)
          refine TL.yv (Wt.none rfl) rfl rfl (Yv.pur rfl) ?_
          refine TL.nil ?_
          refine K.seq ?_
          refine T.seq ?_
          refine T.region ?_
          refine TL.yv (Wt.none rfl) rfl rfl (Yv.fieldAddr rfl rfl) ?_
          refine TL.yv (Wt.none rfl) rfl rfl (Yv.loadO 0 rfl rfl rfl rfl) ?_
          refine TL.yv (Wt.none rfl) rfl rfl (Yv.pur rfl) ?_
          refine TL.yv (Wt.none rfl) rfl rfl (Yv.pur rfl) ?_
          refine TL.yv (Wt.none rfl) rfl rfl (Yv.pur rfl) ?_
          refine TL.gsplit rfl rfl rfl (fun h3 => ?_) (fun h3 => ?_)
          · have p3 := h3
            try simp only [decide_eq_true_eq, decide_eq_false_iff_not, Int.not_lt, Int.not_le, Bool.not_eq_true', Bool.not_eq_false', Decidable.not_not, Bool.and_eq_true, Bool.or_eq_true, Bool.and_eq_false_iff, Bool.or_eq_false_iff] at p3
            refine TL.yv (Wt.some rfl rfl rfl h3) rfl rfl (Yv.pur rfl) ?_
            refine TL.yv (Wt.some rfl rfl rfl h3) rfl rfl (Yv.fieldAddr rfl rfl) ?_
            refine TL.yv (Wt.some rfl rfl rfl h3) rfl rfl (Yv.loadO 0 rfl rfl rfl rfl) ?_
            refine TL.yv (Wt.some rfl rfl rfl h3) rfl rfl (Yv.pur rfl) ?_
            refine TL.yv (Wt.none rfl) rfl rfl (Yv.pickT rfl rfl h3 rfl) ?_
            refine TL.nil ?_
            refine K.seq ?_
            refine T.cond rfl (fun h4 => ?_) (fun h4 => ?_)
            · have p4 := h4
              try simp only [decide_eq_true_eq, decide_eq_false_iff_not, Int.not_lt, Int.not_le, Bool.not_eq_true', Bool.not_eq_false', Decidable.not_not, Bool.and_eq_true, Bool.or_eq_true, Bool.and_eq_false_iff, Bool.or_eq_false_iff] at p4
              have hld := cells52_get (f := lossOf L ((Y.inn i).take k)) (d := only L (nth (Y.inn i) k).fr.toNat) (p := 0 + only L (nth (Y.inn i) k).fr.toNat * 1) (by omega) (by omega)
              have hbd := loss_bd (L := L) hlen hwt k (only L (nth (Y.inn i) k).fr.toNat)
              refine T.draw (.still 0 (.still 1 (.still 3 (.still 4 (.eff 2 (.still 5 (.still 6 (.eff 7 .done)))))))) (List.eraseIdx _ 1) (by kernel_rfl) (List.eraseIdx_sublist _ _) ?_
              refine TS.still rfl (Wt.none rfl) rfl rfl (Yv.pur rfl) ?_
              refine TS.still rfl (Wt.none rfl) rfl rfl (Yv.indexAr rfl rfl rfl rfl (by omega)) ?_
              refine TS.still rfl (Wt.none rfl) rfl rfl (Yv.fieldAddr rfl rfl) ?_
              refine TS.still rfl (Wt.none rfl) rfl rfl (Yv.loadO 0 rfl rfl rfl rfl) ?_
              refine TS.eff ?_
              refine TSo.yv rfl (Wt.none rfl) rfl rfl (Yv.loadO 1 rfl rfl rfl hld) (by repeat (first | exact List.Sublist.refl _ | exact List.nil_sublist _ | refine List.Sublist.cons_cons _ ?_ | refine List.Sublist.cons _ ?_)) ?_
              refine TS.still rfl (Wt.none rfl) rfl rfl (Yv.addI rfl rfl rfl (by omega)) ?_
              refine TS.still rfl (Wt.none rfl) rfl rfl (Yv.indexAr rfl rfl rfl rfl (by omega)) ?_
              refine TS.eff ?_
              (refine TSo.ew0 rfl (Wt.none rfl) rfl (Ew.storeR 1 (cells52 (lossOf L ((Y.inn i).take (k + 1)))) rfl rfl rfl rfl (by rw [cells52_len]; omega) (cells52_set (d := only L (nth (Y.inn i) k).fr.toNat) (by omega) (by omega) (by rw [loss_take (by omega), lossStep, if_pos ⟨by omega, by omega, rfl⟩]) (fun e he => by rw [loss_take (by omega), lossStep, if_neg (fun hh => he hh.2.2.symm)]))) ?_; rintro _ _ ⟨rfl, rfl⟩; refine ⟨(by repeat (first | exact List.Sublist.refl _ | exact List.nil_sublist _ | refine List.Sublist.cons_cons _ ?_ | refine List.Sublist.cons _ ?_)), ?_⟩)
              refine TS.done ?_
              refine K.blk_normal ?_
              refine K.seq ?_
              refine T.region ?_
              refine TL.yv (Wt.none rfl) rfl rfl (Yv.addI rfl rfl rfl (by omega)) ?_
              refine TL.yv (Wt.none rfl) rfl rfl (Yv.pur rfl) ?_
              refine TL.nil ?_
              exact K.next (k + 1) (by omega) (by omega) (by repeat (first | exact Sub.nil | refine Sub.cons rfl ?_)) (by repeat (first | exact List.Sublist.refl _ | exact List.nil_sublist _ | refine List.Sublist.cons_cons _ ?_ | refine List.Sublist.cons _ ?_))
            · have p4 := h4
              try simp only [decide_eq_true_eq, decide_eq_false_iff_not, Int.not_lt, Int.not_le, Bool.not_eq_true', Bool.not_eq_false', Decidable.not_not, Bool.and_eq_true, Bool.or_eq_true, Bool.and_eq_false_iff, Bool.or_eq_false_iff] at p4
              refine T.skip ?_
              refine K.blk_normal ?_
              refine K.seq ?_
              refine T.region ?_
              refine TL.yv (Wt.none rfl) rfl rfl (Yv.addI rfl rfl rfl (by omega)) ?_
              refine TL.yv (Wt.none rfl) rfl rfl (Yv.pur rfl) ?_
              refine TL.nil ?_
              exact K.next (k + 1) (by omega) (by omega) (by repeat (first | exact Sub.nil | refine Sub.cons rfl ?_)) (by rw [loss_take (by omega), show lossStep L (lossOf L ((Y.inn i).take k)) (nth (Y.inn i) k) = lossOf L ((Y.inn i).take k) from funext fun d => by unfold lossStep; exact if_neg (fun hh => absurd hh.2.1 (by omega))]; exact (by repeat (first | exact List.Sublist.refl _ | exact List.nil_sublist _ | refine List.Sublist.cons_cons _ ?_ | refine List.Sublist.cons _ ?_)))
          · have p3 := h3
            try simp only [decide_eq_true_eq, decide_eq_false_iff_not, Int.not_lt, Int.not_le, Bool.not_eq_true', Bool.not_eq_false', Decidable.not_not, Bool.and_eq_true, Bool.or_eq_true, Bool.and_eq_false_iff, Bool.or_eq_false_iff] at p3
            refine TL.off (Wt.not rfl rfl rfl h3) rfl rfl ?_
            refine TL.off (Wt.not rfl rfl rfl h3) rfl rfl ?_
            refine TL.off (Wt.not rfl rfl rfl h3) rfl rfl ?_
            refine TL.off (Wt.not rfl rfl rfl h3) rfl rfl ?_
            refine TL.yv (Wt.none rfl) rfl rfl (Yv.pickF rfl rfl h3 rfl) ?_
            refine TL.nil ?_
            refine K.seq ?_
            refine T.condF rfl rfl ?_
            refine T.skip ?_
            refine K.blk_normal ?_
            refine K.seq ?_
            refine T.region ?_
            refine TL.yv (Wt.none rfl) rfl rfl (Yv.addI rfl rfl rfl (by omega)) ?_
            refine TL.yv (Wt.none rfl) rfl rfl (Yv.pur rfl) ?_
            refine TL.nil ?_
            exact K.next (k + 1) (by omega) (by omega) (by repeat (first | exact Sub.nil | refine Sub.cons rfl ?_)) (by rw [loss_take (by omega), show lossStep L (lossOf L ((Y.inn i).take k)) (nth (Y.inn i) k) = lossOf L ((Y.inn i).take k) from funext fun d => by unfold lossStep; exact if_neg (fun hh => absurd hh.1 (by omega))]; exact (by repeat (first | exact List.Sublist.refl _ | exact List.nil_sublist _ | refine List.Sublist.cons_cons _ ?_ | refine List.Sublist.cons _ ?_)))
        · have p2 := h2
          try simp only [decide_eq_true_eq, decide_eq_false_iff_not, Int.not_lt, Int.not_le, Bool.not_eq_true', Bool.not_eq_false', Decidable.not_not, Bool.and_eq_true, Bool.or_eq_true, Bool.and_eq_false_iff, Bool.or_eq_false_iff] at p2
          refine T.exit ?_
          refine K.then_exit ?_
          refine K.then_exit ?_
          refine K.blk_exit_eq ?_
          exact K.at (by repeat (first | exact Sub.nil | refine Sub.cons rfl ?_)) (by rw [show (Y.inn i).take k = Y.inn i from List.take_of_length_le (by omega)]; exact (by repeat (first | exact List.Sublist.refl _ | exact List.nil_sublist _ | refine List.Sublist.cons_cons _ ?_ | refine List.Sublist.cons _ ?_)))
    · skip
      refine T.seq ?_
      refine T.region ?_
      refine TL.yv (Wt.none rfl) rfl rfl (Yv.pur rfl) ?_
      refine TL.nil ?_
      refine K.seq ?_
      refine T.seq ?_
      refine T.seq ?_
      refine T.region ?_
      refine TL.yv (Wt.none rfl) rfl rfl (Yv.pur rfl) ?_
      refine TL.yv (Wt.none rfl) rfl rfl (Yv.pur rfl) ?_
      refine TL.yv (Wt.none rfl) rfl rfl (Yv.fieldAddr rfl rfl) ?_
      refine TL.yv (Wt.none rfl) rfl rfl (Yv.loadB rfl rfl hsp0 (fun h => h)) ?_
      refine TL.yv (Wt.none rfl) rfl rfl (Yv.pur rfl) ?_
      refine TL.yv (Wt.none rfl) rfl rfl (Yv.fieldAddr rfl rfl) ?_
      refine TL.yv (Wt.none rfl) rfl rfl (Yv.loadB rfl rfl hC0 (fun h => h)) ?_
      refine TL.yv (Wt.none rfl) rfl rfl (Yv.pur rfl) ?_
      refine TL.yv (Wt.none rfl) rfl rfl (Yv.indexSl rfl rfl rfl rfl (by omega)) ?_
      refine TL.yv (Wt.none rfl) rfl rfl (Yv.loadC (j := 0) rfl rfl hCi rfl rfl (fun h => h)) ?_
      refine TL.yv (Wt.none rfl) rfl rfl (Yv.lenSl rfl rfl) ?_
      refine TL.yv (Wt.none rfl) rfl rfl (Yv.pur rfl) ?_
      refine TL.nil ?_
      refine K.seq ?_
      refine T.block ?_
      refine T.loop (ι := Nat) (fun k => [(0, .pointer (some ⟨sp, 0, none⟩)), (1, .int .i64 (i : Int)), (5, .pointer (some ⟨g5, 0, none⟩)), (9, U (((Y.cs i).take k).foldl (capStep (lossOf L (Y.inn i))) 0#64)), (71, .slice BC (Y.cs i).length cpC), (72, .int .i64 ((Y.cs i).length : Int)), (73, .int .i64 (k : Int))]) (fun k => [.row g5 156 (cells52 (lossOf L (Y.inn i)))]) (fun k => k ≤ (Y.cs i).length) (fun k => (Y.cs i).length - k) 0 ?_ ?_ ?_ ?_
      · omega
      · exact (by repeat (first | exact Sub.nil | refine Sub.cons rfl ?_))
      · exact (by repeat (first | exact List.Sublist.refl _ | exact List.nil_sublist _ | refine List.Sublist.cons_cons _ ?_ | refine List.Sublist.cons _ ?_))
      · intro k hphi
        refine T.seq ?_
        refine T.region ?_
        refine TL.yv (Wt.none rfl) rfl rfl (Yv.pur rfl) ?_
        refine TL.nil ?_
        refine K.seq ?_
        refine T.seq ?_
        refine T.cond rfl (fun h5 => ?_) (fun h5 => ?_)
        · have p5 := h5
          try simp only [decide_eq_true_eq, decide_eq_false_iff_not, Int.not_lt, Int.not_le, Bool.not_eq_true', Bool.not_eq_false', Decidable.not_not, Bool.and_eq_true, Bool.or_eq_true, Bool.and_eq_false_iff, Bool.or_eq_false_iff] at p5
          obtain ⟨g, off, rfl, hc⟩ := hslC (by omega)
          have hk := hc k (by omega)
          simp only [Cp.cells] at hk
          have hr := hrngC _ (nth_mem (xs := Y.cs i) (k := k) (by omega))
          refine T.skip ?_
          refine K.seq ?_
          refine T.cut (gs := [(0, .pointer (some ⟨sp, 0, none⟩)), (1, .int .i64 (i : Int)), (5, .pointer (some ⟨g5, 0, none⟩)), (9, U (((Y.cs i).take (k + 1)).foldl (capStep (lossOf L (Y.inn i))) 0#64)), (71, .slice (some ⟨g, off, none⟩) (Y.cs i).length cpC), (72, .int .i64 ((Y.cs i).length : Int)), (73, .int .i64 (k : Int))]) (hs' := [.row g5 156 (cells52 (lossOf L (Y.inn i)))]) ?_ ?_
          · skip
            refine T.block ?_
            refine T.seq ?_
            refine T.region ?_
            refine TL.yv (Wt.none rfl) rfl rfl (Yv.indexSl rfl rfl rfl rfl (by omega)) ?_
            refine TL.yv (Wt.none rfl) rfl rfl (Yv.loadAB rfl rfl hk rfl (fun h => h)) ?_
            (refine TL.ew (Wt.none rfl) rfl rfl (Ew.alloc rfl) ?_; rintro _ _ ⟨g11, rfl, rfl⟩)
            (refine TL.ew0 (Wt.none rfl) rfl (Ew.storeAll 0 rfl rfl rfl rfl rfl rfl) ?_; rintro _ _ ⟨rfl, rfl⟩)
            refine TL.nil ?_
            refine K.seq ?_
            refine T.seq ?_
            refine T.region ?_
            refine TL.yv (Wt.none rfl) rfl rfl (Yv.fieldAddr rfl rfl) ?_
            refine TL.yv (Wt.none rfl) rfl rfl (Yv.loadO 0 rfl rfl rfl rfl) ?_
            refine TL.yv (Wt.none rfl) rfl rfl (Yv.pur rfl) ?_
            refine TL.nil ?_
            refine K.seq ?_
            refine T.block ?_
            refine T.loop (ι := Nat) (fun j => [(0, .pointer (some ⟨sp, 0, none⟩)), (1, .int .i64 (i : Int)), (5, .pointer (some ⟨g5, 0, none⟩)), (9, U ((List.range' (nth (Y.cs i) k).lo.toNat j).foldl (capBit (lossOf L (Y.inn i)) (nth (Y.cs i) k).mx) (((Y.cs i).take k).foldl (capStep (lossOf L (Y.inn i))) 0#64))), (11, .pointer (some ⟨g11, 0, none⟩)), (12, .int .i64 ((nth (Y.cs i) k).lo + (j : Int))), (71, .slice (some ⟨g, off, none⟩) (Y.cs i).length cpC), (72, .int .i64 ((Y.cs i).length : Int)), (73, .int .i64 (k : Int))]) (fun j => [.row g11 88 [.int .i64 (nth (Y.cs i) k).st, .int .i64 (nth (Y.cs i) k).mx, .int .i64 (nth (Y.cs i) k).lo, .int .i64 (nth (Y.cs i) k).hi], .row g5 156 (cells52 (lossOf L (Y.inn i)))]) (fun j => (nth (Y.cs i) k).lo + (j : Int) ≤ (nth (Y.cs i) k).hi + 1) (fun j => ((nth (Y.cs i) k).hi + 1 - (nth (Y.cs i) k).lo).toNat - j) 0 ?_ ?_ ?_ ?_
            · omega
            · exact (by repeat (first | exact Sub.nil | refine Sub.cons rfl ?_ | (refine Sub.consI rfl (by omega) ?_)))
            · exact (by repeat (first | exact List.Sublist.refl _ | exact List.nil_sublist _ | refine List.Sublist.cons_cons _ ?_ | refine List.Sublist.cons _ ?_))
            · intro j hphi
              refine T.seq ?_
              refine T.seq ?_
              refine T.region ?_
              refine TL.yv (Wt.none rfl) rfl rfl (Yv.pur rfl) ?_
              refine TL.yv (Wt.none rfl) rfl rfl (Yv.fieldAddr rfl rfl) ?_
              refine TL.yv (Wt.none rfl) rfl rfl (Yv.loadO 0 rfl rfl rfl rfl) ?_
              refine TL.yv (Wt.none rfl) rfl rfl (Yv.pur rfl) ?_
              refine TL.nil ?_
              refine K.seq ?_
              refine T.cond rfl (fun h6 => ?_) (fun h6 => ?_)
              · have p6 := h6
                try simp only [decide_eq_true_eq, decide_eq_false_iff_not, Int.not_lt, Int.not_le, Bool.not_eq_true', Bool.not_eq_false', Decidable.not_not, Bool.and_eq_true, Bool.or_eq_true, Bool.and_eq_false_iff, Bool.or_eq_false_iff] at p6
                have hld := cells52_get (f := lossOf L (Y.inn i)) (d := (nth (Y.cs i) k).lo.toNat + j) (p := 0 + ((nth (Y.cs i) k).lo.toNat + j) * 1) (by omega) (by omega)
                refine T.skip ?_
                refine K.seq ?_
                refine T.seq ?_
                refine T.block ?_
                refine T.seq ?_
                refine T.draw (.still 0 (.still 1 (.still 2 (.still 3 (.still 4 (.still 5 .done)))))) _ (by kernel_rfl) (List.Sublist.refl _) ?_
                refine TS.still rfl (Wt.none rfl) rfl rfl (Yv.pur rfl) ?_
                refine TS.still rfl (Wt.none rfl) rfl rfl (Yv.indexAr rfl rfl rfl (show (_ : Int) = (((nth (Y.cs i) k).lo.toNat + j : Nat) : Int) from by omega) (by omega)) ?_
                refine TS.still rfl (Wt.none rfl) rfl rfl (Yv.loadO 1 rfl rfl rfl hld) ?_
                refine TS.still rfl (Wt.none rfl) rfl rfl (Yv.fieldAddr rfl rfl) ?_
                refine TS.still rfl (Wt.none rfl) rfl rfl (Yv.loadO 0 rfl rfl rfl rfl) ?_
                refine TS.still rfl (Wt.none rfl) rfl rfl (Yv.pur rfl) ?_
                refine TS.done ?_
                refine K.seq ?_
                refine T.cond rfl (fun h7 => ?_) (fun h7 => ?_)
                · have p7 := h7
                  try simp only [decide_eq_true_eq, decide_eq_false_iff_not, Int.not_lt, Int.not_le, Bool.not_eq_true', Bool.not_eq_false', Decidable.not_not, Bool.and_eq_true, Bool.or_eq_true, Bool.and_eq_false_iff, Bool.or_eq_false_iff] at p7
                  refine T.region ?_
                  refine TL.yv (Wt.none rfl) rfl rfl (Yv.pur rfl) ?_
                  refine TL.yv (Wt.none rfl) rfl rfl (Yv.pur rfl) ?_
                  refine TL.yv (Wt.none rfl) rfl rfl (Yv.shlV (a := 1#64) ((nth (Y.cs i) k).lo.toNat + j) rfl rfl rfl (by omega) (by omega)) ?_
                  refine TL.yv (Wt.none rfl) rfl rfl (Yv.orV rfl rfl rfl) ?_
                  refine TL.yv (Wt.none rfl) rfl rfl (Yv.pur rfl) ?_
                  refine TL.nil ?_
                  refine K.blk_normal ?_
                  refine K.seq ?_
                  refine T.region ?_
                  refine TL.yv (Wt.none rfl) rfl rfl (Yv.pur rfl) ?_
                  refine TL.yv (Wt.none rfl) rfl rfl (Yv.addI rfl rfl rfl (by omega)) ?_
                  refine TL.yv (Wt.none rfl) rfl rfl (Yv.pur rfl) ?_
                  refine TL.nil ?_
                  exact K.next (j + 1) (by omega) (by omega) (by rw [List.range'_1_concat, List.foldl_append]; simp only [List.foldl_cons, List.foldl_nil]; rw [capBit, if_pos (by omega)]; repeat (first | exact Sub.nil | refine Sub.cons rfl ?_ | (refine Sub.consI rfl (by omega) ?_))) (by repeat (first | exact List.Sublist.refl _ | exact List.nil_sublist _ | refine List.Sublist.cons_cons _ ?_ | refine List.Sublist.cons _ ?_))
                · have p7 := h7
                  try simp only [decide_eq_true_eq, decide_eq_false_iff_not, Int.not_lt, Int.not_le, Bool.not_eq_true', Bool.not_eq_false', Decidable.not_not, Bool.and_eq_true, Bool.or_eq_true, Bool.and_eq_false_iff, Bool.or_eq_false_iff] at p7
                  refine T.skip ?_
                  refine K.blk_normal ?_
                  refine K.seq ?_
                  refine T.region ?_
                  refine TL.yv (Wt.none rfl) rfl rfl (Yv.pur rfl) ?_
                  refine TL.yv (Wt.none rfl) rfl rfl (Yv.addI rfl rfl rfl (by omega)) ?_
                  refine TL.yv (Wt.none rfl) rfl rfl (Yv.pur rfl) ?_
                  refine TL.nil ?_
                  exact K.next (j + 1) (by omega) (by omega) (by rw [List.range'_1_concat, List.foldl_append]; simp only [List.foldl_cons, List.foldl_nil]; rw [capBit, if_neg (by omega)]; repeat (first | exact Sub.nil | refine Sub.cons rfl ?_ | (refine Sub.consI rfl (by omega) ?_))) (by repeat (first | exact List.Sublist.refl _ | exact List.nil_sublist _ | refine List.Sublist.cons_cons _ ?_ | refine List.Sublist.cons _ ?_))
              · have p6 := h6
                try simp only [decide_eq_true_eq, decide_eq_false_iff_not, Int.not_lt, Int.not_le, Bool.not_eq_true', Bool.not_eq_false', Decidable.not_not, Bool.and_eq_true, Bool.or_eq_true, Bool.and_eq_false_iff, Bool.or_eq_false_iff] at p6
                refine T.exit ?_
                refine K.then_exit ?_
                refine K.then_exit ?_
                refine K.blk_exit_eq ?_
                refine K.blk_normal ?_
                exact K.at (by rw [foldl_take _ _ (by omega), capStep, show (nth (Y.cs i) k).hi.toNat + 1 - (nth (Y.cs i) k).lo.toNat = j by omega]; exact (by repeat (first | exact Sub.nil | refine Sub.cons rfl ?_))) (by repeat (first | exact List.Sublist.refl _ | exact List.nil_sublist _ | refine List.Sublist.cons_cons _ ?_ | refine List.Sublist.cons _ ?_))
          · skip
            refine T.region ?_
            refine TL.yv (Wt.none rfl) rfl rfl (Yv.addI rfl rfl rfl (by omega)) ?_
            refine TL.yv (Wt.none rfl) rfl rfl (Yv.pur rfl) ?_
            refine TL.nil ?_
            exact K.next (k + 1) (by omega) (by omega) (by repeat (first | exact Sub.nil | refine Sub.cons rfl ?_)) (by repeat (first | exact List.Sublist.refl _ | exact List.nil_sublist _ | refine List.Sublist.cons_cons _ ?_ | refine List.Sublist.cons _ ?_))
        · have p5 := h5
          try simp only [decide_eq_true_eq, decide_eq_false_iff_not, Int.not_lt, Int.not_le, Bool.not_eq_true', Bool.not_eq_false', Decidable.not_not, Bool.and_eq_true, Bool.or_eq_true, Bool.and_eq_false_iff, Bool.or_eq_false_iff] at p5
          refine T.exit ?_
          refine K.then_exit ?_
          refine K.then_exit ?_
          refine K.blk_exit_eq ?_
          refine K.seq ?_
          refine T.seq ?_
          refine T.region ?_
          refine TL.yv (Wt.none rfl) rfl rfl (Yv.pur rfl) ?_
          refine TL.yv (Wt.none rfl) rfl rfl (Yv.pur rfl) ?_
          refine TL.nil ?_
          refine K.seq ?_
          refine T.ret ?_
          exact K.ret1 rfl rfl (fun w' hw => ⟨by rw [capsF, List.take_of_length_le (by omega)], hw.isBelow⟩)
end Go.Proofs.YtljgejbmimapdaaDoor
