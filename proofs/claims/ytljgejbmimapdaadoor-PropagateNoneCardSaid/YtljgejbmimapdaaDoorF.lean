/- Tables and states. -/
import Derived.Test.YtljgejbmimapdaaDoorE
set_option maxRecDepth 100000
set_option maxHeartbeats 4000000
set_option linter.unusedSimpArgs false
set_option linter.unusedVariables false
set_option linter.unusedSectionVars false
namespace Go.Proofs.YtljgejbmimapdaaDoor
open Go.RowKit

/-- The tables of a problem: the lists, and the values that hold them. -/
structure Tb where
  st : List Int
  ix : Nat → Int
  total : Int
  vps : List Value
  ps : Nat → List Pr
  vcs : List Value
  cs : Nat → List Cp
  vin : List Value
  inn : Nat → List Ld
  vout : List Value
  out : Nat → List Ld
abbrev Tb.n (T : Tb) : Nat := T.st.length
/-- A list of lists. -/
structure Lists {α : Type} (w : World) (p : Addr) (enc : α → List Value) (size : Nat) (vs : List Value) (n : Nat) (f : Nat → List α) : Prop where
  at' : ∃ v, w.cell? p = some v ∧ SlOf w v (fun u => [u]) 1 vs
  len : vs.length = n
  each : ∀ i, i < n → SlOf w (nth vs i) enc size (f i)
structure TablesAt (w : World) (tp : Nat) (T : Tb) : Prop where
  st : ∃ v, w.cell? ⟨tp, 0, none⟩ = some v ∧ IntsAt w v T.st
  ix : ∀ j, j < 512 → w.cell? ⟨tp, 1 + j, none⟩ = some (.int .i64 (T.ix j))
  total : w.cell? ⟨tp, 513, none⟩ = some (.int .i64 T.total)
  ps : Lists w ⟨tp, 514, none⟩ Pr.cells 5 T.vps T.n T.ps
  cs : Lists w ⟨tp, 515, none⟩ Cp.cells 4 T.vcs T.n T.cs
  inn : Lists w ⟨tp, 516, none⟩ Ld.cells 5 T.vin T.n T.inn
  out : Lists w ⟨tp, 517, none⟩ Ld.cells 5 T.vout T.n T.out
/-- The lists are in range. -/
structure Tb.Ok (T : Tb) : Prop where
  n : T.n ≤ 512
  ps : ∀ i, i < T.n → (T.ps i).length ≤ 4096 ∧ ∀ x ∈ T.ps i, 0 ≤ x.a ∧ x.a < T.n ∧ 0 ≤ x.b ∧ x.b < T.n ∧ -1 ≤ x.off ∧ x.off ≤ 1 ∧ 2 ≤ x.lo ∧ x.lo ≤ x.hi ∧ x.hi ≤ 51 ∧ (x.a = i ∨ x.b = i)
  cs : ∀ i, i < T.n → (T.cs i).length ≤ 1024 ∧ ∀ x ∈ T.cs i, 0 ≤ x.mx ∧ x.mx ≤ 1099511627776 ∧ 2 ≤ x.lo ∧ x.lo ≤ x.hi ∧ x.hi ≤ 51
  inn : ∀ i, i < T.n → (T.inn i).length ≤ 1024 ∧ ∀ x ∈ T.inn i, x.to = i ∧ 0 ≤ x.fr ∧ x.fr < T.n ∧ 1 ≤ x.wt ∧ x.wt ≤ 1073741824 ∧ 2 ≤ x.lo ∧ x.lo ≤ x.hi ∧ x.hi ≤ 51
  psS : ∀ i, i < T.n → ∀ x ∈ T.ps i, x.a ≠ x.b ∧ x ∈ T.ps x.a.toNat ∧ x ∈ T.ps x.b.toNat
  innS : ∀ i, i < T.n → ∀ x ∈ T.inn i, x.to ≠ x.fr ∧ x ∈ T.out x.fr.toNat
  outS : ∀ i, i < T.n → ∀ x ∈ T.out i, x.to ≠ x.fr ∧ x ∈ T.inn x.to.toNat
  out : ∀ i, i < T.n → (T.out i).length ≤ 1024 ∧ ∀ x ∈ T.out i, x.fr = i ∧ 0 ≤ x.to ∧ x.to < T.n ∧ 1 ≤ x.wt ∧ x.wt ≤ 1073741824 ∧ 2 ≤ x.lo ∧ x.lo ≤ x.hi ∧ x.hi ≤ 51
/-- A block of cells. -/
def IsC (w : World) (g : Nat) : Prop := ∃ cs t p, w.heap[g]? = some (.cells cs t p)
/-- The blocks of cells of w0 stay. -/
def Fz (w0 w : World) : Prop := ∀ g, IsC w0 g → w.heap[g]? = w0.heap[g]?
theorem cell_isC {w : World} {p : Addr} {v : Value} (h : w.cell? p = some v) : IsC w p.block := by
  unfold World.cell? at h
  split at h
  · rename_i hh; exact ⟨_, _, _, hh⟩
  · cases h
theorem Fz.cell {w w' : World} (hb : Fz w w') {p : Addr} {v : Value} (h : w.cell? p = some v) : w'.cell? p = some v := (World.cell?_of_block (w := w) (hb _ (cell_isC h))).trans h
theorem Fz.cs {w w' : World} (hb : Fz w w') {g p : Nat} {l : List Value} (h : Cs w g p l) : Cs w' g p l := fun j hj => by
  have := h j hj
  rw [List.getElem?_eq_getElem hj] at this ⊢
  exact hb.cell this
theorem Cs.isC {w : World} {g p : Nat} {l : List Value} (h : Cs w g p l) (hl : 0 < l.length) : IsC w g := by
  have := h 0 hl
  rw [List.getElem?_eq_getElem hl] at this
  exact cell_isC this
theorem Fz.sl {α : Type} {w w' : World} (hb : Fz w w') {v : Value} {enc : α → List Value} {size : Nat} {xs : List α} (h : SlOf w v enc size xs) : SlOf w' v enc size xs := by
  obtain ⟨A, cap, rfl, hc⟩ := h
  refine ⟨A, cap, rfl, fun hp => ?_⟩
  obtain ⟨g, off, rfl, hcs⟩ := hc hp
  exact ⟨g, off, rfl, fun i hi => hb.cs (hcs i hi)⟩
theorem Fz.of_below {w w' : World} (hb : Below w.heap.size w w') : Fz w w' := fun g ⟨cs, t, p, h⟩ => hb.block g (Array.getElem?_eq_some_iff.1 h).1
theorem Fz.hp {w0 w w' : World} {M : Nat → Prop} {hs : HS} (h : Fz w0 w) (hw : Hp w M hs w') (h0 : ∀ g, M g → ¬ IsC w0 g) : Fz w0 w' := fun g hg => by
  have h1 := h g hg
  obtain ⟨cs, t, p, e⟩ := hg
  rw [← h1]
  refine hw.base g ?_ (fun hm => h0 g hm ⟨cs, t, p, e⟩)
  rw [e] at h1
  exact (Array.getElem?_eq_some_iff.1 h1).1
theorem Lists.later {α : Type} {w w' : World} (hb : Fz w w') {p : Addr} {enc : α → List Value} {size : Nat} {vs : List Value} {n : Nat} {f : Nat → List α} (h : Lists w p enc size vs n f) : Lists w' p enc size vs n f :=
  ⟨by obtain ⟨v, h1, h2⟩ := h.at'; exact ⟨v, hb.cell h1, hb.sl h2⟩, h.len, fun i hi => hb.sl (h.each i hi)⟩
theorem TablesAt.later {w w' : World} (hb : Fz w w') {tp : Nat} {T : Tb} (h : TablesAt w tp T) : TablesAt w' tp T :=
  ⟨by obtain ⟨v, h1, h2⟩ := h.st; exact ⟨v, hb.cell h1, hb.sl h2⟩, fun j hj => hb.cell (h.ix j hj), hb.cell h.total, h.ps.later hb, h.cs.later hb, h.inn.later hb, h.out.later hb⟩
def Le (b : BitVec 64) : List Value := [U b]
/-- A state: where its parts lie. -/
structure StateAt (w : World) (sp : Nat) (T : Tb) (L : Ws) (c : Bool) : Prop where
  tab : Tab w
  tb : ∃ tp, w.cell? ⟨sp, 0, none⟩ = some (.pointer (some ⟨tp, 0, none⟩)) ∧ TablesAt w tp T
  left : ∃ v, w.cell? ⟨sp, 1, none⟩ = some v ∧ SlOf w v Le 1 L
  len : L.length = T.n
  con : w.cell? ⟨sp, 2, none⟩ = some (.bool c)
theorem StateAt.later {w w' : World} (hb : Below w.heap.size w w') {sp : Nat} {T : Tb} {L : Ws} {c : Bool} (h : StateAt w sp T L c) : StateAt w' sp T L c :=
  have hf := Fz.of_below hb
  ⟨h.tab.keptF (Hp.of_below hb), by obtain ⟨tp, h1, h2⟩ := h.tb; exact ⟨tp, hf.cell h1, h2.later hf⟩, by obtain ⟨v, h1, h2⟩ := h.left; exact ⟨v, hf.cell h1, hf.sl h2⟩, h.len, hf.cell h.con⟩
theorem StateAt.kept {B w : World} {hs : HS} {sp : Nat} {T : Tb} {L : Ws} {c : Bool} (hw : Hp B (fun _ => False) hs w) (h : StateAt B sp T L c) : StateAt w sp T L c := h.later ⟨hw.os, hw.tape, hw.output, hw.size, fun k hk => hw.base k hk (fun h => h)⟩
/-- The single channel, or 0. -/
def onlyB (b : BitVec 64) : Nat := if b ≠ 0#64 ∧ b &&& (b - 1#64) = 0#64 then ctz b else 0
def only (L : Ws) (i : Nat) : Nat := onlyB (nth L i)
theorem onlyB_lt (b : BitVec 64) : onlyB b < 64 := by
  unfold onlyB; split
  · rename_i h; exact ctz_lt h.1
  · decide
theorem only_lt (L : Ws) (i : Nat) : only L i < 64 := onlyB_lt _
def pairStep (L : Ws) (i : Nat) (g : BitVec 64) (x : Pr) : BitVec 64 :=
  if x.a = (i : Int) then
    if (only L x.b.toNat : Int) ≠ 0 ∧ x.lo ≤ (only L x.b.toNat : Int) - x.off ∧ (only L x.b.toNat : Int) - x.off ≤ x.hi then g ||| 1#64 <<< ((only L x.b.toNat : Int) - x.off).toNat else g
  else if x.lo ≤ (only L x.a.toNat : Int) ∧ (only L x.a.toNat : Int) ≤ x.hi then g ||| 1#64 <<< ((only L x.a.toNat : Int) + x.off).toNat else g
def pairsF (T : Tb) (L : Ws) (i : Nat) : BitVec 64 := (T.ps i).foldl (pairStep L i) 0#64
theorem foldl_take {α β : Type} [Inhabited α] (f : β → α → β) (z : β) {l : List α} {k : Nat} (h : k < l.length) : (l.take (k + 1)).foldl f z = f ((l.take k).foldl f z) (nth l k) := by
  rw [List.take_succ_eq_append_getElem h, nth_eq h, List.foldl_append]; rfl


theorem only_yes {b : BitVec 64} (h1 : ¬ (b.toNat : Int) = 0) (h2 : ((b &&& (b - 1#64)).toNat : Int) = 0) : onlyB b = ctz b := by
  unfold onlyB
  rw [if_pos ⟨by rintro rfl; exact h1 rfl, BitVec.eq_of_toNat_eq (by show _ = 0; omega)⟩]
theorem only_no {b : BitVec 64} (h2 : ¬ ((b &&& (b - 1#64)).toNat : Int) = 0) : onlyB b = 0 := by
  unfold onlyB
  rw [if_neg (fun h => h2 (by rw [h.2]; rfl))]
theorem only_no0 {b : BitVec 64} (h1 : (b.toNat : Int) = 0) : onlyB b = 0 := by
  unfold onlyB
  rw [if_neg (fun h => h.1 (BitVec.eq_of_toNat_eq (by show _ = 0; omega)))]

theorem only_ret (sp : Nat) (Y : Tb) (L : Ws) (c : Bool) (i : Nat) (z : Int) (hz : z = (i : Int)) (hi : i < Y.n) (w : World) (h : StateAt w sp Y L c) : Calls Tryd.prog 49 #[.pointer (some ⟨sp, 0, none⟩), .int .i64 z] w fun e w' => e = .returned (.int .i64 (only L i : Int)) ∧ Below w.heap.size w w' := by
  subst hz
  obtain ⟨tp, hsp0, hT⟩ := h.tb
  obtain ⟨vL, hsp1, hL⟩ := h.left
  obtain ⟨AL, capL, rfl, hLs⟩ := hL.op
  have hLn := h.len
  obtain ⟨gL, oL, rfl, hc⟩ := hLs (by omega)
  have hk := hc i (by omega)
  simp only [Le] at hk
  refine calls_T (M := fun _ => False) (hs := []) Tryd.func49 rfl rfl rfl (Hp.refl _ _) ?_
  refine T.seq ?_
  refine T.region ?_
  refine TL.yv (Wt.none rfl) rfl rfl (Yv.pur rfl) ?_
  refine TL.nil ?_
  refine K.seq ?_
  refine T.seq ?_
  refine T.seq ?_
  refine T.region ?_
  refine TL.yv (Wt.none rfl) rfl rfl (Yv.pur rfl) ?_
  refine TL.yv (Wt.none rfl) rfl rfl (Yv.pur rfl) ?_
  refine TL.yv (Wt.none rfl) rfl rfl (Yv.fieldAddr rfl rfl) ?_
  refine TL.yv (Wt.none rfl) rfl rfl (Yv.loadB rfl rfl (by assumption) (fun h => h)) ?_
  refine TL.yv (Wt.none rfl) rfl rfl (Yv.pur rfl) ?_
  refine TL.yv (Wt.none rfl) rfl rfl (Yv.indexSl rfl rfl rfl rfl (by omega)) ?_
  refine TL.yv (Wt.none rfl) rfl rfl (Yv.loadC (j := 0) rfl rfl hk rfl rfl (fun h => h)) ?_
  refine TL.yv (Wt.none rfl) rfl rfl (Yv.pur rfl) ?_
  refine TL.nil ?_
  refine K.seq ?_
  refine T.seq ?_
  refine T.region ?_
  refine TL.yv (Wt.none rfl) rfl rfl (Yv.pur rfl) ?_
  refine TL.yv (Wt.none rfl) rfl rfl (Yv.pur rfl) ?_
  refine TL.yv (Wt.none rfl) rfl rfl (Yv.pur rfl) ?_
  refine TL.gsplit rfl rfl rfl (fun h1 => ?_) (fun h1 => ?_)
  · have p1 := h1
    try simp only [decide_eq_true_eq, decide_eq_false_iff_not, Int.not_lt, Int.not_le, Bool.not_eq_true', Bool.not_eq_false', Decidable.not_not, Bool.and_eq_true, Bool.or_eq_true, Bool.and_eq_false_iff, Bool.or_eq_false_iff] at p1
    refine TL.yv (Wt.some rfl rfl rfl h1) rfl rfl (Yv.pur rfl) ?_
    refine TL.yv (Wt.some rfl rfl rfl h1) rfl rfl (Yv.pur rfl) ?_
    refine TL.yv (Wt.some rfl rfl rfl h1) rfl rfl (Yv.subV (b := 1#64) rfl rfl rfl) ?_
    refine TL.yv (Wt.some rfl rfl rfl h1) rfl rfl (Yv.andV rfl rfl rfl) ?_
    refine TL.yv (Wt.some rfl rfl rfl h1) rfl rfl (Yv.pur rfl) ?_
    refine TL.yv (Wt.none rfl) rfl rfl (Yv.pickT rfl rfl h1 rfl) ?_
    refine TL.nil ?_
    refine K.seq ?_
    refine T.cond rfl (fun h2 => ?_) (fun h2 => ?_)
    · have p2 := h2
      try simp only [decide_eq_true_eq, decide_eq_false_iff_not, Int.not_lt, Int.not_le, Bool.not_eq_true', Bool.not_eq_false', Decidable.not_not, Bool.and_eq_true, Bool.or_eq_true, Bool.and_eq_false_iff, Bool.or_eq_false_iff] at p2
      have hne : nth L i ≠ 0#64 := by intro hh; rw [hh] at p1; exact p1 rfl
      refine T.seq ?_
      refine T.region ?_
      refine TL.yv (Wt.none rfl) rfl rfl (Yv.pur rfl) ?_
      (refine TL.ew (Wt.none rfl) rfl rfl (Ew.callD rfl rfl rfl (fun w hw => tz_ret _ hne w (h.tab.keptF hw))) ?_; rintro _ _ ⟨rfl, rfl⟩)
      refine TL.yv (Wt.none rfl) rfl rfl (Yv.pur rfl) ?_
      refine TL.nil ?_
      refine K.seq ?_
      refine T.ret ?_
      refine K.then_ret ?_
      exact K.ret1 rfl rfl (fun w' hw => ⟨ret_int (by rw [only, only_yes p1 p2]), hw.isBelow⟩)
    · have p2 := h2
      try simp only [decide_eq_true_eq, decide_eq_false_iff_not, Int.not_lt, Int.not_le, Bool.not_eq_true', Bool.not_eq_false', Decidable.not_not, Bool.and_eq_true, Bool.or_eq_true, Bool.and_eq_false_iff, Bool.or_eq_false_iff] at p2
      refine T.skip ?_
      refine K.seq ?_
      refine T.seq ?_
      refine T.region ?_
      refine TL.yv (Wt.none rfl) rfl rfl (Yv.pur rfl) ?_
      refine TL.nil ?_
      refine K.seq ?_
      refine T.ret ?_
      exact K.ret1 rfl rfl (fun w' hw => ⟨ret_int (by rw [only, only_no p2]; rfl), hw.isBelow⟩)
  · have p1 := h1
    try simp only [decide_eq_true_eq, decide_eq_false_iff_not, Int.not_lt, Int.not_le, Bool.not_eq_true', Bool.not_eq_false', Decidable.not_not, Bool.and_eq_true, Bool.or_eq_true, Bool.and_eq_false_iff, Bool.or_eq_false_iff] at p1
    refine TL.off (Wt.not rfl rfl rfl h1) rfl rfl ?_
    refine TL.off (Wt.not rfl rfl rfl h1) rfl rfl ?_
    refine TL.off (Wt.not rfl rfl rfl h1) rfl rfl ?_
    refine TL.off (Wt.not rfl rfl rfl h1) rfl rfl ?_
    refine TL.off (Wt.not rfl rfl rfl h1) rfl rfl ?_
    refine TL.yv (Wt.none rfl) rfl rfl (Yv.pickF rfl rfl h1 rfl) ?_
    refine TL.nil ?_
    refine K.seq ?_
    refine T.condF rfl rfl ?_
    refine T.skip ?_
    refine K.seq ?_
    refine T.seq ?_
    refine T.region ?_
    refine TL.yv (Wt.none rfl) rfl rfl (Yv.pur rfl) ?_
    refine TL.nil ?_
    refine K.seq ?_
    refine T.ret ?_
    exact K.ret1 rfl rfl (fun w' hw => ⟨ret_int (by rw [only, only_no0 p1]; rfl), hw.isBelow⟩)
theorem pairsOf_ret (sp : Nat) (Y : Tb) (L : Ws) (c : Bool) (i : Nat) (z : Int) (hz : z = (i : Int)) (hi : i < Y.n) (w : World) (h : StateAt w sp Y L c) (hok : Y.Ok) : Calls Tryd.prog 79 #[.pointer (some ⟨sp, 0, none⟩), .int .i64 z] w fun e w' => e = .returned (U (pairsF Y L i)) ∧ Below w.heap.size w w' := by
  subst hz
  obtain ⟨tp, hsp0, hT⟩ := h.tb
  obtain ⟨vL, hsp1, hL⟩ := h.left
  obtain ⟨AL, capL, rfl, hLs⟩ := hL.op
  have hLn := h.len
  obtain ⟨vP, hP0, hP⟩ := hT.ps.at'
  obtain ⟨AP, capP, rfl, hPs⟩ := hP.op
  have hPn := hT.ps.len
  obtain ⟨gP, oP, rfl, hPc⟩ := hPs (by omega)
  rw [hPn] at hP0
  have hPi := hPc i (by rw [hPn]; exact hi)
  obtain ⟨BP, cpP, hvP, hslP⟩ := (hT.ps.each i hi).op
  simp only [hvP] at hPi
  obtain ⟨hlen, hrng⟩ := hok.ps i hi
  have hn512 := hok.n
  refine calls_T (M := fun _ => False) (hs := []) Tryd.func79 rfl rfl rfl (Hp.refl _ _) ?_
  refine T.seq ?_
  refine T.region ?_
  refine TL.yv (Wt.none rfl) rfl rfl (Yv.pur rfl) ?_
  refine TL.nil ?_
  refine K.seq ?_
  refine T.seq ?_
  refine T.region ?_
  refine TL.yv (Wt.none rfl) rfl rfl (Yv.pur rfl) ?_
  refine TL.nil ?_
  refine K.seq ?_
  refine T.seq ?_
  refine T.seq ?_
  refine T.region ?_
  refine TL.yv (Wt.none rfl) rfl rfl (Yv.pur rfl) ?_
  refine TL.yv (Wt.none rfl) rfl rfl (Yv.pur rfl) ?_
  refine TL.yv (Wt.none rfl) rfl rfl (Yv.fieldAddr rfl rfl) ?_
  refine TL.yv (Wt.none rfl) rfl rfl (Yv.loadB rfl rfl hsp0 (fun h => h)) ?_
  refine TL.yv (Wt.none rfl) rfl rfl (Yv.pur rfl) ?_
  refine TL.yv (Wt.none rfl) rfl rfl (Yv.fieldAddr rfl rfl) ?_
  refine TL.yv (Wt.none rfl) rfl rfl (Yv.loadB rfl rfl hP0 (fun h => h)) ?_
  refine TL.yv (Wt.none rfl) rfl rfl (Yv.pur rfl) ?_
  refine TL.yv (Wt.none rfl) rfl rfl (Yv.indexSl rfl rfl rfl rfl (by omega)) ?_
  refine TL.yv (Wt.none rfl) rfl rfl (Yv.loadC (j := 0) rfl rfl hPi rfl rfl (fun h => h)) ?_
  refine TL.yv (Wt.none rfl) rfl rfl (Yv.lenSl rfl rfl) ?_
  refine TL.yv (Wt.none rfl) rfl rfl (Yv.pur rfl) ?_
  refine TL.nil ?_
  refine K.seq ?_
  refine T.block ?_
  refine T.loop (ι := Nat) (fun k => [(0, .pointer (some ⟨sp, 0, none⟩)), (1, .int .i64 (i : Int)), (5, U (((Y.ps i).take k).foldl (pairStep L i) 0#64)), (19, .slice BP (Y.ps i).length cpP), (20, .int .i64 ((Y.ps i).length : Int)), (21, .int .i64 (k : Int))]) (fun k => []) (fun k => k ≤ (Y.ps i).length) (fun k => (Y.ps i).length - k) 0 ?_ ?_ ?_ ?_
  · omega
  · exact (by repeat (first | exact Sub.nil | refine Sub.cons rfl ?_))
  · exact (by repeat (first | exact List.Sublist.refl _ | exact List.nil_sublist _ | refine List.Sublist.cons_cons _ ?_ | refine List.Sublist.cons _ ?_))
  · intro k hphi
    refine T.seq ?_
    refine T.region ?_
    refine TL.yv (Wt.none rfl) rfl rfl (Yv.pur rfl) ?_
    refine TL.nil ?_
    refine K.seq ?_
    refine T.seq ?_
    refine T.cond rfl (fun h1 => ?_) (fun h1 => ?_)
    · have p1 := h1
      try simp only [decide_eq_true_eq, decide_eq_false_iff_not, Int.not_lt, Int.not_le, Bool.not_eq_true', Bool.not_eq_false', Decidable.not_not, Bool.and_eq_true, Bool.or_eq_true, Bool.and_eq_false_iff, Bool.or_eq_false_iff] at p1
      obtain ⟨g, off, rfl, hc⟩ := hslP (by omega)
      have hk := hc k (by omega)
      simp only [Pr.cells] at hk
      have hr := hrng _ (nth_mem (xs := Y.ps i) (k := k) (by omega))
      have oa := only_lt L (nth (Y.ps i) k).a.toNat
      have ob := only_lt L (nth (Y.ps i) k).b.toNat
      refine T.skip ?_
      refine K.seq ?_
      refine T.seq ?_
      refine T.block ?_
      refine T.seq ?_
      refine T.region ?_
      refine TL.yv (Wt.none rfl) rfl rfl (Yv.indexSl rfl rfl rfl rfl (by omega)) ?_
      refine TL.yv (Wt.none rfl) rfl rfl (Yv.loadAB rfl rfl hk rfl (fun h => h)) ?_
      (refine TL.ew (Wt.none rfl) rfl rfl (Ew.alloc rfl) ?_; rintro _ _ ⟨g7, rfl, rfl⟩)
      (refine TL.ew0 (Wt.none rfl) rfl (Ew.storeAll 0 rfl rfl rfl rfl rfl rfl) ?_; rintro _ _ ⟨rfl, rfl⟩)
      refine TL.nil ?_
      refine K.seq ?_
      refine T.seq ?_
      refine T.region ?_
      refine TL.yv (Wt.none rfl) rfl rfl (Yv.fieldAddr rfl rfl) ?_
      refine TL.yv (Wt.none rfl) rfl rfl (Yv.loadO 0 rfl rfl rfl rfl) ?_
      refine TL.yv (Wt.none rfl) rfl rfl (Yv.pur rfl) ?_
      refine TL.yv (Wt.none rfl) rfl rfl (Yv.pur rfl) ?_
      refine TL.nil ?_
      refine K.seq ?_
      refine T.cond rfl (fun h2 => ?_) (fun h2 => ?_)
      · have p2 := h2
        try simp only [decide_eq_true_eq, decide_eq_false_iff_not, Int.not_lt, Int.not_le, Bool.not_eq_true', Bool.not_eq_false', Decidable.not_not, Bool.and_eq_true, Bool.or_eq_true, Bool.and_eq_false_iff, Bool.or_eq_false_iff] at p2
        refine T.seq ?_
        refine T.region ?_
        refine TL.yv (Wt.none rfl) rfl rfl (Yv.pur rfl) ?_
        refine TL.yv (Wt.none rfl) rfl rfl (Yv.fieldAddr rfl rfl) ?_
        refine TL.yv (Wt.none rfl) rfl rfl (Yv.loadO 0 rfl rfl rfl rfl) ?_
        (refine TL.ew (Wt.none rfl) rfl rfl (Ew.callD rfl rfl rfl (fun w hw => only_ret sp Y L c (nth (Y.ps i) k).b.toNat _ (by omega) (by omega) w (h.kept hw))) ?_; rintro _ _ ⟨rfl, rfl⟩)
        refine TL.yv (Wt.none rfl) rfl rfl (Yv.pur rfl) ?_
        refine TL.nil ?_
        refine K.seq ?_
        refine T.seq ?_
        refine T.region ?_
        refine TL.yv (Wt.none rfl) rfl rfl (Yv.pur rfl) ?_
        refine TL.yv (Wt.none rfl) rfl rfl (Yv.pur rfl) ?_
        refine TL.yv (Wt.none rfl) rfl rfl (Yv.pur rfl) ?_
        refine TL.gsplit rfl rfl rfl (fun h3 => ?_) (fun h3 => ?_)
        · have p3 := h3
          try simp only [decide_eq_true_eq, decide_eq_false_iff_not, Int.not_lt, Int.not_le, Bool.not_eq_true', Bool.not_eq_false', Decidable.not_not, Bool.and_eq_true, Bool.or_eq_true, Bool.and_eq_false_iff, Bool.or_eq_false_iff] at p3
          refine TL.yv (Wt.some rfl rfl rfl h3) rfl rfl (Yv.fieldAddr rfl rfl) ?_
          refine TL.yv (Wt.some rfl rfl rfl h3) rfl rfl (Yv.loadO 0 rfl rfl rfl rfl) ?_
          refine TL.yv (Wt.some rfl rfl rfl h3) rfl rfl (Yv.pur rfl) ?_
          refine TL.yv (Wt.some rfl rfl rfl h3) rfl rfl (Yv.fieldAddr rfl rfl) ?_
          refine TL.yv (Wt.some rfl rfl rfl h3) rfl rfl (Yv.loadO 0 rfl rfl rfl rfl) ?_
          refine TL.yv (Wt.some rfl rfl rfl h3) rfl rfl (Yv.subI rfl rfl rfl (by omega)) ?_
          refine TL.yv (Wt.some rfl rfl rfl h3) rfl rfl (Yv.pur rfl) ?_
          refine TL.yv (Wt.none rfl) rfl rfl (Yv.pickT rfl rfl h3 rfl) ?_
          refine TL.yv (Wt.none rfl) rfl rfl (Yv.pur rfl) ?_
          refine TL.gsplit rfl rfl rfl (fun h4 => ?_) (fun h4 => ?_)
          · have p4 := h4
            try simp only [decide_eq_true_eq, decide_eq_false_iff_not, Int.not_lt, Int.not_le, Bool.not_eq_true', Bool.not_eq_false', Decidable.not_not, Bool.and_eq_true, Bool.or_eq_true, Bool.and_eq_false_iff, Bool.or_eq_false_iff] at p4
            refine TL.yv (Wt.some rfl rfl rfl h4) rfl rfl (Yv.pur rfl) ?_
            refine TL.yv (Wt.some rfl rfl rfl h4) rfl rfl (Yv.fieldAddr rfl rfl) ?_
            refine TL.yv (Wt.some rfl rfl rfl h4) rfl rfl (Yv.loadO 0 rfl rfl rfl rfl) ?_
            refine TL.yv (Wt.some rfl rfl rfl h4) rfl rfl (Yv.subI rfl rfl rfl (by omega)) ?_
            refine TL.yv (Wt.some rfl rfl rfl h4) rfl rfl (Yv.fieldAddr rfl rfl) ?_
            refine TL.yv (Wt.some rfl rfl rfl h4) rfl rfl (Yv.loadO 0 rfl rfl rfl rfl) ?_
            refine TL.yv (Wt.some rfl rfl rfl h4) rfl rfl (Yv.pur rfl) ?_
            refine TL.yv (Wt.none rfl) rfl rfl (Yv.pickT rfl rfl h4 rfl) ?_
            refine TL.nil ?_
            refine K.seq ?_
            refine T.cond rfl (fun h5 => ?_) (fun h5 => ?_)
            · have p5 := h5
              try simp only [decide_eq_true_eq, decide_eq_false_iff_not, Int.not_lt, Int.not_le, Bool.not_eq_true', Bool.not_eq_false', Decidable.not_not, Bool.and_eq_true, Bool.or_eq_true, Bool.and_eq_false_iff, Bool.or_eq_false_iff] at p5
              refine T.region ?_
              refine TL.yv (Wt.none rfl) rfl rfl (Yv.pur rfl) ?_
              refine TL.yv (Wt.none rfl) rfl rfl (Yv.pur rfl) ?_
              refine TL.yv (Wt.none rfl) rfl rfl (Yv.fieldAddr rfl rfl) ?_
              refine TL.yv (Wt.none rfl) rfl rfl (Yv.loadO 0 rfl rfl rfl rfl) ?_
              refine TL.yv (Wt.none rfl) rfl rfl (Yv.subI rfl rfl rfl (by omega)) ?_
              refine TL.yv (Wt.none rfl) rfl rfl (Yv.shlV (a := 1#64) ((only L (nth (Y.ps i) k).b.toNat : Int) - (nth (Y.ps i) k).off).toNat rfl rfl rfl (by omega) (by omega)) ?_
              refine TL.yv (Wt.none rfl) rfl rfl (Yv.orV rfl rfl rfl) ?_
              refine TL.yv (Wt.none rfl) rfl rfl (Yv.pur rfl) ?_
              refine TL.nil ?_
              refine K.blk_normal ?_
              refine K.seq ?_
              refine T.region ?_
              refine TL.yv (Wt.none rfl) rfl rfl (Yv.addI rfl rfl rfl (by omega)) ?_
              refine TL.yv (Wt.none rfl) rfl rfl (Yv.pur rfl) ?_
              refine TL.nil ?_
              exact K.next (k + 1) (by omega) (by omega) (by rw [foldl_take _ _ (by omega), pairStep, if_pos p2, if_pos ⟨p3, p4, p5⟩]; exact (by repeat (first | exact Sub.nil | refine Sub.cons rfl ?_))) (by repeat (first | exact List.Sublist.refl _ | exact List.nil_sublist _ | refine List.Sublist.cons_cons _ ?_ | refine List.Sublist.cons _ ?_))
            · have p5 := h5
              try simp only [decide_eq_true_eq, decide_eq_false_iff_not, Int.not_lt, Int.not_le, Bool.not_eq_true', Bool.not_eq_false', Decidable.not_not, Bool.and_eq_true, Bool.or_eq_true, Bool.and_eq_false_iff, Bool.or_eq_false_iff] at p5
              refine T.skip ?_
              refine K.blk_normal ?_
              refine K.seq ?_
              refine T.region ?_
              refine TL.yv (Wt.none rfl) rfl rfl (Yv.addI rfl rfl rfl (by omega)) ?_
              refine TL.yv (Wt.none rfl) rfl rfl (Yv.pur rfl) ?_
              refine TL.nil ?_
              exact K.next (k + 1) (by omega) (by omega) (by rw [foldl_take _ _ (by omega), pairStep, if_pos p2, if_neg (fun hh => absurd hh.2.2 (by omega))]; exact (by repeat (first | exact Sub.nil | refine Sub.cons rfl ?_))) (by repeat (first | exact List.Sublist.refl _ | exact List.nil_sublist _ | refine List.Sublist.cons_cons _ ?_ | refine List.Sublist.cons _ ?_))
          · have p4 := h4
            try simp only [decide_eq_true_eq, decide_eq_false_iff_not, Int.not_lt, Int.not_le, Bool.not_eq_true', Bool.not_eq_false', Decidable.not_not, Bool.and_eq_true, Bool.or_eq_true, Bool.and_eq_false_iff, Bool.or_eq_false_iff] at p4
            refine TL.off (Wt.not rfl rfl rfl h4) rfl rfl ?_
            refine TL.off (Wt.not rfl rfl rfl h4) rfl rfl ?_
            refine TL.off (Wt.not rfl rfl rfl h4) rfl rfl ?_
            refine TL.off (Wt.not rfl rfl rfl h4) rfl rfl ?_
            refine TL.off (Wt.not rfl rfl rfl h4) rfl rfl ?_
            refine TL.off (Wt.not rfl rfl rfl h4) rfl rfl ?_
            refine TL.off (Wt.not rfl rfl rfl h4) rfl rfl ?_
            refine TL.yv (Wt.none rfl) rfl rfl (Yv.pickF rfl rfl h4 rfl) ?_
            refine TL.nil ?_
            refine K.seq ?_
            refine T.condF rfl rfl ?_
            refine T.skip ?_
            refine K.blk_normal ?_
            refine K.seq ?_
            refine T.region ?_
            refine TL.yv (Wt.none rfl) rfl rfl (Yv.addI rfl rfl rfl (by omega)) ?_
            refine TL.yv (Wt.none rfl) rfl rfl (Yv.pur rfl) ?_
            refine TL.nil ?_
            exact K.next (k + 1) (by omega) (by omega) (by rw [foldl_take _ _ (by omega), pairStep, if_pos p2, if_neg (fun hh => absurd hh.2.1 (by omega))]; exact (by repeat (first | exact Sub.nil | refine Sub.cons rfl ?_))) (by repeat (first | exact List.Sublist.refl _ | exact List.nil_sublist _ | refine List.Sublist.cons_cons _ ?_ | refine List.Sublist.cons _ ?_))
        · have p3 := h3
          try simp only [decide_eq_true_eq, decide_eq_false_iff_not, Int.not_lt, Int.not_le, Bool.not_eq_true', Bool.not_eq_false', Decidable.not_not, Bool.and_eq_true, Bool.or_eq_true, Bool.and_eq_false_iff, Bool.or_eq_false_iff] at p3
          refine TL.off (Wt.not rfl rfl rfl h3) rfl rfl ?_
          refine TL.off (Wt.not rfl rfl rfl h3) rfl rfl ?_
          refine TL.off (Wt.not rfl rfl rfl h3) rfl rfl ?_
          refine TL.off (Wt.not rfl rfl rfl h3) rfl rfl ?_
          refine TL.off (Wt.not rfl rfl rfl h3) rfl rfl ?_
          refine TL.off (Wt.not rfl rfl rfl h3) rfl rfl ?_
          refine TL.off (Wt.not rfl rfl rfl h3) rfl rfl ?_
          refine TL.yv (Wt.none rfl) rfl rfl (Yv.pickF rfl rfl h3 rfl) ?_
          refine TL.yv (Wt.none rfl) rfl rfl (Yv.pur rfl) ?_
          refine TL.off (Wt.not rfl rfl rfl rfl) rfl rfl ?_
          refine TL.off (Wt.not rfl rfl rfl rfl) rfl rfl ?_
          refine TL.off (Wt.not rfl rfl rfl rfl) rfl rfl ?_
          refine TL.off (Wt.not rfl rfl rfl rfl) rfl rfl ?_
          refine TL.off (Wt.not rfl rfl rfl rfl) rfl rfl ?_
          refine TL.off (Wt.not rfl rfl rfl rfl) rfl rfl ?_
          refine TL.off (Wt.not rfl rfl rfl rfl) rfl rfl ?_
          refine TL.yv (Wt.none rfl) rfl rfl (Yv.pickF rfl rfl rfl rfl) ?_
          refine TL.nil ?_
          refine K.seq ?_
          refine T.condF rfl rfl ?_
          refine T.skip ?_
          refine K.blk_normal ?_
          refine K.seq ?_
          refine T.region ?_
          refine TL.yv (Wt.none rfl) rfl rfl (Yv.addI rfl rfl rfl (by omega)) ?_
          refine TL.yv (Wt.none rfl) rfl rfl (Yv.pur rfl) ?_
          refine TL.nil ?_
          exact K.next (k + 1) (by omega) (by omega) (by rw [foldl_take _ _ (by omega), pairStep, if_pos p2, if_neg (fun hh => hh.1 p3)]; exact (by repeat (first | exact Sub.nil | refine Sub.cons rfl ?_))) (by repeat (first | exact List.Sublist.refl _ | exact List.nil_sublist _ | refine List.Sublist.cons_cons _ ?_ | refine List.Sublist.cons _ ?_))
      · have p2 := h2
        try simp only [decide_eq_true_eq, decide_eq_false_iff_not, Int.not_lt, Int.not_le, Bool.not_eq_true', Bool.not_eq_false', Decidable.not_not, Bool.and_eq_true, Bool.or_eq_true, Bool.and_eq_false_iff, Bool.or_eq_false_iff] at p2
        refine T.seq ?_
        refine T.region ?_
        refine TL.yv (Wt.none rfl) rfl rfl (Yv.pur rfl) ?_
        refine TL.yv (Wt.none rfl) rfl rfl (Yv.fieldAddr rfl rfl) ?_
        refine TL.yv (Wt.none rfl) rfl rfl (Yv.loadO 0 rfl rfl rfl rfl) ?_
        (refine TL.ew (Wt.none rfl) rfl rfl (Ew.callD rfl rfl rfl (fun w hw => only_ret sp Y L c (nth (Y.ps i) k).a.toNat _ (by omega) (by omega) w (h.kept hw))) ?_; rintro _ _ ⟨rfl, rfl⟩)
        refine TL.yv (Wt.none rfl) rfl rfl (Yv.pur rfl) ?_
        refine TL.nil ?_
        refine K.seq ?_
        refine T.seq ?_
        refine T.region ?_
        refine TL.yv (Wt.none rfl) rfl rfl (Yv.fieldAddr rfl rfl) ?_
        refine TL.yv (Wt.none rfl) rfl rfl (Yv.loadO 0 rfl rfl rfl rfl) ?_
        refine TL.yv (Wt.none rfl) rfl rfl (Yv.pur rfl) ?_
        refine TL.yv (Wt.none rfl) rfl rfl (Yv.pur rfl) ?_
        refine TL.yv (Wt.none rfl) rfl rfl (Yv.pur rfl) ?_
        refine TL.gsplit rfl rfl rfl (fun h6 => ?_) (fun h6 => ?_)
        · have p6 := h6
          try simp only [decide_eq_true_eq, decide_eq_false_iff_not, Int.not_lt, Int.not_le, Bool.not_eq_true', Bool.not_eq_false', Decidable.not_not, Bool.and_eq_true, Bool.or_eq_true, Bool.and_eq_false_iff, Bool.or_eq_false_iff] at p6
          refine TL.yv (Wt.some rfl rfl rfl h6) rfl rfl (Yv.pur rfl) ?_
          refine TL.yv (Wt.some rfl rfl rfl h6) rfl rfl (Yv.fieldAddr rfl rfl) ?_
          refine TL.yv (Wt.some rfl rfl rfl h6) rfl rfl (Yv.loadO 0 rfl rfl rfl rfl) ?_
          refine TL.yv (Wt.some rfl rfl rfl h6) rfl rfl (Yv.pur rfl) ?_
          refine TL.yv (Wt.none rfl) rfl rfl (Yv.pickT rfl rfl h6 rfl) ?_
          refine TL.nil ?_
          refine K.seq ?_
          refine T.cond rfl (fun h7 => ?_) (fun h7 => ?_)
          · have p7 := h7
            try simp only [decide_eq_true_eq, decide_eq_false_iff_not, Int.not_lt, Int.not_le, Bool.not_eq_true', Bool.not_eq_false', Decidable.not_not, Bool.and_eq_true, Bool.or_eq_true, Bool.and_eq_false_iff, Bool.or_eq_false_iff] at p7
            refine T.region ?_
            refine TL.yv (Wt.none rfl) rfl rfl (Yv.pur rfl) ?_
            refine TL.yv (Wt.none rfl) rfl rfl (Yv.pur rfl) ?_
            refine TL.yv (Wt.none rfl) rfl rfl (Yv.fieldAddr rfl rfl) ?_
            refine TL.yv (Wt.none rfl) rfl rfl (Yv.loadO 0 rfl rfl rfl rfl) ?_
            refine TL.yv (Wt.none rfl) rfl rfl (Yv.addI rfl rfl rfl (by omega)) ?_
            refine TL.yv (Wt.none rfl) rfl rfl (Yv.shlV (a := 1#64) ((only L (nth (Y.ps i) k).a.toNat : Int) + (nth (Y.ps i) k).off).toNat rfl rfl rfl (by omega) (by omega)) ?_
            refine TL.yv (Wt.none rfl) rfl rfl (Yv.orV rfl rfl rfl) ?_
            refine TL.yv (Wt.none rfl) rfl rfl (Yv.pur rfl) ?_
            refine TL.nil ?_
            refine K.blk_normal ?_
            refine K.seq ?_
            refine T.region ?_
            refine TL.yv (Wt.none rfl) rfl rfl (Yv.addI rfl rfl rfl (by omega)) ?_
            refine TL.yv (Wt.none rfl) rfl rfl (Yv.pur rfl) ?_
            refine TL.nil ?_
            exact K.next (k + 1) (by omega) (by omega) (by rw [foldl_take _ _ (by omega), pairStep, if_neg p2, if_pos ⟨p6, p7⟩]; exact (by repeat (first | exact Sub.nil | refine Sub.cons rfl ?_))) (by repeat (first | exact List.Sublist.refl _ | exact List.nil_sublist _ | refine List.Sublist.cons_cons _ ?_ | refine List.Sublist.cons _ ?_))
          · have p7 := h7
            try simp only [decide_eq_true_eq, decide_eq_false_iff_not, Int.not_lt, Int.not_le, Bool.not_eq_true', Bool.not_eq_false', Decidable.not_not, Bool.and_eq_true, Bool.or_eq_true, Bool.and_eq_false_iff, Bool.or_eq_false_iff] at p7
            refine T.skip ?_
            refine K.blk_normal ?_
            refine K.seq ?_
            refine T.region ?_
            refine TL.yv (Wt.none rfl) rfl rfl (Yv.addI rfl rfl rfl (by omega)) ?_
            refine TL.yv (Wt.none rfl) rfl rfl (Yv.pur rfl) ?_
            refine TL.nil ?_
            exact K.next (k + 1) (by omega) (by omega) (by rw [foldl_take _ _ (by omega), pairStep, if_neg p2, if_neg (fun hh => absurd hh.2 (by omega))]; exact (by repeat (first | exact Sub.nil | refine Sub.cons rfl ?_))) (by repeat (first | exact List.Sublist.refl _ | exact List.nil_sublist _ | refine List.Sublist.cons_cons _ ?_ | refine List.Sublist.cons _ ?_))
        · have p6 := h6
          try simp only [decide_eq_true_eq, decide_eq_false_iff_not, Int.not_lt, Int.not_le, Bool.not_eq_true', Bool.not_eq_false', Decidable.not_not, Bool.and_eq_true, Bool.or_eq_true, Bool.and_eq_false_iff, Bool.or_eq_false_iff] at p6
          refine TL.off (Wt.not rfl rfl rfl h6) rfl rfl ?_
          refine TL.off (Wt.not rfl rfl rfl h6) rfl rfl ?_
          refine TL.off (Wt.not rfl rfl rfl h6) rfl rfl ?_
          refine TL.off (Wt.not rfl rfl rfl h6) rfl rfl ?_
          refine TL.yv (Wt.none rfl) rfl rfl (Yv.pickF rfl rfl h6 rfl) ?_
          refine TL.nil ?_
          refine K.seq ?_
          refine T.condF rfl rfl ?_
          refine T.skip ?_
          refine K.blk_normal ?_
          refine K.seq ?_
          refine T.region ?_
          refine TL.yv (Wt.none rfl) rfl rfl (Yv.addI rfl rfl rfl (by omega)) ?_
          refine TL.yv (Wt.none rfl) rfl rfl (Yv.pur rfl) ?_
          refine TL.nil ?_
          exact K.next (k + 1) (by omega) (by omega) (by rw [foldl_take _ _ (by omega), pairStep, if_neg p2, if_neg (fun hh => absurd hh.1 (by omega))]; exact (by repeat (first | exact Sub.nil | refine Sub.cons rfl ?_))) (by repeat (first | exact List.Sublist.refl _ | exact List.nil_sublist _ | refine List.Sublist.cons_cons _ ?_ | refine List.Sublist.cons _ ?_))
    · have p1 := h1
      try simp only [decide_eq_true_eq, decide_eq_false_iff_not, Int.not_lt, Int.not_le, Bool.not_eq_true', Bool.not_eq_false', Decidable.not_not, Bool.and_eq_true, Bool.or_eq_true, Bool.and_eq_false_iff, Bool.or_eq_false_iff] at p1
      refine T.exit ?_
      refine K.then_exit ?_
      refine K.then_exit ?_
      refine K.blk_exit_eq ?_
      refine K.seq ?_
      refine T.seq ?_
      refine T.region ?_
      refine TL.yv (Wt.none rfl) rfl rfl (Yv.pur rfl) ?_
      refine TL.yv (Wt.none rfl) rfl rfl (Yv.pur rfl) ?_
      refine TL.nil ?_
      refine K.seq ?_
      refine T.ret ?_
      exact K.ret1 rfl rfl (fun w' hw => ⟨by rw [pairsF, List.take_of_length_le (by omega)], hw.isBelow⟩)
end Go.Proofs.YtljgejbmimapdaaDoor
