/- Lc Ps M9 Yt Ls Of: shortened and put together by squeeze.py. -/
import Derived.Test.YtljgejbmimapdaaDoorQ08
import Derived.Deep.Slices
import Derived.ChangeArms
set_option maxRecDepth 100000
set_option maxHeartbeats 4000000
set_option linter.unusedVariables false
set_option linter.unusedSectionVars false
set_option linter.unusedSimpArgs false
namespace Go.Proofs.YtljgejbmimapdaaDoor
open Go.RowKit
theorem small_x {p : GProblem} {a b : Int} {fuel : Nat} (hf : 1000 ≤ fuel) : ∃ r, ref17_Small_x fuel p a b = some r := by
  unfold ref17_Small_x; simp only [joinK]; refine whileK_inv (σ := Int) (I := fun i => 0 ≤ i ∧ i ≤ 600) (μ := fun i => (600 - i).toNat) (post := fun o => ∃ r, o = some r) ⟨by omega, by omega⟩ (by omega) ?_; intro i next hi hn; by_cases h1 : i < (p.Domains.length : Int) <;> by_cases h2 : i < 600
  · rw [decide_eq_true h1, decide_eq_true h2, Bool.and_true, cond_true, grd_pos ⟨hi.1, h1⟩]
    cases decide (60 < ((nth p.Domains i.toNat).Channels.length : Int))
    · exact hn _ ⟨by omega, by omega⟩ (by omega)
    · exact ⟨_, rfl⟩
  · rw [decide_eq_false h2, Bool.and_false, cond_false]; exact ⟨_, rfl⟩
  · rw [decide_eq_false h1, Bool.false_and, cond_false]; exact ⟨_, rfl⟩
  · rw [decide_eq_false h1, Bool.false_and, cond_false]; exact ⟨_, rfl⟩
theorem keepD_mem {s c : Int} {x : GDomain} {q : Int} : q ∈ (keepD s c x).Channels ↔ q ∈ x.Channels ∧ (x.Station = s → q = c) := by
  unfold keepD; dsimp only; by_cases hs : x.Station = s
  · rw [decide_eq_true hs, cond_true]
    cases ha : x.Channels.any (fun k => decide (k = c)) with
    | true =>
      rw [cond_true]; obtain ⟨k, hk, he⟩ := List.any_eq_true.1 ha; have := of_decide_eq_true he; subst this; simp only [List.mem_singleton]; exact ⟨fun h => by subst h; exact ⟨hk, fun _ => rfl⟩, fun h => h.2 hs⟩
    | false =>
      rw [cond_false]; refine ⟨(fun h => by cases h), fun h => ?_⟩; have := h.2 hs; subst this; have := List.any_eq_false.1 ha q h.1; simp at this
  · rw [decide_eq_false hs, cond_false]; exact ⟨fun h => ⟨h, fun h2 => absurd h2 hs⟩, fun h => h.1⟩
theorem keepD_sub {s c : Int} {x : GDomain} : (keepD s c x).Channels.Sublist x.Channels := by
  unfold keepD; dsimp only
  cases decide (x.Station = s)
  · exact List.Sublist.refl _
  · cases ha : x.Channels.any (fun k => decide (k = c))
    · exact List.nil_sublist _
    · obtain ⟨k, hk, he⟩ := List.any_eq_true.1 ha; have := of_decide_eq_true he; subst this; exact List.singleton_sublist.2 hk
section
variable {p : GProblem} {a b d : List GDomain}
theorem keep_sub {s c : Int} : SubD (d.map (keepD s c)) d ∧ OrdD (d.map (keepD s c)) d := by
  refine ⟨⟨List.length_map _, fun i hi => ?_⟩, fun i hi => ?_⟩
  · rw [nth_mapG hi]; exact ⟨rfl, fun k hk => (keepD_mem.1 hk).1⟩
  · rw [nth_mapG hi]; exact keepD_sub
theorem keep_mono {s c : Int} (h : SubD a b) : SubD (a.map (keepD s c)) (b.map (keepD s c)) := by
  refine ⟨by rw [List.length_map, List.length_map, h.1], fun i hi => ?_⟩; rw [List.length_map] at hi; rw [nth_mapG hi, nth_mapG (by rw [h.1]; exact hi)]; have h2 := h.2 i hi; refine ⟨h2.1, fun k hk => ?_⟩; rw [keepD_mem] at hk ⊢; exact ⟨h2.2 k hk.1, fun e => hk.2 (h2.1.trans e)⟩
theorem OrdD.trans {c : List GDomain} (h : OrdD a b) (k : OrdD b c) (hl : b.length = c.length) : OrdD a c := fun i hi => (h i (by rw [hl]; exact hi)).trans (k i hi)
theorem Bd.ord (hb : Bd b) (hl : a.length = b.length) (h : OrdD a b) : Bd a := by
  refine ⟨by rw [hl]; exact hb.len, fun x hx => ?_⟩; obtain ⟨i, hi, rfl⟩ := mem_nth hx; (have hi' : i < b.length := by rw [← hl]; exact hi); have h2 := hb.ch _ (nth_memG hi'); exact ⟨Nat.le_trans (h i hi').length_le h2.1, h2.2.sublist (h i hi')⟩
theorem totG_ord : ∀ {a b : List GDomain}, a.length = b.length → OrdD a b → totG a ≤ totG b
  | [], [], _, _ => Nat.le_refl _
  | x :: r, y :: q, hl, h => by
    have h0 := (h 0 (by simp)).length_le
    have ih := totG_ord (a := r) (b := q) (by simpa using hl) (fun i hi => by
      have := h (i + 1) (by simp; omega)
      simpa [nth] using this)
    simp only [totG, List.map_cons, List.sum_cons] at ih ⊢; have e1 : nth (x :: r) 0 = x := rfl; have e2 : nth (y :: q) 0 = y := rfl; rw [e1, e2] at h0; omega
theorem PropD.eq {r r' : List GDomain × Bool} (hb : Bd d) (h : PropD p d r) (h' : PropD p d r') : r = r' := by
  rcases h with ⟨h1, h2, h3, h4⟩ | ⟨h1, h2⟩
  · rcases h' with ⟨g1, g2, g3, g4⟩ | ⟨g1, g2⟩
    · have e1 := h4 _ g2 g3.1; have e2 := g4 _ h2 h3.1
      have : r.1 = r'.1 := by
        refine ext_nth (by rw [e2.1]) fun i hi => ?_; (have hi1 : i < r'.1.length := by rw [← e2.1]; exact hi); (have hid : i < d.length := by rw [← h3.1.1]; exact hi); have a1 := e1.2 i hi; have a2 := e2.2 i hi1; have hch : (nth r.1 i).Channels = (nth r'.1 i).Channels := sublist_ext (h3.2 i hid) (g3.2 i hid) (hb.ch _ (nth_memG hid)).2 (fun x => ⟨a2.2 x, a1.2 x⟩)
        cases hx : nth r.1 i with
        | mk s1 c1 =>
          cases hy : nth r'.1 i with
          | mk s2 c2 =>
            have b1 := a2.1; rw [hx, hy] at b1 hch; simp only at b1 hch; rw [b1, hch]
      exact Prod.ext this (h1.trans g1.symm)
    · exact absurd h3.1 (g2 _ h2)
  · rcases h' with ⟨g1, g2, g3, g4⟩ | ⟨g1, g2⟩
    · exact absurd g3.1 (h2 _ g2)
    · rw [h1, g1]
theorem PropD.keep {m r : List GDomain × Bool} {s c : Int} (h : PropD p d m) (hm : m.2 = true) (hr : PropD p (m.1.map (keepD s c)) r) : PropD p (d.map (keepD s c)) r := by
  rcases h with ⟨_, h2, h3, h4⟩ | ⟨h1, _⟩
  · have hsup : ∀ S, ClosedD p S → SubD S (d.map (keepD s c)) → SubD S (m.1.map (keepD s c)) := fun S hS hs => by
      have h5 := h4 S hS (hs.trans keep_sub.1); refine ⟨by rw [List.length_map]; exact h5.1, fun i hi => ?_⟩; rw [List.length_map] at hi; (have hid : i < d.length := by rw [← h3.1.1]; exact hi); rw [nth_mapG hi]; have h6 := h5.2 i hi; refine ⟨h6.1, fun k hk => keepD_mem.2 ⟨h6.2 k hk, fun e => ?_⟩⟩; have h7 := (hs.2 i (by rw [List.length_map]; exact hid)).2 k hk; rw [nth_mapG hid] at h7; exact (keepD_mem.1 h7).2 (by rw [← (h3.1.2 i hid).1]; exact e)
    rcases hr with ⟨g1, g2, g3, g4⟩ | ⟨g1, g2⟩
    · refine .inl ⟨g1, g2, ⟨g3.1.trans (keep_mono h3.1), fun i hi => ?_⟩, fun S hS hs => g4 S hS (hsup S hS hs)⟩; rw [List.length_map] at hi; (have hi' : i < m.1.length := by rw [h3.1.1]; exact hi); have h8 := g3.2 i (by rw [List.length_map]; exact hi'); rw [nth_mapG hi'] at h8; rw [nth_mapG hi]; refine h8.trans ?_; have hst := (h3.1.2 i hi).1; have hsb := h3.2 i hi; unfold keepD; dsimp only; rw [hst]
      cases decide ((nth d i).Station = s)
      · exact hsb
      · cases ha : (nth m.1 i).Channels.any (fun k => decide (k = c))
        · exact List.nil_sublist _
        · obtain ⟨k, hk, he⟩ := List.any_eq_true.1 ha; rw [List.any_eq_true.2 ⟨k, hsb.subset hk, he⟩]; exact List.Sublist.refl _
    · exact .inr ⟨g1, fun S hS hs => g2 S hS (hsup S hS hs)⟩
  · rw [h1] at hm; cases hm
theorem PropD.keepBad {m : List GDomain × Bool} {d' : List GDomain} (h : PropD p d m) (hm : m.2 = false) (hs : SubD d' d) : PropD p d' m := by
  rcases h with ⟨h1, _⟩ | ⟨h1, h2⟩
  · rw [h1] at hm; cases hm
  · exact .inr ⟨h1, fun S hS hh => h2 S hS (hh.trans hs)⟩
theorem PropD.ord {m : List GDomain × Bool} (h : PropD p d m) (hm : m.2 = true) : m.1.length = d.length ∧ OrdD m.1 d := by
  rcases h with ⟨_, _, h3, _⟩ | ⟨h1, _⟩
  · exact ⟨h3.1.1, h3.2⟩
  · rw [h1] at hm; cases hm
def chOkG (l : List GChoice) (i : Nat) : Bool := inB (nth l i).Station 0 511 && (inB (nth l i).Channel 2 51 && !(decide (0 < (i : Int)) && decide ((nth l i).Station ≤ (nth l (i - 1)).Station)))
theorem pvalidList_x {l : List GChoice} : problem_ValidList_x l = (List.range l.length).all (chOkG l) := by
  unfold problem_ValidList_x; simp only [joinK, Nat.sub_zero]; rw [iterK_all (chOkG l) (fun i next _ => ?_), Bool.and_true]; rw [toNat_pred]; unfold chOkG
  show (bif !(inB (nth l i).Station 0 511) || !(inB (nth l i).Channel 2 51) then false else _) = _
  cases inB (nth l i).Station 0 511 <;> cases inB (nth l i).Channel 2 51 <;> cases (decide (0 < (i : Int)) && decide ((nth l i).Station ≤ (nth l (i - 1)).Station)) <;> rfl
theorem rvalidList_x {l : List GChoice} : ref17_ValidList_x l = (List.range l.length).all (chOkG l) := by
  unfold ref17_ValidList_x; simp only [joinK, Nat.sub_zero]; rw [iterK_all (chOkG l) (fun i next _ => ?_), Bool.and_true]; rw [toNat_pred, station_x]
  have e : chOkG l i = (inB (nth l i).Station 0 511 && (!decide ((nth l i).Channel < 2) && (!decide (51 < (nth l i).Channel) && !(decide (0 < (i : Int)) && decide ((nth l i).Station ≤ (nth l (i - 1)).Station))))) := by
    unfold chOkG; rw [← Bool.and_assoc (!decide _)]
    congr 1
    congr 1
    unfold inB; by_cases h1 : 2 ≤ (nth l i).Channel <;> by_cases h2 : (nth l i).Channel ≤ 51 <;> simp [h1, h2, Int.not_lt, Int.not_le] <;> omega
  rw [e]
  cases inB (nth l i).Station 0 511 <;> cases decide ((nth l i).Channel < 2) <;> cases decide (51 < (nth l i).Channel) <;> cases (decide (0 < (i : Int)) && decide ((nth l i).Station ≤ (nth l (i - 1)).Station)) <;> rfl
theorem chOkG_good {l : List GChoice} (h : (List.range l.length).all (chOkG l) = true) {i : Nat} (hi : i < l.length) : goodC (nth l i) = true := by
  have := List.all_eq_true.1 h i (List.mem_range.2 hi); unfold chOkG inB at this; simp only [Bool.and_eq_true, decide_eq_true_eq] at this; unfold goodC; exact decide_eq_true (by omega)
theorem pbG_er (p : GProblem) : (pbG p).er = p := by
  unfold pbG Pb.er; dsimp only; rw [map_er (g := Dx.er) (fun _ => rfl), map_er (g := Pr.er) (fun _ => rfl), map_er (g := Ld.er) (fun _ => rfl), map_er (g := Cp.er) (fun _ => rfl)]
theorem totG_le_mul {d : List GDomain} {n : Nat} (h : ∀ x ∈ d, x.Channels.length ≤ n) : totG d ≤ d.length * n := by
  induction d with
  | nil => simp [totG]
  | cons x r ih =>
    have h1 := h x (by simp); have h2 := ih (fun y hy => h y (by simp [hy])); simp only [totG, List.map_cons, List.sum_cons, List.length_cons, Nat.add_mul] at h2 ⊢; omega
theorem okG_bd (h : okG p = true) : WtP p ∧ Bd p.Domains ∧ totG p.Domains ≤ 30000 ∧ p.Domains.length ≤ 512 := by
  have hG := Pb.good h; have hw := wt_er h; rw [pbG_er] at hw; have hl : (pbG p).ds.length = p.Domains.length := List.length_map _; (have hn : p.Domains.length ≤ 512 := by rw [← hl]; exact hG.n)
  have hc : ∀ x ∈ p.Domains, x.Channels.length ≤ 52 ∧ x.Channels.Nodup := fun x hx => by
    obtain ⟨i, hi, rfl⟩ := mem_nth hx; have e : nth (pbG p).ds i = (nth p.Domains i).b := nth_mapF hi; have h1 := hG.chs _ (nth_memG (show i < (pbG p).ds.length by rw [hl]; exact hi)); have h2 := inc_sub h (i := i) (by rw [hl]; exact hi); rw [e] at h1 h2; exact ⟨h1.1, (mapI_nodup List.nodup_range').sublist h2⟩
  refine ⟨hw, ⟨by omega, fun x hx => ⟨by have := (hc x hx).1; omega, (hc x hx).2⟩⟩, ?_, hn⟩; have := totG_le_mul (d := p.Domains) (n := 52) (fun x hx => (hc x hx).1); omega
def keepL (d : List GDomain) (l : List GChoice) : List GDomain := l.foldl (fun d c => d.map (keepD c.Station c.Channel)) d
theorem keepL_take {d : List GDomain} {l : List GChoice} {i : Nat} (hi : i < l.length) : keepL d (l.take (i + 1)) = (keepL d (l.take i)).map (keepD (nth l i).Station (nth l i).Channel) := by
  unfold keepL; rw [List.take_succ_eq_append_getElem hi, nth_eq hi, List.foldl_append]; rfl
theorem keepL_sub {d : List GDomain} : ∀ {l : List GChoice}, SubD (keepL d l) d ∧ OrdD (keepL d l) d := by
  intro l
  induction l generalizing d with
  | nil => exact ⟨.refl _, fun _ _ => List.Sublist.refl _⟩
  | cons c r ih =>
    have h1 := ih (d := d.map (keepD c.Station c.Channel)); have h2 := keep_sub (d := d) (s := c.Station) (c := c.Channel); exact ⟨h1.1.trans h2.1, h1.2.trans h2.2 h2.1.1⟩
theorem keepL_app {d : List GDomain} {l l' : List GChoice} : keepL d (l ++ l') = keepL (keepL d l) l' := by unfold keepL; rw [List.foldl_append]
theorem stAct_keep {fuel : Nat} (hf : 100000 ≤ fuel) (hp : WtP p) (hb : Bd d) (ht : totG d ≤ 30000) (hl : d.length ≤ 512) {c : GChoice} (hg : goodC c = true) (hh : hasSt p c.Station = true) : ∃ r, stAct fuel p (d, true) true c = some (r, 0) ∧ PropD p (d.map (keepD c.Station c.Channel)) r := by
  have hk := keep_sub (d := d) (s := c.Station) (c := c.Channel); have hb' := hb.ord hk.1.1 hk.2; have ht' := totG_ord hk.1.1 hk.2; obtain ⟨r, h1, h2⟩ := propagate_x (fuel := fuel) hp hb' (by rw [hk.1.1]; omega) (by omega); refine ⟨r, ?_, h2⟩; unfold stAct; rw [hg, hh]; simp only [Bool.not_true, cond_false, cond_true]; rw [keep_x hb.len (fun x hx => (hb.ch x hx).1), Option.bind_some, h1, Option.bind_some]
theorem run_x {fuel : Nat} (hf : 100000 ≤ fuel) {l : List GChoice} (hok : okG p = true) (hv : (List.range l.length).all (chOkG l) = true) (hst : ∀ i, i < l.length → hasSt p (nth l i).Station = true) : ∃ m, PropD p (keepL p.Domains l) m ∧ Run_x fuel p l = some (m.1, !m.2, 0) := by
  obtain ⟨hw, hb, ht, hn⟩ := okG_bd hok; obtain ⟨m0, h1, h2⟩ := propagate_x (fuel := fuel) hw hb (by omega) (by omega); unfold Run_x; rw [hok, cond_true, h1, Option.bind_some, pvalidList_x, hv]; simp only [Bool.not_true, cond_false, joinK, Nat.sub_zero]; rw [iterK_allO (n := l.length) (z := some (([] : List GDomain), false, (9 : Int))) (fun i => hasSt p (nth l i).Station) (fun i next hi => by cases hasSt p (nth l i).Station <;> rfl), List.all_eq_true.2 (fun i hi => hst i (List.mem_range.1 hi)), cond_true]; refine iterK_inv (σ := List GDomain × Bool) (I := fun i m => PropD p (keepL p.Domains (l.take i)) m) (post := fun o => ∃ m, PropD p (keepL p.Domains l) m ∧ o = some (m.1, !m.2, 0)) h2 ?_ ?_
  · intro m hm; rw [List.take_length] at hm; exact ⟨m, hm, rfl⟩
  · intro i m next hi hm hnx
    cases hc : m.2 with
    | false =>
      simp only [Bool.not_false, cond_true]; refine ⟨m, hm.keepBad hc ?_, by rw [hc]; rfl⟩; have e : l = l.take i ++ l.drop i := (List.take_append_drop i l).symm
      conv => lhs; rw [e, keepL_app]
      exact keepL_sub.1
    | true =>
      simp only [Bool.not_true, cond_false]; obtain ⟨ho1, ho2⟩ := hm.ord hc; have hk := keepL_sub (d := p.Domains) (l := l.take i); have hbm : Bd m.1 := hb.ord (ho1.trans hk.1.1) (ho2.trans hk.2 hk.1.1); have htm := totG_ord (ho1.trans hk.1.1) (ho2.trans hk.2 hk.1.1); (have hlm : m.1.length ≤ 512 := by rw [ho1, hk.1.1]; exact hn); obtain ⟨r, h3, h4⟩ := stAct_keep hf hw hbm (by omega) hlm (chOkG_good hv hi) (hst i hi); (have e : m = (m.1, true) := by rw [← hc]); rw [e, h3, Option.bind_some]; refine hnx _ ?_; rw [keepL_take hi]; exact hm.keep hc h4
theorem sameInts_x {a b : List Int} : ref17_SameInts_x a b = decide (a = b) := by
  unfold ref17_SameInts_x; simp only [joinK, Nat.sub_zero]; by_cases hl : a.length = b.length
  · rw [decide_eq_false (by simp [hl]), cond_false, iterK_all (fun i => decide (nth a i = nth b i)) (fun i next _ => by by_cases h : nth a i = nth b i <;> simp [h]), Bool.and_true, Bool.eq_iff_iff, List.all_eq_true, decide_eq_true_eq]; constructor
    · intro h; exact ext_nth hl fun i hi => of_decide_eq_true (h i (List.mem_range.2 hi))
    · rintro rfl i _; simp
  · rw [decide_eq_true (by omega), cond_true, decide_eq_false (fun e => hl (by rw [e]))]
theorem sameDomains_x {a b : List GDomain} : ref17_SameDomains_x a b = decide (a = b) := by
  unfold ref17_SameDomains_x; simp only [joinK, Nat.sub_zero, sameInts_x]; by_cases hl : a.length = b.length
  · rw [decide_eq_false (by simp [hl]), cond_false, iterK_all (fun i => decide (nth a i = nth b i)) (fun i next _ => ?_), Bool.and_true, Bool.eq_iff_iff, List.all_eq_true, decide_eq_true_eq]
    · constructor
      · intro h; exact ext_nth hl fun i hi => of_decide_eq_true (h i (List.mem_range.2 hi))
      · rintro rfl i _; simp
    · have e : decide (nth a i = nth b i) = (decide ((nth a i).Station = (nth b i).Station) && decide ((nth a i).Channels = (nth b i).Channels)) := by
        rw [Bool.eq_iff_iff]; simp only [Bool.and_eq_true, decide_eq_true_eq]; constructor
        · intro h; rw [h]; exact ⟨rfl, rfl⟩
        · intro h
          cases hx : nth a i
          cases hy : nth b i
          rw [hx, hy] at h; simp only at h; rw [h.1, h.2]
      rw [e]; by_cases h1 : (nth a i).Station = (nth b i).Station <;> by_cases h2 : (nth a i).Channels = (nth b i).Channels <;> simp [h1, h2]
  · rw [decide_eq_true (by omega), cond_true, decide_eq_false (fun e => hl (by rw [e]))]
theorem run_none {fuel : Nat} (hf : 100000 ≤ fuel) {l : List GChoice} (hok : okG p = true) (hv : (List.range l.length).all (chOkG l) = true) (hst : ¬ ∀ i, i < l.length → hasSt p (nth l i).Station = true) : Run_x fuel p l = some ([], false, 9) := by
  obtain ⟨hw, hbd, ht, hn⟩ := okG_bd hok; obtain ⟨m0, h1, h2⟩ := propagate_x (fuel := fuel) hw hbd (by omega) (by omega)
  have hall : (List.range l.length).all (fun i => hasSt p (nth l i).Station) = false := by
    cases h : (List.range l.length).all (fun i => hasSt p (nth l i).Station) with
    | false => rfl
    | true => exact absurd (fun i hi => List.all_eq_true.1 h i (List.mem_range.2 hi)) hst
  unfold Run_x; rw [hok, cond_true, h1, Option.bind_some, pvalidList_x, hv]; simp only [Bool.not_true, cond_false, joinK, Nat.sub_zero]; rw [iterK_allO (n := l.length) (z := some (([] : List GDomain), false, (9 : Int))) (fun i => hasSt p (nth l i).Station) (fun i next hi => by cases hasSt p (nth l i).Station <;> rfl), hall, cond_false]
end
end Go.Proofs.YtljgejbmimapdaaDoor
namespace Go.Proofs.YtljgejbmimapdaaDoor
open Go.RowKit
def nv : Value := .slice none 0 0
def Y0 : Tb := ⟨[1, 2, 3], ixAt (smp nv nv nv).ds 3, 7, [], (smp nv nv nv).psA 2, [], (smp nv nv nv).csA 1, [], (smp nv nv nv).inA 2, [], (smp nv nv nv).ouA 2⟩
section
variable {a b c : Value} {Y : Tb} (h : TbOf (smp a b c) Y)
include h
theorem sm_ps : Y.ps = Y0.ps := h.ps.trans rfl
theorem sm_cs : Y.cs = Y0.cs := h.cs.trans rfl
theorem sm_in : Y.inn = Y0.inn := h.inn.trans rfl
theorem sm_out : Y.out = Y0.out := h.out.trans rfl
theorem sm_n : Y.n = 3 := h.n
theorem sm_gone (L : Ws) (i : Nat) : goneF Y L i = goneF Y0 L i := by
  have h1 := sm_ps h; have h2 := sm_cs h; have h3 := sm_in h; have h4 := sm_out h; (have e1 : pairsF Y L i = pairsF Y0 L i := by unfold pairsF; rw [h1]); (have e2 : capsF Y L i = capsF Y0 L i := by unfold capsF; rw [h2, h3])
  have e3 : loadsF Y L i = loadsF Y0 L i := by
    unfold loadsF; rw [h4]; apply foldl_congr'; intro x _ s; unfold loadStep; rw [h2, h3]
  unfold goneF; rw [e1, e2, e3]
end
def l0 : Ws := [49152#64, 49152#64, 114688#64]
def k1 : Ws := [16384#64, 32768#64, 65536#64]
theorem sm_left (a b c : Value) : (smp a b c).left = l0 := by
  show [maskOf [14, 15], maskOf [14, 15], maskOf [14, 15, 16]] = l0
  decide
theorem sm_ok (a b c : Value) : (smp a b c).ok = true := by
  have e : (smp a b c).ok = (smp nv nv nv).ok := rfl; rw [e]; decide +kernel
theorem closed0 : ∀ i, i < 3 → nth l0 i ≠ 0#64 ∧ nth l0 i &&& goneF Y0 l0 i = 0#64 := by decide +kernel
theorem closed1 : ∀ i, i < 3 → nth k1 i ≠ 0#64 ∧ nth k1 i &&& goneF Y0 k1 i = 0#64 := by decide +kernel
def stepG (L : Ws) (i : Nat) : Ws := L.set i (nth L i &&& ~~~(goneF Y0 L i))
def t1 : Ws := [16384#64, 49152#64, 114688#64]
def t3 : Ws := [49152#64, 49152#64, 32768#64]
theorem steps1 : stepG (stepG t1 1) 2 = k1 := by decide +kernel
theorem steps3 : nth (stepG (stepG t3 1) 0) 0 = 0#64 := by decide +kernel
section
variable {a b c : Value} {Y : Tb} (h : TbOf (smp a b c) Y)
include h
theorem sm_tok : Y.Ok := h.ok (Pb.good (sm_ok a b c))
theorem sm_closed {K : Ws} (hl : K.length = 3) (hc : ∀ i, i < 3 → nth K i ≠ 0#64 ∧ nth K i &&& goneF Y0 K i = 0#64) : Closed Y K := ⟨by rw [hl, sm_n h], fun i hi => by
  rw [sm_n h] at hi; have := hc i hi
  exact ⟨this.1, by rw [sm_gone h]; exact this.2⟩⟩
theorem sm_reach {T M : Ws} {i : Nat} (hr : Reach Y T M) (hi : i < 3) : Reach Y T (stepG M i) := by
  unfold stepG; rw [← sm_gone h]; exact .step hr (by rw [sm_n h]; exact hi) (fun _ hj => hj)
theorem sm_new {L : Ws} {d : Bool} (hI : Is Y (smp a b c).left L d) : L = l0 ∧ d = false := by
  rw [sm_left] at hI; exact hI.eq (sm_tok h) (sm_closed h rfl closed0) .refl
theorem sm_check {x : Ch} : checkF Y false x = checkF Y0 false x := by
  unfold checkF atF; rw [h.ix]; rfl
theorem sm_asm1 : asm Y (smp a b c).left ⟨1, 14⟩ = t1 := by
  unfold asm; rw [sm_check h, sm_left]; decide +kernel
theorem sm_asm3 : asm Y (smp a b c).left ⟨3, 15⟩ = t3 := by
  unfold asm; rw [sm_check h, sm_left]; decide +kernel
theorem sm_fbd1 : fbd Y (smp a b c).left ⟨1, 15⟩ = t1 := by
  unfold fbd; rw [sm_check h, sm_left]; decide +kernel
theorem sm_one {L : Ws} {d : Bool} (hI : Is Y t1 L d) : L = k1 ∧ d = false := by
  refine hI.eq (sm_tok h) (sm_closed h rfl closed1) ?_; rw [← steps1]; exact sm_reach h (sm_reach h .refl (by decide)) (by decide)
theorem sm_three {L : Ws} {d : Bool} (hI : Is Y t3 L d) : d = true :=
  hI.conflict (sm_tok h) (i := 0) (by rw [sm_n h]; decide) steps3 (sm_reach h (sm_reach h .refl (by decide)) (by decide))
theorem sm_total : Y.total = 7 := h.total.trans rfl
theorem sm_st : Y.st = [1, 2, 3] := h.st.trans rfl
theorem sm_doms0 : domsF Y l0 Y.n = [(1, [14, 15]), (2, [14, 15]), (3, [14, 15, 16])] := by
  unfold domsF; rw [sm_n h, sm_st h]; (have e : ∀ m : BitVec 64, chansN m = (List.range' 0 64).filter m.getLsbD := fun m => by unfold chansN; rfl); simp only [e]
  decide +kernel
theorem sm_doms1 : domsF Y k1 Y.n = [(1, [14]), (2, [15]), (3, [16])] := by
  unfold domsF; rw [sm_n h, sm_st h]; (have e : ∀ m : BitVec 64, chansN m = (List.range' 0 64).filter m.getLsbD := fun m => by unfold chansN; rfl); simp only [e]
  decide +kernel
theorem sm_fix1 : fixF Y k1 Y.n = [⟨1, 14⟩, ⟨2, 15⟩, ⟨3, 16⟩] := by
  unfold fixF; rw [sm_n h, sm_st h]; decide +kernel
theorem sm_rem0 : removedF Y l0 false = 0 := by unfold removedF; rw [sm_total h]; decide +kernel
theorem sm_rem1 : removedF Y k1 false = 4 := by unfold removedF; rw [sm_total h]; decide +kernel
end
theorem dfix_pl (xs : List Dx) : dfix xs xs.length = ((xs.map Dx.pl).filter fun p => decide (p.2.length = 1)).map fun p => ⟨p.1, nth p.2 0⟩ := by
  unfold dfix; rw [List.take_length, List.filter_map, List.map_map]
  rfl
theorem pl_len {xs : List Dx} {l : List (Int × List Int)} (h : xs.map Dx.pl = l) : xs.length = l.length := by rw [← h, List.length_map]
theorem pl_chs {xs : List Dx} {l : List (Int × List Int)} (h : xs.map Dx.pl = l) (n : Nat) (hl : ∀ p ∈ l, p.2.length ≤ n) : ∀ d ∈ xs, d.chs.length ≤ n := fun d hd => hl (Dx.pl d) (by rw [← h]; exact List.mem_map.2 ⟨d, hd, rfl⟩)
def want : List Ch := [⟨1, 14⟩, ⟨2, 15⟩, ⟨3, 16⟩]
end Go.Proofs.YtljgejbmimapdaaDoor
namespace Go.Proofs.YtljgejbmimapdaaDoor
open Go.RowKit
theorem known_ret (w : World) (htab : Tab w) : Calls Tryd.prog 10 #[] w fun e w' => e = .returned (.bool true) ∧ Below w.heap.size w w' := by
  refine calls_T (M := fun _ => False) (hs := []) Tryd.func10 rfl rfl rfl (Hp.refl _ _) ?_; refine T.seq (T.region ?_); refine TL.run 1 rfl ?_; refine TL.nil (K.seq (T.seq (T.region ?_))); (refine TL.ew (Wt.none rfl) rfl rfl (Ew.callH rfl rfl rfl (fun w hw => sample_ret _)) ?_; rintro _ _ ⟨s1, -, rfl, rfl⟩); (refine TL.ew (Wt.none rfl) rfl rfl (Ew.callH rfl rfl rfl (fun w hw => new_ok s1.pb _ _ _ _ w (s1.prob hw) (htab.keptF hw) (sm_ok _ _ _))) ?_; rintro _ _ ⟨⟨g1, gl, tp, Y, L0, c0, w0⟩, hN, rfl, rfl⟩); dsimp only at hN; dsimp only [List.cons_append, List.nil_append]; have hTb := hN.tb; have hYok := sm_tok hTb; have hYn := sm_n hTb; have hI0 := hN.is (Pb.good (sm_ok _ _ _)); obtain ⟨rfl, rfl⟩ := sm_new hTb hI0; have hT := hN.at'; rw [show s1.pb.ds.length = 3 from rfl]; refine TL.run 5 rfl ?_; refine TL.nil (K.seq (T.seq (T.seq (T.region ?_)))); refine TL.run 1 rfl ?_; refine TL.y (Yv.binR rfl rfl rfl (eq46s _ _ _)) ?_; refine TL.run 1 rfl ?_; refine TL.yv (Wt.some rfl rfl rfl rfl) rfl rfl (Yv.pur rfl) ?_; refine TL.yv (Wt.some rfl rfl rfl rfl) rfl rfl (Yv.pur rfl) ?_; refine TL.run 2 rfl ?_; refine TL.yv (Wt.some rfl rfl rfl rfl) rfl rfl (Yv.pur rfl) ?_; (refine TL.ew (Wt.some rfl rfl rfl rfl) rfl rfl (Ew.callD rfl rfl rfl (fun w hw => removed_ret g1 Y l0 false w (StF.of (Y := Y) hw hT (Ent.fz_ok.1 (hw.own (Ent.fz w0) (by simp))) (htab.keptF hw) 0 1 (by rw [hYn]; rfl) (by rw [hYn]; rfl) (by rw [hYn]; rfl)).st hYok (by rw [sm_total hTb]; decide))) ?_; rintro _ _ ⟨rfl, rfl⟩); rw [sm_rem0 hTb]; refine TL.yv (Wt.some rfl rfl rfl rfl) rfl rfl (Yv.pur rfl) ?_; refine TL.run 2 rfl ?_; refine TL.yv (Wt.some rfl rfl rfl rfl) rfl rfl (Yv.pur rfl) ?_; (refine TL.ew (Wt.some rfl rfl rfl rfl) rfl rfl (Ew.callH rfl rfl rfl (fun w hw => domains_ok g1 Y l0 w (StF.of (Y := Y) hw hT (Ent.fz_ok.1 (hw.own (Ent.fz w0) (by simp))) (htab.keptF hw) 0 1 (by rw [hYn]; rfl) (by rw [hYn]; rfl) (by rw [hYn]; rfl)).st hYok)) ?_; rintro _ _ ⟨y24, hd24, rfl, rfl⟩); dsimp only [List.cons_append, List.nil_append]; rw [sm_doms0 hTb] at hd24; (refine TL.ew (Wt.some rfl rfl rfl rfl) rfl rfl (Ew.callH rfl rfl rfl (fun w hw => sample_ret _)) ?_; rintro _ _ ⟨s2, -, rfl, rfl⟩); refine TL.yv (Wt.some rfl rfl rfl rfl) rfl rfl (Yv.field rfl rfl rfl) ?_; (refine TL.ew (Wt.some rfl rfl rfl rfl) rfl rfl (Ew.callD rfl rfl rfl (fun w hw => sameDomains_ret y24.2 s2.pb.ds _ _ w (DomsAt.own hw 7 8 rfl rfl) (s2.prob hw).ds (by rw [pl_len hd24]; decide) (pl_chs hd24 _ (by decide)))) ?_; rintro _ _ ⟨rfl, rfl⟩); rw [show decide (y24.2.map Dx.pl = s2.pb.ds.map Dx.pl) = true from decide_eq_true (by rw [hd24]; rfl)]; refine TL.yv (Wt.some rfl rfl rfl rfl) rfl rfl (Yv.pur rfl) ?_; refine TL.run 1 rfl ?_; refine TL.nil (K.seq ?_); refine T.condF rfl rfl ?_; refine T.skip (K.seq (T.seq ?_)); refine T.weaken (hs' := [sRow g1 gl tp 3 false, sLeft gl 3 l0, Ent.fz w0]) Sub.refl (by repeat first | exact S0 | exact S1 | refine S2 ?_ | refine S3 ?_) ?_; refine T.region ?_; (refine TL.ew (Wt.none rfl) rfl rfl (Ew.callH rfl rfl rfl (fun w hw => sample_ret _)) ?_; rintro _ _ ⟨s3, -, rfl, rfl⟩); refine TL.y (Yv.build rfl rfl) ?_; (refine TL.ew (Wt.none rfl) rfl rfl (Ew.buildSlice rfl rfl rfl (by decide)) ?_; rintro _ _ ⟨g33, rfl, rfl⟩); (refine TL.ew (Wt.none rfl) rfl rfl (Ew.callH rfl rfl rfl (fun w hw => run_fine s3.pb _ _ _ _ ⟨1, 14⟩ _ w (s3.prob (by exact hw.sub (List.sublist_cons_self _ _))) (SlOf.lit (enc := Ch.cells) (size := 2) (fun _ => rfl) [⟨1, 14⟩] (Ent.row_ok.1 (hw.get (i := 0) rfl)) rfl rfl) (htab.keptF hw) (sm_ok _ _ _) (by decide) (fun Z hZ => by rw [sm_check hZ]; decide +kernel) (fun Z K d hZ hI => (sm_new hZ hI).2) (fun Z K d hZ hI => by rw [show s3.pb.left = (smp _ _ _).left from rfl, sm_asm1 hZ] at hI; exact (sm_one hZ hI).2))) ?_; rintro _ _ ⟨y34, ⟨Y1, L1, hT1, hI1, hd1⟩, rfl, rfl⟩); dsimp only [List.cons_append, List.nil_append]; (have hL1 : L1 = k1 := by rw [show s3.pb.left = (smp _ _ _).left from rfl, sm_asm1 hT1] at hI1; exact (sm_one hT1 hI1).1); subst hL1; rw [sm_doms1 hT1] at hd1; have hlen34 : y34.2.length = 3 := pl_len hd1; refine TL.run 7 rfl ?_; refine TL.nil (K.seq (T.seq ?_)); refine T.weaken (hs' := [.sl y34.1 64 2 y34.2.length (y34.2.flatMap Dx.cells), .bag (y34.2.map dE), sRow g1 gl tp 3 false, sLeft gl 3 l0, Ent.fz w0]) Sub.refl (by repeat first | exact S0 | exact S1 | refine S2 ?_ | refine S3 ?_) ?_; refine T.region ?_; refine TL.y (Yv.build rfl rfl) ?_; refine TL.y (Yv.build rfl rfl) ?_; refine TL.y (Yv.build rfl rfl) ?_; (refine TL.ew (Wt.none rfl) rfl rfl (Ew.buildSlice rfl rfl rfl (by decide)) ?_; rintro _ _ ⟨g41, rfl, rfl⟩); refine TL.run 1 rfl ?_; refine TL.nil (K.seq (T.seq (T.seq (T.region ?_)))); refine TL.run 3 rfl ?_; refine TL.yv (Wt.some rfl rfl rfl rfl) rfl rfl (Yv.pur rfl) ?_; refine TL.run 2 rfl ?_; refine TL.yv (Wt.some rfl rfl rfl rfl) rfl rfl (Yv.pur rfl) ?_; refine TL.yv (Wt.some rfl rfl rfl rfl) rfl rfl (Yv.lenE 1 rfl rfl rfl) ?_; refine TL.yv (Wt.some rfl rfl rfl rfl) rfl rfl (Yv.pur rfl) ?_; refine TL.run 2 rfl ?_; refine TL.yv (Wt.some rfl rfl rfl (by rw [hlen34]; rfl)) rfl rfl (Yv.pur rfl) ?_; (refine TL.ew (Wt.some rfl rfl rfl (by rw [hlen34]; rfl)) rfl rfl (Ew.callH rfl rfl rfl (fun w hw => dfixed_ret y34.2 _ w (DomsAt.own hw 1 2 rfl rfl) (by omega))) ?_; rintro v54 _ ⟨_, -, rfl, rfl⟩); dsimp only [List.cons_append, List.nil_append]; rw [show dfix y34.2 y34.2.length = want from by rw [dfix_pl, hd1]; decide]; refine TL.yv (Wt.some rfl rfl rfl (by rw [hlen34]; rfl)) rfl rfl (Yv.pur rfl) ?_; (refine TL.ew (Wt.some rfl rfl rfl (by rw [hlen34]; rfl)) rfl rfl (Ew.callD rfl rfl rfl (fun w hw => sameList_ret want want _ _ w (SlOf.ownAt (enc := Ch.cells) (fun _ => rfl) hw 0 rfl rfl) (SlOf.lit (enc := Ch.cells) (size := 2) (fun _ => rfl) want (Ent.row_ok.1 (hw.get (i := 1) rfl)) rfl rfl) (by decide))) ?_; rintro _ _ ⟨rfl, rfl⟩); rw [show decide (want = want) = true from decide_eq_true rfl]; refine TL.yv (Wt.some rfl rfl rfl (by rw [hlen34]; rfl)) rfl rfl (Yv.pur rfl) ?_; refine TL.y (Yv.pickF rfl rfl (by rw [hlen34]; rfl) rfl) ?_; refine TL.nil (K.seq ?_); refine T.condF rfl rfl ?_; refine T.skip (K.seq (T.seq ?_)); refine T.weaken (hs' := [.row g41 40 (want.flatMap Ch.cells), sRow g1 gl tp 3 false, sLeft gl 3 l0, Ent.fz w0]) Sub.refl (by repeat first | exact S0 | exact S1 | refine S2 ?_ | refine S3 ?_) ?_; refine T.region ?_; (refine TL.ew (Wt.none rfl) rfl rfl (Ew.callH rfl rfl rfl (fun w hw => sample_ret _)) ?_; rintro _ _ ⟨s4, -, rfl, rfl⟩); refine TL.y (Yv.build rfl rfl) ?_; (refine TL.ew (Wt.none rfl) rfl rfl (Ew.buildSlice rfl rfl rfl (by decide)) ?_; rintro _ _ ⟨g62, rfl, rfl⟩); (refine TL.ew (Wt.none rfl) rfl rfl (Ew.callD rfl rfl rfl (fun w hw => run_conf s4.pb _ _ _ _ ⟨3, 15⟩ _ w (s4.prob (by exact hw.sub (List.sublist_cons_self _ _))) (SlOf.lit (enc := Ch.cells) (size := 2) (fun _ => rfl) [⟨3, 15⟩] (Ent.row_ok.1 (hw.get (i := 0) rfl)) rfl rfl) (htab.keptF hw) (sm_ok _ _ _) (by decide) (fun Z hZ => by rw [sm_check hZ]; decide +kernel) (fun Z K d hZ hI => (sm_new hZ hI).2) (fun Z K d hZ hI => by rw [show s4.pb.left = (smp _ _ _).left from rfl, sm_asm3 hZ] at hI; exact sm_three hZ hI))) ?_; rintro _ _ ⟨rfl, rfl⟩); refine TL.run 7 rfl ?_; refine TL.nil (K.seq (T.seq ?_)); refine T.weaken (hs' := [.row g41 40 (want.flatMap Ch.cells), sRow g1 gl tp 3 false, sLeft gl 3 l0, Ent.fz w0]) Sub.refl (by repeat first | exact S0 | exact S1 | refine S2 ?_ | refine S3 ?_) ?_; refine T.permH (List.perm_append_comm (l₁ := [Ent.row g41 40 (want.flatMap Ch.cells)])) ?_; dsimp only [List.cons_append, List.nil_append]; refine T.region ?_; refine TL.run 3 rfl ?_; refine TL.yv (Wt.some rfl rfl rfl rfl) rfl rfl (Yv.pur rfl) ?_; refine TL.run 2 rfl ?_; refine TL.yv (Wt.some rfl rfl rfl rfl) rfl rfl (Yv.pur rfl) ?_; refine TL.yv (Wt.some rfl rfl rfl rfl) rfl rfl (Yv.lenSl rfl rfl) ?_; refine TL.yv (Wt.some rfl rfl rfl rfl) rfl rfl (Yv.pur rfl) ?_; refine TL.run 2 rfl ?_; refine TL.yv (Wt.some rfl rfl rfl rfl) rfl rfl (Yv.pur rfl) ?_; refine TL.yv (Wt.some rfl rfl rfl rfl) rfl rfl (Yv.build rfl rfl) ?_; rw [← hYn]; (refine TL.ew (Wt.some rfl rfl rfl rfl) rfl rfl (Ew.callL [sRow g1 gl tp Y.n false, sLeft gl Y.n l0] [Ent.fz w0, Ent.row g41 40 (want.flatMap Ch.cells)] rfl rfl rfl (List.Perm.refl _) (fun w hw hw2 => forbid_ok w0 g1 gl tp Y l0 w hT hYok (Ent.fz_ok.1 (hw2.own (Ent.fz w0) (by simp))) (htab.keptF hw) hw2.part (fun g hg hc => hw2.sep (f := Ent.fz w0) (by simp) g hg (Ent.fz_fp.2 hc)) (hw2.no0 htab) (by rw [hYn]; rfl) (sm_closed hTb rfl closed0).calm hTb.ixn ⟨1, 15⟩ (by rw [sm_check hTb]; decide +kernel))) ?_; rintro _ _ ⟨y80, hpost, rfl, rfl⟩); dsimp only [List.cons_append, List.nil_append]; rw [hYn]; have hI80 := hI0.cut hYok (by rw [sm_check hTb, hYn]; decide +kernel) (Is.of hYok (by unfold cutL; rw [List.length_set, hYn]; rfl) hpost); obtain ⟨L8, c8⟩ := y80; dsimp only at hI80 ⊢; (have hI81 : Is Y t1 L8 c8 := by rw [← sm_fbd1 hTb]; exact hI80); obtain ⟨rfl, rfl⟩ := sm_one hTb hI81; refine TL.yv (Wt.some rfl rfl rfl rfl) rfl rfl (Yv.pur rfl) ?_; refine TL.run 2 rfl ?_; refine TL.yv (Wt.some rfl rfl rfl rfl) rfl rfl (Yv.pur rfl) ?_; (refine TL.ew (Wt.some rfl rfl rfl rfl) rfl rfl (Ew.callH rfl rfl rfl (fun w hw => fixed_ret g1 Y k1 w (StF.of (Y := Y) hw hT (Ent.fz_ok.1 (hw.own (Ent.fz w0) (by simp))) (htab.keptF hw) 0 1 (by rw [hYn]; rfl) (by rw [hYn]; rfl) (by rw [hYn]; rfl)).st hYok)) ?_; rintro v85 _ ⟨_, -, rfl, rfl⟩); dsimp only [List.cons_append, List.nil_append]; rw [sm_fix1 hTb]; refine TL.yv (Wt.some rfl rfl rfl rfl) rfl rfl (Yv.pur rfl) ?_; (refine TL.ew (Wt.some rfl rfl rfl rfl) rfl rfl (Ew.callD rfl rfl rfl (fun w hw => sameList_ret want want _ _ w (SlOf.ownAt (enc := Ch.cells) (fun _ => rfl) hw 0 rfl rfl) (SlOf.lit (enc := Ch.cells) (size := 2) (fun _ => rfl) want (Ent.row_ok.1 (hw.get (i := 4) rfl)) rfl rfl) (by decide))) ?_; rintro _ _ ⟨rfl, rfl⟩); rw [show decide (want = want) = true from decide_eq_true rfl]; refine TL.run 2 rfl ?_; refine TL.yv (Wt.some rfl rfl rfl rfl) rfl rfl (Yv.pur rfl) ?_; (refine TL.ew (Wt.some rfl rfl rfl rfl) rfl rfl (Ew.callD rfl rfl rfl (fun w hw => removed_ret g1 Y k1 false w (StF.of (Y := Y) hw hT (Ent.fz_ok.1 (hw.own (Ent.fz w0) (by simp))) (htab.keptF hw) 1 2 (by rw [hYn]; rfl) (by rw [hYn]; rfl) (by rw [hYn]; rfl)).st hYok (by rw [sm_total hTb]; decide))) ?_; rintro _ _ ⟨rfl, rfl⟩); rw [sm_rem1 hTb]; refine TL.yv (Wt.some rfl rfl rfl rfl) rfl rfl (Yv.pur rfl) ?_; refine TL.run 2 rfl ?_; refine TL.yv (Wt.some rfl rfl rfl rfl) rfl rfl (Yv.pur rfl) ?_; (refine TL.ew (Wt.some rfl rfl rfl rfl) rfl rfl (Ew.callD rfl rfl rfl (fun w hw => conflict_ret g1 Y k1 false w (StF.of (Y := Y) hw hT (Ent.fz_ok.1 (hw.own (Ent.fz w0) (by simp))) (htab.keptF hw) 1 2 (by rw [hYn]; rfl) (by rw [hYn]; rfl) (by rw [hYn]; rfl)).st)) ?_; rintro _ _ ⟨rfl, rfl⟩); refine TL.yv (Wt.some rfl rfl rfl rfl) rfl rfl (Yv.pur rfl) ?_; refine TL.run 2 rfl ?_; refine TL.nil (K.seq (T.ret ?_)); refine K.ret1 rfl rfl (fun w' hw => ⟨?_, hw.isBelow⟩)
  rfl
end Go.Proofs.YtljgejbmimapdaaDoor
namespace Go.Proofs.YtljgejbmimapdaaDoor
open Go.RowKit
def law18_shifted_x (p : GProblem) (by_ : Int) : Option GProblem :=
  joinK (fun (s5 : List GDomain × List GPair × List GLoad × List GCap) =>
    joinK (fun (s25 : List GDomain × List GPair × List GLoad × List GCap) =>
      joinK (fun (s37 : List GDomain × List GPair × List GLoad × List GCap) =>
        joinK (fun (s49 : List GDomain × List GPair × List GLoad × List GCap) =>
          some (GProblem.mk s49.1 (GRules.mk s49.2.1 s49.2.2.1 s49.2.2.2)))
        (fun k49 =>
          iterK (fun (i_55 : Nat) (next54 : (List GDomain × List GPair × List GLoad × List GCap) → Option GProblem) (s54 : List GDomain × List GPair × List GLoad × List GCap) =>
            grd (room (s54.2.2.2 ++ [(GCap.mk ((nth p.Rules.Caps i_55).Station) ((nth p.Rules.Caps i_55).Max) (wI (((nth p.Rules.Caps i_55).Low) + by_)) (wI (((nth p.Rules.Caps i_55).High) + by_)))]).length 32) <|
            next54 (s54.1, s54.2.1, s54.2.2.1, (s54.2.2.2 ++ [(GCap.mk ((nth p.Rules.Caps i_55).Station) ((nth p.Rules.Caps i_55).Max) (wI (((nth p.Rules.Caps i_55).Low) + by_)) (wI (((nth p.Rules.Caps i_55).High) + by_)))])))
          (fun (s54 : List GDomain × List GPair × List GLoad × List GCap) =>
            k49 (s54.1, s54.2.1, s54.2.2.1, s54.2.2.2)) (p.Rules.Caps.length - 0) 0 (s37.1, s37.2.1, s37.2.2.1, s37.2.2.2)))
      (fun k37 =>
        iterK (fun (i_43 : Nat) (next42 : (List GDomain × List GPair × List GLoad × List GCap) → Option GProblem) (s42 : List GDomain × List GPair × List GLoad × List GCap) =>
          grd (room (s42.2.2.1 ++ [(GLoad.mk ((nth p.Rules.Loads i_43).To) ((nth p.Rules.Loads i_43).From) ((nth p.Rules.Loads i_43).Weight) (wI (((nth p.Rules.Loads i_43).Low) + by_)) (wI (((nth p.Rules.Loads i_43).High) + by_)))]).length 40) <|
          next42 (s42.1, s42.2.1, (s42.2.2.1 ++ [(GLoad.mk ((nth p.Rules.Loads i_43).To) ((nth p.Rules.Loads i_43).From) ((nth p.Rules.Loads i_43).Weight) (wI (((nth p.Rules.Loads i_43).Low) + by_)) (wI (((nth p.Rules.Loads i_43).High) + by_)))]), s42.2.2.2))
        (fun (s42 : List GDomain × List GPair × List GLoad × List GCap) =>
          k37 (s42.1, s42.2.1, s42.2.2.1, s42.2.2.2)) (p.Rules.Loads.length - 0) 0 (s25.1, s25.2.1, s25.2.2.1, s25.2.2.2)))
    (fun k25 =>
      iterK (fun (i_31 : Nat) (next30 : (List GDomain × List GPair × List GLoad × List GCap) → Option GProblem) (s30 : List GDomain × List GPair × List GLoad × List GCap) =>
        grd (room (s30.2.1 ++ [(GPair.mk ((nth p.Rules.Pairs i_31).A) ((nth p.Rules.Pairs i_31).B) ((nth p.Rules.Pairs i_31).Offset) (wI (((nth p.Rules.Pairs i_31).Low) + by_)) (wI (((nth p.Rules.Pairs i_31).High) + by_)))]).length 40) <|
        next30 (s30.1, (s30.2.1 ++ [(GPair.mk ((nth p.Rules.Pairs i_31).A) ((nth p.Rules.Pairs i_31).B) ((nth p.Rules.Pairs i_31).Offset) (wI (((nth p.Rules.Pairs i_31).Low) + by_)) (wI (((nth p.Rules.Pairs i_31).High) + by_)))]), s30.2.2.1, s30.2.2.2))
      (fun (s30 : List GDomain × List GPair × List GLoad × List GCap) =>
        k25 (s30.1, s30.2.1, s30.2.2.1, s30.2.2.2)) (p.Rules.Pairs.length - 0) 0 (s5.1, s5.2.1, s5.2.2.1, s5.2.2.2)))
  (fun k5 =>
    iterK (fun (i_11 : Nat) (next10 : (List GDomain × List GPair × List GLoad × List GCap) → Option GProblem) (s10 : List GDomain × List GPair × List GLoad × List GCap) =>
      joinK (fun (s15 : Int × List Int) =>
        grd (room (s10.1 ++ [(GDomain.mk s15.1 s15.2)]).length 32) <|
        next10 ((s10.1 ++ [(GDomain.mk s15.1 s15.2)]), s10.2.1, s10.2.2.1, s10.2.2.2))
      (fun k15 =>
        iterK (fun (k_19 : Nat) (next18 : (Int × List Int) → Option GProblem) (s18 : Int × List Int) =>
          grd (room (s18.2 ++ [wI ((nth ((nth p.Domains i_11).Channels) k_19) + by_)]).length 8) <|
          next18 (s18.1, (s18.2 ++ [wI ((nth ((nth p.Domains i_11).Channels) k_19) + by_)])))
        (fun (s18 : Int × List Int) =>
          k15 (s18.1, s18.2)) ((((nth p.Domains i_11).Channels).length) - 0) 0 ((nth p.Domains i_11).Station, [])))
    (fun (s10 : List GDomain × List GPair × List GLoad × List GCap) =>
      k5 (s10.1, s10.2.1, s10.2.2.1, s10.2.2.2)) (p.Domains.length - 0) 0 ([], [], [], []))
theorem law18_shifted_c (F0 : Frz) (w : World) (hF0 : F0.At w) (p : GProblem) (vp_0 : Value) (cp_0 : List (List Value)) (hp_0 : SlD GDomain.rep F0 vp_0 2 cp_0 p.Domains) (vp_1 : Value) (hp_1 : SlC F0 vp_1 5 (p.Rules.Pairs.map GPair.enc)) (vp_2 : Value) (hp_2 : SlC F0 vp_2 5 (p.Rules.Loads.map GLoad.enc)) (vp_3 : Value) (hp_3 : SlC F0 vp_3 4 (p.Rules.Caps.map GCap.enc)) (by_ : Int) (r : GProblem) (hr : law18_shifted_x p by_ = some r) : Calls Tryd.prog 22 #[.agg [vp_0, vp_1, vp_2, vp_3].toArray, .int .i64 by_] w fun e w' => ∃ (y : Value × List (List Value) × Value × Value × Value) (G : Frz), (SlD GDomain.rep G y.1 2 y.2.1 r.Domains ∧ SlC G y.2.2.1 5 (r.Rules.Pairs.map GPair.enc) ∧ SlC G y.2.2.2.1 5 (r.Rules.Loads.map GLoad.enc) ∧ SlC G y.2.2.2.2 4 (r.Rules.Caps.map GCap.enc)) ∧ e = .returned (.agg [y.1, y.2.2.1, y.2.2.2.1, y.2.2.2.2].toArray) ∧ Fx F0 w G w' := by
  have hk := hr; unfold law18_shifted_x at hk; haveI := hp_0.1.oneC; haveI := hp_1.oneC; haveI := hp_2.oneC; haveI := hp_3.oneC; obtain ⟨S0, F1, rfl, hS0, hp0⟩ := startF_ex hF0; refine calls_T (M := fun _ => False) (hs := [.fr F1]) Tryd.func22 rfl rfl rfl hp0 ?_; refine T.seq (T.region ?_); refine TL.e (Ew.boxA rfl rfl) ?_; rintro _ _ ⟨g2, rfl, rfl⟩; refine TL.e (Ew.alloc rfl) ?_; rintro _ _ ⟨g4, rfl, rfl⟩; refine TL.nil (K.seq (T.seq (T.region ?_))); refine TL.e (Ew.alloc rfl) ?_; rintro _ _ ⟨g5, rfl, rfl⟩; refine TL.slNil 64 2 ?_; refine TL.slNil 84 5 ?_; refine TL.slNil 86 5 ?_; refine TL.slNil 88 4 ?_; refine TL.nil (K.seq (T.seq (T.seq (T.region ?_)))); refine TL.run 1 rfl ?_; refine TL.nil (K.seq ?_); have hq := joinK_open hk; clear hk; obtain ⟨k5, hk5, hk⟩ := hq; (try dsimp only at hk); refine T.cutXK (ι := List GDomain × Value × List (List Value) × List GPair × Value × List GLoad × Value × List GCap × Value × FzB w (fun _ => False) S0) (fun z => [(1, .int .i64 by_), (2, .pointer (some ⟨g2, 0, none⟩)), (4, .pointer (some ⟨g4, 0, none⟩)), (5, .pointer (some ⟨g5, 0, none⟩))]) (fun z => [.sl z.2.1 64 2 z.1.length z.2.2.1.flatten, .sl z.2.2.2.2.1 84 5 z.2.2.2.1.length (z.2.2.2.1.flatMap GPair.enc), .sl z.2.2.2.2.2.2.1 86 5 z.2.2.2.2.2.1.length (z.2.2.2.2.2.1.flatMap GLoad.enc), .sl z.2.2.2.2.2.2.2.2.1 88 4 z.2.2.2.2.2.2.2.1.length (z.2.2.2.2.2.2.2.1.flatMap GCap.enc), .row g5 29 [z.2.1, z.2.2.2.2.1, z.2.2.2.2.2.2.1, z.2.2.2.2.2.2.2.2.1], .row g4 29 [(.slice none 0 0), (.slice none 0 0), (.slice none 0 0), (.slice none 0 0)], .row g2 29 [vp_0, vp_1, vp_2, vp_3], .fr z.2.2.2.2.2.2.2.2.2]) (fun z => k5 (z.1, z.2.2.2.1, z.2.2.2.2.2.1, z.2.2.2.2.2.2.2.1) = some r ∧ OwnD GDomain.rep z.2.2.2.2.2.2.2.2.2.toFrz 2 z.2.2.1 z.1 ∧ OneC z.2.1 ∧ OneC z.2.2.2.2.1 ∧ OneC z.2.2.2.2.2.2.1 ∧ OneC z.2.2.2.2.2.2.2.2.1 ∧ F1.toFrz.Le z.2.2.2.2.2.2.2.2.2.toFrz) ?_ ?_
  · have hq := iterK_open hk; clear hk; obtain ⟨f10, kk10, hf10, hkk10, hk⟩ := hq; refine T.block ?_; refine T.pick [3, 2, 1, 0, 4, 5, 6, 7] rfl (by decide) ?_; refine T.loop (ι := Nat × List GDomain × Value × List (List Value) × List GPair × Value × List GLoad × Value × List GCap × Value × FzB w (fun _ => False) S0) (fun z => [(1, .int .i64 by_), (2, .pointer (some ⟨g2, 0, none⟩)), (4, .pointer (some ⟨g4, 0, none⟩)), (5, .pointer (some ⟨g5, 0, none⟩)), (6, .int .i64 (z.1 : Int))]) (fun z => [.sl z.2.2.1 64 2 z.2.1.length z.2.2.2.1.flatten, .sl z.2.2.2.2.2.1 84 5 z.2.2.2.2.1.length (z.2.2.2.2.1.flatMap GPair.enc), .sl z.2.2.2.2.2.2.2.1 86 5 z.2.2.2.2.2.2.1.length (z.2.2.2.2.2.2.1.flatMap GLoad.enc), .sl z.2.2.2.2.2.2.2.2.2.1 88 4 z.2.2.2.2.2.2.2.2.1.length (z.2.2.2.2.2.2.2.2.1.flatMap GCap.enc), .row g5 29 [z.2.2.1, z.2.2.2.2.2.1, z.2.2.2.2.2.2.2.1, z.2.2.2.2.2.2.2.2.2.1], .row g4 29 [(.slice none 0 0), (.slice none 0 0), (.slice none 0 0), (.slice none 0 0)], .row g2 29 [vp_0, vp_1, vp_2, vp_3], .fr z.2.2.2.2.2.2.2.2.2.2]) (fun z => iterK f10 kk10 (p.Domains.length - z.1) z.1 (z.2.1, z.2.2.2.2.1, z.2.2.2.2.2.2.1, z.2.2.2.2.2.2.2.2.1) = some r ∧ OwnD GDomain.rep z.2.2.2.2.2.2.2.2.2.2.toFrz 2 z.2.2.2.1 z.2.1 ∧ OneC z.2.2.1 ∧ OneC z.2.2.2.2.2.1 ∧ OneC z.2.2.2.2.2.2.2.1 ∧ OneC z.2.2.2.2.2.2.2.2.2.1 ∧ F1.toFrz.Le z.2.2.2.2.2.2.2.2.2.2.toFrz) (fun z => p.Domains.length - z.1) (0, [], (.slice none 0 0), [], [], (.slice none 0 0), [], (.slice none 0 0), [], (.slice none 0 0), F1) ?_ ?_ ?_ ?_
    · exact ⟨hk, (OwnD.nil _ _ 2), inferInstance, inferInstance, inferInstance, inferInstance, (Frz.Le.refl _)⟩
    · exact (.c (.c (.c (.c (.c .nil)))))
    · exact List.Sublist.refl _
    · rintro ⟨i_11, c_6, vc_6, cc_6, c_7, vc_7, c_8, vc_8, c_9, vc_9, F3⟩ ⟨hk, hc_6, oc_6, oc_7, oc_8, oc_9, le1_3⟩; (try dsimp only at *); refine T.seq (T.seq (T.region ?_)); refine TL.run 1 rfl ?_; refine TL.y (Yv.fieldAddr rfl rfl) ?_; refine TL.y (Yv.loadO 6 rfl rfl rfl rfl) ?_; refine TL.y (Yv.lenR rfl rfl (SlD.mono (rep := GDomain.rep) (fun _ _ _ _ => GDomain.mono) hp_0 le1_3).1 (SlD.mono (rep := GDomain.rep) (fun _ _ _ _ => GDomain.mono) hp_0 le1_3).2.1) ?_; have hm18 : p.Domains.length ≤ 9223372036854775807 := (SlD.mono (rep := GDomain.rep) (fun _ _ _ _ => GDomain.mono) hp_0 le1_3).2.1 ▸ (SlD.mono (rep := GDomain.rep) (fun _ _ _ _ => GDomain.mono) hp_0 le1_3).1.max; refine TL.run 1 rfl ?_; refine TL.nil (K.seq ?_); refine T.cond rfl (fun h12 => ?_) (fun h12 => ?_)
      · have p12 := of_decide_eq_true h12; rw [iterK_lt (by omega)] at hk; generalize hn10 : iterK f10 kk10 (p.Domains.length - (i_11 + 1)) (i_11 + 1) = next10 at hk; rw [← hf10] at hk; (try dsimp only at hk); refine T.skip (K.seq (T.seq (T.block (T.seq (T.region ?_))))); refine TL.y (Yv.fieldAddr rfl rfl) ?_; refine TL.y (Yv.loadO 6 rfl rfl rfl rfl) ?_; refine TL.run 1 rfl ?_; refine TL.y (Yv.idxR (i := i_11) rfl rfl rfl (SlD.mono (rep := GDomain.rep) (fun _ _ _ _ => GDomain.mono) hp_0 le1_3).1 (SlD.mono (rep := GDomain.rep) (fun _ _ _ _ => GDomain.mono) hp_0 le1_3).2.1 rfl (by omega)) ?_; refine TL.y (Yv.fldR rfl rfl (SlD.mono (rep := GDomain.rep) (fun _ _ _ _ => GDomain.mono) hp_0 le1_3).1 (SlD.mono (rep := GDomain.rep) (fun _ _ _ _ => GDomain.mono) hp_0 le1_3).2.1 (by omega)) ?_; refine TL.y (Yv.loadR 7 (i := i_11) (j := 0) rfl rfl rfl (SlD.mono (rep := GDomain.rep) (fun _ _ _ _ => GDomain.mono) hp_0 le1_3).1 (SlD.mono (rep := GDomain.rep) (fun _ _ _ _ => GDomain.mono) hp_0 le1_3).2.1 (by omega) rfl (GDomain.c0 ((SlD.mono (rep := GDomain.rep) (fun _ _ _ _ => GDomain.mono) hp_0 le1_3).2.2 i_11 (by omega)))) ?_; refine TL.y (Yv.build rfl rfl) ?_; refine TL.e (Ew.alloc rfl) ?_; rintro _ _ ⟨g7, rfl, rfl⟩; refine TL.slNil 3 1 ?_; refine TL.e0 (Ew.storeAll 1 rfl rfl rfl rfl rfl rfl) ?_; rintro _ _ ⟨rfl, rfl⟩; refine TL.slNil 3 1 ?_; refine TL.nil (K.seq (T.seq (T.seq (T.region ?_)))); refine TL.run 1 rfl ?_; refine TL.nil (K.seq ?_); have hq := joinK_open hk; clear hk; obtain ⟨k15, hk15, hk⟩ := hq; (try dsimp only at hk); refine T.cutXK (ι := Int × List Int × Value) (fun z => [(1, .int .i64 by_), (2, .pointer (some ⟨g2, 0, none⟩)), (4, .pointer (some ⟨g4, 0, none⟩)), (5, .pointer (some ⟨g5, 0, none⟩)), (6, .int .i64 (i_11 : Int)), (7, .pointer (some ⟨g7, 0, none⟩))]) (fun z => [.sl z.2.2 3 1 z.2.1.length (z.2.1.flatMap eI), .row g7 64 [.int .i64 z.1, z.2.2], .sl vc_6 64 2 c_6.length cc_6.flatten, .sl vc_7 84 5 c_7.length (c_7.flatMap GPair.enc), .sl vc_8 86 5 c_8.length (c_8.flatMap GLoad.enc), .sl vc_9 88 4 c_9.length (c_9.flatMap GCap.enc), .row g5 29 [vc_6, vc_7, vc_8, vc_9], .row g4 29 [(.slice none 0 0), (.slice none 0 0), (.slice none 0 0), (.slice none 0 0)], .row g2 29 [vp_0, vp_1, vp_2, vp_3], .fr F3]) (fun z => k15 (z.1, z.2.1) = some r ∧ OneC z.2.2) ?_ ?_
        · have hq := iterK_open hk; clear hk; obtain ⟨f18, kk18, hf18, hkk18, hk⟩ := hq; refine T.block ?_; refine T.pick [0, 2, 3, 4, 5, 6, 7, 8, 9, 10] rfl (by decide) ?_; refine T.loop (ι := Nat × Int × List Int × Value) (fun z => [(1, .int .i64 by_), (2, .pointer (some ⟨g2, 0, none⟩)), (4, .pointer (some ⟨g4, 0, none⟩)), (5, .pointer (some ⟨g5, 0, none⟩)), (6, .int .i64 (i_11 : Int)), (7, .pointer (some ⟨g7, 0, none⟩)), (8, .int .i64 (z.1 : Int))]) (fun z => [.sl z.2.2.2 3 1 z.2.2.1.length (z.2.2.1.flatMap eI), .row g7 64 [.int .i64 z.2.1, z.2.2.2], .sl vc_6 64 2 c_6.length cc_6.flatten, .sl vc_7 84 5 c_7.length (c_7.flatMap GPair.enc), .sl vc_8 86 5 c_8.length (c_8.flatMap GLoad.enc), .sl vc_9 88 4 c_9.length (c_9.flatMap GCap.enc), .row g5 29 [vc_6, vc_7, vc_8, vc_9], .row g4 29 [(.slice none 0 0), (.slice none 0 0), (.slice none 0 0), (.slice none 0 0)], .row g2 29 [vp_0, vp_1, vp_2, vp_3], .fr F3]) (fun z => iterK f18 kk18 ((((nth p.Domains i_11).Channels).length) - z.1) z.1 (z.2.1, z.2.2.1) = some r ∧ OneC z.2.2.2) (fun z => (((nth p.Domains i_11).Channels).length) - z.1) (0, (nth p.Domains i_11).Station, [], (.slice none 0 0)) ?_ ?_ ?_ ?_
          · exact ⟨hk, inferInstance⟩
          · exact (.c (.c (.c (.c (.c (.c (.c .nil)))))))
          · exact List.Sublist.refl _
          · rintro ⟨k_19, c_16, c_17, vc_17⟩ ⟨hk, oc_17⟩; (try dsimp only at *); refine T.seq (T.seq (T.region ?_)); refine TL.run 1 rfl ?_; refine TL.y (Yv.fieldAddr rfl rfl) ?_; refine TL.y (Yv.loadO 8 rfl rfl rfl rfl) ?_; refine TL.run 1 rfl ?_; refine TL.y (Yv.idxR (i := i_11) rfl rfl rfl (SlD.mono (rep := GDomain.rep) (fun _ _ _ _ => GDomain.mono) hp_0 le1_3).1 (SlD.mono (rep := GDomain.rep) (fun _ _ _ _ => GDomain.mono) hp_0 le1_3).2.1 rfl (by omega)) ?_; refine TL.y (Yv.fldR rfl rfl (SlD.mono (rep := GDomain.rep) (fun _ _ _ _ => GDomain.mono) hp_0 le1_3).1 (SlD.mono (rep := GDomain.rep) (fun _ _ _ _ => GDomain.mono) hp_0 le1_3).2.1 (by omega)) ?_; refine TL.y (Yv.loadR 9 (i := i_11) (j := 1) rfl rfl rfl (SlD.mono (rep := GDomain.rep) (fun _ _ _ _ => GDomain.mono) hp_0 le1_3).1 (SlD.mono (rep := GDomain.rep) (fun _ _ _ _ => GDomain.mono) hp_0 le1_3).2.1 (by omega) rfl (GDomain.c1 ((SlD.mono (rep := GDomain.rep) (fun _ _ _ _ => GDomain.mono) hp_0 le1_3).2.2 i_11 (by omega))).1) ?_; have hd35_1 := (GDomain.c1 ((SlD.mono (rep := GDomain.rep) (fun _ _ _ _ => GDomain.mono) hp_0 le1_3).2.2 i_11 (by omega))).2; haveI := hd35_1.oneC; refine TL.y (Yv.lenR rfl rfl hd35_1 (List.length_map _)) ?_; have hm36 : ((nth p.Domains i_11).Channels).length ≤ 9223372036854775807 := (List.length_map _) ▸ hd35_1.max; refine TL.run 1 rfl ?_; refine TL.nil (K.seq ?_); refine T.cond rfl (fun h20 => ?_) (fun h20 => ?_)
            · have p20 := of_decide_eq_true h20; rw [iterK_lt (by omega)] at hk; generalize hn18 : iterK f18 kk18 ((((nth p.Domains i_11).Channels).length) - (k_19 + 1)) (k_19 + 1) = next18 at hk; rw [← hf18] at hk; (try dsimp only at hk); refine T.skip (K.seq (T.seq (T.block ?_))); have hq : (room (c_17 ++ [wI ((nth ((nth p.Domains i_11).Channels) k_19) + by_)]).length 8) ∧ _ := grd_some hk; clear hk; obtain ⟨g54, hk⟩ := hq; (try dsimp only at hk); refine T.draw (.still 0 (.still 2 (.still 3 (.still 4 (.still 5 (.still 6 (.still 7 (.still 8 (.still 9 (.still 10 (.still 11 (.still 12 (.two 1 13 (.eff 13 (.eff 14 (.still 15 (.eff 16 .done)))) (.eff 1 (.eff 14 (.still 15 (.eff 16 .done))))))))))))))))) [.sl vc_6 64 2 c_6.length cc_6.flatten, .sl vc_7 84 5 c_7.length (c_7.flatMap GPair.enc), .sl vc_8 86 5 c_8.length (c_8.flatMap GLoad.enc), .sl vc_9 88 4 c_9.length (c_9.flatMap GCap.enc), .row g5 29 [vc_6, vc_7, vc_8, vc_9], .row g4 29 [(.slice none 0 0), (.slice none 0 0), (.slice none 0 0), (.slice none 0 0)], .row g2 29 [vp_0, vp_1, vp_2, vp_3], .fr F3] (by kernel_rfl) (by repeat first | exact S0 | exact S1 | refine S2 ?_ | refine S3 ?_) ?_; refine TS.y rfl (Yv.fieldAddr rfl rfl) ?_; refine TS.y rfl (Yv.fieldAddr rfl rfl) ?_; refine TS.y rfl (Yv.loadO 6 rfl rfl rfl rfl) ?_; refine TS.run 1 rfl ?_; refine TS.y rfl (Yv.idxR (i := i_11) rfl rfl rfl (SlD.mono (rep := GDomain.rep) (fun _ _ _ _ => GDomain.mono) hp_0 le1_3).1 (SlD.mono (rep := GDomain.rep) (fun _ _ _ _ => GDomain.mono) hp_0 le1_3).2.1 rfl (by omega)) ?_; refine TS.y rfl (Yv.fldR rfl rfl (SlD.mono (rep := GDomain.rep) (fun _ _ _ _ => GDomain.mono) hp_0 le1_3).1 (SlD.mono (rep := GDomain.rep) (fun _ _ _ _ => GDomain.mono) hp_0 le1_3).2.1 (by omega)) ?_; refine TS.y rfl (Yv.loadR 7 (i := i_11) (j := 1) rfl rfl rfl (SlD.mono (rep := GDomain.rep) (fun _ _ _ _ => GDomain.mono) hp_0 le1_3).1 (SlD.mono (rep := GDomain.rep) (fun _ _ _ _ => GDomain.mono) hp_0 le1_3).2.1 (by omega) rfl (GDomain.c1 ((SlD.mono (rep := GDomain.rep) (fun _ _ _ _ => GDomain.mono) hp_0 le1_3).2.2 i_11 (by omega))).1) ?_; refine TS.run 1 rfl ?_; refine TS.y rfl (Yv.idxR (i := k_19) rfl rfl rfl hd35_1 (List.length_map _) rfl (by omega)) ?_; refine TS.y rfl (Yv.loadRF 7 (i := k_19) (j := 0) rfl rfl rfl hd35_1 (by omega) rfl rfl) ?_; refine TS.run 2 rfl ?_; refine TS.two ?_ ?_
              · refine TSo.yvG rfl (Wt.none rfl) rfl rfl (Yv.loadO 1 rfl rfl rfl rfl) (fun w hw => hw.sub (by repeat first | exact S0 | exact S1 | refine S2 ?_ | refine S3 ?_)) ?_; refine TS.eff ?_; refine TSo.ewG rfl (Wt.none rfl) rfl rfl (Ew.buildSlice rfl rfl rfl (by decide)) ?_; rintro _ _ ⟨g53, rfl, rfl⟩; refine ⟨(fun w hw => hw.sub (by repeat first | exact S0 | exact S1 | refine S2 ?_ | refine S3 ?_)), ?_⟩; refine TS.eff ?_; refine TSo.ewG rfl (Wt.none rfl) rfl rfl (Ew.appendL 1 0 rfl rfl rfl rfl rfl rfl (len_lit (ys := [wI ((nth ((nth p.Domains i_11).Channels) k_19) + by_)]) rfl) (flat_app (enc := eI) (xs := c_17) (ys := [wI ((nth ((nth p.Domains i_11).Channels) k_19) + by_)])) g54 (by decide)) ?_; rintro v54 _ ⟨hv54, rfl⟩; refine ⟨(fun w hw => hw.sub (by repeat first | exact S0 | exact S1 | refine S2 ?_ | refine S3 ?_)), ?_⟩; refine TS.y rfl (Yv.fieldAddr rfl rfl) ?_; refine TS.eff ?_; refine TSo.ewG0 rfl (Wt.none rfl) rfl (Ew.store1 2 rfl rfl rfl rfl (by simp)) ?_; rintro _ _ ⟨rfl, rfl⟩; refine ⟨(fun w hw => hw.sub (by repeat first | exact S0 | exact S1 | refine S2 ?_ | refine S3 ?_)), ?_⟩; refine TS.done ?_; refine K.blk_normal (K.seq (T.region ?_)); refine TL.run 1 rfl ?_; refine TL.y (Yv.addI rfl rfl rfl (by omega)) ?_; refine TL.run 1 rfl ?_; refine TL.nil ?_; rw [← hn18] at hk; refine K.pick [1, 2, 3, 4, 5, 6, 7, 8, 9, 10] rfl (by decide) ?_; exact K.next ((k_19 + 1), c_16, (c_17 ++ [wI ((nth ((nth p.Domains i_11).Channels) k_19) + by_)]), v54) ⟨hk, inferInstance⟩ (by dsimp only; omega) (.c (.c (.c (.c (.c (.c (.c .nil))))))) (List.Sublist.refl _)
              · refine TSo.ewG rfl (Wt.none rfl) rfl rfl (Ew.buildSlice rfl rfl rfl (by decide)) ?_; rintro _ _ ⟨g53, rfl, rfl⟩; refine ⟨(fun w hw => hw.sub (by repeat first | exact S0 | exact S1 | refine S2 ?_ | refine S3 ?_)), ?_⟩; refine TS.eff ?_; refine TSo.yvG rfl (Wt.none rfl) rfl rfl (Yv.loadO 2 rfl rfl rfl rfl) (fun w hw => hw.sub (by repeat first | exact S0 | exact S1 | refine S2 ?_ | refine S3 ?_)) ?_; refine TS.eff ?_; refine TSo.ewG rfl (Wt.none rfl) rfl rfl (Ew.appendL 1 0 rfl rfl rfl rfl rfl rfl (len_lit (ys := [wI ((nth ((nth p.Domains i_11).Channels) k_19) + by_)]) rfl) (flat_app (enc := eI) (xs := c_17) (ys := [wI ((nth ((nth p.Domains i_11).Channels) k_19) + by_)])) g54 (by decide)) ?_; rintro v54 _ ⟨hv54, rfl⟩; refine ⟨(fun w hw => hw.sub (by repeat first | exact S0 | exact S1 | refine S2 ?_ | refine S3 ?_)), ?_⟩; refine TS.y rfl (Yv.fieldAddr rfl rfl) ?_; refine TS.eff ?_; refine TSo.ewG0 rfl (Wt.none rfl) rfl (Ew.store1 2 rfl rfl rfl rfl (by simp)) ?_; rintro _ _ ⟨rfl, rfl⟩; refine ⟨(fun w hw => hw.sub (by repeat first | exact S0 | exact S1 | refine S2 ?_ | refine S3 ?_)), ?_⟩; refine TS.done ?_; refine K.blk_normal (K.seq (T.region ?_)); refine TL.run 1 rfl ?_; refine TL.y (Yv.addI rfl rfl rfl (by omega)) ?_; refine TL.run 1 rfl ?_; refine TL.nil ?_; rw [← hn18] at hk; refine K.pick [1, 2, 3, 4, 5, 6, 7, 8, 9, 10] rfl (by decide) ?_; exact K.next ((k_19 + 1), c_16, (c_17 ++ [wI ((nth ((nth p.Domains i_11).Channels) k_19) + by_)]), v54) ⟨hk, inferInstance⟩ (by dsimp only; omega) (.c (.c (.c (.c (.c (.c (.c .nil))))))) (List.Sublist.refl _)
            · have p20 := of_decide_eq_false h20; rw [iterK_ge (by omega), ← hkk18] at hk; (try dsimp only at hk); refine T.exit (K.then_exit (K.then_exit (K.blk_exit_eq ?_))); exact K.atX (c_16, c_17, vc_17) ⟨hk, inferInstance⟩ (.c (.c (.c (.c (.c (.c .nil)))))) (List.Sublist.refl _)
        · rintro ⟨c_13, c_14, vc_14⟩ ⟨hk, oc_14⟩; (try dsimp only at *); rw [← hk15] at hk; (try dsimp only at hk); refine T.exH (fun w hw => hw.freezeS (i := 9) (j := 0) (by decide) rfl rfl) ?_; rintro F4 ⟨le3_4, hz4⟩; dsimp only [List.set, List.eraseIdx]; have le1_4 := le1_3.trans le3_4; have hf4 := hz4.toF rfl (fun _ => rfl); haveI := hf4.oneC; have hq : (room (c_6 ++ [(GDomain.mk c_13 c_14)]).length 32) ∧ _ := grd_some hk; clear hk; obtain ⟨g60, hk⟩ := hq; (try dsimp only at hk); refine T.region ?_; refine TL.y (Yv.fieldAddr rfl rfl) ?_; refine TL.y (Yv.loadO 5 rfl rfl rfl rfl) ?_; refine TL.y (Yv.loadAO 0 rfl rfl rfl rfl) ?_; refine TL.e (Ew.buildSlice rfl rfl rfl (by decide)) ?_; rintro _ _ ⟨g59, rfl, rfl⟩; have hl59 : OwnD GDomain.rep F4.toFrz 2 [[.int .i64 c_13, vc_14]] [(GDomain.mk c_13 c_14)] := (OwnD.snoc (OwnD.nil _ _ 2) ⟨_, rfl, hf4⟩ rfl); refine TL.e (Ew.appendL 2 0 rfl rfl rfl rfl rfl rfl (len_lit (ys := [(GDomain.mk c_13 c_14)]) rfl) (flat_app2 (cs := cc_6) (ds := [[.int .i64 c_13, vc_14]])) g60 (by decide)) ?_; rintro v60 _ ⟨hv60, rfl⟩; have ho60 : OwnD GDomain.rep F4.toFrz 2 (cc_6 ++ [[.int .i64 c_13, vc_14]]) (c_6 ++ [(GDomain.mk c_13 c_14)]) := (OwnD.snoc (OwnD.mono (rep := GDomain.rep) (fun _ _ _ _ => GDomain.mono) hc_6 le3_4) ⟨_, rfl, hf4⟩ rfl); refine TL.y (Yv.fieldAddr rfl rfl) ?_; refine TL.e0 (Ew.store1 6 rfl rfl rfl rfl (by simp)) ?_; rintro _ _ ⟨rfl, rfl⟩; refine TL.nil (K.blk_normal (K.seq (T.region ?_))); refine TL.run 1 rfl ?_; refine TL.y (Yv.addI rfl rfl rfl (by omega)) ?_; refine TL.run 1 rfl ?_; refine TL.nil ?_; rw [← hn10] at hk; refine K.pick [2, 3, 4, 5, 6, 7, 8, 9] rfl (by decide) ?_; exact K.next ((i_11 + 1), (c_6 ++ [(GDomain.mk c_13 c_14)]), v60, (cc_6 ++ [[.int .i64 c_13, vc_14]]), c_7, vc_7, c_8, vc_8, c_9, vc_9, F4) ⟨hk, ho60, inferInstance, inferInstance, inferInstance, inferInstance, le1_4⟩ (by dsimp only; omega) (.c (.c (.c (.c (.c .nil))))) (List.Sublist.refl _)
      · have p12 := of_decide_eq_false h12; rw [iterK_ge (by omega), ← hkk10] at hk; (try dsimp only at hk); refine T.exit (K.then_exit (K.then_exit (K.blk_exit_eq ?_))); exact K.atX (c_6, vc_6, cc_6, c_7, vc_7, c_8, vc_8, c_9, vc_9, F3) ⟨hk, hc_6, inferInstance, inferInstance, inferInstance, inferInstance, le1_3⟩ (.c (.c (.c (.c .nil)))) (List.Sublist.refl _)
  · rintro ⟨c_1, vc_1, cc_1, c_2, vc_2, c_3, vc_3, c_4, vc_4, F2⟩ ⟨hk, hc_1, oc_1, oc_2, oc_3, oc_4, le1_2⟩; (try dsimp only at *); rw [← hk5] at hk; (try dsimp only at hk); refine T.seq (T.seq (T.region ?_)); refine TL.run 1 rfl ?_; refine TL.nil (K.seq ?_); have hq := joinK_open hk; clear hk; obtain ⟨k25, hk25, hk⟩ := hq; (try dsimp only at hk); refine T.cutXK (ι := List GDomain × Value × List (List Value) × List GPair × Value × List GLoad × Value × List GCap × Value) (fun z => [(1, .int .i64 by_), (2, .pointer (some ⟨g2, 0, none⟩)), (4, .pointer (some ⟨g4, 0, none⟩)), (5, .pointer (some ⟨g5, 0, none⟩))]) (fun z => [.sl z.2.1 64 2 z.1.length z.2.2.1.flatten, .sl z.2.2.2.2.1 84 5 z.2.2.2.1.length (z.2.2.2.1.flatMap GPair.enc), .sl z.2.2.2.2.2.2.1 86 5 z.2.2.2.2.2.1.length (z.2.2.2.2.2.1.flatMap GLoad.enc), .sl z.2.2.2.2.2.2.2.2 88 4 z.2.2.2.2.2.2.2.1.length (z.2.2.2.2.2.2.2.1.flatMap GCap.enc), .row g5 29 [z.2.1, z.2.2.2.2.1, z.2.2.2.2.2.2.1, z.2.2.2.2.2.2.2.2], .row g4 29 [(.slice none 0 0), (.slice none 0 0), (.slice none 0 0), (.slice none 0 0)], .row g2 29 [vp_0, vp_1, vp_2, vp_3], .fr F2]) (fun z => k25 (z.1, z.2.2.2.1, z.2.2.2.2.2.1, z.2.2.2.2.2.2.2.1) = some r ∧ OwnD GDomain.rep F2.toFrz 2 z.2.2.1 z.1 ∧ OneC z.2.1 ∧ OneC z.2.2.2.2.1 ∧ OneC z.2.2.2.2.2.2.1 ∧ OneC z.2.2.2.2.2.2.2.2) ?_ ?_
    · have hq := iterK_open hk; clear hk; obtain ⟨f30, kk30, hf30, hkk30, hk⟩ := hq; refine T.block ?_; refine T.loop (ι := Nat × List GDomain × Value × List (List Value) × List GPair × Value × List GLoad × Value × List GCap × Value) (fun z => [(1, .int .i64 by_), (2, .pointer (some ⟨g2, 0, none⟩)), (4, .pointer (some ⟨g4, 0, none⟩)), (5, .pointer (some ⟨g5, 0, none⟩)), (9, .int .i64 (z.1 : Int))]) (fun z => [.sl z.2.2.1 64 2 z.2.1.length z.2.2.2.1.flatten, .sl z.2.2.2.2.2.1 84 5 z.2.2.2.2.1.length (z.2.2.2.2.1.flatMap GPair.enc), .sl z.2.2.2.2.2.2.2.1 86 5 z.2.2.2.2.2.2.1.length (z.2.2.2.2.2.2.1.flatMap GLoad.enc), .sl z.2.2.2.2.2.2.2.2.2 88 4 z.2.2.2.2.2.2.2.2.1.length (z.2.2.2.2.2.2.2.2.1.flatMap GCap.enc), .row g5 29 [z.2.2.1, z.2.2.2.2.2.1, z.2.2.2.2.2.2.2.1, z.2.2.2.2.2.2.2.2.2], .row g4 29 [(.slice none 0 0), (.slice none 0 0), (.slice none 0 0), (.slice none 0 0)], .row g2 29 [vp_0, vp_1, vp_2, vp_3], .fr F2]) (fun z => iterK f30 kk30 (p.Rules.Pairs.length - z.1) z.1 (z.2.1, z.2.2.2.2.1, z.2.2.2.2.2.2.1, z.2.2.2.2.2.2.2.2.1) = some r ∧ OwnD GDomain.rep F2.toFrz 2 z.2.2.2.1 z.2.1 ∧ OneC z.2.2.1 ∧ OneC z.2.2.2.2.2.1 ∧ OneC z.2.2.2.2.2.2.2.1 ∧ OneC z.2.2.2.2.2.2.2.2.2) (fun z => p.Rules.Pairs.length - z.1) (0, c_1, vc_1, cc_1, c_2, vc_2, c_3, vc_3, c_4, vc_4) ?_ ?_ ?_ ?_
      · exact ⟨hk, hc_1, inferInstance, inferInstance, inferInstance, inferInstance⟩
      · exact (.c (.c (.c (.c (.c .nil)))))
      · exact List.Sublist.refl _
      · rintro ⟨i_31, c_26, vc_26, cc_26, c_27, vc_27, c_28, vc_28, c_29, vc_29⟩ ⟨hk, hc_26, oc_26, oc_27, oc_28, oc_29⟩; (try dsimp only at *); refine T.seq (T.seq (T.region ?_)); refine TL.run 1 rfl ?_; refine TL.y (Yv.fieldAddr rfl rfl) ?_; refine TL.y (Yv.fieldAddr rfl rfl) ?_; refine TL.y (Yv.loadO 6 rfl rfl rfl rfl) ?_; refine TL.y (Yv.lenR rfl rfl (SlC.mono hp_1 le1_2) (List.length_map _)) ?_; have hm66 : p.Rules.Pairs.length ≤ 9223372036854775807 := (List.length_map _) ▸ (SlC.mono hp_1 le1_2).max; refine TL.run 1 rfl ?_; refine TL.nil (K.seq ?_); refine T.cond rfl (fun h32 => ?_) (fun h32 => ?_)
        · have p32 := of_decide_eq_true h32; rw [iterK_lt (by omega)] at hk; generalize hn30 : iterK f30 kk30 (p.Rules.Pairs.length - (i_31 + 1)) (i_31 + 1) = next30 at hk; rw [← hf30] at hk; (try dsimp only at hk); refine T.skip (K.seq (T.seq (T.block (T.seq (T.region ?_))))); refine TL.y (Yv.fieldAddr rfl rfl) ?_; refine TL.y (Yv.fieldAddr rfl rfl) ?_; refine TL.y (Yv.loadO 6 rfl rfl rfl rfl) ?_; refine TL.run 1 rfl ?_; refine TL.y (Yv.idxR (i := i_31) rfl rfl rfl (SlC.mono hp_1 le1_2) (List.length_map _) rfl (by omega)) ?_; refine TL.y (Yv.loadRFA 7 (i := i_31) rfl rfl rfl (SlC.mono hp_1 le1_2) (by omega) rfl rfl rfl) ?_; refine TL.e (Ew.alloc rfl) ?_; rintro _ _ ⟨g10, rfl, rfl⟩; refine TL.e0 (Ew.storeAll 0 rfl rfl rfl rfl rfl rfl) ?_; rintro _ _ ⟨rfl, rfl⟩; refine TL.nil (K.seq ?_); have hq : (room (c_27 ++ [(GPair.mk ((nth p.Rules.Pairs i_31).A) ((nth p.Rules.Pairs i_31).B) ((nth p.Rules.Pairs i_31).Offset) (wI (((nth p.Rules.Pairs i_31).Low) + by_)) (wI (((nth p.Rules.Pairs i_31).High) + by_)))]).length 40) ∧ _ := grd_some hk; clear hk; obtain ⟨g95, hk⟩ := hq; (try dsimp only at hk); refine T.region ?_; refine TL.y (Yv.fieldAddr rfl rfl) ?_; refine TL.y (Yv.fieldAddr rfl rfl) ?_; refine TL.y (Yv.loadO 5 rfl rfl rfl rfl) ?_; refine TL.y (Yv.fieldAddr rfl rfl) ?_; refine TL.y (Yv.loadO 0 rfl rfl rfl rfl) ?_; refine TL.y (Yv.fieldAddr rfl rfl) ?_; refine TL.y (Yv.loadO 0 rfl rfl rfl rfl) ?_; refine TL.y (Yv.fieldAddr rfl rfl) ?_; refine TL.y (Yv.loadO 0 rfl rfl rfl rfl) ?_; refine TL.y (Yv.fieldAddr rfl rfl) ?_; refine TL.y (Yv.loadO 0 rfl rfl rfl rfl) ?_; refine TL.run 2 rfl ?_; refine TL.y (Yv.fieldAddr rfl rfl) ?_; refine TL.y (Yv.loadO 0 rfl rfl rfl rfl) ?_; refine TL.run 2 rfl ?_; refine TL.y (Yv.build rfl rfl) ?_; refine TL.e (Ew.buildSlice rfl rfl rfl (by decide)) ?_; rintro _ _ ⟨g94, rfl, rfl⟩; refine TL.e (Ew.appendL 3 0 rfl rfl rfl rfl rfl rfl (len_lit (ys := [(GPair.mk ((nth p.Rules.Pairs i_31).A) ((nth p.Rules.Pairs i_31).B) ((nth p.Rules.Pairs i_31).Offset) (wI (((nth p.Rules.Pairs i_31).Low) + by_)) (wI (((nth p.Rules.Pairs i_31).High) + by_)))]) rfl) (flat_app (enc := GPair.enc) (xs := c_27) (ys := [(GPair.mk ((nth p.Rules.Pairs i_31).A) ((nth p.Rules.Pairs i_31).B) ((nth p.Rules.Pairs i_31).Offset) (wI (((nth p.Rules.Pairs i_31).Low) + by_)) (wI (((nth p.Rules.Pairs i_31).High) + by_)))])) g95 (by decide)) ?_; rintro v95 _ ⟨hv95, rfl⟩; refine TL.y (Yv.fieldAddr rfl rfl) ?_; refine TL.y (Yv.fieldAddr rfl rfl) ?_; refine TL.e0 (Ew.store1 6 rfl rfl rfl rfl (by simp)) ?_; rintro _ _ ⟨rfl, rfl⟩; refine TL.nil (K.blk_normal (K.seq (T.region ?_))); refine TL.run 1 rfl ?_; refine TL.y (Yv.addI rfl rfl rfl (by omega)) ?_; refine TL.run 1 rfl ?_; refine TL.nil ?_; rw [← hn30] at hk; refine K.pick [2, 3, 4, 5, 6, 7, 8, 9] rfl (by decide) ?_; exact K.next ((i_31 + 1), c_26, vc_26, cc_26, (c_27 ++ [(GPair.mk ((nth p.Rules.Pairs i_31).A) ((nth p.Rules.Pairs i_31).B) ((nth p.Rules.Pairs i_31).Offset) (wI (((nth p.Rules.Pairs i_31).Low) + by_)) (wI (((nth p.Rules.Pairs i_31).High) + by_)))]), v95, c_28, vc_28, c_29, vc_29) ⟨hk, hc_26, inferInstance, inferInstance, inferInstance, inferInstance⟩ (by dsimp only; omega) (.c (.c (.c (.c (.c .nil))))) (List.Sublist.refl _)
        · have p32 := of_decide_eq_false h32; rw [iterK_ge (by omega), ← hkk30] at hk; (try dsimp only at hk); refine T.exit (K.then_exit (K.then_exit (K.blk_exit_eq ?_))); exact K.atX (c_26, vc_26, cc_26, c_27, vc_27, c_28, vc_28, c_29, vc_29) ⟨hk, hc_26, inferInstance, inferInstance, inferInstance, inferInstance⟩ (.c (.c (.c (.c .nil)))) (List.Sublist.refl _)
    · rintro ⟨c_21, vc_21, cc_21, c_22, vc_22, c_23, vc_23, c_24, vc_24⟩ ⟨hk, hc_21, oc_21, oc_22, oc_23, oc_24⟩; (try dsimp only at *); rw [← hk25] at hk; (try dsimp only at hk); refine T.seq (T.seq (T.region ?_)); refine TL.run 1 rfl ?_; refine TL.nil (K.seq ?_); have hq := joinK_open hk; clear hk; obtain ⟨k37, hk37, hk⟩ := hq; (try dsimp only at hk); refine T.cutXK (ι := List GDomain × Value × List (List Value) × List GPair × Value × List GLoad × Value × List GCap × Value) (fun z => [(1, .int .i64 by_), (2, .pointer (some ⟨g2, 0, none⟩)), (4, .pointer (some ⟨g4, 0, none⟩)), (5, .pointer (some ⟨g5, 0, none⟩))]) (fun z => [.sl z.2.1 64 2 z.1.length z.2.2.1.flatten, .sl z.2.2.2.2.1 84 5 z.2.2.2.1.length (z.2.2.2.1.flatMap GPair.enc), .sl z.2.2.2.2.2.2.1 86 5 z.2.2.2.2.2.1.length (z.2.2.2.2.2.1.flatMap GLoad.enc), .sl z.2.2.2.2.2.2.2.2 88 4 z.2.2.2.2.2.2.2.1.length (z.2.2.2.2.2.2.2.1.flatMap GCap.enc), .row g5 29 [z.2.1, z.2.2.2.2.1, z.2.2.2.2.2.2.1, z.2.2.2.2.2.2.2.2], .row g4 29 [(.slice none 0 0), (.slice none 0 0), (.slice none 0 0), (.slice none 0 0)], .row g2 29 [vp_0, vp_1, vp_2, vp_3], .fr F2]) (fun z => k37 (z.1, z.2.2.2.1, z.2.2.2.2.2.1, z.2.2.2.2.2.2.2.1) = some r ∧ OwnD GDomain.rep F2.toFrz 2 z.2.2.1 z.1 ∧ OneC z.2.1 ∧ OneC z.2.2.2.2.1 ∧ OneC z.2.2.2.2.2.2.1 ∧ OneC z.2.2.2.2.2.2.2.2) ?_ ?_
      · have hq := iterK_open hk; clear hk; obtain ⟨f42, kk42, hf42, hkk42, hk⟩ := hq; refine T.block ?_; refine T.loop (ι := Nat × List GDomain × Value × List (List Value) × List GPair × Value × List GLoad × Value × List GCap × Value) (fun z => [(1, .int .i64 by_), (2, .pointer (some ⟨g2, 0, none⟩)), (4, .pointer (some ⟨g4, 0, none⟩)), (5, .pointer (some ⟨g5, 0, none⟩)), (11, .int .i64 (z.1 : Int))]) (fun z => [.sl z.2.2.1 64 2 z.2.1.length z.2.2.2.1.flatten, .sl z.2.2.2.2.2.1 84 5 z.2.2.2.2.1.length (z.2.2.2.2.1.flatMap GPair.enc), .sl z.2.2.2.2.2.2.2.1 86 5 z.2.2.2.2.2.2.1.length (z.2.2.2.2.2.2.1.flatMap GLoad.enc), .sl z.2.2.2.2.2.2.2.2.2 88 4 z.2.2.2.2.2.2.2.2.1.length (z.2.2.2.2.2.2.2.2.1.flatMap GCap.enc), .row g5 29 [z.2.2.1, z.2.2.2.2.2.1, z.2.2.2.2.2.2.2.1, z.2.2.2.2.2.2.2.2.2], .row g4 29 [(.slice none 0 0), (.slice none 0 0), (.slice none 0 0), (.slice none 0 0)], .row g2 29 [vp_0, vp_1, vp_2, vp_3], .fr F2]) (fun z => iterK f42 kk42 (p.Rules.Loads.length - z.1) z.1 (z.2.1, z.2.2.2.2.1, z.2.2.2.2.2.2.1, z.2.2.2.2.2.2.2.2.1) = some r ∧ OwnD GDomain.rep F2.toFrz 2 z.2.2.2.1 z.2.1 ∧ OneC z.2.2.1 ∧ OneC z.2.2.2.2.2.1 ∧ OneC z.2.2.2.2.2.2.2.1 ∧ OneC z.2.2.2.2.2.2.2.2.2) (fun z => p.Rules.Loads.length - z.1) (0, c_21, vc_21, cc_21, c_22, vc_22, c_23, vc_23, c_24, vc_24) ?_ ?_ ?_ ?_
        · exact ⟨hk, hc_21, inferInstance, inferInstance, inferInstance, inferInstance⟩
        · exact (.c (.c (.c (.c (.c .nil)))))
        · exact List.Sublist.refl _
        · rintro ⟨i_43, c_38, vc_38, cc_38, c_39, vc_39, c_40, vc_40, c_41, vc_41⟩ ⟨hk, hc_38, oc_38, oc_39, oc_40, oc_41⟩; (try dsimp only at *); refine T.seq (T.seq (T.region ?_)); refine TL.run 1 rfl ?_; refine TL.y (Yv.fieldAddr rfl rfl) ?_; refine TL.y (Yv.fieldAddr rfl rfl) ?_; refine TL.y (Yv.loadO 6 rfl rfl rfl rfl) ?_; refine TL.y (Yv.lenR rfl rfl (SlC.mono hp_2 le1_2) (List.length_map _)) ?_; have hm102 : p.Rules.Loads.length ≤ 9223372036854775807 := (List.length_map _) ▸ (SlC.mono hp_2 le1_2).max; refine TL.run 1 rfl ?_; refine TL.nil (K.seq ?_); refine T.cond rfl (fun h44 => ?_) (fun h44 => ?_)
          · have p44 := of_decide_eq_true h44; rw [iterK_lt (by omega)] at hk; generalize hn42 : iterK f42 kk42 (p.Rules.Loads.length - (i_43 + 1)) (i_43 + 1) = next42 at hk; rw [← hf42] at hk; (try dsimp only at hk); refine T.skip (K.seq (T.seq (T.block (T.seq (T.region ?_))))); refine TL.y (Yv.fieldAddr rfl rfl) ?_; refine TL.y (Yv.fieldAddr rfl rfl) ?_; refine TL.y (Yv.loadO 6 rfl rfl rfl rfl) ?_; refine TL.run 1 rfl ?_; refine TL.y (Yv.idxR (i := i_43) rfl rfl rfl (SlC.mono hp_2 le1_2) (List.length_map _) rfl (by omega)) ?_; refine TL.y (Yv.loadRFA 7 (i := i_43) rfl rfl rfl (SlC.mono hp_2 le1_2) (by omega) rfl rfl rfl) ?_; refine TL.e (Ew.alloc rfl) ?_; rintro _ _ ⟨g12, rfl, rfl⟩; refine TL.e0 (Ew.storeAll 0 rfl rfl rfl rfl rfl rfl) ?_; rintro _ _ ⟨rfl, rfl⟩; refine TL.nil (K.seq ?_); have hq : (room (c_40 ++ [(GLoad.mk ((nth p.Rules.Loads i_43).To) ((nth p.Rules.Loads i_43).From) ((nth p.Rules.Loads i_43).Weight) (wI (((nth p.Rules.Loads i_43).Low) + by_)) (wI (((nth p.Rules.Loads i_43).High) + by_)))]).length 40) ∧ _ := grd_some hk; clear hk; obtain ⟨g131, hk⟩ := hq; (try dsimp only at hk); refine T.region ?_; refine TL.y (Yv.fieldAddr rfl rfl) ?_; refine TL.y (Yv.fieldAddr rfl rfl) ?_; refine TL.y (Yv.loadO 5 rfl rfl rfl rfl) ?_; refine TL.y (Yv.fieldAddr rfl rfl) ?_; refine TL.y (Yv.loadO 0 rfl rfl rfl rfl) ?_; refine TL.y (Yv.fieldAddr rfl rfl) ?_; refine TL.y (Yv.loadO 0 rfl rfl rfl rfl) ?_; refine TL.y (Yv.fieldAddr rfl rfl) ?_; refine TL.y (Yv.loadO 0 rfl rfl rfl rfl) ?_; refine TL.y (Yv.fieldAddr rfl rfl) ?_; refine TL.y (Yv.loadO 0 rfl rfl rfl rfl) ?_; refine TL.run 2 rfl ?_; refine TL.y (Yv.fieldAddr rfl rfl) ?_; refine TL.y (Yv.loadO 0 rfl rfl rfl rfl) ?_; refine TL.run 2 rfl ?_; refine TL.y (Yv.build rfl rfl) ?_; refine TL.e (Ew.buildSlice rfl rfl rfl (by decide)) ?_; rintro _ _ ⟨g130, rfl, rfl⟩; refine TL.e (Ew.appendL 4 0 rfl rfl rfl rfl rfl rfl (len_lit (ys := [(GLoad.mk ((nth p.Rules.Loads i_43).To) ((nth p.Rules.Loads i_43).From) ((nth p.Rules.Loads i_43).Weight) (wI (((nth p.Rules.Loads i_43).Low) + by_)) (wI (((nth p.Rules.Loads i_43).High) + by_)))]) rfl) (flat_app (enc := GLoad.enc) (xs := c_40) (ys := [(GLoad.mk ((nth p.Rules.Loads i_43).To) ((nth p.Rules.Loads i_43).From) ((nth p.Rules.Loads i_43).Weight) (wI (((nth p.Rules.Loads i_43).Low) + by_)) (wI (((nth p.Rules.Loads i_43).High) + by_)))])) g131 (by decide)) ?_; rintro v131 _ ⟨hv131, rfl⟩; refine TL.y (Yv.fieldAddr rfl rfl) ?_; refine TL.y (Yv.fieldAddr rfl rfl) ?_; refine TL.e0 (Ew.store1 6 rfl rfl rfl rfl (by simp)) ?_; rintro _ _ ⟨rfl, rfl⟩; refine TL.nil (K.blk_normal (K.seq (T.region ?_))); refine TL.run 1 rfl ?_; refine TL.y (Yv.addI rfl rfl rfl (by omega)) ?_; refine TL.run 1 rfl ?_; refine TL.nil ?_; rw [← hn42] at hk; refine K.pick [2, 3, 4, 5, 6, 7, 8, 9] rfl (by decide) ?_; exact K.next ((i_43 + 1), c_38, vc_38, cc_38, c_39, vc_39, (c_40 ++ [(GLoad.mk ((nth p.Rules.Loads i_43).To) ((nth p.Rules.Loads i_43).From) ((nth p.Rules.Loads i_43).Weight) (wI (((nth p.Rules.Loads i_43).Low) + by_)) (wI (((nth p.Rules.Loads i_43).High) + by_)))]), v131, c_41, vc_41) ⟨hk, hc_38, inferInstance, inferInstance, inferInstance, inferInstance⟩ (by dsimp only; omega) (.c (.c (.c (.c (.c .nil))))) (List.Sublist.refl _)
          · have p44 := of_decide_eq_false h44; rw [iterK_ge (by omega), ← hkk42] at hk; (try dsimp only at hk); refine T.exit (K.then_exit (K.then_exit (K.blk_exit_eq ?_))); exact K.atX (c_38, vc_38, cc_38, c_39, vc_39, c_40, vc_40, c_41, vc_41) ⟨hk, hc_38, inferInstance, inferInstance, inferInstance, inferInstance⟩ (.c (.c (.c (.c .nil)))) (List.Sublist.refl _)
      · rintro ⟨c_33, vc_33, cc_33, c_34, vc_34, c_35, vc_35, c_36, vc_36⟩ ⟨hk, hc_33, oc_33, oc_34, oc_35, oc_36⟩; (try dsimp only at *); rw [← hk37] at hk; (try dsimp only at hk); refine T.seq (T.seq (T.region ?_)); refine TL.run 1 rfl ?_; refine TL.nil (K.seq ?_); have hq := joinK_open hk; clear hk; obtain ⟨k49, hk49, hk⟩ := hq; (try dsimp only at hk); refine T.cutXK (ι := List GDomain × Value × List (List Value) × List GPair × Value × List GLoad × Value × List GCap × Value) (fun z => [(4, .pointer (some ⟨g4, 0, none⟩)), (5, .pointer (some ⟨g5, 0, none⟩))]) (fun z => [.sl z.2.1 64 2 z.1.length z.2.2.1.flatten, .sl z.2.2.2.2.1 84 5 z.2.2.2.1.length (z.2.2.2.1.flatMap GPair.enc), .sl z.2.2.2.2.2.2.1 86 5 z.2.2.2.2.2.1.length (z.2.2.2.2.2.1.flatMap GLoad.enc), .sl z.2.2.2.2.2.2.2.2 88 4 z.2.2.2.2.2.2.2.1.length (z.2.2.2.2.2.2.2.1.flatMap GCap.enc), .row g5 29 [z.2.1, z.2.2.2.2.1, z.2.2.2.2.2.2.1, z.2.2.2.2.2.2.2.2], .row g4 29 [(.slice none 0 0), (.slice none 0 0), (.slice none 0 0), (.slice none 0 0)], .fr F2]) (fun z => k49 (z.1, z.2.2.2.1, z.2.2.2.2.2.1, z.2.2.2.2.2.2.2.1) = some r ∧ OwnD GDomain.rep F2.toFrz 2 z.2.2.1 z.1 ∧ OneC z.2.1 ∧ OneC z.2.2.2.2.1 ∧ OneC z.2.2.2.2.2.2.1 ∧ OneC z.2.2.2.2.2.2.2.2) ?_ ?_
        · have hq := iterK_open hk; clear hk; obtain ⟨f54, kk54, hf54, hkk54, hk⟩ := hq; refine T.block ?_; refine T.loop (ι := Nat × List GDomain × Value × List (List Value) × List GPair × Value × List GLoad × Value × List GCap × Value) (fun z => [(1, .int .i64 by_), (2, .pointer (some ⟨g2, 0, none⟩)), (4, .pointer (some ⟨g4, 0, none⟩)), (5, .pointer (some ⟨g5, 0, none⟩)), (13, .int .i64 (z.1 : Int))]) (fun z => [.sl z.2.2.1 64 2 z.2.1.length z.2.2.2.1.flatten, .sl z.2.2.2.2.2.1 84 5 z.2.2.2.2.1.length (z.2.2.2.2.1.flatMap GPair.enc), .sl z.2.2.2.2.2.2.2.1 86 5 z.2.2.2.2.2.2.1.length (z.2.2.2.2.2.2.1.flatMap GLoad.enc), .sl z.2.2.2.2.2.2.2.2.2 88 4 z.2.2.2.2.2.2.2.2.1.length (z.2.2.2.2.2.2.2.2.1.flatMap GCap.enc), .row g5 29 [z.2.2.1, z.2.2.2.2.2.1, z.2.2.2.2.2.2.2.1, z.2.2.2.2.2.2.2.2.2], .row g4 29 [(.slice none 0 0), (.slice none 0 0), (.slice none 0 0), (.slice none 0 0)], .row g2 29 [vp_0, vp_1, vp_2, vp_3], .fr F2]) (fun z => iterK f54 kk54 (p.Rules.Caps.length - z.1) z.1 (z.2.1, z.2.2.2.2.1, z.2.2.2.2.2.2.1, z.2.2.2.2.2.2.2.2.1) = some r ∧ OwnD GDomain.rep F2.toFrz 2 z.2.2.2.1 z.2.1 ∧ OneC z.2.2.1 ∧ OneC z.2.2.2.2.2.1 ∧ OneC z.2.2.2.2.2.2.2.1 ∧ OneC z.2.2.2.2.2.2.2.2.2) (fun z => p.Rules.Caps.length - z.1) (0, c_33, vc_33, cc_33, c_34, vc_34, c_35, vc_35, c_36, vc_36) ?_ ?_ ?_ ?_
          · exact ⟨hk, hc_33, inferInstance, inferInstance, inferInstance, inferInstance⟩
          · exact (.c (.c (.c (.c (.c .nil)))))
          · exact List.Sublist.refl _
          · rintro ⟨i_55, c_50, vc_50, cc_50, c_51, vc_51, c_52, vc_52, c_53, vc_53⟩ ⟨hk, hc_50, oc_50, oc_51, oc_52, oc_53⟩; (try dsimp only at *); refine T.seq (T.seq (T.region ?_)); refine TL.run 1 rfl ?_; refine TL.y (Yv.fieldAddr rfl rfl) ?_; refine TL.y (Yv.fieldAddr rfl rfl) ?_; refine TL.y (Yv.loadO 6 rfl rfl rfl rfl) ?_; refine TL.y (Yv.lenR rfl rfl (SlC.mono hp_3 le1_2) (List.length_map _)) ?_; have hm138 : p.Rules.Caps.length ≤ 9223372036854775807 := (List.length_map _) ▸ (SlC.mono hp_3 le1_2).max; refine TL.run 1 rfl ?_; refine TL.nil (K.seq ?_); refine T.cond rfl (fun h56 => ?_) (fun h56 => ?_)
            · have p56 := of_decide_eq_true h56; rw [iterK_lt (by omega)] at hk; generalize hn54 : iterK f54 kk54 (p.Rules.Caps.length - (i_55 + 1)) (i_55 + 1) = next54 at hk; rw [← hf54] at hk; (try dsimp only at hk); refine T.skip (K.seq (T.seq (T.block (T.seq (T.region ?_))))); refine TL.y (Yv.fieldAddr rfl rfl) ?_; refine TL.y (Yv.fieldAddr rfl rfl) ?_; refine TL.y (Yv.loadO 6 rfl rfl rfl rfl) ?_; refine TL.run 1 rfl ?_; refine TL.y (Yv.idxR (i := i_55) rfl rfl rfl (SlC.mono hp_3 le1_2) (List.length_map _) rfl (by omega)) ?_; refine TL.y (Yv.loadRFA 7 (i := i_55) rfl rfl rfl (SlC.mono hp_3 le1_2) (by omega) rfl rfl rfl) ?_; refine TL.e (Ew.alloc rfl) ?_; rintro _ _ ⟨g14, rfl, rfl⟩; refine TL.e0 (Ew.storeAll 0 rfl rfl rfl rfl rfl rfl) ?_; rintro _ _ ⟨rfl, rfl⟩; refine TL.nil (K.seq ?_); have hq : (room (c_53 ++ [(GCap.mk ((nth p.Rules.Caps i_55).Station) ((nth p.Rules.Caps i_55).Max) (wI (((nth p.Rules.Caps i_55).Low) + by_)) (wI (((nth p.Rules.Caps i_55).High) + by_)))]).length 32) ∧ _ := grd_some hk; clear hk; obtain ⟨g165, hk⟩ := hq; (try dsimp only at hk); refine T.region ?_; refine TL.y (Yv.fieldAddr rfl rfl) ?_; refine TL.y (Yv.fieldAddr rfl rfl) ?_; refine TL.y (Yv.loadO 5 rfl rfl rfl rfl) ?_; refine TL.y (Yv.fieldAddr rfl rfl) ?_; refine TL.y (Yv.loadO 0 rfl rfl rfl rfl) ?_; refine TL.y (Yv.fieldAddr rfl rfl) ?_; refine TL.y (Yv.loadO 0 rfl rfl rfl rfl) ?_; refine TL.y (Yv.fieldAddr rfl rfl) ?_; refine TL.y (Yv.loadO 0 rfl rfl rfl rfl) ?_; refine TL.run 2 rfl ?_; refine TL.y (Yv.fieldAddr rfl rfl) ?_; refine TL.y (Yv.loadO 0 rfl rfl rfl rfl) ?_; refine TL.run 2 rfl ?_; refine TL.y (Yv.build rfl rfl) ?_; refine TL.e (Ew.buildSlice rfl rfl rfl (by decide)) ?_; rintro _ _ ⟨g164, rfl, rfl⟩; refine TL.e (Ew.appendL 5 0 rfl rfl rfl rfl rfl rfl (len_lit (ys := [(GCap.mk ((nth p.Rules.Caps i_55).Station) ((nth p.Rules.Caps i_55).Max) (wI (((nth p.Rules.Caps i_55).Low) + by_)) (wI (((nth p.Rules.Caps i_55).High) + by_)))]) rfl) (flat_app (enc := GCap.enc) (xs := c_53) (ys := [(GCap.mk ((nth p.Rules.Caps i_55).Station) ((nth p.Rules.Caps i_55).Max) (wI (((nth p.Rules.Caps i_55).Low) + by_)) (wI (((nth p.Rules.Caps i_55).High) + by_)))])) g165 (by decide)) ?_; rintro v165 _ ⟨hv165, rfl⟩; refine TL.y (Yv.fieldAddr rfl rfl) ?_; refine TL.y (Yv.fieldAddr rfl rfl) ?_; refine TL.e0 (Ew.store1 6 rfl rfl rfl rfl (by simp)) ?_; rintro _ _ ⟨rfl, rfl⟩; refine TL.nil (K.blk_normal (K.seq (T.region ?_))); refine TL.run 1 rfl ?_; refine TL.y (Yv.addI rfl rfl rfl (by omega)) ?_; refine TL.run 1 rfl ?_; refine TL.nil ?_; rw [← hn54] at hk; refine K.pick [2, 3, 4, 5, 6, 7, 8, 9] rfl (by decide) ?_; exact K.next ((i_55 + 1), c_50, vc_50, cc_50, c_51, vc_51, c_52, vc_52, (c_53 ++ [(GCap.mk ((nth p.Rules.Caps i_55).Station) ((nth p.Rules.Caps i_55).Max) (wI (((nth p.Rules.Caps i_55).Low) + by_)) (wI (((nth p.Rules.Caps i_55).High) + by_)))]), v165) ⟨hk, hc_50, inferInstance, inferInstance, inferInstance, inferInstance⟩ (by dsimp only; omega) (.c (.c (.c (.c (.c .nil))))) (List.Sublist.refl _)
            · have p56 := of_decide_eq_false h56; rw [iterK_ge (by omega), ← hkk54] at hk; (try dsimp only at hk); refine T.exit (K.then_exit (K.then_exit (K.blk_exit_eq ?_))); refine K.pick [0, 1, 2, 3, 4, 5, 7] rfl (by decide) ?_; exact K.atX (c_50, vc_50, cc_50, c_51, vc_51, c_52, vc_52, c_53, vc_53) ⟨hk, hc_50, inferInstance, inferInstance, inferInstance, inferInstance⟩ (.c (.c .nil)) (List.Sublist.refl _)
        · rintro ⟨c_45, vc_45, cc_45, c_46, vc_46, c_47, vc_47, c_48, vc_48⟩ ⟨hk, hc_45, oc_45, oc_46, oc_47, oc_48⟩; (try dsimp only at *); rw [← hk49] at hk; (try dsimp only at hk); refine T.seq (T.region ?_); refine TL.y (Yv.loadAO 4 rfl rfl rfl rfl) ?_; refine TL.e0 (Ew.storeAll 5 rfl rfl rfl rfl rfl rfl) ?_; rintro _ _ ⟨rfl, rfl⟩; refine TL.nil (K.seq (T.ret ?_)); refine K.exH (fun w hw => hw.freezeS (i := 6) (j := 0) (by decide) rfl rfl) ?_; rintro F5 ⟨le2_5, hz5⟩; dsimp only [List.set, List.eraseIdx]; have le1_5 := le1_2.trans le2_5; have hf5 := hz5.toD (OwnD.mono (rep := GDomain.rep) (fun _ _ _ _ => GDomain.mono) hc_45 le2_5) rfl; haveI := hf5.1.oneC; refine K.exH (fun w hw => hw.freezeS (i := 5) (j := 0) (by decide) rfl rfl) ?_; rintro F6 ⟨le5_6, hz6⟩; dsimp only [List.set, List.eraseIdx]; have le1_6 := le1_5.trans le5_6; have le2_6 := le2_5.trans le5_6; have hf6 := hz6.toF rfl GPair.len; haveI := hf6.oneC; refine K.exH (fun w hw => hw.freezeS (i := 4) (j := 0) (by decide) rfl rfl) ?_; rintro F7 ⟨le6_7, hz7⟩; dsimp only [List.set, List.eraseIdx]; have le1_7 := le1_6.trans le6_7; have le2_7 := le2_6.trans le6_7; have le5_7 := le5_6.trans le6_7; have hf7 := hz7.toF rfl GLoad.len; haveI := hf7.oneC; refine K.exH (fun w hw => hw.freezeS (i := 3) (j := 0) (by decide) rfl rfl) ?_; rintro F8 ⟨le7_8, hz8⟩; dsimp only [List.set, List.eraseIdx]; have le1_8 := le1_7.trans le7_8; have le2_8 := le2_7.trans le7_8; have le5_8 := le5_7.trans le7_8; have le6_8 := le6_7.trans le7_8; have hf8 := hz8.toF rfl GCap.len; haveI := hf8.oneC; obtain rfl := Option.some.inj hk; exact K.retC 1 rfl rfl rfl rfl (fun w' hw => ⟨(vc_45, cc_45, vc_46, vc_47, vc_48), F8.toFrz, ⟨(SlD.mono (rep := GDomain.rep) (fun _ _ _ _ => GDomain.mono) hf5 le5_8), (SlC.mono hf6 le6_8), (SlC.mono hf7 le7_8), hf8⟩, rfl, Fx.of hw (i := 2) rfl hS0 le1_8⟩)
def law18_PropagateShifts_x (fuel : Nat) (p : GProblem) (l : List GChoice) (by_ : Int) : Option Bool :=
  (ref17_Small_x fuel p 10 40).bind fun r16 =>
  joinK (fun (x_1 : Bool) =>
    (bif x_1 then
      some true
      else
      joinK (fun (m_9 : List GChoice) =>
        (bif ((!(ref17_ValidList_x l)) || (!(ref17_ValidList_x m_9))) then
          some true
          else
          (Run_x fuel p l).bind fun r78 =>
          (law18_shifted_x p by_).bind fun r85 =>
          (Run_x fuel r85 m_9).bind fun r87 =>
          joinK (fun (x_17 : Bool) =>
            some x_17)
          (fun k18 =>
            (bif decide (r78.2.2 = r87.2.2) then
              (bif (r78.2.1 == r87.2.1) then
                (law18_shifted_x (GProblem.mk r78.1 (GRules.mk [] [] [])) by_).bind fun r103 =>
                (bif (ref17_SameDomains_x r103.Domains r87.1) then
                  k18 true
                  else
                  k18 false)
                else
                k18 false)
              else
              k18 false))))
      (fun k10 =>
        iterK (fun (i_13 : Nat) (next12 : List GChoice → Option Bool) (m_11 : List GChoice) =>
          grd (room (m_11 ++ [(GChoice.mk ((nth l i_13).Station) (wI (((nth l i_13).Channel) + by_)))]).length 16) <|
          next12 (m_11 ++ [(GChoice.mk ((nth l i_13).Station) (wI (((nth l i_13).Channel) + by_)))]))
        (fun (m_11 : List GChoice) =>
          k10 m_11) (l.length - 0) 0 [])))
  (fun k2 =>
    (bif !r16 then
      k2 true
      else
      (bif decide (20 < (l.length : Int)) then
        k2 true
        else
        (bif decide (by_ < 0) then
          k2 true
          else
          (bif decide (40 < by_) then
            k2 true
            else
            (ref17_Valid_x p).bind fun r33 =>
            (bif !r33 then
              k2 true
              else
              (law18_shifted_x p by_).bind fun r39 =>
              (ref17_Valid_x r39).bind fun r40 =>
              k2 (!r40)))))))
theorem law18_PropagateShifts_c (F0 : Frz) (w : World) (hF0 : F0.At w) (p : GProblem) (vp_0 : Value) (cp_0 : List (List Value)) (hp_0 : SlD GDomain.rep F0 vp_0 2 cp_0 p.Domains) (vp_1 : Value) (hp_1 : SlC F0 vp_1 5 (p.Rules.Pairs.map GPair.enc)) (vp_2 : Value) (hp_2 : SlC F0 vp_2 5 (p.Rules.Loads.map GLoad.enc)) (vp_3 : Value) (hp_3 : SlC F0 vp_3 4 (p.Rules.Caps.map GCap.enc)) (l : List GChoice) (vl : Value) (hl : SlC F0 vl 2 (l.map GChoice.enc)) (by_ : Int) (htab : Tab w) (fuel : Nat) (hfu : 100000 ≤ fuel) (r : Bool) (hr : law18_PropagateShifts_x fuel p l by_ = some r) : Calls Tryd.prog 5 #[.agg [vp_0, vp_1, vp_2, vp_3].toArray, vl, .int .i64 by_] w fun e w' => e = .returned (.bool r) ∧ Below w.heap.size w w' := by
  have hk := hr; unfold law18_PropagateShifts_x at hk; haveI := hp_0.1.oneC; haveI := hp_1.oneC; haveI := hp_2.oneC; haveI := hp_3.oneC; haveI := hl.oneC; obtain ⟨S0, F1, rfl, hS0, hp0⟩ := startF_ex hF0; refine calls_T (M := fun _ => False) (hs := [.fr F1]) Tryd.func5 rfl rfl rfl hp0 ?_; refine T.seq (T.region ?_); refine TL.e (Ew.boxA rfl rfl) ?_; rintro _ _ ⟨g3, rfl, rfl⟩; refine TL.run 1 rfl ?_; refine TL.nil (K.seq (T.seq (T.seq ?_))); have hq := bind_open hk; clear hk; obtain ⟨r16, hr16, hk⟩ := hq; (try dsimp only at hk); have hq := joinK_open hk; clear hk; obtain ⟨k2, hk2, hk⟩ := hq; (try dsimp only at hk); refine T.cutXK (ι := Bool × FzB w (fun _ => False) S0) (fun z => [(1, vl), (2, .int .i64 by_), (3, .pointer (some ⟨g3, 0, none⟩)), (42, .bool z.1)]) (fun z => [.row g3 29 [vp_0, vp_1, vp_2, vp_3], .fr z.2]) (fun z => k2 z.1 = some r ∧ F1.toFrz.Le z.2.toFrz) ?_ ?_
  · refine T.region ?_; refine TL.y (Yv.loadAO 0 rfl rfl rfl rfl) ?_; refine TL.e (Ew.callD rfl rfl rfl (fun w hw => ref17_Small_c _ w (hw.fr (i := 1) rfl) p vp_0 cp_0 hp_0 vp_1 hp_1 vp_2 hp_2 vp_3 hp_3 10 40 fuel r16 hr16)) ?_; rintro _ _ ⟨rfl, rfl⟩; refine TL.run 2 rfl ?_; refine TL.gs rfl rfl rfl (fun h3 => ?_) (fun h3 => ?_)
    · have p3 := h3; (try simp only [nfB] at p3); replace hk := condT_open hk h3; refine TL.run 24 rfl ?_; refine TL.nil ?_; exact K.atX (true, F1) ⟨hk, (Frz.Le.refl _)⟩ (.c (.c (.c (.c .nil)))) (List.Sublist.refl _)
    · have p3 := h3; (try simp only [nfB] at p3); replace hk := condF_open hk h3; refine TL.run 1 rfl ?_; refine TL.y (Yv.lenR rfl rfl hl (List.length_map _)) ?_; have hm20 : l.length ≤ 9223372036854775807 := (List.length_map _) ▸ hl.max; refine TL.run 3 rfl ?_; refine TL.gs rfl rfl rfl (fun h4 => ?_) (fun h4 => ?_)
      · have p4 := of_decide_eq_true h4; replace hk := condT_open hk h4; refine TL.run 19 rfl ?_; refine TL.nil ?_; exact K.atX (true, F1) ⟨hk, (Frz.Le.refl _)⟩ (.c (.c (.c (.c .nil)))) (List.Sublist.refl _)
      · have p4 := of_decide_eq_false h4; replace hk := condF_open hk h4; refine TL.run 4 rfl ?_; refine TL.gs rfl rfl rfl (fun h5 => ?_) (fun h5 => ?_)
        · have p5 := of_decide_eq_true h5; replace hk := condT_open hk h5; refine TL.run 15 rfl ?_; refine TL.nil ?_; exact K.atX (true, F1) ⟨hk, (Frz.Le.refl _)⟩ (.c (.c (.c (.c .nil)))) (List.Sublist.refl _)
        · have p5 := of_decide_eq_false h5; replace hk := condF_open hk h5; refine TL.run 4 rfl ?_; refine TL.gs rfl rfl rfl (fun h6 => ?_) (fun h6 => ?_)
          · have p6 := of_decide_eq_true h6; replace hk := condT_open hk h6; refine TL.run 11 rfl ?_; refine TL.nil ?_; exact K.atX (true, F1) ⟨hk, (Frz.Le.refl _)⟩ (.c (.c (.c (.c .nil)))) (List.Sublist.refl _)
          · have p6 := of_decide_eq_false h6; replace hk := condF_open hk h6; refine TL.y (Yv.loadAO 0 rfl rfl rfl rfl) ?_; have hq := bind_open hk; clear hk; obtain ⟨r33, hr33, hk⟩ := hq; refine TL.e (Ew.callD rfl rfl rfl (fun w hw => ref17_Valid_c _ w (hw.fr (i := 1) rfl) p vp_0 cp_0 hp_0 vp_1 hp_1 vp_2 hp_2 vp_3 hp_3 r33 hr33)) ?_; rintro _ _ ⟨rfl, rfl⟩; refine TL.run 3 rfl ?_; refine TL.gs rfl rfl rfl (fun h7 => ?_) (fun h7 => ?_)
            · have p7 := h7; (try simp only [nfB] at p7); replace hk := condT_open hk h7; refine TL.run 6 rfl ?_; refine TL.nil ?_; exact K.atX (true, F1) ⟨hk, (Frz.Le.refl _)⟩ (.c (.c (.c (.c .nil)))) (List.Sublist.refl _)
            · have p7 := h7; (try simp only [nfB] at p7); replace hk := condF_open hk h7; refine TL.y (Yv.loadAO 0 rfl rfl rfl rfl) ?_; refine TL.run 1 rfl ?_; have hq := bind_open hk; clear hk; obtain ⟨r39, hr39, hk⟩ := hq; refine TL.e (Ew.callR 1 rfl rfl rfl rfl (fun w hw hF => law18_shifted_c _ w hF p vp_0 cp_0 hp_0 vp_1 hp_1 vp_2 hp_2 vp_3 hp_3 by_ r39 hr39)) ?_; rintro _ _ ⟨⟨v39_0_0, cs39_0_0, v39_0_1, v39_0_2, v39_0_3⟩, F3, le1_3, ⟨hf39_0_0, hf39_0_1, hf39_0_2, hf39_0_3⟩, rfl, rfl⟩; dsimp only at hf39_0_0 hf39_0_1 hf39_0_2 hf39_0_3 ⊢; haveI := hf39_0_0.1.oneC; haveI := hf39_0_1.oneC; haveI := hf39_0_2.oneC; haveI := hf39_0_3.oneC; have hq := bind_open hk; clear hk; obtain ⟨r40, hr40, hk⟩ := hq; refine TL.e (Ew.callD rfl rfl rfl (fun w hw => ref17_Valid_c _ w (hw.fr (i := 1) rfl) r39 v39_0_0 cs39_0_0 hf39_0_0 v39_0_1 hf39_0_1 v39_0_2 hf39_0_2 v39_0_3 hf39_0_3 r40 hr40)) ?_; rintro _ _ ⟨rfl, rfl⟩; refine TL.run 2 rfl ?_; refine TL.nil ?_; exact K.atX (!r40, F3) ⟨hk, le1_3⟩ (.c (.c (.c (.c .nil)))) (List.Sublist.refl _)
  · rintro ⟨x_1, F2⟩ ⟨hk, le1_2⟩; (try dsimp only at *); rw [← hk2] at hk; (try dsimp only at hk); refine T.cond rfl (fun h8 => ?_) (fun h8 => ?_)
    · have p8 := h8; (try simp only [nfB] at p8); replace hk := condT_open hk h8; refine T.seq (T.region ?_); refine TL.e (Ew.callD rfl rfl rfl (fun w hw => known_ret w (htab.keptF hw))) ?_; rintro _ _ ⟨rfl, rfl⟩; refine TL.run 1 rfl ?_; refine TL.nil (K.seq (T.ret (K.then_ret ?_))); obtain rfl := Option.some.inj hk; exact K.ret1 rfl rfl (fun w' hw => ⟨rfl, hw.isBelow⟩)
    · have p8 := h8; (try simp only [nfB] at p8); replace hk := condF_open hk h8; refine T.skip (K.seq (T.seq (T.region ?_))); refine TL.run 1 rfl ?_; refine TL.slNil 40 2 ?_; refine TL.nil (K.seq (T.seq (T.seq (T.region ?_)))); refine TL.run 1 rfl ?_; refine TL.nil (K.seq ?_); have hq := joinK_open hk; clear hk; obtain ⟨k10, hk10, hk⟩ := hq; (try dsimp only at hk); refine T.cutXK (ι := List GChoice × Value) (fun z => [(1, vl), (2, .int .i64 by_), (3, .pointer (some ⟨g3, 0, none⟩)), (7, z.2)]) (fun z => [.sl z.2 40 2 z.1.length (z.1.flatMap GChoice.enc), .row g3 29 [vp_0, vp_1, vp_2, vp_3], .fr F2]) (fun z => k10 z.1 = some r ∧ OneC z.2) ?_ ?_
      · have hq := iterK_open hk; clear hk; obtain ⟨f12, kk12, hf12, hkk12, hk⟩ := hq; refine T.block ?_; refine T.loop (ι := Nat × List GChoice × Value) (fun z => [(1, vl), (2, .int .i64 by_), (3, .pointer (some ⟨g3, 0, none⟩)), (7, z.2.2), (8, .int .i64 (z.1 : Int))]) (fun z => [.sl z.2.2 40 2 z.2.1.length (z.2.1.flatMap GChoice.enc), .row g3 29 [vp_0, vp_1, vp_2, vp_3], .fr F2]) (fun z => iterK f12 kk12 (l.length - z.1) z.1 z.2.1 = some r ∧ OneC z.2.2) (fun z => l.length - z.1) (0, [], (.slice none 0 0)) ?_ ?_ ?_ ?_
        · exact ⟨hk, inferInstance⟩
        · exact (.c (.c (.c (.c (.c .nil)))))
        · exact List.Sublist.refl _
        · rintro ⟨i_13, m_11, vm_11⟩ ⟨hk, om_11⟩; (try dsimp only at *); refine T.seq (T.seq (T.region ?_)); refine TL.run 2 rfl ?_; refine TL.y (Yv.lenR rfl rfl (SlC.mono hl le1_2) (List.length_map _)) ?_; have hm46 : l.length ≤ 9223372036854775807 := (List.length_map _) ▸ (SlC.mono hl le1_2).max; refine TL.run 1 rfl ?_; refine TL.nil (K.seq ?_); refine T.cond rfl (fun h14 => ?_) (fun h14 => ?_)
          · have p14 := of_decide_eq_true h14; rw [iterK_lt (by omega)] at hk; generalize hn12 : iterK f12 kk12 (l.length - (i_13 + 1)) (i_13 + 1) = next12 at hk; rw [← hf12] at hk; (try dsimp only at hk); refine T.skip (K.seq (T.seq (T.block ?_))); have hq : (room (m_11 ++ [(GChoice.mk ((nth l i_13).Station) (wI (((nth l i_13).Channel) + by_)))]).length 16) ∧ _ := grd_some hk; clear hk; obtain ⟨g65, hk⟩ := hq; (try dsimp only at hk); refine T.draw (.still 0 (.still 1 (.still 2 (.still 3 (.still 4 (.still 5 (.still 6 (.still 7 (.still 8 (.still 9 (.still 10 (.still 11 (.still 12 (.still 13 (.eff 14 (.eff 15 (.still 16 .done))))))))))))))))) [.row g3 29 [vp_0, vp_1, vp_2, vp_3], .fr F2] (by kernel_rfl) (by repeat first | exact S0 | exact S1 | refine S2 ?_ | refine S3 ?_) ?_; refine TS.run 3 rfl ?_; refine TS.y rfl (Yv.idxR (i := i_13) rfl rfl rfl (SlC.mono hl le1_2) (List.length_map _) rfl (by omega)) ?_; refine TS.y rfl (Yv.fldR rfl rfl (SlC.mono hl le1_2) (List.length_map _) (by omega)) ?_; refine TS.y rfl (Yv.loadRF 1 (i := i_13) (j := 0) rfl rfl rfl (SlC.mono hl le1_2) (by omega) rfl rfl) ?_; refine TS.run 2 rfl ?_; refine TS.y rfl (Yv.idxR (i := i_13) rfl rfl rfl (SlC.mono hl le1_2) (List.length_map _) rfl (by omega)) ?_; refine TS.y rfl (Yv.fldR rfl rfl (SlC.mono hl le1_2) (List.length_map _) (by omega)) ?_; refine TS.y rfl (Yv.loadRF 1 (i := i_13) (j := 1) rfl rfl rfl (SlC.mono hl le1_2) (by omega) rfl rfl) ?_; refine TS.run 2 rfl ?_; refine TS.y rfl (Yv.build rfl rfl) ?_; refine TS.eff ?_; refine TSo.ewG rfl (Wt.none rfl) rfl rfl (Ew.buildSlice rfl rfl rfl (by decide)) ?_; rintro _ _ ⟨g64, rfl, rfl⟩; refine ⟨(fun w hw => hw.sub (by repeat first | exact S0 | exact S1 | refine S2 ?_ | refine S3 ?_)), ?_⟩; refine TS.eff ?_; refine TSo.ewG rfl (Wt.none rfl) rfl rfl (Ew.appendL 1 0 rfl rfl rfl rfl rfl rfl (len_lit (ys := [(GChoice.mk ((nth l i_13).Station) (wI (((nth l i_13).Channel) + by_)))]) rfl) (flat_app (enc := GChoice.enc) (xs := m_11) (ys := [(GChoice.mk ((nth l i_13).Station) (wI (((nth l i_13).Channel) + by_)))])) g65 (by decide)) ?_; rintro v65 _ ⟨hv65, rfl⟩; refine ⟨(fun w hw => hw.sub (by repeat first | exact S0 | exact S1 | refine S2 ?_ | refine S3 ?_)), ?_⟩; refine TS.run 1 rfl ?_; refine TS.done ?_; refine K.blk_normal (K.seq (T.region ?_)); refine TL.run 1 rfl ?_; refine TL.y (Yv.addI rfl rfl rfl (by omega)) ?_; refine TL.run 1 rfl ?_; refine TL.nil ?_; rw [← hn12] at hk; refine K.pick [1, 2, 3] rfl (by decide) ?_; exact K.next ((i_13 + 1), (m_11 ++ [(GChoice.mk ((nth l i_13).Station) (wI (((nth l i_13).Channel) + by_)))]), v65) ⟨hk, inferInstance⟩ (by dsimp only; omega) (.c (.c (.c (.c (.c .nil))))) (List.Sublist.refl _)
          · have p14 := of_decide_eq_false h14; rw [iterK_ge (by omega), ← hkk12] at hk; (try dsimp only at hk); refine T.exit (K.then_exit (K.then_exit (K.blk_exit_eq ?_))); exact K.atX (m_11, vm_11) ⟨hk, inferInstance⟩ (.c (.c (.c (.c .nil)))) (List.Sublist.refl _)
      · rintro ⟨m_9, vm_9⟩ ⟨hk, om_9⟩; (try dsimp only at *); rw [← hk10] at hk; (try dsimp only at hk); refine T.seq (T.seq ?_); refine T.exH (fun w hw => hw.freezeS (i := 2) (j := 0) (by decide) rfl rfl) ?_; rintro F4 ⟨le2_4, hz4⟩; dsimp only [List.set, List.eraseIdx]; have le1_4 := le1_2.trans le2_4; have hf4 := hz4.toF rfl GChoice.len; haveI := hf4.oneC; refine T.cutXK (ι := Unit) (fun z => [(1, vl), (2, .int .i64 by_), (3, .pointer (some ⟨g3, 0, none⟩)), (7, vm_9), (73, .bool ((!(ref17_ValidList_x l)) || (!(ref17_ValidList_x m_9))))]) (fun z => [.row g3 29 [vp_0, vp_1, vp_2, vp_3], .fr F4]) (fun z => True) ?_ ?_
        · refine T.region ?_; refine TL.run 1 rfl ?_; refine TL.e (Ew.callD rfl rfl rfl (fun w hw => ref17_ValidList_c _ w (hw.fr (i := 1) rfl) l vl (SlC.mono hl le1_4))) ?_; rintro _ _ ⟨rfl, rfl⟩; refine TL.run 2 rfl ?_; refine TL.gs rfl rfl rfl (fun h15 => ?_) (fun h15 => ?_)
          · have p15 := h15; (try simp only [nfB] at p15); refine TL.run 4 rfl ?_; refine TL.nil ?_; exact K.atX () trivial (.c (.c (.c (.c (.b (or_tt h15).symm .nil))))) (List.Sublist.refl _)
          · have p15 := h15; (try simp only [nfB] at p15); refine TL.run 1 rfl ?_; refine TL.e (Ew.callD rfl rfl rfl (fun w hw => ref17_ValidList_c _ w (hw.fr (i := 1) rfl) m_9 vm_9 hf4)) ?_; rintro _ _ ⟨rfl, rfl⟩; refine TL.run 2 rfl ?_; refine TL.nil ?_; exact K.atX () trivial (.c (.c (.c (.c (.b (or_f h15) .nil))))) (List.Sublist.refl _)
        · rintro _ _; refine T.cond rfl (fun h16 => ?_) (fun h16 => ?_)
          · have p16 := h16; (try simp only [nfB] at p16); replace hk := condT_open hk h16; refine T.seq (T.region ?_); refine TL.e (Ew.callD rfl rfl rfl (fun w hw => known_ret w (htab.keptF hw))) ?_; rintro _ _ ⟨rfl, rfl⟩; refine TL.run 1 rfl ?_; refine TL.nil (K.seq (T.ret (K.then_ret ?_))); obtain rfl := Option.some.inj hk; exact K.ret1 rfl rfl (fun w' hw => ⟨rfl, hw.isBelow⟩)
          · have p16 := h16; (try simp only [nfB] at p16); replace hk := condF_open hk h16; refine T.skip (K.seq (T.seq ?_)); have hq := bind_open hk; clear hk; obtain ⟨r78, hr78, hk⟩ := hq; (try dsimp only at hk); refine T.region ?_; refine TL.y (Yv.loadAO 0 rfl rfl rfl rfl) ?_; refine TL.run 1 rfl ?_; refine TL.e (Ew.callR 1 rfl rfl rfl rfl (fun w hw hF => Run_c _ w hF p vp_0 cp_0 (SlD.mono (rep := GDomain.rep) (fun _ _ _ _ => GDomain.mono) hp_0 le1_4) vp_1 (SlC.mono hp_1 le1_4) vp_2 (SlC.mono hp_2 le1_4) vp_3 (SlC.mono hp_3 le1_4) l vl (SlC.mono hl le1_4) (htab.keptF hw) fuel hfu r78 hr78)) ?_; rintro _ _ ⟨⟨v78_0_0, cs78_0_0⟩, F5, le4_5, hf78_0_0, rfl, rfl⟩; dsimp only at hf78_0_0 ⊢; have le1_5 := le1_4.trans le4_5; have le2_5 := le2_4.trans le4_5; haveI := hf78_0_0.1.oneC; refine TL.run 7 rfl ?_; refine TL.nil (K.seq (T.seq ?_)); have hq := bind_open hk; clear hk; obtain ⟨r85, hr85, hk⟩ := hq; have hq := bind_open hk; clear hk; obtain ⟨r87, hr87, hk⟩ := hq; (try dsimp only at hk); refine T.region ?_; refine TL.y (Yv.loadAO 0 rfl rfl rfl rfl) ?_; refine TL.run 1 rfl ?_; refine TL.e (Ew.callR 1 rfl rfl rfl rfl (fun w hw hF => law18_shifted_c _ w hF p vp_0 cp_0 (SlD.mono (rep := GDomain.rep) (fun _ _ _ _ => GDomain.mono) hp_0 le1_5) vp_1 (SlC.mono hp_1 le1_5) vp_2 (SlC.mono hp_2 le1_5) vp_3 (SlC.mono hp_3 le1_5) by_ r85 hr85)) ?_; rintro _ _ ⟨⟨v85_0_0, cs85_0_0, v85_0_1, v85_0_2, v85_0_3⟩, F6, le5_6, ⟨hf85_0_0, hf85_0_1, hf85_0_2, hf85_0_3⟩, rfl, rfl⟩; dsimp only at hf85_0_0 hf85_0_1 hf85_0_2 hf85_0_3 ⊢; have le1_6 := le1_5.trans le5_6; have le2_6 := le2_5.trans le5_6; have le4_6 := le4_5.trans le5_6; haveI := hf85_0_0.1.oneC; haveI := hf85_0_1.oneC; haveI := hf85_0_2.oneC; haveI := hf85_0_3.oneC; refine TL.run 1 rfl ?_; refine TL.e (Ew.callR 1 rfl rfl rfl rfl (fun w hw hF => Run_c _ w hF r85 v85_0_0 cs85_0_0 hf85_0_0 v85_0_1 hf85_0_1 v85_0_2 hf85_0_2 v85_0_3 hf85_0_3 m_9 vm_9 (SlC.mono hf4 le4_6) (htab.keptF hw) fuel hfu r87 hr87)) ?_; rintro _ _ ⟨⟨v87_0_0, cs87_0_0⟩, F7, le6_7, hf87_0_0, rfl, rfl⟩; dsimp only at hf87_0_0 ⊢; have le1_7 := le1_6.trans le6_7; have le2_7 := le2_6.trans le6_7; have le4_7 := le4_6.trans le6_7; have le5_7 := le5_6.trans le6_7; haveI := hf87_0_0.1.oneC; refine TL.run 7 rfl ?_; refine TL.nil (K.seq (T.seq ?_)); (try dsimp only at hk); have hq := joinK_open hk; clear hk; obtain ⟨k18, hk18, hk⟩ := hq; (try dsimp only at hk); refine T.cutXK (ι := Bool × FzB w (fun _ => False) S0) (fun z => [(6, .bool z.1)]) (fun z => [.fr z.2]) (fun z => k18 z.1 = some r ∧ F7.toFrz.Le z.2.toFrz) ?_ ?_
            · refine T.region ?_; refine TL.run 4 rfl ?_; refine TL.gs rfl rfl rfl (fun h19 => ?_) (fun h19 => ?_)
              · have p19 := of_decide_eq_true h19; replace hk := condT_open hk h19; refine TL.run 2 rfl ?_; refine TL.y (Yv.eqB (by kernel_rfl) rfl rfl rfl) ?_; refine TL.run 2 rfl ?_; refine TL.gs rfl rfl rfl (fun h20 => ?_) (fun h20 => ?_)
                · have p20 := h20; (try simp only [nfB] at p20); replace hk := condT_open hk h20; refine TL.run 1 rfl ?_; refine TL.y (Yv.build rfl rfl) ?_; refine TL.run 1 rfl ?_; have hq := bind_open hk; clear hk; obtain ⟨r103, hr103, hk⟩ := hq; refine TL.e (Ew.callR 1 rfl rfl rfl rfl (fun w hw hF => law18_shifted_c _ w hF (GProblem.mk r78.1 (GRules.mk [] [] [])) v78_0_0 cs78_0_0 (SlD.mono (rep := GDomain.rep) (fun _ _ _ _ => GDomain.mono) hf78_0_0 le5_7) (.slice none 0 0) (SlC.nil _ 5) (.slice none 0 0) (SlC.nil _ 5) (.slice none 0 0) (SlC.nil _ 4) by_ r103 hr103)) ?_; rintro _ _ ⟨⟨v103_0_0, cs103_0_0, v103_0_1, v103_0_2, v103_0_3⟩, F9, le7_9, ⟨hf103_0_0, hf103_0_1, hf103_0_2, hf103_0_3⟩, rfl, rfl⟩; dsimp only at hf103_0_0 hf103_0_1 hf103_0_2 hf103_0_3 ⊢; have le1_9 := le1_7.trans le7_9; have le2_9 := le2_7.trans le7_9; have le4_9 := le4_7.trans le7_9; have le5_9 := le5_7.trans le7_9; have le6_9 := le6_7.trans le7_9; haveI := hf103_0_0.1.oneC; haveI := hf103_0_1.oneC; haveI := hf103_0_2.oneC; haveI := hf103_0_3.oneC; refine TL.y (Yv.field rfl rfl rfl) ?_; refine TL.run 1 rfl ?_; refine TL.e (Ew.callD rfl rfl rfl (fun w hw => ref17_SameDomains_c _ w (hw.fr (i := 1) rfl) r103.Domains v103_0_0 cs103_0_0 hf103_0_0 r87.1 v87_0_0 cs87_0_0 (SlD.mono (rep := GDomain.rep) (fun _ _ _ _ => GDomain.mono) hf87_0_0 le7_9))) ?_; rintro _ _ ⟨rfl, rfl⟩; refine TL.run 2 rfl ?_; refine TL.gs rfl rfl rfl (fun h21 => ?_) (fun h21 => ?_)
                  · have p21 := h21; (try simp only [nfB] at p21); replace hk := condT_open hk h21; refine TL.e (Ew.callD rfl rfl rfl (fun w hw => known_ret w (htab.keptF hw))) ?_; rintro _ _ ⟨rfl, rfl⟩; refine TL.run 2 rfl ?_; refine TL.nil ?_; refine K.pick [1] rfl (by decide) ?_; exact K.atX (true, F9) ⟨hk, le7_9⟩ (.c .nil) (List.Sublist.refl _)
                  · have p21 := h21; (try simp only [nfB] at p21); replace hk := condF_open hk h21; refine TL.run 3 rfl ?_; refine TL.nil ?_; refine K.pick [1] rfl (by decide) ?_; exact K.atX (false, F9) ⟨hk, le7_9⟩ (.c .nil) (List.Sublist.refl _)
                · have p20 := h20; (try simp only [nfB] at p20); replace hk := condF_open hk h20; refine TL.run 12 rfl ?_; refine TL.nil ?_; refine K.pick [1] rfl (by decide) ?_; exact K.atX (false, F7) ⟨hk, (Frz.Le.refl _)⟩ (.c .nil) (List.Sublist.refl _)
              · have p19 := of_decide_eq_false h19; replace hk := condF_open hk h19; refine TL.run 17 rfl ?_; refine TL.nil ?_; refine K.pick [1] rfl (by decide) ?_; exact K.atX (false, F7) ⟨hk, (Frz.Le.refl _)⟩ (.c .nil) (List.Sublist.refl _)
            · rintro ⟨x_17, F8⟩ ⟨hk, le7_8⟩; (try dsimp only at *); rw [← hk18] at hk; (try dsimp only at hk); have le1_8 := le1_7.trans le7_8; have le2_8 := le2_7.trans le7_8; have le4_8 := le4_7.trans le7_8; have le5_8 := le5_7.trans le7_8; have le6_8 := le6_7.trans le7_8; refine T.ret ?_; obtain rfl := Option.some.inj hk; exact K.ret1 rfl rfl (fun w' hw => ⟨rfl, hw.isBelow⟩)
end Go.Proofs.YtljgejbmimapdaaDoor
namespace Go.Proofs.YtljgejbmimapdaaDoor
open Go.RowKit
def shD (b : Int) (x : GDomain) : GDomain := ⟨x.Station, x.Channels.map (· + b)⟩
def shPr (b : Int) (x : GPair) : GPair := ⟨x.A, x.B, x.Offset, x.Low + b, x.High + b⟩
def shLd (b : Int) (x : GLoad) : GLoad := ⟨x.To, x.From, x.Weight, x.Low + b, x.High + b⟩
def shCp (b : Int) (x : GCap) : GCap := ⟨x.Station, x.Max, x.Low + b, x.High + b⟩
def shC (b : Int) (x : GChoice) : GChoice := ⟨x.Station, x.Channel + b⟩
def shP (p : GProblem) (b : Int) : GProblem := ⟨p.Domains.map (shD b), ⟨p.Rules.Pairs.map (shPr b), p.Rules.Loads.map (shLd b), p.Rules.Caps.map (shCp b)⟩⟩
structure ShB (p : GProblem) : Prop where
  n : p.Domains.length ≤ 512
  ch : ∀ x ∈ p.Domains, x.Channels.length ≤ 52 ∧ ∀ c ∈ x.Channels, 2 ≤ c ∧ c ≤ 51
  np : p.Rules.Pairs.length ≤ 4096
  ps : ∀ x ∈ p.Rules.Pairs, (-1 ≤ x.Offset ∧ x.Offset ≤ 1) ∧ 2 ≤ x.Low ∧ x.Low ≤ x.High ∧ x.High ≤ 51
  nl : p.Rules.Loads.length ≤ 1024
  ls : ∀ x ∈ p.Rules.Loads, 2 ≤ x.Low ∧ x.Low ≤ x.High ∧ x.High ≤ 51
  nc : p.Rules.Caps.length ≤ 1024
  cs : ∀ x ∈ p.Rules.Caps, 2 ≤ x.Low ∧ x.Low ≤ x.High ∧ x.High ≤ 51
theorem okG_sh {p : GProblem} (h : okG p = true) : ShB p := by
  have hG := Pb.good h; have hl : (pbG p).ds.length = p.Domains.length := List.length_map _; have l1 : (pbG p).ps.length = p.Rules.Pairs.length := List.length_map _; have l2 : (pbG p).ls.length = p.Rules.Loads.length := List.length_map _; have l3 : (pbG p).cs.length = p.Rules.Caps.length := List.length_map _; refine ⟨by rw [← hl]; exact hG.n, fun x hx => hG.chs _ (List.mem_map_of_mem (f := GDomain.b) hx), by rw [← l1]; exact hG.lps, fun x hx => ?_, by rw [← l2]; exact hG.lls, fun x hx => ?_, by rw [← l3]; exact hG.lcs, fun x hx => ?_⟩
  · have := (hG.ps _ (List.mem_map_of_mem (f := GPair.b) hx)).1; simp only [Pr.ok, inB, rngB, Bool.and_eq_true, decide_eq_true_eq] at this; dsimp only [GPair.b] at this; omega
  · have := (hG.ls _ (List.mem_map_of_mem (f := GLoad.b) hx)).1; simp only [Ld.ok, inB, rngB, Bool.and_eq_true, decide_eq_true_eq] at this; dsimp only [GLoad.b] at this; omega
  · have := (hG.cs _ (List.mem_map_of_mem (f := GCap.b) hx)).1; simp only [Cp.ok, inB, rngB, Bool.and_eq_true, decide_eq_true_eq] at this; dsimp only [GCap.b] at this; omega
theorem take_mapS {α β : Type} [Inhabited α] {xs : List α} {g : α → β} {i : Nat} (hi : i < xs.length) : (xs.take (i + 1)).map g = (xs.take i).map g ++ [g (nth xs i)] := by
  rw [List.take_succ_eq_append_getElem hi, List.map_append, nth_eq hi]; rfl
theorem iterK_map {α β σ ρ : Type} [Inhabited α] {xs : List α} (g : α → β) (st : List β → σ) {f : Nat → (σ → ρ) → σ → ρ} {k : σ → ρ} (hf : ∀ i next, i < xs.length → f i next (st ((xs.take i).map g)) = next (st ((xs.take i).map g ++ [g (nth xs i)]))) : iterK f k xs.length 0 (st []) = k (st (xs.map g)) := by
  refine iterK_inv (fun i s => s = st ((xs.take i).map g)) (fun r => r = k (st (xs.map g))) rfl (fun s hs => ?_) (fun i s next hi hs hn => ?_)
  · rw [hs, List.take_length]
  · rw [hs, hf i next hi, ← take_mapS hi]; exact hn _ rfl
theorem len_take {α β : Type} {xs : List α} {g : α → β} {i n k : Nat} {y : β} (hi : i < xs.length) (hn : xs.length ≤ n) (hk : n * k ≤ 140737488355328) : room ((xs.take i).map g ++ [y]).length k := by
  unfold room; rw [List.length_append, List.length_map, List.length_take, List.length_singleton]; refine Nat.le_trans (Nat.mul_le_mul_right k ?_) hk; omega
section
variable {p : GProblem} {d : List GDomain} {b : Int}
theorem shifted_x (h : ShB p) (hb : 0 ≤ b ∧ b ≤ 40) : law18_shifted_x p b = some (shP p b) := by
  unfold law18_shifted_x; simp only [joinK, Nat.sub_zero]; refine (iterK_map (xs := p.Domains) (shD b) (fun l => (l, ([] : List GPair), ([] : List GLoad), ([] : List GCap))) (fun i next hi => ?_)).trans ?_
  · have hx := h.ch _ (nth_memG hi); refine (iterK_map (xs := (nth p.Domains i).Channels) (fun c => c + b) (fun l => ((nth p.Domains i).Station, l)) (fun j next' hj => ?_)).trans ?_
    · have hc := hx.2 _ (nth_memG hj); dsimp only; rw [wI_in (by omega), grd_pos (len_take hj hx.1 (by omega))]
    · dsimp only; rw [grd_pos (len_take hi h.n (by omega))]; rfl
  refine (iterK_map (xs := p.Rules.Pairs) (shPr b) (fun l => (p.Domains.map (shD b), l, ([] : List GLoad), ([] : List GCap))) (fun i next hi => ?_)).trans ?_
  · have hx := h.ps _ (nth_memG hi); dsimp only; rw [wI_in (by omega), wI_in (by omega), grd_pos (len_take hi h.np (by omega))]; rfl
  refine (iterK_map (xs := p.Rules.Loads) (shLd b) (fun l => (p.Domains.map (shD b), p.Rules.Pairs.map (shPr b), l, ([] : List GCap))) (fun i next hi => ?_)).trans ?_
  · have hx := h.ls _ (nth_memG hi); dsimp only; rw [wI_in (by omega), wI_in (by omega), grd_pos (len_take hi h.nl (by omega))]; rfl
  refine (iterK_map (xs := p.Rules.Caps) (shCp b) (fun l => (p.Domains.map (shD b), p.Rules.Pairs.map (shPr b), p.Rules.Loads.map (shLd b), l)) (fun i next hi => ?_)).trans rfl; have hx := h.cs _ (nth_memG hi); dsimp only; rw [wI_in (by omega), wI_in (by omega), grd_pos (len_take hi h.nc (by omega))]; rfl
theorem only_sh {s c : Int} : onlyP (d.map (shD b)) s (c + b) = onlyP d s c := by
  rw [Bool.eq_iff_iff, onlyP_iff, onlyP_iff]; constructor
  · intro h x hx hs k hk; have := h (shD b x) (List.mem_map_of_mem hx) hs (k + b) (List.mem_map_of_mem (f := (· + b)) hk); omega
  · intro h y hy hs k hk; obtain ⟨x, hx, rfl⟩ := List.mem_map.1 hy; obtain ⟨q, hq, rfl⟩ := List.mem_map.1 hk; have := h x hx hs q hq; omega
theorem bt {lo hi c : Int} : decide (lo + b ≤ c + b ∧ c + b ≤ hi + b) = decide (lo ≤ c ∧ c ≤ hi) := decide_eq_decide.2 (by omega)
theorem pair_sh {s c : Int} {x : GPair} (hx : -1 ≤ x.Offset ∧ x.Offset ≤ 1) (hc : 2 ≤ c ∧ c ≤ 51) (hb : 0 ≤ b ∧ b ≤ 40) : pairR (d.map (shD b)) s (c + b) (shPr b x) = pairR d s c x := by
  unfold pairR shPr; dsimp only; rw [wI_in (x := c + b + x.Offset) (by omega), wI_in (x := c + x.Offset) (by omega), wI_in (x := c + b - x.Offset) (by omega), wI_in (x := c - x.Offset) (by omega), show c + b + x.Offset = (c + x.Offset) + b by omega, show c + b - x.Offset = (c - x.Offset) + b by omega, only_sh, only_sh, bt, bt]
theorem loadC_sh {t c f : Int} {x : GLoad} : loadC (d.map (shD b)) t (c + b) f (shLd b x) = loadC d t c f x := by
  unfold loadC shLd; dsimp only; rw [only_sh, bt]
theorem sum_sh {t c f : Int} : sumP (shP p b) (d.map (shD b)) t (c + b) f = sumP p d t c f := by
  unfold sumP
  show List.foldl _ 0 (p.Rules.Loads.map (shLd b)) = _
  rw [List.foldl_map]; simp only [loadC_sh]
  rfl
theorem any_cg {α : Type} {l : List α} {f g : α → Bool} (h : ∀ x ∈ l, f x = g x) : l.any f = l.any g := by
  induction l with
  | nil => rfl
  | cons x r ih => rw [List.any_cons, List.any_cons, h x (by simp), ih (fun y hy => h y (by simp [hy]))]
theorem over_sh {s c l : Int} : overP (shP p b) s (c + b) l = overP p s c l := by
  unfold overP
  show (p.Rules.Caps.map (shCp b)).any _ = _
  rw [List.any_map]; refine any_cg fun x _ => ?_
  show (decide (x.Station = s) && decide (x.Low + b ≤ c + b ∧ c + b ≤ x.High + b) && decide (x.Max < l)) = _
  rw [bt]
theorem loadR_sh {s c : Int} {x : GLoad} : loadR (shP p b) (d.map (shD b)) s (c + b) (shLd b x) = loadR p d s c x := by
  unfold loadR
  show (decide (x.From = s) && decide (x.Low + b ≤ c + b ∧ c + b ≤ x.High + b) && onlyP (d.map (shD b)) x.To (c + b) && overP (shP p b) x.To (c + b) (sumP (shP p b) (d.map (shD b)) x.To (c + b) s)) = _
  rw [bt, only_sh, over_sh, sum_sh]
theorem rem_sh (h : ShB p) (hb : 0 ≤ b ∧ b ≤ 40) {s c : Int} (hc : 2 ≤ c ∧ c ≤ 51) : remP (shP p b) (d.map (shD b)) s (c + b) = remP p d s c := by
  unfold remP; rw [over_sh, sum_sh]
  show ((p.Rules.Pairs.map (shPr b)).any _ || _ || (p.Rules.Loads.map (shLd b)).any _) = _
  rw [List.any_map, List.any_map, any_cg (l := p.Rules.Pairs) (f := pairR (d.map (shD b)) s (c + b) ∘ shPr b) (g := pairR d s c) (fun x hx => pair_sh (h.ps x hx).1 hc hb), any_cg (l := p.Rules.Loads) (f := loadR (shP p b) (d.map (shD b)) s (c + b) ∘ shLd b) (g := loadR p d s c) (fun x hx => loadR_sh)]
def In51D (d : List GDomain) : Prop := ∀ x ∈ d, ∀ c ∈ x.Channels, 2 ≤ c ∧ c ≤ 51
theorem In51D.sub {S : List GDomain} (h : In51D d) (hs : SubD S d) : In51D S := fun x hx c hc => by
  obtain ⟨i, hi, rfl⟩ := mem_nth hx; (have hi' : i < d.length := by rw [← hs.1]; exact hi); exact h _ (nth_memG hi') c ((hs.2 i hi').2 c hc)
theorem sub_sh {S : List GDomain} : SubD (S.map (shD b)) (d.map (shD b)) ↔ SubD S d := by
  unfold SubD; rw [List.length_map, List.length_map]; constructor
  · rintro ⟨h1, h2⟩; refine ⟨h1, fun i hi => ?_⟩; have := h2 i hi; rw [nth_mapG hi, nth_mapG (by rw [h1]; exact hi)] at this; refine ⟨this.1, fun c hc => ?_⟩; obtain ⟨q, hq, e⟩ := List.mem_map.1 (this.2 (c + b) (List.mem_map_of_mem (f := (· + b)) hc)); (have : q = c := by omega); rw [← this]; exact hq
  · rintro ⟨h1, h2⟩; refine ⟨h1, fun i hi => ?_⟩; have := h2 i hi; rw [nth_mapG hi, nth_mapG (by rw [h1]; exact hi)]; refine ⟨this.1, fun c hc => ?_⟩; obtain ⟨q, hq, rfl⟩ := List.mem_map.1 hc; exact List.mem_map_of_mem (f := (· + b)) (this.2 q hq)
theorem closed_sh (h : ShB p) (hb : 0 ≤ b ∧ b ≤ 40) {S : List GDomain} (hS : In51D S) : ClosedD (shP p b) (S.map (shD b)) ↔ ClosedD p S := by
  constructor
  · intro hC; refine ⟨fun x hx e => hC.ne (shD b x) (List.mem_map_of_mem hx) (by unfold shD; dsimp only; rw [e]; rfl), fun x hx c hc => ?_⟩; have := hC.calm (shD b x) (List.mem_map_of_mem hx) (c + b) (List.mem_map_of_mem (f := (· + b)) hc)
    rwa [rem_sh h hb (hS x hx c hc)] at this
  · intro hC; refine ⟨fun y hy e => ?_, fun y hy c hc => ?_⟩
    · obtain ⟨x, hx, rfl⟩ := List.mem_map.1 hy; exact hC.ne x hx (List.map_eq_nil_iff.1 e)
    · obtain ⟨x, hx, rfl⟩ := List.mem_map.1 hy; obtain ⟨q, hq, rfl⟩ := List.mem_map.1 hc; rw [rem_sh h hb (hS x hx q hq)]; exact hC.calm x hx q hq
theorem unsh {S : List GDomain} : (S.map (shD (-b))).map (shD b) = S := by
  rw [List.map_map]
  conv => rhs; rw [← List.map_id S]
  refine List.map_congr_left fun x _ => ?_
  cases x with
  | mk s c =>
    show GDomain.mk s ((c.map (· + -b)).map (· + b)) = GDomain.mk s c
    rw [List.map_map]
    congr 1
    conv => rhs; rw [← List.map_id c]
    refine List.map_congr_left fun q _ => ?_
    show q + -b + b = q
    omega
theorem prop_sh (h : ShB p) (hb : 0 ≤ b ∧ b ≤ 40) (hd : In51D d) {r : List GDomain × Bool} (hr : PropD p d r) : PropD (shP p b) (d.map (shD b)) (r.1.map (shD b), r.2) := by
  have back : ∀ S, ClosedD (shP p b) S → SubD S (d.map (shD b)) → ClosedD p (S.map (shD (-b))) ∧ SubD (S.map (shD (-b))) d := fun S hS hs => by
    rw [← unsh (b := b) (S := S)] at hS hs; have h1 := sub_sh.1 hs; exact ⟨(closed_sh h hb (hd.sub h1)).1 hS, h1⟩
  rcases hr with ⟨h1, h2, ⟨h3, h4⟩, h5⟩ | ⟨h1, h2⟩
  · refine .inl ⟨h1, (closed_sh h hb (hd.sub h3)).2 h2, ⟨sub_sh.2 h3, fun i hi => ?_⟩, fun S hS hs => ?_⟩
    · rw [List.length_map] at hi; rw [nth_mapG hi, nth_mapG (by rw [h3.1]; exact hi)]; exact (h4 i hi).map _
    · obtain ⟨g1, g2⟩ := back S hS hs; have := sub_sh (b := b).2 (h5 _ g1 g2)
      rwa [unsh] at this
  · refine .inr ⟨by rw [h1]; rfl, fun S hS hs => ?_⟩; obtain ⟨g1, g2⟩ := back S hS hs; exact h2 _ g1 g2
theorem keep_sh {s c : Int} {x : GDomain} : keepD s (c + b) (shD b x) = shD b (keepD s c x) := by
  cases x with
  | mk t l =>
    unfold keepD shD; dsimp only
    have e : (l.map (· + b)).any (fun k => decide (k = c + b)) = l.any (fun k => decide (k = c)) := by
      rw [List.any_map]; exact any_cg fun k _ => decide_eq_decide.2 (by show k + b = c + b ↔ k = c; omega)
    rw [e]
    cases decide (t = s) <;> cases l.any (fun k => decide (k = c)) <;> rfl
theorem keepL_sh {l : List GChoice} : keepL (d.map (shD b)) (l.map (shC b)) = (keepL d l).map (shD b) := by
  induction l generalizing d with
  | nil => rfl
  | cons c r ih =>
    have e : (d.map (shD b)).map (keepD c.Station (c.Channel + b)) = (d.map (keepD c.Station c.Channel)).map (shD b) := by
      rw [List.map_map, List.map_map]; exact List.map_congr_left fun x _ => keep_sh
    show keepL ((d.map (shD b)).map (keepD c.Station (c.Channel + b))) (r.map (shC b)) = _
    rw [e, ih]; rfl
theorem hasSt_sh {s : Int} : hasSt (shP p b) s = hasSt p s := by
  unfold hasSt
  show (p.Domains.map (shD b)).any _ = _
  rw [List.any_map]; rfl
theorem shifts_true {fuel : Nat} (hf : 100000 ≤ fuel) (l : List GChoice) (b : Int) : law18_PropagateShifts_x fuel p l b = some true := by
  unfold law18_PropagateShifts_x; obtain ⟨a, ha⟩ := small_x (p := p) (a := 10) (b := 40) (fuel := fuel) (by omega); rw [ha, Option.bind_some]; simp only [joinK, Nat.sub_zero, valid_x, Option.bind_some]
  cases a with
  | false => rfl
  | true =>
    rw [Bool.not_true, cond_false]; by_cases hl : 20 < (l.length : Int)
    · rw [decide_eq_true hl]; rfl
    rw [decide_eq_false hl, cond_false]; by_cases hb0 : b < 0
    · rw [decide_eq_true hb0]; rfl
    rw [decide_eq_false hb0, cond_false]; by_cases hb1 : 40 < b
    · rw [decide_eq_true hb1]; rfl
    rw [decide_eq_false hb1, cond_false]; (have hb : 0 ≤ b ∧ b ≤ 40 := by omega)
    cases hok : okG p with
    | false => rfl
    | true =>
      have hB := okG_sh hok; rw [Bool.not_true, cond_false, shifted_x hB hb]; simp only [Option.bind_some]
      cases hok2 : okG (shP p b) with
      | false => rfl
      | true =>
        rw [Bool.not_true, cond_false]; refine (iterK_map (xs := l) (fun c => GChoice.mk c.Station (wI (c.Channel + b))) (fun l => l) (fun i next hi => grd_pos (len_take hi (n := 20) (by omega) (by omega)))).trans ?_; rw [rvalidList_x, rvalidList_x]
        cases hv : (List.range l.length).all (chOkG l) with
        | false => rfl
        | true =>
          have e : l.map (fun c => GChoice.mk c.Station (wI (c.Channel + b))) = l.map (shC b) := List.map_congr_left fun c hc => by
            obtain ⟨i, hi, rfl⟩ := mem_nth hc; have := of_decide_eq_true (chOkG_good hv hi)
            show GChoice.mk _ (wI _) = GChoice.mk _ _
            rw [wI_in (by omega)]
          rw [e]
          cases hv2 : (List.range (l.map (shC b)).length).all (chOkG (l.map (shC b))) with
          | false => rfl
          | true =>
            simp only [Bool.not_true, Bool.or_false, cond_false]
            have hst2 : (∀ i, i < (l.map (shC b)).length → hasSt (shP p b) (nth (l.map (shC b)) i).Station = true) ↔ ∀ i, i < l.length → hasSt p (nth l i).Station = true := by
              rw [List.length_map]; constructor
              · intro h i hi; have := h i hi; rw [nth_mapG hi, hasSt_sh] at this; exact this
              · intro h i hi; rw [nth_mapG hi, hasSt_sh]; exact h i hi
            by_cases hst : ∀ i, i < l.length → hasSt p (nth l i).Station = true
            · obtain ⟨m, h1, h2⟩ := run_x hf hok hv hst; obtain ⟨m', h3, h4⟩ := run_x hf hok2 hv2 (hst2.2 hst); obtain ⟨hw, hbd, ht, hn⟩ := okG_bd hok2; have hk := keepL_sub (d := p.Domains) (l := l); have hk2 := keepL_sub (d := (shP p b).Domains) (l := l.map (shC b)); have hin : In51D p.Domains := fun x hx => (hB.ch x hx).2; have h5 := prop_sh hB hb (hin.sub hk.1) h1; rw [← keepL_sh] at h5; have e2 := h3.eq (hbd.ord hk2.1.1 hk2.2) h5; subst e2
              have hm : ShB ⟨m.1, ⟨[], [], []⟩⟩ := by
                refine ⟨?_, ?_, by simp, (fun x hx => by cases hx), by simp, (fun x hx => by cases hx), by simp, (fun x hx => by cases hx)⟩
                · rcases h1 with ⟨_, _, g, _⟩ | ⟨g, _⟩
                  · show m.1.length ≤ 512; rw [g.1.1, hk.1.1]; exact hB.n
                  · rw [g]; simp
                · intro x hx; rcases h1 with ⟨_, _, g, _⟩ | ⟨g, _⟩
                  · refine ⟨?_, (hin.sub (g.1.trans hk.1)) x hx⟩; obtain ⟨i, hi, rfl⟩ := mem_nth hx; (have hi1 : i < (keepL p.Domains l).length := by rw [← g.1.1]; exact hi); (have hi2 : i < p.Domains.length := by rw [← hk.1.1]; exact hi1); exact Nat.le_trans ((g.2 i hi1).trans (hk.2 i hi2)).length_le (hB.ch _ (nth_memG hi2)).1
                  · rw [g] at hx; cases hx
              rw [h2, Option.bind_some, h4, Option.bind_some]; simp only [decide_true, cond_true, beq_self_eq_true]; rw [shifted_x hm hb, Option.bind_some, sameDomains_x]
              show (bif decide (m.1.map (shD b) = m.1.map (shD b)) then _ else _) = _
              rw [decide_eq_true rfl]; rfl
            · rw [run_none hf hok hv hst, Option.bind_some, run_none hf hok2 hv2 (fun h => hst (hst2.1 h)), Option.bind_some]; simp only [decide_true, cond_true, beq_self_eq_true]; rw [shifted_x (p := ⟨[], ⟨[], [], []⟩⟩) ⟨by simp, (fun x hx => by cases hx), by simp, (fun x hx => by cases hx), by simp, (fun x hx => by cases hx), by simp, (fun x hx => by cases hx)⟩ hb, Option.bind_some, sameDomains_x]
              rfl
end
end Go.Proofs.YtljgejbmimapdaaDoor
namespace Go.Proofs.YtljgejbmimapdaaDoor
open Go.RowKit Go.ChangeShapes Go.WideShapes Go.Deep
def Opens {H : Type} (enc : TypeId × Value → H) (w : World) (base : Nat) (spare : Nat → Bool) (held : Bool) (t : TypeId) {α : Type} (R : List Value → α → Prop) : Prop :=
  ∀ fuel cs y, DataW.trod enc Tryd.prog w base spare held fuel t cs = some y → ∃ x, R cs x
section
variable {H : Type} {enc : TypeId × Value → H} {w : World} {base : Nat} {spare : Nat → Bool} {held : Bool}
theorem Opens.int {t : TypeId} (ht : Tryd.prog.underlying t = some (.int .i64)) : Opens enc w base spare held t (fun cs (x : Int) => cs = [.int .i64 x]) := fun fuel cs y h => by
  obtain ⟨k, hk, _⟩ := DataW.trod_int ht h; exact ⟨k, hk⟩
theorem cell_Cb {a : Addr} {v : Value} (h : w.cell? a = some v) : Cb w a.block := by
  unfold World.cell? at h
  split at h
  all_goals (first | exact ⟨_, _, _, by assumption⟩ | simp at h | skip)
theorem Opens.any {t e : TypeId} {k : Nat} {α : Type} [Inhabited α] {R : List Value → α → Prop} (ht : Tryd.prog.underlying t = some (.slice e)) (hk : Tryd.prog.cellsOf e = k) (hpos : 0 < k) (ho : Opens enc w base spare held e R) :
    Opens enc w base spare held t (fun cs (l : List α) => ∃ v c, cs = [v] ∧ SlC (Frz.all w) v k c ∧ c.length = l.length ∧ ∀ i, i < l.length → R (nth c i) (nth l i)) := fun fuel cs y h => by
  rcases open_slice ht h with ⟨h0, _⟩ | ⟨a, len, cap, m, n, D, Pl, hcs, hb, hl, hm, hmm, _, hx⟩
  · exact ⟨[], _, [], h0, SlC.nil _ _, rfl, fun i hi => absurd hi (Nat.not_lt_zero i)⟩
  · subst hcs; (have hlm : len ≤ m := by rw [hmm]; split <;> omega)
    have each : ∀ i, i < m → ∃ x : List Value × α, x.1.length = k ∧ R x.1 x.2 ∧ ∀ j, j < k → w.cell? (a.add (i * k + j)) = x.1[j]? := fun i hi => by
      obtain ⟨cs', h1, h2⟩ := hx i hi; rw [hk] at h1; obtain ⟨_, hlen, hcell⟩ := World.cells?_some h1; obtain ⟨x, hR⟩ := ho _ _ _ h2; exact ⟨(cs', x), hlen, hR, fun j hj => by rw [← hcell j hj, add_add]⟩
    obtain ⟨X, hX⟩ := choose_lt each
    have hn : ∀ i, i < len → nth ((List.range len).map fun i => (X i).1) i = (X i).1 := fun i hi => by
      rw [nth_eq (by simpa using hi)]; simp
    have hn2 : ∀ i, i < len → nth ((List.range len).map fun i => (X i).2) i = (X i).2 := fun i hi => by
      rw [nth_eq (by simpa using hi)]; simp
    refine ⟨(List.range len).map fun i => (X i).2, _, (List.range len).map fun i => (X i).1, rfl, ⟨some a, cap, by simp, by simpa using hl, by unfold maxLen at hm; omega, fun c hc => ?_, fun hp => ?_⟩, by simp, fun i hi => ?_⟩
    · simp at hc; obtain ⟨i, hi, rfl⟩ := hc; exact (hX i (by omega)).1
    · (have hp' : 0 < len := by simpa using hp); have c0 := (hX 0 (by omega)).2.2 0 hpos; have hx0 := (hX 0 (by omega)).1; rw [List.getElem?_eq_getElem (by omega)] at c0; have hcb := cell_Cb c0; have hs := World.cell?_spot c0; simp [Addr.add] at hs hcb; obtain ⟨b, off, sp⟩ := a; simp at hs hcb; subst hs; refine ⟨b, off, rfl, hcb, fun i hi j hj => ?_⟩; simp at hi; rw [hn i hi] at hj ⊢; have hxi := hX i (by omega); have := hxi.2.2 j (by omega); refine Eq.trans ?_ this
      show w.cell? _ = _
      rw [add_off, Nat.add_assoc]
    · simp at hi; rw [hn i hi, hn2 i hi]; exact (hX i (by omega)).2.1
theorem Opens.slC {t e : TypeId} {k : Nat} {α : Type} [Inhabited α] {en : α → List Value} (ht : Tryd.prog.underlying t = some (.slice e)) (hk : Tryd.prog.cellsOf e = k) (hpos : 0 < k) (ho : Opens enc w base spare held e (fun cs (x : α) => cs = en x)) :
    Opens enc w base spare held t (fun cs (l : List α) => ∃ v, cs = [v] ∧ SlC (Frz.all w) v k (l.map en)) := fun fuel cs y h => by
  obtain ⟨l, v, c, h1, h2, h3, h4⟩ := Opens.any ht hk hpos ho _ _ _ h; refine ⟨l, v, h1, ?_⟩
  have : c = l.map en := by
    apply List.ext_getElem (by simpa using h3); intro i hi hi2; rw [← nth_eq hi, h4 i (by omega), List.getElem_map, nth_eq (by omega)]
  rw [← this]; exact h2
theorem Opens.slD {t e : TypeId} {k : Nat} {α : Type} [Inhabited α] {rep : Frz → List Value → α → Prop} (ht : Tryd.prog.underlying t = some (.slice e)) (hk : Tryd.prog.cellsOf e = k) (hpos : 0 < k) (ho : Opens enc w base spare held e (rep (Frz.all w))) :
    Opens enc w base spare held t (fun cs (l : List α) => ∃ v c, cs = [v] ∧ SlD rep (Frz.all w) v k c l) := fun fuel cs y h => by
  obtain ⟨l, v, c, h1, h2, h3, h4⟩ := Opens.any ht hk hpos ho _ _ _ h; exact ⟨l, v, c, h1, h2, h3, h4⟩
end
end Go.Proofs.YtljgejbmimapdaaDoor
