/- Up Ur Ut Us Uv Uc Of: shortened and put together by squeeze.py. -/
import Derived.Test.YtnhdlloidbomdaaGreatQ11
import Derived.Deep.Slices
import Derived.ChangeArms
set_option maxRecDepth 100000
set_option maxHeartbeats 4000000
set_option linter.unusedVariables false
set_option linter.unusedSectionVars false
set_option linter.unusedSimpArgs false
namespace Go.Proofs.YtnhdlloidbomdaaGreat
open Go.RowKit
section
variable {p : GProblem} {l l0 : List GChoice} {b : Gboard}
theorem Board.with (hb : Board p l0 b) {c : Vec 512 Int} (hc : TabC l c) : Board p l (Gboard.mk (GProblem.mk b.p.Domains (GRules.mk b.p.Rules.Pairs b.p.Rules.Loads b.p.Rules.Caps)) c b.domains b.pairs b.caps b.into b.from_) := ⟨hb.pb, hc, hb.dm, hb.pr, hb.cp, hb.inn, hb.fr⟩
def zge (n c : Int) (x : GChoice) : GChoice := ⟨x.Station, bif decide (x.Station = n) then c else x.Channel⟩
def zcp (l : List GChoice) (n c : Int) : List GChoice := l.map (zge n c)
theorem zfC {l : List GChoice} (h : l.length ≤ 1000) (n c : Int) : zcz l n c = some (zcp l n c) := by
  unfold zcz; simp only [zaB, Nat.sub_zero]
  obtain ⟨h1, _⟩ := zb1 (k := fun out_1 : List GChoice => some out_1) (n := l.length) (s := ([] : List GChoice))
    (f := fun (i_5 : Nat) (next4 : List GChoice → Option (List GChoice)) (out_3 : List GChoice) =>
      (bif decide ((nth l i_5).Station = n) then
          grd (room (out_3 ++ [(GChoice.mk ((nth l i_5).Station) c)]).length 16) <|
          next4 (out_3 ++ [(GChoice.mk ((nth l i_5).Station) c)])
          else
          grd (room (out_3 ++ [(GChoice.mk ((nth l i_5).Station) (nth l i_5).Channel)]).length 16) <|
          next4 (out_3 ++ [(GChoice.mk ((nth l i_5).Station) (nth l i_5).Channel)])))
    (fun i s => s.length ≤ i) (fun i s => s ++ [zge n c (nth l i)]) (Nat.le_refl _)
    (fun i s hi hs => by rw [List.length_append]; simp only [List.length_cons, List.length_nil]; omega)
    (fun i next s hi hs => by
      have hr : ∀ a : GChoice, room (s ++ [a]).length 16 := fun a => by
        rw [List.length_append]; unfold room; simp only [List.length_cons, List.length_nil]; omega
      unfold zge
      cases decide ((nth l i).Station = n)
      · rw [cond_false, zaC (hr _), cond_false]
      · rw [cond_true, zaC (hr _), cond_true])
  refine Eq.trans h1 ?_; rw [zbS (l := l) (g := fun s x => s ++ [zge n c x]), zhq]; rfl
theorem zho (n c m : Int) : ∀ l : List GChoice, onL (zcp l n c) m = bif decide (m = n) && l.any (fun x => decide (x.Station = m)) then c else onL l m
  | [] => by simp [zcp, onL]
  | x :: l => by
    show (bif decide (x.Station = m) then (bif decide (x.Station = n) then c else x.Channel) else onL (zcp l n c) m) = bif decide (m = n) && (decide (x.Station = m) || l.any fun x => decide (x.Station = m)) then c else (bif decide (x.Station = m) then x.Channel else onL l m)
    by_cases h : x.Station = m
    · rw [decide_eq_true h, cond_true, Bool.true_or, Bool.and_true, cond_true, h]
    · rw [decide_eq_false h, cond_false, Bool.false_or, cond_false, zho n c m l]
theorem zdl {n : Int} (hn : ∃ x ∈ l, x.Station = n) (c m : Int) : onL (zcp l n c) m = if m = n then c else onL l m := by
  rw [zho]; by_cases h : m = n
  · subst h; rw [if_pos rfl, decide_eq_true rfl, List.any_eq_true.2 (by obtain ⟨x, hx, e⟩ := hn; exact ⟨x, hx, decide_eq_true e⟩)]; rfl
  · rw [if_neg h, decide_eq_false h, Bool.false_and, cond_false]
theorem zhe (hl : VL l) {n c : Int} (hc : 2 ≤ c ∧ c ≤ 51) : VL (zcp l n c) := by
  have hlen : (zcp l n c).length = l.length := List.length_map _; have hn : ∀ i, i < l.length → nth (zcp l n c) i = zge n c (nth l i) := fun i hi => zdq hi; refine ⟨fun i hi => ?_, fun i hi => ?_, fun i j hij hj => ?_⟩
  · rw [hlen] at hi; rw [hn i hi]; exact hl.st i hi
  · rw [hlen] at hi; rw [hn i hi]; unfold zge; have := hl.ch i hi
    cases decide ((nth l i).Station = n)
    · exact this
    · exact hc
  · rw [hlen] at hj; rw [hn i (by omega), hn j hj]; exact hl.lt i j hij hj
theorem zfM (hC : Comp p l) {j : Nat} (hj : j < p.Domains.length) {c : Int} (hc : zbi (nth p.Domains j).Channels c = true) (hp : okP p = true) : Comp p (zcp l (nth p.Domains j).Station c) := by
  have hn : ∀ i, i < l.length → nth (zcp l (nth p.Domains j).Station c) i = zge (nth p.Domains j).Station c (nth l i) := fun i hi => zdq hi; have hlen := hC.len; refine ⟨by rw [← hC.len]; exact List.length_map _, fun i hi => ?_, fun i hi => ?_⟩
  · rw [hn i (by omega)]; exact hC.st i hi
  · rw [hn i (by omega)]; unfold zge; by_cases h : (nth l i).Station = (nth p.Domains j).Station
    · rw [decide_eq_true h]; rw [hC.st i hi] at h
      have e : i = j := by
        have hs := zcP (zbo hp).i; rw [List.pairwise_iff_getElem] at hs
        have key : ∀ a b, a < b → b < p.Domains.length → (nth p.Domains a).Station < (nth p.Domains b).Station := fun a b hab hb => by
          have h := hs a b (by rw [List.length_map]; omega) (by rw [List.length_map]; exact hb) hab; rw [List.getElem_map, List.getElem_map] at h
          rwa [zaT (by omega), zaT hb]
        rcases Nat.lt_trichotomy i j with hlt | heq | hgt
        · have := key i j hlt hj; omega
        · exact heq
        · have := key j i hgt hi; omega
      rw [e]; exact hc
    · rw [decide_eq_false h]; exact hC.ch i hi
theorem zix {c : Vec 512 Int} (hc : TabC l c) {n : Int} (hn : 0 ≤ n ∧ n < 512) (hm : ∃ x ∈ l, x.Station = n) (ch : Int) : TabC (zcp l n ch) (Vec.put c n.toNat ch) := fun m hm2 => by
  rw [Vec.get_put (by omega), zdl hm]; by_cases h : (m : Int) = n
  · rw [if_pos h, if_pos (by omega)]
  · rw [if_neg h, if_neg (by omega), hc m hm2]
def zcG (n : Int) (c : GPair) : Bool := decide (c.A = n) || decide (c.B = n)
def tos (p : GProblem) (n : Int) : List GLoad := p.Rules.Loads.filter fun y => decide (y.From = n)
def zdz (p : GProblem) (n : Int) (c : GCap) : Bool := decide (c.Station = n) || (tos p n).any fun y => decide (y.To = c.Station)
def zf8 (p : GProblem) (l : List GChoice) (n : Int) : Nat := (p.Rules.Pairs.filter fun c => zcG n c && zaf c l).length + (p.Rules.Caps.filter fun c => zdz p n c && zad p c l).length
def zhw (p : GProblem) (l : List GChoice) (n : Int) : Nat := (p.Rules.Pairs.filter fun c => !zcG n c && zaf c l).length + (p.Rules.Caps.filter fun c => !zdz p n c && zad p c l).length
theorem zhG (n : Int) : zcf p l = zf8 p l n + zhw p l n := by
  unfold zcf zf8 zhw
  have e1 : (p.Rules.Pairs.filter fun c => zaf c l) = p.Rules.Pairs.filter fun c => (zcG n c && zaf c l) || (!zcG n c && zaf c l) := by
    refine List.filter_congr fun c _ => ?_
    cases zcG n c <;> simp
  have e2 : (p.Rules.Caps.filter fun c => zad p c l) = p.Rules.Caps.filter fun c => (zdz p n c && zad p c l) || (!zdz p n c && zad p c l) := by
    refine List.filter_congr fun c _ => ?_
    cases zdz p n c <;> simp
  rw [e1, e2, zdB _ _ (fun c h => by cases ht : zcG n c <;> simp_all), zdB _ _ (fun c h => by cases ht : zdz p n c <;> simp_all)]; omega
end
theorem zfN {α σ : Type} {f g : σ → α → σ} : ∀ {l : List α}, (∀ s, ∀ x ∈ l, f s x = g s x) → ∀ s, l.foldl f s = l.foldl g s
  | [], _, _ => rfl
  | x :: l, h, s => by
    rw [List.foldl_cons, List.foldl_cons, h s x (List.mem_cons_self ..)]; exact zfN (fun s y hy => h s y (List.mem_cons_of_mem _ hy)) _
section
variable {p : GProblem} {l : List GChoice} {b : Gboard}
theorem zhH (hp : okP p = true) {n : Int} (hn : ∃ x ∈ l, x.Station = n) (c : Int) : zhw p (zcp l n c) n = zhw p l n := by
  have hg := zbC (zbo hp).r; unfold zhw
  have e1 : (p.Rules.Pairs.filter fun d => !zcG n d && zaf d (zcp l n c)) = p.Rules.Pairs.filter fun d => !zcG n d && zaf d l := by
    refine List.filter_congr fun d _ => ?_
    cases ht : zcG n d
    · unfold zcG at ht; rw [Bool.or_eq_false_iff, decide_eq_false_iff_not, decide_eq_false_iff_not] at ht
      congr 1
      rw [Bool.eq_iff_iff, zdT, zdT, zdl hn, zdl hn, if_neg ht.1, if_neg ht.2]
    · rfl
  have e2 : (p.Rules.Caps.filter fun d => !zdz p n d && zad p d (zcp l n c)) = p.Rules.Caps.filter fun d => !zdz p n d && zad p d l := by
    refine List.filter_congr fun d hd => ?_
    cases ht : zdz p n d
    · unfold zdz at ht; rw [Bool.or_eq_false_iff, decide_eq_false_iff_not] at ht
      congr 1
      have h2 := zfe (hg.c d hd); rw [zem p d _ h2, zem p d _ h2, zdl hn, if_neg ht.1]
      congr 2
      rw [zfN (g := zf0 l d.Station) fun s x hx => ?_]; unfold zf0; rw [zdl hn c d.Station, if_neg ht.1]; by_cases hT : x.To = d.Station
      · have hF : x.From ≠ n := fun hF => by
          have := List.any_eq_false.1 ht.2 x (List.mem_filter.2 ⟨hx, decide_eq_true hF⟩); exact this (decide_eq_true hT)
        rw [zdl hn c x.From, if_neg hF]
      · rw [decide_eq_false hT]; rfl
    · rfl
  rw [e1, e2]
theorem ziY (hp : okP p = true) (hl : VL l) (hc : Comp p l) (hb : Board p l b) {n : Int} (hn : 0 ≤ n ∧ n < 512) : zaW b n = some ((p.Rules.Pairs.filter fun c => zcG n c && zaf c l).length : Int) := by
  have hg := zbC (zbo hp).r; have n1 := hg.np
  have e : Vec.get b.pairs n.toNat = p.Rules.Pairs.filter (zcG n) := by
    rw [hb.pr _ (by omega)]
    have h1 : ∀ xs : List GPair, (∀ c ∈ xs, c.A ≠ c.B) → (xs.flatMap fun c => (bif decide (c.A = ((n.toNat : Nat) : Int)) then [c] else []) ++ (bif decide (c.B = ((n.toNat : Nat) : Int)) then [c] else [])) = xs.filter (zcG n) := fun xs => by
      induction xs with
      | nil => intro _; rfl
      | cons c xs ih =>
        intro h; rw [List.flatMap_cons, List.filter_cons, ih fun d hd => h d (List.mem_cons_of_mem _ hd), show ((n.toNat : Nat) : Int) = n by omega]; have hab := h c (List.mem_cons_self ..); unfold zcG; by_cases hA : c.A = n
        · rw [decide_eq_true hA, decide_eq_false (fun hB => hab (by rw [hA, hB]))]; rfl
        · rw [decide_eq_false hA]
          cases decide (c.B = n) <;> rfl
    refine h1 _ fun c hm => ?_; have := of_decide_eq_true (zbF (zbw (zbw (hg.p c hm)))); omega
  unfold zaW; simp only [zaB, Nat.sub_zero]; rw [zaC hn, e]; refine Eq.trans (zcy (fun i s => bif zaf (nth (p.Rules.Pairs.filter (zcG n)) i) l then wI (s + 1) else s) fun i next s hi => ?_) ?_
  · rw [zeT hp hl hc hb (List.mem_filter.1 (zaN hi)).1, Option.bind_some]
    cases zaf (nth (p.Rules.Pairs.filter (zcG n)) i) l <;> rfl
  have h2 := List.length_filter_le (zcG n) p.Rules.Pairs; rw [zbS (l := p.Rules.Pairs.filter (zcG n)) (g := fun s x => bif zaf x l then wI (s + 1) else s), zcO (fun x => zaf x l) _ 0 (by omega) (by omega), List.filter_filter, Int.zero_add]
  congr 4
  funext c
  rw [Bool.and_comm]
theorem ziE (hp : okP p = true) (hb : Board p l b) {n : Int} (hn : 0 ≤ n ∧ n < 512) : zaX b n = some (zdm p l n : Int) := by
  unfold zaX; rw [zhf hp hb hn]; rfl
def zgf (p : GProblem) (l : List GChoice) (s : Int × Int) (y : GLoad) : Int × Int := bif decide (¬ y.To = s.2) then (wI (s.1 + (zdm p l y.To : Int)), y.To) else s
theorem zfS (hn : p.Rules.Caps.length ≤ 1024) : ∀ (ys : List GLoad) (a last : Int), ys.Pairwise (fun x y => x.To ≤ y.To) → (∀ y ∈ ys, last ≤ y.To) → 0 ≤ a → a + (ys.length : Int) * 1024 ≤ 1000000000 → (ys.foldl (zgf p l) (a, last)).1 = a + ((p.Rules.Caps.filter fun c => (!decide (c.Station = last) && ys.any fun y => decide (y.To = c.Station)) && zad p c l).length : Int)
  | [], a, last, _, _, _, _ => by
    (have : (p.Rules.Caps.filter fun c => (!decide (c.Station = last) && ([] : List GLoad).any fun y => decide (y.To = c.Station)) && zad p c l) = [] := by simp); rw [this]; simp
  | y :: ys, a, last, hs, hl, h0, h1 => by
    rw [List.pairwise_cons] at hs; rw [List.length_cons] at h1; rw [List.foldl_cons]; have hle := hl y (List.mem_cons_self ..); by_cases hy : y.To = last
    · (have e0 : zgf p l (a, last) y = (a, last) := by unfold zgf; rw [decide_eq_false (by simpa using hy)]; rfl); rw [e0, zfS hn ys a last hs.2 (fun z hz => hl z (List.mem_cons_of_mem _ hz)) h0 (by omega)]
      congr 3
      refine List.filter_congr fun c _ => ?_; rw [List.any_cons]; by_cases hc : c.Station = last
      · rw [decide_eq_true hc]; rfl
      · rw [decide_eq_false (show ¬ y.To = c.Station from fun e => hc (by rw [← e, hy])), Bool.false_or]
    · (have e0 : zgf p l (a, last) y = (wI (a + (zdm p l y.To : Int)), y.To) := by unfold zgf; rw [decide_eq_true (by simpa using hy)]; rfl); have hlt : zdm p l y.To ≤ 1024 := Nat.le_trans (List.length_filter_le _ _) hn; rw [e0, zf1 (by omega), zfS hn ys _ y.To hs.2 hs.1 (by omega) (by omega)]
      have e : (p.Rules.Caps.filter fun c => (!decide (c.Station = last) && (y :: ys).any fun y => decide (y.To = c.Station)) && zad p c l) = p.Rules.Caps.filter fun c => (decide (c.Station = y.To) && zad p c l) || ((!decide (c.Station = y.To) && ys.any fun y => decide (y.To = c.Station)) && zad p c l) := by
        refine List.filter_congr fun c _ => ?_; rw [List.any_cons]; by_cases hc : c.Station = y.To
        · rw [decide_eq_true hc, decide_eq_true hc.symm, decide_eq_false (show ¬ c.Station = last from fun e => hy (by rw [← hc, e]))]; simp
        · rw [decide_eq_false hc, decide_eq_false (show ¬ y.To = c.Station from fun e => hc e.symm)]; by_cases hcl : c.Station = last
          · have : (ys.any fun y => decide (y.To = c.Station)) = false := by
              rw [List.any_eq_false]; intro z hz hq; have h2 := hs.1 z hz; have h3 := of_decide_eq_true hq; omega
            rw [this]; simp
          · rw [decide_eq_false hcl]; simp
      rw [e, zdB (fun c => decide (c.Station = y.To) && zad p c l) (fun c => (!decide (c.Station = y.To) && ys.any fun y => decide (y.To = c.Station)) && zad p c l) (fun c hc => by rw [zbw hc]; rfl)]; unfold zdm; omega
theorem zhC (hp : okP p = true) (n : Int) : (tos p n).Pairwise (fun x y => x.To ≤ y.To) := by
  have h := (zgR zhU).1 (zh6 (zbo hp).r).il; refine (h.sublist List.filter_sublist).imp fun {a b} hab => ?_; unfold zc5 at hab; rcases lexL_cons.1 hab with h1 | ⟨h1, _⟩
  · omega
  · omega
theorem ziI (hp : okP p = true) (hb : Board p l b) {n : Int} (hn : 0 ≤ n ∧ n < 512) : zaY b n = some ((p.Rules.Caps.filter fun c => ((tos p n).any fun y => decide (y.To = c.Station)) && zad p c l).length : Int) := by
  have hg := zbC (zbo hp).r; have n2 := hg.nl
  have e : Vec.get b.from_ n.toNat = tos p n := by
    rw [hb.fr _ (by omega)]; unfold tos; congr 1; funext c; rw [show ((n.toNat : Nat) : Int) = n by omega]
  have hT : ∀ y ∈ tos p n, 0 ≤ y.To ∧ y.To < 512 := fun y hy => by
    have h := zc4 (hg.l y (List.mem_filter.1 hy).1); have h1 := zbA h.1; omega
  unfold zaY; simp only [zaB, Nat.sub_zero]; rw [zaC hn, e]; refine Eq.trans (zcy (fun i s => zgf p l s (nth (tos p n) i)) fun i next s hi => ?_) ?_
  · have h := hT _ (zaN hi); unfold zgf
    cases decide (¬ (nth (tos p n) i).To = s.2)
    · rfl
    · rw [cond_true, cond_true, zhf hp hb h, Option.bind_some]
  have hlen : (tos p n).length ≤ 1024 := Nat.le_trans (List.length_filter_le _ _) n2; rw [zbS (l := tos p n) (g := zgf p l), zfS hg.nc (tos p n) 0 (-1) (zhC hp n) (fun y hy => by have := hT y hy; omega) (by omega) (by omega), Int.zero_add]
  congr 3
  refine List.filter_congr fun c hc => ?_; have := zbA (zeN (hg.c c hc)); rw [decide_eq_false (by omega), Bool.not_false, Bool.true_and]
theorem zjn (hp : okP p = true) (n : Int) : zf8 p l n = (p.Rules.Pairs.filter fun c => zcG n c && zaf c l).length + zdm p l n + (p.Rules.Caps.filter fun c => ((tos p n).any fun y => decide (y.To = c.Station)) && zad p c l).length := by
  have hg := zbC (zbo hp).r
  have e : (p.Rules.Caps.filter fun c => zdz p n c && zad p c l) = p.Rules.Caps.filter fun c => (decide (c.Station = n) && zad p c l) || (((tos p n).any fun y => decide (y.To = c.Station)) && zad p c l) := by
    refine List.filter_congr fun c _ => ?_; unfold zdz; rw [Bool.and_or_distrib_right]
  unfold zf8
  rw [e, zdB (fun c => decide (c.Station = n) && zad p c l) (fun c => ((tos p n).any fun y => decide (y.To = c.Station)) && zad p c l) (fun c hc => by
    have hS : c.Station = n := of_decide_eq_true (zbw hc)
    have : ((tos p n).any fun y => decide (y.To = c.Station)) = false := by
      rw [List.any_eq_false]; intro y hy hq; have h2 := List.mem_filter.1 hy; have h3 := of_decide_eq_true (zbF (zbw (zbw (hg.l y h2.1)))); exact h3 (by rw [of_decide_eq_true hq, hS, of_decide_eq_true h2.2])
    rw [this]; rfl)]
  unfold zdm; omega
theorem zjA (hp : okP p = true) (n : Int) : zf8 p l n ≤ 100000 := by
  have hg := zbC (zbo hp).r; have n1 := hg.np; have n3 := hg.nc; unfold zf8; have h1 := List.length_filter_le (fun c => zcG n c && zaf c l) p.Rules.Pairs; have h2 := List.length_filter_le (fun c => zdz p n c && zad p c l) p.Rules.Caps; omega
end
def bstep (cost : Int → Int) (cur : Int) (r : List Int × Int) (ch : Int) : List Int × Int := bif decide (ch = cur) then r else bif (r.1.isEmpty || decide (cost ch < r.2)) then ([ch], cost ch) else bif decide (cost ch = r.2) then (r.1 ++ [ch], r.2) else r
def bfold (p : GProblem) (l : List GChoice) (n : Int) (d : List Int) : List Int × Int := d.foldl (bstep (fun ch => (zcf p (zcp l n ch) : Int)) (onL l n)) ([], 0)
theorem zdh (p : GProblem) (l : List GChoice) (n : Int) {d : List Int} {i : Nat} (hi : i < d.length) : bfold p l n (d.take (i + 1)) = bstep (fun ch => (zcf p (zcp l n ch) : Int)) (onL l n) (bfold p l n (d.take i)) (nth d i) := by
  unfold bfold; rw [zdV hi, List.foldl_append]; rfl
theorem zgS {σ ρ : Type} (f : Nat → (σ → ρ) → σ → ρ) (K : σ → ρ) (a : σ) : zai f K 3 0 a = f 0 (fun s => f 1 (fun s => f 2 K s) s) a := rfl
section
variable {p : GProblem} {l : List GChoice} {b : Gboard}
theorem zjR (hp : okP p = true) (hl : VL l) (hC : Comp p l) (hb : Board p l b) {j : Nat} (hj : j < p.Domains.length) : ∃ on', za9 b (nth p.Domains j).Station = some ((bfold p l (nth p.Domains j).Station (nth p.Domains j).Channels).1, on') ∧ TabC l on' := by
  have hd := hb.dm j hj; have hn := zdt (zbo hp).d (zaN hj); have hm : ∃ x ∈ l, x.Station = (nth p.Domains j).Station := ⟨nth l j, zaN (by rw [hC.len]; exact hj), hC.st j hj⟩; have hchs := List.all_eq_true.1 (zbw (zbF (List.all_eq_true.1 (zbo hp).d _ (zaN hj)))); have h50 := of_decide_eq_true (zbw (zbF ((zfW _).trans (List.all_eq_true.1 (zbo hp).d _ (zaN hj))))); unfold za9; simp only [zaB, Nat.sub_zero]; rw [zaC ⟨hn.1, hn.2⟩, hd, hb.get ⟨hn.1, hn.2⟩]; generalize hnn : (nth p.Domains j).Station = n at *; generalize hdd : (nth p.Domains j).Channels = d at *; refine zdn (σ := List Int × Int × Vec 512 Int) (fun i s => s.1 = (bfold p l n (d.take i)).1 ∧ ((bfold p l n (d.take i)).1 ≠ [] → (bfold p l n (d.take i)).2 = s.2.1 + (zhw p l n : Int)) ∧ s.1.length ≤ i ∧ ∀ m : Nat, m < 512 → (m : Int) ≠ n → Vec.get s.2.2 m = onL l m) (fun r => ∃ on', r = some ((bfold p l n d).1, on') ∧ TabC l on') ⟨rfl, fun h => absurd rfl h, Nat.le_refl _, fun m h _ => hb.on m h⟩ (fun s hs => ?_) (fun i s next hi hs hnx => ?_)
  · rw [List.take_length] at hs; refine ⟨_, congrArg some (Prod.ext hs.1 rfl), fun m h => ?_⟩; rw [Vec.get_put (by omega)]; by_cases e : m = n.toNat
    · rw [if_pos e, show (m : Int) = n by omega]
    · rw [if_neg e]; exact hs.2.2.2 m h (by omega)
  · obtain ⟨h1, h2, h3, h4⟩ := hs; have hch := zhs (hchs _ (zaN hi)); (have hHas : zbi d (nth d i) = true := by rw [zfK, List.any_eq_true]; exact ⟨_, zaN hi, decide_eq_true rfl⟩); by_cases hc : nth d i = onL l n
    · rw [decide_eq_true hc, cond_true]; refine hnx _ ⟨?_, ?_, Nat.le_trans h3 (Nat.le_succ i), h4⟩
      · rw [zdh p l n hi]; unfold bstep; rw [decide_eq_true hc]; exact h1
      · rw [zdh p l n hi]; unfold bstep; rw [decide_eq_true hc]; exact h2
    · rw [decide_eq_false hc, cond_false, zgS]
      have hT : TabC (zcp l n (nth d i)) (Vec.put s.2.2 n.toNat (nth d i)) := fun m h => by
        rw [Vec.get_put (by omega), zdl hm]; by_cases e : (m : Int) = n
        · rw [if_pos e, if_pos (by omega)]
        · rw [if_neg e, if_neg (by omega), h4 m h e]
      have hb' := hb.with hT; have hV := zhe hl (n := n) hch
      have hC' : Comp p (zcp l n (nth d i)) := by
        have := zfM hC hj (c := nth d i) (by rw [hdd]; exact hHas) hp
        rwa [hnn] at this
      have c1 := ziY hp hV hC' hb' (n := n) ⟨hn.1, hn.2⟩; have c2 := ziE hp hb' (n := n) ⟨hn.1, hn.2⟩; have c3 := ziI hp hb' (n := n) ⟨hn.1, hn.2⟩; have hpe := zjn (l := zcp l n (nth d i)) hp n; have hpl := zjA (l := zcp l n (nth d i)) hp n; have hcost := zhG (p := p) (l := zcp l n (nth d i)) n; rw [zhH hp hm] at hcost; have d00 : decide (((0 : Nat) : Int) = 0) = true := rfl; have d10 : decide (((1 : Nat) : Int) = 0) = false := rfl; have d11 : decide (((1 : Nat) : Int) = 1) = true := rfl; have d20 : decide (((2 : Nat) : Int) = 0) = false := rfl; have d21 : decide (((2 : Nat) : Int) = 1) = false := rfl; simp only [d00, d10, d11, d20, d21, cond_true, cond_false, c1, c2, c3, Option.bind_some]; generalize (p.Rules.Pairs.filter fun c => zcG n c && zaf c (zcp l n (nth d i))).length = x1 at *; generalize zdm p (zcp l n (nth d i)) n = x2 at *; generalize (p.Rules.Caps.filter fun c => ((tos p n).any fun y => decide (y.To = c.Station)) && zad p c (zcp l n (nth d i))).length = x3 at *; rw [zf1 (x := 0 + (x1 : Int)) (by omega), zf1 (x := 0 + (x1 : Int) + (x2 : Int)) (by omega), zf1 (x := 0 + (x1 : Int) + (x2 : Int) + (x3 : Int)) (by omega)]; rw [show (0 : Int) + (x1 : Int) + (x2 : Int) + (x3 : Int) = (zf8 p (zcp l n (nth d i)) n : Int) by omega]
      have hroom : ∀ t : List Int, t.length ≤ i → room (t ++ [nth d i]).length 8 := fun t ht => by
        rw [List.length_append]; unfold room; simp only [List.length_cons, List.length_nil]; omega
      have hput : ∀ m : Nat, m < 512 → (m : Int) ≠ n → Vec.get (Vec.put s.2.2 n.toNat (nth d i)) m = onL l m := fun m h e => by
        rw [Vec.get_put (by omega), if_neg (by omega), h4 m h e]
      have hbs := zdh p l n hi; unfold bstep at hbs; rw [decide_eq_false hc, cond_false, ← h1] at hbs; generalize hX : bfold p l n (d.take i) = r at *; by_cases he : s.1 = []
      · rw [he] at hbs ⊢; rw [show ([] : List Int).isEmpty = true from rfl, Bool.true_or, cond_true] at hbs ⊢; rw [decide_true, cond_true, zaC (hroom _ (by simp))]; refine hnx _ ⟨by rw [hbs]; rfl, fun _ => by rw [hbs]; dsimp only; omega, by simp, hput⟩
      · have h5 := h2 (by rw [← h1]; exact he)
        have he2 : s.1.isEmpty = false := by cases hs : s.1 with
          | nil => exact absurd hs he
          | cons a t => rfl
        rw [he2, Bool.false_or] at hbs ⊢; by_cases hlt : (zf8 p (zcp l n (nth d i)) n : Int) < s.2.1
        · rw [decide_eq_true (show (zcf p (zcp l n (nth d i)) : Int) < r.2 by omega), cond_true] at hbs; rw [decide_eq_true hlt, cond_true, decide_true, cond_true, zaC (hroom _ (by simp))]; refine hnx _ ⟨by rw [hbs]; rfl, fun _ => by rw [hbs]; dsimp only; omega, by simp, hput⟩
        · rw [decide_eq_false (show ¬ (zcf p (zcp l n (nth d i)) : Int) < r.2 by omega), cond_false] at hbs; rw [decide_eq_false hlt, cond_false]; by_cases heq : (zf8 p (zcp l n (nth d i)) n : Int) = s.2.1
          · rw [decide_eq_true (show (zcf p (zcp l n (nth d i)) : Int) = r.2 by omega), cond_true] at hbs; rw [decide_eq_true heq, cond_true, zaC (hroom _ h3)]; refine hnx _ ⟨by rw [hbs], fun _ => by rw [hbs]; exact h5, by rw [List.length_append]; simp only [List.length_cons, List.length_nil]; omega, hput⟩
          · rw [decide_eq_false (show ¬ (zcf p (zcp l n (nth d i)) : Int) = r.2 by omega), cond_false] at hbs; rw [decide_eq_false heq, cond_false]; refine hnx _ ⟨by rw [hbs]; exact h1, fun _ => by rw [hbs]; exact h5, Nat.le_trans h3 (Nat.le_succ i), hput⟩
end
section
variable {p : GProblem} {l : List GChoice} {b : Gboard}
theorem zh1 (hp : okP p = true) {j : Nat} (hj : j < p.Domains.length) : zaq p (nth p.Domains j).Station = (j : Int) := by
  have key : ∀ a b, a < b → b < p.Domains.length → (nth p.Domains a).Station < (nth p.Domains b).Station := fun a b hab hb => by
    have h := List.pairwise_iff_getElem.1 (zcP (zbo hp).i) a b (by rw [List.length_map]; omega) (by rw [List.length_map]; exact hb) hab; rw [List.getElem_map, List.getElem_map] at h
    rwa [zaT (by omega), zaT hb]
  unfold zaq; simp only [zaB, Nat.sub_zero]; refine zdn (σ := Unit) (fun i _ => i ≤ j) (fun r => r = (j : Int)) (Nat.zero_le _) (fun _ h => absurd h (by omega)) (fun i _ next hi h hn => ?_); by_cases he : (nth p.Domains i).Station = (nth p.Domains j).Station
  · rw [decide_eq_true he, cond_true]; rcases Nat.lt_or_ge i j with hlt | hge
    · have := key i j hlt hj; omega
    · rw [show i = j by omega]
  · rw [decide_eq_false he, cond_false]; refine hn () ?_; rcases Nat.lt_or_ge i j with hlt | hge
    · omega
    · exact absurd (by rw [show i = j by omega]) he
theorem zfx (s : List Int) : s.isEmpty = decide ((s.length : Int) = 0) := by
  cases s with
  | nil => rfl
  | cons a s => rw [decide_eq_false (by rw [List.length_cons]; omega)]; rfl
theorem ziz (hp : okP p = true) (hlen : l.length ≤ 1000) {j : Nat} (hj : j < p.Domains.length) : zcT p l (nth p.Domains j).Station = some (bfold p l (nth p.Domains j).Station (nth p.Domains j).Channels).1 := by
  have h50 := of_decide_eq_true (zbw (zbF ((zfW _).trans (List.all_eq_true.1 (zbo hp).d _ (zaN hj))))); unfold zcT; simp only [zaB, Nat.sub_zero]; rw [zh1 hp hj, zaC ⟨by omega, by omega⟩, show ((j : Int)).toNat = j from rfl, on_x]; generalize (nth p.Domains j).Station = n at *; generalize hdd : (nth p.Domains j).Channels = d at *; refine zdn (σ := List Int × Int) (fun i s => s = bfold p l n (d.take i) ∧ s.1.length ≤ i) (fun r => r = some (bfold p l n d).1) ⟨rfl, Nat.le_refl _⟩ (fun s hs => by rw [List.take_length] at hs; rw [hs.1]) (fun i s next hi hs hnx => ?_); have hbs := zdh p l n hi; rw [← hs.1] at hbs; unfold bstep at hbs
  have hroom : ∀ t : List Int, t.length ≤ i → room (t ++ [nth d i]).length 8 := fun t ht => by
    rw [List.length_append]; unfold room; simp only [List.length_cons, List.length_nil]; omega
  cases hc : decide (nth d i = onL l n) with
  | true =>
    rw [hc, cond_true] at hbs; rw [cond_true]; exact hnx _ ⟨by rw [hbs], Nat.le_trans hs.2 (Nat.le_succ i)⟩
  | false =>
    rw [hc, cond_false] at hbs; rw [cond_false, zfC hlen, Option.bind_some, zgC hp, ← zfx]
    cases h1 : (s.1.isEmpty || decide ((zcf p (zcp l n (nth d i)) : Int) < s.2)) with
    | true =>
      rw [h1, cond_true] at hbs; rw [cond_true]; simp only [decide_true, cond_true]; rw [zaC (hroom _ (by simp))]; exact hnx _ ⟨by rw [hbs]; rfl, by simp⟩
    | false =>
      rw [h1, cond_false] at hbs; rw [cond_false]
      cases h2 : decide ((zcf p (zcp l n (nth d i)) : Int) = s.2) with
      | true =>
        rw [h2, cond_true] at hbs; rw [cond_true, zaC (hroom _ hs.2)]; exact hnx _ ⟨by rw [hbs], by rw [List.length_append]; simp only [List.length_cons, List.length_nil]; omega⟩
      | false =>
        rw [h2, cond_false] at hbs; rw [cond_false]; exact hnx _ ⟨by rw [hbs], Nat.le_trans hs.2 (Nat.le_succ i)⟩
theorem zh5 (n : Int) (d : List Int) : ∀ x ∈ (bfold p l n d).1, x ∈ d := by
  have key : ∀ i, i ≤ d.length → ∀ x ∈ (bfold p l n (d.take i)).1, x ∈ d := fun i => by
    induction i with
    | zero => intro _ x hx; cases hx
    | succ i ih =>
      intro hi x hx; rw [zdh p l n (by omega)] at hx; unfold bstep at hx; have hm := zaN (show i < d.length by omega); have h := ih (by omega)
      revert hx
      cases decide (nth d i = onL l n)
      · rw [cond_false]
        cases ((bfold p l n (d.take i)).1.isEmpty || decide ((zcf p (zcp l n (nth d i)) : Int) < (bfold p l n (d.take i)).2))
        · rw [cond_false]
          cases decide ((zcf p (zcp l n (nth d i)) : Int) = (bfold p l n (d.take i)).2)
          · exact h x
          · intro hx; rcases List.mem_append.1 hx with hx | hx
            · exact h x hx
            · simp at hx; rw [hx]; exact hm
        · intro hx; simp at hx; rw [hx]; exact hm
      · exact h x
  have := key d.length (Nat.le_refl _)
  rwa [List.take_length] at this
theorem zii (n : Int) (d : List Int) : (bfold p l n d).1.length ≤ d.length := by
  have key : ∀ i, i ≤ d.length → (bfold p l n (d.take i)).1.length ≤ i := fun i => by
    induction i with
    | zero => intro _; exact Nat.le_refl _
    | succ i ih =>
      intro hi; rw [zdh p l n (by omega)]; unfold bstep; have h := ih (by omega)
      cases decide (nth d i = onL l n)
      · rw [cond_false]
        cases ((bfold p l n (d.take i)).1.isEmpty || decide ((zcf p (zcp l n (nth d i)) : Int) < (bfold p l n (d.take i)).2))
        · rw [cond_false]
          cases decide ((zcf p (zcp l n (nth d i)) : Int) = (bfold p l n (d.take i)).2)
          · exact Nat.le_trans h (Nat.le_succ i)
          · rw [cond_true, List.length_append]; simp only [List.length_cons, List.length_nil]; omega
        · rw [cond_true]; simp
      · exact Nat.le_trans h (Nat.le_succ i)
  have := key d.length (Nat.le_refl _)
  rwa [List.take_length] at this
def whoL (p : GProblem) (l : List GChoice) : List Int := (p.Domains.filter fun d => invB p l d.Station).map (·.Station)
theorem zjN {n : Int} (h : n ∈ whoL p l) : ∃ j, j < p.Domains.length ∧ (nth p.Domains j).Station = n := by
  obtain ⟨d, hd, rfl⟩ := List.mem_map.1 h; obtain ⟨j, hj, rfl⟩ := List.mem_iff_getElem.1 (List.mem_filter.1 hd).1; exact ⟨j, hj, by rw [zaT hj]⟩
theorem zgY (hp : okP p = true) : (whoL p l).length ≤ 512 := by
  unfold whoL; rw [List.length_map]; exact Nat.le_trans (List.length_filter_le _ _) (zbo hp).len
theorem zg5 (hp : okP p = true) (h : zcf p l ≠ 0) : whoL p l ≠ [] := by
  have hO := zbo hp
  have hD : ∀ n, hasD p n = true → ∃ d ∈ p.Domains, d.Station = n := fun n hn => by
    rw [zeG hO.d] at hn; obtain ⟨d, hd, rfl⟩ := List.mem_map.1 (anyD_mem.1 hn); exact ⟨d, hd, rfl⟩
  have go : ∀ n, hasD p n = true → invB p l n = true → whoL p l ≠ [] := fun n hn hi => by
    obtain ⟨d, hd, rfl⟩ := hD n hn; exact List.ne_nil_of_mem (List.mem_map.2 ⟨d, List.mem_filter.2 ⟨hd, hi⟩, rfl⟩)
  by_cases h1 : (p.Rules.Pairs.filter fun c => zaf c l) = []
  · have h2 : (p.Rules.Caps.filter fun c => zad p c l) ≠ [] := fun e => h (by unfold zcf; rw [h1, e]; rfl); obtain ⟨c, hc⟩ := List.exists_mem_of_ne_nil _ h2; have hc2 := List.mem_filter.1 hc; refine go c.Station (List.all_eq_true.1 (zbF (zbF hO.l)) c hc2.1) ?_; unfold invB; rw [Bool.or_eq_true]; refine .inr (List.any_eq_true.2 ⟨c, hc2.1, ?_⟩); rw [hc2.2, decide_eq_true rfl]; rfl
  · obtain ⟨c, hc⟩ := List.exists_mem_of_ne_nil _ h1; have hc2 := List.mem_filter.1 hc; refine go c.A (zbw (List.all_eq_true.1 (zbw hO.l) c hc2.1)) ?_; unfold invB; rw [Bool.or_eq_true]; refine .inl (List.any_eq_true.2 ⟨c, hc2.1, ?_⟩); rw [hc2.2, decide_eq_true (show c.A = c.A from rfl)]; rfl
end
section
variable {p : GProblem} {l : List GChoice} {b : Gboard}
def zg0 (p : GProblem) (n : Int) : List Int := (nth p.Domains (zaq p n).toNat).Channels
theorem zfb (hp : okP p = true) {j : Nat} (hj : j < p.Domains.length) : zg0 p (nth p.Domains j).Station = (nth p.Domains j).Channels := by
  unfold zg0; rw [zh1 hp hj]; rfl
noncomputable def stepN (p : GProblem) (s : List GChoice × BitVec 64) : Int := nth (whoL p s.1) (numB s.2 (whoL p s.1).length).1.toNat
noncomputable def stepB (p : GProblem) (s : List GChoice × BitVec 64) : List Int := (bfold p s.1 (stepN p s) (zg0 p (stepN p s))).1
noncomputable def stepS (p : GProblem) (s : List GChoice × BitVec 64) : List GChoice × BitVec 64 :=
  bif (stepB p s).isEmpty then (s.1, (numB s.2 (whoL p s.1).length).2) else (zcp s.1 (stepN p s) (nth (stepB p s) (numB (numB s.2 (whoL p s.1).length).2 (stepB p s).length).1.toNat), (numB (numB s.2 (whoL p s.1).length).2 (stepB p s).length).2)
noncomputable def solveR (p : GProblem) : Nat → List GChoice × BitVec 64 → List GChoice × Nat × Bool
  | 0, s => (s.1, 0, decide (zcf p s.1 = 0))
  | k + 1, s => bif decide (zcf p s.1 = 0) then (s.1, 0, true) else ((solveR p k (stepS p s)).1, (solveR p k (stepS p s)).2.1 + 1, (solveR p k (stepS p s)).2.2)
structure GoodL (p : GProblem) (l : List GChoice) : Prop where
  v : VL l
  c : Comp p l
theorem zgU (hp : okP p = true) {s : List GChoice × BitVec 64} (h0 : zcf p s.1 ≠ 0) : ∃ j, j < p.Domains.length ∧ (nth p.Domains j).Station = stepN p s ∧ 0 ≤ (numB s.2 (whoL p s.1).length).1 ∧ (numB s.2 (whoL p s.1).length).1 < ((whoL p s.1).length : Int) := by
  have h1 := List.length_pos_iff.2 (zg5 hp h0); have h2 := zgY (l := s.1) hp; have hb := zf6 (limit := ((whoL p s.1).length : Int)) (by omega) (by omega) s.2; obtain ⟨j, hj, e⟩ := zjN (zaN (l := whoL p s.1) (i := (numB s.2 (whoL p s.1).length).1.toNat) (by omega)); exact ⟨j, hj, e, hb⟩
theorem zfi (hp : okP p = true) {s : List GChoice × BitVec 64} {j : Nat} (hj : j < p.Domains.length) (e : (nth p.Domains j).Station = stepN p s) : (stepB p s).length ≤ 50 := by
  have h50 := of_decide_eq_true (zbw (zbF ((zfW _).trans (List.all_eq_true.1 (zbo hp).d _ (zaN hj))))); unfold stepB; rw [← e, zfb hp hj]; have := zii (p := p) (l := s.1) (nth p.Domains j).Station (nth p.Domains j).Channels; omega
theorem zfh (hp : okP p = true) {s : List GChoice × BitVec 64} (hG : GoodL p s.1) (h0 : zcf p s.1 ≠ 0) : GoodL p (stepS p s).1 := by
  obtain ⟨j, hj, e, hb⟩ := zgU hp h0; unfold stepS
  cases he : (stepB p s).isEmpty with
  | true => exact hG
  | false =>
    rw [cond_false]; have hl := zfi hp hj e
    have h1 : 0 < (stepB p s).length := by cases hs : stepB p s with
      | nil => rw [hs] at he; cases he
      | cons a t => simp
    have hb2 := zf6 (limit := ((stepB p s).length : Int)) (by omega) (by omega) (numB s.2 (whoL p s.1).length).2; have hm := zaN (l := stepB p s) (i := (numB (numB s.2 (whoL p s.1).length).2 (stepB p s).length).1.toNat) (by omega); generalize nth (stepB p s) (numB (numB s.2 (whoL p s.1).length).2 (stepB p s).length).1.toNat = ch at *
    have hd : ch ∈ (nth p.Domains j).Channels := by
      unfold stepB at hm; rw [← e, zfb hp hj] at hm; exact zh5 _ _ _ hm
    have hchs := List.all_eq_true.1 (zbw (zbF (List.all_eq_true.1 (zbo hp).d _ (zaN hj)))); refine ⟨zhe hG.v (zhs (hchs _ hd)), ?_⟩; dsimp only; rw [← e]; exact zfM hG.c hj (by rw [zfK, List.any_eq_true]; exact ⟨_, hd, decide_eq_true rfl⟩) hp
theorem zfB : ∀ (k : Nat) (s : List GChoice × BitVec 64), (solveR p k s).2.2 = decide (zcf p (solveR p k s).1 = 0)
  | 0, s => rfl
  | k + 1, s => by
    rw [solveR]; by_cases h : zcf p s.1 = 0
    · rw [decide_eq_true h, cond_true]; exact (decide_eq_true h).symm
    · rw [decide_eq_false h, cond_false]; exact zfB k _
theorem zfp (hp : okP p = true) : ∀ (k : Nat) (s : List GChoice × BitVec 64), GoodL p s.1 → GoodL p (solveR p k s).1
  | 0, s, h => h
  | k + 1, s, h => by
    rw [solveR]; by_cases h0 : zcf p s.1 = 0
    · rw [decide_eq_true h0, cond_true]; exact h
    · rw [decide_eq_false h0, cond_false]; exact zfp hp k _ (zfh hp h h0)
theorem zhk (hp : okP p = true) {budget : Int} (hB : budget ≤ 10000) {f : (List GChoice × BitVec 64 × Int → Option (List GChoice × Int × Bool)) → List GChoice × BitVec 64 × Int → Option (List GChoice × Int × Bool)}
    (hf : ∀ next l st m, GoodL p l → f next (l, st, m) = bif decide (zcf p l = 0) then some (l, m, true) else bif decide (m = budget) then some (l, m, false) else next ((stepS p (l, st)).1, (stepS p (l, st)).2, wI (m + 1))) : ∀ (k : Nat) (l : List GChoice) (st : BitVec 64) (m : Int), GoodL p l → 0 ≤ m → m + (k : Int) = budget → ∀ M, k < M → zbx f M (l, st, m) = some ((solveR p k (l, st)).1, m + ((solveR p k (l, st)).2.1 : Int), (solveR p k (l, st)).2.2)
  | 0, l, st, m, hG, h0, h1, M, hM => by
    obtain ⟨M', rfl⟩ : ∃ M', M = M' + 1 := ⟨M - 1, by omega⟩; rw [zcl, hf _ _ _ _ hG]; have e : solveR p 0 (l, st) = (l, 0, decide (zcf p l = 0)) := rfl; rw [e]; by_cases h : zcf p l = 0
    · rw [decide_eq_true h, cond_true]; simp
    · rw [decide_eq_false h, cond_false, decide_eq_true (show m = budget by omega), cond_true]; simp
  | k + 1, l, st, m, hG, h0, h1, M, hM => by
    obtain ⟨M', rfl⟩ : ∃ M', M = M' + 1 := ⟨M - 1, by omega⟩; rw [zcl, hf _ _ _ _ hG, solveR]; by_cases h : zcf p l = 0
    · rw [decide_eq_true h, cond_true, cond_true]; simp
    · rw [decide_eq_false h, cond_false, cond_false, decide_eq_false (show ¬ m = budget by omega), cond_false, zf1 (by omega)]; have e := zhk hp hB hf k (stepS p (l, st)).1 (stepS p (l, st)).2 (m + 1) (zfh (s := (l, st)) hp hG h) (by omega) (by omega) M' (by omega); rw [show ((stepS p (l, st)).1, (stepS p (l, st)).2) = stepS p (l, st) from rfl] at e; rw [e]; dsimp only
      congr 3
      omega
theorem zhl (hp : okP p = true) {budget : Int} (hB : budget ≤ 10000) {ρ : Type} {K : Int × BitVec 64 × Vec 512 Int → Option ρ} {f : (Int × BitVec 64 × Vec 512 Int → Option ρ) → Int × BitVec 64 × Vec 512 Int → Option ρ}
    (hf : ∀ next l st m c, GoodL p l → TabC l c → (bif decide (m < budget) && !decide (zcf p l = 0) then ∃ c', TabC (stepS p (l, st)).1 c' ∧ f next (m, st, c) = next (wI (m + 1), (stepS p (l, st)).2, c') else f next (m, st, c) = K (m, st, c))) : ∀ (k : Nat) (l : List GChoice) (st : BitVec 64) (m : Int) (c : Vec 512 Int), GoodL p l → TabC l c → 0 ≤ m → m + (k : Int) = budget → ∀ M, k < M → ∃ st' c', TabC (solveR p k (l, st)).1 c' ∧ zbx f M (m, st, c) = K (m + ((solveR p k (l, st)).2.1 : Int), st', c')
  | 0, l, st, m, c, hG, hT, h0, h1, M, hM => by
    obtain ⟨M', rfl⟩ : ∃ M', M = M' + 1 := ⟨M - 1, by omega⟩; have h := hf (zbx f M') l st m c hG hT; rw [decide_eq_false (show ¬ m < budget by omega), Bool.false_and, cond_false] at h; exact ⟨st, c, hT, by rw [zcl, h]; show _ = K (m + ((0 : Nat) : Int), st, c); rw [show m + ((0 : Nat) : Int) = m by omega]⟩
  | k + 1, l, st, m, c, hG, hT, h0, h1, M, hM => by
    obtain ⟨M', rfl⟩ : ∃ M', M = M' + 1 := ⟨M - 1, by omega⟩; have h := hf (zbx f M') l st m c hG hT; rw [decide_eq_true (show m < budget by omega), Bool.true_and] at h; rw [solveR]; by_cases hc : zcf p l = 0
    · rw [decide_eq_true hc, Bool.not_true, cond_false] at h; rw [decide_eq_true hc, cond_true]; exact ⟨st, c, hT, by rw [zcl, h]; show _ = K (m + ((0 : Nat) : Int), st, c); rw [show m + ((0 : Nat) : Int) = m by omega]⟩
    · rw [decide_eq_false hc, Bool.not_false, cond_true] at h; rw [decide_eq_false hc, cond_false]; obtain ⟨c', hT', h⟩ := h; obtain ⟨st2, c2, h2, h3⟩ := zhl hp hB hf k (stepS p (l, st)).1 (stepS p (l, st)).2 (m + 1) c' (zfh (s := (l, st)) hp hG hc) hT' (by omega) (by omega) M' (by omega); rw [show ((stepS p (l, st)).1, (stepS p (l, st)).2) = stepS p (l, st) from rfl] at h2 h3; refine ⟨st2, c2, h2, ?_⟩; rw [zcl, h, zf1 (by omega), h3]; dsimp only
      congr 2
      omega
end
section
variable {p : GProblem} {l : List GChoice} {b : Gboard}
theorem zfA {hs : List GChoice} (hp : okP p = true) (hne : p.Domains.any zc3 = false) : GoodL p (p.Domains.map (zce hs)) := by
  have hO := zbo hp; have hn : ∀ i, i < p.Domains.length → nth (p.Domains.map (zce hs)) i = zce hs (nth p.Domains i) := fun i hi => zdq hi
  have hin : ∀ i, i < p.Domains.length → zbi (nth p.Domains i).Channels (zce hs (nth p.Domains i)).Channel = true := fun i hi => by
    unfold zce
    cases hH : zbi (nth p.Domains i).Channels (onL hs (nth p.Domains i).Station)
    · rw [cond_false]; have h3 := List.any_eq_false.1 hne _ (zaN hi); have h4 : ¬ ((nth p.Domains i).Channels.length : Int) = 0 := fun e => h3 (decide_eq_true e); rw [zfK, List.any_eq_true]; exact ⟨_, zaN (by omega), decide_eq_true rfl⟩
    · exact hH
  have key : ∀ a b, a < b → b < p.Domains.length → (nth p.Domains a).Station < (nth p.Domains b).Station := fun a b hab hb => by
    have h := List.pairwise_iff_getElem.1 (zcP hO.i) a b (by rw [List.length_map]; omega) (by rw [List.length_map]; exact hb) hab; rw [List.getElem_map, List.getElem_map] at h
    rwa [zaT (by omega), zaT hb]
  refine ⟨⟨fun i hi => ?_, fun i hi => ?_, fun i j hij hj => ?_⟩, ⟨List.length_map _, fun i hi => ?_, fun i hi => ?_⟩⟩
  · rw [List.length_map] at hi; rw [hn i hi]; have := zdt hO.d (zaN hi)
    show 0 ≤ (nth p.Domains i).Station ∧ (nth p.Domains i).Station ≤ 511
    omega
  · rw [List.length_map] at hi; rw [hn i hi]; have h := hin i hi; rw [zfK, List.any_eq_true] at h; obtain ⟨x, hx, hq⟩ := h; rw [← of_decide_eq_true hq]; exact zhs (List.all_eq_true.1 (zbw (zbF (List.all_eq_true.1 hO.d _ (zaN hi)))) x hx)
  · rw [List.length_map] at hj; rw [hn i (by omega), hn j hj]; exact key i j hij hj
  · rw [hn i hi]; rfl
  · rw [hn i hi]; exact hin i hi
noncomputable abbrev solveN (p : GProblem) (hs : List GChoice) (seed budget : Int) : List GChoice × Nat × Bool := solveR p budget.toNat (p.Domains.map (zce hs), BitVec.ofInt 64 seed)
theorem zhr {F : Nat} (hF : bigN < F) {hs : List GChoice} {seed budget : Int} (hp : okP p = true) (hne : p.Domains.any zc3 = false) (h0 : 0 ≤ budget) (hB : budget ≤ 10000) : zcZ F p hs seed budget = some ((solveN p hs seed budget).1, ((solveN p hs seed budget).2.1 : Int), (solveN p hs seed budget).2.2) := by
  have hb0 := zf3; have hlen := (zbo hp).len; unfold zcZ; rw [zfO hp, hne]; simp only [cond_false, Option.bind_some, zaB]; refine Eq.trans (zhk hp hB (fun next l st m hG => ?_) budget.toNat (p.Domains.map (zce hs)) (BitVec.ofInt 64 seed) 0 (zfA hp hne) (Int.le_refl 0) (by omega) F (by omega)) (by rw [Int.zero_add]); have hl := hG.c.len; dsimp only; rw [zgC hp]; by_cases hc : zcf p l = 0
  · rw [decide_eq_true (show ((zcf p l : Nat) : Int) = 0 by omega), decide_eq_true hc, cond_true, cond_true]
  rw [decide_eq_false (show ¬ ((zcf p l : Nat) : Int) = 0 by omega), decide_eq_false hc, cond_false, cond_false]; by_cases hm : m = budget
  · rw [decide_eq_true hm, cond_true, cond_true]
  rw [decide_eq_false hm, cond_false, cond_false]; obtain ⟨j, hj, e, hb⟩ := zgU (s := (l, st)) hp hc; have hw := zgY (l := l) hp; have hw2 := List.length_pos_iff.2 (zg5 hp hc); have hI : zbX p l = some (whoL p l) := zf9 hp; have hsl := zfi (s := (l, st)) hp hj e
  have hsB : zcT p l (stepN p (l, st)) = some (stepB p (l, st)) := by
    rw [← e, ziz hp (by omega) hj]; unfold stepB; rw [← e, zfb hp hj]
  rw [hI, Option.bind_some, zfg hF (by omega) (by omega), Option.bind_some]; dsimp only; rw [zaC hb, show nth (whoL p l) (numB st (whoL p l).length).1.toNat = stepN p (l, st) from rfl, hsB, Option.bind_some, ← zfx]; unfold stepS
  cases he : (stepB p (l, st)).isEmpty with
  | true => rw [cond_true, cond_true]
  | false =>
    have h1 : 0 < (stepB p (l, st)).length := by cases hs : stepB p (l, st) with
      | nil => rw [hs] at he; cases he
      | cons a t => simp
    rw [cond_false, cond_false, zfg hF (by omega) (by omega), Option.bind_some]; dsimp only; rw [zaC (zf6 (by omega) (by omega) _), zfC (by omega), Option.bind_some]
theorem zi1 (hp : okP p = true) {budget : Int} (hB : budget ≤ 10000) {ρ : Type} {K : Int × BitVec 64 × Vec 512 Int → Option ρ} {f : (Int × BitVec 64 × Vec 512 Int → Option ρ) → Int × BitVec 64 × Vec 512 Int → Option ρ} {Q : Option ρ → Prop}
    (hf : ∀ next l st m c, GoodL p l → TabC l c → (bif decide (m < budget) && !decide (zcf p l = 0) then ∃ c', TabC (stepS p (l, st)).1 c' ∧ f next (m, st, c) = next (wI (m + 1), (stepS p (l, st)).2, c') else f next (m, st, c) = K (m, st, c))) (k : Nat) (l : List GChoice) (st : BitVec 64) (m : Int) (c : Vec 512 Int) (h1 : GoodL p l) (h2 : TabC l c) (h3 : 0 ≤ m) (h4 : m + (k : Int) = budget) (M : Nat) (h5 : k < M) (g : ∀ st' c', TabC (solveR p k (l, st)).1 c' → Q (K (m + ((solveR p k (l, st)).2.1 : Int), st', c'))) : Q (zbx f M (m, st, c)) := by
  obtain ⟨st', c', h6, h7⟩ := zhl hp hB hf k l st m c h1 h2 h3 h4 M h5; rw [h7]; exact g st' c' h6
theorem zhX (p : GProblem) (l : List GChoice) : zb9 p l = zcd p l := rfl
theorem lay_x {ρ : Type} {l0 lf : List GChoice} {c : Vec 512 Int} (h0 : GoodL p l0) (hf : GoodL p lf) (hc : TabC lf c) (hp : okP p = true) (K : List GChoice → Option ρ) : zai (fun (i_27 : Nat) (next26 : List GChoice → Option ρ) (l_25 : List GChoice) =>
                grd (0 ≤ (i_27 : Int) ∧ (i_27 : Int) < (l_25.length : Int)) <|
                grd (0 ≤ (nth l_25 i_27).Station ∧ (nth l_25 i_27).Station < (512 : Int)) <|
                next26 (l_25.set i_27 (GChoice.mk ((nth l_25 i_27).Station) (Vec.get c (((nth l_25 i_27).Station).toNat))))) K l0.length 0 l0 = K lf := by
  have hl0 := h0.c.len; have hlf := hf.c.len; refine zdn (fun i (s : List GChoice) => s.length = l0.length ∧ ∀ j, j < l0.length → nth s j = if j < i then nth lf j else nth l0 j) (fun r => r = K lf) ⟨rfl, fun j hj => by rw [if_neg (by omega)]⟩ (fun s hs => ?_) (fun i s next hi hs hn => ?_)
  · congr 1
    refine zhV (by omega) fun j hj => ?_; rw [hs.2 j (by omega), if_pos (by omega)]
  · (have hst : (nth s i).Station = (nth p.Domains i).Station := by rw [hs.2 i hi, if_neg (by omega), h0.c.st i (by omega)]); have hD := zdt (zbo hp).d (zaN (show i < p.Domains.length by omega)); rw [zaC ⟨by omega, by omega⟩, hst, zaC ⟨hD.1, hD.2⟩]; refine hn _ ⟨by rw [List.length_set]; exact hs.1, fun j hj => ?_⟩; rw [zeH (by omega)]; by_cases hij : i = j
    · subst hij; rw [if_pos rfl, if_pos (by omega), hc.get ⟨hD.1, hD.2⟩]; have h1 := zgZ hf.v (i := i) (by omega); have h2 := hf.c.st i (by omega); rw [h2] at h1; rw [h1, ← h2]
    · rw [if_neg hij, hs.2 j hj]; by_cases h : j < i
      · rw [if_pos h, if_pos (by omega)]
      · rw [if_neg h, if_neg (by omega)]
theorem zju {F : Nat} (hF : bigN < F) {hs : List GChoice} {seed budget : Int} (hp : okP p = true) (hv : zav hs = true) (hne : p.Domains.any zc3 = false) (h0 : 0 ≤ budget) (hB : budget ≤ 10000) : zbh F p hs seed budget = some ((solveN p hs seed budget).1, ((solveN p hs seed budget).2.1 : Int), (solveN p hs seed budget).2.2, 0) := by
  have hb0 := zf3; have hG0 := zfA (hs := hs) hp hne; obtain ⟨b, h1, hb⟩ := ziA hp hG0.v; unfold zbh; rw [zgV, hp, hv, hne, decide_eq_false (show ¬ budget < 0 by omega), decide_eq_false (show ¬ 10000 < budget by omega), Bool.false_or, cond_false, Bool.and_true, cond_true, cond_false, Option.bind_some]; dsimp only; rw [decide_eq_false (show ¬ ¬ (0 : Int) = 0 by omega), cond_false, show (zaw seed).isSome = true from rfl, cond_true, zhX, h1, Option.bind_some]; simp only [Option.isSome_some, cond_true, Option.getD_some, zaB, Nat.sub_zero]; have hm : ((zaw seed).getD default) = ⟨true, BitVec.ofInt 64 seed⟩ := rfl; rw [hm]; dsimp only
  refine zi1 (Q := fun r => r = some ((solveN p hs seed budget).1, ((solveN p hs seed budget).2.1 : Int), (solveN p hs seed budget).2.2, 0)) (K := fun s9 => zai (fun (i_27 : Nat) (next26 : List GChoice → Option (List GChoice × Int × Bool × Int)) (l_25 : List GChoice) =>
                grd (0 ≤ (i_27 : Int) ∧ (i_27 : Int) < (l_25.length : Int)) <|
                grd (0 ≤ (nth l_25 i_27).Station ∧ (nth l_25 i_27).Station < (512 : Int)) <|
                next26 (l_25.set i_27 (GChoice.mk ((nth l_25 i_27).Station) (Vec.get s9.2.2 (((nth l_25 i_27).Station).toNat))))) (fun l_23 => (zay (Gboard.mk (GProblem.mk b.p.Domains (GRules.mk b.p.Rules.Pairs b.p.Rules.Loads b.p.Rules.Caps)) s9.2.2 b.domains b.pairs b.caps b.into b.from_)).bind fun r101 => some (l_23, s9.1, decide (r101 = 0), 0)) (p.Domains.map (zce hs)).length 0 (p.Domains.map (zce hs))) hp hB ?_ budget.toNat (p.Domains.map (zce hs)) (BitVec.ofInt 64 seed) 0 b.on hG0 hb.on (Int.le_refl 0) (by omega) F (by omega) ?_
  rotate_left
  · intro st' c' hT; have hGf := zfp hp budget.toNat (p.Domains.map (zce hs), BitVec.ofInt 64 seed) hG0; dsimp only; rw [lay_x hG0 hGf hT hp, zja hp hGf.v hGf.c (hb.with hT), Option.bind_some, Int.zero_add, zfB]
    congr 4
    rw [Bool.eq_iff_iff, decide_eq_true_eq, decide_eq_true_eq]; omega
  · intro next l st m c hG hT; have hbw := hb.with hT; have hcost := zja hp hG.v hG.c hbw; dsimp only; by_cases hm : m < budget
    · rw [decide_eq_true hm, Bool.true_and, cond_true, hcost, Option.bind_some]; by_cases hc : zcf p l = 0
      · rw [decide_eq_true hc, Bool.not_true, cond_false, decide_eq_false (show ¬ (0 : Int) < (zcf p l : Int) by omega), cond_false]
      · rw [decide_eq_false hc, Bool.not_false, cond_true, decide_eq_true (show (0 : Int) < (zcf p l : Int) by omega), cond_true]; obtain ⟨j, hj, e, hbd⟩ := zgU (s := (l, st)) hp hc; have hw := zgY (l := l) hp; have hsl := zfi (s := (l, st)) hp hj e; rw [zhI hp hG.v hG.c hbw, zg6 hp, Option.bind_some, show (p.Domains.filter fun d => invB p l d.Station).map (·.Station) = whoL p l from rfl, zjd hF (zg5 hp hc) (by omega), Option.bind_some]; dsimp only; rw [Bool.not_true, cond_false, show nth (whoL p l) (numB st (whoL p l).length).1.toNat = stepN p (l, st) from rfl]; obtain ⟨on', hbest, hT2⟩ := zjR hp hG.v hG.c hbw hj
        have hsB : (bfold p l (nth p.Domains j).Station (nth p.Domains j).Channels).1 = stepB p (l, st) := by
          unfold stepB; rw [← e, zfb hp hj]
        rw [e, show (nth p.Domains j).Channels = (nth p.Domains j).Channels from rfl] at hbest; rw [e] at hsB; rw [hbest, hsB, Option.bind_some]; dsimp only; have hn := zdt (zbo hp).d (zaN hj); rw [e] at hn; unfold stepS
        cases he : (stepB p (l, st)).isEmpty with
        | true =>
          have : stepB p (l, st) = [] := by cases hs : stepB p (l, st) with
            | nil => rfl
            | cons a t => rw [hs] at he; cases he
          rw [this, ziB, Option.bind_some]; exact ⟨on', hT2, rfl⟩
        | false =>
          (have h1 : stepB p (l, st) ≠ [] := fun hs => by rw [hs] at he; cases he); rw [zjd hF h1 (by omega), Option.bind_some]; dsimp only; rw [cond_true, zaC ⟨hn.1, hn.2⟩]; exact ⟨_, zix hT2 ⟨hn.1, hn.2⟩ ⟨nth l j, zaN (by rw [hG.c.len]; exact hj), (hG.c.st j hj).trans e⟩ _, rfl⟩
    · rw [decide_eq_false hm, Bool.false_and, cond_false, cond_false, cond_false]
theorem ze0 {F : Nat} {hs : List GChoice} {seed budget : Int} (h : budget < 0 ∨ 10000 < budget) : zbh F p hs seed budget = some ([], 0, false, 2) := by
  unfold zbh; rw [show (decide (budget < 0) || decide (10000 < budget)) = true by rw [Bool.or_eq_true, decide_eq_true_eq, decide_eq_true_eq]; exact h, cond_true]
theorem zil {F : Nat} {hs : List GChoice} {seed budget : Int} (hv : (okP p && zav hs) = false) : zbh F p hs seed budget = some ([], 0, false, 2) := by
  by_cases h : budget < 0 ∨ 10000 < budget
  · exact ze0 h
  · unfold zbh; rw [zgV, hv, show (decide (budget < 0) || decide (10000 < budget)) = false by rw [Bool.or_eq_false_iff, decide_eq_false_iff_not, decide_eq_false_iff_not]; omega, cond_false, cond_false, Option.bind_some]
    rfl
theorem zhu {F : Nat} {hs : List GChoice} {seed budget : Int} (hp : okP p = true) (hv : zav hs = true) (hne : p.Domains.any zc3 = true) (h0 : 0 ≤ budget) (hB : budget ≤ 10000) : zbh F p hs seed budget = some ([], 0, false, 9) := by
  unfold zbh; rw [zgV, hp, hv, hne, decide_eq_false (show ¬ budget < 0 by omega), decide_eq_false (show ¬ 10000 < budget by omega), Bool.false_or, cond_false, Bool.and_true, cond_true, cond_true, Option.bind_some]
  rfl
theorem zf4 {n : Nat} (h : 18446744073709651616 ≤ n) (p : GProblem) (hs : List GChoice) (seed budget : Int) : zcn n p hs seed budget = some true := by
  (have hF : bigN < n := by rw [zf3]; omega); unfold zcn zdg; obtain ⟨a, ha⟩ := zjl (p := p) (a := 10) (b := 40) (fuel := n) (by omega); simp only [zaB, ha, Option.bind_some, zhM (n := n) (by omega), zhy, ← zgL, List.nil_append, zhF, decide_true, Bool.not_true, cond_false]
  cases hc : ((!a || decide (20 < (hs.length : Int))) || (decide (40 < budget) && decide (budget ≤ 10000)))
  · rw [cond_false]; rw [Bool.or_eq_false_iff, Bool.or_eq_false_iff, decide_eq_false_iff_not] at hc; rw [zaC (by unfold room; omega)]
    cases hv : (okP p && zav hs)
    · rw [zil hv, Option.bind_some, show ((!okP p) || !zav hs) = true by rw [← Bool.not_and, hv]; rfl]; rfl
    have hp := zbw hv; have hl := zbF hv; rw [show ((!okP p) || !zav hs) = false by rw [← Bool.not_and, hv]; rfl, Bool.false_or]; by_cases hb : budget < 0 ∨ 10000 < budget
    · rw [ze0 hb, show (decide (budget < 0) || decide (10000 < budget)) = true by rw [Bool.or_eq_true, decide_eq_true_eq, decide_eq_true_eq]; exact hb]; rfl
    rw [show (decide (budget < 0) || decide (10000 < budget)) = false by rw [Bool.or_eq_false_iff, decide_eq_false_iff_not, decide_eq_false_iff_not]; omega]; simp only [cond_false, zfO hp]
    cases hne : p.Domains.any zc3
    · rw [zju hF hp hl hne (by omega) (by omega), zhr hF hp hne (by omega) (by omega)]; simp only [cond_false, Option.bind_some, Bool.not_true, decide_true, cond_true, beq_self_eq_true]
    · rw [zhu hp hl hne (by omega) (by omega)]; rfl
  · rfl
end
end Go.Proofs.YtnhdlloidbomdaaGreat
namespace Go.Proofs.YtnhdlloidbomdaaGreat
open Go.RowKit Go.ChangeShapes Go.WideShapes Go.Deep
def Opens {H : Type} (enc : TypeId × Value → H) (w : World) (base : Nat) (spare : Nat → Bool) (held : Bool) (t : TypeId) {α : Type} (R : List Value → α → Prop) : Prop :=
  ∀ fuel cs y, DataW.trod enc Tryz.prog w base spare held fuel t cs = some y → ∃ x, R cs x
section
variable {H : Type} {enc : TypeId × Value → H} {w : World} {base : Nat} {spare : Nat → Bool} {held : Bool}
theorem Opens.int {t : TypeId} (ht : Tryz.prog.underlying t = some (.int .i64)) : Opens enc w base spare held t (fun cs (x : Int) => cs = [.int .i64 x]) := fun fuel cs y h => by
  obtain ⟨k, hk, _⟩ := DataW.trod_int ht h; exact ⟨k, hk⟩
theorem zjs {a : Addr} {v : Value} (h : w.cell? a = some v) : Cb w a.block := by
  unfold World.cell? at h
  split at h
  all_goals (first | exact ⟨_, _, _, by assumption⟩ | simp at h | skip)
theorem Opens.any {t e : TypeId} {k : Nat} {α : Type} [Inhabited α] {R : List Value → α → Prop} (ht : Tryz.prog.underlying t = some (.slice e)) (hk : Tryz.prog.cellsOf e = k) (hpos : 0 < k) (ho : Opens enc w base spare held e R) :
    Opens enc w base spare held t (fun cs (l : List α) => ∃ v c, cs = [v] ∧ SlC (Frz.all w) v k c ∧ c.length = l.length ∧ ∀ i, i < l.length → R (nth c i) (nth l i)) := fun fuel cs y h => by
  rcases open_slice ht h with ⟨h0, _⟩ | ⟨a, len, cap, m, n, D, Pl, hcs, hb, hl, hm, hmm, _, hx⟩
  · exact ⟨[], _, [], h0, SlC.nil _ _, rfl, fun i hi => absurd hi (Nat.not_lt_zero i)⟩
  · subst hcs; (have hlm : len ≤ m := by rw [hmm]; split <;> omega)
    have each : ∀ i, i < m → ∃ x : List Value × α, x.1.length = k ∧ R x.1 x.2 ∧ ∀ j, j < k → w.cell? (a.add (i * k + j)) = x.1[j]? := fun i hi => by
      obtain ⟨cs', h1, h2⟩ := hx i hi; rw [hk] at h1; obtain ⟨_, hlen, hcell⟩ := World.cells?_some h1; obtain ⟨x, hR⟩ := ho _ _ _ h2; exact ⟨(cs', x), hlen, hR, fun j hj => by rw [← hcell j hj, add_add]⟩
    obtain ⟨X, hX⟩ := choose_lt each
    have hn : ∀ i, i < len → nth ((List.range len).map fun i => (X i).1) i = (X i).1 := fun i hi => by
      rw [zaT (by simpa using hi)]; simp
    have hn2 : ∀ i, i < len → nth ((List.range len).map fun i => (X i).2) i = (X i).2 := fun i hi => by
      rw [zaT (by simpa using hi)]; simp
    refine ⟨(List.range len).map fun i => (X i).2, _, (List.range len).map fun i => (X i).1, rfl, ⟨some a, cap, by simp, by simpa using hl, by unfold maxLen at hm; omega, fun c hc => ?_, fun hp => ?_⟩, by simp, fun i hi => ?_⟩
    · simp at hc; obtain ⟨i, hi, rfl⟩ := hc; exact (hX i (by omega)).1
    · (have hp' : 0 < len := by simpa using hp); have c0 := (hX 0 (by omega)).2.2 0 hpos; have hx0 := (hX 0 (by omega)).1; rw [List.getElem?_eq_getElem (by omega)] at c0; have hcb := zjs c0; have hs := World.cell?_spot c0; simp [Addr.add] at hs hcb; obtain ⟨b, off, sp⟩ := a; simp at hs hcb; subst hs; refine ⟨b, off, rfl, hcb, fun i hi j hj => ?_⟩; simp at hi; rw [hn i hi] at hj ⊢; have hxi := hX i (by omega); have := hxi.2.2 j (by omega); refine Eq.trans ?_ this
      show w.cell? _ = _
      rw [zdH, Nat.add_assoc]
    · simp at hi; rw [hn i hi, hn2 i hi]; exact (hX i (by omega)).2.1
theorem Opens.slC {t e : TypeId} {k : Nat} {α : Type} [Inhabited α] {en : α → List Value} (ht : Tryz.prog.underlying t = some (.slice e)) (hk : Tryz.prog.cellsOf e = k) (hpos : 0 < k) (ho : Opens enc w base spare held e (fun cs (x : α) => cs = en x)) :
    Opens enc w base spare held t (fun cs (l : List α) => ∃ v, cs = [v] ∧ SlC (Frz.all w) v k (l.map en)) := fun fuel cs y h => by
  obtain ⟨l, v, c, h1, h2, h3, h4⟩ := Opens.any ht hk hpos ho _ _ _ h; refine ⟨l, v, h1, ?_⟩
  have : c = l.map en := by
    apply List.ext_getElem (by simpa using h3); intro i hi hi2; rw [← zaT hi, h4 i (by omega), List.getElem_map, zaT (by omega)]
  rw [← this]; exact h2
theorem Opens.bytes {t e : TypeId} (ht : Tryz.prog.underlying t = some (.slice e)) (he : Tryz.prog.underlying e = some (.int .u8)) (hk : Tryz.prog.cellsOf e = 1) :
    Opens enc w base spare held t (fun cs (l : List Int) => ∃ v, cs = [v] ∧ SlC (Frz.all w) v 1 (l.map (eK .u8)) ∧ ∀ x ∈ l, 0 ≤ x ∧ x ≤ 255) := fun fuel cs y h => by
  have ho : Opens enc w base spare held e (fun cs (x : Int) => cs = eK .u8 x ∧ (0 ≤ x ∧ x ≤ 255)) := fun fuel cs y h => by
    obtain ⟨k, h1, _, h2⟩ := DataW.trod_int he h; refine ⟨k, h1, ?_⟩; (have e1 : IntKind.u8.min = 0 := by decide); (have e2 : IntKind.u8.max = 255 := by decide); simp only [Lit.wf, e1, e2, Bool.and_eq_true, decide_eq_true_eq] at h2; exact h2
  obtain ⟨l, v, c, h1, h2, h3, h4⟩ := Opens.any ht hk (by decide) ho _ _ _ h; refine ⟨l, v, h1, ?_, fun x hx => ?_⟩
  · have : c = l.map (eK .u8) := by
      apply List.ext_getElem (by simpa using h3); intro i hi hi2; rw [← zaT hi, (h4 i (by omega)).1, List.getElem_map, zaT (by omega)]
    rw [← this]; exact h2
  · obtain ⟨i, hi, e⟩ := List.mem_iff_getElem.1 hx; have := (h4 i hi).2; rw [zaT hi, e] at this; exact this
theorem Opens.slD {t e : TypeId} {k : Nat} {α : Type} [Inhabited α] {rep : Frz → List Value → α → Prop} (ht : Tryz.prog.underlying t = some (.slice e)) (hk : Tryz.prog.cellsOf e = k) (hpos : 0 < k) (ho : Opens enc w base spare held e (rep (Frz.all w))) :
    Opens enc w base spare held t (fun cs (l : List α) => ∃ v c, cs = [v] ∧ SlD rep (Frz.all w) v k c l) := fun fuel cs y h => by
  obtain ⟨l, v, c, h1, h2, h3, h4⟩ := Opens.any ht hk hpos ho _ _ _ h; exact ⟨l, v, c, h1, h2, h3, h4⟩
end
end Go.Proofs.YtnhdlloidbomdaaGreat
