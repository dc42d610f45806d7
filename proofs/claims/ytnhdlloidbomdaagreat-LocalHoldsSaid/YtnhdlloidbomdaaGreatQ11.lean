/- Un Up Ur Ut Us Uv Uc Ud Of: shortened and put together by squeeze.py. -/
import Derived.Test.YtnhdlloidbomdaaGreatQ10
import Derived.Deep.Slices
import Derived.ChangeArms
set_option maxRecDepth 100000
set_option maxHeartbeats 4000000
set_option linter.unusedVariables false
set_option linter.unusedSectionVars false
set_option linter.unusedSimpArgs false
namespace Go.Proofs.YtnhdlloidbomdaaGreat
open Go.RowKit
def accB (n w : BitVec 64) : Bool := decide ((w.toNat : Int) ≤ (((18446744073709551615#64) - ((((18446744073709551615#64) % n) + (1#64)) % n)).toNat : Int))
theorem ziy {n : BitVec 64} (h : n ≠ 0#64) : ((((18446744073709551615#64) % n) + (1#64)) % n).toNat = 18446744073709551616 % n.toNat ∧ ((-n) % n).toNat = 18446744073709551616 % n.toNat := by
  have h0 : n.toNat ≠ 0 := fun e => h (BitVec.eq_of_toNat_eq e); have h1 := n.isLt; constructor
  · rw [BitVec.toNat_umod, BitVec.toNat_add, BitVec.toNat_umod]; have h2 : (18446744073709551615#64).toNat = 18446744073709551615 := rfl; have h3 : (1#64).toNat = 1 := rfl; rw [h2, h3]; have h4 := Nat.mod_lt 18446744073709551615 (show 0 < n.toNat by omega); by_cases h5 : 18446744073709551615 % n.toNat + 1 < 2 ^ 64
    · rw [Nat.mod_eq_of_lt h5, Nat.mod_add_mod]
    · omega
  · rw [BitVec.toNat_umod, BitVec.toNat_neg, Nat.mod_eq_of_lt (show 2 ^ 64 - n.toNat < 2 ^ 64 by omega)]; exact (Nat.mod_eq_sub_mod (show n.toNat ≤ 18446744073709551616 by omega)).symm
theorem zhc {n w : BitVec 64} (h : n ≠ 0#64) : ((decide (((0#64).toNat : Int) < (((-n) % n).toNat : Int))) && (decide (((-((-n) % n)).toNat : Int) ≤ (w.toNat : Int)))) = !accB n w := by
  obtain ⟨h1, h2⟩ := ziy h; unfold accB; have h0 : n.toNat ≠ 0 := fun e => h (BitVec.eq_of_toNat_eq e); have h3 := n.isLt; have h4 := Nat.mod_lt 18446744073709551616 (show 0 < n.toNat by omega); have h5 := w.isLt; rw [BitVec.toNat_sub, BitVec.toNat_neg, h1, h2]; have h6 : (18446744073709551615#64).toNat = 18446744073709551615 := rfl; have h7 : (0#64).toNat = 0 := rfl; rw [h6, h7]; generalize 18446744073709551616 % n.toNat = E at *; by_cases hE : E = 0
  · subst hE; rw [decide_eq_false (by omega), Bool.false_and, decide_eq_true (by omega)]; rfl
  · rw [decide_eq_true (by omega), Bool.true_and]; by_cases hw : 2 ^ 64 - E ≤ w.toNat
    · rw [decide_eq_true (by omega), decide_eq_false (by omega)]; rfl
    · rw [decide_eq_false (by omega), decide_eq_true (by omega)]; rfl
theorem zgW {n : BitVec 64} : accB n 0#64 = true := by
  unfold accB; rw [decide_eq_true]; have h7 : (0#64).toNat = 0 := rfl; rw [h7]; omega
def zdR (n : BitVec 64) : Nat → BitVec 64 → BitVec 64 × BitVec 64
  | 0, s => (s + gS, zdk s)
  | m + 1, s => bif accB n (zdk s) then (s + gS, zdk s) else zdR n m (s + gS)
theorem zhq (n s : BitVec 64) : zdR n 0 s = (s + gS, zdk s) := rfl
theorem zij {n s : BitVec 64} {m : Nat} (h : accB n (zdk s) = true) : zdR n (m + 1) s = (s + gS, zdk s) := by
  rw [zdR, h]; rfl
theorem ziN {n s : BitVec 64} {m : Nat} (h : accB n (zdk s) = false) : zdR n (m + 1) s = zdR n m (s + gS) := by
  rw [zdR, h]; rfl
theorem zc8 {σ ρ : Type} (f : (σ → Option ρ) → σ → Option ρ) (m : Nat) (s : σ) : zbW f (m + 1) s = f (zbW f m) s := rfl
theorem zio {ρ : Type} {n : BitVec 64} {K : BitVec 64 → BitVec 64 → Option ρ} {f : (BitVec 64 × BitVec 64 → Option ρ) → BitVec 64 × BitVec 64 → Option ρ} (hf : ∀ next s, f next (zdk s, s + gS) = bif accB n (zdk s) then K (s + gS) (zdk s) else next (zdk (s + gS), s + gS + gS)) (m : Nat) : ∀ (s : BitVec 64), (kB s).toNat ≤ m → ∀ M, m < M → zbW f M (zdk s, s + gS) = K (zdR n m s).1 (zdR n m s).2 := by
  induction m with
  | zero =>
    intro s h M hM; obtain ⟨M', rfl⟩ : ∃ M', M = M' + 1 := ⟨M - 1, by omega⟩; (have ha : accB n (zdk s) = true := by rw [zik (kB_of h)]; exact zgW); rw [zc8, hf, zhq, ha, cond_true]
  | succ m ih =>
    intro s h M hM; obtain ⟨M', rfl⟩ : ∃ M', M = M' + 1 := ⟨M - 1, by omega⟩; rw [zc8, hf]
    cases ha : accB n (zdk s) with
    | true => rw [zij ha, cond_true]
    | false =>
      (have hk : kB s ≠ 0#64 := fun e => by rw [zik e, zgW] at ha; cases ha); have hlt := kB_lt hk; rw [cond_false, ziN ha]; exact ih (s + gS) (by omega) M' (by omega)
theorem zjF (s : BitVec 64) : zao ⟨true, s⟩ = (zdk s, s + gS) := by
  unfold zdk; rfl
theorem zhS : ∃ m : Nat, m = 18446744073709551616 := ⟨_, rfl⟩
noncomputable def bigN : Nat := Classical.choose zhS
theorem zgI : bigN = 18446744073709551616 := Classical.choose_spec zhS
noncomputable def numB (s : BitVec 64) (limit : Int) : Int × BitVec 64 := (wI (((zdR (BitVec.ofInt 64 limit) bigN s).2 % BitVec.ofInt 64 limit).toNat : Int), (zdR (BitVec.ofInt 64 limit) bigN s).1)
theorem zh4 {limit : Int} (h1 : 1 ≤ limit) (h2 : limit ≤ 1000) : (BitVec.ofInt 64 limit).toNat = limit.toNat := by
  rw [BitVec.toNat_ofInt]; omega
theorem zjB {limit : Int} (h1 : 1 ≤ limit) (h2 : limit ≤ 1000) : BitVec.ofInt 64 limit ≠ 0#64 := fun e => by
  have := zh4 h1 h2; rw [e] at this; have h7 : (0#64).toNat = 0 := rfl; omega
theorem zgE {limit : Int} (h1 : 1 ≤ limit) (h2 : limit ≤ 1000) (s : BitVec 64) : 0 ≤ (numB s limit).1 ∧ (numB s limit).1 < limit := by
  unfold numB; have h3 := zh4 h1 h2; generalize zdR (BitVec.ofInt 64 limit) bigN s = q; generalize BitVec.ofInt 64 limit = n at *; have h4 := Nat.mod_lt q.2.toNat (show 0 < n.toNat by omega); have h5 : (q.2 % n).toNat = q.2.toNat % n.toNat := BitVec.toNat_umod; dsimp only; rw [h5, zfZ (by omega)]; omega
theorem kB_le (s : BitVec 64) : (kB s).toNat ≤ bigN := by rw [zgI]; have := (kB s).isLt; omega
theorem ziC {F m : Nat} {limit : Int} (h1 : 1 ≤ limit) (h2 : limit ≤ 1000) (s : BitVec 64) (hk : (kB s).toNat ≤ m) (hF : m < F) : zaQ F ⟨true, s⟩ limit = some (wI (((zdR (BitVec.ofInt 64 limit) m s).2 % BitVec.ofInt 64 limit).toNat : Int), 0, (zdR (BitVec.ofInt 64 limit) m s).1) := by
  have hn := zjB h1 h2; unfold zaQ; simp only [zaI, zjF]; rw [show zaS ⟨true, s⟩ = true from rfl, Bool.not_true, cond_false, decide_eq_false (show ¬ limit < 1 by omega), decide_eq_false (show ¬ 4611686018427387904 < limit by omega), Bool.false_or, cond_false, zaT hn]; refine zio (n := BitVec.ofInt 64 limit) (K := fun st w => some (wI ((w % BitVec.ofInt 64 limit).toNat : Int), 0, st)) (fun next s => ?_) m s hk F hF; dsimp only; rw [zhc hn]
  cases accB (BitVec.ofInt 64 limit) (zdk s)
  · rfl
  · rw [Bool.not_true, cond_false, cond_true, zaT hn]
theorem zjo (s : BitVec 64) (limit : Int) : numB s limit = (wI (((zdR (BitVec.ofInt 64 limit) bigN s).2 % BitVec.ofInt 64 limit).toNat : Int), (zdR (BitVec.ofInt 64 limit) bigN s).1) := by
  unfold numB
  with_reducible rfl
theorem ziF {F : Nat} (hF : bigN < F) {limit : Int} (h1 : 1 ≤ limit) (h2 : limit ≤ 1000) (s : BitVec 64) : zaQ F ⟨true, s⟩ limit = some ((numB s limit).1, 0, (numB s limit).2) := by
  rw [ziC h1 h2 s (kB_le s) hF, zjo]
attribute [irreducible] numB zdR
theorem ziT {F : Nat} (hF : bigN < F) {l : List Int} (h1 : l ≠ []) (h2 : l.length ≤ 1000) (s : BitVec 64) : zaY F l ⟨true, s⟩ = some (nth l (numB s l.length).1.toNat, true, (numB s l.length).2) := by
  have h3 := List.length_pos_iff.2 h1; have hb := zgE (limit := (l.length : Int)) (by omega) (by omega) s; unfold zaY; rw [decide_eq_false (by omega), cond_false, ziF hF (by omega) (by omega), Option.bind_some]; rw [decide_eq_false (show ¬ ¬ (0 : Int) = 0 by omega), cond_false, zaT hb]
theorem ziB {F : Nat} (s : BitVec 64) : zaY F [] ⟨true, s⟩ = some (0, false, s) := by
  unfold zaY; rw [decide_eq_true (show (([] : List Int).length : Int) = 0 from rfl), cond_true]
section
variable {p : GProblem} {l l0 : List GChoice} {b : Gboard}
theorem Board.with (hb : Board p l0 b) {c : Vec 512 Int} (hc : TabC l c) : Board p l (Gboard.mk (GProblem.mk b.p.Domains (GRules.mk b.p.Rules.Pairs b.p.Rules.Loads b.p.Rules.Caps)) c b.domains b.pairs b.caps b.into b.from_) := ⟨hb.pb, hc, hb.dm, hb.pr, hb.cp, hb.inn, hb.fr⟩
def zib (n c : Int) (x : GChoice) : GChoice := ⟨x.Station, bif decide (x.Station = n) then c else x.Channel⟩
def zcq (l : List GChoice) (n c : Int) : List GChoice := l.map (zib n c)
theorem zgZ (n c m : Int) : ∀ l : List GChoice, onL (zcq l n c) m = bif decide (m = n) && l.any (fun x => decide (x.Station = m)) then c else onL l m
  | [] => by simp [zcq, onL]
  | x :: l => by
    show (bif decide (x.Station = m) then (bif decide (x.Station = n) then c else x.Channel) else onL (zcq l n c) m) = bif decide (m = n) && (decide (x.Station = m) || l.any fun x => decide (x.Station = m)) then c else (bif decide (x.Station = m) then x.Channel else onL l m)
    by_cases h : x.Station = m
    · rw [decide_eq_true h, cond_true, Bool.true_or, Bool.and_true, cond_true, h]
    · rw [decide_eq_false h, cond_false, Bool.false_or, cond_false, zgZ n c m l]
theorem zdd {n : Int} (hn : ∃ x ∈ l, x.Station = n) (c m : Int) : onL (zcq l n c) m = if m = n then c else onL l m := by
  rw [zgZ]; by_cases h : m = n
  · subst h; rw [if_pos rfl, decide_eq_true rfl, List.any_eq_true.2 (by obtain ⟨x, hx, e⟩ := hn; exact ⟨x, hx, decide_eq_true e⟩)]; rfl
  · rw [if_neg h, decide_eq_false h, Bool.false_and, cond_false]
theorem zgV (hl : VL l) {n c : Int} (hc : 2 ≤ c ∧ c ≤ 51) : VL (zcq l n c) := by
  have hlen : (zcq l n c).length = l.length := List.length_map _; have hn : ∀ i, i < l.length → nth (zcq l n c) i = zib n c (nth l i) := fun i hi => zc2 hi; refine ⟨fun i hi => ?_, fun i hi => ?_, fun i j hij hj => ?_⟩
  · rw [hlen] at hi; rw [hn i hi]; exact hl.st i hi
  · rw [hlen] at hi; rw [hn i hi]; unfold zib; have := hl.ch i hi
    cases decide ((nth l i).Station = n)
    · exact this
    · exact hc
  · rw [hlen] at hj; rw [hn i (by omega), hn j hj]; exact hl.lt i j hij hj
theorem zfB (hC : Comp p l) {j : Nat} (hj : j < p.Domains.length) {c : Int} (hc : zaU (nth p.Domains j).Channels c = true) (hp : okP p = true) : Comp p (zcq l (nth p.Domains j).Station c) := by
  have hn : ∀ i, i < l.length → nth (zcq l (nth p.Domains j).Station c) i = zib (nth p.Domains j).Station c (nth l i) := fun i hi => zc2 hi; have hlen := hC.len; refine ⟨by rw [← hC.len]; exact List.length_map _, fun i hi => ?_, fun i hi => ?_⟩
  · rw [hn i (by omega)]; exact hC.st i hi
  · rw [hn i (by omega)]; unfold zib; by_cases h : (nth l i).Station = (nth p.Domains j).Station
    · rw [decide_eq_true h]; rw [hC.st i hi] at h
      have e : i = j := by
        have hs := zcI (zbx hp).i; rw [List.pairwise_iff_getElem] at hs
        have key : ∀ a b, a < b → b < p.Domains.length → (nth p.Domains a).Station < (nth p.Domains b).Station := fun a b hab hb => by
          have h := hs a b (by rw [List.length_map]; omega) (by rw [List.length_map]; exact hb) hab; rw [List.getElem_map, List.getElem_map] at h
          rwa [zaP (by omega), zaP hb]
        rcases Nat.lt_trichotomy i j with hlt | heq | hgt
        · have := key i j hlt hj; omega
        · exact heq
        · have := key j i hgt hi; omega
      rw [e]; exact hc
    · rw [decide_eq_false h]; exact hC.ch i hi
theorem zia {c : Vec 512 Int} (hc : TabC l c) {n : Int} (hn : 0 ≤ n ∧ n < 512) (hm : ∃ x ∈ l, x.Station = n) (ch : Int) : TabC (zcq l n ch) (Vec.put c n.toNat ch) := fun m hm2 => by
  rw [Vec.get_put (by omega), zdd hm]; by_cases h : (m : Int) = n
  · rw [if_pos h, if_pos (by omega)]
  · rw [if_neg h, if_neg (by omega), hc m hm2]
def zcC (n : Int) (c : GPair) : Bool := decide (c.A = n) || decide (c.B = n)
def tos (p : GProblem) (n : Int) : List GLoad := p.Rules.Loads.filter fun y => decide (y.From = n)
def zdv (p : GProblem) (n : Int) (c : GCap) : Bool := decide (c.Station = n) || (tos p n).any fun y => decide (y.To = c.Station)
def zfQ (p : GProblem) (l : List GChoice) (n : Int) : Nat := (p.Rules.Pairs.filter fun c => zcC n c && zaf c l).length + (p.Rules.Caps.filter fun c => zdv p n c && zad p c l).length
def zha (p : GProblem) (l : List GChoice) (n : Int) : Nat := (p.Rules.Pairs.filter fun c => !zcC n c && zaf c l).length + (p.Rules.Caps.filter fun c => !zdv p n c && zad p c l).length
theorem zhp (n : Int) : zce p l = zfQ p l n + zha p l n := by
  unfold zce zfQ zha
  have e1 : (p.Rules.Pairs.filter fun c => zaf c l) = p.Rules.Pairs.filter fun c => (zcC n c && zaf c l) || (!zcC n c && zaf c l) := by
    refine List.filter_congr fun c _ => ?_
    cases zcC n c <;> simp
  have e2 : (p.Rules.Caps.filter fun c => zad p c l) = p.Rules.Caps.filter fun c => (zdv p n c && zad p c l) || (!zdv p n c && zad p c l) := by
    refine List.filter_congr fun c _ => ?_
    cases zdv p n c <;> simp
  rw [e1, e2, zdt _ _ (fun c h => by cases ht : zcC n c <;> simp_all), zdt _ _ (fun c h => by cases ht : zdv p n c <;> simp_all)]; omega
end
theorem zft {α σ : Type} {f g : σ → α → σ} : ∀ {l : List α}, (∀ s, ∀ x ∈ l, f s x = g s x) → ∀ s, l.foldl f s = l.foldl g s
  | [], _, _ => rfl
  | x :: l, h, s => by
    rw [List.foldl_cons, List.foldl_cons, h s x (List.mem_cons_self ..)]; exact zft (fun s y hy => h s y (List.mem_cons_of_mem _ hy)) _
section
variable {p : GProblem} {l : List GChoice} {b : Gboard}
theorem zhb (hp : okP p = true) {n : Int} (hn : ∃ x ∈ l, x.Station = n) (c : Int) : zha p (zcq l n c) n = zha p l n := by
  have hg := zbH (zbx hp).r; unfold zha
  have e1 : (p.Rules.Pairs.filter fun d => !zcC n d && zaf d (zcq l n c)) = p.Rules.Pairs.filter fun d => !zcC n d && zaf d l := by
    refine List.filter_congr fun d _ => ?_
    cases ht : zcC n d
    · unfold zcC at ht; rw [Bool.or_eq_false_iff, decide_eq_false_iff_not, decide_eq_false_iff_not] at ht
      congr 1
      rw [Bool.eq_iff_iff, zdY, zdY, zdd hn, zdd hn, if_neg ht.1, if_neg ht.2]
    · rfl
  have e2 : (p.Rules.Caps.filter fun d => !zdv p n d && zad p d (zcq l n c)) = p.Rules.Caps.filter fun d => !zdv p n d && zad p d l := by
    refine List.filter_congr fun d hd => ?_
    cases ht : zdv p n d
    · unfold zdv at ht; rw [Bool.or_eq_false_iff, decide_eq_false_iff_not] at ht
      congr 1
      have h2 := zfc (hg.c d hd); rw [zei p d _ h2, zei p d _ h2, zdd hn, if_neg ht.1]
      congr 2
      rw [zft (g := zfL l d.Station) fun s x hx => ?_]; unfold zfL; rw [zdd hn c d.Station, if_neg ht.1]; by_cases hT : x.To = d.Station
      · have hF : x.From ≠ n := fun hF => by
          have := List.any_eq_false.1 ht.2 x (List.mem_filter.2 ⟨hx, decide_eq_true hF⟩); exact this (decide_eq_true hT)
        rw [zdd hn c x.From, if_neg hF]
      · rw [decide_eq_false hT]; rfl
    · rfl
  rw [e1, e2]
theorem ziv (hp : okP p = true) (hl : VL l) (hc : Comp p l) (hb : Board p l b) {n : Int} (hn : 0 ≤ n ∧ n < 512) : zaX b n = some ((p.Rules.Pairs.filter fun c => zcC n c && zaf c l).length : Int) := by
  have hg := zbH (zbx hp).r; have n1 := hg.np
  have e : Vec.get b.pairs n.toNat = p.Rules.Pairs.filter (zcC n) := by
    rw [hb.pr _ (by omega)]
    have h1 : ∀ xs : List GPair, (∀ c ∈ xs, c.A ≠ c.B) → (xs.flatMap fun c => (bif decide (c.A = ((n.toNat : Nat) : Int)) then [c] else []) ++ (bif decide (c.B = ((n.toNat : Nat) : Int)) then [c] else [])) = xs.filter (zcC n) := fun xs => by
      induction xs with
      | nil => intro _; rfl
      | cons c xs ih =>
        intro h; rw [List.flatMap_cons, List.filter_cons, ih fun d hd => h d (List.mem_cons_of_mem _ hd), show ((n.toNat : Nat) : Int) = n by omega]; have hab := h c (List.mem_cons_self ..); unfold zcC; by_cases hA : c.A = n
        · rw [decide_eq_true hA, decide_eq_false (fun hB => hab (by rw [hA, hB]))]; rfl
        · rw [decide_eq_false hA]
          cases decide (c.B = n) <;> rfl
    refine h1 _ fun c hm => ?_; have := of_decide_eq_true (zbR (zbA (zbA (hg.p c hm)))); omega
  unfold zaX; simp only [zaI, Nat.sub_zero]; rw [zaT hn, e]; refine Eq.trans (zcT (fun i s => bif zaf (nth (p.Rules.Pairs.filter (zcC n)) i) l then wI (s + 1) else s) fun i next s hi => ?_) ?_
  · rw [zeM hp hl hc hb (List.mem_filter.1 (zaz hi)).1, Option.bind_some]
    cases zaf (nth (p.Rules.Pairs.filter (zcC n)) i) l <;> rfl
  have h2 := List.length_filter_le (zcC n) p.Rules.Pairs; rw [zcr (l := p.Rules.Pairs.filter (zcC n)) (g := fun s x => bif zaf x l then wI (s + 1) else s), zc7 (fun x => zaf x l) _ 0 (by omega) (by omega), List.filter_filter, Int.zero_add]
  congr 4
  funext c
  rw [Bool.and_comm]
theorem ziI (hp : okP p = true) (hb : Board p l b) {n : Int} (hn : 0 ≤ n ∧ n < 512) : zaZ b n = some (zda p l n : Int) := by
  unfold zaZ; rw [zg4 hp hb hn]; rfl
def zgf (p : GProblem) (l : List GChoice) (s : Int × Int) (y : GLoad) : Int × Int := bif decide (¬ y.To = s.2) then (wI (s.1 + (zda p l y.To : Int)), y.To) else s
theorem zfJ (hn : p.Rules.Caps.length ≤ 1024) : ∀ (ys : List GLoad) (a last : Int), ys.Pairwise (fun x y => x.To ≤ y.To) → (∀ y ∈ ys, last ≤ y.To) → 0 ≤ a → a + (ys.length : Int) * 1024 ≤ 1000000000 → (ys.foldl (zgf p l) (a, last)).1 = a + ((p.Rules.Caps.filter fun c => (!decide (c.Station = last) && ys.any fun y => decide (y.To = c.Station)) && zad p c l).length : Int)
  | [], a, last, _, _, _, _ => by
    (have : (p.Rules.Caps.filter fun c => (!decide (c.Station = last) && ([] : List GLoad).any fun y => decide (y.To = c.Station)) && zad p c l) = [] := by simp); rw [this]; simp
  | y :: ys, a, last, hs, hl, h0, h1 => by
    rw [List.pairwise_cons] at hs; rw [List.length_cons] at h1; rw [List.foldl_cons]; have hle := hl y (List.mem_cons_self ..); by_cases hy : y.To = last
    · (have e0 : zgf p l (a, last) y = (a, last) := by unfold zgf; rw [decide_eq_false (by simpa using hy)]; rfl); rw [e0, zfJ hn ys a last hs.2 (fun z hz => hl z (List.mem_cons_of_mem _ hz)) h0 (by omega)]
      congr 3
      refine List.filter_congr fun c _ => ?_; rw [List.any_cons]; by_cases hc : c.Station = last
      · rw [decide_eq_true hc]; rfl
      · rw [decide_eq_false (show ¬ y.To = c.Station from fun e => hc (by rw [← e, hy])), Bool.false_or]
    · (have e0 : zgf p l (a, last) y = (wI (a + (zda p l y.To : Int)), y.To) := by unfold zgf; rw [decide_eq_true (by simpa using hy)]; rfl); have hlt : zda p l y.To ≤ 1024 := Nat.le_trans (List.length_filter_le _ _) hn; rw [e0, zfZ (by omega), zfJ hn ys _ y.To hs.2 hs.1 (by omega) (by omega)]
      have e : (p.Rules.Caps.filter fun c => (!decide (c.Station = last) && (y :: ys).any fun y => decide (y.To = c.Station)) && zad p c l) = p.Rules.Caps.filter fun c => (decide (c.Station = y.To) && zad p c l) || ((!decide (c.Station = y.To) && ys.any fun y => decide (y.To = c.Station)) && zad p c l) := by
        refine List.filter_congr fun c _ => ?_; rw [List.any_cons]; by_cases hc : c.Station = y.To
        · rw [decide_eq_true hc, decide_eq_true hc.symm, decide_eq_false (show ¬ c.Station = last from fun e => hy (by rw [← hc, e]))]; simp
        · rw [decide_eq_false hc, decide_eq_false (show ¬ y.To = c.Station from fun e => hc e.symm)]; by_cases hcl : c.Station = last
          · have : (ys.any fun y => decide (y.To = c.Station)) = false := by
              rw [List.any_eq_false]; intro z hz hq; have h2 := hs.1 z hz; have h3 := of_decide_eq_true hq; omega
            rw [this]; simp
          · rw [decide_eq_false hcl]; simp
      rw [e, zdt (fun c => decide (c.Station = y.To) && zad p c l) (fun c => (!decide (c.Station = y.To) && ys.any fun y => decide (y.To = c.Station)) && zad p c l) (fun c hc => by rw [zbA hc]; rfl)]; unfold zda; omega
theorem zhm (hp : okP p = true) (n : Int) : (tos p n).Pairwise (fun x y => x.To ≤ y.To) := by
  have h := (zgR zic).1 (zhV (zbx hp).r).il; refine (h.sublist List.filter_sublist).imp fun {a b} hab => ?_; unfold zcR at hab; rcases lexL_cons.1 hab with h1 | ⟨h1, _⟩
  · omega
  · omega
theorem ziA (hp : okP p = true) (hb : Board p l b) {n : Int} (hn : 0 ≤ n ∧ n < 512) : za0 b n = some ((p.Rules.Caps.filter fun c => ((tos p n).any fun y => decide (y.To = c.Station)) && zad p c l).length : Int) := by
  have hg := zbH (zbx hp).r; have n2 := hg.nl
  have e : Vec.get b.from_ n.toNat = tos p n := by
    rw [hb.fr _ (by omega)]; unfold tos; congr 1; funext c; rw [show ((n.toNat : Nat) : Int) = n by omega]
  have hT : ∀ y ∈ tos p n, 0 ≤ y.To ∧ y.To < 512 := fun y hy => by
    have h := zcU (hg.l y (List.mem_filter.1 hy).1); have h1 := zby h.1; omega
  unfold za0; simp only [zaI, Nat.sub_zero]; rw [zaT hn, e]; refine Eq.trans (zcT (fun i s => zgf p l s (nth (tos p n) i)) fun i next s hi => ?_) ?_
  · have h := hT _ (zaz hi); unfold zgf
    cases decide (¬ (nth (tos p n) i).To = s.2)
    · rfl
    · rw [cond_true, cond_true, zg4 hp hb h, Option.bind_some]
  have hlen : (tos p n).length ≤ 1024 := Nat.le_trans (List.length_filter_le _ _) n2; rw [zcr (l := tos p n) (g := zgf p l), zfJ hg.nc (tos p n) 0 (-1) (zhm hp n) (fun y hy => by have := hT y hy; omega) (by omega) (by omega), Int.zero_add]
  congr 3
  refine List.filter_congr fun c hc => ?_; have := zby (zeR (hg.c c hc)); rw [decide_eq_false (by omega), Bool.not_false, Bool.true_and]
theorem zi7 (hp : okP p = true) (n : Int) : zfQ p l n = (p.Rules.Pairs.filter fun c => zcC n c && zaf c l).length + zda p l n + (p.Rules.Caps.filter fun c => ((tos p n).any fun y => decide (y.To = c.Station)) && zad p c l).length := by
  have hg := zbH (zbx hp).r
  have e : (p.Rules.Caps.filter fun c => zdv p n c && zad p c l) = p.Rules.Caps.filter fun c => (decide (c.Station = n) && zad p c l) || (((tos p n).any fun y => decide (y.To = c.Station)) && zad p c l) := by
    refine List.filter_congr fun c _ => ?_; unfold zdv; rw [Bool.and_or_distrib_right]
  unfold zfQ
  rw [e, zdt (fun c => decide (c.Station = n) && zad p c l) (fun c => ((tos p n).any fun y => decide (y.To = c.Station)) && zad p c l) (fun c hc => by
    have hS : c.Station = n := of_decide_eq_true (zbA hc)
    have : ((tos p n).any fun y => decide (y.To = c.Station)) = false := by
      rw [List.any_eq_false]; intro y hy hq; have h2 := List.mem_filter.1 hy; have h3 := of_decide_eq_true (zbR (zbA (zbA (hg.l y h2.1)))); exact h3 (by rw [of_decide_eq_true hq, hS, of_decide_eq_true h2.2])
    rw [this]; rfl)]
  unfold zda; omega
theorem zjn (hp : okP p = true) (n : Int) : zfQ p l n ≤ 100000 := by
  have hg := zbH (zbx hp).r; have n1 := hg.np; have n3 := hg.nc; unfold zfQ; have h1 := List.length_filter_le (fun c => zcC n c && zaf c l) p.Rules.Pairs; have h2 := List.length_filter_le (fun c => zdv p n c && zad p c l) p.Rules.Caps; omega
end
def bstep (cost : Int → Int) (cur : Int) (r : List Int × Int) (ch : Int) : List Int × Int := bif decide (ch = cur) then r else bif (r.1.isEmpty || decide (cost ch < r.2)) then ([ch], cost ch) else bif decide (cost ch = r.2) then (r.1 ++ [ch], r.2) else r
def bfold (p : GProblem) (l : List GChoice) (n : Int) (d : List Int) : List Int × Int := d.foldl (bstep (fun ch => (zce p (zcq l n ch) : Int)) (onL l n)) ([], 0)
theorem zdg (p : GProblem) (l : List GChoice) (n : Int) {d : List Int} {i : Nat} (hi : i < d.length) : bfold p l n (d.take (i + 1)) = bstep (fun ch => (zce p (zcq l n ch) : Int)) (onL l n) (bfold p l n (d.take i)) (nth d i) := by
  unfold bfold; rw [zen hi, List.foldl_append]; rfl
theorem zgQ {σ ρ : Type} (f : Nat → (σ → ρ) → σ → ρ) (K : σ → ρ) (a : σ) : zai f K 3 0 a = f 0 (fun s => f 1 (fun s => f 2 K s) s) a := rfl
section
variable {p : GProblem} {l : List GChoice} {b : Gboard}
theorem zjH (hp : okP p = true) (hl : VL l) (hC : Comp p l) (hb : Board p l b) {j : Nat} (hj : j < p.Domains.length) : ∃ on', zbd b (nth p.Domains j).Station = some ((bfold p l (nth p.Domains j).Station (nth p.Domains j).Channels).1, on') ∧ TabC l on' := by
  have hd := hb.dm j hj; have hn := zdn (zbx hp).d (zaz hj); have hm : ∃ x ∈ l, x.Station = (nth p.Domains j).Station := ⟨nth l j, zaz (by rw [hC.len]; exact hj), hC.st j hj⟩; have hchs := List.all_eq_true.1 (zbA (zbR (List.all_eq_true.1 (zbx hp).d _ (zaz hj)))); have h50 := of_decide_eq_true (zbA (zbR ((zgF _).trans (List.all_eq_true.1 (zbx hp).d _ (zaz hj))))); unfold zbd; simp only [zaI, Nat.sub_zero]; rw [zaT ⟨hn.1, hn.2⟩, hd, hb.get ⟨hn.1, hn.2⟩]; generalize hnn : (nth p.Domains j).Station = n at *; generalize hdd : (nth p.Domains j).Channels = d at *; refine zdi (σ := List Int × Int × Vec 512 Int) (fun i s => s.1 = (bfold p l n (d.take i)).1 ∧ ((bfold p l n (d.take i)).1 ≠ [] → (bfold p l n (d.take i)).2 = s.2.1 + (zha p l n : Int)) ∧ s.1.length ≤ i ∧ ∀ m : Nat, m < 512 → (m : Int) ≠ n → Vec.get s.2.2 m = onL l m) (fun r => ∃ on', r = some ((bfold p l n d).1, on') ∧ TabC l on') ⟨rfl, fun h => absurd rfl h, Nat.le_refl _, fun m h _ => hb.on m h⟩ (fun s hs => ?_) (fun i s next hi hs hnx => ?_)
  · rw [List.take_length] at hs; refine ⟨_, congrArg some (Prod.ext hs.1 rfl), fun m h => ?_⟩; rw [Vec.get_put (by omega)]; by_cases e : m = n.toNat
    · rw [if_pos e, show (m : Int) = n by omega]
    · rw [if_neg e]; exact hs.2.2.2 m h (by omega)
  · obtain ⟨h1, h2, h3, h4⟩ := hs; have hch := zhg (hchs _ (zaz hi)); (have hHas : zaU d (nth d i) = true := by rw [zfq, List.any_eq_true]; exact ⟨_, zaz hi, decide_eq_true rfl⟩); by_cases hc : nth d i = onL l n
    · rw [decide_eq_true hc, cond_true]; refine hnx _ ⟨?_, ?_, Nat.le_trans h3 (Nat.le_succ i), h4⟩
      · rw [zdg p l n hi]; unfold bstep; rw [decide_eq_true hc]; exact h1
      · rw [zdg p l n hi]; unfold bstep; rw [decide_eq_true hc]; exact h2
    · rw [decide_eq_false hc, cond_false, zgQ]
      have hT : TabC (zcq l n (nth d i)) (Vec.put s.2.2 n.toNat (nth d i)) := fun m h => by
        rw [Vec.get_put (by omega), zdd hm]; by_cases e : (m : Int) = n
        · rw [if_pos e, if_pos (by omega)]
        · rw [if_neg e, if_neg (by omega), h4 m h e]
      have hb' := hb.with hT; have hV := zgV hl (n := n) hch
      have hC' : Comp p (zcq l n (nth d i)) := by
        have := zfB hC hj (c := nth d i) (by rw [hdd]; exact hHas) hp
        rwa [hnn] at this
      have c1 := ziv hp hV hC' hb' (n := n) ⟨hn.1, hn.2⟩; have c2 := ziI hp hb' (n := n) ⟨hn.1, hn.2⟩; have c3 := ziA hp hb' (n := n) ⟨hn.1, hn.2⟩; have hpe := zi7 (l := zcq l n (nth d i)) hp n; have hpl := zjn (l := zcq l n (nth d i)) hp n; have hcost := zhp (p := p) (l := zcq l n (nth d i)) n; rw [zhb hp hm] at hcost; have d00 : decide (((0 : Nat) : Int) = 0) = true := rfl; have d10 : decide (((1 : Nat) : Int) = 0) = false := rfl; have d11 : decide (((1 : Nat) : Int) = 1) = true := rfl; have d20 : decide (((2 : Nat) : Int) = 0) = false := rfl; have d21 : decide (((2 : Nat) : Int) = 1) = false := rfl; simp only [d00, d10, d11, d20, d21, cond_true, cond_false, c1, c2, c3, Option.bind_some]; generalize (p.Rules.Pairs.filter fun c => zcC n c && zaf c (zcq l n (nth d i))).length = x1 at *; generalize zda p (zcq l n (nth d i)) n = x2 at *; generalize (p.Rules.Caps.filter fun c => ((tos p n).any fun y => decide (y.To = c.Station)) && zad p c (zcq l n (nth d i))).length = x3 at *; rw [zfZ (x := 0 + (x1 : Int)) (by omega), zfZ (x := 0 + (x1 : Int) + (x2 : Int)) (by omega), zfZ (x := 0 + (x1 : Int) + (x2 : Int) + (x3 : Int)) (by omega)]; rw [show (0 : Int) + (x1 : Int) + (x2 : Int) + (x3 : Int) = (zfQ p (zcq l n (nth d i)) n : Int) by omega]
      have hroom : ∀ t : List Int, t.length ≤ i → room (t ++ [nth d i]).length 8 := fun t ht => by
        rw [List.length_append]; unfold room; simp only [List.length_cons, List.length_nil]; omega
      have hput : ∀ m : Nat, m < 512 → (m : Int) ≠ n → Vec.get (Vec.put s.2.2 n.toNat (nth d i)) m = onL l m := fun m h e => by
        rw [Vec.get_put (by omega), if_neg (by omega), h4 m h e]
      have hbs := zdg p l n hi; unfold bstep at hbs; rw [decide_eq_false hc, cond_false, ← h1] at hbs; generalize hX : bfold p l n (d.take i) = r at *; by_cases he : s.1 = []
      · rw [he] at hbs ⊢; rw [show ([] : List Int).isEmpty = true from rfl, Bool.true_or, cond_true] at hbs ⊢; rw [decide_true, cond_true, zaT (hroom _ (by simp))]; refine hnx _ ⟨by rw [hbs]; rfl, fun _ => by rw [hbs]; dsimp only; omega, by simp, hput⟩
      · have h5 := h2 (by rw [← h1]; exact he)
        have he2 : s.1.isEmpty = false := by cases hs : s.1 with
          | nil => exact absurd hs he
          | cons a t => rfl
        rw [he2, Bool.false_or] at hbs ⊢; by_cases hlt : (zfQ p (zcq l n (nth d i)) n : Int) < s.2.1
        · rw [decide_eq_true (show (zce p (zcq l n (nth d i)) : Int) < r.2 by omega), cond_true] at hbs; rw [decide_eq_true hlt, cond_true, decide_true, cond_true, zaT (hroom _ (by simp))]; refine hnx _ ⟨by rw [hbs]; rfl, fun _ => by rw [hbs]; dsimp only; omega, by simp, hput⟩
        · rw [decide_eq_false (show ¬ (zce p (zcq l n (nth d i)) : Int) < r.2 by omega), cond_false] at hbs; rw [decide_eq_false hlt, cond_false]; by_cases heq : (zfQ p (zcq l n (nth d i)) n : Int) = s.2.1
          · rw [decide_eq_true (show (zce p (zcq l n (nth d i)) : Int) = r.2 by omega), cond_true] at hbs; rw [decide_eq_true heq, cond_true, zaT (hroom _ h3)]; refine hnx _ ⟨by rw [hbs], fun _ => by rw [hbs]; exact h5, by rw [List.length_append]; simp only [List.length_cons, List.length_nil]; omega, hput⟩
          · rw [decide_eq_false (show ¬ (zce p (zcq l n (nth d i)) : Int) = r.2 by omega), cond_false] at hbs; rw [decide_eq_false heq, cond_false]; refine hnx _ ⟨by rw [hbs]; exact h1, fun _ => by rw [hbs]; exact h5, Nat.le_trans h3 (Nat.le_succ i), hput⟩
end
section
variable {p : GProblem} {l : List GChoice} {b : Gboard}
theorem zje (hp : okP p = true) {j : Nat} (hj : j < p.Domains.length) : zbb p (nth p.Domains j).Station = (j : Int) := by
  have key : ∀ a b, a < b → b < p.Domains.length → (nth p.Domains a).Station < (nth p.Domains b).Station := fun a b hab hb => by
    have h := List.pairwise_iff_getElem.1 (zcI (zbx hp).i) a b (by rw [List.length_map]; omega) (by rw [List.length_map]; exact hb) hab; rw [List.getElem_map, List.getElem_map] at h
    rwa [zaP (by omega), zaP hb]
  unfold zbb; simp only [zaI, Nat.sub_zero]; refine zdi (σ := Unit) (fun i _ => i ≤ j) (fun r => r = (j : Int)) (Nat.zero_le _) (fun _ h => absurd h (by omega)) (fun i _ next hi h hn => ?_); by_cases he : (nth p.Domains i).Station = (nth p.Domains j).Station
  · rw [decide_eq_true he, cond_true]; rcases Nat.lt_or_ge i j with hlt | hge
    · have := key i j hlt hj; omega
    · rw [show i = j by omega]
  · rw [decide_eq_false he, cond_false]; refine hn () ?_; rcases Nat.lt_or_ge i j with hlt | hge
    · omega
    · exact absurd (by rw [show i = j by omega]) he
theorem zhO (n : Int) (d : List Int) : ∀ x ∈ (bfold p l n d).1, x ∈ d := by
  have key : ∀ i, i ≤ d.length → ∀ x ∈ (bfold p l n (d.take i)).1, x ∈ d := fun i => by
    induction i with
    | zero => intro _ x hx; cases hx
    | succ i ih =>
      intro hi x hx; rw [zdg p l n (by omega)] at hx; unfold bstep at hx; have hm := zaz (show i < d.length by omega); have h := ih (by omega)
      revert hx
      cases decide (nth d i = onL l n)
      · rw [cond_false]
        cases ((bfold p l n (d.take i)).1.isEmpty || decide ((zce p (zcq l n (nth d i)) : Int) < (bfold p l n (d.take i)).2))
        · rw [cond_false]
          cases decide ((zce p (zcq l n (nth d i)) : Int) = (bfold p l n (d.take i)).2)
          · exact h x
          · intro hx; rcases List.mem_append.1 hx with hx | hx
            · exact h x hx
            · simp at hx; rw [hx]; exact hm
        · intro hx; simp at hx; rw [hx]; exact hm
      · exact h x
  have := key d.length (Nat.le_refl _)
  rwa [List.take_length] at this
theorem zh8 (n : Int) (d : List Int) : (bfold p l n d).1.length ≤ d.length := by
  have key : ∀ i, i ≤ d.length → (bfold p l n (d.take i)).1.length ≤ i := fun i => by
    induction i with
    | zero => intro _; exact Nat.le_refl _
    | succ i ih =>
      intro hi; rw [zdg p l n (by omega)]; unfold bstep; have h := ih (by omega)
      cases decide (nth d i = onL l n)
      · rw [cond_false]
        cases ((bfold p l n (d.take i)).1.isEmpty || decide ((zce p (zcq l n (nth d i)) : Int) < (bfold p l n (d.take i)).2))
        · rw [cond_false]
          cases decide ((zce p (zcq l n (nth d i)) : Int) = (bfold p l n (d.take i)).2)
          · exact Nat.le_trans h (Nat.le_succ i)
          · rw [cond_true, List.length_append]; simp only [List.length_cons, List.length_nil]; omega
        · rw [cond_true]; simp
      · exact Nat.le_trans h (Nat.le_succ i)
  have := key d.length (Nat.le_refl _)
  rwa [List.take_length] at this
def whoL (p : GProblem) (l : List GChoice) : List Int := (p.Domains.filter fun d => invB p l d.Station).map (·.Station)
theorem zjw {n : Int} (h : n ∈ whoL p l) : ∃ j, j < p.Domains.length ∧ (nth p.Domains j).Station = n := by
  obtain ⟨d, hd, rfl⟩ := List.mem_map.1 h; obtain ⟨j, hj, rfl⟩ := List.mem_iff_getElem.1 (List.mem_filter.1 hd).1; exact ⟨j, hj, by rw [zaP hj]⟩
theorem zii (hp : okP p = true) : (whoL p l).length ≤ 512 := by
  unfold whoL; rw [List.length_map]; exact Nat.le_trans (List.length_filter_le _ _) (zbx hp).len
theorem zig (hp : okP p = true) (h : zce p l ≠ 0) : whoL p l ≠ [] := by
  have hO := zbx hp
  have hD : ∀ n, hasD p n = true → ∃ d ∈ p.Domains, d.Station = n := fun n hn => by
    rw [zeE hO.d] at hn; obtain ⟨d, hd, rfl⟩ := List.mem_map.1 (anyD_mem.1 hn); exact ⟨d, hd, rfl⟩
  have go : ∀ n, hasD p n = true → invB p l n = true → whoL p l ≠ [] := fun n hn hi => by
    obtain ⟨d, hd, rfl⟩ := hD n hn; exact List.ne_nil_of_mem (List.mem_map.2 ⟨d, List.mem_filter.2 ⟨hd, hi⟩, rfl⟩)
  by_cases h1 : (p.Rules.Pairs.filter fun c => zaf c l) = []
  · have h2 : (p.Rules.Caps.filter fun c => zad p c l) ≠ [] := fun e => h (by unfold zce; rw [h1, e]; rfl); obtain ⟨c, hc⟩ := List.exists_mem_of_ne_nil _ h2; have hc2 := List.mem_filter.1 hc; refine go c.Station (List.all_eq_true.1 (zbR (zbR hO.l)) c hc2.1) ?_; unfold invB; rw [Bool.or_eq_true]; refine .inr (List.any_eq_true.2 ⟨c, hc2.1, ?_⟩); rw [hc2.2, decide_eq_true rfl]; rfl
  · obtain ⟨c, hc⟩ := List.exists_mem_of_ne_nil _ h1; have hc2 := List.mem_filter.1 hc; refine go c.A (zbA (List.all_eq_true.1 (zbA hO.l) c hc2.1)) ?_; unfold invB; rw [Bool.or_eq_true]; refine .inl (List.any_eq_true.2 ⟨c, hc2.1, ?_⟩); rw [hc2.2, decide_eq_true (show c.A = c.A from rfl)]; rfl
end
section
variable {p : GProblem} {l : List GChoice} {b : Gboard}
def zgP (p : GProblem) (n : Int) : List Int := (nth p.Domains (zbb p n).toNat).Channels
theorem zfW (hp : okP p = true) {j : Nat} (hj : j < p.Domains.length) : zgP p (nth p.Domains j).Station = (nth p.Domains j).Channels := by
  unfold zgP; rw [zje hp hj]; rfl
noncomputable def stepN (p : GProblem) (s : List GChoice × BitVec 64) : Int := nth (whoL p s.1) (numB s.2 (whoL p s.1).length).1.toNat
noncomputable def stepB (p : GProblem) (s : List GChoice × BitVec 64) : List Int := (bfold p s.1 (stepN p s) (zgP p (stepN p s))).1
noncomputable def stepS (p : GProblem) (s : List GChoice × BitVec 64) : List GChoice × BitVec 64 :=
  bif (stepB p s).isEmpty then (s.1, (numB s.2 (whoL p s.1).length).2) else (zcq s.1 (stepN p s) (nth (stepB p s) (numB (numB s.2 (whoL p s.1).length).2 (stepB p s).length).1.toNat), (numB (numB s.2 (whoL p s.1).length).2 (stepB p s).length).2)
noncomputable def solveR (p : GProblem) : Nat → List GChoice × BitVec 64 → List GChoice × Nat × Bool
  | 0, s => (s.1, 0, decide (zce p s.1 = 0))
  | k + 1, s => bif decide (zce p s.1 = 0) then (s.1, 0, true) else ((solveR p k (stepS p s)).1, (solveR p k (stepS p s)).2.1 + 1, (solveR p k (stepS p s)).2.2)
structure GoodL (p : GProblem) (l : List GChoice) : Prop where
  v : VL l
  c : Comp p l
theorem zh9 (hp : okP p = true) {s : List GChoice × BitVec 64} (h0 : zce p s.1 ≠ 0) : ∃ j, j < p.Domains.length ∧ (nth p.Domains j).Station = stepN p s ∧ 0 ≤ (numB s.2 (whoL p s.1).length).1 ∧ (numB s.2 (whoL p s.1).length).1 < ((whoL p s.1).length : Int) := by
  have h1 := List.length_pos_iff.2 (zig hp h0); have h2 := zii (l := s.1) hp; have hb := zgE (limit := ((whoL p s.1).length : Int)) (by omega) (by omega) s.2; obtain ⟨j, hj, e⟩ := zjw (zaz (l := whoL p s.1) (i := (numB s.2 (whoL p s.1).length).1.toNat) (by omega)); exact ⟨j, hj, e, hb⟩
theorem zgx (hp : okP p = true) {s : List GChoice × BitVec 64} {j : Nat} (hj : j < p.Domains.length) (e : (nth p.Domains j).Station = stepN p s) : (stepB p s).length ≤ 50 := by
  have h50 := of_decide_eq_true (zbA (zbR ((zgF _).trans (List.all_eq_true.1 (zbx hp).d _ (zaz hj))))); unfold stepB; rw [← e, zfW hp hj]; have := zh8 (p := p) (l := s.1) (nth p.Domains j).Station (nth p.Domains j).Channels; omega
theorem zgd (hp : okP p = true) {s : List GChoice × BitVec 64} (hG : GoodL p s.1) (h0 : zce p s.1 ≠ 0) : GoodL p (stepS p s).1 := by
  obtain ⟨j, hj, e, hb⟩ := zh9 hp h0; unfold stepS
  cases he : (stepB p s).isEmpty with
  | true => exact hG
  | false =>
    rw [cond_false]; have hl := zgx hp hj e
    have h1 : 0 < (stepB p s).length := by cases hs : stepB p s with
      | nil => rw [hs] at he; cases he
      | cons a t => simp
    have hb2 := zgE (limit := ((stepB p s).length : Int)) (by omega) (by omega) (numB s.2 (whoL p s.1).length).2; have hm := zaz (l := stepB p s) (i := (numB (numB s.2 (whoL p s.1).length).2 (stepB p s).length).1.toNat) (by omega); generalize nth (stepB p s) (numB (numB s.2 (whoL p s.1).length).2 (stepB p s).length).1.toNat = ch at *
    have hd : ch ∈ (nth p.Domains j).Channels := by
      unfold stepB at hm; rw [← e, zfW hp hj] at hm; exact zhO _ _ _ hm
    have hchs := List.all_eq_true.1 (zbA (zbR (List.all_eq_true.1 (zbx hp).d _ (zaz hj)))); refine ⟨zgV hG.v (zhg (hchs _ hd)), ?_⟩; dsimp only; rw [← e]; exact zfB hG.c hj (by rw [zfq, List.any_eq_true]; exact ⟨_, hd, decide_eq_true rfl⟩) hp
theorem zeN : ∀ (k : Nat) (s : List GChoice × BitVec 64), (solveR p k s).2.2 = decide (zce p (solveR p k s).1 = 0)
  | 0, s => rfl
  | k + 1, s => by
    rw [solveR]; by_cases h : zce p s.1 = 0
    · rw [decide_eq_true h, cond_true]; exact (decide_eq_true h).symm
    · rw [decide_eq_false h, cond_false]; exact zeN k _
theorem zdx (hp : okP p = true) : ∀ (k : Nat) (s : List GChoice × BitVec 64), GoodL p s.1 → GoodL p (solveR p k s).1
  | 0, s, h => h
  | k + 1, s, h => by
    rw [solveR]; by_cases h0 : zce p s.1 = 0
    · rw [decide_eq_true h0, cond_true]; exact h
    · rw [decide_eq_false h0, cond_false]; exact zdx hp k _ (zgd hp h h0)
theorem zgu : ∀ (k : Nat) (s : List GChoice × BitVec 64), (solveR p k s).2.1 ≤ k
  | 0, s => Nat.le_refl _
  | k + 1, s => by
    rw [solveR]
    cases decide (zce p s.1 = 0)
    · exact Nat.succ_le_succ (zgu k _)
    · exact Nat.zero_le _
theorem zgS (hp : okP p = true) {budget : Int} (hB : budget ≤ 10000) {ρ : Type} {K : Int × BitVec 64 × Vec 512 Int → Option ρ} {f : (Int × BitVec 64 × Vec 512 Int → Option ρ) → Int × BitVec 64 × Vec 512 Int → Option ρ}
    (hf : ∀ next l st m c, GoodL p l → TabC l c → (bif decide (m < budget) && !decide (zce p l = 0) then ∃ c', TabC (stepS p (l, st)).1 c' ∧ f next (m, st, c) = next (wI (m + 1), (stepS p (l, st)).2, c') else f next (m, st, c) = K (m, st, c))) : ∀ (k : Nat) (l : List GChoice) (st : BitVec 64) (m : Int) (c : Vec 512 Int), GoodL p l → TabC l c → 0 ≤ m → m + (k : Int) = budget → ∀ M, k < M → ∃ st' c', TabC (solveR p k (l, st)).1 c' ∧ zbW f M (m, st, c) = K (m + ((solveR p k (l, st)).2.1 : Int), st', c')
  | 0, l, st, m, c, hG, hT, h0, h1, M, hM => by
    obtain ⟨M', rfl⟩ : ∃ M', M = M' + 1 := ⟨M - 1, by omega⟩; have h := hf (zbW f M') l st m c hG hT; rw [decide_eq_false (show ¬ m < budget by omega), Bool.false_and, cond_false] at h; exact ⟨st, c, hT, by rw [zc8, h]; show _ = K (m + ((0 : Nat) : Int), st, c); rw [show m + ((0 : Nat) : Int) = m by omega]⟩
  | k + 1, l, st, m, c, hG, hT, h0, h1, M, hM => by
    obtain ⟨M', rfl⟩ : ∃ M', M = M' + 1 := ⟨M - 1, by omega⟩; have h := hf (zbW f M') l st m c hG hT; rw [decide_eq_true (show m < budget by omega), Bool.true_and] at h; rw [solveR]; by_cases hc : zce p l = 0
    · rw [decide_eq_true hc, Bool.not_true, cond_false] at h; rw [decide_eq_true hc, cond_true]; exact ⟨st, c, hT, by rw [zc8, h]; show _ = K (m + ((0 : Nat) : Int), st, c); rw [show m + ((0 : Nat) : Int) = m by omega]⟩
    · rw [decide_eq_false hc, Bool.not_false, cond_true] at h; rw [decide_eq_false hc, cond_false]; obtain ⟨c', hT', h⟩ := h; obtain ⟨st2, c2, h2, h3⟩ := zgS hp hB hf k (stepS p (l, st)).1 (stepS p (l, st)).2 (m + 1) c' (zgd (s := (l, st)) hp hG hc) hT' (by omega) (by omega) M' (by omega); rw [show ((stepS p (l, st)).1, (stepS p (l, st)).2) = stepS p (l, st) from rfl] at h2 h3; refine ⟨st2, c2, h2, ?_⟩; rw [zc8, h, zfZ (by omega), h3]; dsimp only
      congr 2
      omega
end
section
variable {p : GProblem} {l : List GChoice} {b : Gboard}
theorem zfF {hs : List GChoice} (hp : okP p = true) (hne : p.Domains.any zdl = false) : GoodL p (p.Domains.map (zbU hs)) := by
  have hO := zbx hp; have hn : ∀ i, i < p.Domains.length → nth (p.Domains.map (zbU hs)) i = zbU hs (nth p.Domains i) := fun i hi => zc2 hi
  have hin : ∀ i, i < p.Domains.length → zaU (nth p.Domains i).Channels (zbU hs (nth p.Domains i)).Channel = true := fun i hi => by
    unfold zbU
    cases hH : zaU (nth p.Domains i).Channels (onL hs (nth p.Domains i).Station)
    · rw [cond_false]; have h3 := List.any_eq_false.1 hne _ (zaz hi); have h4 : ¬ ((nth p.Domains i).Channels.length : Int) = 0 := fun e => h3 (decide_eq_true e); rw [zfq, List.any_eq_true]; exact ⟨_, zaz (by omega), decide_eq_true rfl⟩
    · exact hH
  have key : ∀ a b, a < b → b < p.Domains.length → (nth p.Domains a).Station < (nth p.Domains b).Station := fun a b hab hb => by
    have h := List.pairwise_iff_getElem.1 (zcI hO.i) a b (by rw [List.length_map]; omega) (by rw [List.length_map]; exact hb) hab; rw [List.getElem_map, List.getElem_map] at h
    rwa [zaP (by omega), zaP hb]
  refine ⟨⟨fun i hi => ?_, fun i hi => ?_, fun i j hij hj => ?_⟩, ⟨List.length_map _, fun i hi => ?_, fun i hi => ?_⟩⟩
  · rw [List.length_map] at hi; rw [hn i hi]; have := zdn hO.d (zaz hi)
    show 0 ≤ (nth p.Domains i).Station ∧ (nth p.Domains i).Station ≤ 511
    omega
  · rw [List.length_map] at hi; rw [hn i hi]; have h := hin i hi; rw [zfq, List.any_eq_true] at h; obtain ⟨x, hx, hq⟩ := h; rw [← of_decide_eq_true hq]; exact zhg (List.all_eq_true.1 (zbA (zbR (List.all_eq_true.1 hO.d _ (zaz hi)))) x hx)
  · rw [List.length_map] at hj; rw [hn i (by omega), hn j hj]; exact key i j hij hj
  · rw [hn i hi]; rfl
  · rw [hn i hi]; exact hin i hi
noncomputable abbrev solveN (p : GProblem) (hs : List GChoice) (seed budget : Int) : List GChoice × Nat × Bool := solveR p budget.toNat (p.Domains.map (zbU hs), BitVec.ofInt 64 seed)
theorem zix (hp : okP p = true) {budget : Int} (hB : budget ≤ 10000) {ρ : Type} {K : Int × BitVec 64 × Vec 512 Int → Option ρ} {f : (Int × BitVec 64 × Vec 512 Int → Option ρ) → Int × BitVec 64 × Vec 512 Int → Option ρ} {Q : Option ρ → Prop}
    (hf : ∀ next l st m c, GoodL p l → TabC l c → (bif decide (m < budget) && !decide (zce p l = 0) then ∃ c', TabC (stepS p (l, st)).1 c' ∧ f next (m, st, c) = next (wI (m + 1), (stepS p (l, st)).2, c') else f next (m, st, c) = K (m, st, c))) (k : Nat) (l : List GChoice) (st : BitVec 64) (m : Int) (c : Vec 512 Int) (h1 : GoodL p l) (h2 : TabC l c) (h3 : 0 ≤ m) (h4 : m + (k : Int) = budget) (M : Nat) (h5 : k < M) (g : ∀ st' c', TabC (solveR p k (l, st)).1 c' → Q (K (m + ((solveR p k (l, st)).2.1 : Int), st', c'))) : Q (zbW f M (m, st, c)) := by
  obtain ⟨st', c', h6, h7⟩ := zgS hp hB hf k l st m c h1 h2 h3 h4 M h5; rw [h7]; exact g st' c' h6
theorem zhA (p : GProblem) (l : List GChoice) : zcb p l = zcd p l := rfl
theorem lay_x {ρ : Type} {l0 lf : List GChoice} {c : Vec 512 Int} (h0 : GoodL p l0) (hf : GoodL p lf) (hc : TabC lf c) (hp : okP p = true) (K : List GChoice → Option ρ) : zai (fun (i_27 : Nat) (next26 : List GChoice → Option ρ) (l_25 : List GChoice) =>
                grd (0 ≤ (i_27 : Int) ∧ (i_27 : Int) < (l_25.length : Int)) <|
                grd (0 ≤ (nth l_25 i_27).Station ∧ (nth l_25 i_27).Station < (512 : Int)) <|
                next26 (l_25.set i_27 (GChoice.mk ((nth l_25 i_27).Station) (Vec.get c (((nth l_25 i_27).Station).toNat))))) K l0.length 0 l0 = K lf := by
  have hl0 := h0.c.len; have hlf := hf.c.len; refine zdi (fun i (s : List GChoice) => s.length = l0.length ∧ ∀ j, j < l0.length → nth s j = if j < i then nth lf j else nth l0 j) (fun r => r = K lf) ⟨rfl, fun j hj => by rw [if_neg (by omega)]⟩ (fun s hs => ?_) (fun i s next hi hs hn => ?_)
  · congr 1
    refine zgM (by omega) fun j hj => ?_; rw [hs.2 j (by omega), if_pos (by omega)]
  · (have hst : (nth s i).Station = (nth p.Domains i).Station := by rw [hs.2 i hi, if_neg (by omega), h0.c.st i (by omega)]); have hD := zdn (zbx hp).d (zaz (show i < p.Domains.length by omega)); rw [zaT ⟨by omega, by omega⟩, hst, zaT ⟨hD.1, hD.2⟩]; refine hn _ ⟨by rw [List.length_set]; exact hs.1, fun j hj => ?_⟩; rw [zeH (by omega)]; by_cases hij : i = j
    · subst hij; rw [if_pos rfl, if_pos (by omega), hc.get ⟨hD.1, hD.2⟩]; have h1 := zfU hf.v (i := i) (by omega); have h2 := hf.c.st i (by omega); rw [h2] at h1; rw [h1, ← h2]
    · rw [if_neg hij, hs.2 j hj]; by_cases h : j < i
      · rw [if_pos h, if_pos (by omega)]
      · rw [if_neg h, if_neg (by omega)]
theorem zie {F : Nat} (hF : bigN < F) {hs : List GChoice} {seed budget : Int} (hp : okP p = true) (hv : zav hs = true) (hne : p.Domains.any zdl = false) (h0 : 0 ≤ budget) (hB : budget ≤ 10000) : zbB F p hs seed budget = some ((solveN p hs seed budget).1, ((solveN p hs seed budget).2.1 : Int), (solveN p hs seed budget).2.2, 0) := by
  have hb0 := zgI; have hG0 := zfF (hs := hs) hp hne; obtain ⟨b, h1, hb⟩ := zhE hp hG0.v; unfold zbB; rw [zh6, hp, hv, hne, decide_eq_false (show ¬ budget < 0 by omega), decide_eq_false (show ¬ 10000 < budget by omega), Bool.false_or, cond_false, Bool.and_true, cond_true, cond_false, Option.bind_some]; dsimp only; rw [decide_eq_false (show ¬ ¬ (0 : Int) = 0 by omega), cond_false, show (zau seed).isSome = true from rfl, cond_true, zhA, h1, Option.bind_some]; simp only [Option.isSome_some, cond_true, Option.getD_some, zaI, Nat.sub_zero]; have hm : ((zau seed).getD default) = ⟨true, BitVec.ofInt 64 seed⟩ := rfl; rw [hm]; dsimp only
  refine zix (Q := fun r => r = some ((solveN p hs seed budget).1, ((solveN p hs seed budget).2.1 : Int), (solveN p hs seed budget).2.2, 0)) (K := fun s9 => zai (fun (i_27 : Nat) (next26 : List GChoice → Option (List GChoice × Int × Bool × Int)) (l_25 : List GChoice) =>
                grd (0 ≤ (i_27 : Int) ∧ (i_27 : Int) < (l_25.length : Int)) <|
                grd (0 ≤ (nth l_25 i_27).Station ∧ (nth l_25 i_27).Station < (512 : Int)) <|
                next26 (l_25.set i_27 (GChoice.mk ((nth l_25 i_27).Station) (Vec.get s9.2.2 (((nth l_25 i_27).Station).toNat))))) (fun l_23 => (zaw (Gboard.mk (GProblem.mk b.p.Domains (GRules.mk b.p.Rules.Pairs b.p.Rules.Loads b.p.Rules.Caps)) s9.2.2 b.domains b.pairs b.caps b.into b.from_)).bind fun r101 => some (l_23, s9.1, decide (r101 = 0), 0)) (p.Domains.map (zbU hs)).length 0 (p.Domains.map (zbU hs))) hp hB ?_ budget.toNat (p.Domains.map (zbU hs)) (BitVec.ofInt 64 seed) 0 b.on hG0 hb.on (Int.le_refl 0) (by omega) F (by omega) ?_
  rotate_left
  · intro st' c' hT; have hGf := zdx hp budget.toNat (p.Domains.map (zbU hs), BitVec.ofInt 64 seed) hG0; dsimp only; rw [lay_x hG0 hGf hT hp, ziV hp hGf.v hGf.c (hb.with hT), Option.bind_some, Int.zero_add, zeN]
    congr 4
    rw [Bool.eq_iff_iff, decide_eq_true_eq, decide_eq_true_eq]; omega
  · intro next l st m c hG hT; have hbw := hb.with hT; have hcost := ziV hp hG.v hG.c hbw; dsimp only; by_cases hm : m < budget
    · rw [decide_eq_true hm, Bool.true_and, cond_true, hcost, Option.bind_some]; by_cases hc : zce p l = 0
      · rw [decide_eq_true hc, Bool.not_true, cond_false, decide_eq_false (show ¬ (0 : Int) < (zce p l : Int) by omega), cond_false]
      · rw [decide_eq_false hc, Bool.not_false, cond_true, decide_eq_true (show (0 : Int) < (zce p l : Int) by omega), cond_true]; obtain ⟨j, hj, e, hbd⟩ := zh9 (s := (l, st)) hp hc; have hw := zii (l := l) hp; have hsl := zgx (s := (l, st)) hp hj e; rw [zhi hp hG.v hG.c hbw, zgN hp, Option.bind_some, show (p.Domains.filter fun d => invB p l d.Station).map (·.Station) = whoL p l from rfl, ziT hF (zig hp hc) (by omega), Option.bind_some]; dsimp only; rw [Bool.not_true, cond_false, show nth (whoL p l) (numB st (whoL p l).length).1.toNat = stepN p (l, st) from rfl]; obtain ⟨on', hbest, hT2⟩ := zjH hp hG.v hG.c hbw hj
        have hsB : (bfold p l (nth p.Domains j).Station (nth p.Domains j).Channels).1 = stepB p (l, st) := by
          unfold stepB; rw [← e, zfW hp hj]
        rw [e, show (nth p.Domains j).Channels = (nth p.Domains j).Channels from rfl] at hbest; rw [e] at hsB; rw [hbest, hsB, Option.bind_some]; dsimp only; have hn := zdn (zbx hp).d (zaz hj); rw [e] at hn; unfold stepS
        cases he : (stepB p (l, st)).isEmpty with
        | true =>
          have : stepB p (l, st) = [] := by cases hs : stepB p (l, st) with
            | nil => rfl
            | cons a t => rw [hs] at he; cases he
          rw [this, ziB, Option.bind_some]; exact ⟨on', hT2, rfl⟩
        | false =>
          (have h1 : stepB p (l, st) ≠ [] := fun hs => by rw [hs] at he; cases he); rw [ziT hF h1 (by omega), Option.bind_some]; dsimp only; rw [cond_true, zaT ⟨hn.1, hn.2⟩]; exact ⟨_, zia hT2 ⟨hn.1, hn.2⟩ ⟨nth l j, zaz (by rw [hG.c.len]; exact hj), (hG.c.st j hj).trans e⟩ _, rfl⟩
    · rw [decide_eq_false hm, Bool.false_and, cond_false, cond_false, cond_false]
theorem zhn {F : Nat} {hs : List GChoice} {seed budget : Int} (hp : okP p = true) (hv : zav hs = true) (hne : p.Domains.any zdl = true) (h0 : 0 ≤ budget) (hB : budget ≤ 10000) : zbB F p hs seed budget = some ([], 0, false, 9) := by
  unfold zbB; rw [zh6, hp, hv, hne, decide_eq_false (show ¬ budget < 0 by omega), decide_eq_false (show ¬ 10000 < budget by omega), Bool.false_or, cond_false, Bool.and_true, cond_true, cond_true, Option.bind_some]
  rfl
end
section
variable {p : GProblem} {l : List GChoice} {b : Gboard}
theorem zej {k : Nat} {s : List GChoice × BitVec 64} (h : zce p s.1 = 0) : solveR p k s = (s.1, 0, true) := by
  cases k with
  | zero => show (s.1, 0, decide (zce p s.1 = 0)) = _; rw [decide_eq_true h]
  | succ k => rw [solveR, decide_eq_true h, cond_true]
theorem zfl : ∀ (k j : Nat) (s : List GChoice × BitVec 64), (solveR p k s).2.2 = true → solveR p (k + j) s = solveR p k s
  | 0, j, s, h => by
    have h0 : zce p s.1 = 0 := of_decide_eq_true h; rw [zej h0, zej h0]
  | k + 1, j, s, h => by
    rw [show k + 1 + j = (k + j) + 1 by omega, solveR, solveR]; rw [solveR] at h; by_cases h0 : zce p s.1 = 0
    · rw [decide_eq_true h0, cond_true, cond_true]
    · rw [decide_eq_false h0, cond_false] at h; rw [decide_eq_false h0, cond_false, cond_false, zfl k j _ h]
theorem zgo : ∀ (k j : Nat) (s : List GChoice × BitVec 64), (solveR p k s).2.1 ≤ (solveR p (k + j) s).2.1
  | 0, j, s => Nat.zero_le _
  | k + 1, j, s => by
    rw [show k + 1 + j = (k + j) + 1 by omega, solveR, solveR]; by_cases h0 : zce p s.1 = 0
    · rw [decide_eq_true h0, cond_true, cond_true]; exact Nat.le_refl _
    · rw [decide_eq_false h0, cond_false, cond_false]; exact Nat.succ_le_succ (zgo k j _)
theorem zfA : ∀ (k : Nat) (s : List GChoice × BitVec 64), (solveR p k s).2.2 = false → (solveR p k s).2.1 = k
  | 0, s, _ => rfl
  | k + 1, s, h => by
    rw [solveR] at h ⊢; by_cases h0 : zce p s.1 = 0
    · rw [decide_eq_true h0, cond_true] at h; cases h
    · rw [decide_eq_false h0, cond_false] at h ⊢; rw [zfA k _ h]
theorem zfv {α : Type} {q : α → Bool} {xs : List α} : (xs.filter q).length = 0 ↔ ∀ x ∈ xs, q x = false := by
  rw [List.length_eq_zero_iff, List.filter_eq_nil_iff]; (exact forall_congr' fun x => forall_congr' fun _ => by rw [Bool.not_eq_true])
theorem zh7 : zce p l = 0 ↔ (∀ c ∈ p.Rules.Pairs, zaf c l = false) ∧ ∀ c ∈ p.Rules.Caps, zad p c l = false := by
  unfold zce; rw [Nat.add_eq_zero_iff, zfv, zfv]
theorem zf6 (hp : okP p = true) (hG : GoodL p l) : FineP p l true ↔ zce p l = 0 := by
  rw [zh7]; constructor
  · exact fun h => ⟨h.pr, h.cp⟩
  · rintro ⟨h1, h2⟩; obtain ⟨h3, h4⟩ := (zfd hp hG.v).1 hG.c; exact ⟨fun d hd => by rw [decide_eq_false (h3 d hd).1, (h3 d hd).2]; simp, h4, h1, h2⟩
theorem zhD (hp : okP p = true) {hs : List GChoice} (hv : VL hs) (h : FineP p hs true) : GoodL p hs := by
  refine ⟨hv, (zfd hp hv).2 ⟨fun d hd => ?_, h.fo⟩⟩; have := h.dm d hd; simp at this; exact ⟨this.1, this.2 this.1⟩
theorem zhh (hp : okP p = true) {hs : List GChoice} (hG : GoodL p hs) : p.Domains.map (zbU hs) = hs := by
  refine zgM (by rw [List.length_map, hG.c.len]) fun j hj => ?_; rw [List.length_map] at hj; rw [zc2 hj]; have h1 := zfU hG.v (i := j) (by rw [hG.c.len]; exact hj); rw [hG.c.st j hj] at h1; unfold zbU; rw [h1, hG.c.ch j hj, cond_true, ← hG.c.st j hj]
theorem fine_x : zbp p l = true ↔ zav l = true ∧ FineP p l true := by
  unfold zbp; rw [Bool.and_eq_true, Bool.and_eq_true, decide_eq_true_eq, decide_eq_true_eq, ← zff]; exact and_congr_right fun _ => ⟨fun h => first_of.1 h.1, fun h => by rw [first_of.2 h]; exact ⟨rfl, rfl⟩⟩
theorem zhK (hp : okP p = true) (hG : GoodL p l) : zbp p l = decide (zce p l = 0) := by
  rw [Bool.eq_iff_iff, fine_x, decide_eq_true_eq, zf6 hp hG]; exact ⟨fun h => h.2, fun h => ⟨zi5 hG.v, h⟩⟩
theorem zf4 {n : Nat} (h : 18446744073709651616 ≤ n) (p : GProblem) (hs : List GChoice) (seed budget more : Int) : zco n p hs seed budget more = some true := by
  (have hF : bigN < n := by rw [zgI]; omega); unfold zco zc3; obtain ⟨a, ha⟩ := zjh (p := p) (a := 10) (b := 40) (fuel := n) (by omega); simp only [zaI, ha, Option.bind_some, zim (n := n) (by omega), zhl, ← zff]
  cases a
  · rfl
  cases decide (20 < (hs.length : Int))
  rotate_left
  · rfl
  by_cases h1 : budget < 0
  · rw [decide_eq_true h1]; rfl
  by_cases h2 : 60 < budget
  · rw [decide_eq_false h1, decide_eq_true h2]; rfl
  by_cases h3 : more < 0
  · rw [decide_eq_false h1, decide_eq_false h2, decide_eq_true h3]; rfl
  by_cases h4 : 60 < more
  · rw [decide_eq_false h1, decide_eq_false h2, decide_eq_false h3, decide_eq_true h4]; rfl
  rw [decide_eq_false h1, decide_eq_false h2, decide_eq_false h3, decide_eq_false h4]
  cases hp : okP p
  · rfl
  cases hv : zav hs
  · rfl
  simp only [Bool.not_true, cond_false]
  cases hne : p.Domains.any zdl
  rotate_left
  · rw [zhn hp hv hne (by omega) (by omega)]; rfl
  have hV := zjz hv; have hG0 := zfF (hs := hs) hp hne; rw [zie hF hp hv hne (by omega) (by omega), Option.bind_some, zfZ (x := budget + more) (by omega), zie hF hp hv hne (by omega) (by omega), Option.bind_some]; (have e : (budget + more).toNat = budget.toNat + more.toNat := by omega); have hG1 := zdx hp budget.toNat (p.Domains.map (zbU hs), BitVec.ofInt 64 seed) hG0; have hG2 := zdx hp (budget.toNat + more.toNat) (p.Domains.map (zbU hs), BitVec.ofInt 64 seed) hG0; have hle := zgu (p := p) budget.toNat (p.Domains.map (zbU hs), BitVec.ofInt 64 seed); have hge := zgo (p := p) budget.toNat more.toNat (p.Domains.map (zbU hs), BitVec.ofInt 64 seed); have hfin := zeN (p := p) budget.toNat (p.Domains.map (zbU hs), BitVec.ofInt 64 seed); have hno := zfA (p := p) budget.toNat (p.Domains.map (zbU hs), BitVec.ofInt 64 seed); have hmo := zfl (p := p) budget.toNat more.toNat (p.Domains.map (zbU hs), BitVec.ofInt 64 seed)
  have hze : zbp p hs = true → solveR p budget.toNat (p.Domains.map (zbU hs), BitVec.ofInt 64 seed) = (hs, 0, true) := fun hf => by
    have hGh := zhD hp hV (fine_x.1 hf).2; rw [zhh hp hGh]; exact zej (s := (hs, BitVec.ofInt 64 seed)) ((zf6 hp hGh).1 (fine_x.1 hf).2)
  unfold solveN; rw [e]; generalize solveR p budget.toNat (p.Domains.map (zbU hs), BitVec.ofInt 64 seed) = A at *; generalize solveR p (budget.toNat + more.toNat) (p.Domains.map (zbU hs), BitVec.ofInt 64 seed) = B at *; rw [zhK hp hG1, zer hp hG1.v, zer hp hG2.v, comp_iff.2 hG1.c, comp_iff.2 hG2.c, ← hfin]; dsimp only; rw [decide_eq_false (show ¬ ¬ (0 : Int) = 0 by omega), cond_false, beq_self_eq_true, Bool.not_true, Bool.false_or, decide_eq_false (show ¬ ((A.2.1 : Nat) : Int) < 0 by omega), Bool.false_or, decide_eq_false (show ¬ budget < ((A.2.1 : Nat) : Int) by omega), Bool.false_or]
  have c1 : ((!A.2.2) && decide (¬ ((A.2.1 : Nat) : Int) = budget)) = false := by
    cases hA : A.2.2 with
    | true => rfl
    | false => rw [decide_eq_false (by have := hno hA; omega)]; rfl
  have c2 : (zbp p hs && (decide (¬ ((A.2.1 : Nat) : Int) = 0) || !za7 A.1 hs)) = false := by
    cases hf : zbp p hs with
    | false => rfl
    | true => rw [hze hf, zfE]; simp
  have c3 : (A.2.2 && ((decide (¬ ((B.2.1 : Nat) : Int) = ((A.2.1 : Nat) : Int)) || !B.2.2) || !za7 A.1 B.1)) = false := by
    cases hA : A.2.2 with
    | false => rfl
    | true => rw [hmo hA, zfE, hA]; simp
  rw [c1, c2, c3, decide_eq_false (show ¬ ((B.2.1 : Nat) : Int) < ((A.2.1 : Nat) : Int) by omega)]; simp
end
end Go.Proofs.YtnhdlloidbomdaaGreat
namespace Go.Proofs.YtnhdlloidbomdaaGreat
open Go.RowKit Go.ChangeShapes Go.WideShapes Go.Deep
def Opens {H : Type} (enc : TypeId × Value → H) (w : World) (base : Nat) (spare : Nat → Bool) (held : Bool) (t : TypeId) {α : Type} (R : List Value → α → Prop) : Prop :=
  ∀ fuel cs y, DataW.trod enc Tryz.prog w base spare held fuel t cs = some y → ∃ x, R cs x
section
variable {H : Type} {enc : TypeId × Value → H} {w : World} {base : Nat} {spare : Nat → Bool} {held : Bool}
theorem Opens.int {t : TypeId} (ht : Tryz.prog.underlying t = some (.int .i64)) : Opens enc w base spare held t (fun cs (x : Int) => cs = [.int .i64 x]) := fun fuel cs y h => by
  obtain ⟨k, hk, _⟩ := DataW.trod_int ht h; exact ⟨k, hk⟩
theorem zjm {a : Addr} {v : Value} (h : w.cell? a = some v) : Cb w a.block := by
  unfold World.cell? at h
  split at h
  all_goals (first | exact ⟨_, _, _, by assumption⟩ | simp at h | skip)
theorem Opens.any {t e : TypeId} {k : Nat} {α : Type} [Inhabited α] {R : List Value → α → Prop} (ht : Tryz.prog.underlying t = some (.slice e)) (hk : Tryz.prog.cellsOf e = k) (hpos : 0 < k) (ho : Opens enc w base spare held e R) :
    Opens enc w base spare held t (fun cs (l : List α) => ∃ v c, cs = [v] ∧ SlC (Frz.all w) v k c ∧ c.length = l.length ∧ ∀ i, i < l.length → R (nth c i) (nth l i)) := fun fuel cs y h => by
  rcases open_slice ht h with ⟨h0, _⟩ | ⟨a, len, cap, m, n, D, Pl, hcs, hb, hl, hm, hmm, _, hx⟩
  · exact ⟨[], _, [], h0, SlC.nil _ _, rfl, fun i hi => absurd hi (Nat.not_lt_zero i)⟩
  · subst hcs; (have hlm : len ≤ m := by rw [hmm]; split <;> omega)
    have each : ∀ i, i < m → ∃ x : List Value × α, x.1.length = k ∧ R x.1 x.2 ∧ ∀ j, j < k → w.cell? (a.add (i * k + j)) = x.1[j]? := fun i hi => by
      obtain ⟨cs', h1, h2⟩ := hx i hi; rw [hk] at h1; obtain ⟨_, hlen, hcell⟩ := World.cells?_some h1; obtain ⟨x, hR⟩ := ho _ _ _ h2; exact ⟨(cs', x), hlen, hR, fun j hj => by rw [← hcell j hj, add_add]⟩
    obtain ⟨X, hX⟩ := choose_lt each
    have hn : ∀ i, i < len → nth ((List.range len).map fun i => (X i).1) i = (X i).1 := fun i hi => by
      rw [zaP (by simpa using hi)]; simp
    have hn2 : ∀ i, i < len → nth ((List.range len).map fun i => (X i).2) i = (X i).2 := fun i hi => by
      rw [zaP (by simpa using hi)]; simp
    refine ⟨(List.range len).map fun i => (X i).2, _, (List.range len).map fun i => (X i).1, rfl, ⟨some a, cap, by simp, by simpa using hl, by unfold maxLen at hm; omega, fun c hc => ?_, fun hp => ?_⟩, by simp, fun i hi => ?_⟩
    · simp at hc; obtain ⟨i, hi, rfl⟩ := hc; exact (hX i (by omega)).1
    · (have hp' : 0 < len := by simpa using hp); have c0 := (hX 0 (by omega)).2.2 0 hpos; have hx0 := (hX 0 (by omega)).1; rw [List.getElem?_eq_getElem (by omega)] at c0; have hcb := zjm c0; have hs := World.cell?_spot c0; simp [Addr.add] at hs hcb; obtain ⟨b, off, sp⟩ := a; simp at hs hcb; subst hs; refine ⟨b, off, rfl, hcb, fun i hi j hj => ?_⟩; simp at hi; rw [hn i hi] at hj ⊢; have hxi := hX i (by omega); have := hxi.2.2 j (by omega); refine Eq.trans ?_ this
      show w.cell? _ = _
      rw [zdA, Nat.add_assoc]
    · simp at hi; rw [hn i hi, hn2 i hi]; exact (hX i (by omega)).2.1
theorem Opens.slC {t e : TypeId} {k : Nat} {α : Type} [Inhabited α] {en : α → List Value} (ht : Tryz.prog.underlying t = some (.slice e)) (hk : Tryz.prog.cellsOf e = k) (hpos : 0 < k) (ho : Opens enc w base spare held e (fun cs (x : α) => cs = en x)) :
    Opens enc w base spare held t (fun cs (l : List α) => ∃ v, cs = [v] ∧ SlC (Frz.all w) v k (l.map en)) := fun fuel cs y h => by
  obtain ⟨l, v, c, h1, h2, h3, h4⟩ := Opens.any ht hk hpos ho _ _ _ h; refine ⟨l, v, h1, ?_⟩
  have : c = l.map en := by
    apply List.ext_getElem (by simpa using h3); intro i hi hi2; rw [← zaP hi, h4 i (by omega), List.getElem_map, zaP (by omega)]
  rw [← this]; exact h2
theorem Opens.bytes {t e : TypeId} (ht : Tryz.prog.underlying t = some (.slice e)) (he : Tryz.prog.underlying e = some (.int .u8)) (hk : Tryz.prog.cellsOf e = 1) :
    Opens enc w base spare held t (fun cs (l : List Int) => ∃ v, cs = [v] ∧ SlC (Frz.all w) v 1 (l.map (eK .u8)) ∧ ∀ x ∈ l, 0 ≤ x ∧ x ≤ 255) := fun fuel cs y h => by
  have ho : Opens enc w base spare held e (fun cs (x : Int) => cs = eK .u8 x ∧ (0 ≤ x ∧ x ≤ 255)) := fun fuel cs y h => by
    obtain ⟨k, h1, _, h2⟩ := DataW.trod_int he h; refine ⟨k, h1, ?_⟩; (have e1 : IntKind.u8.min = 0 := by decide); (have e2 : IntKind.u8.max = 255 := by decide); simp only [Lit.wf, e1, e2, Bool.and_eq_true, decide_eq_true_eq] at h2; exact h2
  obtain ⟨l, v, c, h1, h2, h3, h4⟩ := Opens.any ht hk (by decide) ho _ _ _ h; refine ⟨l, v, h1, ?_, fun x hx => ?_⟩
  · have : c = l.map (eK .u8) := by
      apply List.ext_getElem (by simpa using h3); intro i hi hi2; rw [← zaP hi, (h4 i (by omega)).1, List.getElem_map, zaP (by omega)]
    rw [← this]; exact h2
  · obtain ⟨i, hi, e⟩ := List.mem_iff_getElem.1 hx; have := (h4 i hi).2; rw [zaP hi, e] at this; exact this
theorem Opens.slD {t e : TypeId} {k : Nat} {α : Type} [Inhabited α] {rep : Frz → List Value → α → Prop} (ht : Tryz.prog.underlying t = some (.slice e)) (hk : Tryz.prog.cellsOf e = k) (hpos : 0 < k) (ho : Opens enc w base spare held e (rep (Frz.all w))) :
    Opens enc w base spare held t (fun cs (l : List α) => ∃ v c, cs = [v] ∧ SlD rep (Frz.all w) v k c l) := fun fuel cs y h => by
  obtain ⟨l, v, c, h1, h2, h3, h4⟩ := Opens.any ht hk hpos ho _ _ _ h; exact ⟨l, v, c, h1, h2, h3, h4⟩
end
end Go.Proofs.YtnhdlloidbomdaaGreat
