/- Ep Of: shortened and put together by squeeze.py. -/
import Derived.Test.YtlfalfmebomfbaaQ04
import Derived.Deep.Slices
import Derived.ChangeArms
set_option maxRecDepth 100000
set_option maxHeartbeats 4000000
set_option linter.unusedVariables false
set_option linter.unusedSectionVars false
set_option linter.unusedSimpArgs false
namespace Go.Proofs.Ytlfalfmebomfbaa
open Go.RowKit
def sumF (f : Gstep → Int) : List Gstep → Int
  | [] => 0
  | s :: r => f s + sumF f r
theorem zaI (f : Gstep → Int) : ∀ (a b : List Gstep), sumF f (a ++ b) = sumF f a + sumF f b
  | [], b => by show _ = 0 + _; rw [Int.zero_add]; rfl
  | s :: a, b => by rw [List.cons_append, sumF, sumF, zaI f a b]; omega
theorem zc9 (f : Gstep → Int) {a b : List Gstep} (h : a.Perm b) : sumF f a = sumF f b := by
  induction h with
  | nil => rfl
  | cons x _ ih => rw [sumF, sumF, ih]
  | swap x y l => rw [sumF, sumF, sumF, sumF]; omega
  | trans _ _ h1 h2 => rw [h1, h2]
theorem zbL {f g : Gstep → Int} : ∀ {l : List Gstep}, (∀ s ∈ l, f s = g s) → sumF f l = sumF g l
  | [], _ => rfl
  | s :: l, h => by rw [sumF, sumF, h s (List.mem_cons_self ..), zbL fun x hx => h x (List.mem_cons_of_mem _ hx)]
theorem zda : ∀ (l : List Gstep), sumF (fun _ => 0) l = 0
  | [] => rfl
  | s :: l => by rw [sumF, zda l]; rfl
def upTo (w : Int) (s : Gstep) : Int := if s.week ≤ w then s.change else 0
def hW (N : Int → Int) (w : Int) : List (Int × Int) := bif decide (N w = 0) then [] else [(w, N w)]
def segI (N : Int → Int) : Int → Nat → List (Int × Int)
  | _, 0 => []
  | a, n + 1 => hW N a ++ segI N (a + 1) n
theorem zbv (N : Int → Int) : ∀ (m : Nat) (a : Int) (n : Nat), segI N a (m + n) = segI N a m ++ segI N (a + (m : Int)) n
  | 0, a, n => by rw [Nat.zero_add, segI, List.nil_append]; simp
  | m + 1, a, n => by
    rw [show m + 1 + n = (m + n) + 1 by omega, segI, segI, zbv N m (a + 1) n, List.append_assoc, show a + 1 + (m : Int) = a + ((m + 1 : Nat) : Int) by omega]
theorem zbD (N : Int → Int) (c : Int) : ∀ (n : Nat) (a : Int), (∀ d : Nat, d < n → N (a + (d : Int)) = c) → segI N a n = bif decide (c = 0) then [] else (List.range n).map fun (d : Nat) => (a + (d : Int), c)
  | 0, a, _ => by cases decide (c = 0) <;> rfl
  | n + 1, a, h => by
    have h0 := h 0 (by omega); rw [show a + ((0 : Nat) : Int) = a by omega] at h0
    have ih := zbD N c n (a + 1) fun d hd => by
      have := h (d + 1) (by omega); rw [show a + 1 + (d : Int) = a + ((d + 1 : Nat) : Int) by omega]; exact this
    rw [segI, ih, hW, h0]
    cases hc : decide (c = 0)
    · rw [cond_false, cond_false, cond_false, List.range_succ_eq_map, List.map_cons, List.map_map]; refine List.cons_eq_cons.2 ⟨by simp, List.map_congr_left fun d _ => ?_⟩
      show (a + 1 + (d : Int), c) = (a + ((d + 1 : Nat) : Int), c)
      rw [show a + 1 + (d : Int) = a + ((d + 1 : Nat) : Int) by omega]
    · rfl
theorem zcp (N : Int → Int) (n : Nat) (a : Int) (h : ∀ d : Nat, d < n → N (a + (d : Int)) = 0) : segI N a n = [] := by
  rw [zbD N 0 n a h]; rfl
def zbt : Gstep → List Gstep → Int
  | x, [] => x.week
  | _, y :: r => zbt y r
theorem zcZ : ∀ (x : Gstep) (r : List Gstep), (x :: r).Pairwise LeW → x.week ≤ zbt x r
  | x, [], _ => Int.le_refl _
  | x, y :: r, h => by
    have h1 := List.pairwise_cons.1 h; have h2 : x.week ≤ y.week := h1.1 y (List.mem_cons_self ..); have h3 := zcZ y r h1.2; rw [zbt]; omega
theorem zdd : ∀ (x : Gstep) (r : List Gstep), ∃ s ∈ x :: r, s.week = zbt x r
  | x, [] => ⟨x, List.mem_cons_self .., rfl⟩
  | x, y :: r => by
    obtain ⟨s, h1, h2⟩ := zdd y r; exact ⟨s, List.mem_cons_of_mem _ h1, h2⟩
theorem zcr : ∀ (x : Gstep) (r : List Gstep), (x :: r).Pairwise LeW → ∀ s ∈ x :: r, s.week ≤ zbt x r
  | x, [], _, s, hs => by rw [List.mem_singleton.1 hs]; exact Int.le_refl _
  | x, y :: r, h, s, hs => by
    have h1 := List.pairwise_cons.1 h; rcases List.mem_cons.1 hs with rfl | hs
    · exact Int.le_trans (h1.1 y (List.mem_cons_self ..)) (zcr y r h1.2 y (List.mem_cons_self ..))
    · exact zcr y r h1.2 s hs
theorem zbC {pre post : List Gstep} {w : Int} (h1 : ∀ s ∈ pre, s.week ≤ w) (h2 : ∀ s ∈ post, w < s.week) : sumF (upTo w) (pre ++ post) = sumF Gstep.change pre := by
  rw [zaI, zbL (g := Gstep.change) fun s hs => by unfold upTo; rw [if_pos (h1 s hs)], zbL (l := post) (g := fun _ => 0) fun s hs => by unfold upTo; rw [if_neg (by have := h2 s hs; omega)], zda, Int.add_zero]
theorem zdK {D : List Gstep} (hD : D.Pairwise LeW) : ∀ (r : List Gstep) (x : Gstep) (pre : List Gstep), D = pre ++ x :: r → zaE (sumF Gstep.change pre) (x :: r) = segI (fun w => sumF (upTo w) D) x.week (zbt x r - x.week).toNat
  | [], x, pre, h => by
    rw [show (zbt x [] - x.week).toNat = 0 by show (x.week - x.week).toNat = 0; omega]
    rfl
  | y :: r, x, pre, h => by
    have hD2 := hD; rw [h] at hD2; obtain ⟨p1, p2, p3⟩ := List.pairwise_append.1 hD2; have p4 := List.pairwise_cons.1 p2; have p5 := List.pairwise_cons.1 p4.2; have hxy : x.week ≤ y.week := p4.1 y (List.mem_cons_self ..); have hyl := zcZ y r p4.2; (have h' : D = (pre ++ [x]) ++ y :: r := by rw [h, List.append_assoc]; rfl); have ih := zdK hD r y (pre ++ [x]) h'
    have hc : sumF Gstep.change (pre ++ [x]) = sumF Gstep.change pre + x.change := by
      rw [zaI]; show _ + (x.change + 0) = _; omega
    rw [hc] at ih; rw [zaE, ih, zbt]; rw [show (zbt y r - x.week).toNat = (y.week - x.week).toNat + (zbt y r - y.week).toNat by omega, zbv, show x.week + ((y.week - x.week).toNat : Int) = y.week by omega]
    congr 1
    rw [zbD _ (sumF Gstep.change pre + x.change)]; intro d hd
    show sumF (upTo (x.week + (d : Int))) D = _
    rw [h', zbC, hc]
    · intro s hs; rcases List.mem_append.1 hs with hs | hs
      · have : s.week ≤ x.week := p3 s hs x (List.mem_cons_self ..); omega
      · rw [List.mem_singleton.1 hs]; omega
    · intro s hs; rcases List.mem_cons.1 hs with rfl | hs
      · omega
      · have : y.week ≤ s.week := p5.1 s hs; omega
theorem ze6 {D : List Gstep} {n : Nat} (hn : n = 200) (hD : D.Pairwise LeW) (hb : ∀ s ∈ D, 0 ≤ s.week ∧ s.week ≤ 200) (h0 : sumF Gstep.change D = 0) : zaE 0 D = segI (fun w => sumF (upTo w) D) 0 n := by
  cases hd : D with
  | nil => rw [zcp _ _ _ fun d _ => rfl]; rfl
  | cons x r =>
    rw [← hd]; have hb2 := hb; have hD2 := hD; rw [hd] at hb2 hD2; obtain ⟨s, hs1, hs2⟩ := zdd x r; have hsb := hb2 s hs1; have hxb := hb2 x (List.mem_cons_self ..); have hxl := zcZ x r hD2; have hall := zcr x r hD2; have hx := List.pairwise_cons.1 hD2; have key := zdK hD r x [] hd; rw [← hd] at key; rw [show sumF Gstep.change [] = 0 from rfl] at key; rw [key, show n = x.week.toNat + ((zbt x r - x.week).toNat + ((n : Int) - zbt x r).toNat) by omega, zbv, zbv]
    rw [zcp _ x.week.toNat 0 fun d hd2 => by
      show sumF (upTo (0 + (d : Int))) D = 0
      have := zbC (pre := []) (post := D) (w := 0 + (d : Int)) (fun s hs => by cases hs) (fun s hs => by
        rw [hd] at hs; rcases List.mem_cons.1 hs with rfl | hs
        · omega
        · have : x.week ≤ s.week := hx.1 s hs
          omega)
      exact this, List.nil_append, zcp _ ((n : Int) - zbt x r).toNat _ fun d hd2 => by
      show sumF (upTo _) D = 0
      have := zbC (pre := D) (post := []) (w := 0 + (x.week.toNat : Int) + ((zbt x r - x.week).toNat : Int) + (d : Int)) (fun s hs => by
        rw [hd] at hs; have := hall s hs
        omega) (fun s hs => by cases hs)
      rw [List.append_nil, h0] at this
      exact this, List.append_nil, show (0 : Int) + (x.week.toNat : Int) = x.week by omega]
section
variable (l : List GMove) (works : List GWork) (id : Int)
def stT (i : Nat) : List Gstep := if i < l.length ∧ (nth l i).Tower = id ∧ 0 ≤ (nth works i).Start ∧ (nth works i).End ≤ 1048576 ∧ (nth works i).Start < (nth works i).End then [⟨(nth works i).Start, 1⟩, ⟨(nth works i).End, -1⟩] else []
def allT : Nat → List Gstep
  | 0 => []
  | m + 1 => allT m ++ stT l works id m
theorem zbX : ∀ m, (allT l works id m).length ≤ 2 * m
  | 0 => Nat.le_refl _
  | m + 1 => by
    have := zbX m; rw [allT, List.length_append]; unfold stT
    split
    · show _ + 2 ≤ _; omega
    · show _ + 0 ≤ _; omega
theorem zc0 {P : Gstep → Prop} (h : ∀ i, i < works.length → ∀ s ∈ stT l works id i, P s) : ∀ m, m ≤ works.length → ∀ s ∈ allT l works id m, P s
  | 0, _, s, hs => by cases hs
  | m + 1, hm, s, hs => by
    rw [allT] at hs; rcases List.mem_append.1 hs with hs | hs
    · exact zc0 h m (by omega) s hs
    · exact h m (by omega) s hs
theorem zfc (i : Nat) : ∀ s ∈ stT l works id i, okW s ∧ -1 ≤ s.change ∧ s.change ≤ 1 ∧ ((200 < (nth works i).End → 1048576 < (nth works i).End) → s.week ≤ 200) := by
  intro s hs; unfold stT at hs; by_cases hc : i < l.length ∧ (nth l i).Tower = id ∧ 0 ≤ (nth works i).Start ∧ (nth works i).End ≤ 1048576 ∧ (nth works i).Start < (nth works i).End
  · rw [if_pos hc] at hs; simp only [List.mem_cons, List.not_mem_nil, or_false] at hs; obtain ⟨_, _, c1, c2, c3⟩ := hc; rcases hs with rfl | rfl
    · refine ⟨⟨c1, by show (nth works i).Start ≤ _; omega⟩, by show (-1 : Int) ≤ 1; decide, by show (1 : Int) ≤ 1; decide, fun h => ?_⟩
      show (nth works i).Start ≤ 200
      omega
    · refine ⟨⟨by show 0 ≤ (nth works i).End; omega, c2⟩, by show (-1 : Int) ≤ -1; decide, by show (-1 : Int) ≤ 1; decide, fun h => ?_⟩
      show (nth works i).End ≤ 200
      omega
  · rw [if_neg hc] at hs; cases hs
def cnW (w : Int) : Nat → Int
  | 0 => 0
  | m + 1 => cnW w m + if m < l.length ∧ (nth l m).Tower = id ∧ 0 ≤ (nth works m).Start ∧ (nth works m).End ≤ 1048576 ∧ (nth works m).Start ≤ w ∧ w < (nth works m).End then 1 else 0
theorem zey (w : Int) : ∀ m, 0 ≤ cnW l works id w m ∧ cnW l works id w m ≤ (m : Int)
  | 0 => ⟨Int.le_refl _, Int.le_refl _⟩
  | m + 1 => by
    have := zey w m; rw [cnW]
    split <;> omega
theorem zcW (w : Int) : ∀ m, sumF (upTo w) (allT l works id m) = cnW l works id w m ∧ sumF Gstep.change (allT l works id m) = 0
  | 0 => ⟨rfl, rfl⟩
  | m + 1 => by
    obtain ⟨h1, h2⟩ := zcW w m; rw [allT, zaI, zaI, h1, h2, cnW]; unfold stT; by_cases hc : m < l.length ∧ (nth l m).Tower = id ∧ 0 ≤ (nth works m).Start ∧ (nth works m).End ≤ 1048576 ∧ (nth works m).Start < (nth works m).End
    · rw [if_pos hc]; refine ⟨?_, by show 0 + (1 + (-1 + 0)) = (0 : Int); rfl⟩
      show _ + ((if (nth works m).Start ≤ w then (1 : Int) else 0) + ((if (nth works m).End ≤ w then (-1 : Int) else 0) + 0)) = _
      by_cases e1 : (nth works m).Start ≤ w
      · rw [if_pos e1]; by_cases e2 : (nth works m).End ≤ w
        · rw [if_pos e2, if_neg (by omega)]; rfl
        · rw [if_neg e2, if_pos ⟨hc.1, hc.2.1, hc.2.2.1, hc.2.2.2.1, e1, by omega⟩]; rfl
      · rw [if_neg e1, if_neg (by omega), if_neg (by omega)]; rfl
    · rw [if_neg hc, if_neg (fun h => hc ⟨h.1, h.2.1, h.2.2.1, h.2.2.2.1, by omega⟩)]; exact ⟨rfl, rfl⟩
theorem zfA (hw : works.length ≤ 12) : zao l works id = some (pdL (allT l works id works.length)) := by
  unfold zao; simp only [zbh]; refine zbr (n := works.length) (fun i (s : List Gstep) => s = allT l works id i) (fun x => x = some (pdL (allT l works id works.length))) rfl (fun s hs => ?_) (fun i s next hi hs hn => ?_)
  · subst hs; have hlen := zbX l works id works.length; have hok : ∀ s ∈ allT l works id works.length, okW s := zc0 l works id (fun i _ s hs => (zfc l works id i s hs).1) _ (Nat.le_refl _)
    show (zbY (allT l works id works.length)).bind _ = _
    unfold zbY; rw [zaB ⟨by omega, hok⟩]; rfl
  · subst hs; have hlen := zbX l works id i; by_cases hc : i < l.length ∧ (nth l i).Tower = id ∧ 0 ≤ (nth works i).Start ∧ (nth works i).End ≤ 1048576 ∧ (nth works i).Start < (nth works i).End
    · obtain ⟨c0, c1, c2, c3, c4⟩ := hc; rw [decide_eq_false (show ¬ (l.length : Int) ≤ (i : Int) by omega), decide_eq_false (show ¬ ¬ (nth l i).Tower = id by simp [c1]), decide_eq_false (show ¬ (nth works i).Start < 0 by omega), decide_eq_false (show ¬ 1048576 < (nth works i).End by omega), decide_eq_false (show ¬ (nth works i).End ≤ (nth works i).Start by omega), show ((((false || false) || false) || false) || false) = false from rfl, cond_false, zaB (by unfold room; rw [List.length_append]; show (_ + 2) * 16 ≤ _; omega)]; refine hn _ ?_; rw [allT, stT, if_pos ⟨c0, c1, c2, c3, c4⟩]
    · have e : (((((decide ((l.length : Int) ≤ (i : Int))) || (decide (¬ (nth l i).Tower = id))) || (decide ((nth works i).Start < 0))) || (decide (1048576 < (nth works i).End))) || (decide ((nth works i).End ≤ (nth works i).Start))) = true := by
        simp only [Bool.or_eq_true, decide_eq_true_eq]; by_cases a : (nth l i).Tower = id
        · by_cases b : i < l.length
          · have := fun q => hc ⟨b, a, q⟩; omega
          · omega
        · exact .inl (.inl (.inl (.inr a)))
      rw [e, cond_true]; refine hn _ ?_; rw [allT, stT, if_neg hc, List.append_nil]
theorem zed {ρ : Type} {F : Nat} (hF : 100 < F) (hw : works.length ≤ 12) (w : Int) (k10 : Int → Option ρ) :
    zaH (fun (next13 : (Int × Int) → Option ρ) (s13 : Int × Int) =>
          (bif ((decide (s13.2 < (l.length : Int))) && (decide (s13.2 < (works.length : Int)))) then
            grd (0 ≤ s13.2 ∧ s13.2 < (works.length : Int)) <|
            (bif (((((decide ((nth l s13.2.toNat).Tower = id)) && (decide (0 ≤ (nth works s13.2.toNat).Start))) && (decide ((nth works s13.2.toNat).End ≤ 1048576))) && (decide ((nth works s13.2.toNat).Start ≤ w))) && (decide (w < (nth works s13.2.toNat).End))) then
              next13 (wI (s13.1 + 1), (s13.2 + 1))
              else
              next13 (s13.1, (s13.2 + 1)))
            else
            k10 s13.1)) F (0, 0) = k10 (cnW l works id w works.length) := by
  have hrest : ∀ i, l.length ≤ i → ∀ m, cnW l works id w (i + m) = cnW l works id w i := fun i hi m => by
    induction m with
    | zero => rfl
    | succ m ih => rw [← Nat.add_assoc, cnW, ih, if_neg (by omega), Int.add_zero]
  refine zbK (fun (s : Int × Int) => 0 ≤ s.2 ∧ s.2 ≤ (works.length : Int) ∧ s.1 = cnW l works id w s.2.toNat) (fun s => ((works.length : Int) - s.2).toNat) (fun x => x = k10 (cnW l works id w works.length)) ⟨Int.le_refl _, by show (0 : Int) ≤ _; omega, rfl⟩ (by show ((works.length : Int) - 0).toNat < F; omega) (fun s next hI hn => ?_); obtain ⟨n, i⟩ := s; obtain ⟨i1, i2, i3⟩ := hI; dsimp only at *; have hb := zey l works id w i.toNat; by_cases c1 : i < (l.length : Int) ∧ i < (works.length : Int)
  · rw [decide_eq_true c1.1, decide_eq_true c1.2, Bool.and_self, cond_true, zaB ⟨i1, c1.2⟩]; (have e3 : (i + 1).toNat = i.toNat + 1 := by omega); by_cases hc : (nth l i.toNat).Tower = id ∧ 0 ≤ (nth works i.toNat).Start ∧ (nth works i.toNat).End ≤ 1048576 ∧ (nth works i.toNat).Start ≤ w ∧ w < (nth works i.toNat).End
    · obtain ⟨d1, d2, d3, d4, d5⟩ := hc; rw [decide_eq_true d1, decide_eq_true d2, decide_eq_true d3, decide_eq_true d4, decide_eq_true d5, show ((((true && true) && true) && true) && true) = true from rfl, cond_true, zfE (by omega)]; refine hn _ ⟨by show 0 ≤ i + 1; omega, by show i + 1 ≤ _; omega, ?_⟩ (by show ((works.length : Int) - (i + 1)).toNat < ((works.length : Int) - i).toNat; omega)
      show n + 1 = cnW l works id w (i + 1).toNat
      rw [e3, cnW, if_pos ⟨by omega, d1, d2, d3, d4, d5⟩, i3]
    · have e : (((((decide ((nth l i.toNat).Tower = id)) && (decide (0 ≤ (nth works i.toNat).Start))) && (decide ((nth works i.toNat).End ≤ 1048576))) && (decide ((nth works i.toNat).Start ≤ w))) && (decide (w < (nth works i.toNat).End))) = false := by
        rw [← Bool.not_eq_true]; simp only [Bool.and_eq_true, decide_eq_true_eq]; rintro ⟨⟨⟨⟨d1, d2⟩, d3⟩, d4⟩, d5⟩; exact hc ⟨d1, d2, d3, d4, d5⟩
      rw [e, cond_false]; refine hn _ ⟨by show 0 ≤ i + 1; omega, by show i + 1 ≤ _; omega, ?_⟩ (by show ((works.length : Int) - (i + 1)).toNat < ((works.length : Int) - i).toNat; omega)
      show n = cnW l works id w (i + 1).toNat
      rw [e3, cnW, if_neg (fun h => hc h.2), Int.add_zero, i3]
  · have e : (decide (i < (l.length : Int)) && decide (i < (works.length : Int))) = false := by
      rw [← Bool.not_eq_true]; simp only [Bool.and_eq_true, decide_eq_true_eq]; exact c1
    rw [e, cond_false, i3]; by_cases hi : i = (works.length : Int)
    · rw [hi]; rfl
    · rw [show works.length = i.toNat + (works.length - i.toNat) by omega, hrest i.toNat (by omega)]
theorem zeD (N : Int → Int) (a : Int) (n : Nat) : segI N a (n + 1) = segI N a n ++ hW N (a + (n : Int)) := by
  rw [zbv]
  show _ ++ (hW N _ ++ []) = _
  rw [List.append_nil]
theorem zcS (N : Int → Int) : ∀ (n : Nat) (a : Int), (segI N a n).length ≤ n
  | 0, _ => Nat.le_refl _
  | n + 1, a => by
    have := zcS N n (a + 1); rw [segI, List.length_append]; unfold hW
    cases decide (N a = 0)
    · show 1 + _ ≤ _; omega
    · show 0 + _ ≤ _; omega
theorem zel {F n : Nat} (hn2 : n = 200) (hF : 100 < F) (hw : works.length ≤ 12) : zaC F l works id 200 = some ((segI (fun w => cnW l works id w works.length) 0 n).map (·.1), (segI (fun w => cnW l works id w works.length) 0 n).map (·.2)) := by
  unfold zaC; rw [show ((200 : Int).toNat - 0) = n from hn2.symm]; simp only [zbh]; rw [zaB (by decide)]; refine zbr (n := n) (fun i (s : List Int × List Int) => s = ((segI (fun w => cnW l works id w works.length) 0 i).map (·.1), (segI (fun w => cnW l works id w works.length) 0 i).map (·.2))) (fun x => x = some ((segI (fun w => cnW l works id w works.length) 0 n).map (·.1), (segI (fun w => cnW l works id w works.length) 0 n).map (·.2))) rfl (fun s hs => by rw [hs]) (fun i s next hi hs hn => ?_); subst hs; (try dsimp only); have hb := zey l works id (i : Int) works.length; have hsl := zcS (fun w => cnW l works id w works.length) i 0; have hsn := zeD (fun w => cnW l works id w works.length) 0 i; rw [Int.zero_add] at hsn; generalize segI (fun w => cnW l works id w works.length) 0 n = R at *; generalize segI (fun w => cnW l works id w works.length) 0 (i + 1) = A' at *; generalize segI (fun w => cnW l works id w works.length) 0 i = A at *
  refine Eq.trans (zed l works id hF hw (i : Int) (fun n_9 => (bif decide (0 < n_9) then
          grd (room ((A.map fun x => x.1) ++ [(i : Int)]).length 8) <|
          grd (room ((A.map fun x => x.2) ++ [n_9]).length 8) <|
          next (((A.map fun x => x.1) ++ [(i : Int)]), ((A.map fun x => x.2) ++ [n_9]))
          else
          next (A.map fun x => x.1, A.map fun x => x.2)))) ?_
  by_cases hc : 0 < cnW l works id (i : Int) works.length
  · rw [decide_eq_true hc, cond_true, zaB (by unfold room; rw [List.length_append, List.length_map]; show (_ + 1) * 8 ≤ _; omega), zaB (by unfold room; rw [List.length_append, List.length_map]; show (_ + 1) * 8 ≤ _; omega)]; refine hn _ ?_; rw [hsn, hW, decide_eq_false (by omega), cond_false, List.map_append, List.map_append]; rfl
  · rw [decide_eq_false hc, cond_false]; refine hn _ ?_; rw [hsn, hW, decide_eq_true (by omega), cond_true, List.append_nil]
end
theorem zfa {D : List Gstep} {A : List (Int × Int)} (hok : zcd D) (hA : zaE 0 D = A) (hl : A.length ≤ 200) (many : Int) : zai D (A.map (·.1)) (A.map (·.2)) many = some true := by
  unfold zai; rw [zaB hok, hA]; simp only [zbh]; refine zbr (n := A.length) (fun i (s : Bool × Int) => s.1 = false ∧ s.2 = (i : Int) ∧ (i = 0 ∨ (i : Int) < many)) (fun x => x = some true) ⟨rfl, rfl, .inl rfl⟩ (fun s hI => ?_) (fun i s next hi hI hn => ?_)
  · obtain ⟨h1, h2, h3⟩ := hI; rw [h2, List.length_map, decide_eq_true (by omega)]
  · obtain ⟨h1, h2, h3⟩ := hI; obtain ⟨b, k⟩ := s; dsimp only at h1 h2 ⊢; subst h1 h2; rw [List.length_map, List.length_map, decide_eq_false (show ¬ (A.length : Int) ≤ (i : Int) by omega), cond_false, zaB (by omega), show (i : Int).toNat = i by omega, zbU hi, zbU hi, decide_eq_false (by simp), cond_false, zaB (by omega), decide_eq_false (by simp), cond_false, zfE (by omega)]; by_cases hm : many ≤ (i : Int) + 1
    · rw [decide_eq_true hm, cond_true, decide_eq_true (by omega)]
    · rw [decide_eq_false hm, cond_false]; exact hn _ ⟨rfl, by show (i : Int) + 1 = ((i + 1 : Nat) : Int); omega, .inr (by omega)⟩
theorem zdD {F : Nat} (hF : 100 < F) (l : List GMove) (works : List GWork) (id many : Int) : zan F l works id many = some true := by
  unfold zan
  cases hc : ((decide (12 < (l.length : Int))) || (decide (12 < (works.length : Int)))) with
  | true => rw [cond_true]
  | false =>
    rw [Bool.or_eq_false_iff, decide_eq_false_iff_not, decide_eq_false_iff_not] at hc; (have hw : works.length ≤ 12 := by omega); obtain ⟨n, hn2⟩ : ∃ n : Nat, n = 200 := ⟨_, rfl⟩; rw [cond_false]; simp only [zbh]; refine zbr (n := works.length) (fun i _ => ∀ j, j < i → (200 < (nth works j).End → 1048576 < (nth works j).End)) (fun x => x = some true) (fun j hj => absurd hj (Nat.not_lt_zero j)) (fun _ hI => ?_) (fun i _ next hi hI hn => ?_)
    · rw [List.nil_append, List.nil_append, zaB (by unfold room; omega), zaB (by unfold room; omega), zfA l works id hw, Option.bind_some, zel l works id hn2 hF hw]
      have hmem : ∀ s ∈ allT l works id works.length, (okW s ∧ -1 ≤ s.change ∧ s.change ≤ 1) ∧ s.week ≤ 200 := zc0 l works id (fun i hi s hs => by
        have := zfc l works id i s hs
        exact ⟨⟨this.1, this.2.1, this.2.2.1⟩, this.2.2.2 (hI i hi)⟩) _ (Nat.le_refl _)
      have hperm := zdS (l := allT l works id works.length) fun s hs => (hmem s hs).1.1; have hsrt := zd4 (allT l works id works.length); have hlen := zbX l works id works.length; have hplen := hperm.length_eq; have hmemD : ∀ s ∈ pdL (allT l works id works.length), (okW s ∧ -1 ≤ s.change ∧ s.change ≤ 1) ∧ s.week ≤ 200 := fun s hs => hmem s (hperm.mem_iff.1 hs)
      have hN : (fun w => sumF (upTo w) (pdL (allT l works id works.length))) = fun w => cnW l works id w works.length := by
        funext w
        rw [zc9 _ hperm, (zcW l works id w works.length).1]
      have hall := ze6 hn2 hsrt (fun s hs => ⟨(hmemD s hs).1.1.1, (hmemD s hs).2⟩) (by rw [zc9 _ hperm]; exact (zcW l works id 0 works.length).2); rw [hN] at hall; have hsl := zcS (fun w => cnW l works id w works.length) n 0
      have hok : zcd (pdL (allT l works id works.length)) := by
        refine ⟨by omega, fun k hk => ?_, fun k hk => ?_⟩
        · have := hmemD (nth (pdL (allT l works id works.length)) k) (by rw [zab hk]; exact List.getElem_mem _); exact ⟨this.1.1.1, this.2, this.1.2.1, this.1.2.2⟩
        · (have h1 : k + 1 < (pdL (allT l works id works.length)).length := by omega); have := List.pairwise_iff_getElem.1 hsrt k (k + 1) (by omega) h1 (by omega); rw [zab (by omega), zab h1]; exact this
      generalize pdL (allT l works id works.length) = D at *; (have hsl : (segI (fun w => cnW l works id w works.length) 0 n).length ≤ 200 := by omega); generalize segI (fun w => cnW l works id w works.length) 0 n = A at *; have o1 := zfa hok hall hsl many; have o2 := zfa hok hall hsl 1000; refine zbK (fun (s : Int × List GMove) => 0 ≤ s.1 ∧ s.1 ≤ (s.2.length : Int) ∧ s.2.length ≤ 12) (fun s => ((s.2.length : Int) - s.1).toNat) (fun x => x = some true) ⟨Int.le_refl _, by show (0 : Int) ≤ (l.length : Int); omega, by show l.length ≤ 12; omega⟩ (by show ((l.length : Int) - 0).toNat < F; omega) (fun s next hJ hnx => ?_); obtain ⟨i, m⟩ := s; obtain ⟨j1, j2, j3⟩ := hJ; dsimp only at *; by_cases hi : i < (m.length : Int)
      · rw [decide_eq_true hi, cond_true, zaB ⟨j1, hi⟩]; refine hnx _ ⟨by show 0 ≤ i + 1; omega, by show i + 1 ≤ _; rw [List.length_set]; omega, by rw [List.length_set]; exact j3⟩ ?_
        show (_ - (i + 1)).toNat < _
        rw [List.length_set]; omega
      · rw [decide_eq_false hi, cond_false]; refine zbK (fun (s : Int × List GWork) => 0 ≤ s.1 ∧ s.1 ≤ (s.2.length : Int) ∧ s.2.length ≤ 12) (fun s => ((s.2.length : Int) - s.1).toNat) (fun x => x = some true) ⟨Int.le_refl _, by show (0 : Int) ≤ (works.length : Int); omega, by show works.length ≤ 12; omega⟩ (by show ((works.length : Int) - 0).toNat < F; omega) (fun s next hJ hnx => ?_); obtain ⟨i, m⟩ := s; obtain ⟨j1, j2, j3⟩ := hJ; dsimp only at *; by_cases hi : i < (m.length : Int)
        · rw [decide_eq_true hi, cond_true, zaB ⟨j1, hi⟩]; refine hnx _ ⟨by show 0 ≤ i + 1; omega, by show i + 1 ≤ _; rw [List.length_set]; omega, by rw [List.length_set]; exact j3⟩ ?_
          show (_ - (i + 1)).toNat < _
          rw [List.length_set]; omega
        · rw [decide_eq_false hi, cond_false, Option.bind_some, o1, Option.bind_some, cond_true, o2, Option.bind_some, cond_true]
    · by_cases hcc : 200 < (nth works i).End ∧ (nth works i).End ≤ 1048576
      · rw [decide_eq_true hcc.1, decide_eq_true hcc.2, Bool.and_self, cond_true]
      · have e : ((decide (200 < (nth works i).End)) && (decide ((nth works i).End ≤ 1048576))) = false := by
          rw [← Bool.not_eq_true]; simp only [Bool.and_eq_true, decide_eq_true_eq]; exact hcc
        rw [e, cond_false]; refine hn () fun j hj => ?_; by_cases ej : j = i
        · subst ej; omega
        · exact hI j (by omega)
end Go.Proofs.Ytlfalfmebomfbaa
namespace Go.Proofs.Ytlfalfmebomfbaa
open Go.RowKit Go.ChangeShapes Go.WideShapes Go.Deep
def Opens {H : Type} (enc : TypeId × Value → H) (w : World) (base : Nat) (spare : Nat → Bool) (held : Bool) (t : TypeId) {α : Type} (R : List Value → α → Prop) : Prop :=
  ∀ fuel cs y, DataW.trod enc Try.prog w base spare held fuel t cs = some y → ∃ x, R cs x
section
variable {H : Type} {enc : TypeId × Value → H} {w : World} {base : Nat} {spare : Nat → Bool} {held : Bool}
theorem Opens.int {t : TypeId} (ht : Try.prog.underlying t = some (.int .i64)) : Opens enc w base spare held t (fun cs (x : Int) => cs = [.int .i64 x]) := fun fuel cs y h => by
  obtain ⟨k, hk, _⟩ := DataW.trod_int ht h; exact ⟨k, hk⟩
theorem zfl {a : Addr} {v : Value} (h : w.cell? a = some v) : Cb w a.block := by
  unfold World.cell? at h
  split at h
  all_goals (first | exact ⟨_, _, _, by assumption⟩ | simp at h | skip)
theorem Opens.any {t e : TypeId} {k : Nat} {α : Type} [Inhabited α] {R : List Value → α → Prop} (ht : Try.prog.underlying t = some (.slice e)) (hk : Try.prog.cellsOf e = k) (hpos : 0 < k) (ho : Opens enc w base spare held e R) :
    Opens enc w base spare held t (fun cs (l : List α) => ∃ v c, cs = [v] ∧ SlC (Frz.all w) v k c ∧ c.length = l.length ∧ ∀ i, i < l.length → R (nth c i) (nth l i)) := fun fuel cs y h => by
  rcases open_slice ht h with ⟨h0, _⟩ | ⟨a, len, cap, m, n, D, Pl, hcs, hb, hl, hm, hmm, _, hx⟩
  · exact ⟨[], _, [], h0, SlC.nil _ _, rfl, fun i hi => absurd hi (Nat.not_lt_zero i)⟩
  · subst hcs; (have hlm : len ≤ m := by rw [hmm]; split <;> omega)
    have each : ∀ i, i < m → ∃ x : List Value × α, x.1.length = k ∧ R x.1 x.2 ∧ ∀ j, j < k → w.cell? (a.add (i * k + j)) = x.1[j]? := fun i hi => by
      obtain ⟨cs', h1, h2⟩ := hx i hi; rw [hk] at h1; obtain ⟨_, hlen, hcell⟩ := World.cells?_some h1; obtain ⟨x, hR⟩ := ho _ _ _ h2; exact ⟨(cs', x), hlen, hR, fun j hj => by rw [← hcell j hj, add_add]⟩
    obtain ⟨X, hX⟩ := choose_lt each
    have hn : ∀ i, i < len → nth ((List.range len).map fun i => (X i).1) i = (X i).1 := fun i hi => by
      rw [zab (by simpa using hi)]; simp
    have hn2 : ∀ i, i < len → nth ((List.range len).map fun i => (X i).2) i = (X i).2 := fun i hi => by
      rw [zab (by simpa using hi)]; simp
    refine ⟨(List.range len).map fun i => (X i).2, _, (List.range len).map fun i => (X i).1, rfl, ⟨some a, cap, by simp, by simpa using hl, by unfold maxLen at hm; omega, fun c hc => ?_, fun hp => ?_⟩, by simp, fun i hi => ?_⟩
    · simp at hc; obtain ⟨i, hi, rfl⟩ := hc; exact (hX i (by omega)).1
    · (have hp' : 0 < len := by simpa using hp); have c0 := (hX 0 (by omega)).2.2 0 hpos; have hx0 := (hX 0 (by omega)).1; rw [List.getElem?_eq_getElem (by omega)] at c0; have hcb := zfl c0; have hs := World.cell?_spot c0; simp [Addr.add] at hs hcb; obtain ⟨b, off, sp⟩ := a; simp at hs hcb; subst hs; refine ⟨b, off, rfl, hcb, fun i hi j hj => ?_⟩; simp at hi; rw [hn i hi] at hj ⊢; have hxi := hX i (by omega); have := hxi.2.2 j (by omega); refine Eq.trans ?_ this
      show w.cell? _ = _
      rw [zaV, Nat.add_assoc]
    · simp at hi; rw [hn i hi, hn2 i hi]; exact (hX i (by omega)).2.1
theorem Opens.slC {t e : TypeId} {k : Nat} {α : Type} [Inhabited α] {en : α → List Value} (ht : Try.prog.underlying t = some (.slice e)) (hk : Try.prog.cellsOf e = k) (hpos : 0 < k) (ho : Opens enc w base spare held e (fun cs (x : α) => cs = en x)) :
    Opens enc w base spare held t (fun cs (l : List α) => ∃ v, cs = [v] ∧ SlC (Frz.all w) v k (l.map en)) := fun fuel cs y h => by
  obtain ⟨l, v, c, h1, h2, h3, h4⟩ := Opens.any ht hk hpos ho _ _ _ h; refine ⟨l, v, h1, ?_⟩
  have : c = l.map en := by
    apply List.ext_getElem (by simpa using h3); intro i hi hi2; rw [← zab hi, h4 i (by omega), List.getElem_map, zab (by omega)]
  rw [← this]; exact h2
theorem Opens.bytes {t e : TypeId} (ht : Try.prog.underlying t = some (.slice e)) (he : Try.prog.underlying e = some (.int .u8)) (hk : Try.prog.cellsOf e = 1) :
    Opens enc w base spare held t (fun cs (l : List Int) => ∃ v, cs = [v] ∧ SlC (Frz.all w) v 1 (l.map (eK .u8)) ∧ ∀ x ∈ l, 0 ≤ x ∧ x ≤ 255) := fun fuel cs y h => by
  have ho : Opens enc w base spare held e (fun cs (x : Int) => cs = eK .u8 x ∧ (0 ≤ x ∧ x ≤ 255)) := fun fuel cs y h => by
    obtain ⟨k, h1, _, h2⟩ := DataW.trod_int he h; refine ⟨k, h1, ?_⟩; (have e1 : IntKind.u8.min = 0 := by decide); (have e2 : IntKind.u8.max = 255 := by decide); simp only [Lit.wf, e1, e2, Bool.and_eq_true, decide_eq_true_eq] at h2; exact h2
  obtain ⟨l, v, c, h1, h2, h3, h4⟩ := Opens.any ht hk (by decide) ho _ _ _ h; refine ⟨l, v, h1, ?_, fun x hx => ?_⟩
  · have : c = l.map (eK .u8) := by
      apply List.ext_getElem (by simpa using h3); intro i hi hi2; rw [← zab hi, (h4 i (by omega)).1, List.getElem_map, zab (by omega)]
    rw [← this]; exact h2
  · obtain ⟨i, hi, e⟩ := List.mem_iff_getElem.1 hx; have := (h4 i hi).2; rw [zab hi, e] at this; exact this
end
end Go.Proofs.Ytlfalfmebomfbaa
