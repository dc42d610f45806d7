/- Dd Ko De Of: shortened and put together by squeeze.py. -/
import Derived.Test.YtlaafmiejkebgaaQ07
import Derived.Deep.Slices
import Derived.ChangeArms
set_option maxRecDepth 100000
set_option maxHeartbeats 4000000
set_option linter.unusedVariables false
set_option linter.unusedSectionVars false
set_option linter.unusedSimpArgs false
namespace Go.Proofs.Ytlaafmiejkebgaa
open Go.RowKit
def csum (prices d : List Int) : Nat → Int
  | 0 => 0
  | i + 1 => csum prices d i + nth prices i * nth d i
theorem zeJ {prices d : List Int} {x : Int} {i : Nat} : ∀ (m : Nat), m ≤ i → csum prices (d.set i x) m = csum prices d m
  | 0, _ => rfl
  | m + 1, h => by rw [csum, csum, zeJ m (by omega), zcK (by omega)]
theorem zfL {a b : Int} (h1 : 0 ≤ a) (h2 : a ≤ 549755813888) (h3 : 0 ≤ b) (h4 : b ≤ 12) : 0 ≤ a * b ∧ a * b ≤ 6597069766656 := by
  have h5 := Int.mul_nonneg h1 h3; have h6 := Int.mul_le_mul h2 h4 h3 (by omega : (0 : Int) ≤ 549755813888); omega
theorem zd8 {prices d : List Int} {n : Nat} (hp : ∀ j, j < n → 0 ≤ nth prices j ∧ nth prices j ≤ 549755813888) (hd : ∀ j, j < n → 0 ≤ nth d j ∧ nth d j ≤ 12) : ∀ (m : Nat), m ≤ n → 0 ≤ csum prices d m ∧ csum prices d m ≤ (m : Int) * 6597069766656
  | 0, _ => ⟨Int.le_refl _, by simp [csum]⟩
  | m + 1, h => by
    have h1 := zd8 hp hd m (by omega); have h2 := hp m (by omega); have h3 := hd m (by omega); have h4 := zfL h2.1 h2.2 h3.1 h3.2; rw [csum]; generalize nth prices m * nth d m = z at *; omega
structure CntI (l : List GProduct) (i : Nat) (d : List Int) : Prop where
  len : d.length = l.length
  done : ∀ j, j < l.length → 0 ≤ nth d j ∧ nth d j ≤ 12 ∧ (j < i → nth d j ≤ (nth l j).Supply) ∧ (i ≤ j → nth d j = 0)
theorem ok12 {l : List GProduct} (h : ∀ j, j < l.length → okR (nth l j) = true) {j : Nat} (hj : j < l.length) : 1 ≤ (nth l j).Supply ∧ (nth l j).Supply ≤ 12 := by
  have := h j hj; rw [zcC] at this; omega
theorem zfX (p : GProduct) : ((((((((((decide (p.Area < 0)) || (decide (63 < p.Area))) || (decide (p.Category < 1))) || (decide (2 < p.Category))) || (decide (p.Supply < 1))) || (decide (12 < p.Supply))) || (decide (p.Units < 1))) || (decide (100000 < p.Units))) || (decide (p.Reserve < 0))) || (decide (549755813888 < p.Reserve))) = !okR p := by unfold okR; rw [Bool.not_not]
theorem zel {l : List GProduct} (h : zay l = true) : ∀ j, j < l.length → okR (nth l j) = true := by
  have key : ∀ m i, i + m = l.length → zai (fun (i_3 : Nat) (next2 : Unit → Bool) (_ : Unit) =>
      (bif ((((((((((decide ((nth l i_3).Area < 0)) || (decide (63 < (nth l i_3).Area))) || (decide ((nth l i_3).Category < 1))) || (decide (2 < (nth l i_3).Category))) || (decide ((nth l i_3).Supply < 1))) || (decide (12 < (nth l i_3).Supply))) || (decide ((nth l i_3).Units < 1))) || (decide (100000 < (nth l i_3).Units))) || (decide ((nth l i_3).Reserve < 0))) || (decide (549755813888 < (nth l i_3).Reserve))) then
        false
        else
        (bif decide (0 < (i_3 : Int)) then
          (bif ((decide ((nth l i_3).Area < (nth l (((i_3 : Int) - 1).toNat)).Area)) || ((decide ((nth l i_3).Area = (nth l (((i_3 : Int) - 1).toNat)).Area)) && ((decide ((nth l i_3).Category ≤ (nth l (((i_3 : Int) - 1).toNat)).Category)) || (decide (12 < wI (((nth l i_3).Supply) + ((nth l (((i_3 : Int) - 1).toNat)).Supply))))))) then
            false
            else
            next2 ())
          else
          next2 ()))) (fun _ => true) m i () = true → ∀ j, i ≤ j → j < l.length → okR (nth l j) = true := by
    intro m
    induction m with
    | zero => intro i hi _ j h1 h2; omega
    | succ m ih =>
      intro i hi h j h1 h2; rw [zcI] at h; (try dsimp only at h); rw [zfX] at h
      have e : okR (nth l i) = true := by
        cases hc : okR (nth l i) with
        | true => rfl
        | false => rw [hc] at h; cases h
      rw [e, Bool.not_true, cond_false] at h; have h9 := h; by_cases hj : j = i
      · subst hj; exact e
      · refine ih (i + 1) (by omega) ?_ j (by omega) h2; generalize zai _ _ m (i + 1) () = y at h9 ⊢
        revert h9
        cases decide (0 < (i : Int))
        · exact id
        · rw [cond_true]; generalize (_ || _ : Bool) = z
          cases z
          · exact id
          · intro h; cases h
  unfold zay at h; simp only [zax] at h; intro j hj; exact key (l.length - 0) 0 (by omega) h j (by omega) hj
theorem zf4 {l : List GProduct} {d : List Int} (h : DemOk l d) : zbb l d = true := by
  unfold zbb; rw [decide_eq_false (by have := h.len; omega), cond_false]; simp only [zax]
  rw [show d.length - 0 = d.length from rfl, zdx (fun _ => true) (fun i next hi => by
    have := h.bd i (by have := h.len; omega)
    rw [decide_eq_false (by omega), decide_eq_false (by omega)]; rfl)]
  simp
theorem zgi {l : List GProduct} {prices d : List Int} (hv : zay l = true) (hd : DemOk l d) (hpl : prices.length = l.length) (hn : l.length ≤ 100) (hp : ∀ j, j < l.length → 0 ≤ nth prices j ∧ nth prices j ≤ 549755813888) : zbE l prices d = some (csum prices d l.length, 0) := by
  unfold zbE zbu; rw [pvalid, Option.bind_some, hv, zf4 hd, Option.bind_some]; rw [show (!(true && true) || decide (¬ (prices.length : Int) = (l.length : Int))) = false by rw [hpl]; simp, cond_false]; simp only [zax]; have hl := hd.len; have hok := zel hv; (have h12 : ∀ j, j < l.length → 0 ≤ nth d j ∧ nth d j ≤ 12 := fun j hj => by have := hd.bd j hj; have := ok12 hok hj; omega)
  have key : ∀ m i, i + m = l.length → zai (fun (i_7 : Nat) (next6 : Int → Option (Int × Int)) (sum_5 : Int) =>
        (bif ((decide ((nth prices i_7) < 0)) || (decide (549755813888 < (nth prices i_7)))) then
          some (0, 2)
          else
          grd (0 ≤ (i_7 : Int) ∧ (i_7 : Int) < (d.length : Int)) <|
          next6 (wI (sum_5 + (wI ((nth prices i_7) * (nth d i_7))))))) (fun s => some (s, 0)) m i (csum prices d i) = some (csum prices d l.length, 0) := by
    intro m
    induction m with
    | zero => intro i hi; rw [show i = l.length by omega]; rfl
    | succ m ih =>
      intro i hi; have h1 := hp i (by omega); have h2 := h12 i (by omega); have h3 := zfL h1.1 h1.2 h2.1 h2.2; have h4 := zd8 hp h12 i (by omega); rw [zcI]; (try dsimp only); rw [decide_eq_false (by omega), decide_eq_false (by omega), Bool.or_self, cond_false, zbc (by omega)]; have h5 := ih (i + 1) (by omega); rw [csum] at h5; generalize nth prices i * nth d i = z at *; rw [zc8 (show -9223372036854775808 ≤ z ∧ z ≤ 9223372036854775807 by omega), zc8 (by omega)]; exact h5
  rw [hpl]; exact key (l.length - 0) 0 (by omega)
theorem CntI.next {l : List GProduct} {i : Nat} {d : List Int} (h : CntI l i d) (hs : i < l.length → 1 ≤ (nth l i).Supply) : CntI l (i + 1) d :=
  ⟨h.len, fun j hj => by
    have h1 := h.done j hj; refine ⟨h1.1, h1.2.1, fun h2 => ?_, fun h2 => h1.2.2.2 (by omega)⟩; by_cases e : j < i
    · exact h1.2.2.1 e
    · have := h1.2.2.2 (by omega); (have e2 : j = i := by omega); subst e2; have := hs hj
      omega⟩
theorem zfx {p : GBidderPlan} {l : List GProduct} {prices : List Int} {fuel : Nat} (hf : 10000 ≤ fuel) (hn : l.length ≤ 100) :
    (zaH fuel p l prices = some ([], 2) ∧ za3 fuel p l prices = some ([], 2)) ∨
    (PlanOk p l ∧ prices.length = l.length ∧ (∀ j, j < l.length → 0 ≤ nth prices j ∧ nth prices j ≤ 549755813888) ∧ ∃ d, CntI l l.length d ∧ DemOk l d ∧ zaH fuel p l prices = some (redL p.Budget prices l.length (csum prices d l.length) d, 0) ∧ za3 fuel p l prices = some (redL p.Budget prices l.length (csum prices d l.length) d, 0)) := by
  unfold zaH za3; rw [zc4, zd5]; obtain ⟨b, hb, hok⟩ := zcL p l; rw [hb, Option.bind_some, Option.bind_some]
  cases b with
  | false => exact .inl ⟨rfl, rfl⟩
  | true =>
    by_cases hpl : ¬ prices.length = l.length
    · rw [decide_eq_false (show ¬ (prices.length : Int) = (l.length : Int) by omega), decide_eq_true (show ¬ (prices.length : Int) = (l.length : Int) by omega)]; exact .inl ⟨rfl, rfl⟩
    have hpl := Decidable.not_not.1 hpl; rw [decide_eq_true (show (prices.length : Int) = (l.length : Int) by omega), decide_eq_false (show ¬ ¬ (prices.length : Int) = (l.length : Int) by omega)]
    cases hal : zaF prices 549755813888 with
    | false => exact .inl ⟨rfl, rfl⟩
    | true =>
      right; have hpl2 := hok rfl; have hp : ∀ j, j < l.length → 0 ≤ nth prices j ∧ nth prices j ≤ 549755813888 := fun j hj => all_iff.1 hal j (by omega); have hR := zel hpl2.prods; refine ⟨hpl2, hpl, hp, ?_⟩; rw [show (!true || !(true && true)) = false from rfl, cond_false, show (!true || false || !true) = false from rfl, cond_false]; unfold za5; rw [zbc (show room l.length 8 by unfold room; omega), zbc (show room l.length 8 by unfold room; omega)]; simp only [zax]
      let post : Option (List Int × Int) → Option (List Int × Int) → Prop := fun x y => ∃ d, CntI l l.length d ∧ DemOk l d ∧ (x.bind fun r21 => some (r21.1, r21.2)) = some (redL p.Budget prices l.length (csum prices d l.length) d, 0) ∧ y = some (redL p.Budget prices l.length (csum prices d l.length) d, 0)
      generalize hx : zai _ _ (l.length - 0) 0 (List.replicate l.length (0 : Int)) = x; generalize hy : zai _ _ (l.length - 0) 0 ((0 : Int), List.replicate l.length (0 : Int)) = y
      show post x y
      rw [← hx, ← hy]; refine zcd (n := l.length) (fun i (d : List Int) (s : Int × List Int) => s.2 = d ∧ s.1 = csum prices d i ∧ CntI l i d) post ?_ (fun d s hR2 => ?_) (fun i d s next next' hi hR2 hnx => ?_)
      · refine ⟨rfl, rfl, List.length_replicate, fun j hj => ?_⟩; (have e : nth (List.replicate l.length (0 : Int)) j = 0 := by rw [za6 (by simpa using hj)]; simp); have := ok12 hR hj; rw [e]; omega
      · obtain ⟨h1, h2, h3⟩ := hR2; obtain ⟨c, d'⟩ := s; dsimp only at h1 h2; subst h1 h2; have hd : DemOk l d' := ⟨h3.len, fun j hj => by have := h3.done j hj; exact ⟨this.1, this.2.2.1 (by omega)⟩⟩; (have h12 : ∀ j, j < l.length → 0 ≤ nth d' j ∧ nth d' j ≤ 12 := fun j hj => by have := h3.done j hj; omega); have hcb := zd8 hp h12 l.length (Nat.le_refl _); refine ⟨d', h3, hd, ?_, ?_⟩
        · rw [zgi hpl2.prods hd hpl hn hp, Option.bind_some, decide_eq_false (by simp), cond_false]; (try dsimp only)
          have hpr := zd3 (ρ := List Int × Int) hpl2.budget.1 hpl hp (fun j hj => (ok12 hR hj).2) (fun l_16 => some (l_16, 0)) fuel l.length (csum prices d' l.length) d' (Nat.le_refl _) (by omega) hd (by
            have ht : ∀ m, m ≤ l.length → totL d' m ≤ m * 12 := by
              intro m
              induction m with
              | zero => intro _; exact Nat.le_refl _
              | succ m ih =>
                intro hm; have := ih (by omega); have := h12 m (by omega); rw [totL]; omega
            have := ht l.length (Nat.le_refl _)
            omega) (by omega) (by omega)
          rw [hpr]
          rfl
        · obtain ⟨c', hc⟩ := zfj hpl2.budget.1 hp (fun j hj => (ok12 hR hj).2) (show 12 < fuel by omega) (fun (s25 : Int × List Int) => some (s25.2, (0 : Int))) l.length (csum prices d' l.length) d' (Nat.le_refl _) hd (by omega) (by omega); exact hc
      · obtain ⟨h1, h2, h3⟩ := hR2; obtain ⟨c, d'⟩ := s; dsimp only at h1 h2; subst h1 h2; (try dsimp only); have hvl := hpl2.len; have hpi := hp i hi; rw [zbc (by omega), zbc (by omega)]; have hcs := ok12 hR hi; refine zcd (n := (nth p.Values i).length) (fun _ (d : List Int) (s : Int × List Int) => s.2 = d ∧ s.1 = csum prices d (i + 1) ∧ CntI l (i + 1) d) post ?_ (fun d s hR2 => ?_) (fun k d s next next' hk hR2 hnx => ?_)
        · refine ⟨rfl, ?_, h3.next fun _ => hcs.1⟩
          show csum prices d' i = csum prices d' i + nth prices i * nth d' i
          rw [(h3.done i hi).2.2.2 (Nat.le_refl _), Int.mul_zero, Int.add_zero]
        · obtain ⟨h1, h2, h4⟩ := hR2; exact hnx d (s.1, s.2) ⟨h1, h2, h4⟩
        · obtain ⟨h1, h2, h4⟩ := hR2; obtain ⟨c, d'⟩ := s; dsimp only at h1 h2; subst h1 h2; (try dsimp only); have hl4 := h4.len; rw [zbc (by omega)]; by_cases hv : nth prices i ≤ nth (nth p.Values i) k
          · rw [decide_eq_true hv, cond_true, cond_true, zbc (by omega), zbc (by omega)]; by_cases hs : nth d' i < (nth l i).Supply
            · rw [decide_eq_true hs, cond_true, cond_true, zbc (by omega), zbc (by omega)]; have hdi := h4.done i hi; (have h12 : ∀ j, j < l.length → 0 ≤ nth d' j ∧ nth d' j ≤ 12 := fun j hj => by have := h4.done j hj; omega); have hcb := zd8 hp h12 (i + 1) (by omega); rw [zc8 (show -9223372036854775808 ≤ nth d' i + 1 ∧ nth d' i + 1 ≤ 9223372036854775807 by omega), zc8 (by omega)]; refine hnx _ _ ⟨rfl, ?_, ?_⟩
              · show csum prices d' (i + 1) + nth prices i = csum prices (d'.set i (nth d' i + 1)) (i + 1)
                rw [csum, csum, zeJ i (Nat.le_refl _), zbB (by omega), Int.mul_add, Int.mul_one, Int.add_assoc]
              · refine ⟨by rw [List.length_set]; exact h4.len, fun j hj => ?_⟩; by_cases e : j = i
                · subst e; rw [zbB (by omega)]; omega
                · rw [zcK e]; exact h4.done j hj
            · rw [decide_eq_false hs, cond_false, cond_false]
              first | rw [zbc (by omega)] | skip
              exact hnx d' (csum prices d' (i + 1), d') ⟨rfl, rfl, h4⟩
          · rw [decide_eq_false hv, cond_false, cond_false, cond_false, cond_false]; exact hnx d' (csum prices d' (i + 1), d') ⟨rfl, rfl, h4⟩
theorem zfb (n : Nat) : zbn (n + 100000) = some true := by kernel_rfl
theorem zfa {fuel : Nat} (hf : 100000 ≤ fuel) : zbn fuel = some true := by
  obtain ⟨n, rfl⟩ : ∃ n, fuel = n + 100000 := ⟨fuel - 100000, by omega⟩; exact zfb n
theorem zfT {p : GBidderPlan} {l : List GProduct} (h : zbl p l = true) : p.Values.length ≤ 8 ∧ l.length ≤ 8 := by
  unfold zbl at h; simp only [zax] at h
  have key : ∀ m i, zai (fun (i_3 : Nat) (next2 : Unit → Bool) (_ : Unit) => (bif decide (16 < ((nth p.Values i_3).length : Int)) then false else next2 ())) (fun _ => ((decide ((p.Values.length : Int) ≤ 8)) && (decide ((l.length : Int) ≤ 8)))) m i () = true → p.Values.length ≤ 8 ∧ l.length ≤ 8 := by
    intro m
    induction m with
    | zero => intro i h; have h2 : ((decide ((p.Values.length : Int) ≤ 8)) && (decide ((l.length : Int) ≤ 8))) = true := h; simp only [Bool.and_eq_true, decide_eq_true_eq] at h2; omega
    | succ m ih =>
      intro i h; rw [zcI] at h; (try dsimp only at h)
      cases hc : decide (16 < ((nth p.Values i).length : Int)) with
      | true => rw [hc] at h; cases h
      | false => rw [hc] at h; exact ih (i + 1) h
  exact key _ _ h
theorem ze9 (a : List Int) : zaJ a a = true := by
  unfold zaJ; rw [decide_eq_false (by simp), cond_false]; simp only [zax]
  rw [show a.length - 0 = a.length from rfl, zdx (fun _ => true) (fun i next hi => by
    rw [decide_eq_false (by simp)]; rfl)]
  simp
theorem zdK {fuel : Nat} (hf : 100000 ≤ fuel) (p : GBidderPlan) (l : List GProduct) (prices : List Int) : zaY fuel p l prices = some true := by
  have hk := zfa hf; unfold zaY
  cases hc : ((!(zbl p l)) || (decide (10 < (prices.length : Int)))) with
  | true => rw [cond_true, hk]; rfl
  | false =>
    simp only [Bool.or_eq_false_iff, Bool.not_eq_false'] at hc; have hl := zfT hc.1; rw [cond_false]
    have hd : ∃ q, zaH fuel p l prices = some q ∧ za3 fuel p l prices = some q := by
      rcases zfx (p := p) (prices := prices) (show 10000 ≤ fuel by omega) (show l.length ≤ 100 by omega) with ⟨h1, h2⟩ | ⟨_, _, _, d, _, _, h1, h2⟩
      · exact ⟨_, h1, h2⟩
      · exact ⟨_, h1, h2⟩
    obtain ⟨q, h1, h2⟩ := hd; obtain ⟨b, hb, _⟩ := zcL p l; rw [h1, h2, zc4, hb, Option.bind_some, Option.bind_some, Option.bind_some, Option.bind_some]; simp only [zax]; rw [beq_self_eq_true, cond_true, ze9, cond_true]; simp [hk]
end Go.Proofs.Ytlaafmiejkebgaa
namespace Go.Proofs.Ytlaafmiejkebgaa
open Go.RowKit Go.ChangeShapes Go.WideShapes Go.Deep
def Opens {H : Type} (enc : TypeId × Value → H) (w : World) (base : Nat) (spare : Nat → Bool) (held : Bool) (t : TypeId) {α : Type} (R : List Value → α → Prop) : Prop :=
  ∀ fuel cs y, DataW.trod enc Try.prog w base spare held fuel t cs = some y → ∃ x, R cs x
section
variable {H : Type} {enc : TypeId × Value → H} {w : World} {base : Nat} {spare : Nat → Bool} {held : Bool}
theorem Opens.int {t : TypeId} (ht : Try.prog.underlying t = some (.int .i64)) : Opens enc w base spare held t (fun cs (x : Int) => cs = [.int .i64 x]) := fun fuel cs y h => by
  obtain ⟨k, hk, _⟩ := DataW.trod_int ht h; exact ⟨k, hk⟩
theorem zf1 {a : Addr} {v : Value} (h : w.cell? a = some v) : Cb w a.block := by
  unfold World.cell? at h
  split at h
  all_goals (first | exact ⟨_, _, _, by assumption⟩ | simp at h | skip)
theorem Opens.any {t e : TypeId} {k : Nat} {α : Type} [Inhabited α] {R : List Value → α → Prop} (ht : Try.prog.underlying t = some (.slice e)) (hk : Try.prog.cellsOf e = k) (hpos : 0 < k) (ho : Opens enc w base spare held e R) :
    Opens enc w base spare held t (fun cs (l : List α) => ∃ v c, cs = [v] ∧ SlC (Frz.all w) v k c ∧ c.length = l.length ∧ ∀ i, i < l.length → R (nth c i) (nth l i)) := fun fuel cs y h => by
  rcases open_slice ht h with ⟨h0, _⟩ | ⟨a, len, cap, m, n, D, Pl, hcs, hb, hl, hm, hmm, _, hx⟩
  · exact ⟨[], _, [], h0, SlC.nil _ _, rfl, fun i hi => absurd hi (Nat.not_lt_zero i)⟩
  · subst hcs; (have hlm : len ≤ m := by rw [hmm]; split <;> omega)
    have each : ∀ i, i < m → ∃ x : List Value × α, x.1.length = k ∧ R x.1 x.2 ∧ ∀ j, j < k → w.cell? (a.add (i * k + j)) = x.1[j]? := fun i hi => by
      obtain ⟨cs', h1, h2⟩ := hx i hi; rw [hk] at h1; obtain ⟨_, hlen, hcell⟩ := World.cells?_some h1; obtain ⟨x, hR⟩ := ho _ _ _ h2; exact ⟨(cs', x), hlen, hR, fun j hj => by rw [← hcell j hj, add_add]⟩
    obtain ⟨X, hX⟩ := choose_lt each
    have hn : ∀ i, i < len → nth ((List.range len).map fun i => (X i).1) i = (X i).1 := fun i hi => by
      rw [za6 (by simpa using hi)]; simp
    have hn2 : ∀ i, i < len → nth ((List.range len).map fun i => (X i).2) i = (X i).2 := fun i hi => by
      rw [za6 (by simpa using hi)]; simp
    refine ⟨(List.range len).map fun i => (X i).2, _, (List.range len).map fun i => (X i).1, rfl, ⟨some a, cap, by simp, by simpa using hl, by unfold maxLen at hm; omega, fun c hc => ?_, fun hp => ?_⟩, by simp, fun i hi => ?_⟩
    · simp at hc; obtain ⟨i, hi, rfl⟩ := hc; exact (hX i (by omega)).1
    · (have hp' : 0 < len := by simpa using hp); have c0 := (hX 0 (by omega)).2.2 0 hpos; have hx0 := (hX 0 (by omega)).1; rw [List.getElem?_eq_getElem (by omega)] at c0; have hcb := zf1 c0; have hs := World.cell?_spot c0; simp [Addr.add] at hs hcb; obtain ⟨b, off, sp⟩ := a; simp at hs hcb; subst hs; refine ⟨b, off, rfl, hcb, fun i hi j hj => ?_⟩; simp at hi; rw [hn i hi] at hj ⊢; have hxi := hX i (by omega); have := hxi.2.2 j (by omega); refine Eq.trans ?_ this
      show w.cell? _ = _
      rw [zcp, Nat.add_assoc]
    · simp at hi; rw [hn i hi, hn2 i hi]; exact (hX i (by omega)).2.1
theorem Opens.slC {t e : TypeId} {k : Nat} {α : Type} [Inhabited α] {en : α → List Value} (ht : Try.prog.underlying t = some (.slice e)) (hk : Try.prog.cellsOf e = k) (hpos : 0 < k) (ho : Opens enc w base spare held e (fun cs (x : α) => cs = en x)) :
    Opens enc w base spare held t (fun cs (l : List α) => ∃ v, cs = [v] ∧ SlC (Frz.all w) v k (l.map en)) := fun fuel cs y h => by
  obtain ⟨l, v, c, h1, h2, h3, h4⟩ := Opens.any ht hk hpos ho _ _ _ h; refine ⟨l, v, h1, ?_⟩
  have : c = l.map en := by
    apply List.ext_getElem (by simpa using h3); intro i hi hi2; rw [← za6 hi, h4 i (by omega), List.getElem_map, za6 (by omega)]
  rw [← this]; exact h2
theorem Opens.bytes {t e : TypeId} (ht : Try.prog.underlying t = some (.slice e)) (he : Try.prog.underlying e = some (.int .u8)) (hk : Try.prog.cellsOf e = 1) :
    Opens enc w base spare held t (fun cs (l : List Int) => ∃ v, cs = [v] ∧ SlC (Frz.all w) v 1 (l.map (eK .u8)) ∧ ∀ x ∈ l, 0 ≤ x ∧ x ≤ 255) := fun fuel cs y h => by
  have ho : Opens enc w base spare held e (fun cs (x : Int) => cs = eK .u8 x ∧ (0 ≤ x ∧ x ≤ 255)) := fun fuel cs y h => by
    obtain ⟨k, h1, _, h2⟩ := DataW.trod_int he h; refine ⟨k, h1, ?_⟩; (have e1 : IntKind.u8.min = 0 := by decide); (have e2 : IntKind.u8.max = 255 := by decide); simp only [Lit.wf, e1, e2, Bool.and_eq_true, decide_eq_true_eq] at h2; exact h2
  obtain ⟨l, v, c, h1, h2, h3, h4⟩ := Opens.any ht hk (by decide) ho _ _ _ h; refine ⟨l, v, h1, ?_, fun x hx => ?_⟩
  · have : c = l.map (eK .u8) := by
      apply List.ext_getElem (by simpa using h3); intro i hi hi2; rw [← za6 hi, (h4 i (by omega)).1, List.getElem_map, za6 (by omega)]
    rw [← this]; exact h2
  · obtain ⟨i, hi, e⟩ := List.mem_iff_getElem.1 hx; have := (h4 i hi).2; rw [za6 hi, e] at this; exact this
theorem Opens.slD {t e : TypeId} {k : Nat} {α : Type} [Inhabited α] {rep : Frz → List Value → α → Prop} (ht : Try.prog.underlying t = some (.slice e)) (hk : Try.prog.cellsOf e = k) (hpos : 0 < k) (ho : Opens enc w base spare held e (rep (Frz.all w))) :
    Opens enc w base spare held t (fun cs (l : List α) => ∃ v c, cs = [v] ∧ SlD rep (Frz.all w) v k c l) := fun fuel cs y h => by
  obtain ⟨l, v, c, h1, h2, h3, h4⟩ := Opens.any ht hk hpos ho _ _ _ h; exact ⟨l, v, c, h1, h2, h3, h4⟩
end
end Go.Proofs.Ytlaafmiejkebgaa
