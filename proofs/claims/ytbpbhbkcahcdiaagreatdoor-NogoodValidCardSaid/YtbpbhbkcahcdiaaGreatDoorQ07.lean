/- Cb Cc M8 Pf Cd Ce Sa Sb: shortened and put together by squeeze.py. -/
import Derived.Test.YtbpbhbkcahcdiaaGreatDoorQ06
set_option maxRecDepth 100000
set_option maxHeartbeats 4000000
set_option linter.unusedVariables false
set_option linter.unusedSectionVars false
set_option linter.unusedSimpArgs false
namespace Go.Proofs.YtbpbhbkcahcdiaaGreatDoor
open Go.RowKit
theorem zlX {l : List Int} {n : Int} : zbk l n = l.any fun k => decide (k = n) := by
  unfold zbk; simp only [zaF, Nat.sub_zero]; rw [zdM (fun i => decide (nth l i = n)) (fun i next _ => ?_), zda (q := fun k => decide (k = n)), Bool.or_false]
  cases decide (nth l i = n) <;> rfl
def zcJ (d : List GDomain) (s c : Int) : Bool := d.all fun x => (decide (¬ x.Station = s) || x.Channels.all fun k => decide (k = c))
theorem zjy {d : List GDomain} {s c : Int} : zbH d s c = zcJ d s c := by
  unfold zbH zcJ; simp only [zaF, Nat.sub_zero]; rw [zcI (fun i => (decide (¬ (nth d i).Station = s) || (nth d i).Channels.all fun k => decide (k = c))) (fun i next _ => ?_), zeT (l := d) (q := fun x => (decide (¬ x.Station = s) || x.Channels.all fun k => decide (k = c))), Bool.and_true]; rw [zcI (fun k => decide (nth (nth d i).Channels k = c)) (fun k nx _ => ?_), zeT (q := fun k => decide (k = c))]
  · cases decide (¬ (nth d i).Station = s) <;> rfl
  · by_cases h : nth (nth d i).Channels k = c <;> simp [h]
theorem zeE {a b c : Int} : zbe a b c = decide (a ≤ b ∧ b ≤ c) := by
  unfold zbe; by_cases h1 : a ≤ b <;> by_cases h2 : b ≤ c <;> simp [h1, h2]
def zfC (d : List GDomain) (s c : Int) (x : GPair) : Bool := (decide (x.A = s) && decide (x.Low ≤ c ∧ c ≤ x.High) && zcJ d x.B (wI (c + x.Offset))) || (decide (x.B = s) && decide (x.Low ≤ wI (c - x.Offset) ∧ wI (c - x.Offset) ≤ x.High) && zcJ d x.A (wI (c - x.Offset)))
theorem zko {p : GProblem} {d : List GDomain} {s c : Int} : zcw p d s c = p.Rules.Pairs.any (zfC d s c) := by
  unfold zcw; simp only [zaF, Nat.sub_zero, zjy, zeE]; rw [zdM (fun i => zfC d s c (nth p.Rules.Pairs i)) (fun i next _ => ?_), zda (q := zfC d s c), Bool.or_false]; unfold zfC; generalize (decide ((nth p.Rules.Pairs i).A = s) && decide ((nth p.Rules.Pairs i).Low ≤ c ∧ c ≤ (nth p.Rules.Pairs i).High) && zcJ d (nth p.Rules.Pairs i).B (wI (c + (nth p.Rules.Pairs i).Offset))) = a
  cases a
  · rw [cond_false, Bool.false_or]; generalize (decide ((nth p.Rules.Pairs i).B = s) && decide ((nth p.Rules.Pairs i).Low ≤ wI (c - (nth p.Rules.Pairs i).Offset) ∧ wI (c - (nth p.Rules.Pairs i).Offset) ≤ (nth p.Rules.Pairs i).High) && zcJ d (nth p.Rules.Pairs i).A (wI (c - (nth p.Rules.Pairs i).Offset))) = b
    cases b <;> rfl
  · rfl
def loadC (d : List GDomain) (t c f : Int) (x : GLoad) : Bool := decide (x.To = t) && decide (x.Low ≤ c ∧ c ≤ x.High) && (decide (x.From = f) || zcJ d x.From c)
def sumP (p : GProblem) (d : List GDomain) (t c f : Int) : Int := p.Rules.Loads.foldl (fun n x => bif loadC d t c f x then wI (n + x.Weight) else n) 0
theorem zlI {p : GProblem} {d : List GDomain} {t c f : Int} : zcU p d t c f = sumP p d t c f := by
  unfold zcU sumP; simp only [zaF, Nat.sub_zero, zjy, zeE]; rw [zfv (fun i n => bif loadC d t c f (nth p.Rules.Loads i) then wI (n + (nth p.Rules.Loads i).Weight) else n) (fun i next n _ => ?_), zcp (g := fun n x => bif loadC d t c f x then wI (n + x.Weight) else n)]; unfold loadC; generalize (decide ((nth p.Rules.Loads i).To = t) && decide ((nth p.Rules.Loads i).Low ≤ c ∧ c ≤ (nth p.Rules.Loads i).High) && (decide ((nth p.Rules.Loads i).From = f) || zcJ d (nth p.Rules.Loads i).From c)) = a
  cases a <;> rfl
def zes (p : GProblem) (s c l : Int) : Bool := p.Rules.Caps.any fun x => decide (x.Station = s) && decide (x.Low ≤ c ∧ c ≤ x.High) && decide (x.Max < l)
theorem zkz {p : GProblem} {s c l : Int} : zcu p s c l = zes p s c l := by
  unfold zcu zes; simp only [zaF, Nat.sub_zero, zeE]; rw [zdM (fun i => decide ((nth p.Rules.Caps i).Station = s) && decide ((nth p.Rules.Caps i).Low ≤ c ∧ c ≤ (nth p.Rules.Caps i).High) && decide ((nth p.Rules.Caps i).Max < l)) (fun i next _ => ?_), zda (l := p.Rules.Caps) (q := fun x => decide (x.Station = s) && decide (x.Low ≤ c ∧ c ≤ x.High) && decide (x.Max < l)), Bool.or_false]; generalize (decide ((nth p.Rules.Caps i).Station = s) && decide ((nth p.Rules.Caps i).Low ≤ c ∧ c ≤ (nth p.Rules.Caps i).High) && decide ((nth p.Rules.Caps i).Max < l)) = a
  cases a <;> rfl
def loadR (p : GProblem) (d : List GDomain) (s c : Int) (x : GLoad) : Bool := decide (x.From = s) && decide (x.Low ≤ c ∧ c ≤ x.High) && zcJ d x.To c && zes p x.To c (sumP p d x.To c s)
theorem zkl {p : GProblem} {d : List GDomain} {s c : Int} : zcz p d s c = p.Rules.Loads.any (loadR p d s c) := by
  unfold zcz; simp only [zaF, Nat.sub_zero, zjy, zeE, zkz, zlI]; rw [zdM (fun i => loadR p d s c (nth p.Rules.Loads i)) (fun i next _ => ?_), zda (q := loadR p d s c), Bool.or_false]; unfold loadR; generalize (decide ((nth p.Rules.Loads i).From = s) && decide ((nth p.Rules.Loads i).Low ≤ c ∧ c ≤ (nth p.Rules.Loads i).High) && zcJ d (nth p.Rules.Loads i).To c && zes p (nth p.Rules.Loads i).To c (sumP p d (nth p.Rules.Loads i).To c s)) = a
  cases a <;> rfl
def remP (p : GProblem) (d : List GDomain) (s c : Int) : Bool := p.Rules.Pairs.any (zfC d s c) || zes p s c (sumP p d s c (-1)) || p.Rules.Loads.any (loadR p d s c)
theorem ziz {p : GProblem} {d : List GDomain} {s c : Int} : zci p d s c = remP p d s c := by
  unfold zci remP; rw [zko, zkz, zlI, zkl]
def zcY (s c : Int) (x : GDomain) : GDomain := ⟨x.Station, x.Channels.filter fun k => decide (¬ x.Station = s) || decide (¬ k = c)⟩
theorem zkv {d : List GDomain} {s c : Int} (hd : d.length ≤ 100000) (hc : ∀ x ∈ d, x.Channels.length ≤ 100000) : zbE d s c = some (d.map (zcY s c)) := by
  unfold zbE; simp only [zaF, Nat.sub_zero]; refine (zdx (fun i out => out.length = i) (fun i out => out ++ [zcY s c (nth d i)]) rfl (fun i out _ h => by simp [h]) (fun i next out hi hl => ?_)).1.trans ?_
  · have hci := hc (nth d i) (by rw [zao hi]; exact List.getElem_mem _); refine (zdx (fun k (t : Int × List Int) => t.2.length ≤ k) (fun k t => (t.1, bif (decide (¬ (nth d i).Station = s) || decide (¬ nth (nth d i).Channels k = c)) then t.2 ++ [nth (nth d i).Channels k] else t.2)) (by exact Nat.le_refl 0) (fun k t _ h => ?_) (fun k nx t hk ht => ?_)).1.trans ?_
    · (try dsimp only)
      cases (decide (¬ (nth d i).Station = s) || decide (¬ nth (nth d i).Channels k = c)) <;> simp <;> omega
    · (try dsimp only)
      cases (decide (¬ (nth d i).Station = s) || decide (¬ nth (nth d i).Channels k = c))
      · rfl
      · exact zbP (by simp only [room, List.length_append, List.length_singleton]; omega)
    · rw [zi8 (g := fun t k => bif (decide (¬ (nth d i).Station = s) || decide (¬ nth (nth d i).Channels k = c)) then t ++ [nth (nth d i).Channels k] else t), zcp (l := (nth d i).Channels) (g := fun t k => bif (decide (¬ (nth d i).Station = s) || decide (¬ k = c)) then t ++ [k] else t), ziq (g := fun k => k)]; rw [zbP (by simp only [room, List.length_append, List.length_singleton]; omega)]; simp [zcY]
  · rw [zcp (l := d) (g := fun out x => out ++ [zcY s c x]), zej]; rfl
def zb8 (s c : Int) (x : GDomain) : GDomain := ⟨x.Station, bif decide (x.Station = s) then (bif x.Channels.any (fun k => decide (k = c)) then [c] else []) else x.Channels⟩
theorem zlB {d : List GDomain} {s c : Int} (hd : d.length ≤ 100000) (hc : ∀ x ∈ d, x.Channels.length ≤ 100000) : zcr d s c = some (d.map (zb8 s c)) := by
  unfold zcr; simp only [zaF, Nat.sub_zero, zlX]; refine (zdx (fun i out => out.length = i) (fun i out => out ++ [zb8 s c (nth d i)]) rfl (fun i out _ h => by simp [h]) (fun i next out hi hl => ?_)).1.trans ?_
  · have hci := hc (nth d i) (by rw [zao hi]; exact List.getElem_mem _); rw [zbP (by simp only [room, List.nil_append]; omega)]; (have hr : ∀ y : GDomain, room (out ++ [y]).length 32 := fun y => by simp only [room, List.length_append, List.length_singleton]; omega); simp only [zbP (hr _), zb8]
    cases decide ((nth d i).Station = s) <;> cases ((nth d i).Channels.any fun k => decide (k = c)) <;> rfl
  · rw [zcp (l := d) (g := fun out x => out ++ [zb8 s c x]), zej]; rfl
end Go.Proofs.YtbpbhbkcahcdiaaGreatDoor
namespace Go.Proofs.YtbpbhbkcahcdiaaGreatDoor
open Go.RowKit
def zaR (fuel : Nat) (p : GProblem) (d : List GDomain) : Option (List GDomain × Bool) :=
  zaF (fun (d_1 : List GDomain) =>
    zaF (fun (_ : Unit) =>
      some (d_1, true))
    (fun k20 =>
      zah (fun (i_22 : Nat) (next21 : Unit → Option (List GDomain × Bool)) (_ : Unit) =>
        (bif decide ((((nth d_1 i_22).Channels).length : Int) = 0) then
          some ([], false)
          else
          next21 ()))
      (fun (_ : Unit) =>
        k20 ()) (d_1.length - 0) 0 ()))
  (fun k2 =>
    zb6 (fun (next5 : (List GDomain × Bool) → Option (List GDomain × Bool)) (s5 : List GDomain × Bool) =>
      (bif s5.2 then
        zb6 (fun (next11 : (List GDomain × Bool × Int) → Option (List GDomain × Bool)) (s11 : List GDomain × Bool × Int) =>
          (bif decide (s11.2.2 < (s11.1.length : Int)) then
            grd (0 ≤ s11.2.2 ∧ s11.2.2 < (s11.1.length : Int)) <|
            zjg (fun (k_17 : Nat) (next16 : (List GDomain × Bool) → Option (List GDomain × Bool)) (s16 : List GDomain × Bool) =>
              grd (0 ≤ s11.2.2 ∧ s11.2.2 < (s16.1.length : Int)) <|
              grd (0 ≤ (k_17 : Int) ∧ (k_17 : Int) < (((nth s16.1 s11.2.2.toNat).Channels).length : Int)) <|
              (bif (zci p s16.1 ((nth s16.1 s11.2.2.toNat).Station) (nth ((nth s16.1 s11.2.2.toNat).Channels) k_17)) then
                (zbE s16.1 ((nth s16.1 s11.2.2.toNat).Station) (nth ((nth s16.1 s11.2.2.toNat).Channels) k_17)).bind fun r51 =>
                next16 (r51, true)
                else
                next16 (s16.1, s16.2)))
            (fun (s16 : List GDomain × Bool) =>
              next11 (s16.1, s16.2, (s11.2.2 + 1))) (((nth s11.1 s11.2.2.toNat).Channels).length) (s11.1, s11.2.1)
            else
            next5 (s11.1, s11.2.1))) fuel (s5.1, false, 0)
        else
        k2 s5.1)) fuel (d, true))
theorem zap {α : Type} [Inhabited α] {xs : List α} {k : Nat} (h : k < xs.length) : nth xs k ∈ xs := by rw [zao h]; exact List.getElem_mem _
theorem zaV {α : Type} [Inhabited α] {xs : List α} {x : α} (h : x ∈ xs) : ∃ k, k < xs.length ∧ nth xs k = x := by
  obtain ⟨k, hk, rfl⟩ := List.mem_iff_getElem.1 h; exact ⟨k, hk, zao hk⟩
theorem za9 {α β : Type} [Inhabited α] [Inhabited β] {f : α → β} {xs : List α} {i : Nat} (h : i < xs.length) : nth (xs.map f) i = f (nth xs i) := zaQ h
theorem zea {α : Type} [Inhabited α] {a b : List α} (hl : a.length = b.length) (h : ∀ i, i < a.length → nth a i = nth b i) : a = b := by
  apply List.ext_getElem hl; intro i h1 h2; have := h i h1
  rwa [zao h1, zao h2] at this
def SubD (a b : List GDomain) : Prop := a.length = b.length ∧ ∀ i, i < b.length → (nth a i).Station = (nth b i).Station ∧ ∀ c ∈ (nth a i).Channels, c ∈ (nth b i).Channels
theorem SubD.refl (a : List GDomain) : SubD a a := ⟨rfl, fun _ _ => ⟨rfl, fun _ h => h⟩⟩
theorem SubD.trans {a b c : List GDomain} (h : SubD a b) (k : SubD b c) : SubD a c := ⟨h.1.trans k.1, fun i hi => ⟨((h.2 i (by rw [k.1]; exact hi)).1).trans (k.2 i hi).1, fun x hx => (k.2 i hi).2 x ((h.2 i (by rw [k.1]; exact hi)).2 x hx)⟩⟩
def WtP (p : GProblem) : Prop := p.Rules.Loads.length ≤ 1024 ∧ ∀ x ∈ p.Rules.Loads, 0 ≤ x.Weight ∧ x.Weight ≤ 1073741824
section
variable {p : GProblem} {a b d : List GDomain}
theorem zgf {s c : Int} : zcJ d s c = true ↔ ∀ x ∈ d, x.Station = s → ∀ k ∈ x.Channels, k = c := by
  unfold zcJ; simp only [List.all_eq_true, Bool.or_eq_true, decide_eq_true_eq]; constructor
  · intro h x hx hs k hk; rcases h x hx with h1 | h1
    · exact absurd hs h1
    · exact h1 k hk
  · intro h x hx; by_cases hs : x.Station = s
    · exact .inr (h x hx hs)
    · exact .inl hs
theorem zcF (h : SubD a b) {s c : Int} (ho : zcJ b s c = true) : zcJ a s c = true := by
  rw [zgf] at ho ⊢; intro x hx hs k hk; obtain ⟨i, hi, rfl⟩ := zaV hx; have h2 := h.2 i (by rw [← h.1]; exact hi); exact ho (nth b i) (zap (by rw [← h.1]; exact hi)) (by rw [← h2.1]; exact hs) k (h2.2 k hk)
theorem zeo {t c f : Int} (h : SubD a b) : ∀ (l : List GLoad), (∀ x ∈ l, 0 ≤ x.Weight ∧ x.Weight ≤ 1073741824) → ∀ n n' : Int, 0 ≤ n → n ≤ n' → n' + 1073741824 * (l.length : Int) ≤ 4611686018427387904 →
    l.foldl (fun n x => bif loadC b t c f x then wI (n + x.Weight) else n) n ≤ l.foldl (fun n x => bif loadC a t c f x then wI (n + x.Weight) else n) n'
  | [], _, n, n', _, hn, _ => hn
  | x :: r, hw, n, n', h0, hn, hb => by
    have h1 := hw x (by simp); simp only [List.length_cons] at hb; rw [List.foldl_cons, List.foldl_cons]; have e1 : wI (n + x.Weight) = n + x.Weight := zij (by omega); have e2 : wI (n' + x.Weight) = n' + x.Weight := zij (by omega); rw [e1, e2]
    have hc : loadC b t c f x = true → loadC a t c f x = true := by
      unfold loadC; simp only [Bool.and_eq_true, Bool.or_eq_true]; rintro ⟨h3, h4⟩; exact ⟨h3, h4.imp id (zcF h)⟩
    refine zeo h r (fun y hy => hw y (by simp [hy])) _ _ ?_ ?_ ?_
    · cases loadC b t c f x <;> simp <;> omega
    · cases hb' : loadC b t c f x
      · cases loadC a t c f x <;> simp <;> omega
      · rw [hc hb']; simp; omega
    · cases loadC a t c f x <;> simp <;> omega
theorem zgk (hp : WtP p) (h : SubD a b) {t c f : Int} : sumP p b t c f ≤ sumP p a t c f := by
  unfold sumP; have := hp.1; exact zeo h _ hp.2 0 0 (by omega) (by omega) (by omega)
theorem zfy {s c l l' : Int} (hl : l ≤ l') (h : zes p s c l = true) : zes p s c l' = true := by
  unfold zes at h ⊢; rw [List.any_eq_true] at h ⊢; obtain ⟨x, hx, h⟩ := h; refine ⟨x, hx, ?_⟩; simp only [Bool.and_eq_true, decide_eq_true_eq] at h ⊢; exact ⟨h.1, by omega⟩
theorem zeW (hp : WtP p) (h : SubD a b) {s c : Int} (hr : remP p b s c = true) : remP p a s c = true := by
  unfold remP at hr ⊢; simp only [Bool.or_eq_true, List.any_eq_true] at hr ⊢; rcases hr with (⟨x, hx, hr⟩ | hr) | ⟨x, hx, hr⟩
  · refine .inl (.inl ⟨x, hx, ?_⟩); unfold zfC at hr ⊢; simp only [Bool.or_eq_true, Bool.and_eq_true] at hr ⊢; exact hr.imp (fun q => ⟨q.1, zcF h q.2⟩) (fun q => ⟨q.1, zcF h q.2⟩)
  · exact .inl (.inr (zfy (zgk hp h) hr))
  · refine .inr ⟨x, hx, ?_⟩; unfold loadR at hr ⊢; simp only [Bool.and_eq_true] at hr ⊢; exact ⟨⟨hr.1.1, zcF h hr.1.2⟩, zfy (zgk hp h) hr.2⟩
structure ClosedD (p : GProblem) (d : List GDomain) : Prop where
  ne : ∀ x ∈ d, x.Channels ≠ []
  calm : ∀ x ∈ d, ∀ c ∈ x.Channels, remP p d x.Station c = false
def OrdD (a b : List GDomain) : Prop := ∀ i, i < b.length → (nth a i).Channels.Sublist (nth b i).Channels
def PropD (p : GProblem) (d : List GDomain) (r : List GDomain × Bool) : Prop :=
  (r.2 = true ∧ ClosedD p r.1 ∧ (SubD r.1 d ∧ OrdD r.1 d) ∧ ∀ S, ClosedD p S → SubD S d → SubD S r.1) ∨ (r = ([], false) ∧ ∀ S, ClosedD p S → ¬ SubD S d)
def zka (R : List GDomain → Int → Int → Bool) (d : List GDomain) : Prop := ∀ x ∈ d, ∀ c ∈ x.Channels, R d x.Station c = false
def MonoR (R : List GDomain → Int → Int → Bool) : Prop := ∀ a b s c, SubD a b → R b s c = true → R a s c = true
theorem zid {R : List GDomain → Int → Int → Bool} (hp : MonoR R) {S : List GDomain} (hS : zka R S) (h : SubD S d) {s c : Int} (hr : R d s c = true) : SubD S (d.map (zcY s c)) := by
  refine ⟨by rw [h.1, List.length_map], fun i hi => ?_⟩; rw [List.length_map] at hi; rw [za9 hi]; have h2 := h.2 i hi; refine ⟨h2.1, fun k hk => ?_⟩; unfold zcY; rw [List.mem_filter]; refine ⟨h2.2 k hk, ?_⟩; simp only [Bool.or_eq_true, decide_eq_true_eq]; by_cases hs : (nth d i).Station = s
  · refine .inr fun hkc => ?_; subst hkc; have hm := zap (show i < S.length by rw [h.1]; exact hi); have := hS _ hm k hk; rw [h2.1, hs, hp _ _ _ _ h hr] at this
    cases this
  · exact .inl hs
theorem drop_sub {s c : Int} : SubD (d.map (zcY s c)) d := by
  refine ⟨List.length_map _, fun i hi => ?_⟩; rw [za9 hi]; exact ⟨rfl, fun k hk => (List.mem_filter.1 hk).1⟩
def totG (d : List GDomain) : Nat := (d.map fun x => x.Channels.length).sum
theorem zi3 : ∀ (d : List GDomain) (f : GDomain → GDomain), (∀ x ∈ d, (f x).Channels.length ≤ x.Channels.length) → totG (d.map f) ≤ totG d
  | [], _, _ => Nat.le_refl _
  | x :: r, f, h => by
    have := zi3 r f (fun y hy => h y (by simp [hy])); have h1 := h x (by simp); simp only [totG, List.map_cons, List.sum_cons] at this ⊢; omega
theorem zjk : ∀ (d : List GDomain) (f : GDomain → GDomain), (∀ x ∈ d, (f x).Channels.length ≤ x.Channels.length) → (∃ x ∈ d, (f x).Channels.length < x.Channels.length) → totG (d.map f) < totG d
  | x :: r, f, h, he => by
    have h1 := h x (by simp); obtain ⟨y, hy, hlt⟩ := he; rcases List.mem_cons.1 hy with rfl | hy
    · have := zi3 r f (fun z hz => h z (by simp [hz])); simp only [totG, List.map_cons, List.sum_cons] at this ⊢; omega
    · have := zjk r f (fun z hz => h z (by simp [hz])) ⟨y, hy, hlt⟩; simp only [totG, List.map_cons, List.sum_cons] at this ⊢; omega
theorem zfo {α : Type} {q : α → Bool} : ∀ {l : List α} {x : α}, x ∈ l → q x = false → (l.filter q).length < l.length
  | y :: r, x, hx, hq => by
    rcases List.mem_cons.1 hx with rfl | hx
    · rw [List.filter_cons, hq]; have := List.length_filter_le q r; simp; omega
    · have := zfo hx hq; rw [List.filter_cons]; split <;> simp only [List.length_cons] <;> omega
theorem zlm {s c : Int} {i : Nat} (hi : i < d.length) (hs : (nth d i).Station = s) (hc : c ∈ (nth d i).Channels) : totG (d.map (zcY s c)) < totG d :=
  zjk d _ (fun x _ => List.length_filter_le _ _) ⟨nth d i, zap hi, zfo hc (by simp [hs])⟩
structure Bd (d : List GDomain) : Prop where
  len : d.length ≤ 100000
  ch : ∀ x ∈ d, x.Channels.length ≤ 100000 ∧ x.Channels.Nodup
theorem Bd.drop (h : Bd d) {s c : Int} : Bd (d.map (zcY s c)) := by
  refine ⟨by rw [List.length_map]; exact h.len, fun x hx => ?_⟩; obtain ⟨y, hy, rfl⟩ := List.mem_map.1 hx; exact ⟨Nat.le_trans (List.length_filter_le _ _) (h.ch y hy).1, (h.ch y hy).2.filter _⟩
theorem zii {s c : Int} {i k : Nat} (hb : Bd d) (hi : i < d.length) (hk : k < (nth d i).Channels.length) (hc : nth (nth d i).Channels k = c) : k ≤ (nth (d.map (zcY s c)) i).Channels.length := by
  rw [za9 hi]; unfold zcY; have hn := (hb.ch _ (zap hi)).2; have e : (nth d i).Channels = (nth d i).Channels.take k ++ (nth d i).Channels.drop k := (List.take_append_drop k _).symm
  have hf : ((nth d i).Channels.take k).filter (fun q => decide (¬ (nth d i).Station = s) || decide (¬ q = c)) = (nth d i).Channels.take k := by
    rw [List.filter_eq_self]; intro q hq; simp only [Bool.or_eq_true, decide_eq_true_eq]; refine .inr fun hqc => ?_; obtain ⟨j, hj, rfl⟩ := List.mem_iff_getElem.1 hq; simp only [List.length_take] at hj; rw [List.getElem_take] at hqc; rw [zao hk] at hc; have := (List.getElem_inj (h₀ := by omega) (h₁ := hk) hn).1 (hqc.trans hc.symm); omega
  show k ≤ ((nth d i).Channels.filter _).length
  rw [e, List.filter_append, hf, List.length_append, List.length_take]; omega
structure InvR (R : List GDomain → Int → Int → Bool) (d0 d : List GDomain) : Prop where
  bd : Bd d
  sub : SubD d d0
  ord : OrdD d d0
  sup : ∀ S, zka R S → SubD S d0 → SubD S d
theorem InvR.step {R : List GDomain → Int → Int → Bool} {d0 : List GDomain} (hp : MonoR R) (h : InvR R d0 d) {s c : Int} (hr : R d s c = true) : InvR R d0 (d.map (zcY s c)) :=
  ⟨h.bd.drop, drop_sub.trans h.sub, fun i hi => by
    rw [za9 (by rw [h.sub.1]; exact hi)]
    exact (List.filter_sublist).trans (h.ord i hi), fun S hS hs => zid hp hS (h.sup S hS hs) hr⟩
theorem zll {R : List GDomain → Int → Int → Bool} {ρ : Type} {fuel : Nat} {d0 : List GDomain} {k2 : List GDomain → Option ρ} (post : Option ρ → Prop) (hp : MonoR R) (hb : Bd d0) (hf1 : d0.length < fuel) (hf2 : totG d0 + 1 < fuel) (hend : ∀ d, InvR R d0 d → zka R d → post (k2 d)) :
    post (zb6 (fun (next5 : (List GDomain × Bool) → Option ρ) (s5 : List GDomain × Bool) =>
      (bif s5.2 then
        zb6 (fun (next11 : (List GDomain × Bool × Int) → Option ρ) (s11 : List GDomain × Bool × Int) =>
          (bif decide (s11.2.2 < (s11.1.length : Int)) then
            grd (0 ≤ s11.2.2 ∧ s11.2.2 < (s11.1.length : Int)) <|
            zjg (fun (k_17 : Nat) (next16 : (List GDomain × Bool) → Option ρ) (s16 : List GDomain × Bool) =>
              grd (0 ≤ s11.2.2 ∧ s11.2.2 < (s16.1.length : Int)) <|
              grd (0 ≤ (k_17 : Int) ∧ (k_17 : Int) < (((nth s16.1 s11.2.2.toNat).Channels).length : Int)) <|
              (bif (R s16.1 ((nth s16.1 s11.2.2.toNat).Station) (nth ((nth s16.1 s11.2.2.toNat).Channels) k_17)) then
                (zbE s16.1 ((nth s16.1 s11.2.2.toNat).Station) (nth ((nth s16.1 s11.2.2.toNat).Channels) k_17)).bind fun r51 =>
                next16 (r51, true)
                else
                next16 (s16.1, s16.2)))
            (fun (s16 : List GDomain × Bool) =>
              next11 (s16.1, s16.2, (s11.2.2 + 1))) (((nth s11.1 s11.2.2.toNat).Channels).length) (s11.1, s11.2.1)
            else
            next5 (s11.1, s11.2.1))) fuel (s5.1, false, 0)
        else
        k2 s5.1)) fuel (d0, true)) := by
  refine zeh (σ := List GDomain × Bool) (I := fun s => InvR R d0 s.1 ∧ (s.2 = false → zka R s.1)) (μ := fun s => totG s.1 + (bif s.2 then 1 else 0)) (post := post) ⟨⟨hb, .refl _, fun _ _ => List.Sublist.refl _, fun S _ h => h⟩, fun h => by cases h⟩ hf2 ?_; rintro ⟨d, again⟩ next ⟨hI, hA⟩ hn; dsimp only at hI hA hn ⊢
  cases again with
  | false =>
    rw [cond_false]; exact hend d hI (hA rfl)
  | true =>
    rw [cond_true]
    -- one sweep over the stations
    refine zeh (σ := List GDomain × Bool × Int) (I := fun s => InvR R d0 s.1 ∧ 0 ≤ s.2.2 ∧ s.2.2 ≤ s.1.length ∧ s.1.length = d.length ∧ (s.2.1 = false → s.1 = d ∧ ∀ j : Nat, (j : Int) < s.2.2 → ∀ c ∈ (nth d j).Channels, R d (nth d j).Station c = false) ∧ (s.2.1 = true → totG s.1 < totG d)) (μ := fun s => (s.1.length - s.2.2).toNat) (post := post) ⟨hI, by simp, by simp, rfl, fun _ => ⟨rfl, fun j hj => absurd hj (by simp)⟩, fun h => by cases h⟩ (by simp only [Int.sub_zero, Int.toNat_natCast]; rw [hI.sub.1]; exact hf1) ?_; rintro ⟨d1, ag, i⟩ next1 ⟨hI1, h0, h1, hl, hF, hT⟩ hn1; dsimp only at hI1 h0 h1 hl hF hT hn1 ⊢; by_cases hi : i < (d1.length : Int)
    · rw [decide_eq_true hi, cond_true, zbP ⟨h0, hi⟩]; (have hin : i.toNat < d1.length := by omega); refine zjJ (σ := List GDomain × Bool) (I := fun m s => InvR R d0 s.1 ∧ s.1.length = d.length ∧ m ≤ (nth s.1 i.toNat).Channels.length ∧ (s.2 = false → s.1 = d ∧ (∀ j : Nat, (j : Int) < i → ∀ c ∈ (nth d j).Channels, R d (nth d j).Station c = false) ∧ ∀ k, m ≤ k → k < (nth d i.toNat).Channels.length → R d (nth d i.toNat).Station (nth (nth d i.toNat).Channels k) = false) ∧ (s.2 = true → totG s.1 < totG d)) (post := post) ?_ ?_ ?_
      · dsimp only; refine ⟨hI1, hl, Nat.le_refl _, fun h => ?_, hT⟩; obtain ⟨h2, h3⟩ := hF h; subst h2; exact ⟨rfl, h3, fun k h4 h5 => absurd h5 (by omega)⟩
      · rintro ⟨d2, ag2⟩ ⟨g1, g2, _, g4, g5⟩; dsimp only at g1 g2 g4 g5 ⊢; refine hn1 _ ⟨g1, by dsimp only; omega, by dsimp only; omega, g2, fun h => ?_, g5⟩ (by dsimp only; omega); dsimp only at h; obtain ⟨h2, h3, h4⟩ := g4 h; refine ⟨h2, fun j hj c hc => ?_⟩; dsimp only at hj; by_cases hji : (j : Int) < i
        · exact h3 j hji c hc
        · (obtain rfl : j = i.toNat := by omega); obtain ⟨k, hk, rfl⟩ := zaV hc; exact h4 k (Nat.zero_le _) hk
      · rintro k ⟨d2, ag2⟩ nx hk ⟨g1, g2, g3, g4, g5⟩ hnx; dsimp only at g1 g2 g3 g4 g5 hnx ⊢; (have hid : i.toNat < d2.length := by omega); rw [zbP ⟨h0, by omega⟩, zbP ⟨by omega, by omega⟩]
        cases hr : R d2 (nth d2 i.toNat).Station (nth (nth d2 i.toNat).Channels k) with
        | true =>
          rw [cond_true, zkv g1.bd.len (fun x hx => (g1.bd.ch x hx).1), Option.bind_some]; refine hnx _ ⟨g1.step hp hr, by dsimp only; rw [List.length_map]; exact g2, zii g1.bd hid (by omega) rfl, (fun h => by cases h), fun _ => ?_⟩; dsimp only; have h6 := zlm hid rfl (zap (show k < (nth d2 i.toNat).Channels.length by omega))
          cases ag2 with
          | true => have := g5 rfl; omega
          | false => obtain ⟨h7, _⟩ := g4 rfl; subst h7; exact h6
        | false =>
          rw [cond_false]; refine hnx _ ⟨g1, g2, by dsimp only; omega, fun h => ?_, g5⟩; dsimp only at h ⊢; obtain ⟨h7, h8, h9⟩ := g4 h; refine ⟨h7, h8, fun q h10 h11 => ?_⟩; rcases Nat.lt_or_ge k q with h12 | h12
          · exact h9 q h12 h11
          · (obtain rfl : q = k := by omega); subst h7; exact hr
    · rw [decide_eq_false hi, cond_false]; (have hil : i = d1.length := by omega); refine hn (d1, ag) ⟨hI1, fun h => ?_⟩ ?_
      · dsimp only at h ⊢; obtain ⟨h2, h3⟩ := hF h; subst h2; intro x hx c hc; obtain ⟨j, hj, rfl⟩ := zaV hx; exact h3 j (by omega) c hc
      · dsimp only
        cases ag with
        | true => have := hT rfl; simp only [cond_true]; omega
        | false => obtain ⟨h2, _⟩ := hF rfl; subst h2; simp only [cond_true, cond_false]; omega
theorem MonoR.rem (hp : WtP p) : MonoR (remP p) := fun _ _ _ _ h hr => zeW hp h hr
theorem zhn {fuel : Nat} {d0 : List GDomain} (hp : WtP p) (hb : Bd d0) (hf1 : d0.length < fuel) (hf2 : totG d0 + 1 < fuel) : ∃ r, zaR fuel p d0 = some r ∧ PropD p d0 r := by
  unfold zaR; simp only [zaF, Nat.sub_zero, ziz]; refine zll (R := remP p) (k2 := fun d => zah (fun (i : Nat) (next : Unit → Option (List GDomain × Bool)) (_ : Unit) => bif decide ((((nth d i).Channels).length : Int) = 0) then some ([], false) else next ()) (fun (_ : Unit) => some (d, true)) d.length 0 ()) (fun o => ∃ r, o = some r ∧ PropD p d0 r) (.rem hp) hb hf1 hf2 fun d hI hA => ?_
  -- the end: is a domain empty?
  refine zcl (σ := Unit) (I := fun i _ => ∀ j, j < i → (nth d j).Channels ≠ []) (post := fun o => ∃ r, o = some r ∧ PropD p d0 r) (fun j hj => absurd hj (Nat.not_lt_zero j)) ?_ ?_
  · intro _ h; refine ⟨_, rfl, .inl ⟨rfl, ⟨fun x hx => ?_, hA⟩, ⟨hI.sub, hI.ord⟩, fun S hS => hI.sup S hS.calm⟩⟩; obtain ⟨i, hi, rfl⟩ := zaV hx; exact h i hi
  · intro i _ nx hi h hnx; by_cases he : (nth d i).Channels = []
    · rw [he]; refine ⟨_, rfl, .inr ⟨rfl, fun S hS hs => ?_⟩⟩; have h2 := hI.sup S hS.calm hs; have h3 := (h2.2 i hi).2; rw [he] at h3; have hm := zap (show i < S.length by rw [h2.1]; exact hi); apply hS.ne _ hm
      cases hc : (nth S i).Channels with
      | nil => rfl
      | cons c r => exact absurd (h3 c (by rw [hc]; simp)) (by simp)
    · have : ¬ ((nth d i).Channels.length : Int) = 0 := fun h0 => he (List.eq_nil_of_length_eq_zero (by omega)); rw [decide_eq_false this, cond_false]; refine hnx () (fun j hj => ?_); rcases Nat.lt_or_ge j i with h1 | h1
      · exact h j h1
      · rw [show j = i by omega]; exact he
end
end Go.Proofs.YtbpbhbkcahcdiaaGreatDoor
namespace Go.Proofs.YtbpbhbkcahcdiaaGreatDoor
open Go.RowKit
theorem zlL (ds : List Dx) : ∀ k j, 0 ≤ ixAt ds k j ∧ ixAt ds k j ≤ (k : Int)
  | 0, j => by simp [ixAt]
  | k + 1, j => by
    have := zlL ds k j
    show 0 ≤ (if j = (nth ds k).st.toNat then (k : Int) + 1 else ixAt ds k j) ∧ (if j = (nth ds k).st.toNat then (k : Int) + 1 else ixAt ds k j) ≤ ((k + 1 : Nat) : Int)
    split <;> omega
theorem TbOf.n {P : Pb} {Y : Tb} (h : TbOf P Y) : Y.n = P.ds.length := by unfold Tb.n; rw [h.st]; simp
theorem TbOf.ixn {P : Pb} {Y : Tb} (h : TbOf P Y) : ∀ j, 0 ≤ Y.ix j ∧ Y.ix j ≤ Y.n := fun j => by rw [h.ix, h.n]; exact zlL _ _ _
theorem NewIs.is {P : Pb} {Y : Tb} {L : Ws} {c : Bool} {tp : Nat} {w0 : World} (hG : P.Good) (h : NewIs P Y L c tp w0) : Is Y P.left L c := Is.of (h.tb.ok hG) (by rw [h.tb.n]; simp [Pb.left]) h.post
theorem ziT {Y : Tb} {T L L' : Ws} {c : Bool} {i : Nat} {g : BitVec 64} (hok : Y.Ok) (hi : i < Y.n) (h : Is Y T L false) (k : SPost Y (cutL L i g) L' c) : Is Y (cutL T i g) L' c :=
  h.cut hok hi (Is.of hok (by unfold cutL; rw [List.length_set, h.len]) k)
end Go.Proofs.YtbpbhbkcahcdiaaGreatDoor
namespace Go.Proofs.YtbpbhbkcahcdiaaGreatDoor
open Go.RowKit
structure Ac where
  kind : Int
  ch : Ch
deriving DecidableEq, Inhabited
def Ac.cells (a : Ac) : List Value := [.int .i64 a.kind, .int .i64 a.ch.st, .int .i64 a.ch.ch]
def Ac.bits (a : Ac) : BitVec 64 := if a.kind = 0 then ~~~(1#64 <<< a.ch.ch.toNat) else 1#64 <<< a.ch.ch.toNat
def actT (Y : Tb) (T : Ws) (a : Ac) : Ws := if (zaN Y false a.ch).2 = 0 then cutL T (zaN Y false a.ch).1.toNat a.bits else T
structure Fin (Y : Tb) (T L : Ws) (c : Bool) : Prop where
  tlen : T.length = Y.n
  len : L.length = Y.n
  good : c = false → Is Y T L false
  bad : c = true → ∀ S, Closed Y S → ¬ Le' S T
section
variable {Y : Tb} {T L L' : Ws} {c c' : Bool}
theorem Is.fin (h : Is Y T L c) : Fin Y T L c where
  tlen := h.tlen
  len := h.len
  good hc := hc ▸ h
  bad hc S hS hle := by
    obtain ⟨i, hi, h0⟩ := h.bad hc; apply hS.ne i hi; apply BitVec.eq_of_getLsbD_eq; intro j _
    cases hh : (nth S i).getLsbD j with
    | false => rw [BitVec.getLsbD_zero]
    | true => have := h.best S hS hle i j hh; rw [h0, BitVec.getLsbD_zero] at this; cases this
theorem ziO {i : Nat} {g : BitVec 64} : Le' (cutL T i g) T := fun a j hj => by
  unfold cutL at hj; by_cases hi : i < T.length
  · rw [zby hi] at hj
    split at hj
    · rename_i e; subst e; rw [BitVec.getLsbD_and, Bool.and_eq_true] at hj; exact hj.1
    · exact hj
  · rw [List.set_eq_of_length_le (by omega)] at hj; exact hj
theorem zkN {a : Ac} : Le' (actT Y T a) T := by
  unfold actT; split
  · exact ziO
  · exact fun _ _ h => h
theorem zkr {a : Ac} : (actT Y T a).length = T.length := by
  unfold actT cutL; split <;> simp
theorem Fin.skip {a : Ac} (h : Fin Y T L true) : Fin Y (actT Y T a) L true :=
  ⟨by rw [zkr, h.tlen], h.len, (fun hh => by cases hh), fun _ S hS hle => h.bad rfl S hS (fun i j hj => zkN i j (hle i j hj))⟩
theorem Fin.step {a : Ac} (hok : Y.Ok) (hix : ∀ j, 0 ≤ Y.ix j ∧ Y.ix j ≤ Y.n) (h : Fin Y T L false) (he : (zaN Y false a.ch).2 = 0) (hp : SPost Y (cutL L (zaN Y false a.ch).1.toNat a.bits) L' c') : Fin Y (actT Y T a) L' c' := by
  unfold actT; rw [if_pos he]; have := zch hix he; exact (ziT hok (by omega) (h.good rfl) hp).fin
theorem Fin.same (h : Fin Y T L c) (h' : Fin Y T L' c') : c = c' ∧ (c = false → L = L') := by
  have hc : c = c' := by
    cases c with
    | true =>
      cases c' with
      | true => rfl
      | false => exact absurd (h'.good rfl).sub (h.bad rfl L' ((h'.good rfl).good rfl))
    | false =>
      cases c' with
      | false => rfl
      | true => exact absurd (h.good rfl).sub (h'.bad rfl L ((h.good rfl).good rfl))
  subst hc; refine ⟨rfl, fun hf => ?_⟩; have a := h.good hf; have b := h'.good hf; exact Le'.antisymm (b.best L (a.good rfl) a.sub) (a.best L' (b.good rfl) b.sub) (by rw [h.len, h'.len])
end
end Go.Proofs.YtbpbhbkcahcdiaaGreatDoor
namespace Go.Proofs.YtbpbhbkcahcdiaaGreatDoor
open Go.RowKit
def Pr.er (x : Pr) : GPair := ⟨x.a, x.b, x.off, x.lo, x.hi⟩
def Ld.er (x : Ld) : GLoad := ⟨x.to, x.fr, x.wt, x.lo, x.hi⟩
def Cp.er (x : Cp) : GCap := ⟨x.st, x.mx, x.lo, x.hi⟩
def Dx.er (x : Dx) : GDomain := ⟨x.st, x.chs⟩
def Pb.er (P : Pb) : GProblem := ⟨P.ds.map Dx.er, ⟨P.ps.map Pr.er, P.ls.map Ld.er, P.cs.map Cp.er⟩⟩
def gd (Y : Tb) (L : Ws) : List GDomain := (List.range Y.n).map fun i => ⟨nth Y.st i, (chansN (nth L i)).map fun j : Nat => (j : Int)⟩
theorem za5 {Y : Tb} {L : Ws} : (gd Y L).length = Y.n := by simp [gd]
theorem zbq {Y : Tb} {L : Ws} {i : Nat} (h : i < Y.n) : nth (gd Y L) i = ⟨nth Y.st i, (chansN (nth L i)).map fun j : Nat => (j : Int)⟩ := by
  rw [zao (by rw [za5]; exact h)]; simp [gd]
theorem zfJ {b : BitVec 64} (hb : b ≠ 0#64) {c : Int} (hc : c ≠ 0) : (∀ j ∈ chansN b, (j : Int) = c) ↔ ((zbV b : Nat) : Int) = c := by
  have hz := (zc1 hb 0).1; constructor
  · intro h; have h1 := h (ctz b) (chansN_mem.2 hz)
    have h2 : b &&& (b - 1#64) = 0#64 := by
      apply BitVec.eq_of_getLsbD_eq; intro j _; rw [zd9 hb, BitVec.getLsbD_zero]
      cases hj : b.getLsbD j with
      | false => rfl
      | true => have := h j (chansN_mem.2 hj); simp; omega
    unfold zbV; rw [if_pos ⟨hb, h2⟩]; exact h1
  · intro h j hj; unfold zbV at h
    split at h
    · rename_i h2; have h3 := congrArg (fun v => BitVec.getLsbD v j) h2.2; simp only [zd9 hb, BitVec.getLsbD_zero, chansN_mem.1 hj, Bool.true_and, Bool.not_eq_false', decide_eq_true_eq] at h3; rw [h3]; exact h
    · exact absurd h.symm hc
theorem zei {α : Type} {p q : α → Bool} : ∀ {l : List α}, (∀ x ∈ l, p x = q x) → l.any p = l.any q
  | [], _ => rfl
  | x :: r, h => by rw [List.any_cons, List.any_cons, h x (by simp), zei (l := r) (fun y hy => h y (by simp [hy]))]
theorem zk1 {P : Pb} (h : P.ok = true) : P.ls.length ≤ 1024 := by
  simp only [Pb.ok, Pb.rulesOk, Bool.and_eq_true, decide_eq_true_eq] at h; omega
section
variable {P : Pb} {Y : Tb} {L : Ws}
theorem TbOf.nth_st (hY : TbOf P Y) {i : Nat} (hi : i < Y.n) : nth Y.st i = (nth P.ds i).st := by
  rw [hY.st]; exact zaQ (by rw [← hY.n]; exact hi)
theorem zd2 (hG : P.Good) (hY : TbOf P Y) {i j : Nat} (hi : i < Y.n) (hj : j < Y.n) (h : nth Y.st i = nth Y.st j) : i = j := by
  rw [hY.nth_st hi, hY.nth_st hj] at h; have hn := hY.n; rcases Nat.lt_trichotomy i j with h1 | h1 | h1
  · have := hG.inc i j h1 (by omega); omega
  · exact h1
  · have := hG.inc j i h1 (by omega); omega
theorem zdG (hG : P.Good) (hY : TbOf P Y) (hne : ∀ i, i < Y.n → nth L i ≠ 0#64) {k : Nat} (hk : k < Y.n) {c : Int} (hc : c ≠ 0) : zcJ (gd Y L) (nth Y.st k) c = true ↔ ((only L k : Nat) : Int) = c := by
  rw [zgf]; unfold only; rw [← zfJ (hne k hk) hc]; constructor
  · intro h j hj; exact h (nth (gd Y L) k) (zap (by rw [za5]; exact hk)) (by rw [zbq hk]) j (by rw [zbq hk]; exact List.mem_map.2 ⟨j, hj, rfl⟩)
  · intro h x hx hs q hq; obtain ⟨i, hi, rfl⟩ := zaV hx; rw [za5] at hi; rw [zbq hi] at hs hq; obtain rfl := zd2 hG hY hi hk hs; obtain ⟨j, hj, rfl⟩ := List.mem_map.1 hq; exact h j hj
theorem zhb (hG : P.Good) (hY : TbOf P Y) {i : Nat} (hi : i < Y.n) : P.ix (nth Y.st i) = (i : Int) := by
  rw [hY.nth_st hi]; exact Pb.ix_of hG (by rw [← hY.n]; exact hi)
theorem zks (hG : P.Good) (hY : TbOf P Y) (hne : ∀ i, i < Y.n → nth L i ≠ 0#64) {i j : Nat} (hi : i < Y.n) (hj : j < 64) : P.er.Rules.Pairs.any (zfC (gd Y L) (nth Y.st i) j) = (Y.ps i).any (zdA L i j) := by
  have hn := hY.n
  have key : ∀ x ∈ P.ps, ((decide ((P.rp x).a = (i : Int)) || decide ((P.rp x).b = (i : Int))) && zdA L i j (P.rp x)) = zfC (gd Y L) (nth Y.st i) j x.er := by
    intro x hx; obtain ⟨hok, ⟨ia, hia, ha⟩, ⟨ib, hib, hb⟩⟩ := hG.ps x hx; simp only [Pr.ok, rngB, inB, Bool.and_eq_true, decide_eq_true_eq] at hok; (have hsa : x.a = nth Y.st ia := by rw [hY.nth_st (by omega)]; exact ha); (have hsb : x.b = nth Y.st ib := by rw [hY.nth_st (by omega)]; exact hb); (have e1 : (P.rp x).a = (ia : Int) := by unfold Pb.rp; dsimp only; rw [hsa, zhb hG hY (by omega)]); (have e2 : (P.rp x).b = (ib : Int) := by unfold Pb.rp; dsimp only; rw [hsb, zhb hG hY (by omega)]); have e3 : (P.rp x).off = x.off := rfl; have e4 : (P.rp x).lo = x.lo := rfl; have e5 : (P.rp x).hi = x.hi := rfl; have ea : x.a = nth Y.st i ↔ ia = i := ⟨fun h => zd2 hG hY (by omega) hi (hsa.symm.trans h), fun h => by rw [hsa, h]⟩; have eb : x.b = nth Y.st i ↔ ib = i := ⟨fun h => zd2 hG hY (by omega) hi (hsb.symm.trans h), fun h => by rw [hsb, h]⟩; have w1 : wI ((j : Int) + x.off) = (j : Int) + x.off := zij (by omega); have w2 : wI ((j : Int) - x.off) = (j : Int) - x.off := zij (by omega); rw [Bool.eq_iff_iff]; unfold zdA zfC Pr.er; simp only [e1, e2, e3, e4, e5, w1, w2, Bool.and_eq_true, Bool.or_eq_true, decide_eq_true_eq, ea, eb, Int.toNat_natCast]; (have hab : ia ≠ ib := fun h => by subst h; omega); by_cases h1 : ia = i
    · subst h1; rw [if_pos rfl]; simp only [decide_eq_true_eq]; rw [hsb]; constructor
      · rintro ⟨_, h2, h3, h4, h5⟩; exact .inl ⟨⟨trivial, by omega, by omega⟩, (zdG hG hY hne (by omega) (by omega)).2 (by omega)⟩
      · rintro (⟨⟨_, h2⟩, h3⟩ | ⟨⟨h2, _⟩, _⟩)
        · have := (zdG hG hY hne (k := ib) (by omega) (by omega)).1 h3; exact ⟨.inl trivial, by omega, by omega, by omega, by omega⟩
        · exact absurd h2.symm hab
    · rw [if_neg (by omega)]; simp only [decide_eq_true_eq]; rw [hsa]; constructor
      · rintro ⟨h2, h3, h4, h5⟩; exact .inr ⟨⟨by omega, by omega, by omega⟩, (zdG hG hY hne (by omega) (by omega)).2 (by omega)⟩
      · rintro (⟨⟨h2, _⟩, _⟩ | ⟨⟨h2, h3⟩, h4⟩)
        · exact absurd h2 h1
        · have := (zdG hG hY hne (k := ia) (by omega) (by omega)).1 h4; exact ⟨.inr (by omega), by omega, by omega, by omega⟩
  show (P.ps.map Pr.er).any _ = _
  rw [hY.ps]; unfold Pb.psA; rw [List.take_length, List.any_map, List.any_filter, List.any_map]; exact zei fun x hx => (key x hx).symm
theorem zho (hG : P.Good) (hY : TbOf P Y) {x : Ld} (hx : x ∈ P.ls) : ∃ a b, a < Y.n ∧ b < Y.n ∧ x.to = nth Y.st a ∧ x.fr = nth Y.st b ∧ (P.rl x).to = (a : Int) ∧ (P.rl x).fr = (b : Int) ∧ 0 ≤ x.fr ∧ 1 ≤ x.wt ∧ x.wt ≤ 1073741824 ∧ 2 ≤ x.lo := by
  have hn := hY.n; obtain ⟨hok, ⟨ia, hia, ha⟩, ⟨ib, hib, hb⟩⟩ := hG.ls x hx; simp only [Ld.ok, rngB, inB, Bool.and_eq_true, decide_eq_true_eq] at hok; (have hsa : x.to = nth Y.st ia := by rw [hY.nth_st (by omega)]; exact ha); (have hsb : x.fr = nth Y.st ib := by rw [hY.nth_st (by omega)]; exact hb); refine ⟨ia, ib, by omega, by omega, hsa, hsb, ?_, ?_, by omega, by omega, by omega, by omega⟩
  · unfold Pb.rl; dsimp only; rw [hsa, zhb hG hY (by omega)]
  · unfold Pb.rl; dsimp only; rw [hsb, zhb hG hY (by omega)]
theorem zgZ (hG : P.Good) (hY : TbOf P Y) (hne : ∀ i, i < Y.n → nth L i ≠ 0#64) {t j : Nat} (ht : t < Y.n) (hj0 : j ≠ 0) : ∀ (l : List Ld), (∀ x ∈ l, x ∈ P.ls) → ∀ (f : Nat → Int), 0 ≤ f j → f j + 1073741824 * (l.length : Int) ≤ 4611686018427387904 →
    (l.map Ld.er).foldl (fun n x => bif loadC (gd Y L) (nth Y.st t) j (-1) x then wI (n + x.Weight) else n) (f j) = ((l.map P.rl).filter fun x => decide (x.to = (t : Int))).foldl (zaY L) f j
  | [], _, f, _, _ => rfl
  | x :: r, hl, f, h0, hb => by
    obtain ⟨a, b, ha, hbn, hsa, hsb, e1, e2, h1, h2, h3, h4⟩ := zho hG hY (hl x (by simp)); simp only [List.length_cons] at hb; have hw : wI (f j + x.wt) = f j + x.wt := zij (by omega); have hto : x.to = nth Y.st t ↔ a = t := ⟨fun h => zd2 hG hY ha ht (hsa.symm.trans h), fun h => by rw [hsa, h]⟩
    have hon : zcJ (gd Y L) x.fr j = true ↔ only L b = j := by
      rw [hsb, zdG hG hY hne hbn (by omega)]; omega
    rw [List.map_cons, List.map_cons, List.foldl_cons, List.filter_cons]
    have hc : loadC (gd Y L) (nth Y.st t) j (-1) x.er = decide (a = t ∧ (x.lo ≤ (j : Int) ∧ (j : Int) ≤ x.hi) ∧ only L b = j) := by
      rw [Bool.eq_iff_iff]; unfold loadC Ld.er; simp only [Bool.and_eq_true, Bool.or_eq_true, decide_eq_true_eq, hto, hon]; constructor
      · rintro ⟨⟨h5, h6⟩, h7 | h7⟩
        · omega
        · exact ⟨h5, h6, h7⟩
      · rintro ⟨h5, h6, h7⟩; exact ⟨⟨h5, h6⟩, .inr h7⟩
    rw [hc]; by_cases hat : a = t
    · subst hat; rw [if_pos (by rw [e1]; simp), List.foldl_cons]
      have hs : zaY L f (P.rl x) j = bif decide (a = a ∧ (x.lo ≤ (j : Int) ∧ (j : Int) ≤ x.hi) ∧ only L b = j) then wI (f j + x.er.Weight) else f j := by
        show (if x.lo ≤ (only L (P.rl x).fr.toNat : Int) ∧ (only L (P.rl x).fr.toNat : Int) ≤ x.hi ∧ only L (P.rl x).fr.toNat = j then f j + x.wt else f j) = _
        rw [e2, Int.toNat_natCast]; by_cases h5 : (x.lo ≤ (j : Int) ∧ (j : Int) ≤ x.hi) ∧ only L b = j
        · rw [if_pos ⟨by rw [h5.2]; omega, by rw [h5.2]; omega, h5.2⟩, decide_eq_true ⟨rfl, h5⟩, cond_true]; exact hw.symm
        · rw [if_neg (fun h6 => h5 ⟨by rw [← h6.2.2]; omega, h6.2.2⟩), decide_eq_false (fun h6 => h5 h6.2), cond_false]
      rw [← hs]; refine zgZ hG hY hne ht hj0 r (fun y hy => hl y (by simp [hy])) (zaY L f (P.rl x)) ?_ ?_
      · rw [hs]; cases decide (a = a ∧ (x.lo ≤ (j : Int) ∧ (j : Int) ≤ x.hi) ∧ only L b = j)
        · exact h0
        · show 0 ≤ wI (f j + x.wt); rw [hw]; omega
      · rw [hs]; cases decide (a = a ∧ (x.lo ≤ (j : Int) ∧ (j : Int) ≤ x.hi) ∧ only L b = j)
        · rw [cond_false]; omega
        · show wI (f j + x.wt) + _ ≤ _; rw [hw]; omega
    · rw [if_neg (by rw [e1]; simp; omega), decide_eq_false (fun h => hat h.1), cond_false]; exact zgZ hG hY hne ht hj0 r (fun y hy => hl y (by simp [hy])) f h0 (by omega)
theorem zjD (hG : P.Good) (hY : TbOf P Y) (hne : ∀ i, i < Y.n → nth L i ≠ 0#64) {t i j : Nat} (ht : t < Y.n) (hi : i < Y.n) (hj0 : j ≠ 0) : ∀ (l : List Ld), (∀ x ∈ l, x ∈ P.ls) → ∀ (n : Int), 0 ≤ n → n + 1073741824 * (l.length : Int) ≤ 4611686018427387904 →
    (l.map Ld.er).foldl (fun n x => bif loadC (gd Y L) (nth Y.st t) j (nth Y.st i) x then wI (n + x.Weight) else n) n = ((l.map P.rl).filter fun x => decide (x.to = (t : Int))).foldl (zbj L i j) n
  | [], _, n, _, _ => rfl
  | x :: r, hl, n, h0, hb => by
    obtain ⟨a, b, ha, hbn, hsa, hsb, e1, e2, h1, h2, h3, h4⟩ := zho hG hY (hl x (by simp)); simp only [List.length_cons] at hb; have hw : wI (n + x.wt) = n + x.wt := zij (by omega); have hto : x.to = nth Y.st t ↔ a = t := ⟨fun h => zd2 hG hY ha ht (hsa.symm.trans h), fun h => by rw [hsa, h]⟩; have hfr : x.fr = nth Y.st i ↔ b = i := ⟨fun h => zd2 hG hY hbn hi (hsb.symm.trans h), fun h => by rw [hsb, h]⟩
    have hon : zcJ (gd Y L) x.fr j = true ↔ only L b = j := by
      rw [hsb, zdG hG hY hne hbn (by omega)]; omega
    rw [List.map_cons, List.map_cons, List.foldl_cons, List.filter_cons]
    have hc : loadC (gd Y L) (nth Y.st t) j (nth Y.st i) x.er = decide (a = t ∧ (x.lo ≤ (j : Int) ∧ (j : Int) ≤ x.hi) ∧ (b = i ∨ only L b = j)) := by
      rw [Bool.eq_iff_iff]; unfold loadC Ld.er; simp only [Bool.and_eq_true, Bool.or_eq_true, decide_eq_true_eq, hto, hon, hfr, and_assoc]
    rw [hc]; by_cases hat : a = t
    · subst hat; rw [if_pos (by rw [e1]; simp), List.foldl_cons]
      have hs : zbj L i j n (P.rl x) = bif decide (a = a ∧ (x.lo ≤ (j : Int) ∧ (j : Int) ≤ x.hi) ∧ (b = i ∨ only L b = j)) then wI (n + x.er.Weight) else n := by
        show (if (x.lo ≤ (j : Int) ∧ (j : Int) ≤ x.hi) ∧ ((P.rl x).fr = (i : Int) ∨ only L (P.rl x).fr.toNat = j) then n + x.wt else n) = _
        rw [e2, Int.toNat_natCast]; by_cases h5 : (x.lo ≤ (j : Int) ∧ (j : Int) ≤ x.hi) ∧ (b = i ∨ only L b = j)
        · rw [if_pos ⟨h5.1, h5.2.imp (fun h => by omega) id⟩, decide_eq_true ⟨rfl, h5⟩, cond_true]; exact hw.symm
        · rw [if_neg (fun h6 => h5 ⟨h6.1, h6.2.imp (fun h => by omega) id⟩), decide_eq_false (fun h6 => h5 h6.2), cond_false]
      rw [← hs]; refine zjD hG hY hne ht hi hj0 r (fun y hy => hl y (by simp [hy])) _ ?_ ?_
      · rw [hs]; cases decide (a = a ∧ (x.lo ≤ (j : Int) ∧ (j : Int) ≤ x.hi) ∧ (b = i ∨ only L b = j))
        · exact h0
        · show 0 ≤ wI (n + x.wt); rw [hw]; omega
      · rw [hs]; cases decide (a = a ∧ (x.lo ≤ (j : Int) ∧ (j : Int) ≤ x.hi) ∧ (b = i ∨ only L b = j))
        · rw [cond_false]; omega
        · show wI (n + x.wt) + _ ≤ _; rw [hw]; omega
    · rw [if_neg (by rw [e1]; simp; omega), decide_eq_false (fun h => hat h.1), cond_false]; exact zjD hG hY hne ht hi hj0 r (fun y hy => hl y (by simp [hy])) n h0 (by omega)
theorem ziD (hG : P.Good) (hY : TbOf P Y) {t j : Nat} (ht : t < Y.n) {l : Int} : zes P.er (nth Y.st t) j l = true ↔ ∃ x ∈ Y.cs t, (x.lo ≤ (j : Int) ∧ (j : Int) ≤ x.hi) ∧ x.mx < l := by
  have hn := hY.n; unfold zes
  show (P.cs.map Cp.er).any _ = true ↔ _
  rw [hY.cs, List.any_eq_true]; unfold Pb.csA; rw [List.take_length]; constructor
  · rintro ⟨y, hy, h⟩; obtain ⟨x, hx, rfl⟩ := List.mem_map.1 hy; rw [Bool.and_eq_true, Bool.and_eq_true] at h; have h1 : x.st = nth Y.st t := of_decide_eq_true h.1.1; refine ⟨P.rc x, List.mem_filter.2 ⟨List.mem_map.2 ⟨x, hx, rfl⟩, ?_⟩, of_decide_eq_true h.1.2, of_decide_eq_true h.2⟩; unfold Pb.rc; dsimp only; rw [h1, zhb hG hY ht]; simp
  · rintro ⟨y, hy, h⟩; obtain ⟨h1, h2⟩ := List.mem_filter.1 hy; obtain ⟨x, hx, rfl⟩ := List.mem_map.1 h1; refine ⟨x.er, List.mem_map.2 ⟨x, hx, rfl⟩, ?_⟩; obtain ⟨_, k, hk, hs⟩ := hG.cs x hx; (have hs' : x.st = nth Y.st k := by rw [hY.nth_st (by omega)]; exact hs); have h3 : P.ix x.st = (t : Int) := of_decide_eq_true h2; rw [hs', zhb hG hY (by omega)] at h3; (have : k = t := by omega); subst this; rw [Bool.and_eq_true, Bool.and_eq_true]; exact ⟨⟨decide_eq_true hs', decide_eq_true h.1⟩, decide_eq_true h.2⟩
theorem ziu (hG : P.Good) (hok : P.ok = true) (hY : TbOf P Y) (hne : ∀ i, i < Y.n → nth L i ≠ 0#64) {t j : Nat} (ht : t < Y.n) (hj0 : j ≠ 0) : sumP P.er (gd Y L) (nth Y.st t) j (-1) = za1 L (Y.inn t) j := by
  have hl := zk1 hok; unfold sumP za1; rw [hY.inn]; unfold Pb.inA; rw [List.take_length]; exact zgZ hG hY hne ht hj0 P.ls (fun _ h => h) (fun _ => 0) (Int.le_refl _) (by omega)
theorem zj7 (hG : P.Good) (hok : P.ok = true) (hY : TbOf P Y) (hne : ∀ i, i < Y.n → nth L i ≠ 0#64) {t i j : Nat} (ht : t < Y.n) (hi : i < Y.n) (hj0 : j ≠ 0) : sumP P.er (gd Y L) (nth Y.st t) j (nth Y.st i) = zcK L i j (Y.inn t) := by
  have hl := zk1 hok; unfold sumP zcK; rw [hY.inn]; unfold Pb.inA; rw [List.take_length]; exact zjD hG hY hne ht hi hj0 P.ls (fun _ h => h) 0 (Int.le_refl _) (by omega)
theorem zhX (hok : P.ok = true) (hY : TbOf P Y) (hne : ∀ i, i < Y.n → nth L i ≠ 0#64) {i j : Nat} (hi : i < Y.n) (hj0 : j ≠ 0) (hj : j < 64) : remP P.er (gd Y L) (nth Y.st i) j = (zco Y L i).getLsbD j := by
  have hG := Pb.good hok; have hYo := hY.ok hG; unfold remP zco; rw [BitVec.getLsbD_or, BitVec.getLsbD_or, zgG hj, zhL hYo hi hj, zgc hj, zks hG hY hne hi hj]
  congr 1
  · congr 1
    rw [Bool.eq_iff_iff, ziu hG hok hY hne hi hj0, ziD hG hY hi, List.any_eq_true]; simp only [decide_eq_true_eq, and_assoc]
  · have key : ∀ x ∈ P.ls, (decide ((P.rl x).fr = (i : Int)) && zdE Y L i j (P.rl x)) = loadR P.er (gd Y L) (nth Y.st i) j x.er := by
      intro x hx; obtain ⟨a, b, ha, hbn, hsa, hsb, e1, e2, h1, h2, h3, h4⟩ := zho hG hY hx; have hfr : x.fr = nth Y.st i ↔ b = i := ⟨fun h => zd2 hG hY hbn hi (hsb.symm.trans h), fun h => by rw [hsb, h]⟩
      have hon : zcJ (gd Y L) x.to j = true ↔ only L a = j := by
        rw [hsa, zdG hG hY hne ha (by omega)]; omega
      have hov : zes P.er x.to j (sumP P.er (gd Y L) x.to j (nth Y.st i)) = true ↔ ∃ c ∈ Y.cs a, (c.lo ≤ (j : Int) ∧ (j : Int) ≤ c.hi) ∧ c.mx < zcK L i j (Y.inn a) := by
        rw [hsa, zj7 hG hok hY hne ha hi hj0, ziD hG hY ha]
      rw [Bool.eq_iff_iff]; unfold loadR; simp only [Bool.and_eq_true, decide_eq_true_eq]
      show _ ↔ ((x.fr = nth Y.st i ∧ x.lo ≤ (j : Int) ∧ (j : Int) ≤ x.hi) ∧ zcJ (gd Y L) x.to j = true) ∧ zes P.er x.to j (sumP P.er (gd Y L) x.to j (nth Y.st i)) = true
      rw [hfr, hon, hov]; unfold zdE; rw [decide_eq_true_eq, e1, e2, Int.toNat_natCast]
      show _ ∧ x.lo ≤ (only L a : Int) ∧ (only L a : Int) ≤ x.hi ∧ _ ↔ _
      constructor
      · rintro ⟨h5, h6, h7, h8, h9⟩; exact ⟨⟨⟨by omega, by omega, by omega⟩, h8⟩, h9⟩
      · rintro ⟨⟨⟨h5, h6, h7⟩, h8⟩, h9⟩; exact ⟨by omega, by omega, by omega, h8, h9⟩
    show (P.ls.map Ld.er).any _ = _
    rw [hY.out]; unfold Pb.ouA; rw [List.take_length, List.any_map, List.any_filter, List.any_map]; exact zei fun x hx => (key x hx).symm
end
end Go.Proofs.YtbpbhbkcahcdiaaGreatDoor
namespace Go.Proofs.YtbpbhbkcahcdiaaGreatDoor
open Go.RowKit
theorem chansN_sub {b : BitVec 64} : (chansN b).Sublist (List.range' 0 64) := by unfold chansN; exact List.filter_sublist
theorem zc4 (b : BitVec 64) : (chansN b).Nodup := List.Nodup.sublist chansN_sub List.nodup_range'
theorem zgm (b : BitVec 64) : (chansN b).length ≤ 64 := by have := (chansN_sub (b := b)).length_le; simpa using this
theorem zf4 {b : BitVec 64} (h : b ≠ 0#64) : chansN b ≠ [] := fun e => by
  have := chansN_mem.2 (zc1 h 0).1; rw [e] at this; cases this
theorem zdO {b c : BitVec 64} (h : ∀ j, c.getLsbD j = true → b.getLsbD j = true) : chansN c = (chansN b).filter c.getLsbD := by
  unfold chansN; rw [List.filter_filter]; apply List.filter_congr; intro j _
  cases hc : c.getLsbD j with
  | false => rfl
  | true => rw [h j hc]; rfl
theorem zbY {α : Type} [DecidableEq α] : ∀ {a l : List α}, a.Sublist l → l.Nodup → a = l.filter fun x => decide (x ∈ a)
  | a, [], h, _ => by cases h; rfl
  | a, y :: l, h, hn => by
    rw [List.nodup_cons] at hn
    cases h with
    | cons _ h =>
      have : y ∉ a := fun hy => hn.1 (h.subset hy); rw [List.filter_cons, if_neg (by simpa using this)]; exact zbY h hn.2
    | cons_cons _ h =>
      rename_i a'; rw [List.filter_cons, if_pos (by simp)]
      congr 1
      conv => lhs; rw [zbY h hn.2]
      apply List.filter_congr; intro x hx; have : x ≠ y := fun e => hn.1 (e ▸ hx); simp [this]
theorem zcn {α : Type} [DecidableEq α] {a b l : List α} (ha : a.Sublist l) (hb : b.Sublist l) (hn : l.Nodup) (h : ∀ x, x ∈ a ↔ x ∈ b) : a = b := by
  rw [zbY ha hn, zbY hb hn]; apply List.filter_congr; intro x _; exact decide_eq_decide.2 (h x)
theorem mapI_mem {l : List Nat} {c : Int} : c ∈ l.map (fun j : Nat => (j : Int)) ↔ ∃ j ∈ l, c = (j : Int) := by
  rw [List.mem_map]; exact ⟨fun ⟨j, h, e⟩ => ⟨j, h, e.symm⟩, fun ⟨j, h, e⟩ => ⟨j, h, e.symm⟩⟩
theorem zdh {l : List Nat} (h : l.Nodup) : (l.map fun j : Nat => (j : Int)).Nodup := List.Pairwise.map _ (fun a b h e => h (by omega)) h
theorem ze8 (j : Nat) (hj : j < 64) : ∀ (l : List Int) (m : BitVec 64), (l.foldl (fun m c => m ||| 1#64 <<< c.toNat) m).getLsbD j = (m.getLsbD j || l.any fun c => decide (c.toNat = j))
  | [], m => by simp
  | x :: r, m => by rw [List.foldl_cons, ze8 j hj r, zgR hj, List.any_cons, Bool.or_assoc]
theorem zdi {l : List Int} {j : Nat} (hl : ∀ c ∈ l, 0 ≤ c ∧ c < 64) : (zbI l).getLsbD j = true ↔ (j : Int) ∈ l := by
  constructor
  · intro h; have hj := BitVec.lt_of_getLsbD h; unfold zbI at h; rw [ze8 j hj, BitVec.getLsbD_zero, Bool.false_or, List.any_eq_true] at h; obtain ⟨c, hc, h⟩ := h; have := hl c hc; have h2 := of_decide_eq_true h; rw [show (j : Int) = c by omega]; exact hc
  · intro h; have := hl _ h; unfold zbI; rw [ze8 j (by omega), BitVec.getLsbD_zero, Bool.false_or, List.any_eq_true]; exact ⟨_, h, by simp⟩
section
variable {P : Pb} {Y : Tb} {L T : Ws} {c : Bool}
def In51 (T : Ws) : Prop := ∀ i j, (nth T i).getLsbD j = true → 2 ≤ j ∧ j ≤ 51
theorem In51.le {S : Ws} (h : In51 T) (k : Le' S T) : In51 S := fun i j hj => h i j (k i j hj)
theorem zeK {i : Nat} (hi : i < Y.n) {q : Int} : q ∈ (nth (gd Y L) i).Channels ↔ ∃ j : Nat, (nth L i).getLsbD j = true ∧ q = (j : Int) := by
  rw [zbq hi]
  show q ∈ (chansN (nth L i)).map (fun j : Nat => (j : Int)) ↔ _
  rw [mapI_mem]; exact ⟨fun ⟨j, h, e⟩ => ⟨j, chansN_mem.1 h, e⟩, fun ⟨j, h, e⟩ => ⟨j, chansN_mem.2 h, e⟩⟩
theorem zi6 {S : Ws} (h : Le' S T) : SubD (gd Y S) (gd Y T) := by
  refine ⟨by rw [za5, za5], fun i hi => ?_⟩; rw [za5] at hi; refine ⟨by rw [zbq hi, zbq hi], fun q hq => ?_⟩; obtain ⟨j, hj, rfl⟩ := (zeK hi).1 hq; exact (zeK hi).2 ⟨j, h i j hj, rfl⟩
theorem zlr (hn : Y.n ≤ 512) : Bd (gd Y L) := by
  refine ⟨by rw [za5]; omega, fun x hx => ?_⟩; obtain ⟨i, hi, rfl⟩ := zaV hx; rw [za5] at hi; rw [zbq hi]; refine ⟨?_, zdh (zc4 _)⟩; have := zgm (nth L i); simp; omega
theorem zle (hok : P.ok = true) : WtP P.er := by
  refine ⟨?_, fun x hx => ?_⟩
  · show (P.ls.map Ld.er).length ≤ 1024
    rw [List.length_map]; exact zk1 hok
  · obtain ⟨y, hy, rfl⟩ := List.mem_map.1 hx; have hok' := ((Pb.good hok).ls y hy).1; simp only [Ld.ok, rngB, inB, Bool.and_eq_true, decide_eq_true_eq] at hok'
    show 0 ≤ y.wt ∧ y.wt ≤ 1073741824
    omega
theorem zgj (hok : P.ok = true) (hY : TbOf P Y) (h : Closed Y L) (hb : In51 L) : ClosedD P.er (gd Y L) := by
  refine ⟨fun x hx => ?_, fun x hx q hq => ?_⟩
  · obtain ⟨i, hi, rfl⟩ := zaV hx; rw [za5] at hi; rw [zbq hi]; have := zf4 (h.ne i hi); simpa using this
  · obtain ⟨i, hi, rfl⟩ := zaV hx; rw [za5] at hi; obtain ⟨j, hj, rfl⟩ := (zeK hi).1 hq; have h2 := hb i j hj; rw [zbq hi]
    show remP P.er (gd Y L) (nth Y.st i) j = false
    rw [zhX hok hY h.ne hi (by omega) (by omega)]; have h3 := congrArg (fun v => BitVec.getLsbD v j) (h.calm i hi).2; simp only [BitVec.getLsbD_and, BitVec.getLsbD_zero, hj, Bool.true_and] at h3; exact h3
theorem zgE (hok : P.ok = true) (hY : TbOf P Y) (hb : In51 T) {S : List GDomain} (hS : ClosedD P.er S) (hs : SubD S (gd Y T)) : ∃ S' : Ws, Closed Y S' ∧ Le' S' T ∧ SubD S (gd Y S') := by
  (have hl : S.length = Y.n := by rw [hs.1, za5]); have hch : ∀ i, i < Y.n → ∀ q ∈ (nth S i).Channels, ∃ j : Nat, (nth T i).getLsbD j = true ∧ q = (j : Int) := fun i hi q hq => (zeK hi).1 ((hs.2 i (by rw [za5]; exact hi)).2 q hq)
  have hbit : ∀ i j, i < Y.n → ((nth (S.map fun x => zbI x.Channels) i).getLsbD j = true ↔ (j : Int) ∈ (nth S i).Channels) := fun i j hi => by
    rw [za9 (by rw [hl]; exact hi)]; refine zdi fun q hq => ?_; obtain ⟨k, hk, rfl⟩ := hch i hi q hq; have := hb i k hk; omega
  (have hlen : (S.map fun x => zbI x.Channels).length = Y.n := by rw [List.length_map, hl])
  have hle : Le' (S.map fun x => zbI x.Channels) T := fun i j hj => by
    rcases Nat.lt_or_ge i Y.n with hi | hi
    · obtain ⟨k, hk, e⟩ := hch i hi _ ((hbit i j hi).1 hj); rw [show j = k by omega]; exact hk
    · unfold nth at hj; rw [List.getD_eq_getElem?_getD, List.getElem?_eq_none (by rw [hlen]; exact hi)] at hj; have hj' : (0#64).getLsbD j = true := hj; rw [BitVec.getLsbD_zero] at hj'
      cases hj'
  have hsub : SubD S (gd Y (S.map fun x => zbI x.Channels)) := by
    refine ⟨by rw [hl, za5], fun i hi => ?_⟩; rw [za5] at hi; refine ⟨?_, fun q hq => ?_⟩
    · rw [(hs.2 i (by rw [za5]; exact hi)).1, zbq hi, zbq hi]
    · obtain ⟨j, hj, rfl⟩ := hch i hi q hq; exact (zeK hi).2 ⟨j, (hbit i j hi).2 hq, rfl⟩
  have hne : ∀ i, i < Y.n → nth (S.map fun x => zbI x.Channels) i ≠ 0#64 := fun i hi e => by
    have h1 := hS.ne _ (zap (show i < S.length by rw [hl]; exact hi))
    cases hc : (nth S i).Channels with
    | nil => exact h1 hc
    | cons q r =>
      (have hq : q ∈ (nth S i).Channels := by rw [hc]; simp); obtain ⟨j, hj, rfl⟩ := hch i hi q hq; have := (hbit i j hi).2 hq; rw [e, BitVec.getLsbD_zero] at this
      cases this
  refine ⟨_, ⟨hlen, fun i hi => ⟨hne i hi, ?_⟩⟩, hle, hsub⟩; apply BitVec.eq_of_getLsbD_eq; intro j hj; rw [BitVec.getLsbD_and, BitVec.getLsbD_zero]
  cases h1 : (nth (S.map fun x => zbI x.Channels) i).getLsbD j with
  | false => rfl
  | true =>
    have h2 := (hb.le hle) i j h1
    cases h3 : (zco Y (S.map fun x => zbI x.Channels) i).getLsbD j with
    | false => rfl
    | true =>
      rw [← zhX hok hY hne hi (by omega) (by omega)] at h3; have h4 := zeW (zle hok) hsub h3; have h5 := hS.calm _ (zap (show i < S.length by rw [hl]; exact hi)) _ ((hbit i j hi).1 h1); rw [(hs.2 i (by rw [za5]; exact hi)).1, zbq hi] at h5; rw [h4] at h5
      cases h5
theorem zj8 (hok : P.ok = true) (hY : TbOf P Y) (hb : In51 T) (hF : Fin Y T L c) {r : List GDomain × Bool} (hr : PropD P.er (gd Y T) r) : r = if c then ([], false) else (gd Y L, true) := by
  cases c with
  | true =>
    rcases hr with ⟨_, h2, h3, _⟩ | ⟨h, _⟩
    · obtain ⟨S', h4, h5, _⟩ := zgE hok hY hb h2 h3.1; exact absurd h5 (hF.bad rfl S' h4)
    · exact h
  | false =>
    have hI := hF.good rfl; have hC := hI.good rfl; have hbL := hb.le hI.sub; rcases hr with ⟨h1, h2, h3, h4⟩ | ⟨_, h⟩
    · have h5 := h4 _ (zgj hok hY hC hbL) (zi6 hI.sub); obtain ⟨S', h6, h7, h8⟩ := zgE hok hY hb h2 h3.1; have h9 : SubD r.1 (gd Y L) := h8.trans (zi6 (hI.best S' h6 h7))
      have e : r.1 = gd Y L := by
        refine zea (by rw [h9.1]) fun i hi => ?_; (have hi' : i < Y.n := by rw [h9.1, za5] at hi; exact hi); have a1 := h9.2 i (by rw [za5]; exact hi'); have a2 := h5.2 i hi
        have hsub : (nth (gd Y L) i).Channels.Sublist (nth (gd Y T) i).Channels := by
          rw [zbq hi', zbq hi']
          show ((chansN (nth L i)).map _).Sublist ((chansN (nth T i)).map _)
          rw [zdO (hI.sub i)]; exact List.filter_sublist.map _
        have hch : (nth r.1 i).Channels = (nth (gd Y L) i).Channels := by
          refine zcn (h3.2 i (by rw [za5]; exact hi')) hsub ?_ (fun x => ⟨a1.2 x, a2.2 x⟩); rw [zbq hi']; exact zdh (zc4 _)
        cases hx : nth r.1 i with
        | mk s1 c1 =>
          cases hy : nth (gd Y L) i with
          | mk s2 c2 =>
            have b1 := a1.1; rw [hx, hy] at b1 hch; simp only at b1 hch; rw [b1, hch]
      rw [if_neg (by simp), ← e, ← h1]
    · exact absurd (zi6 hI.sub) (h _ (zgj hok hY hC hbL))
end
end Go.Proofs.YtbpbhbkcahcdiaaGreatDoor
namespace Go.Proofs.YtbpbhbkcahcdiaaGreatDoor
open Go.RowKit
theorem SlC.slof {α : Type} [Inhabited α] {F : Frz} {w : World} {v : Value} {size : Nat} {enc : α → List Value} {xs : List α} (h : SlC F v size (xs.map enc)) (hF : F.At w) : SlOf w v enc size xs := by
  obtain ⟨A, cap, h1, h2, h3, h4, h5⟩ := h; rw [List.length_map] at h1 h5; refine ⟨A, cap, h1, fun hl => ?_⟩; obtain ⟨g, off, rfl, hg, hc⟩ := h5 hl; refine ⟨g, off, rfl, fun i hi => ?_⟩; have := Cs.at hF hg (hc i hi)
  rwa [zaQ hi, zao hi] at this
def GPair.b (x : GPair) : Pr := ⟨x.A, x.B, x.Offset, x.Low, x.High⟩
def GLoad.b (x : GLoad) : Ld := ⟨x.To, x.From, x.Weight, x.Low, x.High⟩
def GCap.b (x : GCap) : Cp := ⟨x.Station, x.Max, x.Low, x.High⟩
def GChoice.b (x : GChoice) : Ch := ⟨x.Station, x.Channel⟩
def Ch.er (x : Ch) : GChoice := ⟨x.st, x.ch⟩
theorem zdr {α β : Type} {f : α → β} {g : β → α} (h : ∀ x, g (f x) = x) (l : List α) : (l.map f).map g = l := by
  rw [List.map_map]
  conv => rhs; rw [← List.map_id l]
  congr 1
  funext x
  exact h x
theorem SlOf.ofMap {α β : Type} {w : World} {v : Value} {size : Nat} {enc : α → List Value} {enc' : β → List Value} {f : α → β} (he : ∀ x, enc' (f x) = enc x) {xs : List α} (h : SlOf w v enc size xs) : SlOf w v enc' size (xs.map f) := by
  obtain ⟨A, cap, h1, h2⟩ := h; refine ⟨A, cap, by rw [List.length_map]; exact h1, fun hl => ?_⟩; rw [List.length_map] at hl; obtain ⟨g, off, hA, hc⟩ := h2 hl; refine ⟨g, off, hA, fun i hi => ?_⟩; rw [List.length_map] at hi; rw [List.getElem_map, he]; exact hc i hi
structure PbF (F : Frz) (vd : Value) (cd : List (List Value)) (vp vl vc : Value) (p : GProblem) : Prop where
  ds : SlD GDomain.rep F vd 2 cd p.Domains
  ps : SlC F vp 5 (p.Rules.Pairs.map GPair.enc)
  ls : SlC F vl 5 (p.Rules.Loads.map GLoad.enc)
  cs : SlC F vc 4 (p.Rules.Caps.map GCap.enc)
theorem zhj {F : Frz} {w : World} {vd vp vl vc : Value} {cd : List (List Value)} {p : GProblem} (h : PbF F vd cd vp vl vc p) (hF : F.At w) : ∃ P : Pb, P.er = p ∧ ProbAt w vd vp vl vc P := by
  obtain ⟨hd, hp, hl, hc⟩ := h; have hlen := hd.2.1
  have hrow : ∀ i, i < p.Domains.length → nth cd i = [.int .i64 (nth p.Domains i).Station, nth (nth cd i) 1] ∧ SlC F (nth (nth cd i) 1) 1 ((nth p.Domains i).Channels.map eI) := fun i hi => by
    obtain ⟨v1, h0, h1⟩ := hd.2.2 i hi; rw [h0]; exact ⟨rfl, h1⟩
  have eds : ((List.range p.Domains.length).map fun i => (⟨(nth p.Domains i).Station, nth (nth cd i) 1, (nth p.Domains i).Channels⟩ : Dx)).map Dx.er = p.Domains := by
    refine zea (by simp) fun i hi => ?_; simp at hi; rw [za9 (by simpa using hi), zao (by simpa using hi)]; simp [Dx.er]
  refine ⟨⟨(List.range p.Domains.length).map fun i => ⟨(nth p.Domains i).Station, nth (nth cd i) 1, (nth p.Domains i).Channels⟩, p.Rules.Pairs.map GPair.b, p.Rules.Loads.map GLoad.b, p.Rules.Caps.map GCap.b⟩, ?_, ?_⟩
  · unfold Pb.er; dsimp only; rw [eds, zdr (g := Pr.er) (fun _ => rfl), zdr (g := Ld.er) (fun _ => rfl), zdr (g := Cp.er) (fun _ => rfl)]
  · refine ⟨⟨?_, ?_⟩, ⟨(hp.slof hF).ofMap (f := GPair.b) (enc' := Pr.cells) (fun _ => rfl), (hl.slof hF).ofMap (f := GLoad.b) (enc' := Ld.cells) (fun _ => rfl), (hc.slof hF).ofMap (f := GCap.b) (enc' := Cp.cells) (fun _ => rfl), ?_, ?_, ?_⟩, ?_, ?_⟩
    · obtain ⟨A, cap, h1, h2, h3, h4, h5⟩ := hd.1; dsimp only; refine ⟨A, cap, by rw [h1, hlen]; simp, fun hl0 => ?_⟩; simp at hl0; obtain ⟨g, off, rfl, hg, hcs⟩ := h5 (by omega); refine ⟨g, off, rfl, fun i hi => ?_⟩; simp at hi; have := Cs.at hF hg (hcs i (by omega)); rw [(hrow i hi).1] at this; simpa [Dx.cells] using this
    · intro d hd'; obtain ⟨i, hi, rfl⟩ := List.mem_map.1 hd'; have hi' := List.mem_range.1 hi; (exact ((hrow i hi').2.slof hF).ofMap (f := fun x => x) (enc' := Ie) (fun _ => rfl) |> fun q => by simpa using q)
    · have := hp.max; simpa using this
    · have := hl.max; simpa using this
    · have := hc.max; simpa using this
    · have := hd.1.max; simp; omega
    · intro d hd'; obtain ⟨i, hi, rfl⟩ := List.mem_map.1 hd'; have := (hrow i (List.mem_range.1 hi)).2.max; simpa using this
theorem Fx.hp {F : Frz} {w w' : World} {es : HS} (hF : F.At w) (h : Hp w (fun _ => False) es w') : ∃ G : Frz, Fx F w G w' ∧ G.w = w' ∧ ∀ e ∈ es, ∀ g, e.fp g → Cb w' g → G.S g := by
  have hb := h.isBelow; have hF' := hF.below hb; refine ⟨⟨fun g => F.S g ∨ ((∃ e ∈ es, e.fp g) ∧ Cb w' g), w', fun g hg => hg.elim (fun h => hF'.cb h) (fun h => h.2)⟩, ⟨fun g hg => ⟨.inl hg, hF' g hg⟩, fun g _ => rfl, fun g hg => ?_, hb⟩, rfl, fun e he g hg hc => .inr ⟨⟨e, he, hg⟩, hc⟩⟩; rcases hg with h1 | ⟨⟨e, he, hg⟩, _⟩
  · exact .inl h1
  · exact .inr ((h.new e he g hg).elim (fun h => h.elim) id)
theorem SlK.ent {G : Frz} {w' : World} {v : Value} {e : TypeId} {size k : Nat} {l : List Value} (hok : (Ent.sl v e size k l).ok w') (hw : G.w = w') (hS : ∀ g, (Ent.sl v e size k l).fp g → Cb w' g → G.S g) : SlK G v size k l := by
  have ho := Ent.sl_ok.1 hok; rcases ho.2 with ⟨rfl, h0⟩ | ⟨g, cap, cur, rfl, hb, hg, hnc, hcm, hcs, htake⟩
  · subst h0; exact ⟨ho.1, none, 0, rfl, Nat.le_refl _, by omega, fun h => by omega⟩
  · refine ⟨ho.1, _, cap, rfl, hnc, by unfold maxLen at hcm; omega, fun _ => ⟨g, rfl, hS g (Ent.sl_fp.2 rfl) ⟨_, _, _, hg⟩, fun q hq => ?_⟩⟩; rw [hw, Nat.zero_add, World.ownsRow.cellAt ho q (by rw [← ho.1]; exact hq)]
theorem zjT {F : Frz} {w w' : World} {v : Value} {xs : List Dx} (hF : F.At w) (h : Hp w (fun _ => False) [.sl v 48 2 xs.length (xs.flatMap Dx.cells), .bag (xs.map dE)] w') : ∃ G : Frz, Fx F w G w' ∧ ∃ cs, SlD GDomain.rep G v 2 cs (xs.map Dx.er) := by
  obtain ⟨G, h1, h2, h3⟩ := Fx.hp hF h; refine ⟨G, h1, xs.map Dx.cells, ?_⟩; have h4 := SlK.ent (G := G) (h.own (.sl v 48 2 xs.length (xs.flatMap Dx.cells)) (by simp)) h2 (h3 _ (by simp)); have hb := Ent.bag_ok.1 (h.own (.bag (xs.map dE)) (by simp)); have h5 := h4.toC (cs := xs.map Dx.cells) (List.flatMap_def ..) (by simp) (fun c hc => by obtain ⟨x, _, rfl⟩ := List.mem_map.1 hc; rfl); refine ⟨h5, by simp, fun i hi => ?_⟩; simp at hi; rw [zaQ hi, zaQ hi]; have hm : nth xs i ∈ xs := zap hi; have h6 := hb.1 (dE (nth xs i)) (List.mem_map.2 ⟨_, hm, rfl⟩); have h7 := SlK.ent (G := G) h6 h2 (fun g hg hc => h3 (.bag (xs.map dE)) (by simp) g (Ent.bag_fp.2 ⟨_, List.mem_map.2 ⟨_, hm, rfl⟩, hg⟩) hc); exact ⟨(nth xs i).v, rfl, h7.toF rfl (fun _ => rfl)⟩
theorem zk6 {F : Frz} {w w' : World} {v : Value} {xs : List Ch} (hF : F.At w) (h : Hp w (fun _ => False) [.sl v 50 2 xs.length (xs.flatMap Ch.cells)] w') : ∃ G : Frz, Fx F w G w' ∧ SlC G v 2 ((xs.map Ch.er).map GChoice.enc) := by
  obtain ⟨G, h1, h2, h3⟩ := Fx.hp hF h; refine ⟨G, h1, ?_⟩; have h4 := SlK.ent (G := G) (h.own (.sl v 50 2 xs.length (xs.flatMap Ch.cells)) (by simp)) h2 (h3 _ (by simp))
  have e : xs.flatMap Ch.cells = (xs.map Ch.er).flatMap GChoice.enc := by
    rw [List.flatMap_map]; rfl
  rw [e] at h4; exact h4.toF (by simp) GChoice.len
end Go.Proofs.YtbpbhbkcahcdiaaGreatDoor
namespace Go.Proofs.YtbpbhbkcahcdiaaGreatDoor
open Go.RowKit
theorem zjR {w w' : World} {es es' rest : HS} (h : (Ent.bag (es ++ rest)).ok w) (hk : Hp w (fps es) es' w') : Hp w (Ent.bag (es ++ rest)).fp [.bag (es' ++ rest)] w' := by
  obtain ⟨hok, hap⟩ := Ent.bag_ok.1 h; obtain ⟨a1, a2, a3⟩ := List.pairwise_append.1 hap; have hold : ∀ e ∈ rest, ∀ g, e.fp g → w'.heap[g]? = w.heap[g]? := fun e he g hg => hk.base g (e.lt (hok e (List.mem_append_right _ he)) g hg) (fun ⟨f, hf, hfg⟩ => a3 f hf e he g hfg hg); refine ⟨hk.os, hk.tape, hk.output, hk.size, fun k hk1 hk2 => hk.base k hk1 (fun ⟨e, he, hg⟩ => hk2 (Ent.bag_fp.2 ⟨e, List.mem_append_left _ he, hg⟩)), ?_, ?_, List.pairwise_singleton _ _⟩
  · intro e he; simp at he; subst he; refine Ent.bag_ok.2 ⟨fun e he => ?_, List.pairwise_append.2 ⟨hk.apart, a2, fun e he f hf g hg hfg => ?_⟩⟩
    · rcases List.mem_append.1 he with he | he
      · exact hk.own e he
      · exact e.loc (hold e he) (hok e (List.mem_append_right _ he))
    · rcases hk.new e he g hg with ⟨x, hx, hxg⟩ | hn
      · exact a3 x hx f hf g hxg hfg
      · have := f.lt (hok f (List.mem_append_right _ hf)) g hfg; omega
  · intro e he g hg; simp at he; subst he; obtain ⟨f, hf, hfg⟩ := Ent.bag_fp.1 hg; rcases List.mem_append.1 hf with hf | hf
    · rcases hk.new f hf g hfg with ⟨x, hx, hxg⟩ | hn
      · exact .inl (Ent.bag_fp.2 ⟨x, List.mem_append_left _ hx, hxg⟩)
      · exact .inr hn
    · exact .inl (Ent.bag_fp.2 ⟨f, List.mem_append_right _ hf, hfg⟩)
theorem zg4 {w w' : World} {es : HS} (h : Hp w (fun _ => False) es w') : Hp w (fun _ => False) [.bag es] w' :=
  ⟨h.os, h.tape, h.output, h.size, h.base, fun e he => by simp at he; subst he; exact Ent.bag_ok.2 ⟨h.own, h.apart⟩, fun e he g hg => by
    simp at he; subst he; obtain ⟨f, hf, hfg⟩ := Ent.bag_fp.1 hg
    exact h.new f hf g hfg, List.pairwise_singleton _ _⟩
theorem zee {α : Type} {p q : α → Bool} : ∀ {l : List α}, (∀ x ∈ l, p x = q x) → l.all p = l.all q
  | [], _ => rfl
  | x :: r, h => by rw [List.all_cons, List.all_cons, h x (by simp), zee (l := r) (fun y hy => h y (by simp [hy]))]
theorem zlQ {Y : Tb} {L : Ws} : totG (gd Y L) ≤ Y.n * 64 := by
  unfold totG gd; rw [List.map_map]
  have : ∀ l : List Nat, (l.map ((fun x : GDomain => x.Channels.length) ∘ fun i => (⟨nth Y.st i, (chansN (nth L i)).map fun j : Nat => (j : Int)⟩ : GDomain))).sum ≤ l.length * 64 := by
    intro l
    induction l with
    | nil => simp
    | cons i r ih =>
      have := zgm (nth L i); simp only [List.map_cons, List.sum_cons, List.length_cons, Function.comp, List.length_map] at ih ⊢; omega
  have h := this (List.range Y.n)
  rwa [List.length_range] at h
theorem zdC : ∀ (n a : Nat) (l : List Int), (∀ q ∈ l, (a : Int) ≤ q ∧ q < (a : Int) + n) → l.Pairwise (· < ·) → l.Sublist ((List.range' a n).map fun j : Nat => (j : Int))
  | 0, a, l, h, _ => by
    cases l with
    | nil => exact List.Sublist.refl _
    | cons q r => have := h q (by simp); omega
  | n + 1, a, l, h, hp => by
    rw [List.range'_succ, List.map_cons]
    cases l with
    | nil => exact List.nil_sublist _
    | cons q r =>
      have hq := h q (by simp); have hr := List.pairwise_cons.1 hp; by_cases e : q = (a : Int)
      · subst e; refine List.Sublist.cons_cons _ (zdC n (a + 1) r (fun x hx => ?_) hr.2); have h1 := h x (by simp [hx]); have h2 := hr.1 x hx; omega
      · refine List.Sublist.cons _ (zdC n (a + 1) (q :: r) (fun x hx => ?_) hp); have h1 := h x hx; rcases List.mem_cons.1 hx with rfl | hx
        · omega
        · have h2 := hr.1 x hx; omega
theorem zlk {l : List Int} (h : incB cmpI l = true) : l.Pairwise (· < ·) := by
  unfold incB at h; rw [List.all_eq_true] at h
  have step : ∀ k, k + 1 < l.length → nth l k < nth l (k + 1) := fun k hk => by
    have := h (k + 1) (List.mem_range.2 hk); simp only [Bool.or_eq_true, decide_eq_true_eq, Bool.not_eq_true', decide_eq_false_iff_not, Nat.add_sub_cancel] at this; rcases this with h1 | h1
    · omega
    · unfold cmpI at h1; split at h1
      · assumption
      · split at h1 <;> omega
  rw [List.pairwise_iff_getElem]; intro i j hi hj hij
  have key : ∀ m, i + m + 1 < l.length → nth l i < nth l (i + m + 1) := by
    intro m
    induction m with
    | zero => intro h; exact step i h
    | succ m ih => intro h; exact Int.lt_trans (ih (by omega)) (step (i + m + 1) (by omega))
  have := key (j - i - 1) (by omega); rw [show i + (j - i - 1) + 1 = j by omega, zao hi, zao hj] at this; exact this
theorem zjG {P : Pb} (hok : P.ok = true) {i : Nat} (hi : i < P.ds.length) : (nth P.ds i).chs.Sublist ((List.range' 0 64).map fun j : Nat => (j : Int)) := by
  have hb := ((Pb.good hok).chs _ (zap hi)).2; refine zdC 64 0 _ (fun q hq => by have := hb q hq; omega) (zlk ?_); simp only [Pb.ok, Bool.and_eq_true] at hok; have := allB_mem.1 hok.1 _ (zap hi); simp only [Dx.ok, Bool.and_eq_true] at this; exact this.2.2
def GDomain.b (x : GDomain) : Dx := ⟨x.Station, .slice none 0 0, x.Channels⟩
def pbG (p : GProblem) : Pb := ⟨p.Domains.map GDomain.b, p.Rules.Pairs.map GPair.b, p.Rules.Loads.map GLoad.b, p.Rules.Caps.map GCap.b⟩
def okG (p : GProblem) : Bool := (pbG p).ok
theorem zli (P : Pb) : P.ok = okG P.er := by
  have e1 : (pbG P.er).ps = P.ps := zdr (fun _ => rfl) P.ps; have e2 : (pbG P.er).ls = P.ls := zdr (fun _ => rfl) P.ls; have e3 : (pbG P.er).cs = P.cs := zdr (fun _ => rfl) P.cs
  have e4 : (pbG P.er).ds = P.ds.map fun d => ⟨d.st, .slice none 0 0, d.chs⟩ := by
    show (P.ds.map Dx.er).map GDomain.b = _
    rw [List.map_map]; rfl
  (have e5 : (pbG P.er).ds.map (·.st) = P.ds.map (·.st) := by rw [e4, List.map_map]; rfl); (have e6 : (pbG P.er).has = P.has := by funext i; unfold Pb.has; rw [e5]); (have hn : ∀ k, k < P.ds.length → nth (pbG P.er).ds k = ⟨(nth P.ds k).st, .slice none 0 0, (nth P.ds k).chs⟩ := fun k hk => by rw [e4, zaQ hk]); (have hl : (pbG P.er).ds.length = P.ds.length := by rw [e4, List.length_map])
  have e7 : allB Dx.ok (pbG P.er).ds = allB Dx.ok P.ds := by
    unfold allB; rw [hl]; refine zee fun k hk => ?_; rw [hn k (List.mem_range.1 hk)]; rfl
  have e8 : incB (fun a b => cmpI a.st b.st) (pbG P.er).ds = incB (fun a b => cmpI a.st b.st) P.ds := by
    unfold incB; rw [hl]; refine zee fun k hk => ?_; have := List.mem_range.1 hk; rw [hn k this, hn (k - 1) (by omega)]
  unfold okG Pb.ok Pb.rulesOk; rw [e1, e2, e3, e6, e7, e8]
theorem zk2 {P : Pb} {Y : Tb} (hok : P.ok = true) (hY : TbOf P Y) : gd Y P.left = P.er.Domains ∧ In51 P.left := by
  have hG := Pb.good hok; have hn := hY.n; have hb : ∀ i, i < P.ds.length → ∀ q ∈ (nth P.ds i).chs, 2 ≤ q ∧ q ≤ 51 := fun i hi => (hG.chs _ (zap hi)).2; (have hleft : ∀ i, i < P.ds.length → nth P.left i = zbI (nth P.ds i).chs := fun i hi => by unfold Pb.left; rw [zaQ hi]); constructor
  · refine zea (by rw [za5, hn]; simp [Pb.er]) fun i hi => ?_; rw [za5] at hi; (have hi' : i < P.ds.length := by omega); rw [zbq hi, hleft i hi']
    show _ = nth (P.ds.map Dx.er) i
    rw [za9 hi', hY.nth_st hi]; unfold Dx.er
    congr 1
    -- the channels of the word are the channels
    refine zcn (l := (List.range' 0 64).map fun j : Nat => (j : Int)) (chansN_sub.map _) ?_ (zdh List.nodup_range') (fun q => ?_)
    · exact zjG hok hi'
    · rw [mapI_mem]; constructor
      · rintro ⟨j, hj, rfl⟩; exact (zdi (fun c hc => by have := hb i hi' c hc; omega)).1 (chansN_mem.1 hj)
      · intro hq; have h2 := hb i hi' q hq; refine ⟨q.toNat, chansN_mem.2 ((zdi (fun c hc => by have := hb i hi' c hc; omega)).2 ?_), by omega⟩; rw [Int.toNat_of_nonneg (by omega)]; exact hq
  · intro i j hj; rcases Nat.lt_or_ge i P.ds.length with hi | hi
    · rw [hleft i hi] at hj; have := hb i hi _ ((zdi (fun c hc => by have := hb i hi c hc; omega)).1 hj); omega
    · unfold nth at hj; rw [List.getD_eq_getElem?_getD, List.getElem?_eq_none (by unfold Pb.left; rw [List.length_map]; exact hi)] at hj; have hj' : (0#64).getLsbD j = true := hj; rw [BitVec.getLsbD_zero] at hj'
      cases hj'
structure SK where
  sp : Nat
  gl : GL
  tp : Nat
  w0 : World
  Y : Tb
abbrev stL (k : SK) (L : Ws) (b : Bool) : HS := [sRow k.sp k.gl k.tp k.Y.n b, zaK k.gl k.Y.n L, Ent.fz k.w0]
abbrev stE (k : SK) (L : Ws) (b : Bool) : Ent := .bag (stL k L b)
structure SI (p : GProblem) (m : List GDomain × Bool) (k : SK) (L : Ws) : Prop where
  pb : ∃ P : Pb, P.er = p ∧ P.ok = true ∧ TbOf P k.Y
  tb : TablesAt k.w0 k.tp k.Y
  len : L.length = k.Y.n
  good : m.2 = true → Closed k.Y L ∧ In51 L ∧ m.1 = gd k.Y L
  bad : m.2 = false → m.1 = []
theorem SI.of {P : Pb} {k : SK} {T L : Ws} {c : Bool} (hok : P.ok = true) (hY : TbOf P k.Y) (ht : TablesAt k.w0 k.tp k.Y) (hT : T.length = k.Y.n) (hb : In51 T) (hI : Is k.Y T L c) {fuel : Nat} (hf : 100000 ≤ fuel) {r : List GDomain × Bool} (hr : zaR fuel P.er (gd k.Y T) = some r) : SI P.er r k L ∧ c = !r.2 := by
  have hG := Pb.good hok; have hn := hY.n; have h512 := hG.n
  obtain ⟨r', h1, h2⟩ := zhn (fuel := fuel) (zle hok) (zlr (Y := k.Y) (L := T) (by omega)) (by rw [za5]; omega) (by
    have : totG (gd k.Y T) ≤ k.Y.n * 64 := zlQ
    omega)
  rw [hr] at h1; obtain rfl := Option.some.inj h1; have h3 := zj8 hok hY hb hI.fin h2
  cases c with
  | true =>
    rw [if_pos rfl] at h3; subst h3; exact ⟨⟨⟨P, rfl, hok, hY⟩, ht, hI.len, (fun h => by cases h), fun _ => rfl⟩, rfl⟩
  | false =>
    rw [if_neg (by simp)] at h3; subst h3; exact ⟨⟨⟨P, rfl, hok, hY⟩, ht, hI.len, fun _ => ⟨hI.good rfl, hb.le hI.sub, rfl⟩, (fun h => by cases h)⟩, rfl⟩
section
variable {F0 : Frz} {w : World}
theorem zlv {vd vp vl vc : Value} {cd : List (List Value)} {p : GProblem} (hF0 : F0.At w) (h : PbF F0 vd cd vp vl vc p) (htab : Tab w) (hv : okG p = true) {fuel : Nat} (hf : 100000 ≤ fuel) {r : List GDomain × Bool} (hr : zaR fuel p p.Domains = some r) :
    Calls Tryz.prog 40 #[.agg [vd, vp, vl, vc].toArray] w fun e w' => ∃ y : SK × Ws, SI p r y.1 y.2 ∧ e = .returned (.tuple #[.pointer (some ⟨y.1.sp, 0, none⟩), .int .i64 0]) ∧ Hp w (fun _ => False) [stE y.1 y.2 (!r.2)] w' := by
  obtain ⟨P, rfl, hP⟩ := zhj h hF0; (have hok : P.ok = true := by rw [zli]; exact hv); refine (zlH P vd vp vl vc w hP htab hok).mono ?_; rintro e w' ⟨⟨sp, gl, tp, Y, L, c, w0⟩, hN, rfl, hw⟩; dsimp only at hN hw ⊢; have hI := hN.is (Pb.good hok); obtain ⟨h1, h2⟩ := zk2 hok hN.tb; rw [← h1] at hr; obtain ⟨h3, h4⟩ := SI.of (k := ⟨sp, gl, tp, w0, Y⟩) hok hN.tb hN.at' hI.tlen h2 hI hf hr; refine ⟨⟨⟨sp, gl, tp, w0, Y⟩, L⟩, h3, rfl, zg4 ?_⟩
  show Hp w (fun _ => False) [sRow sp gl tp Y.n (!r.2), zaK gl Y.n L, Ent.fz w0] w'
  rw [hN.tb.n, ← h4]; exact hw
theorem ziy {vd vp vl vc : Value} {cd : List (List Value)} {p : GProblem} (hF0 : F0.At w) (h : PbF F0 vd cd vp vl vc p) (hv : okG p = false) :
    Calls Tryz.prog 40 #[.agg [vd, vp, vl, vc].toArray] w fun e w' => e = .returned (.tuple #[.pointer none, .int .i64 2]) ∧ Below w.heap.size w w' := by
  obtain ⟨P, rfl, hP⟩ := zhj h hF0; exact zlf P vd vp vl vc w hP (by rw [zli]; exact hv)
end
end Go.Proofs.YtbpbhbkcahcdiaaGreatDoor
