/- Uu Of: shortened and put together by squeeze.py. -/
import Derived.Test.YtnhdlloidbomdaaQ10
import Derived.Deep.Slices
import Derived.ChangeArms
set_option maxRecDepth 100000
set_option maxHeartbeats 4000000
set_option linter.unusedVariables false
set_option linter.unusedSectionVars false
set_option linter.unusedSimpArgs false
namespace Go.Proofs.Ytnhdlloidbomdaa
open Go.RowKit
theorem zhH {n : Nat} (h : 100000 ≤ n) : zco n = some true := by
  obtain ⟨m, rfl⟩ : ∃ m, n = m + 100000 := ⟨n - 100000, by omega⟩
  kernel_rfl
theorem ziq {ρ : Type} {hs : List GChoice} (h : VL hs) (K : (Int → Option Int) → Option ρ) : ∃ f : Int → Option Int, (∀ n, f n = none ∧ onL hs n = 0 ∨ f n = some (onL hs n)) ∧ zaj (fun (i_14 : Nat) (next13 : (Int → Option Int) → Option ρ) (l_12 : (Int → Option Int)) => next13 (mput l_12 ((nth hs i_14).Station) ((nth hs i_14).Channel))) K (hs.length - 0) 0 (fun (_ : Int) => (none : Option Int)) = K f := by
  obtain ⟨h1, h2⟩ := zcc (k := K) (n := hs.length - 0) (s := fun (_ : Int) => (none : Option Int))
    (f := fun (i_14 : Nat) (next13 : (Int → Option Int) → Option ρ) (l_12 : (Int → Option Int)) => next13 (mput l_12 ((nth hs i_14).Station) ((nth hs i_14).Channel)))
    (fun i f => ∀ n, f n = none ∧ onL (hs.take i) n = 0 ∨ f n = some (onL (hs.take i) n))
    (fun i f => mput f ((nth hs i).Station) ((nth hs i).Channel))
    (fun n => .inl ⟨rfl, rfl⟩)
    (fun i f hi hf n => by
      rw [zeS h (by omega)]; by_cases e : n = (nth hs i).Station
      · rw [if_pos e, e, zea]; exact .inr rfl
      · rw [if_neg e, zcZ _ _ e]; exact hf n)
    (fun i next f hi hf => rfl)
  refine ⟨_, fun n => ?_, h1⟩; have := h2 n
  rwa [Nat.sub_zero, List.take_length] at this
def zbV (hs : List GChoice) (d : GDomain) : GChoice := ⟨d.Station, bif za5 d.Channels (onL hs d.Station) then onL hs d.Station else nth d.Channels 0⟩
def zdm (d : GDomain) : Bool := decide ((d.Channels.length : Int) = 0)
theorem zjd {p : GProblem} {i : Nat} (hi : i < p.Domains.length) (h : zdm (nth p.Domains i) = true) : p.Domains.any zdm = true := List.any_eq_true.2 ⟨_, zaB hi, h⟩
theorem ziU {p : GProblem} (h : ∀ j, j < p.Domains.length → zdm (nth p.Domains j) = false) : p.Domains.any zdm = false := by
  rw [List.any_eq_false]; intro d hd; obtain ⟨j, hj, rfl⟩ := List.mem_iff_getElem.1 hd; rw [← zaN hj, h j hj]; simp
theorem zif {ρ : Type} {p : GProblem} (z : Option ρ) (K : (Int → Option Bool) → Option ρ) (post : Option ρ → Prop) (h1 : p.Domains.any zdm = true → post z)
    (h2 : p.Domains.any zdm = false → ∀ f : Int → Option Bool, (∀ j, j < p.Domains.length → f (nth p.Domains j).Station = some true) → post (K f)) :
    post (zaj (fun (i_7 : Nat) (next6 : (Int → Option Bool) → Option ρ) (l_5 : (Int → Option Bool)) => (bif decide ((((nth p.Domains i_7).Channels).length : Int) = 0) then z else next6 (mput l_5 ((nth p.Domains i_7).Station) true))) K (p.Domains.length - 0) 0 (fun (_ : Int) => (none : Option Bool))) := by
  refine zdj (fun i f => ∀ j, j < i → zdm (nth p.Domains j) = false ∧ f (nth p.Domains j).Station = some true) post (fun j hj => absurd hj (Nat.not_lt_zero j)) (fun f hf => ?_) (fun i f next hi hf hn => ?_)
  · exact h2 (ziU fun j hj => (hf j (by omega)).1) f fun j hj => (hf j (by omega)).2
  · cases he : decide ((((nth p.Domains i).Channels).length : Int) = 0) with
    | true => exact h1 (zjd (by omega) he)
    | false =>
      refine hn _ fun j hj => ?_; by_cases e : (nth p.Domains j).Station = (nth p.Domains i).Station
      · rw [e, zea]; refine ⟨?_, rfl⟩; rcases Nat.lt_or_ge j i with hlt | hge
        · exact (hf j hlt).1
        · (obtain rfl : j = i := by omega); exact he
      · have hlt : j < i := by
          rcases Nat.lt_or_ge j i with hlt | hge
          · exact hlt
          · (obtain rfl : j = i := by omega); exact absurd rfl e
        rw [zcZ _ _ e]; exact hf j hlt
theorem zez {α : Type} [Inhabited α] {l : List α} {i j : Nat} {a : α} (hj : j < l.length) : nth (l.set i a) j = if i = j then a else nth l j := by
  rw [zaN (by rw [List.length_set]; exact hj), List.getElem_set, zaN hj]
theorem zgy {α : Type} [Inhabited α] {a b : List α} (hl : a.length = b.length) (h : ∀ j, j < a.length → nth a j = nth b j) : a = b := by
  refine List.ext_getElem hl fun i h1 h2 => ?_; have := h i h1
  rwa [zaN h1, zaN h2] at this
theorem zjb {p : GProblem} (hp : okP p = true) {d : GDomain} (hd : d ∈ p.Domains) : za5 d.Channels 0 = false := by
  have h := List.all_eq_true.1 (zbv hp) d hd; have h2 := List.all_eq_true.1 (zbv (zbH h)); rw [ze8, List.any_eq_false]; intro x hx hc; have := zgr (h2 x hx); have := of_decide_eq_true hc; omega
theorem zhY {p : GProblem} {hs : List GChoice} : zcd p hs = some (bif okP p && zax hs then (bif p.Domains.any zdm then ([], 9) else (p.Domains.map (zbV hs), 0)) else ([], 2)) := by
  unfold zcd; simp only [zaK, ziT, Option.bind_some]
  cases hp : okP p
  · rfl
  cases hv : zax hs
  · rfl
  simp only [Bool.not_true, Bool.or_false, cond_false, Bool.and_true, cond_true]; have hV := zjk hv; refine zif (post := fun r => r = some (bif p.Domains.any zdm then ([], 9) else (p.Domains.map (zbV hs), 0))) _ _ (fun h => by rw [h]; rfl) (fun h f hf => ?_); rw [h]
  obtain ⟨g, hg, he⟩ := ziq hV (ρ := List GChoice × Int) (fun l_10 => grd (room p.Domains.length 16) <| zaj (fun (i_20 : Nat) (next19 : List GChoice → Option (List GChoice × Int)) (l_18 : List GChoice) =>
            grd (0 ≤ 0 ∧ 0 < (((nth p.Domains i_20).Channels).length : Int)) <|
            grd (0 ≤ (i_20 : Int) ∧ (i_20 : Int) < (l_18.length : Int)) <|
            (bif ((((mkeep l_10 (fun k => (f k).getD false)) ((nth p.Domains i_20).Station)).isSome) && (zaz ((nth p.Domains i_20).Channels) (((mkeep l_10 (fun k => (f k).getD false)) ((nth p.Domains i_20).Station)).getD 0))) then
              grd (0 ≤ (i_20 : Int) ∧ (i_20 : Int) < ((l_18.set i_20 (GChoice.mk ((nth p.Domains i_20).Station) (nth ((nth p.Domains i_20).Channels) 0))).length : Int)) <|
              next19 ((l_18.set i_20 (GChoice.mk ((nth p.Domains i_20).Station) (nth ((nth p.Domains i_20).Channels) 0))).set i_20 (GChoice.mk ((nth (l_18.set i_20 (GChoice.mk ((nth p.Domains i_20).Station) (nth ((nth p.Domains i_20).Channels) 0))) i_20).Station) (((mkeep l_10 (fun k => (f k).getD false)) ((nth p.Domains i_20).Station)).getD 0)))
              else
              next19 (l_18.set i_20 (GChoice.mk ((nth p.Domains i_20).Station) (nth ((nth p.Domains i_20).Channels) 0))))) (fun (l_18 : List GChoice) => some (l_18, 0)) (p.Domains.length - 0) 0 (List.replicate p.Domains.length (GChoice.mk 0 0)))
  refine Eq.trans he ?_; have hlen := zfG (zbv hp) (zbv (zbH (zbH hp))); rw [zaR (by unfold room; omega)]; refine zdj (fun i (l : List GChoice) => l.length = p.Domains.length ∧ ∀ j, j < i → nth l j = zbV hs (nth p.Domains j)) (fun r => r = some (p.Domains.map (zbV hs), 0)) ⟨by simp, fun j hj => absurd hj (Nat.not_lt_zero j)⟩ (fun l hl => ?_) (fun i l next hi hl hn => ?_)
  · refine congrArg (fun x => some (x, (0 : Int))) (zgy (by rw [hl.1, List.length_map]) fun j hj => ?_); rw [hl.2 j (by omega), zcW (by omega)]
  · have hm := zaB (show i < p.Domains.length by omega)
    have hne : (0 : Int) < ((nth p.Domains i).Channels.length : Int) := by
      have h3 := List.any_eq_false.1 h _ hm; have h4 : ¬ ((nth p.Domains i).Channels.length : Int) = 0 := fun e => h3 (decide_eq_true e); omega
    rw [zaR ⟨by omega, hne⟩, zaR ⟨by omega, by omega⟩]
    have hk : mkeep g (fun k => (f k).getD false) (nth p.Domains i).Station = g (nth p.Domains i).Station := by
      show (bif (f (nth p.Domains i).Station).getD false then g (nth p.Domains i).Station else none) = g (nth p.Domains i).Station
      rw [hf i (by omega)]; rfl
    have step : ∀ a : GChoice, a = zbV hs (nth p.Domains i) → ∀ l' : List GChoice, l'.length = l.length → (∀ j, j < l.length → nth l' j = if i = j then a else nth l j) → next l' = some (p.Domains.map (zbV hs), 0) := fun a ha l' h5 h6 => by
      refine hn l' ⟨by omega, fun j hj => ?_⟩; rw [h6 j (by omega)]; by_cases e : i = j
      · rw [if_pos e, ha, e]
      · rw [if_neg e]; exact hl.2 j (by omega)
    rw [hk, zg1]; rcases hg (nth p.Domains i).Station with ⟨h3, h4⟩ | h3
    · rw [h3]; simp only [Option.isSome_none, Bool.false_and, cond_false]; refine step _ ?_ _ (List.length_set ..) (fun j hj => zez hj); unfold zbV; rw [h4, zjb hp hm]; rfl
    · rw [h3]; simp only [Option.isSome_some, Bool.true_and, Option.getD_some]
      cases hH : za5 (nth p.Domains i).Channels (onL hs (nth p.Domains i).Station) with
      | true =>
        rw [cond_true, zaR ⟨by omega, by rw [List.length_set]; omega⟩]; refine step ⟨(nth p.Domains i).Station, onL hs (nth p.Domains i).Station⟩ ?_ _ (by rw [List.length_set, List.length_set]) (fun j hj => ?_)
        · unfold zbV; rw [hH]; rfl
        · rw [zez (by rw [List.length_set]; exact hj), zez hj, zez (by omega), if_pos rfl]; by_cases e : i = j
          · rw [if_pos e, if_pos e]
          · rw [if_neg e, if_neg e, if_neg e]
      | false =>
        rw [cond_false]; refine step _ ?_ _ (List.length_set ..) (fun j hj => zez hj); unfold zbV; rw [hH]; rfl
theorem zd8 {n : Int} : ∀ {l : List GChoice}, (∀ x ∈ l, x.Station ≠ n) → onL l n = 0
  | [], _ => rfl
  | x :: l, h => by
    show (bif decide (x.Station = n) then x.Channel else onL l n) = 0
    rw [decide_eq_false (h x (List.mem_cons_self ..)), cond_false]; exact zd8 fun y hy => h y (List.mem_cons_of_mem _ hy)
theorem ze3 {l : List GChoice} (h : VL l) {i : Nat} (hi : i < l.length) : onL l (nth l i).Station = (nth l i).Channel := by
  have key : ∀ m, i + 1 + m ≤ l.length → onL (l.take (i + 1 + m)) (nth l i).Station = (nth l i).Channel := fun m => by
    induction m with
    | zero => intro _; rw [Nat.add_zero, zeS h hi, if_pos rfl]
    | succ m ih =>
      intro hm; rw [← Nat.add_assoc, zeS h (by omega), if_neg (by have := h.lt i (i + 1 + m) (by omega) (by omega); omega)]; exact ih (by omega)
  have := key (l.length - (i + 1)) (by omega)
  rwa [show i + 1 + (l.length - (i + 1)) = l.length by omega, List.take_length] at this
structure Comp (p : GProblem) (l : List GChoice) : Prop where
  len : l.length = p.Domains.length
  st : ∀ i, i < p.Domains.length → (nth l i).Station = (nth p.Domains i).Station
  ch : ∀ i, i < p.Domains.length → za5 (nth p.Domains i).Channels (nth l i).Channel = true
theorem zhh {l : List GChoice} (h : VL l) : (l.map (·.Station)).Pairwise (· < ·) := by
  rw [List.pairwise_map, List.pairwise_iff_getElem]; intro i j hi hj hij; have := h.lt i j hij hj
  rwa [zaN hi, zaN hj] at this
theorem ziX {p : GProblem} {l : List GChoice} (hp : okP p = true) (hl : VL l) : Comp p l ↔ (∀ d ∈ p.Domains, onL l d.Station ≠ 0 ∧ za5 d.Channels (onL l d.Station) = true) ∧ ∀ x ∈ l, anyD p x.Station = true := by
  constructor
  · intro h; refine ⟨fun d hd => ?_, fun x hx => ?_⟩
    · obtain ⟨i, hi, rfl⟩ := List.mem_iff_getElem.1 hd; have h1 := ze3 hl (show i < l.length by rw [h.len]; exact hi); rw [h.st i hi] at h1; have h2 := hl.ch i (by rw [h.len]; exact hi); rw [← zaN hi, h1]; exact ⟨by omega, h.ch i hi⟩
    · obtain ⟨i, hi, rfl⟩ := List.mem_iff_getElem.1 hx; rw [anyD_mem, ← zaN hi, h.st i (by rw [← h.len]; exact hi)]; exact List.mem_map.2 ⟨_, zaB (by rw [← h.len]; exact hi), rfl⟩
  · rintro ⟨h1, h2⟩
    have e : l.map (·.Station) = p.Domains.map (·.Station) := zeu (zhh hl) (zcC (zbq hp).i) fun x => by
      constructor
      · intro hx; obtain ⟨y, hy, rfl⟩ := List.mem_map.1 hx; exact anyD_mem.1 (h2 y hy)
      · intro hx; obtain ⟨d, hd, rfl⟩ := List.mem_map.1 hx; by_cases hn : d.Station ∈ l.map (·.Station)
        · exact hn
        · exact absurd (zd8 fun y hy q => hn (List.mem_map.2 ⟨y, hy, q⟩)) (h1 d hd).1
    (have hlen : l.length = p.Domains.length := by have := congrArg List.length e; rwa [List.length_map, List.length_map] at this)
    have hst : ∀ i, i < p.Domains.length → (nth l i).Station = (nth p.Domains i).Station := fun i hi => by
      have h3 := congrArg (fun m => nth m i) e
      rwa [zcW (by omega), zcW hi] at h3
    refine ⟨hlen, hst, fun i hi => ?_⟩; have h3 := (h1 _ (zaB hi)).2; rw [← hst i hi, ze3 hl (by omega)] at h3; exact h3
structure Board (p : GProblem) (l : List GChoice) (b : Gboard) : Prop where
  pb : b.p = p
  on : TabC l b.on
  dm : ∀ i, i < p.Domains.length → Vec.get b.domains (nth p.Domains i).Station.toNat = (nth p.Domains i).Channels
  pr : ∀ n, n < 512 → Vec.get b.pairs n = p.Rules.Pairs.flatMap fun c => (bif decide (c.A = (n : Int)) then [c] else []) ++ (bif decide (c.B = (n : Int)) then [c] else [])
  cp : ∀ n, n < 512 → Vec.get b.caps n = p.Rules.Caps.filter fun c => decide (c.Station = (n : Int))
  inn : ∀ n, n < 512 → Vec.get b.into n = p.Rules.Loads.filter fun c => decide (c.To = (n : Int))
  fr : ∀ n, n < 512 → Vec.get b.from_ n = p.Rules.Loads.filter fun c => decide (c.From = (n : Int))
theorem zd4 {α : Type} [Inhabited α] {xs : List α} {i : Nat} (hi : i < xs.length) (q : α → Bool) : (xs.take (i + 1)).filter q = (xs.take i).filter q ++ bif q (nth xs i) then [nth xs i] else [] := by
  rw [zd9 hi, List.filter_append, List.filter_cons]
  cases q (nth xs i) <;> rfl
theorem zeF {α : Type} {xs : List α} {i : Nat} (q : α → Bool) : ((xs.take i).filter q).length ≤ i := Nat.le_trans (List.length_filter_le _ _) (by rw [List.length_take]; omega)
theorem zjh {α ρ : Type} [Inhabited α] {xs : List α} {key : α → Int} {sz : Nat} (hs : sz ≤ 100) (hn : xs.length ≤ 10000) (hk : ∀ x ∈ xs, 0 ≤ key x ∧ key x < 512) (K : Vec 512 (List α) → Option ρ) : ∃ c : Vec 512 (List α), (∀ n, n < 512 → Vec.get c n = xs.filter fun x => decide (key x = (n : Int))) ∧
    zaj (fun (i : Nat) (next : Vec 512 (List α) → Option ρ) (c : Vec 512 (List α)) => grd (0 ≤ key (nth xs i) ∧ key (nth xs i) < (512 : Int)) <| grd (room (Vec.get c (key (nth xs i)).toNat ++ [nth xs i]).length sz) <| next (Vec.put c (key (nth xs i)).toNat (Vec.get c (key (nth xs i)).toNat ++ [nth xs i]))) K (xs.length - 0) 0 (Vec.fill 512 []) = K c := by
  obtain ⟨h1, h2⟩ := zcc (k := K) (n := xs.length - 0) (s := Vec.fill 512 ([] : List α))
    (f := fun (i : Nat) (next : Vec 512 (List α) → Option ρ) (c : Vec 512 (List α)) => grd (0 ≤ key (nth xs i) ∧ key (nth xs i) < (512 : Int)) <| grd (room (Vec.get c (key (nth xs i)).toNat ++ [nth xs i]).length sz) <| next (Vec.put c (key (nth xs i)).toNat (Vec.get c (key (nth xs i)).toNat ++ [nth xs i])))
    (fun i c => ∀ n, n < 512 → Vec.get c n = (xs.take i).filter fun x => decide (key x = (n : Int)))
    (fun i c => Vec.put c (key (nth xs i)).toNat (Vec.get c (key (nth xs i)).toNat ++ [nth xs i]))
    (fun n hn => Vec.get_fill hn)
    (fun i c hi hc n hn => by
      have h3 := hk _ (zaB (show i < xs.length by omega)); rw [zd4 (by omega), Vec.get_put (by omega)]; by_cases e : n = (key (nth xs i)).toNat
      · rw [if_pos e, decide_eq_true (show key (nth xs i) = (n : Int) by omega), ← e, hc n hn]; rfl
      · rw [if_neg e, decide_eq_false (show ¬ key (nth xs i) = (n : Int) by omega), hc n hn, cond_false, List.append_nil])
    (fun i next c hi hc => by
      have h3 := hk _ (zaB (show i < xs.length by omega)); rw [zaR ⟨h3.1, h3.2⟩, zaR]; rw [hc _ (by omega), List.length_append]; have := zeF (xs := xs) (i := i) fun x => decide (key x = (((key (nth xs i)).toNat : Nat) : Int)); unfold room; simp only [List.length_cons, List.length_nil]; have h4 : ((List.filter (fun x => decide (key x = (((key (nth xs i)).toNat : Nat) : Int))) (List.take i xs)).length + (0 + 1)) * sz ≤ 10001 * 100 := Nat.mul_le_mul (by omega) hs
      omega)
  refine ⟨_, fun n hn => ?_, h1⟩; have := h2 n hn
  rwa [Nat.sub_zero, List.take_length] at this
abbrev abF (n : Nat) (c : GPair) : List GPair := (bif decide (c.A = (n : Int)) then [c] else []) ++ (bif decide (c.B = (n : Int)) then [c] else [])
theorem zhi (n : Nat) : ∀ l : List GPair, (l.flatMap (abF n)).length ≤ 2 * l.length
  | [] => by simp
  | c :: l => by
    have := zhi n l; rw [List.flatMap_cons, List.length_append, List.length_cons]
    have h : (abF n c).length ≤ 2 := by
      unfold abF
      cases decide (c.A = (n : Int)) <;> cases decide (c.B = (n : Int)) <;> simp
    omega
theorem zio {ρ : Type} {xs : List GPair} (hn : xs.length ≤ 10000) (hk : ∀ x ∈ xs, (0 ≤ x.A ∧ x.A < 512) ∧ 0 ≤ x.B ∧ x.B < 512) (K : Vec 512 (List GPair) → Option ρ) : ∃ c : Vec 512 (List GPair), (∀ n, n < 512 → Vec.get c n = xs.flatMap (abF n)) ∧
    zaj (fun (i_17 : Nat) (next16 : Vec 512 (List GPair) → Option ρ) (c_15 : Vec 512 (List GPair)) =>
          grd (0 ≤ (nth xs i_17).A ∧ (nth xs i_17).A < (512 : Int)) <|
          grd (room ((Vec.get c_15 (((nth xs i_17).A).toNat)) ++ [(nth xs i_17)]).length 40) <|
          grd (0 ≤ (nth xs i_17).B ∧ (nth xs i_17).B < (512 : Int)) <|
          grd (room ((Vec.get (Vec.put c_15 (((nth xs i_17).A).toNat) ((Vec.get c_15 (((nth xs i_17).A).toNat)) ++ [(nth xs i_17)])) (((nth xs i_17).B).toNat)) ++ [(nth xs i_17)]).length 40) <|
          next16 (Vec.put (Vec.put c_15 (((nth xs i_17).A).toNat) ((Vec.get c_15 (((nth xs i_17).A).toNat)) ++ [(nth xs i_17)])) (((nth xs i_17).B).toNat) ((Vec.get (Vec.put c_15 (((nth xs i_17).A).toNat) ((Vec.get c_15 (((nth xs i_17).A).toNat)) ++ [(nth xs i_17)])) (((nth xs i_17).B).toNat)) ++ [(nth xs i_17)]))) K (xs.length - 0) 0 (Vec.fill 512 []) = K c := by
  obtain ⟨h1, h2⟩ := zcc (k := K) (n := xs.length - 0) (s := Vec.fill 512 ([] : List GPair))
    (f := fun (i_17 : Nat) (next16 : Vec 512 (List GPair) → Option ρ) (c_15 : Vec 512 (List GPair)) =>
          grd (0 ≤ (nth xs i_17).A ∧ (nth xs i_17).A < (512 : Int)) <|
          grd (room ((Vec.get c_15 (((nth xs i_17).A).toNat)) ++ [(nth xs i_17)]).length 40) <|
          grd (0 ≤ (nth xs i_17).B ∧ (nth xs i_17).B < (512 : Int)) <|
          grd (room ((Vec.get (Vec.put c_15 (((nth xs i_17).A).toNat) ((Vec.get c_15 (((nth xs i_17).A).toNat)) ++ [(nth xs i_17)])) (((nth xs i_17).B).toNat)) ++ [(nth xs i_17)]).length 40) <|
          next16 (Vec.put (Vec.put c_15 (((nth xs i_17).A).toNat) ((Vec.get c_15 (((nth xs i_17).A).toNat)) ++ [(nth xs i_17)])) (((nth xs i_17).B).toNat) ((Vec.get (Vec.put c_15 (((nth xs i_17).A).toNat) ((Vec.get c_15 (((nth xs i_17).A).toNat)) ++ [(nth xs i_17)])) (((nth xs i_17).B).toNat)) ++ [(nth xs i_17)])))
    (fun i c => ∀ n, n < 512 → Vec.get c n = (xs.take i).flatMap (abF n))
    (fun i c => Vec.put (Vec.put c (((nth xs i).A).toNat) ((Vec.get c (((nth xs i).A).toNat)) ++ [(nth xs i)])) (((nth xs i).B).toNat) ((Vec.get (Vec.put c (((nth xs i).A).toNat) ((Vec.get c (((nth xs i).A).toNat)) ++ [(nth xs i)])) (((nth xs i).B).toNat)) ++ [(nth xs i)]))
    (fun n hn => Vec.get_fill hn)
    (fun i c hi hc n hn => by
      have h3 := hk _ (zaB (show i < xs.length by omega)); rw [zd9 (by omega), List.flatMap_append, ← hc n hn, Vec.get_put (by omega), Vec.get_put (by omega), Vec.get_put (by omega)]
      show _ = Vec.get c n ++ (abF n (nth xs i) ++ [])
      rw [List.append_nil]; unfold abF; by_cases eA : n = ((nth xs i).A).toNat <;> by_cases eB : n = ((nth xs i).B).toNat
      · rw [if_pos eB, if_pos (by omega), decide_eq_true (show (nth xs i).A = (n : Int) by omega), decide_eq_true (show (nth xs i).B = (n : Int) by omega), ← eA]; simp
      · rw [if_neg eB, if_pos eA, decide_eq_true (show (nth xs i).A = (n : Int) by omega), decide_eq_false (show ¬ (nth xs i).B = (n : Int) by omega), ← eA]; simp
      · rw [if_pos eB, if_neg (by omega), decide_eq_false (show ¬ (nth xs i).A = (n : Int) by omega), decide_eq_true (show (nth xs i).B = (n : Int) by omega), ← eB]; simp
      · rw [if_neg eB, if_neg eA, decide_eq_false (show ¬ (nth xs i).A = (n : Int) by omega), decide_eq_false (show ¬ (nth xs i).B = (n : Int) by omega)]; simp)
    (fun i next c hi hc => by
      have h3 := hk _ (zaB (show i < xs.length by omega))
      have hb : ∀ n, n < 512 → (Vec.get c n).length ≤ 20000 := fun n hn => by
        rw [hc n hn]; have h4 := zhi n (xs.take i); rw [List.length_take] at h4; omega
      have hr : ∀ l : List GPair, l.length ≤ 20001 → room (l ++ [nth xs i]).length 40 := fun l hl => by
        rw [List.length_append]; unfold room; simp only [List.length_cons, List.length_nil]; omega
      have hA := hb ((nth xs i).A).toNat (by omega); rw [zaR ⟨h3.1.1, h3.1.2⟩, zaR (hr _ (by omega)), zaR ⟨h3.2.1, h3.2.2⟩, zaR (hr _ ?_)]; rw [Vec.get_put (by omega)]; have hB := hb ((nth xs i).B).toNat (by omega)
      split
      · rw [List.length_append]; simp only [List.length_cons, List.length_nil]; omega
      · omega)
  refine ⟨_, fun n hn => ?_, h1⟩; have := h2 n hn
  rwa [Nat.sub_zero, List.take_length] at this
theorem zii {ρ : Type} {xs : List GLoad} (hn : xs.length ≤ 10000) (hk : ∀ x ∈ xs, (0 ≤ x.To ∧ x.To < 512) ∧ 0 ≤ x.From ∧ x.From < 512) (K : Vec 512 (List GLoad) × Vec 512 (List GLoad) → Option ρ) : ∃ c : Vec 512 (List GLoad) × Vec 512 (List GLoad), ((∀ n, n < 512 → Vec.get c.1 n = xs.filter fun x => decide (x.To = (n : Int))) ∧ ∀ n, n < 512 → Vec.get c.2 n = xs.filter fun x => decide (x.From = (n : Int))) ∧
    zaj (fun (i_32 : Nat) (next31 : (Vec 512 (List GLoad) × Vec 512 (List GLoad)) → Option ρ) (s31 : Vec 512 (List GLoad) × Vec 512 (List GLoad)) =>
              grd (0 ≤ (nth xs i_32).To ∧ (nth xs i_32).To < (512 : Int)) <|
              grd (room ((Vec.get s31.1 (((nth xs i_32).To).toNat)) ++ [(nth xs i_32)]).length 40) <|
              grd (0 ≤ (nth xs i_32).From ∧ (nth xs i_32).From < (512 : Int)) <|
              grd (room ((Vec.get s31.2 (((nth xs i_32).From).toNat)) ++ [(nth xs i_32)]).length 40) <|
              next31 ((Vec.put s31.1 (((nth xs i_32).To).toNat) ((Vec.get s31.1 (((nth xs i_32).To).toNat)) ++ [(nth xs i_32)])), (Vec.put s31.2 (((nth xs i_32).From).toNat) ((Vec.get s31.2 (((nth xs i_32).From).toNat)) ++ [(nth xs i_32)])))) K (xs.length - 0) 0 ((Vec.fill 512 ([] : List GLoad)), (Vec.fill 512 ([] : List GLoad))) = K c := by
  obtain ⟨h1, h2⟩ := zcc (k := K) (n := xs.length - 0) (s := ((Vec.fill 512 ([] : List GLoad)), (Vec.fill 512 ([] : List GLoad))))
    (f := fun (i_32 : Nat) (next31 : (Vec 512 (List GLoad) × Vec 512 (List GLoad)) → Option ρ) (s31 : Vec 512 (List GLoad) × Vec 512 (List GLoad)) =>
              grd (0 ≤ (nth xs i_32).To ∧ (nth xs i_32).To < (512 : Int)) <|
              grd (room ((Vec.get s31.1 (((nth xs i_32).To).toNat)) ++ [(nth xs i_32)]).length 40) <|
              grd (0 ≤ (nth xs i_32).From ∧ (nth xs i_32).From < (512 : Int)) <|
              grd (room ((Vec.get s31.2 (((nth xs i_32).From).toNat)) ++ [(nth xs i_32)]).length 40) <|
              next31 ((Vec.put s31.1 (((nth xs i_32).To).toNat) ((Vec.get s31.1 (((nth xs i_32).To).toNat)) ++ [(nth xs i_32)])), (Vec.put s31.2 (((nth xs i_32).From).toNat) ((Vec.get s31.2 (((nth xs i_32).From).toNat)) ++ [(nth xs i_32)]))))
    (fun i c => (∀ n, n < 512 → Vec.get c.1 n = (xs.take i).filter fun x => decide (x.To = (n : Int))) ∧ ∀ n, n < 512 → Vec.get c.2 n = (xs.take i).filter fun x => decide (x.From = (n : Int)))
    (fun i c => ((Vec.put c.1 (((nth xs i).To).toNat) ((Vec.get c.1 (((nth xs i).To).toNat)) ++ [(nth xs i)])), (Vec.put c.2 (((nth xs i).From).toNat) ((Vec.get c.2 (((nth xs i).From).toNat)) ++ [(nth xs i)]))))
    ⟨fun n hn => Vec.get_fill hn, fun n hn => Vec.get_fill hn⟩
    (fun i c hi hc => by
      have h3 := hk _ (zaB (show i < xs.length by omega)); refine ⟨fun n hn => ?_, fun n hn => ?_⟩
      · rw [zd4 (by omega), Vec.get_put (by omega)]; by_cases e : n = ((nth xs i).To).toNat
        · rw [if_pos e, decide_eq_true (show (nth xs i).To = (n : Int) by omega), ← e, hc.1 n hn]; rfl
        · rw [if_neg e, decide_eq_false (show ¬ (nth xs i).To = (n : Int) by omega), hc.1 n hn, cond_false, List.append_nil]
      · rw [zd4 (by omega), Vec.get_put (by omega)]; by_cases e : n = ((nth xs i).From).toNat
        · rw [if_pos e, decide_eq_true (show (nth xs i).From = (n : Int) by omega), ← e, hc.2 n hn]; rfl
        · rw [if_neg e, decide_eq_false (show ¬ (nth xs i).From = (n : Int) by omega), hc.2 n hn, cond_false, List.append_nil])
    (fun i next c hi hc => by
      have h3 := hk _ (zaB (show i < xs.length by omega))
      have hr : ∀ l : List GLoad, l.length ≤ i → room (l ++ [nth xs i]).length 40 := fun l hl => by
        rw [List.length_append]; unfold room; simp only [List.length_cons, List.length_nil]; omega
      rw [zaR ⟨h3.1.1, h3.1.2⟩, zaR (hr _ (by rw [hc.1 _ (by omega)]; exact zeF _)), zaR ⟨h3.2.1, h3.2.2⟩, zaR (hr _ (by rw [hc.2 _ (by omega)]; exact zeF _))])
  refine ⟨_, ⟨fun n hn => ?_, fun n hn => ?_⟩, h1⟩
  · have := h2.1 n hn
    rwa [Nat.sub_zero, List.take_length] at this
  · have := h2.2 n hn
    rwa [Nat.sub_zero, List.take_length] at this
theorem ziK {ρ : Type} {p : GProblem} (hp : okP p = true) (K : Vec 512 (List Int) → Option ρ) : ∃ c : Vec 512 (List Int), (∀ i, i < p.Domains.length → Vec.get c (nth p.Domains i).Station.toNat = (nth p.Domains i).Channels) ∧
    zaj (fun (i_11 : Nat) (next10 : Vec 512 (List Int) → Option ρ) (c_9 : Vec 512 (List Int)) =>
        grd (0 ≤ (nth p.Domains i_11).Station ∧ (nth p.Domains i_11).Station < (512 : Int)) <|
        next10 (Vec.put c_9 (((nth p.Domains i_11).Station).toNat) ((nth p.Domains i_11).Channels))) K (p.Domains.length - 0) 0 (Vec.fill 512 []) = K c := by
  have hs : ∀ i j, i < j → j < p.Domains.length → (nth p.Domains i).Station < (nth p.Domains j).Station := fun i j hij hj => by
    have h := List.pairwise_iff_getElem.1 (zcC (zbq hp).i) i j (by rw [List.length_map]; omega) (by rw [List.length_map]; exact hj) hij; rw [List.getElem_map, List.getElem_map] at h
    rwa [zaN (by omega), zaN hj]
  obtain ⟨h1, h2⟩ := zcc (k := K) (n := p.Domains.length - 0) (s := Vec.fill 512 ([] : List Int))
    (f := fun (i_11 : Nat) (next10 : Vec 512 (List Int) → Option ρ) (c_9 : Vec 512 (List Int)) =>
        grd (0 ≤ (nth p.Domains i_11).Station ∧ (nth p.Domains i_11).Station < (512 : Int)) <|
        next10 (Vec.put c_9 (((nth p.Domains i_11).Station).toNat) ((nth p.Domains i_11).Channels)))
    (fun i c => ∀ j, j < i → Vec.get c (nth p.Domains j).Station.toNat = (nth p.Domains j).Channels)
    (fun i c => Vec.put c (((nth p.Domains i).Station).toNat) ((nth p.Domains i).Channels))
    (fun j hj => absurd hj (Nat.not_lt_zero j))
    (fun i c hi hc j hj => by
      have h3 := zdg (zbq hp).d (zaB (show i < p.Domains.length by omega)); have h4 := zdg (zbq hp).d (zaB (show j < p.Domains.length by omega)); rw [Vec.get_put (by omega)]; rcases Nat.lt_or_ge j i with hlt | hge
      · have := hs j i hlt (by omega); rw [if_neg (by omega)]; exact hc j hlt
      · (obtain rfl : j = i := by omega)
        rw [if_pos rfl])
    (fun i next c hi hc => by
      have h3 := zdg (zbq hp).d (zaB (show i < p.Domains.length by omega))
      rw [zaR ⟨h3.1, h3.2⟩])
  exact ⟨_, fun i hi => h2 i (by omega), h1⟩
theorem zhB {κ ρ : Type} {T : κ → Prop} {L : (κ → ρ) → ρ} (Q : ρ → Prop) (h : ∀ K, ∃ c, T c ∧ L K = K c) (K : κ → ρ) (g : ∀ c, T c → Q (K c)) : Q (L K) := by
  obtain ⟨c, h1, h2⟩ := h K; rw [h2]; exact g c h1
theorem zhA {p : GProblem} {l : List GChoice} (hp : okP p = true) (hl : VL l) : ∃ b, zb0 p l = some (some b) ∧ Board p l b := by
  have hg := zbD (zbq hp).r; unfold zb0; simp only [zaK]
  have hP : ∀ x ∈ p.Rules.Pairs, (0 ≤ x.A ∧ x.A < 512) ∧ 0 ≤ x.B ∧ x.B < 512 := fun x hx => by
    have h := zdt (hg.p x hx); have h1 := zbu h.1; have h2 := zbu h.2; omega
  have hL : ∀ x ∈ p.Rules.Loads, (0 ≤ x.To ∧ x.To < 512) ∧ 0 ≤ x.From ∧ x.From < 512 := fun x hx => by
    have h := zcS (hg.l x hx); have h1 := zbu h.1; have h2 := zbu h.2; omega
  have hC : ∀ x ∈ p.Rules.Caps, 0 ≤ x.Station ∧ x.Station < 512 := fun x hx => by
    have h1 := zbu (zeB (hg.c x hx)); omega
  have u1 := zhB (fun r => ∃ b, r = some (some b) ∧ Board p l b) (ziJ hl (ρ := Option Gboard)); have u2 := zhB (fun r => ∃ b, r = some (some b) ∧ Board p l b) (ziK hp (ρ := Option Gboard)); have u3 := zhB (fun r => ∃ b, r = some (some b) ∧ Board p l b) (zio (by have := hg.np; omega) hP (ρ := Option Gboard)); have u4 := zhB (fun r => ∃ b, r = some (some b) ∧ Board p l b) (zjh (xs := p.Rules.Caps) (key := fun c => c.Station) (sz := 32) (by decide) (by have := hg.nc; omega) hC (ρ := Option Gboard)); have u5 := zhB (fun r => ∃ b, r = some (some b) ∧ Board p l b) (zii (by have := hg.nl; omega) hL (ρ := Option Gboard)); refine u1 _ fun c1 t1 => ?_; refine u2 _ fun c2 t2 => ?_; refine u3 _ fun c3 t3 => ?_; refine u4 _ fun c4 t4 => ?_; refine u5 _ fun c5 t5 => ?_; exact ⟨_, rfl, ⟨rfl, t1, t2, t3, t4, t5.1, t5.2⟩⟩
theorem zc1 {α : Type} (q : α → Bool) : ∀ (l : List α) (a : Int), 0 ≤ a → a + (l.length : Int) ≤ 4611686018427387904 → l.foldl (fun n x => bif q x then wI (n + 1) else n) a = a + ((l.filter q).length : Int)
  | [], a, _, _ => by simp
  | x :: l, a, h0, h1 => by
    rw [List.length_cons] at h1; rw [List.foldl_cons, List.filter_cons]
    cases hq : q x with
    | false => rw [cond_false, if_neg (by simp)]; exact zc1 q l a h0 (by omega)
    | true =>
      rw [cond_true, if_pos rfl, zfN (by omega), zc1 q l (a + 1) (by omega) (by omega), List.length_cons]; omega
theorem zdh {α : Type} (q1 q2 : α → Bool) (h : ∀ x, q1 x = true → q2 x = false) : ∀ l : List α, (l.filter fun x => q1 x || q2 x).length = (l.filter q1).length + (l.filter q2).length
  | [] => rfl
  | x :: l => by
    rw [List.filter_cons, List.filter_cons, List.filter_cons]; have ih := zdh q1 q2 h l
    cases h1 : q1 x with
    | true => rw [h x h1]; simp [ih]; omega
    | false => cases h2 : q2 x <;> simp [ih] <;> omega
section
variable {p : GProblem} {l : List GChoice} {b : Gboard}
theorem Board.get (hb : Board p l b) {i : Int} (hi : 0 ≤ i ∧ i < 512) : Vec.get b.on i.toNat = onL l i := hb.on.get hi
theorem zha (hb : Board p l b) {c : GLoad} (hT : 0 ≤ c.To ∧ c.To < 512) (hF : 0 ≤ c.From ∧ c.From < 512) : zaZ b c = some ((decide (c.Low ≤ onL l c.To) && decide (onL l c.To ≤ c.High)) && decide (onL l c.From = onL l c.To)) := by
  unfold zaZ; simp only [zaK, hb.get hT, hb.get hF]; rw [zaR hT]
  cases decide (c.Low ≤ onL l c.To)
  · rfl
  cases decide (onL l c.To ≤ c.High)
  · rfl
  rw [cond_true, cond_true, zaR hF]; rfl
theorem zey (hp : okP p = true) (hl : VL l) (hc : Comp p l) (hb : Board p l b) {c : GPair} (hm : c ∈ p.Rules.Pairs) : zaE b c = some (zah c l) := by
  have hg := zbD (zbq hp).r; have h := zdt (hg.p c hm); have h1 := zbu h.1; have h2 := zbu h.2; (have hA : 0 ≤ c.A ∧ c.A < 512 := by omega); (have hB : 0 ≤ c.B ∧ c.B < 512 := by omega); have hlk := List.all_eq_true.1 (zbv (zbq hp).l) c hm; rw [zek (zbq hp).d, zek (zbq hp).d] at hlk
  have on0 : ∀ n, anyD p n = true → onL l n ≠ 0 := fun n hn => by
    obtain ⟨d, hd, rfl⟩ := List.mem_map.1 (anyD_mem.1 hn); exact (((ziX hp hl).1 hc).1 d hd).1
  have nA := on0 _ (zbv hlk); have nB := on0 _ (zbH hlk); unfold zaE; simp only [zaK, hb.get hA, hb.get hB]; rw [zaR hA]; have e := zdP c l; by_cases a1 : c.Low ≤ onL l c.A
  · by_cases a2 : onL l c.A ≤ c.High
    · rw [decide_eq_true a1, decide_eq_true a2, cond_true, cond_true, zaR hB]
      congr 1
      rw [Bool.eq_iff_iff, e, decide_eq_true_eq]; exact ⟨fun q => ⟨nA, nB, a1, a2, q⟩, fun q => q.2.2.2.2⟩
    · rw [decide_eq_true a1, decide_eq_false a2, cond_true, cond_false]
      congr 1
      cases hq : zah c l with
      | false => rfl
      | true => exact absurd (e.1 hq).2.2.2.1 a2
  · rw [decide_eq_false a1, cond_false]
    congr 1
    cases hq : zah c l with
    | false => rfl
    | true => exact absurd (e.1 hq).2.2.1 a1
def zc3 (p : GProblem) (l : List GChoice) (n : Int) : Nat := (p.Rules.Caps.filter fun c => decide (c.Station = n) && zaf p c l).length
theorem zgL (hp : okP p = true) (hb : Board p l b) {n : Int} (hn : 0 ≤ n ∧ n < 512) : zaH b n = some (zc3 p l n : Int) := by
  have hg := zbD (zbq hp).r
  have e1 : Vec.get b.caps n.toNat = p.Rules.Caps.filter fun c => decide (c.Station = n) := by
    rw [hb.cp _ (by omega)]; congr 1; funext c; rw [show ((n.toNat : Nat) : Int) = n by omega]
  have e2 : Vec.get b.into n.toNat = p.Rules.Loads.filter fun c => decide (c.To = n) := by
    rw [hb.inn _ (by omega)]; congr 1; funext c; rw [show ((n.toNat : Nat) : Int) = n by omega]
  have e3 : zc3 p l n = ((Vec.get b.caps n.toNat).filter fun c => zaf p c l).length := by
    unfold zc3; rw [e1, List.filter_filter]
    congr 2; funext c; rw [Bool.and_comm]
  (have hlen : (Vec.get b.caps n.toNat).length ≤ 1024 := by rw [e1]; exact Nat.le_trans (List.length_filter_le _ _) hg.nc); unfold zaH; simp only [zaK]; rw [zaR hn]; by_cases h0 : ((Vec.get b.caps n.toNat).length : Int) = 0
  · rw [decide_eq_true h0, cond_true, e3, List.eq_nil_of_length_eq_zero (show (Vec.get b.caps n.toNat).length = 0 by omega)]; rfl
  rw [decide_eq_false h0, cond_false]
  have hL : ∀ y ∈ Vec.get b.into n.toNat, (0 ≤ y.To ∧ y.To < 512) ∧ (0 ≤ y.From ∧ y.From < 512) := fun y hy => by
    rw [e2] at hy; have h := zcS (hg.l y (List.mem_filter.1 hy).1); have h1 := zbu h.1; have h2 := zbu h.2; omega
  refine Eq.trans (zcR (fun i s => bif ((decide ((nth (Vec.get b.into n.toNat) i).Low ≤ onL l (nth (Vec.get b.into n.toNat) i).To) && decide (onL l (nth (Vec.get b.into n.toNat) i).To ≤ (nth (Vec.get b.into n.toNat) i).High)) && decide (onL l (nth (Vec.get b.into n.toNat) i).From = onL l (nth (Vec.get b.into n.toNat) i).To)) then wI (s + (nth (Vec.get b.into n.toNat) i).Weight) else s) fun i next s hi => ?_) ?_
  · have h := hL _ (zaB (show i < (Vec.get b.into n.toNat).length by omega)); rw [zha hb h.1 h.2, Option.bind_some]
    cases ((decide ((nth (Vec.get b.into n.toNat) i).Low ≤ onL l (nth (Vec.get b.into n.toNat) i).To) && decide (onL l (nth (Vec.get b.into n.toNat) i).To ≤ (nth (Vec.get b.into n.toNat) i).High)) && decide (onL l (nth (Vec.get b.into n.toNat) i).From = onL l (nth (Vec.get b.into n.toNat) i).To)) <;> rfl
  rw [Nat.sub_zero, zck (l := Vec.get b.into n.toNat) (g := fun s x => bif ((decide (x.Low ≤ onL l x.To) && decide (onL l x.To ≤ x.High)) && decide (onL l x.From = onL l x.To)) then wI (s + x.Weight) else s)]
  have e4 : (Vec.get b.into n.toNat).foldl (fun s x => bif ((decide (x.Low ≤ onL l x.To) && decide (onL l x.To ≤ x.High)) && decide (onL l x.From = onL l x.To)) then wI (s + x.Weight) else s) 0 = p.Rules.Loads.foldl (zfr l n) 0 := by
    rw [e2, List.foldl_filter]
    congr 1
    funext s x
    unfold zfr; by_cases hx : x.To = n
    · rw [if_pos (by simpa using hx), decide_eq_true hx, hx, Bool.true_and]
      cases decide (x.Low ≤ onL l n) <;> cases decide (onL l n ≤ x.High) <;> cases decide (onL l x.From = onL l n) <;> rfl
    · rw [if_neg (by simpa using hx), decide_eq_false hx]; simp
  rw [e4]; refine Eq.trans (zcR (fun i s => bif zaf p (nth (Vec.get b.caps n.toNat) i) l then wI (s + 1) else s) fun i next s hi => ?_) ?_
  · have hm := zaB (show i < (Vec.get b.caps n.toNat).length by omega); have hm2 := hm; rw [e1] at hm2; have hm3 := List.mem_filter.1 hm2; rw [← e1] at hm3; have hS : (nth (Vec.get b.caps n.toNat) i).Station = n := of_decide_eq_true hm3.2; rw [zd7 p _ l (zeX (hg.c _ hm3.1)), hS, hb.get hn]; unfold zan
    cases (decide ((nth (Vec.get b.caps n.toNat) i).Low ≤ onL l n) && decide (onL l n ≤ (nth (Vec.get b.caps n.toNat) i).High) && decide ((nth (Vec.get b.caps n.toNat) i).Max < p.Rules.Loads.foldl (zfr l n) 0)) <;> rfl
  rw [Nat.sub_zero, zck (l := Vec.get b.caps n.toNat) (g := fun s x => bif zaf p x l then wI (s + 1) else s), zc1 (fun x => zaf p x l) _ 0 (by omega) (by omega), e3, Int.zero_add]
def zcG (p : GProblem) (l : List GChoice) : Nat := (p.Rules.Pairs.filter fun c => zah c l).length + (p.Rules.Caps.filter fun c => zaf p c l).length
theorem zfd (hn : p.Rules.Caps.length ≤ 1024) : ∀ (D : List GDomain) (a : Int), (D.map (·.Station)).Nodup → 0 ≤ a → a + (D.length : Int) * 1024 ≤ 1000000000 → D.foldl (fun s d => wI (s + (zc3 p l d.Station : Int))) a = a + ((p.Rules.Caps.filter fun c => D.any (fun d => decide (d.Station = c.Station)) && zaf p c l).length : Int)
  | [], a, _, _, _ => by
    (have : (p.Rules.Caps.filter fun c => (([] : List GDomain).any fun d => decide (d.Station = c.Station)) && zaf p c l) = [] := by simp); rw [this]; simp
  | d :: D, a, hd, h0, h1 => by
    rw [List.map_cons, List.nodup_cons] at hd; rw [List.foldl_cons]; have hlt : zc3 p l d.Station ≤ 1024 := Nat.le_trans (List.length_filter_le _ _) hn; rw [List.length_cons] at h1; rw [zfN (by omega), zfd hn D _ hd.2 (by omega) (by omega)]
    have e : (fun c : GCap => (d :: D).any (fun d => decide (d.Station = c.Station)) && zaf p c l) = fun c => (decide (c.Station = d.Station) && zaf p c l) || (D.any (fun d => decide (d.Station = c.Station)) && zaf p c l) := by
      funext c
      rw [List.any_cons, Bool.and_or_distrib_right, show decide (d.Station = c.Station) = decide (c.Station = d.Station) from by rw [Bool.eq_iff_iff, decide_eq_true_eq, decide_eq_true_eq]; exact eq_comm]
    rw [e, zdh (fun c => decide (c.Station = d.Station) && zaf p c l) (fun c => D.any (fun d => decide (d.Station = c.Station)) && zaf p c l) (fun c hc => by
      have hS : c.Station = d.Station := of_decide_eq_true (zbv hc)
      have : (D.any fun d => decide (d.Station = c.Station)) = false := by
        rw [List.any_eq_false]; intro x hx hq; exact hd.1 (List.mem_map.2 ⟨x, hx, (of_decide_eq_true hq).trans hS⟩)
      rw [this]; rfl)]
    unfold zc3; omega
theorem zfQ {l : List Int} (h : l.Pairwise (· < ·)) : l.Nodup := h.imp fun h => by omega
theorem ziA (hp : okP p = true) (hl : VL l) (hc : Comp p l) (hb : Board p l b) : zaw b = some (zcG p l : Int) := by
  have hg := zbD (zbq hp).r; have n1 := hg.np; have n2 := hg.nc; have n3 := (zbq hp).len; unfold zaw; simp only [zaK, Nat.sub_zero, hb.pb]; refine Eq.trans (zcR (fun i s => bif zah (nth p.Rules.Pairs i) l then wI (s + 1) else s) fun i next s hi => ?_) ?_
  · rw [zey hp hl hc hb (zaB hi), Option.bind_some]
    cases zah (nth p.Rules.Pairs i) l <;> rfl
  rw [zck (l := p.Rules.Pairs) (g := fun s x => bif zah x l then wI (s + 1) else s), zc1 (fun x => zah x l) _ 0 (by omega) (by omega)]; have h1 := List.length_filter_le (fun x => zah x l) p.Rules.Pairs; refine Eq.trans (zcR (fun i s => wI (s + (zc3 p l (nth p.Domains i).Station : Int))) fun i next s hi => ?_) ?_
  · have h3 := zdg (zbq hp).d (zaB hi); rw [zgL hp hb ⟨h3.1, h3.2⟩, Option.bind_some]
  rw [zck (l := p.Domains) (g := fun s d => wI (s + (zc3 p l d.Station : Int))), zfd n2 p.Domains _ (zfQ (zcC (zbq hp).i)) (by omega) (by omega)]
  have e : (p.Rules.Caps.filter fun c => p.Domains.any (fun d => decide (d.Station = c.Station)) && zaf p c l) = p.Rules.Caps.filter fun c => zaf p c l := by
    refine List.filter_congr fun c hm => ?_; have h := List.all_eq_true.1 (zbH (zbH (zbq hp).l)) c hm; rw [zek (zbq hp).d] at h; unfold anyD at h; rw [h, Bool.true_and]
  rw [e]; unfold zcG
  congr 1
  omega
end
section
variable {p : GProblem} {l : List GChoice} {b : Gboard}
theorem zfl {α β : Type} (f : α → List β) : ∀ (l : List α) (s : List β), l.foldl (fun s x => s ++ f x) s = s ++ l.flatMap f
  | [], s => by simp
  | x :: l, s => by rw [List.foldl_cons, zfl f l, List.flatMap_cons, List.append_assoc]
theorem zh1 {ρ α : Type} [Inhabited α] {xs : List α} {f : Nat → (List Int → ρ) → List Int → ρ} {K : List Int → ρ} (g : α → List Int) (m N : Nat) (hg : ∀ x ∈ xs, (g x).length ≤ m) (s0 : List Int) (hN : s0.length + m * xs.length ≤ N)
    (hf : ∀ i next s, i < xs.length → s.length + m ≤ N → f i next s = next (s ++ g (nth xs i))) : zaj f K xs.length 0 s0 = K (s0 ++ xs.flatMap g) := by
  obtain ⟨h1, _⟩ := zcc (f := f) (k := K) (n := xs.length) (s := s0) (fun i s => s.length ≤ s0.length + m * i) (fun i s => s ++ g (nth xs i)) (by omega)
    (fun i s hi hs => by
      have := hg _ (zaB hi)
      rw [List.length_append, Nat.mul_add]; omega)
    (fun i next s hi hs => hf i next s hi (by
      (have : m * i + m ≤ m * xs.length := by rw [← Nat.mul_succ]; exact Nat.mul_le_mul_left m hi)
      omega))
  rw [h1, zck (l := xs) (g := fun s x => s ++ g x), zfl]
def zeW (l : List GChoice) (y : GLoad) : Bool := (decide (y.Low ≤ onL l y.To) && decide (onL l y.To ≤ y.High)) && decide (onL l y.From = onL l y.To)
def zeO (l : List GChoice) (c : GPair) : List Int := bif zah c l then [c.A, c.B] else []
def zf6 (l : List GChoice) (y : GLoad) : List Int := bif zeW l y then [y.From] else []
def domI (p : GProblem) (l : List GChoice) (d : GDomain) : List Int := bif decide ((zc3 p l d.Station : Int) = 0) then [] else d.Station :: (p.Rules.Loads.filter fun y => decide (y.To = d.Station)).flatMap (zf6 l)
theorem zfR (y : GLoad) : (zf6 l y).length ≤ 1 := by unfold zf6; cases zeW l y <;> simp
theorem zhg {α : Type} {g : α → List Int} (h : ∀ x, (g x).length ≤ 1) (xs : List α) : (xs.flatMap g).length ≤ xs.length := by
  induction xs with
  | nil => simp
  | cons x xs ih => rw [List.flatMap_cons, List.length_append, List.length_cons]; have := h x; omega
theorem ziO {s : List Int} {n : Nat} (h : s.length ≤ n) (hn : n ≤ 1000000) : room s.length 8 := by unfold room; omega
theorem zgU (hp : okP p = true) (hl : VL l) (hc : Comp p l) (hb : Board p l b) : zaQ b = some (Lib.compact (isort (p.Rules.Pairs.flatMap (zeO l) ++ p.Domains.flatMap (domI p l)))) := by
  have hg := zbD (zbq hp).r; have n1 := hg.np; have n2 := hg.nl; have n3 := (zbq hp).len; unfold zaQ; simp only [zaK, Nat.sub_zero, hb.pb]; (have lp : ∀ c ∈ p.Rules.Pairs, (zeO l c).length ≤ 2 := fun c _ => by unfold zeO; cases zah c l <;> simp); refine Eq.trans (zh1 (xs := p.Rules.Pairs) (zeO l) 2 10000 lp [] (by simp only [List.length_nil]; omega) fun i next s hi hs => ?_) ?_
  · rw [zey hp hl hc hb (zaB hi), Option.bind_some]; unfold zeO
    cases zah (nth p.Rules.Pairs i) l
    · rw [cond_false, cond_false, List.append_nil]
    · rw [cond_true, cond_true, zaR (ziO (n := 10000) (by rw [List.length_append]; simp only [List.length_cons, List.length_nil]; omega) (by omega))]
  rw [List.nil_append]
  have ld : ∀ d ∈ p.Domains, (domI p l d).length ≤ 1025 := fun d _ => by
    unfold domI
    cases decide ((zc3 p l d.Station : Int) = 0)
    · rw [cond_false, List.length_cons]; have h1 := zhg (g := zf6 l) zfR (p.Rules.Loads.filter fun y => decide (y.To = d.Station)); have h2 := List.length_filter_le (fun y => decide (y.To = d.Station)) p.Rules.Loads; omega
    · simp
  have l1 : (p.Rules.Pairs.flatMap (zeO l)).length ≤ 8192 := by
    have : ∀ xs : List GPair, (∀ c ∈ xs, (zeO l c).length ≤ 2) → (xs.flatMap (zeO l)).length ≤ 2 * xs.length := fun xs h => by
      induction xs with
      | nil => simp
      | cons x xs ih =>
        rw [List.flatMap_cons, List.length_append, List.length_cons]; have h1 := h x (List.mem_cons_self ..); have h2 := ih fun c hc => h c (List.mem_cons_of_mem _ hc); omega
    have := this _ lp; omega
  refine Eq.trans (zh1 (xs := p.Domains) (domI p l) 1025 600000 ld _ (by omega) fun i next s hi hs => ?_) ?_
  · have h3 := zdg (zbq hp).d (zaB hi); rw [zgL hp hb ⟨h3.1, h3.2⟩, Option.bind_some]; unfold domI
    cases decide ((zc3 p l (nth p.Domains i).Station : Int) = 0)
    · rw [cond_false, cond_false, zaR (ziO (n := 600000) (by rw [List.length_append]; simp only [List.length_cons, List.length_nil]; omega) (by omega)), zaR ⟨h3.1, h3.2⟩]
      have e2 : Vec.get b.into (nth p.Domains i).Station.toNat = p.Rules.Loads.filter fun c => decide (c.To = (nth p.Domains i).Station) := by
        rw [hb.inn _ (by omega)]; congr 1; funext c; rw [show (((nth p.Domains i).Station.toNat : Nat) : Int) = (nth p.Domains i).Station by omega]
      have h2 := List.length_filter_le (fun y : GLoad => decide (y.To = (nth p.Domains i).Station)) p.Rules.Loads; rw [e2]; refine Eq.trans (zh1 (xs := p.Rules.Loads.filter fun c => decide (c.To = (nth p.Domains i).Station)) (zf6 l) 1 600000 (fun y _ => zfR y) _ (by rw [List.length_append]; simp only [List.length_cons, List.length_nil]; omega) fun j next2 s2 hj hs2 => ?_) ?_
      · have hm := (List.mem_filter.1 (zaB hj)).1; have h := zcS (hg.l _ hm); have h4 := zbu h.1; have h5 := zbu h.2; rw [zha hb (by omega) (by omega), Option.bind_some]; unfold zf6 zeW
        cases ((decide ((nth (p.Rules.Loads.filter fun c => decide (c.To = (nth p.Domains i).Station)) j).Low ≤ onL l (nth (p.Rules.Loads.filter fun c => decide (c.To = (nth p.Domains i).Station)) j).To) && decide (onL l (nth (p.Rules.Loads.filter fun c => decide (c.To = (nth p.Domains i).Station)) j).To ≤ (nth (p.Rules.Loads.filter fun c => decide (c.To = (nth p.Domains i).Station)) j).High)) && decide (onL l (nth (p.Rules.Loads.filter fun c => decide (c.To = (nth p.Domains i).Station)) j).From = onL l (nth (p.Rules.Loads.filter fun c => decide (c.To = (nth p.Domains i).Station)) j).To))
        · rw [cond_false, cond_false, List.append_nil]
        · rw [cond_true, cond_true, zaR (ziO (n := 600000) (by rw [List.length_append]; simp only [List.length_cons, List.length_nil]; omega) (by omega))]
      · rw [List.append_assoc]; rfl
    · rw [cond_true, cond_true, List.append_nil]
  have l2 : (p.Domains.flatMap (domI p l)).length ≤ 600000 := by
    have : ∀ xs : List GDomain, (∀ c ∈ xs, (domI p l c).length ≤ 1025) → (xs.flatMap (domI p l)).length ≤ 1025 * xs.length := fun xs h => by
      induction xs with
      | nil => simp
      | cons x xs ih =>
        rw [List.flatMap_cons, List.length_append, List.length_cons]; have h1 := h x (List.mem_cons_self ..); have h2 := ih fun c hc => h c (List.mem_cons_of_mem _ hc); omega
    have := this _ ld; omega
  unfold zgk; rw [zaR (by rw [List.length_append]; omega)]; rfl
def invB (p : GProblem) (l : List GChoice) (n : Int) : Bool := p.Rules.Pairs.any (fun c => ((decide (c.A = n)) || (decide (c.B = n))) && zah c l) || p.Rules.Caps.any (fun c => zaf p c l && (decide (c.Station = n) || p.Rules.Loads.any fun y => (((((decide (y.To = c.Station)) && (decide (y.From = n))) && (decide (onL l n = onL l c.Station))) && (decide (y.Low ≤ onL l c.Station))) && (decide (onL l c.Station ≤ y.High)))))
theorem zgn {α : Type} {l : List α} {q : α → Bool} : l.any q = true ↔ ∃ x ∈ l, q x = true := List.any_eq_true
theorem over_pos {n : Int} : zc3 p l n ≠ 0 ↔ ∃ c ∈ p.Rules.Caps, c.Station = n ∧ zaf p c l = true := by
  unfold zc3; rw [← Nat.pos_iff_ne_zero, List.length_pos_iff_exists_mem]; simp only [List.mem_filter, Bool.and_eq_true, decide_eq_true_eq]
theorem zgm (hp : okP p = true) : Lib.compact (isort (p.Rules.Pairs.flatMap (zeO l) ++ p.Domains.flatMap (domI p l))) = (p.Domains.filter fun d => invB p l d.Station).map (·.Station) := by
  have hO := zbq hp; obtain ⟨h1, h2⟩ := zfa (zdC (p.Rules.Pairs.flatMap (zeO l) ++ p.Domains.flatMap (domI p l))); refine zeu h1 ((zcC hO.i).sublist (List.filter_sublist.map _)) fun x => ?_; rw [h2, (zdV _).mem_iff]
  have hD : ∀ n, hasD p n = true → ∃ d ∈ p.Domains, d.Station = n := fun n hn => by
    rw [zek hO.d] at hn; obtain ⟨d, hd, rfl⟩ := List.mem_map.1 (anyD_mem.1 hn); exact ⟨d, hd, rfl⟩
  have mP : x ∈ p.Rules.Pairs.flatMap (zeO l) ↔ ∃ c ∈ p.Rules.Pairs, zah c l = true ∧ (c.A = x ∨ c.B = x) := by
    rw [List.mem_flatMap]; refine exists_congr fun c => and_congr_right fun _ => ?_; unfold zeO
    cases zah c l <;> simp [eq_comm]
  have mD : x ∈ p.Domains.flatMap (domI p l) ↔ ∃ d ∈ p.Domains, zc3 p l d.Station ≠ 0 ∧ (d.Station = x ∨ ∃ y ∈ p.Rules.Loads, y.To = d.Station ∧ zeW l y = true ∧ y.From = x) := by
    rw [List.mem_flatMap]; refine exists_congr fun d => and_congr_right fun _ => ?_; unfold domI; by_cases h0 : (zc3 p l d.Station : Int) = 0
    · rw [decide_eq_true h0, cond_true]; simp only [List.not_mem_nil, false_iff]; exact fun h => h.1 (by omega)
    · rw [decide_eq_false h0, cond_false, List.mem_cons, List.mem_flatMap]; constructor
      · rintro (rfl | ⟨y, hy, hx⟩)
        · exact ⟨by omega, .inl rfl⟩
        · have hy2 := List.mem_filter.1 hy; refine ⟨by omega, .inr ⟨y, hy2.1, of_decide_eq_true hy2.2, ?_⟩⟩; unfold zf6 at hx
          cases hm : zeW l y <;> rw [hm] at hx
          · simp at hx
          · exact ⟨rfl, by simpa [eq_comm] using hx⟩
      · rintro ⟨_, rfl | ⟨y, hy, hT, hm, rfl⟩⟩
        · exact .inl rfl
        · exact .inr ⟨y, List.mem_filter.2 ⟨hy, decide_eq_true hT⟩, by unfold zf6; rw [hm]; simp⟩
  rw [List.mem_append, mP, mD, List.mem_map]
  have hI : invB p l x = true ↔ (∃ c ∈ p.Rules.Pairs, zah c l = true ∧ (c.A = x ∨ c.B = x)) ∨ ∃ c ∈ p.Rules.Caps, zaf p c l = true ∧ (c.Station = x ∨ ∃ y ∈ p.Rules.Loads, y.To = c.Station ∧ zeW l y = true ∧ y.From = x) := by
    unfold invB; rw [Bool.or_eq_true, zgn, zgn]; refine or_congr (exists_congr fun c => and_congr_right fun _ => ?_) (exists_congr fun c => and_congr_right fun _ => ?_)
    · simp only [Bool.and_eq_true, Bool.or_eq_true, decide_eq_true_eq]; exact and_comm
    · rw [Bool.and_eq_true, Bool.or_eq_true, zgn, decide_eq_true_eq]; refine and_congr_right fun _ => or_congr_right (exists_congr fun y => and_congr_right fun _ => ?_); unfold zeW; simp only [Bool.and_eq_true, decide_eq_true_eq]; constructor
      · rintro ⟨⟨⟨⟨h3, h4⟩, h5⟩, h6⟩, h7⟩; subst h4; rw [h3]; exact ⟨rfl, ⟨⟨h6, h7⟩, h5⟩, rfl⟩
      · rintro ⟨h3, ⟨⟨h6, h7⟩, h5⟩, h4⟩; subst h4; rw [h3] at h5 h6 h7; exact ⟨⟨⟨⟨h3, rfl⟩, h5⟩, h6⟩, h7⟩
  constructor
  · intro h
    suffices hs : (∃ d ∈ p.Domains, d.Station = x) ∧ invB p l x = true by
      obtain ⟨⟨d, hd, rfl⟩, hv⟩ := hs; exact ⟨d, List.mem_filter.2 ⟨hd, hv⟩, rfl⟩
    rcases h with ⟨c, hc, hb, hx⟩ | ⟨d, hd, ho, hx⟩
    · have hk := List.all_eq_true.1 (zbv hO.l) c hc; refine ⟨?_, hI.2 (.inl ⟨c, hc, hb, hx⟩)⟩; rcases hx with rfl | rfl
      · exact hD _ (zbv hk)
      · exact hD _ (zbH hk)
    · obtain ⟨c, hc, hS, hb⟩ := over_pos.1 ho; refine ⟨?_, hI.2 (.inr ⟨c, hc, hb, by rw [hS]; exact hx⟩)⟩; rcases hx with rfl | ⟨y, hy, _, _, rfl⟩
      · exact ⟨d, hd, rfl⟩
      · have hk := List.all_eq_true.1 (zbv (zbH hO.l)) y hy; exact hD _ (zbH hk)
  · rintro ⟨d, hd, rfl⟩; have hd2 := List.mem_filter.1 hd; rcases hI.1 hd2.2 with ⟨c, hc, hb, hx⟩ | ⟨c, hc, hb, hx⟩
    · exact .inl ⟨c, hc, hb, hx⟩
    · have hk := List.all_eq_true.1 (zbH (zbH hO.l)) c hc; obtain ⟨d', hd', hS⟩ := hD _ hk; exact .inr ⟨d', hd', over_pos.2 ⟨c, hc, hS.symm, hb⟩, by rw [hS]; exact hx⟩
end
abbrev gS : BitVec 64 := 11400714819323198485#64
abbrev iS : BitVec 64 := 17428512612931826493#64
def zdc (s : BitVec 64) : BitVec 64 := (zeG s).2
def kB (s : BitVec 64) : BitVec 64 := -(s + gS) * iS
theorem ziI : gS * iS = 1#64 := by decide +kernel
theorem ziV (s : BitVec 64) : kB (s + gS) = kB s - 1#64 := by
  unfold kB; rw [← ziI]; generalize gS = g; generalize iS = i
  grind
theorem kB_lt {s : BitVec 64} (h : kB s ≠ 0#64) : (kB s).toNat = (kB (s + gS)).toNat + 1 := by
  rw [ziV, BitVec.toNat_sub]; have h1 : (kB s).toNat ≠ 0 := fun e => h (BitVec.eq_of_toNat_eq e); have h2 := (kB s).isLt; have h3 : (1#64).toNat = 1 := rfl; rw [h3]; omega
theorem kB_of {s : BitVec 64} (h : (kB s).toNat ≤ 0) : kB s = 0#64 := by
  apply BitVec.eq_of_toNat_eq; rw [BitVec.toNat_zero]; omega
theorem zh0 {s : BitVec 64} (h : kB s = 0#64) : zdc s = 0#64 := by
  have h1 : s + gS = 0#64 := by
    have e : kB s * gS = -(s + gS) := by
      unfold kB; rw [BitVec.mul_assoc, BitVec.mul_comm iS gS, ziI, BitVec.mul_one]
    rw [h, BitVec.zero_mul] at e; have e2 := congrArg (fun x => -x) e; simpa using e2.symm
  unfold zdc zeG; simp only []; rw [show s + 11400714819323198485#64 = 0#64 from h1]
  decide +kernel
attribute [irreducible] kB zdc
def accB (n w : BitVec 64) : Bool := decide ((w.toNat : Int) ≤ (((18446744073709551615#64) - ((((18446744073709551615#64) % n) + (1#64)) % n)).toNat : Int))
theorem zie {n : BitVec 64} (h : n ≠ 0#64) : ((((18446744073709551615#64) % n) + (1#64)) % n).toNat = 18446744073709551616 % n.toNat ∧ ((-n) % n).toNat = 18446744073709551616 % n.toNat := by
  have h0 : n.toNat ≠ 0 := fun e => h (BitVec.eq_of_toNat_eq e); have h1 := n.isLt; constructor
  · rw [BitVec.toNat_umod, BitVec.toNat_add, BitVec.toNat_umod]; have h2 : (18446744073709551615#64).toNat = 18446744073709551615 := rfl; have h3 : (1#64).toNat = 1 := rfl; rw [h2, h3]; have h4 := Nat.mod_lt 18446744073709551615 (show 0 < n.toNat by omega); by_cases h5 : 18446744073709551615 % n.toNat + 1 < 2 ^ 64
    · rw [Nat.mod_eq_of_lt h5, Nat.mod_add_mod]
    · omega
  · rw [BitVec.toNat_umod, BitVec.toNat_neg, Nat.mod_eq_of_lt (show 2 ^ 64 - n.toNat < 2 ^ 64 by omega)]; exact (Nat.mod_eq_sub_mod (show n.toNat ≤ 18446744073709551616 by omega)).symm
theorem zg8 {n w : BitVec 64} (h : n ≠ 0#64) : ((decide (((0#64).toNat : Int) < (((-n) % n).toNat : Int))) && (decide (((-((-n) % n)).toNat : Int) ≤ (w.toNat : Int)))) = !accB n w := by
  obtain ⟨h1, h2⟩ := zie h; unfold accB; have h0 : n.toNat ≠ 0 := fun e => h (BitVec.eq_of_toNat_eq e); have h3 := n.isLt; have h4 := Nat.mod_lt 18446744073709551616 (show 0 < n.toNat by omega); have h5 := w.isLt; rw [BitVec.toNat_sub, BitVec.toNat_neg, h1, h2]; have h6 : (18446744073709551615#64).toNat = 18446744073709551615 := rfl; have h7 : (0#64).toNat = 0 := rfl; rw [h6, h7]; generalize 18446744073709551616 % n.toNat = E at *; by_cases hE : E = 0
  · subst hE; rw [decide_eq_false (by omega), Bool.false_and, decide_eq_true (by omega)]; rfl
  · rw [decide_eq_true (by omega), Bool.true_and]; by_cases hw : 2 ^ 64 - E ≤ w.toNat
    · rw [decide_eq_true (by omega), decide_eq_false (by omega)]; rfl
    · rw [decide_eq_false (by omega), decide_eq_true (by omega)]; rfl
theorem zgF {n : BitVec 64} : accB n 0#64 = true := by
  unfold accB; rw [decide_eq_true]; have h7 : (0#64).toNat = 0 := rfl; rw [h7]; omega
def zdJ (n : BitVec 64) : Nat → BitVec 64 → BitVec 64 × BitVec 64
  | 0, s => (s + gS, zdc s)
  | m + 1, s => bif accB n (zdc s) then (s + gS, zdc s) else zdJ n m (s + gS)
theorem zgW (n s : BitVec 64) : zdJ n 0 s = (s + gS, zdc s) := rfl
theorem zhV {n s : BitVec 64} {m : Nat} (h : accB n (zdc s) = true) : zdJ n (m + 1) s = (s + gS, zdc s) := by
  rw [zdJ, h]; rfl
theorem zit {n s : BitVec 64} {m : Nat} (h : accB n (zdc s) = false) : zdJ n (m + 1) s = zdJ n m (s + gS) := by
  rw [zdJ, h]; rfl
theorem zc7 {σ ρ : Type} (f : (σ → Option ρ) → σ → Option ρ) (m : Nat) (s : σ) : zbP f (m + 1) s = f (zbP f m) s := rfl
theorem zik {ρ : Type} {n : BitVec 64} {K : BitVec 64 → BitVec 64 → Option ρ} {f : (BitVec 64 × BitVec 64 → Option ρ) → BitVec 64 × BitVec 64 → Option ρ} (hf : ∀ next s, f next (zdc s, s + gS) = bif accB n (zdc s) then K (s + gS) (zdc s) else next (zdc (s + gS), s + gS + gS)) (m : Nat) : ∀ (s : BitVec 64), (kB s).toNat ≤ m → ∀ M, m < M → zbP f M (zdc s, s + gS) = K (zdJ n m s).1 (zdJ n m s).2 := by
  induction m with
  | zero =>
    intro s h M hM; obtain ⟨M', rfl⟩ : ∃ M', M = M' + 1 := ⟨M - 1, by omega⟩; (have ha : accB n (zdc s) = true := by rw [zh0 (kB_of h)]; exact zgF); rw [zc7, hf, zgW, ha, cond_true]
  | succ m ih =>
    intro s h M hM; obtain ⟨M', rfl⟩ : ∃ M', M = M' + 1 := ⟨M - 1, by omega⟩; rw [zc7, hf]
    cases ha : accB n (zdc s) with
    | true => rw [zhV ha, cond_true]
    | false =>
      (have hk : kB s ≠ 0#64 := fun e => by rw [zh0 e, zgF] at ha; cases ha); have hlt := kB_lt hk; rw [cond_false, zit ha]; exact ih (s + gS) (by omega) M' (by omega)
theorem zi6 (s : BitVec 64) : zam ⟨true, s⟩ = (zdc s, s + gS) := by
  unfold zdc; rfl
theorem zhn : ∃ m : Nat, m = 18446744073709551616 := ⟨_, rfl⟩
noncomputable def bigN : Nat := Classical.choose zhn
theorem zgp : bigN = 18446744073709551616 := Classical.choose_spec zhn
noncomputable def numB (s : BitVec 64) (limit : Int) : Int × BitVec 64 := (wI (((zdJ (BitVec.ofInt 64 limit) bigN s).2 % BitVec.ofInt 64 limit).toNat : Int), (zdJ (BitVec.ofInt 64 limit) bigN s).1)
theorem zhd {limit : Int} (h1 : 1 ≤ limit) (h2 : limit ≤ 1000) : (BitVec.ofInt 64 limit).toNat = limit.toNat := by
  rw [BitVec.toNat_ofInt]; omega
theorem zjf {limit : Int} (h1 : 1 ≤ limit) (h2 : limit ≤ 1000) : BitVec.ofInt 64 limit ≠ 0#64 := fun e => by
  have := zhd h1 h2; rw [e] at this; have h7 : (0#64).toNat = 0 := rfl; omega
theorem zgf {limit : Int} (h1 : 1 ≤ limit) (h2 : limit ≤ 1000) (s : BitVec 64) : 0 ≤ (numB s limit).1 ∧ (numB s limit).1 < limit := by
  unfold numB; have h3 := zhd h1 h2; generalize zdJ (BitVec.ofInt 64 limit) bigN s = q; generalize BitVec.ofInt 64 limit = n at *; have h4 := Nat.mod_lt q.2.toNat (show 0 < n.toNat by omega); have h5 : (q.2 % n).toNat = q.2.toNat % n.toNat := BitVec.toNat_umod; dsimp only; rw [h5, zfN (by omega)]; omega
theorem kB_le (s : BitVec 64) : (kB s).toNat ≤ bigN := by rw [zgp]; have := (kB s).isLt; omega
theorem zil {F m : Nat} {limit : Int} (h1 : 1 ≤ limit) (h2 : limit ≤ 1000) (s : BitVec 64) (hk : (kB s).toNat ≤ m) (hF : m < F) : zaP F ⟨true, s⟩ limit = some (wI (((zdJ (BitVec.ofInt 64 limit) m s).2 % BitVec.ofInt 64 limit).toNat : Int), 0, (zdJ (BitVec.ofInt 64 limit) m s).1) := by
  have hn := zjf h1 h2; unfold zaP; simp only [zaK, zi6]; rw [show zaS ⟨true, s⟩ = true from rfl, Bool.not_true, cond_false, decide_eq_false (show ¬ limit < 1 by omega), decide_eq_false (show ¬ 4611686018427387904 < limit by omega), Bool.false_or, cond_false, zaR hn]; refine zik (n := BitVec.ofInt 64 limit) (K := fun st w => some (wI ((w % BitVec.ofInt 64 limit).toNat : Int), 0, st)) (fun next s => ?_) m s hk F hF; dsimp only; rw [zg8 hn]
  cases accB (BitVec.ofInt 64 limit) (zdc s)
  · rfl
  · rw [Bool.not_true, cond_false, cond_true, zaR hn]
theorem zi2 (s : BitVec 64) (limit : Int) : numB s limit = (wI (((zdJ (BitVec.ofInt 64 limit) bigN s).2 % BitVec.ofInt 64 limit).toNat : Int), (zdJ (BitVec.ofInt 64 limit) bigN s).1) := by
  unfold numB
  with_reducible rfl
theorem zid {F : Nat} (hF : bigN < F) {limit : Int} (h1 : 1 ≤ limit) (h2 : limit ≤ 1000) (s : BitVec 64) : zaP F ⟨true, s⟩ limit = some ((numB s limit).1, 0, (numB s limit).2) := by
  rw [zil h1 h2 s (kB_le s) hF, zi2]
attribute [irreducible] numB zdJ
theorem ziE {F : Nat} (hF : bigN < F) {l : List Int} (h1 : l ≠ []) (h2 : l.length ≤ 1000) (s : BitVec 64) : zaU F l ⟨true, s⟩ = some (nth l (numB s l.length).1.toNat, true, (numB s l.length).2) := by
  have h3 := List.length_pos_iff.2 h1; have hb := zgf (limit := (l.length : Int)) (by omega) (by omega) s; unfold zaU; rw [decide_eq_false (by omega), cond_false, zid hF (by omega) (by omega), Option.bind_some]; rw [decide_eq_false (show ¬ ¬ (0 : Int) = 0 by omega), cond_false, zaR hb]
theorem zim {F : Nat} (s : BitVec 64) : zaU F [] ⟨true, s⟩ = some (0, false, s) := by
  unfold zaU; rw [decide_eq_true (show (([] : List Int).length : Int) = 0 from rfl), cond_true]
section
variable {p : GProblem} {l l0 : List GChoice} {b : Gboard}
theorem Board.with (hb : Board p l0 b) {c : Vec 512 Int} (hc : TabC l c) : Board p l (Gboard.mk (GProblem.mk b.p.Domains (GRules.mk b.p.Rules.Pairs b.p.Rules.Loads b.p.Rules.Caps)) c b.domains b.pairs b.caps b.into b.from_) := ⟨hb.pb, hc, hb.dm, hb.pr, hb.cp, hb.inn, hb.fr⟩
def zhT (n c : Int) (x : GChoice) : GChoice := ⟨x.Station, bif decide (x.Station = n) then c else x.Channel⟩
def zcm (l : List GChoice) (n c : Int) : List GChoice := l.map (zhT n c)
theorem zgJ (n c m : Int) : ∀ l : List GChoice, onL (zcm l n c) m = bif decide (m = n) && l.any (fun x => decide (x.Station = m)) then c else onL l m
  | [] => by simp [zcm, onL]
  | x :: l => by
    show (bif decide (x.Station = m) then (bif decide (x.Station = n) then c else x.Channel) else onL (zcm l n c) m) = bif decide (m = n) && (decide (x.Station = m) || l.any fun x => decide (x.Station = m)) then c else (bif decide (x.Station = m) then x.Channel else onL l m)
    by_cases h : x.Station = m
    · rw [decide_eq_true h, cond_true, Bool.true_or, Bool.and_true, cond_true, h]
    · rw [decide_eq_false h, cond_false, Bool.false_or, cond_false, zgJ n c m l]
theorem zc6 {n : Int} (hn : ∃ x ∈ l, x.Station = n) (c m : Int) : onL (zcm l n c) m = if m = n then c else onL l m := by
  rw [zgJ]; by_cases h : m = n
  · subst h; rw [if_pos rfl, decide_eq_true rfl, List.any_eq_true.2 (by obtain ⟨x, hx, e⟩ := hn; exact ⟨x, hx, decide_eq_true e⟩)]; rfl
  · rw [if_neg h, decide_eq_false h, Bool.false_and, cond_false]
theorem zgK (hl : VL l) {n c : Int} (hc : 2 ≤ c ∧ c ≤ 51) : VL (zcm l n c) := by
  have hlen : (zcm l n c).length = l.length := List.length_map _; have hn : ∀ i, i < l.length → nth (zcm l n c) i = zhT n c (nth l i) := fun i hi => zcW hi; refine ⟨fun i hi => ?_, fun i hi => ?_, fun i j hij hj => ?_⟩
  · rw [hlen] at hi; rw [hn i hi]; exact hl.st i hi
  · rw [hlen] at hi; rw [hn i hi]; unfold zhT; have := hl.ch i hi
    cases decide ((nth l i).Station = n)
    · exact this
    · exact hc
  · rw [hlen] at hj; rw [hn i (by omega), hn j hj]; exact hl.lt i j hij hj
theorem zfp (hC : Comp p l) {j : Nat} (hj : j < p.Domains.length) {c : Int} (hc : za5 (nth p.Domains j).Channels c = true) (hp : okP p = true) : Comp p (zcm l (nth p.Domains j).Station c) := by
  have hn : ∀ i, i < l.length → nth (zcm l (nth p.Domains j).Station c) i = zhT (nth p.Domains j).Station c (nth l i) := fun i hi => zcW hi; have hlen := hC.len; refine ⟨by rw [← hC.len]; exact List.length_map _, fun i hi => ?_, fun i hi => ?_⟩
  · rw [hn i (by omega)]; exact hC.st i hi
  · rw [hn i (by omega)]; unfold zhT; by_cases h : (nth l i).Station = (nth p.Domains j).Station
    · rw [decide_eq_true h]; rw [hC.st i hi] at h
      have e : i = j := by
        have hs := zcC (zbq hp).i; rw [List.pairwise_iff_getElem] at hs
        have key : ∀ a b, a < b → b < p.Domains.length → (nth p.Domains a).Station < (nth p.Domains b).Station := fun a b hab hb => by
          have h := hs a b (by rw [List.length_map]; omega) (by rw [List.length_map]; exact hb) hab; rw [List.getElem_map, List.getElem_map] at h
          rwa [zaN (by omega), zaN hb]
        rcases Nat.lt_trichotomy i j with hlt | heq | hgt
        · have := key i j hlt hj; omega
        · exact heq
        · have := key j i hgt hi; omega
      rw [e]; exact hc
    · rw [decide_eq_false h]; exact hC.ch i hi
theorem zhE {c : Vec 512 Int} (hc : TabC l c) {n : Int} (hn : 0 ≤ n ∧ n < 512) (hm : ∃ x ∈ l, x.Station = n) (ch : Int) : TabC (zcm l n ch) (Vec.put c n.toNat ch) := fun m hm2 => by
  rw [Vec.get_put (by omega), zc6 hm]; by_cases h : (m : Int) = n
  · rw [if_pos h, if_pos (by omega)]
  · rw [if_neg h, if_neg (by omega), hc m hm2]
def zcw (n : Int) (c : GPair) : Bool := decide (c.A = n) || decide (c.B = n)
def tos (p : GProblem) (n : Int) : List GLoad := p.Rules.Loads.filter fun y => decide (y.From = n)
def zdb (p : GProblem) (n : Int) (c : GCap) : Bool := decide (c.Station = n) || (tos p n).any fun y => decide (y.To = c.Station)
def zfE (p : GProblem) (l : List GChoice) (n : Int) : Nat := (p.Rules.Pairs.filter fun c => zcw n c && zah c l).length + (p.Rules.Caps.filter fun c => zdb p n c && zaf p c l).length
def zgV (p : GProblem) (l : List GChoice) (n : Int) : Nat := (p.Rules.Pairs.filter fun c => !zcw n c && zah c l).length + (p.Rules.Caps.filter fun c => !zdb p n c && zaf p c l).length
theorem zg6 (n : Int) : zcG p l = zfE p l n + zgV p l n := by
  unfold zcG zfE zgV
  have e1 : (p.Rules.Pairs.filter fun c => zah c l) = p.Rules.Pairs.filter fun c => (zcw n c && zah c l) || (!zcw n c && zah c l) := by
    refine List.filter_congr fun c _ => ?_
    cases zcw n c <;> simp
  have e2 : (p.Rules.Caps.filter fun c => zaf p c l) = p.Rules.Caps.filter fun c => (zdb p n c && zaf p c l) || (!zdb p n c && zaf p c l) := by
    refine List.filter_congr fun c _ => ?_
    cases zdb p n c <;> simp
  rw [e1, e2, zdh _ _ (fun c h => by cases ht : zcw n c <;> simp_all), zdh _ _ (fun c h => by cases ht : zdb p n c <;> simp_all)]; omega
end
theorem zfb {α σ : Type} {f g : σ → α → σ} : ∀ {l : List α}, (∀ s, ∀ x ∈ l, f s x = g s x) → ∀ s, l.foldl f s = l.foldl g s
  | [], _, _ => rfl
  | x :: l, h, s => by
    rw [List.foldl_cons, List.foldl_cons, h s x (List.mem_cons_self ..)]; exact zfb (fun s y hy => h s y (List.mem_cons_of_mem _ hy)) _
section
variable {p : GProblem} {l : List GChoice} {b : Gboard}
theorem zgQ (hp : okP p = true) {n : Int} (hn : ∃ x ∈ l, x.Station = n) (c : Int) : zgV p (zcm l n c) n = zgV p l n := by
  have hg := zbD (zbq hp).r; unfold zgV
  have e1 : (p.Rules.Pairs.filter fun d => !zcw n d && zah d (zcm l n c)) = p.Rules.Pairs.filter fun d => !zcw n d && zah d l := by
    refine List.filter_congr fun d _ => ?_
    cases ht : zcw n d
    · unfold zcw at ht; rw [Bool.or_eq_false_iff, decide_eq_false_iff_not, decide_eq_false_iff_not] at ht
      congr 1
      rw [Bool.eq_iff_iff, zdP, zdP, zc6 hn, zc6 hn, if_neg ht.1, if_neg ht.2]
    · rfl
  have e2 : (p.Rules.Caps.filter fun d => !zdb p n d && zaf p d (zcm l n c)) = p.Rules.Caps.filter fun d => !zdb p n d && zaf p d l := by
    refine List.filter_congr fun d hd => ?_
    cases ht : zdb p n d
    · unfold zdb at ht; rw [Bool.or_eq_false_iff, decide_eq_false_iff_not] at ht
      congr 1
      have h2 := zeX (hg.c d hd); rw [zd7 p d _ h2, zd7 p d _ h2, zc6 hn, if_neg ht.1]
      congr 2
      rw [zfb (g := zfr l d.Station) fun s x hx => ?_]; unfold zfr; rw [zc6 hn c d.Station, if_neg ht.1]; by_cases hT : x.To = d.Station
      · have hF : x.From ≠ n := fun hF => by
          have := List.any_eq_false.1 ht.2 x (List.mem_filter.2 ⟨hx, decide_eq_true hF⟩); exact this (decide_eq_true hT)
        rw [zc6 hn c x.From, if_neg hF]
      · rw [decide_eq_false hT]; rfl
    · rfl
  rw [e1, e2]
theorem zis (hp : okP p = true) (hl : VL l) (hc : Comp p l) (hb : Board p l b) {n : Int} (hn : 0 ≤ n ∧ n < 512) : zaW b n = some ((p.Rules.Pairs.filter fun c => zcw n c && zah c l).length : Int) := by
  have hg := zbD (zbq hp).r; have n1 := hg.np
  have e : Vec.get b.pairs n.toNat = p.Rules.Pairs.filter (zcw n) := by
    rw [hb.pr _ (by omega)]
    have h1 : ∀ xs : List GPair, (∀ c ∈ xs, c.A ≠ c.B) → (xs.flatMap fun c => (bif decide (c.A = ((n.toNat : Nat) : Int)) then [c] else []) ++ (bif decide (c.B = ((n.toNat : Nat) : Int)) then [c] else [])) = xs.filter (zcw n) := fun xs => by
      induction xs with
      | nil => intro _; rfl
      | cons c xs ih =>
        intro h; rw [List.flatMap_cons, List.filter_cons, ih fun d hd => h d (List.mem_cons_of_mem _ hd), show ((n.toNat : Nat) : Int) = n by omega]; have hab := h c (List.mem_cons_self ..); unfold zcw; by_cases hA : c.A = n
        · rw [decide_eq_true hA, decide_eq_false (fun hB => hab (by rw [hA, hB]))]; rfl
        · rw [decide_eq_false hA]
          cases decide (c.B = n) <;> rfl
    refine h1 _ fun c hm => ?_; have := of_decide_eq_true (zbH (zbv (zbv (hg.p c hm)))); omega
  unfold zaW; simp only [zaK, Nat.sub_zero]; rw [zaR hn, e]; refine Eq.trans (zcR (fun i s => bif zah (nth (p.Rules.Pairs.filter (zcw n)) i) l then wI (s + 1) else s) fun i next s hi => ?_) ?_
  · rw [zey hp hl hc hb (List.mem_filter.1 (zaB hi)).1, Option.bind_some]
    cases zah (nth (p.Rules.Pairs.filter (zcw n)) i) l <;> rfl
  have h2 := List.length_filter_le (zcw n) p.Rules.Pairs; rw [zck (l := p.Rules.Pairs.filter (zcw n)) (g := fun s x => bif zah x l then wI (s + 1) else s), zc1 (fun x => zah x l) _ 0 (by omega) (by omega), List.filter_filter, Int.zero_add]
  congr 4
  funext c
  rw [Bool.and_comm]
theorem zh9 (hp : okP p = true) (hb : Board p l b) {n : Int} (hn : 0 ≤ n ∧ n < 512) : zaV b n = some (zc3 p l n : Int) := by
  unfold zaV; rw [zgL hp hb hn]; rfl
def zga (p : GProblem) (l : List GChoice) (s : Int × Int) (y : GLoad) : Int × Int := bif decide (¬ y.To = s.2) then (wI (s.1 + (zc3 p l y.To : Int)), y.To) else s
theorem zfq (hn : p.Rules.Caps.length ≤ 1024) : ∀ (ys : List GLoad) (a last : Int), ys.Pairwise (fun x y => x.To ≤ y.To) → (∀ y ∈ ys, last ≤ y.To) → 0 ≤ a → a + (ys.length : Int) * 1024 ≤ 1000000000 → (ys.foldl (zga p l) (a, last)).1 = a + ((p.Rules.Caps.filter fun c => (!decide (c.Station = last) && ys.any fun y => decide (y.To = c.Station)) && zaf p c l).length : Int)
  | [], a, last, _, _, _, _ => by
    (have : (p.Rules.Caps.filter fun c => (!decide (c.Station = last) && ([] : List GLoad).any fun y => decide (y.To = c.Station)) && zaf p c l) = [] := by simp); rw [this]; simp
  | y :: ys, a, last, hs, hl, h0, h1 => by
    rw [List.pairwise_cons] at hs; rw [List.length_cons] at h1; rw [List.foldl_cons]; have hle := hl y (List.mem_cons_self ..); by_cases hy : y.To = last
    · (have e0 : zga p l (a, last) y = (a, last) := by unfold zga; rw [decide_eq_false (by simpa using hy)]; rfl); rw [e0, zfq hn ys a last hs.2 (fun z hz => hl z (List.mem_cons_of_mem _ hz)) h0 (by omega)]
      congr 3
      refine List.filter_congr fun c _ => ?_; rw [List.any_cons]; by_cases hc : c.Station = last
      · rw [decide_eq_true hc]; rfl
      · rw [decide_eq_false (show ¬ y.To = c.Station from fun e => hc (by rw [← e, hy])), Bool.false_or]
    · (have e0 : zga p l (a, last) y = (wI (a + (zc3 p l y.To : Int)), y.To) := by unfold zga; rw [decide_eq_true (by simpa using hy)]; rfl); have hlt : zc3 p l y.To ≤ 1024 := Nat.le_trans (List.length_filter_le _ _) hn; rw [e0, zfN (by omega), zfq hn ys _ y.To hs.2 hs.1 (by omega) (by omega)]
      have e : (p.Rules.Caps.filter fun c => (!decide (c.Station = last) && (y :: ys).any fun y => decide (y.To = c.Station)) && zaf p c l) = p.Rules.Caps.filter fun c => (decide (c.Station = y.To) && zaf p c l) || ((!decide (c.Station = y.To) && ys.any fun y => decide (y.To = c.Station)) && zaf p c l) := by
        refine List.filter_congr fun c _ => ?_; rw [List.any_cons]; by_cases hc : c.Station = y.To
        · rw [decide_eq_true hc, decide_eq_true hc.symm, decide_eq_false (show ¬ c.Station = last from fun e => hy (by rw [← hc, e]))]; simp
        · rw [decide_eq_false hc, decide_eq_false (show ¬ y.To = c.Station from fun e => hc e.symm)]; by_cases hcl : c.Station = last
          · have : (ys.any fun y => decide (y.To = c.Station)) = false := by
              rw [List.any_eq_false]; intro z hz hq; have h2 := hs.1 z hz; have h3 := of_decide_eq_true hq; omega
            rw [this]; simp
          · rw [decide_eq_false hcl]; simp
      rw [e, zdh (fun c => decide (c.Station = y.To) && zaf p c l) (fun c => (!decide (c.Station = y.To) && ys.any fun y => decide (y.To = c.Station)) && zaf p c l) (fun c hc => by rw [zbv hc]; rfl)]; unfold zc3; omega
theorem zgT (hp : okP p = true) (n : Int) : (tos p n).Pairwise (fun x y => x.To ≤ y.To) := by
  have h := (zgB zhx).1 (zhb (zbq hp).r).il; refine (h.sublist List.filter_sublist).imp fun {a b} hab => ?_; unfold zcP at hab; rcases lexL_cons.1 hab with h1 | ⟨h1, _⟩
  · omega
  · omega
theorem zir (hp : okP p = true) (hb : Board p l b) {n : Int} (hn : 0 ≤ n ∧ n < 512) : zaX b n = some ((p.Rules.Caps.filter fun c => ((tos p n).any fun y => decide (y.To = c.Station)) && zaf p c l).length : Int) := by
  have hg := zbD (zbq hp).r; have n2 := hg.nl
  have e : Vec.get b.from_ n.toNat = tos p n := by
    rw [hb.fr _ (by omega)]; unfold tos; congr 1; funext c; rw [show ((n.toNat : Nat) : Int) = n by omega]
  have hT : ∀ y ∈ tos p n, 0 ≤ y.To ∧ y.To < 512 := fun y hy => by
    have h := zcS (hg.l y (List.mem_filter.1 hy).1); have h1 := zbu h.1; omega
  unfold zaX; simp only [zaK, Nat.sub_zero]; rw [zaR hn, e]; refine Eq.trans (zcR (fun i s => zga p l s (nth (tos p n) i)) fun i next s hi => ?_) ?_
  · have h := hT _ (zaB hi); unfold zga
    cases decide (¬ (nth (tos p n) i).To = s.2)
    · rfl
    · rw [cond_true, cond_true, zgL hp hb h, Option.bind_some]
  have hlen : (tos p n).length ≤ 1024 := Nat.le_trans (List.length_filter_le _ _) n2; rw [zck (l := tos p n) (g := zga p l), zfq hg.nc (tos p n) 0 (-1) (zgT hp n) (fun y hy => by have := hT y hy; omega) (by omega) (by omega), Int.zero_add]
  congr 3
  refine List.filter_congr fun c hc => ?_; have := zbu (zeB (hg.c c hc)); rw [decide_eq_false (by omega), Bool.not_false, Bool.true_and]
theorem ziR (hp : okP p = true) (n : Int) : zfE p l n = (p.Rules.Pairs.filter fun c => zcw n c && zah c l).length + zc3 p l n + (p.Rules.Caps.filter fun c => ((tos p n).any fun y => decide (y.To = c.Station)) && zaf p c l).length := by
  have hg := zbD (zbq hp).r
  have e : (p.Rules.Caps.filter fun c => zdb p n c && zaf p c l) = p.Rules.Caps.filter fun c => (decide (c.Station = n) && zaf p c l) || (((tos p n).any fun y => decide (y.To = c.Station)) && zaf p c l) := by
    refine List.filter_congr fun c _ => ?_; unfold zdb; rw [Bool.and_or_distrib_right]
  unfold zfE
  rw [e, zdh (fun c => decide (c.Station = n) && zaf p c l) (fun c => ((tos p n).any fun y => decide (y.To = c.Station)) && zaf p c l) (fun c hc => by
    have hS : c.Station = n := of_decide_eq_true (zbv hc)
    have : ((tos p n).any fun y => decide (y.To = c.Station)) = false := by
      rw [List.any_eq_false]; intro y hy hq; have h2 := List.mem_filter.1 hy; have h3 := of_decide_eq_true (zbH (zbv (zbv (hg.l y h2.1)))); exact h3 (by rw [of_decide_eq_true hq, hS, of_decide_eq_true h2.2])
    rw [this]; rfl)]
  unfold zc3; omega
theorem ziZ (hp : okP p = true) (n : Int) : zfE p l n ≤ 100000 := by
  have hg := zbD (zbq hp).r; have n1 := hg.np; have n3 := hg.nc; unfold zfE; have h1 := List.length_filter_le (fun c => zcw n c && zah c l) p.Rules.Pairs; have h2 := List.length_filter_le (fun c => zdb p n c && zaf p c l) p.Rules.Caps; omega
end
def bstep (cost : Int → Int) (cur : Int) (r : List Int × Int) (ch : Int) : List Int × Int := bif decide (ch = cur) then r else bif (r.1.isEmpty || decide (cost ch < r.2)) then ([ch], cost ch) else bif decide (cost ch = r.2) then (r.1 ++ [ch], r.2) else r
def bfold (p : GProblem) (l : List GChoice) (n : Int) (d : List Int) : List Int × Int := d.foldl (bstep (fun ch => (zcG p (zcm l n ch) : Int)) (onL l n)) ([], 0)
theorem zdk (p : GProblem) (l : List GChoice) (n : Int) {d : List Int} {i : Nat} (hi : i < d.length) : bfold p l n (d.take (i + 1)) = bstep (fun ch => (zcG p (zcm l n ch) : Int)) (onL l n) (bfold p l n (d.take i)) (nth d i) := by
  unfold bfold; rw [zd9 hi, List.foldl_append]; rfl
theorem zgq {σ ρ : Type} (f : Nat → (σ → ρ) → σ → ρ) (K : σ → ρ) (a : σ) : zaj f K 3 0 a = f 0 (fun s => f 1 (fun s => f 2 K s) s) a := rfl
section
variable {p : GProblem} {l : List GChoice} {b : Gboard}
theorem zji (hp : okP p = true) (hl : VL l) (hC : Comp p l) (hb : Board p l b) {j : Nat} (hj : j < p.Domains.length) : ∃ on', za8 b (nth p.Domains j).Station = some ((bfold p l (nth p.Domains j).Station (nth p.Domains j).Channels).1, on') ∧ TabC l on' := by
  have hd := hb.dm j hj; have hn := zdg (zbq hp).d (zaB hj); have hm : ∃ x ∈ l, x.Station = (nth p.Domains j).Station := ⟨nth l j, zaB (by rw [hC.len]; exact hj), hC.st j hj⟩; have hchs := List.all_eq_true.1 (zbv (zbH (List.all_eq_true.1 (zbq hp).d _ (zaB hj)))); have h50 := of_decide_eq_true (zbv (zbH ((zgu _).trans (List.all_eq_true.1 (zbq hp).d _ (zaB hj))))); unfold za8; simp only [zaK, Nat.sub_zero]; rw [zaR ⟨hn.1, hn.2⟩, hd, hb.get ⟨hn.1, hn.2⟩]; generalize hnn : (nth p.Domains j).Station = n at *; generalize hdd : (nth p.Domains j).Channels = d at *; refine zdj (σ := List Int × Int × Vec 512 Int) (fun i s => s.1 = (bfold p l n (d.take i)).1 ∧ ((bfold p l n (d.take i)).1 ≠ [] → (bfold p l n (d.take i)).2 = s.2.1 + (zgV p l n : Int)) ∧ s.1.length ≤ i ∧ ∀ m : Nat, m < 512 → (m : Int) ≠ n → Vec.get s.2.2 m = onL l m) (fun r => ∃ on', r = some ((bfold p l n d).1, on') ∧ TabC l on') ⟨rfl, fun h => absurd rfl h, Nat.le_refl _, fun m h _ => hb.on m h⟩ (fun s hs => ?_) (fun i s next hi hs hnx => ?_)
  · rw [List.take_length] at hs; refine ⟨_, congrArg some (Prod.ext hs.1 rfl), fun m h => ?_⟩; rw [Vec.get_put (by omega)]; by_cases e : m = n.toNat
    · rw [if_pos e, show (m : Int) = n by omega]
    · rw [if_neg e]; exact hs.2.2.2 m h (by omega)
  · obtain ⟨h1, h2, h3, h4⟩ := hs; have hch := zgr (hchs _ (zaB hi)); (have hHas : za5 d (nth d i) = true := by rw [ze8, List.any_eq_true]; exact ⟨_, zaB hi, decide_eq_true rfl⟩); by_cases hc : nth d i = onL l n
    · rw [decide_eq_true hc, cond_true]; refine hnx _ ⟨?_, ?_, Nat.le_trans h3 (Nat.le_succ i), h4⟩
      · rw [zdk p l n hi]; unfold bstep; rw [decide_eq_true hc]; exact h1
      · rw [zdk p l n hi]; unfold bstep; rw [decide_eq_true hc]; exact h2
    · rw [decide_eq_false hc, cond_false, zgq]
      have hT : TabC (zcm l n (nth d i)) (Vec.put s.2.2 n.toNat (nth d i)) := fun m h => by
        rw [Vec.get_put (by omega), zc6 hm]; by_cases e : (m : Int) = n
        · rw [if_pos e, if_pos (by omega)]
        · rw [if_neg e, if_neg (by omega), h4 m h e]
      have hb' := hb.with hT; have hV := zgK hl (n := n) hch
      have hC' : Comp p (zcm l n (nth d i)) := by
        have := zfp hC hj (c := nth d i) (by rw [hdd]; exact hHas) hp
        rwa [hnn] at this
      have c1 := zis hp hV hC' hb' (n := n) ⟨hn.1, hn.2⟩; have c2 := zh9 hp hb' (n := n) ⟨hn.1, hn.2⟩; have c3 := zir hp hb' (n := n) ⟨hn.1, hn.2⟩; have hpe := ziR (l := zcm l n (nth d i)) hp n; have hpl := ziZ (l := zcm l n (nth d i)) hp n; have hcost := zg6 (p := p) (l := zcm l n (nth d i)) n; rw [zgQ hp hm] at hcost; have d00 : decide (((0 : Nat) : Int) = 0) = true := rfl; have d10 : decide (((1 : Nat) : Int) = 0) = false := rfl; have d11 : decide (((1 : Nat) : Int) = 1) = true := rfl; have d20 : decide (((2 : Nat) : Int) = 0) = false := rfl; have d21 : decide (((2 : Nat) : Int) = 1) = false := rfl; simp only [d00, d10, d11, d20, d21, cond_true, cond_false, c1, c2, c3, Option.bind_some]; generalize (p.Rules.Pairs.filter fun c => zcw n c && zah c (zcm l n (nth d i))).length = x1 at *; generalize zc3 p (zcm l n (nth d i)) n = x2 at *; generalize (p.Rules.Caps.filter fun c => ((tos p n).any fun y => decide (y.To = c.Station)) && zaf p c (zcm l n (nth d i))).length = x3 at *; rw [zfN (x := 0 + (x1 : Int)) (by omega), zfN (x := 0 + (x1 : Int) + (x2 : Int)) (by omega), zfN (x := 0 + (x1 : Int) + (x2 : Int) + (x3 : Int)) (by omega)]; rw [show (0 : Int) + (x1 : Int) + (x2 : Int) + (x3 : Int) = (zfE p (zcm l n (nth d i)) n : Int) by omega]
      have hroom : ∀ t : List Int, t.length ≤ i → room (t ++ [nth d i]).length 8 := fun t ht => by
        rw [List.length_append]; unfold room; simp only [List.length_cons, List.length_nil]; omega
      have hput : ∀ m : Nat, m < 512 → (m : Int) ≠ n → Vec.get (Vec.put s.2.2 n.toNat (nth d i)) m = onL l m := fun m h e => by
        rw [Vec.get_put (by omega), if_neg (by omega), h4 m h e]
      have hbs := zdk p l n hi; unfold bstep at hbs; rw [decide_eq_false hc, cond_false, ← h1] at hbs; generalize hX : bfold p l n (d.take i) = r at *; by_cases he : s.1 = []
      · rw [he] at hbs ⊢; rw [show ([] : List Int).isEmpty = true from rfl, Bool.true_or, cond_true] at hbs ⊢; rw [decide_true, cond_true, zaR (hroom _ (by simp))]; refine hnx _ ⟨by rw [hbs]; rfl, fun _ => by rw [hbs]; dsimp only; omega, by simp, hput⟩
      · have h5 := h2 (by rw [← h1]; exact he)
        have he2 : s.1.isEmpty = false := by cases hs : s.1 with
          | nil => exact absurd hs he
          | cons a t => rfl
        rw [he2, Bool.false_or] at hbs ⊢; by_cases hlt : (zfE p (zcm l n (nth d i)) n : Int) < s.2.1
        · rw [decide_eq_true (show (zcG p (zcm l n (nth d i)) : Int) < r.2 by omega), cond_true] at hbs; rw [decide_eq_true hlt, cond_true, decide_true, cond_true, zaR (hroom _ (by simp))]; refine hnx _ ⟨by rw [hbs]; rfl, fun _ => by rw [hbs]; dsimp only; omega, by simp, hput⟩
        · rw [decide_eq_false (show ¬ (zcG p (zcm l n (nth d i)) : Int) < r.2 by omega), cond_false] at hbs; rw [decide_eq_false hlt, cond_false]; by_cases heq : (zfE p (zcm l n (nth d i)) n : Int) = s.2.1
          · rw [decide_eq_true (show (zcG p (zcm l n (nth d i)) : Int) = r.2 by omega), cond_true] at hbs; rw [decide_eq_true heq, cond_true, zaR (hroom _ h3)]; refine hnx _ ⟨by rw [hbs], fun _ => by rw [hbs]; exact h5, by rw [List.length_append]; simp only [List.length_cons, List.length_nil]; omega, hput⟩
          · rw [decide_eq_false (show ¬ (zcG p (zcm l n (nth d i)) : Int) = r.2 by omega), cond_false] at hbs; rw [decide_eq_false heq, cond_false]; refine hnx _ ⟨by rw [hbs]; exact h1, fun _ => by rw [hbs]; exact h5, Nat.le_trans h3 (Nat.le_succ i), hput⟩
end
section
variable {p : GProblem} {l : List GChoice} {b : Gboard}
theorem zgv (hp : okP p = true) {j : Nat} (hj : j < p.Domains.length) : zas p (nth p.Domains j).Station = (j : Int) := by
  have key : ∀ a b, a < b → b < p.Domains.length → (nth p.Domains a).Station < (nth p.Domains b).Station := fun a b hab hb => by
    have h := List.pairwise_iff_getElem.1 (zcC (zbq hp).i) a b (by rw [List.length_map]; omega) (by rw [List.length_map]; exact hb) hab; rw [List.getElem_map, List.getElem_map] at h
    rwa [zaN (by omega), zaN hb]
  unfold zas; simp only [zaK, Nat.sub_zero]; refine zdj (σ := Unit) (fun i _ => i ≤ j) (fun r => r = (j : Int)) (Nat.zero_le _) (fun _ h => absurd h (by omega)) (fun i _ next hi h hn => ?_); by_cases he : (nth p.Domains i).Station = (nth p.Domains j).Station
  · rw [decide_eq_true he, cond_true]; rcases Nat.lt_or_ge i j with hlt | hge
    · have := key i j hlt hj; omega
    · rw [show i = j by omega]
  · rw [decide_eq_false he, cond_false]; refine hn () ?_; rcases Nat.lt_or_ge i j with hlt | hge
    · omega
    · exact absurd (by rw [show i = j by omega]) he
theorem zhe (n : Int) (d : List Int) : ∀ x ∈ (bfold p l n d).1, x ∈ d := by
  have key : ∀ i, i ≤ d.length → ∀ x ∈ (bfold p l n (d.take i)).1, x ∈ d := fun i => by
    induction i with
    | zero => intro _ x hx; cases hx
    | succ i ih =>
      intro hi x hx; rw [zdk p l n (by omega)] at hx; unfold bstep at hx; have hm := zaB (show i < d.length by omega); have h := ih (by omega)
      revert hx
      cases decide (nth d i = onL l n)
      · rw [cond_false]
        cases ((bfold p l n (d.take i)).1.isEmpty || decide ((zcG p (zcm l n (nth d i)) : Int) < (bfold p l n (d.take i)).2))
        · rw [cond_false]
          cases decide ((zcG p (zcm l n (nth d i)) : Int) = (bfold p l n (d.take i)).2)
          · exact h x
          · intro hx; rcases List.mem_append.1 hx with hx | hx
            · exact h x hx
            · simp at hx; rw [hx]; exact hm
        · intro hx; simp at hx; rw [hx]; exact hm
      · exact h x
  have := key d.length (Nat.le_refl _)
  rwa [List.take_length] at this
theorem zhU (n : Int) (d : List Int) : (bfold p l n d).1.length ≤ d.length := by
  have key : ∀ i, i ≤ d.length → (bfold p l n (d.take i)).1.length ≤ i := fun i => by
    induction i with
    | zero => intro _; exact Nat.le_refl _
    | succ i ih =>
      intro hi; rw [zdk p l n (by omega)]; unfold bstep; have h := ih (by omega)
      cases decide (nth d i = onL l n)
      · rw [cond_false]
        cases ((bfold p l n (d.take i)).1.isEmpty || decide ((zcG p (zcm l n (nth d i)) : Int) < (bfold p l n (d.take i)).2))
        · rw [cond_false]
          cases decide ((zcG p (zcm l n (nth d i)) : Int) = (bfold p l n (d.take i)).2)
          · exact Nat.le_trans h (Nat.le_succ i)
          · rw [cond_true, List.length_append]; simp only [List.length_cons, List.length_nil]; omega
        · rw [cond_true]; simp
      · exact Nat.le_trans h (Nat.le_succ i)
  have := key d.length (Nat.le_refl _)
  rwa [List.take_length] at this
def whoL (p : GProblem) (l : List GChoice) : List Int := (p.Domains.filter fun d => invB p l d.Station).map (·.Station)
theorem zi9 {n : Int} (h : n ∈ whoL p l) : ∃ j, j < p.Domains.length ∧ (nth p.Domains j).Station = n := by
  obtain ⟨d, hd, rfl⟩ := List.mem_map.1 h; obtain ⟨j, hj, rfl⟩ := List.mem_iff_getElem.1 (List.mem_filter.1 hd).1; exact ⟨j, hj, by rw [zaN hj]⟩
theorem zhF (hp : okP p = true) : (whoL p l).length ≤ 512 := by
  unfold whoL; rw [List.length_map]; exact Nat.le_trans (List.length_filter_le _ _) (zbq hp).len
theorem zhX (hp : okP p = true) (h : zcG p l ≠ 0) : whoL p l ≠ [] := by
  have hO := zbq hp
  have hD : ∀ n, hasD p n = true → ∃ d ∈ p.Domains, d.Station = n := fun n hn => by
    rw [zek hO.d] at hn; obtain ⟨d, hd, rfl⟩ := List.mem_map.1 (anyD_mem.1 hn); exact ⟨d, hd, rfl⟩
  have go : ∀ n, hasD p n = true → invB p l n = true → whoL p l ≠ [] := fun n hn hi => by
    obtain ⟨d, hd, rfl⟩ := hD n hn; exact List.ne_nil_of_mem (List.mem_map.2 ⟨d, List.mem_filter.2 ⟨hd, hi⟩, rfl⟩)
  by_cases h1 : (p.Rules.Pairs.filter fun c => zah c l) = []
  · have h2 : (p.Rules.Caps.filter fun c => zaf p c l) ≠ [] := fun e => h (by unfold zcG; rw [h1, e]; rfl); obtain ⟨c, hc⟩ := List.exists_mem_of_ne_nil _ h2; have hc2 := List.mem_filter.1 hc; refine go c.Station (List.all_eq_true.1 (zbH (zbH hO.l)) c hc2.1) ?_; unfold invB; rw [Bool.or_eq_true]; refine .inr (List.any_eq_true.2 ⟨c, hc2.1, ?_⟩); rw [hc2.2, decide_eq_true rfl]; rfl
  · obtain ⟨c, hc⟩ := List.exists_mem_of_ne_nil _ h1; have hc2 := List.mem_filter.1 hc; refine go c.A (zbv (List.all_eq_true.1 (zbv hO.l) c hc2.1)) ?_; unfold invB; rw [Bool.or_eq_true]; refine .inl (List.any_eq_true.2 ⟨c, hc2.1, ?_⟩); rw [hc2.2, decide_eq_true (show c.A = c.A from rfl)]; rfl
end
section
variable {p : GProblem} {l : List GChoice} {b : Gboard}
def zeD (p : GProblem) (n : Int) : List Int := (nth p.Domains (zas p n).toNat).Channels
theorem zfD (hp : okP p = true) {j : Nat} (hj : j < p.Domains.length) : zeD p (nth p.Domains j).Station = (nth p.Domains j).Channels := by
  unfold zeD; rw [zgv hp hj]; rfl
noncomputable def stepN (p : GProblem) (s : List GChoice × BitVec 64) : Int := nth (whoL p s.1) (numB s.2 (whoL p s.1).length).1.toNat
noncomputable def stepB (p : GProblem) (s : List GChoice × BitVec 64) : List Int := (bfold p s.1 (stepN p s) (zeD p (stepN p s))).1
noncomputable def stepS (p : GProblem) (s : List GChoice × BitVec 64) : List GChoice × BitVec 64 :=
  bif (stepB p s).isEmpty then (s.1, (numB s.2 (whoL p s.1).length).2) else (zcm s.1 (stepN p s) (nth (stepB p s) (numB (numB s.2 (whoL p s.1).length).2 (stepB p s).length).1.toNat), (numB (numB s.2 (whoL p s.1).length).2 (stepB p s).length).2)
noncomputable def solveR (p : GProblem) : Nat → List GChoice × BitVec 64 → List GChoice × Nat × Bool
  | 0, s => (s.1, 0, decide (zcG p s.1 = 0))
  | k + 1, s => bif decide (zcG p s.1 = 0) then (s.1, 0, true) else ((solveR p k (stepS p s)).1, (solveR p k (stepS p s)).2.1 + 1, (solveR p k (stepS p s)).2.2)
structure GoodL (p : GProblem) (l : List GChoice) : Prop where
  v : VL l
  c : Comp p l
theorem zhQ (hp : okP p = true) {s : List GChoice × BitVec 64} (h0 : zcG p s.1 ≠ 0) : ∃ j, j < p.Domains.length ∧ (nth p.Domains j).Station = stepN p s ∧ 0 ≤ (numB s.2 (whoL p s.1).length).1 ∧ (numB s.2 (whoL p s.1).length).1 < ((whoL p s.1).length : Int) := by
  have h1 := List.length_pos_iff.2 (zhX hp h0); have h2 := zhF (l := s.1) hp; have hb := zgf (limit := ((whoL p s.1).length : Int)) (by omega) (by omega) s.2; obtain ⟨j, hj, e⟩ := zi9 (zaB (l := whoL p s.1) (i := (numB s.2 (whoL p s.1).length).1.toNat) (by omega)); exact ⟨j, hj, e, hb⟩
theorem zf8 (hp : okP p = true) {s : List GChoice × BitVec 64} {j : Nat} (hj : j < p.Domains.length) (e : (nth p.Domains j).Station = stepN p s) : (stepB p s).length ≤ 50 := by
  have h50 := of_decide_eq_true (zbv (zbH ((zgu _).trans (List.all_eq_true.1 (zbq hp).d _ (zaB hj))))); unfold stepB; rw [← e, zfD hp hj]; have := zhU (p := p) (l := s.1) (nth p.Domains j).Station (nth p.Domains j).Channels; omega
theorem zfM (hp : okP p = true) {s : List GChoice × BitVec 64} (hG : GoodL p s.1) (h0 : zcG p s.1 ≠ 0) : GoodL p (stepS p s).1 := by
  obtain ⟨j, hj, e, hb⟩ := zhQ hp h0; unfold stepS
  cases he : (stepB p s).isEmpty with
  | true => exact hG
  | false =>
    rw [cond_false]; have hl := zf8 hp hj e
    have h1 : 0 < (stepB p s).length := by cases hs : stepB p s with
      | nil => rw [hs] at he; cases he
      | cons a t => simp
    have hb2 := zgf (limit := ((stepB p s).length : Int)) (by omega) (by omega) (numB s.2 (whoL p s.1).length).2; have hm := zaB (l := stepB p s) (i := (numB (numB s.2 (whoL p s.1).length).2 (stepB p s).length).1.toNat) (by omega); generalize nth (stepB p s) (numB (numB s.2 (whoL p s.1).length).2 (stepB p s).length).1.toNat = ch at *
    have hd : ch ∈ (nth p.Domains j).Channels := by
      unfold stepB at hm; rw [← e, zfD hp hj] at hm; exact zhe _ _ _ hm
    have hchs := List.all_eq_true.1 (zbv (zbH (List.all_eq_true.1 (zbq hp).d _ (zaB hj)))); refine ⟨zgK hG.v (zgr (hchs _ hd)), ?_⟩; dsimp only; rw [← e]; exact zfp hG.c hj (by rw [ze8, List.any_eq_true]; exact ⟨_, hd, decide_eq_true rfl⟩) hp
theorem zeC : ∀ (k : Nat) (s : List GChoice × BitVec 64), (solveR p k s).2.2 = decide (zcG p (solveR p k s).1 = 0)
  | 0, s => rfl
  | k + 1, s => by
    rw [solveR]; by_cases h : zcG p s.1 = 0
    · rw [decide_eq_true h, cond_true]; exact (decide_eq_true h).symm
    · rw [decide_eq_false h, cond_false]; exact zeC k _
theorem zd5 (hp : okP p = true) : ∀ (k : Nat) (s : List GChoice × BitVec 64), GoodL p s.1 → GoodL p (solveR p k s).1
  | 0, s, h => h
  | k + 1, s, h => by
    rw [solveR]; by_cases h0 : zcG p s.1 = 0
    · rw [decide_eq_true h0, cond_true]; exact h
    · rw [decide_eq_false h0, cond_false]; exact zd5 hp k _ (zfM hp h h0)
theorem zgD (hp : okP p = true) {budget : Int} (hB : budget ≤ 10000) {ρ : Type} {K : Int × BitVec 64 × Vec 512 Int → Option ρ} {f : (Int × BitVec 64 × Vec 512 Int → Option ρ) → Int × BitVec 64 × Vec 512 Int → Option ρ}
    (hf : ∀ next l st m c, GoodL p l → TabC l c → (bif decide (m < budget) && !decide (zcG p l = 0) then ∃ c', TabC (stepS p (l, st)).1 c' ∧ f next (m, st, c) = next (wI (m + 1), (stepS p (l, st)).2, c') else f next (m, st, c) = K (m, st, c))) : ∀ (k : Nat) (l : List GChoice) (st : BitVec 64) (m : Int) (c : Vec 512 Int), GoodL p l → TabC l c → 0 ≤ m → m + (k : Int) = budget → ∀ M, k < M → ∃ st' c', TabC (solveR p k (l, st)).1 c' ∧ zbP f M (m, st, c) = K (m + ((solveR p k (l, st)).2.1 : Int), st', c')
  | 0, l, st, m, c, hG, hT, h0, h1, M, hM => by
    obtain ⟨M', rfl⟩ : ∃ M', M = M' + 1 := ⟨M - 1, by omega⟩; have h := hf (zbP f M') l st m c hG hT; rw [decide_eq_false (show ¬ m < budget by omega), Bool.false_and, cond_false] at h; exact ⟨st, c, hT, by rw [zc7, h]; show _ = K (m + ((0 : Nat) : Int), st, c); rw [show m + ((0 : Nat) : Int) = m by omega]⟩
  | k + 1, l, st, m, c, hG, hT, h0, h1, M, hM => by
    obtain ⟨M', rfl⟩ : ∃ M', M = M' + 1 := ⟨M - 1, by omega⟩; have h := hf (zbP f M') l st m c hG hT; rw [decide_eq_true (show m < budget by omega), Bool.true_and] at h; rw [solveR]; by_cases hc : zcG p l = 0
    · rw [decide_eq_true hc, Bool.not_true, cond_false] at h; rw [decide_eq_true hc, cond_true]; exact ⟨st, c, hT, by rw [zc7, h]; show _ = K (m + ((0 : Nat) : Int), st, c); rw [show m + ((0 : Nat) : Int) = m by omega]⟩
    · rw [decide_eq_false hc, Bool.not_false, cond_true] at h; rw [decide_eq_false hc, cond_false]; obtain ⟨c', hT', h⟩ := h; obtain ⟨st2, c2, h2, h3⟩ := zgD hp hB hf k (stepS p (l, st)).1 (stepS p (l, st)).2 (m + 1) c' (zfM (s := (l, st)) hp hG hc) hT' (by omega) (by omega) M' (by omega); rw [show ((stepS p (l, st)).1, (stepS p (l, st)).2) = stepS p (l, st) from rfl] at h2 h3; refine ⟨st2, c2, h2, ?_⟩; rw [zc7, h, zfN (by omega), h3]; dsimp only
      congr 2
      omega
end
section
variable {p : GProblem} {l : List GChoice} {b : Gboard}
theorem zfc {hs : List GChoice} (hp : okP p = true) (hne : p.Domains.any zdm = false) : GoodL p (p.Domains.map (zbV hs)) := by
  have hO := zbq hp; have hn : ∀ i, i < p.Domains.length → nth (p.Domains.map (zbV hs)) i = zbV hs (nth p.Domains i) := fun i hi => zcW hi
  have hin : ∀ i, i < p.Domains.length → za5 (nth p.Domains i).Channels (zbV hs (nth p.Domains i)).Channel = true := fun i hi => by
    unfold zbV
    cases hH : za5 (nth p.Domains i).Channels (onL hs (nth p.Domains i).Station)
    · rw [cond_false]; have h3 := List.any_eq_false.1 hne _ (zaB hi); have h4 : ¬ ((nth p.Domains i).Channels.length : Int) = 0 := fun e => h3 (decide_eq_true e); rw [ze8, List.any_eq_true]; exact ⟨_, zaB (by omega), decide_eq_true rfl⟩
    · exact hH
  have key : ∀ a b, a < b → b < p.Domains.length → (nth p.Domains a).Station < (nth p.Domains b).Station := fun a b hab hb => by
    have h := List.pairwise_iff_getElem.1 (zcC hO.i) a b (by rw [List.length_map]; omega) (by rw [List.length_map]; exact hb) hab; rw [List.getElem_map, List.getElem_map] at h
    rwa [zaN (by omega), zaN hb]
  refine ⟨⟨fun i hi => ?_, fun i hi => ?_, fun i j hij hj => ?_⟩, ⟨List.length_map _, fun i hi => ?_, fun i hi => ?_⟩⟩
  · rw [List.length_map] at hi; rw [hn i hi]; have := zdg hO.d (zaB hi)
    show 0 ≤ (nth p.Domains i).Station ∧ (nth p.Domains i).Station ≤ 511
    omega
  · rw [List.length_map] at hi; rw [hn i hi]; have h := hin i hi; rw [ze8, List.any_eq_true] at h; obtain ⟨x, hx, hq⟩ := h; rw [← of_decide_eq_true hq]; exact zgr (List.all_eq_true.1 (zbv (zbH (List.all_eq_true.1 hO.d _ (zaB hi)))) x hx)
  · rw [List.length_map] at hj; rw [hn i (by omega), hn j hj]; exact key i j hij hj
  · rw [hn i hi]; rfl
  · rw [hn i hi]; exact hin i hi
noncomputable abbrev solveN (p : GProblem) (hs : List GChoice) (seed budget : Int) : List GChoice × Nat × Bool := solveR p budget.toNat (p.Domains.map (zbV hs), BitVec.ofInt 64 seed)
theorem zig (hp : okP p = true) {budget : Int} (hB : budget ≤ 10000) {ρ : Type} {K : Int × BitVec 64 × Vec 512 Int → Option ρ} {f : (Int × BitVec 64 × Vec 512 Int → Option ρ) → Int × BitVec 64 × Vec 512 Int → Option ρ} {Q : Option ρ → Prop}
    (hf : ∀ next l st m c, GoodL p l → TabC l c → (bif decide (m < budget) && !decide (zcG p l = 0) then ∃ c', TabC (stepS p (l, st)).1 c' ∧ f next (m, st, c) = next (wI (m + 1), (stepS p (l, st)).2, c') else f next (m, st, c) = K (m, st, c))) (k : Nat) (l : List GChoice) (st : BitVec 64) (m : Int) (c : Vec 512 Int) (h1 : GoodL p l) (h2 : TabC l c) (h3 : 0 ≤ m) (h4 : m + (k : Int) = budget) (M : Nat) (h5 : k < M) (g : ∀ st' c', TabC (solveR p k (l, st)).1 c' → Q (K (m + ((solveR p k (l, st)).2.1 : Int), st', c'))) : Q (zbP f M (m, st, c)) := by
  obtain ⟨st', c', h6, h7⟩ := zgD hp hB hf k l st m c h1 h2 h3 h4 M h5; rw [h7]; exact g st' c' h6
theorem zhS (p : GProblem) (l : List GChoice) : zb7 p l = zb0 p l := rfl
theorem lay_x {ρ : Type} {l0 lf : List GChoice} {c : Vec 512 Int} (h0 : GoodL p l0) (hf : GoodL p lf) (hc : TabC lf c) (hp : okP p = true) (K : List GChoice → Option ρ) : zaj (fun (i_27 : Nat) (next26 : List GChoice → Option ρ) (l_25 : List GChoice) =>
                grd (0 ≤ (i_27 : Int) ∧ (i_27 : Int) < (l_25.length : Int)) <|
                grd (0 ≤ (nth l_25 i_27).Station ∧ (nth l_25 i_27).Station < (512 : Int)) <|
                next26 (l_25.set i_27 (GChoice.mk ((nth l_25 i_27).Station) (Vec.get c (((nth l_25 i_27).Station).toNat))))) K l0.length 0 l0 = K lf := by
  have hl0 := h0.c.len; have hlf := hf.c.len; refine zdj (fun i (s : List GChoice) => s.length = l0.length ∧ ∀ j, j < l0.length → nth s j = if j < i then nth lf j else nth l0 j) (fun r => r = K lf) ⟨rfl, fun j hj => by rw [if_neg (by omega)]⟩ (fun s hs => ?_) (fun i s next hi hs hn => ?_)
  · congr 1
    refine zgy (by omega) fun j hj => ?_; rw [hs.2 j (by omega), if_pos (by omega)]
  · (have hst : (nth s i).Station = (nth p.Domains i).Station := by rw [hs.2 i hi, if_neg (by omega), h0.c.st i (by omega)]); have hD := zdg (zbq hp).d (zaB (show i < p.Domains.length by omega)); rw [zaR ⟨by omega, by omega⟩, hst, zaR ⟨hD.1, hD.2⟩]; refine hn _ ⟨by rw [List.length_set]; exact hs.1, fun j hj => ?_⟩; rw [zez (by omega)]; by_cases hij : i = j
    · subst hij; rw [if_pos rfl, if_pos (by omega), hc.get ⟨hD.1, hD.2⟩]; have h1 := ze3 hf.v (i := i) (by omega); have h2 := hf.c.st i (by omega); rw [h2] at h1; rw [h1, ← h2]
    · rw [if_neg hij, hs.2 j hj]; by_cases h : j < i
      · rw [if_pos h, if_pos (by omega)]
      · rw [if_neg h, if_neg (by omega)]
theorem zgz {F : Nat} (hF : bigN < F) {hs : List GChoice} {seed budget : Int} (hp : okP p = true) (hv : zax hs = true) (hne : p.Domains.any zdm = false) (h0 : 0 ≤ budget) (hB : budget ≤ 10000) : zbr F p hs seed budget = some ((solveN p hs seed budget).1, ((solveN p hs seed budget).2.1 : Int), (solveN p hs seed budget).2.2, 0) := by
  have hb0 := zgp; have hG0 := zfc (hs := hs) hp hne; obtain ⟨b, h1, hb⟩ := zhA hp hG0.v; unfold zbr; rw [zhY, hp, hv, hne, decide_eq_false (show ¬ budget < 0 by omega), decide_eq_false (show ¬ 10000 < budget by omega), Bool.false_or, cond_false, Bool.and_true, cond_true, cond_false, Option.bind_some]; dsimp only; rw [decide_eq_false (show ¬ ¬ (0 : Int) = 0 by omega), cond_false, show (zav seed).isSome = true from rfl, cond_true, zhS, h1, Option.bind_some]; simp only [Option.isSome_some, cond_true, Option.getD_some, zaK, Nat.sub_zero]; have hm : ((zav seed).getD default) = ⟨true, BitVec.ofInt 64 seed⟩ := rfl; rw [hm]; dsimp only
  refine zig (Q := fun r => r = some ((solveN p hs seed budget).1, ((solveN p hs seed budget).2.1 : Int), (solveN p hs seed budget).2.2, 0)) (K := fun s9 => zaj (fun (i_27 : Nat) (next26 : List GChoice → Option (List GChoice × Int × Bool × Int)) (l_25 : List GChoice) =>
                grd (0 ≤ (i_27 : Int) ∧ (i_27 : Int) < (l_25.length : Int)) <|
                grd (0 ≤ (nth l_25 i_27).Station ∧ (nth l_25 i_27).Station < (512 : Int)) <|
                next26 (l_25.set i_27 (GChoice.mk ((nth l_25 i_27).Station) (Vec.get s9.2.2 (((nth l_25 i_27).Station).toNat))))) (fun l_23 => (zaw (Gboard.mk (GProblem.mk b.p.Domains (GRules.mk b.p.Rules.Pairs b.p.Rules.Loads b.p.Rules.Caps)) s9.2.2 b.domains b.pairs b.caps b.into b.from_)).bind fun r101 => some (l_23, s9.1, decide (r101 = 0), 0)) (p.Domains.map (zbV hs)).length 0 (p.Domains.map (zbV hs))) hp hB ?_ budget.toNat (p.Domains.map (zbV hs)) (BitVec.ofInt 64 seed) 0 b.on hG0 hb.on (Int.le_refl 0) (by omega) F (by omega) ?_
  rotate_left
  · intro st' c' hT; have hGf := zd5 hp budget.toNat (p.Domains.map (zbV hs), BitVec.ofInt 64 seed) hG0; dsimp only; rw [lay_x hG0 hGf hT hp, ziA hp hGf.v hGf.c (hb.with hT), Option.bind_some, Int.zero_add, zeC]
    congr 4
    rw [Bool.eq_iff_iff, decide_eq_true_eq, decide_eq_true_eq]; omega
  · intro next l st m c hG hT; have hbw := hb.with hT; have hcost := ziA hp hG.v hG.c hbw; dsimp only; by_cases hm : m < budget
    · rw [decide_eq_true hm, Bool.true_and, cond_true, hcost, Option.bind_some]; by_cases hc : zcG p l = 0
      · rw [decide_eq_true hc, Bool.not_true, cond_false, decide_eq_false (show ¬ (0 : Int) < (zcG p l : Int) by omega), cond_false]
      · rw [decide_eq_false hc, Bool.not_false, cond_true, decide_eq_true (show (0 : Int) < (zcG p l : Int) by omega), cond_true]; obtain ⟨j, hj, e, hbd⟩ := zhQ (s := (l, st)) hp hc; have hw := zhF (l := l) hp; have hsl := zf8 (s := (l, st)) hp hj e; rw [zgU hp hG.v hG.c hbw, zgm hp, Option.bind_some, show (p.Domains.filter fun d => invB p l d.Station).map (·.Station) = whoL p l from rfl, ziE hF (zhX hp hc) (by omega), Option.bind_some]; dsimp only; rw [Bool.not_true, cond_false, show nth (whoL p l) (numB st (whoL p l).length).1.toNat = stepN p (l, st) from rfl]; obtain ⟨on', hbest, hT2⟩ := zji hp hG.v hG.c hbw hj
        have hsB : (bfold p l (nth p.Domains j).Station (nth p.Domains j).Channels).1 = stepB p (l, st) := by
          unfold stepB; rw [← e, zfD hp hj]
        rw [e, show (nth p.Domains j).Channels = (nth p.Domains j).Channels from rfl] at hbest; rw [e] at hsB; rw [hbest, hsB, Option.bind_some]; dsimp only; have hn := zdg (zbq hp).d (zaB hj); rw [e] at hn; unfold stepS
        cases he : (stepB p (l, st)).isEmpty with
        | true =>
          have : stepB p (l, st) = [] := by cases hs : stepB p (l, st) with
            | nil => rfl
            | cons a t => rw [hs] at he; cases he
          rw [this, zim, Option.bind_some]; exact ⟨on', hT2, rfl⟩
        | false =>
          (have h1 : stepB p (l, st) ≠ [] := fun hs => by rw [hs] at he; cases he); rw [ziE hF h1 (by omega), Option.bind_some]; dsimp only; rw [cond_true, zaR ⟨hn.1, hn.2⟩]; exact ⟨_, zhE hT2 ⟨hn.1, hn.2⟩ ⟨nth l j, zaB (by rw [hG.c.len]; exact hj), (hG.c.st j hj).trans e⟩ _, rfl⟩
    · rw [decide_eq_false hm, Bool.false_and, cond_false, cond_false, cond_false]
theorem zfh {F : Nat} {hs : List GChoice} {seed budget : Int} (hp : okP p = true) (hv : zax hs = true) (hne : p.Domains.any zdm = true) (h0 : 0 ≤ budget) (hB : budget ≤ 10000) : zbr F p hs seed budget = some ([], 0, false, 9) := by
  unfold zbr; rw [zhY, hp, hv, hne, decide_eq_false (show ¬ budget < 0 by omega), decide_eq_false (show ¬ 10000 < budget by omega), Bool.false_or, cond_false, Bool.and_true, cond_true, cond_true, Option.bind_some]
  rfl
end
section
variable {p : GProblem} {l : List GChoice} {b : Gboard}
theorem zfI {α : Type} [Inhabited α] {l : List α} {x : α} (h : x ∈ l) : ∃ i, i < l.length ∧ nth l i = x := by
  obtain ⟨i, hi, e⟩ := List.mem_iff_getElem.1 h; exact ⟨i, hi, by rw [zaN hi, e]⟩
theorem zgg {s : List GChoice × BitVec 64} : solveR p 0 s = (s.1, 0, decide (zcG p s.1 = 0)) := rfl
theorem zg7 (hp : okP p = true) {hs : List GChoice} (hG : GoodL p hs) : p.Domains.map (zbV hs) = hs := by
  refine zgy (by rw [List.length_map, hG.c.len]) fun j hj => ?_; rw [List.length_map] at hj; rw [zcW hj]; have h1 := ze3 hG.v (i := j) (by rw [hG.c.len]; exact hj); rw [hG.c.st j hj] at h1; unfold zbV; rw [h1, hG.c.ch j hj, cond_true, ← hG.c.st j hj]
def fitB (p : GProblem) (c : GChoice) : Bool := bif decide (0 ≤ zas p c.Station) then za5 (zeD p c.Station) c.Channel else false
theorem zfv {hs : List GChoice} (h : VL hs) {x : GChoice} (hx : x ∈ hs) : onL hs x.Station = x.Channel := by
  obtain ⟨i, hi, rfl⟩ := zfI hx; exact ze3 h hi
theorem zhp (hp : okP p = true) {hs : List GChoice} (hv : VL hs) : p.Domains.map (zbV (hs.filter (fitB p))) = p.Domains.map (zbV hs) := by
  refine List.map_congr_left fun d hd => ?_; obtain ⟨j, hj, rfl⟩ := zfI hd; have hvF : VL (hs.filter (fitB p)) := ziy hv List.filter_sublist
  have hfit : ∀ x ∈ hs, x.Station = (nth p.Domains j).Station → fitB p x = za5 (nth p.Domains j).Channels x.Channel := fun x _ hx => by
    unfold fitB zeD; rw [hx, zgv hp hj, decide_eq_true (show (0 : Int) ≤ j by omega), cond_true]; rfl
  by_cases hA : ∃ x ∈ hs, x.Station = (nth p.Domains j).Station
  · obtain ⟨x, hx, he⟩ := hA; have h1 := zfv hv hx; rw [he] at h1; have h2 := hfit x hx he
    cases hq : fitB p x with
    | true =>
      have h3 := zfv hvF (List.mem_filter.2 ⟨hx, hq⟩); rw [he] at h3; unfold zbV; rw [h1, h3]
    | false =>
      have h3 : onL (hs.filter (fitB p)) (nth p.Domains j).Station = 0 := zd8 fun y hy hye => by
        obtain ⟨hy1, hy2⟩ := List.mem_filter.1 hy; have h4 := zfv hv hy1; rw [hye, h1] at h4; have h5 := hfit y hy1 hye; rw [← h4, ← h2, hq] at h5; rw [h5] at hy2; cases hy2
      have h6 : za5 (nth p.Domains j).Channels 0 = false := by
        rw [ze8, List.any_eq_false]; intro y hy; have := zgr (List.all_eq_true.1 (zbv (zbH (List.all_eq_true.1 (zbq hp).d _ (zaB hj)))) y hy); rw [decide_eq_true_eq]; omega
      unfold zbV; rw [h1, h3, h6, ← h2, hq]; rfl
  · have h1 : onL hs (nth p.Domains j).Station = 0 := zd8 fun y hy hye => hA ⟨y, hy, hye⟩; have h3 : onL (hs.filter (fitB p)) (nth p.Domains j).Station = 0 := zd8 fun y hy hye => hA ⟨y, (List.mem_filter.1 hy).1, hye⟩; unfold zbV; rw [h1, h3]
theorem fit_x {ρ : Type} (hp : okP p = true) {hs : List GChoice} {f : Nat → (List GChoice → Option ρ) → List GChoice → Option ρ} {K : List GChoice → Option ρ} (hf : ∀ i next s, i < hs.length → s.length ≤ i → f i next s = bif fitB p (nth hs i) then next (s ++ [nth hs i]) else next s) : zaj f K hs.length 0 [] = K (hs.filter (fitB p)) := by
  refine zdj (fun i s => s = (hs.take i).filter (fitB p) ∧ s.length ≤ i) (fun r => r = K (hs.filter (fitB p))) ⟨rfl, Nat.le_refl _⟩ (fun s h => by rw [h.1, List.take_length]) (fun i s next hi h hn => ?_); rw [hf i next s hi h.2]; (have e : hs.take (i + 1) = hs.take i ++ [nth hs i] := by rw [List.take_succ_eq_append_getElem hi, zaN hi])
  cases hq : fitB p (nth hs i)
  · exact hn s ⟨by rw [e, List.filter_append, ← h.1, List.filter_cons_of_neg (by rw [hq]; simp)]; simp, by have := h.2; omega⟩
  · exact hn _ ⟨by rw [e, List.filter_append, ← h.1, List.filter_cons_of_pos hq]; rfl, by have := h.2; rw [List.length_append]; simp; omega⟩
theorem ziL (hp : okP p = true) {s : Int} (h : 0 ≤ zas p s) : zas p s < (p.Domains.length : Int) := by
  have h1 := zfg (p := p) (s := s); rw [decide_eq_false (by omega)] at h1
  have h2 : anyD p s = true := by cases hA : anyD p s with
    | true => rfl
    | false => rw [hA] at h1; cases h1
  obtain ⟨d, hd, he⟩ := List.any_eq_true.1 h2; obtain ⟨j, hj, rfl⟩ := zfI hd; rw [← of_decide_eq_true he, zgv hp hj]; omega
theorem zfX {n : Nat} (h : 18446744073709651616 ≤ n) (p : GProblem) (hs : List GChoice) (seed : Int) : zci n p hs seed = some true := by
  (have hF : bigN < n := by rw [zgp]; omega); unfold zci zcX; obtain ⟨a, ha⟩ := zi4 (p := p) (a := 10) (b := 40) (fuel := n) (by omega); simp only [zaK, ha, Option.bind_some, zhH (n := n) (by omega), zg4, ← zgj, Nat.sub_zero]
  cases a
  · rfl
  by_cases h20 : 20 < (hs.length : Int)
  · rw [decide_eq_true h20]; rfl
  rw [decide_eq_false h20]
  cases hp : okP p
  · rfl
  cases hv : zax hs
  · rfl
  simp only [Bool.not_true, cond_false]; have hV := zjk hv; have hVF : VL (hs.filter (fitB p)) := ziy hV List.filter_sublist; have hvF := zhC hVF; rw [fit_x hp (fun i next s hi hsl => ?_)]
  rotate_left
  · unfold fitB zeD; by_cases h0 : 0 ≤ zas p (nth hs i).Station
    · rw [decide_eq_true h0, cond_true, cond_true, zaR ⟨h0, ziL hp h0⟩]
      cases za5 (nth p.Domains (zas p (nth hs i).Station).toNat).Channels (nth hs i).Channel
      · rfl
      · rw [cond_true, cond_true, zaR (by unfold room; rw [List.length_append]; simp; omega)]
    · rw [decide_eq_false h0]; rfl
  cases hne : p.Domains.any zdm
  rotate_left
  · rw [zfh hp hv hne (by omega) (by omega), zfh hp hvF hne (by omega) (by omega)]; rfl
  have hG0 := zfc (hs := hs) hp hne; rw [zgz hF hp hv hne (by omega) (by omega), zgz hF hp hvF hne (by omega) (by omega), Option.bind_some, Option.bind_some]; unfold solveN; rw [zhp hp hV]; have hG1 := zd5 hp (10 : Int).toNat (p.Domains.map (zbV hs), BitVec.ofInt 64 seed) hG0; have hfin := zeC (p := p) (10 : Int).toNat (p.Domains.map (zbV hs), BitVec.ofInt 64 seed); generalize solveR p (10 : Int).toNat (p.Domains.map (zbV hs), BitVec.ofInt 64 seed) = A at *; dsimp only; rw [zgz hF hp (zhC hG1.v) hne (by omega) (by omega), Option.bind_some]; unfold solveN; rw [zg7 hp hG1, show (0 : Int).toNat = 0 from rfl, zgg]; dsimp only; rw [hfin, zgS]; simp
end
end Go.Proofs.Ytnhdlloidbomdaa
namespace Go.Proofs.Ytnhdlloidbomdaa
open Go.RowKit Go.ChangeShapes Go.WideShapes Go.Deep
def Opens {H : Type} (enc : TypeId × Value → H) (w : World) (base : Nat) (spare : Nat → Bool) (held : Bool) (t : TypeId) {α : Type} (R : List Value → α → Prop) : Prop :=
  ∀ fuel cs y, DataW.trod enc Try.prog w base spare held fuel t cs = some y → ∃ x, R cs x
section
variable {H : Type} {enc : TypeId × Value → H} {w : World} {base : Nat} {spare : Nat → Bool} {held : Bool}
theorem Opens.int {t : TypeId} (ht : Try.prog.underlying t = some (.int .i64)) : Opens enc w base spare held t (fun cs (x : Int) => cs = [.int .i64 x]) := fun fuel cs y h => by
  obtain ⟨k, hk, _⟩ := DataW.trod_int ht h; exact ⟨k, hk⟩
theorem ziS {a : Addr} {v : Value} (h : w.cell? a = some v) : Cb w a.block := by
  unfold World.cell? at h
  split at h
  all_goals (first | exact ⟨_, _, _, by assumption⟩ | simp at h | skip)
theorem Opens.any {t e : TypeId} {k : Nat} {α : Type} [Inhabited α] {R : List Value → α → Prop} (ht : Try.prog.underlying t = some (.slice e)) (hk : Try.prog.cellsOf e = k) (hpos : 0 < k) (ho : Opens enc w base spare held e R) :
    Opens enc w base spare held t (fun cs (l : List α) => ∃ v c, cs = [v] ∧ SlC (Frz.all w) v k c ∧ c.length = l.length ∧ ∀ i, i < l.length → R (nth c i) (nth l i)) := fun fuel cs y h => by
  rcases open_slice ht h with ⟨h0, _⟩ | ⟨a, len, cap, m, n, D, Pl, hcs, hb, hl, hm, hmm, _, hx⟩
  · exact ⟨[], _, [], h0, SlC.nil _ _, rfl, fun i hi => absurd hi (Nat.not_lt_zero i)⟩
  · subst hcs; (have hlm : len ≤ m := by rw [hmm]; split <;> omega)
    have each : ∀ i, i < m → ∃ x : List Value × α, x.1.length = k ∧ R x.1 x.2 ∧ ∀ j, j < k → w.cell? (a.add (i * k + j)) = x.1[j]? := fun i hi => by
      obtain ⟨cs', h1, h2⟩ := hx i hi; rw [hk] at h1; obtain ⟨_, hlen, hcell⟩ := World.cells?_some h1; obtain ⟨x, hR⟩ := ho _ _ _ h2; exact ⟨(cs', x), hlen, hR, fun j hj => by rw [← hcell j hj, add_add]⟩
    obtain ⟨X, hX⟩ := choose_lt each
    have hn : ∀ i, i < len → nth ((List.range len).map fun i => (X i).1) i = (X i).1 := fun i hi => by
      rw [zaN (by simpa using hi)]; simp
    have hn2 : ∀ i, i < len → nth ((List.range len).map fun i => (X i).2) i = (X i).2 := fun i hi => by
      rw [zaN (by simpa using hi)]; simp
    refine ⟨(List.range len).map fun i => (X i).2, _, (List.range len).map fun i => (X i).1, rfl, ⟨some a, cap, by simp, by simpa using hl, by unfold maxLen at hm; omega, fun c hc => ?_, fun hp => ?_⟩, by simp, fun i hi => ?_⟩
    · simp at hc; obtain ⟨i, hi, rfl⟩ := hc; exact (hX i (by omega)).1
    · (have hp' : 0 < len := by simpa using hp); have c0 := (hX 0 (by omega)).2.2 0 hpos; have hx0 := (hX 0 (by omega)).1; rw [List.getElem?_eq_getElem (by omega)] at c0; have hcb := ziS c0; have hs := World.cell?_spot c0; simp [Addr.add] at hs hcb; obtain ⟨b, off, sp⟩ := a; simp at hs hcb; subst hs; refine ⟨b, off, rfl, hcb, fun i hi j hj => ?_⟩; simp at hi; rw [hn i hi] at hj ⊢; have hxi := hX i (by omega); have := hxi.2.2 j (by omega); refine Eq.trans ?_ this
      show w.cell? _ = _
      rw [zdn, Nat.add_assoc]
    · simp at hi; rw [hn i hi, hn2 i hi]; exact (hX i (by omega)).2.1
theorem Opens.slC {t e : TypeId} {k : Nat} {α : Type} [Inhabited α] {en : α → List Value} (ht : Try.prog.underlying t = some (.slice e)) (hk : Try.prog.cellsOf e = k) (hpos : 0 < k) (ho : Opens enc w base spare held e (fun cs (x : α) => cs = en x)) :
    Opens enc w base spare held t (fun cs (l : List α) => ∃ v, cs = [v] ∧ SlC (Frz.all w) v k (l.map en)) := fun fuel cs y h => by
  obtain ⟨l, v, c, h1, h2, h3, h4⟩ := Opens.any ht hk hpos ho _ _ _ h; refine ⟨l, v, h1, ?_⟩
  have : c = l.map en := by
    apply List.ext_getElem (by simpa using h3); intro i hi hi2; rw [← zaN hi, h4 i (by omega), List.getElem_map, zaN (by omega)]
  rw [← this]; exact h2
theorem Opens.bytes {t e : TypeId} (ht : Try.prog.underlying t = some (.slice e)) (he : Try.prog.underlying e = some (.int .u8)) (hk : Try.prog.cellsOf e = 1) :
    Opens enc w base spare held t (fun cs (l : List Int) => ∃ v, cs = [v] ∧ SlC (Frz.all w) v 1 (l.map (eK .u8)) ∧ ∀ x ∈ l, 0 ≤ x ∧ x ≤ 255) := fun fuel cs y h => by
  have ho : Opens enc w base spare held e (fun cs (x : Int) => cs = eK .u8 x ∧ (0 ≤ x ∧ x ≤ 255)) := fun fuel cs y h => by
    obtain ⟨k, h1, _, h2⟩ := DataW.trod_int he h; refine ⟨k, h1, ?_⟩; (have e1 : IntKind.u8.min = 0 := by decide); (have e2 : IntKind.u8.max = 255 := by decide); simp only [Lit.wf, e1, e2, Bool.and_eq_true, decide_eq_true_eq] at h2; exact h2
  obtain ⟨l, v, c, h1, h2, h3, h4⟩ := Opens.any ht hk (by decide) ho _ _ _ h; refine ⟨l, v, h1, ?_, fun x hx => ?_⟩
  · have : c = l.map (eK .u8) := by
      apply List.ext_getElem (by simpa using h3); intro i hi hi2; rw [← zaN hi, (h4 i (by omega)).1, List.getElem_map, zaN (by omega)]
    rw [← this]; exact h2
  · obtain ⟨i, hi, e⟩ := List.mem_iff_getElem.1 hx; have := (h4 i hi).2; rw [zaN hi, e] at this; exact this
theorem Opens.slD {t e : TypeId} {k : Nat} {α : Type} [Inhabited α] {rep : Frz → List Value → α → Prop} (ht : Try.prog.underlying t = some (.slice e)) (hk : Try.prog.cellsOf e = k) (hpos : 0 < k) (ho : Opens enc w base spare held e (rep (Frz.all w))) :
    Opens enc w base spare held t (fun cs (l : List α) => ∃ v c, cs = [v] ∧ SlD rep (Frz.all w) v k c l) := fun fuel cs y h => by
  obtain ⟨l, v, c, h1, h2, h3, h4⟩ := Opens.any ht hk hpos ho _ _ _ h; exact ⟨l, v, c, h1, h2, h3, h4⟩
end
end Go.Proofs.Ytnhdlloidbomdaa
