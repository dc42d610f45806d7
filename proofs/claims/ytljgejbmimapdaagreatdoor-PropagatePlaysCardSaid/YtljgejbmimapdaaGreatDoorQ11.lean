/- Pb Sd M13 Se M14 Ff Fo St Ps M9: shortened and put together by squeeze.py. -/
import Derived.Test.YtljgejbmimapdaaGreatDoorQ10
import Derived.Laws.Slices
set_option maxRecDepth 100000
set_option maxHeartbeats 4000000
set_option linter.unusedVariables false
set_option linter.unusedSectionVars false
set_option linter.unusedSimpArgs false
namespace Go.Proofs.YtljgejbmimapdaaGreatDoor
open Go.RowKit
theorem bit_split (x j : Nat) : x.testBit j = if j < 8 then (x % 256).testBit j else (x / 256).testBit (j - 8) := by
  have := Nat.testBit_two_pow_mul_add (x / 256) (show x % 256 < 2 ^ 8 from Nat.mod_lt _ (by decide)) j; rw [show 2 ^ 8 * (x / 256) + x % 256 = x from by omega] at this; exact this
theorem and_split (M m x : Nat) (hm : m < 256) : x &&& (256 * M + m) = 256 * (x / 256 &&& M) + (x % 256 &&& m) := by
  apply Nat.eq_of_testBit_eq; intro j; have h1 := Nat.testBit_two_pow_mul_add (x / 256 &&& M) (show x % 256 &&& m < 2 ^ 8 from Nat.lt_of_le_of_lt Nat.and_le_right hm) j; have h2 := Nat.testBit_two_pow_mul_add M (show m < 2 ^ 8 from hm) j; rw [Nat.testBit_and, bit_split x j]; rw [show (2 : Nat) ^ 8 = 256 from rfl] at h1 h2; rw [h1, h2]
  split <;> rw [Nat.testBit_and]
theorem shr_split (M m x s : Nat) (hs : s ≤ 8) (hm : m < 2 ^ (8 - s)) : (x >>> s) &&& (256 * M + m) = 256 * ((x / 256) >>> s &&& M) + ((x % 256) >>> s &&& m) := by
  have hm8 : m < 256 := Nat.lt_of_lt_of_le hm (by rw [show (256 : Nat) = 2 ^ 8 from rfl]; exact Nat.pow_le_pow_right (by decide) (by omega)); apply Nat.eq_of_testBit_eq; intro j; have h1 := Nat.testBit_two_pow_mul_add ((x / 256) >>> s &&& M) (show (x % 256) >>> s &&& m < 2 ^ 8 from Nat.lt_of_le_of_lt Nat.and_le_right hm8) j; have h2 := Nat.testBit_two_pow_mul_add M (show m < 2 ^ 8 from hm8) j; rw [show (2 : Nat) ^ 8 = 256 from rfl] at h1 h2; rw [h1, Nat.testBit_and, h2, Nat.testBit_shiftRight, bit_split x (s + j)]; by_cases hj : j < 8
  · rw [if_pos hj, if_pos hj, Nat.testBit_and, Nat.testBit_shiftRight]; by_cases hsj : s + j < 8
    · rw [if_pos hsj]
    · have hz : m.testBit j = false := Nat.testBit_lt_two_pow (Nat.lt_of_lt_of_le hm (Nat.pow_le_pow_right (by decide) (by omega))); rw [hz, Bool.and_false, Bool.and_false]
  · rw [if_neg hj, if_neg hj, if_neg (by omega), Nat.testBit_and, Nat.testBit_shiftRight, show s + j - 8 = s + (j - 8) from by omega]
def gA (s M x : Nat) : Nat := ((x >>> s) &&& M) + (x &&& M)
theorem gA_split {s M m x : Nat} (hs : s ≤ 8) (hm : m < 2 ^ (8 - s)) : gA s (256 * M + m) x = 256 * gA s M (x / 256) + gA s m (x % 256) := by
  have hm8 : m < 256 := Nat.lt_of_lt_of_le hm (by rw [show (256 : Nat) = 2 ^ 8 from rfl]; exact Nat.pow_le_pow_right (by decide) (by omega)); unfold gA; rw [shr_split M m x s hs hm, and_split M m x hm8]; omega
def msk (m : Nat) : Nat → Nat
  | 0 => 0
  | n + 1 => 256 * msk m n + m
def byt (x : Nat) : Nat := gA 2 51 (gA 1 85 x)
def gG (n x : Nat) : Nat := gA 2 (msk 51 n) (gA 1 (msk 85 n) x)
def gF (n x : Nat) : Nat := ((gG n x >>> 4) + gG n x) &&& msk 15 n
def cnt (n x : Nat) : Nat := ((List.range n).filter x.testBit).length
theorem byte_ok : ∀ x, x < 256 → gA 1 85 x < 256 ∧ byt x % 16 ≤ 4 ∧ byt x / 16 ≤ 4 ∧ ((byt x >>> 4) + byt x) &&& 15 = cnt 8 x ∧ cnt 8 x ≤ 8 := by decide +kernel
theorem gG_zero (x : Nat) : gG 0 x = 0 := by unfold gG gA msk; simp
theorem gG_succ (n x : Nat) : gG (n + 1) x = 256 * gG n (x / 256) + byt (x % 256) := by
  have hb := byte_ok (x % 256) (Nat.mod_lt _ (by decide)); unfold gG byt; rw [msk, msk, gA_split (s := 1) (by decide) (by decide), gA_split (s := 2) (by decide) (by decide)]; rw [show (256 * gA 1 (msk 85 n) (x / 256) + gA 1 85 (x % 256)) / 256 = gA 1 (msk 85 n) (x / 256) by omega, show (256 * gA 1 (msk 85 n) (x / 256) + gA 1 85 (x % 256)) % 256 = gA 1 85 (x % 256) by omega]
theorem gG_low (n x : Nat) : gG n x % 16 ≤ 4 := by
  cases n with
  | zero => rw [gG_zero]; decide
  | succ n =>
    have := (byte_ok (x % 256) (Nat.mod_lt _ (by decide))).2.1; rw [gG_succ]; omega
theorem gF_succ (n x : Nat) : gF (n + 1) x = 256 * gF n (x / 256) + cnt 8 (x % 256) := by
  have hb := byte_ok (x % 256) (Nat.mod_lt _ (by decide)); have hl := gG_low n (x / 256); unfold gF; rw [gG_succ, msk, Nat.shiftRight_eq_div_pow, and_split _ _ _ (by decide), ← hb.2.2.2.1]; generalize gG n (x / 256) = h at hl ⊢; generalize byt (x % 256) = l at hb ⊢; (have e1 : ((256 * h + l) / 2 ^ 4 + (256 * h + l)) / 256 = h >>> 4 + h := by rw [Nat.shiftRight_eq_div_pow]; omega)
  have e2 : ((256 * h + l) / 2 ^ 4 + (256 * h + l)) % 256 &&& 15 = (l >>> 4 + l) &&& 15 := by
    rw [show (15 : Nat) = 2 ^ 4 - 1 from rfl, Nat.and_two_pow_sub_one_eq_mod, Nat.and_two_pow_sub_one_eq_mod, Nat.shiftRight_eq_div_pow]; omega
  rw [e1, e2]
theorem cnt_succ (n x : Nat) : cnt (8 + n) x = cnt 8 (x % 256) + cnt n (x / 256) := by
  unfold cnt; rw [List.range_add, List.filter_append, List.length_append, List.filter_map, List.length_map]
  congr 1
  · refine congrArg List.length (List.filter_congr fun j hj => ?_); rw [bit_split x j, if_pos (List.mem_range.1 hj)]
  · refine congrArg List.length (List.filter_congr fun j hj => ?_)
    show x.testBit (8 + j) = _
    rw [bit_split x (8 + j), if_neg (by omega), show 8 + j - 8 = j by omega]
theorem cnt8 (x : Nat) : cnt 8 (x % 256) ≤ 8 := (byte_ok _ (Nat.mod_lt _ (by decide))).2.2.2.2
def hv : List Nat → Nat
  | [] => 0
  | d :: r => d + 256 * hv r
theorem hv_drop : ∀ (k : Nat) (l : List Nat), (∀ d ∈ l, d < 256) → hv l / 256 ^ k = hv (l.drop k)
  | 0, l, _ => by simp
  | k + 1, [], _ => by simp [hv]
  | k + 1, d :: r, h => by
    have h0 := h d (by simp); rw [Nat.pow_succ', ← Nat.div_div_eq_div_mul, show hv (d :: r) / 256 = hv r from by rw [hv]; omega, hv_drop k r (fun e he => h e (by simp [he]))]; rfl
theorem hv_zero (k : Nat) : hv (List.replicate k 0) = 0 := by
  induction k with
  | zero => rfl
  | succ k ih => rw [List.replicate_succ, hv, ih]
theorem hv_pad (k : Nat) : ∀ l : List Nat, hv (l ++ List.replicate k 0) = hv l
  | [] => by rw [List.nil_append, hv_zero]; rfl
  | d :: r => by rw [List.cons_append, hv, hv_pad k r, hv]
theorem hv_add : ∀ l m : List Nat, l.length = m.length → hv (List.zipWith (· + ·) l m) = hv l + hv m
  | [], [], _ => rfl
  | a :: l, b :: m, h => by rw [List.zipWith_cons_cons, hv, hv, hv, hv_add l m (by simpa using h)]; omega
  | [], _ :: _, h => by simp at h
  | _ :: _, [], h => by simp at h
theorem hv_lt : ∀ l : List Nat, (∀ d ∈ l, d < 256) → hv l < 256 ^ l.length
  | [], _ => by simp [hv]
  | d :: r, h => by
    have h0 := h d (by simp); have := hv_lt r (fun e he => h e (by simp [he])); rw [hv, List.length_cons, Nat.pow_succ]; omega
def dbl (l : List Nat) (k : Nat) : List Nat := List.zipWith (· + ·) l (l.drop k ++ List.replicate k 0)
theorem pop4_hv {y : BitVec 64} {l : List Nat} {k : Nat} (hy : y.toNat = hv l) (hl : l.length = 8) (hk : k ≤ 8) (hd : ∀ d ∈ l, d < 256) (hd2 : ∀ d ∈ dbl l k, d < 256) : (pop4 (8 * k) y).toNat = hv (dbl l k) := by
  (have hlen : l.length = (l.drop k ++ List.replicate k 0).length := by simp [hl]; omega); (have e : hv (dbl l k) = hv l + hv (l.drop k) := by rw [dbl, hv_add _ _ hlen, hv_pad]); have hlt := hv_lt _ hd2; rw [show (dbl l k).length = 8 from by rw [dbl, List.length_zipWith, ← hlen, hl]; rfl] at hlt; unfold pop4; rw [BitVec.toNat_add, BitVec.toNat_ushiftRight, hy, Nat.shiftRight_eq_div_pow, Nat.pow_mul, show (2 : Nat) ^ 8 = 256 from rfl, hv_drop k l hd, ← e]; exact Nat.mod_eq_of_lt (by rw [show (2 : Nat) ^ 64 = 256 ^ 8 from by decide]; exact hlt)
theorem and_le (a b : Nat) : a &&& b ≤ b := Nat.and_le_right
theorem word_ok (b : BitVec 64) : (pop3 (pop2 (pop1 b))).toNat = gF 8 b.toNat := by
  (have m1 : msk 85 8 = 6148914691236517205 := by decide); (have m2 : msk 51 8 = 3689348814741910323 := by decide); (have m3 : msk 15 8 = 1085102592571150095 := by decide)
  have p1 : (pop1 b).toNat = gA 1 (msk 85 8) b.toNat := by
    unfold pop1 gA; rw [BitVec.toNat_add, BitVec.toNat_and, BitVec.toNat_and, BitVec.toNat_ushiftRight, m1]; exact Nat.mod_eq_of_lt (Nat.lt_of_le_of_lt (Nat.add_le_add (and_le _ _) (and_le _ _)) (by decide))
  have p2 : (pop2 (pop1 b)).toNat = gG 8 b.toNat := by
    unfold pop2 gG; rw [BitVec.toNat_add, BitVec.toNat_and, BitVec.toNat_and, BitVec.toNat_ushiftRight, p1, m2]; exact Nat.mod_eq_of_lt (Nat.lt_of_le_of_lt (Nat.add_le_add (and_le _ _) (and_le _ _)) (by decide))
  have hG : gG 8 b.toNat ≤ 3689348814741910323 + 3689348814741910323 := by
    unfold gG; rw [gA, m2]; exact Nat.add_le_add (and_le _ _) (and_le _ _)
  unfold pop3 gF; rw [BitVec.toNat_and, BitVec.toNat_add, BitVec.toNat_ushiftRight, p2, m3, Nat.mod_eq_of_lt (Nat.lt_of_le_of_lt (Nat.add_le_add (Nat.le_trans (Nat.shiftRight_le _ _) hG) hG) (by decide))]
  rfl
theorem word_hv (x : Nat) : ∀ n, gF n x = hv ((List.range n).map fun i => cnt 8 (x / 256 ^ i % 256)) := by
  intro n
  induction n generalizing x with
  | zero => unfold gF msk; simp [hv]
  | succ n ih =>
    rw [gF_succ, ih, List.range_succ_eq_map, List.map_cons, List.map_map, hv]
    have : (fun i => cnt 8 (x / 256 / 256 ^ i % 256)) = ((fun i => cnt 8 (x / 256 ^ i % 256)) ∘ Nat.succ) := by
      funext i
      show _ = cnt 8 (x / 256 ^ (i + 1) % 256)
      rw [Nat.pow_succ', Nat.div_div_eq_div_mul]
    rw [this]; simp only [Nat.pow_zero, Nat.div_one]; omega
theorem cnt_sum (x : Nat) : ∀ n, cnt (8 * n) x = ((List.range n).map fun i => cnt 8 (x / 256 ^ i % 256)).sum := by
  intro n
  induction n generalizing x with
  | zero => rfl
  | succ n ih =>
    rw [show 8 * (n + 1) = 8 + 8 * n by omega, cnt_succ, ih, List.range_succ_eq_map, List.map_cons, List.map_map, List.sum_cons]
    have : (fun i => cnt 8 (x / 256 / 256 ^ i % 256)) = ((fun i => cnt 8 (x / 256 ^ i % 256)) ∘ Nat.succ) := by
      funext i
      show _ = cnt 8 (x / 256 ^ (i + 1) % 256)
      rw [Nat.pow_succ', Nat.div_div_eq_div_mul]
    rw [this]; simp only [Nat.pow_zero, Nat.div_one]
theorem low_sum {y : BitVec 64} {c0 c1 c2 c3 c4 c5 c6 c7 : Nat} (hy : y.toNat = hv [c0, c1, c2, c3, c4, c5, c6, c7]) (h0 : c0 ≤ 8) (h1 : c1 ≤ 8) (h2 : c2 ≤ 8) (h3 : c3 ≤ 8) (h4 : c4 ≤ 8) (h5 : c5 ≤ 8) (h6 : c6 ≤ 8) (h7 : c7 ≤ 8) : (pop4 32 (pop4 16 (pop4 8 y)) &&& 127#64).toNat = c0 + c1 + c2 + c3 + c4 + c5 + c6 + c7 := by
  have q1 := pop4_hv (k := 1) hy rfl (by decide) (fun d hd => by simp at hd; omega) (fun d hd => by simp [dbl] at hd; omega); have q2 := pop4_hv (k := 2) q1 rfl (by decide) (fun d hd => by simp [dbl] at hd; omega) (fun d hd => by simp [dbl] at hd; omega); have q3 := pop4_hv (k := 4) q2 rfl (by decide) (fun d hd => by simp [dbl] at hd; omega) (fun d hd => by simp [dbl] at hd; omega); rw [BitVec.toNat_and, show (127#64).toNat = 2 ^ 7 - 1 from rfl, Nat.and_two_pow_sub_one_eq_mod]; rw [show pop4 32 (pop4 16 (pop4 8 y)) = pop4 (8 * 4) (pop4 (8 * 2) (pop4 (8 * 1) y)) from rfl, q3]; simp only [dbl, List.drop, List.replicate, List.cons_append, List.nil_append, List.zipWith]; rw [hv]; generalize hv _ = z; omega
theorem pop64_eq (b : BitVec 64) : pop64 b = cnt 64 b.toNat := by
  have h := word_ok b; rw [word_hv] at h; have hc := cnt_sum b.toNat 8; have hb : ∀ i, cnt 8 (b.toNat / 256 ^ i % 256) ≤ 8 := fun i => cnt8 _; rw [show (List.range 8) = [0, 1, 2, 3, 4, 5, 6, 7] from rfl] at h hc; simp only [List.map_cons, List.map_nil] at h hc; rw [show 8 * 8 = 64 from rfl] at hc; rw [hc]; unfold pop64; rw [low_sum h (hb _) (hb _) (hb _) (hb _) (hb _) (hb _) (hb _) (hb _)]; simp only [List.sum_cons, List.sum_nil]; omega
theorem pop_chans (b : BitVec 64) : pop64 b = (chansN b).length := by
  rw [pop64_eq]; unfold cnt chansN; rw [List.range_eq_range']
  rfl
end Go.Proofs.YtljgejbmimapdaaGreatDoor
namespace Go.Proofs.YtljgejbmimapdaaGreatDoor
open Go.RowKit
section
variable {B w : World} {M S0 : Nat → Prop} {hs : HS} {F : FzB B M S0} {e : Ent} {i j : Nat}
theorem Hp.newAt (hw : Hp B M hs w) (hi : hs[i]? = some e) {g : Nat} (hg : e.fp g) : M g ∨ B.heap.size ≤ g := hw.new e (List.mem_of_getElem? hi) g hg
theorem Hp.apartF (hw : Hp B M hs w) (hi : hs[i]? = some e) (hj : hs[j]? = some (.fr F)) (hij : i < j) : ∀ g, e.fp g → ¬ F.toFrz.S g := fun g hg hS =>
  hw.ne hij hi hj hg (Ent.fr_fp.2 ⟨hS, hw.newAt hi hg⟩)
theorem Hp.apartF2 (hw : Hp B M hs w) (hi : hs[i]? = some e) (hj : hs[j]? = some (.fr F)) (hij : j < i) : ∀ g, e.fp g → ¬ F.toFrz.S g := fun g hg hS =>
  hw.ne hij hj hi (Ent.fr_fp.2 ⟨hS, hw.newAt hi hg⟩) hg
end
def stRem (p : GProblem) (m : List GDomain × Bool) : Int := bif m.2 then (totG p.Domains : Int) - (totG m.1 : Int) else 0
theorem tot_take {d : List GDomain} {k : Nat} (hk : k < d.length) : totG (d.take (k + 1)) = totG (d.take k) + (nth d k).Channels.length := by
  unfold totG; rw [List.take_succ_eq_append_getElem hk, nth_eq hk, List.map_append, List.sum_append]; simp
theorem totAt_er {ds : List Dx} : ∀ k, k ≤ ds.length → totAt ds k = (totG ((ds.map Dx.er).take k) : Int)
  | 0, _ => by simp [totAt, totG]
  | k + 1, h => by
    rw [totAt, totAt_er k (by omega), tot_take (by rw [List.length_map]; omega), nth_mapG (by omega)]
    show _ + ((nth ds k).chs.length : Int) = ((_ + (nth ds k).chs.length : Nat) : Int)
    omega
theorem popsum_gd {Y : Tb} {L : Ws} (hl : L.length = Y.n) : ∀ k, k ≤ Y.n → popsum L k = (totG ((gd Y L).take k) : Int)
  | 0, _ => by simp [popsum, totG]
  | k + 1, h => by
    rw [popsum_succ (by omega), popsum_gd hl k (by omega), tot_take (by rw [gd_len]; omega), gd_nth (by omega), pop_chans]
    show _ + ((chansN (nth L k)).length : Int) = ((_ + ((chansN (nth L k)).map fun j : Nat => (j : Int)).length : Nat) : Int)
    rw [List.length_map]; omega
theorem st_removedS {p : GProblem} {m : List GDomain × Bool} {k : SK} {L : Ws} {w : World} (h : SI p m k L) (hs : StateAt w k.sp k.Y L (!m.2)) : Calls Tryz.prog 17 #[.pointer (some ⟨k.sp, 0, none⟩)] w fun e w' => e = .returned (.int .i64 (stRem p m)) ∧ Below w.heap.size w w' := by
  obtain ⟨P, hP, hok', hY⟩ := h.pb; have hG := Pb.good hok'
  have ht : k.Y.total = (totG p.Domains : Int) := by
    rw [hY.total, totAt_er _ (Nat.le_refl _), ← hP, List.take_of_length_le (by rw [List.length_map]; exact Nat.le_refl _)]; rfl
  have hb : totG p.Domains ≤ 1000000 := by
    have h1 : ∀ x ∈ p.Domains, x.Channels.length ≤ 52 := fun x hx => by
      rw [← hP] at hx; obtain ⟨d, hd, rfl⟩ := List.mem_map.1 hx; exact (hG.chs d hd).1
    have h2 : ∀ d : List GDomain, (∀ x ∈ d, x.Channels.length ≤ 52) → totG d ≤ d.length * 52 := fun d => by
      induction d with
      | nil => intro _; simp [totG]
      | cons x r ih =>
        intro hh; have a1 := hh x (by simp); have a2 := ih (fun y hy => hh y (by simp [hy])); simp only [totG, List.map_cons, List.sum_cons, List.length_cons, Nat.add_mul] at a2 ⊢; omega
    have h3 := h2 _ h1; (have h4 : p.Domains.length = P.ds.length := by rw [← hP]; exact List.length_map _); have h5 := hG.n; rw [h4] at h3; omega
  refine (removed_ret k.sp k.Y L (!m.2) w hs h.ok (by rw [ht]; omega)).mono ?_; rintro e w' ⟨rfl, hb⟩; refine ⟨?_, hb⟩
  congr 2
  unfold removedF stRem
  cases hm : m.2 with
  | false => rfl
  | true =>
    rw [Bool.not_true, if_neg (by simp), cond_true, ht, h.len, popsum_gd h.len _ (Nat.le_refl _), (h.good hm).2.2, List.take_of_length_le (by rw [gd_len]; exact Nat.le_refl _)]
end Go.Proofs.YtljgejbmimapdaaGreatDoor
namespace Go.Proofs.YtljgejbmimapdaaGreatDoor
open Go.RowKit
def stHasF (Y : Tb) (L : Ws) (c : Bool) (x : Ch) : Bool := if c = true ∨ x.ch < 2 ∨ 51 < x.ch then false else if (atF Y x.st).2 = false then false else (nth L (atF Y x.st).1.toNat).getLsbD x.ch.toNat
theorem shas_ret (sp : Nat) (Y : Tb) (L : Ws) (c : Bool) (x : Ch) (w : World) (h : StateAt w sp Y L c) (hok : Y.Ok) (hix : ∀ j, 0 ≤ Y.ix j ∧ Y.ix j ≤ Y.n) : Calls Tryz.prog 34 #[.pointer (some ⟨sp, 0, none⟩), .agg (Ch.cells x).toArray] w fun e w' => e = .returned (.bool (stHasF Y L c x)) ∧ Below w.heap.size w w' := by
  obtain ⟨tp, hsp0, hT⟩ := h.tb; obtain ⟨vL, hsp1, hL⟩ := h.left; obtain ⟨AL, capL, rfl, hLs⟩ := hL.op; have hLn := h.len; have hcon := h.con; refine calls_T (M := fun _ => False) (hs := []) Tryz.func34 rfl rfl rfl (Hp.refl _ _) ?_; simp only [Ch.cells]; refine T.seq (T.region ?_); (refine TL.ew (Wt.none rfl) rfl rfl (Ew.boxA rfl rfl) ?_; rintro _ _ ⟨g3, rfl, rfl⟩); refine TL.run 1 rfl ?_; refine TL.nil (K.seq (T.seq (T.seq (T.region ?_)))); refine TL.run 1 rfl ?_; (refine TL.ew (Wt.none rfl) rfl rfl (Ew.callD rfl rfl rfl (fun w hw => missing_ret sp Y L c w (h.kept hw))) ?_; rintro _ _ ⟨rfl, rfl⟩); refine TL.run 1 rfl ?_; refine TL.yv (Wt.some rfl rfl rfl rfl) rfl rfl (Yv.pur rfl) ?_; refine TL.yv (Wt.some rfl rfl rfl rfl) rfl rfl (Yv.pur rfl) ?_; refine TL.yv (Wt.some rfl rfl rfl rfl) rfl rfl (Yv.fieldAddr rfl rfl) ?_; refine TL.yv (Wt.some rfl rfl rfl rfl) rfl rfl (Yv.loadB rfl rfl hcon (fun h => h)) ?_; refine TL.run 2 rfl ?_; refine TL.gsplit rfl rfl rfl (fun h1 => ?_) (fun h1 => ?_)
  · have p1 := h1; (try simp only [nfB] at p1); refine TL.off (Wt.not rfl rfl rfl h1) rfl rfl ?_; refine TL.off (Wt.not rfl rfl rfl h1) rfl rfl ?_; refine TL.off (Wt.not rfl rfl rfl h1) rfl rfl ?_; refine TL.y (Yv.pickT rfl rfl h1 rfl) ?_; refine TL.run 5 rfl ?_; refine TL.nil (K.seq ?_); refine T.condT rfl rfl ?_; refine T.seq (T.region ?_); refine TL.run 1 rfl ?_; refine TL.nil (K.seq (T.ret (K.then_ret ?_))); refine K.ret1 rfl rfl (fun w' hw => ⟨?_, hw.isBelow⟩); exact ret_bool (by rw [stHasF, if_pos (by first | (left; assumption) | (right; omega))])
  · have p1 := h1; (try simp only [nfB] at p1); refine TL.yv (Wt.some rfl rfl rfl h1) rfl rfl (Yv.fieldAddr rfl rfl) ?_; refine TL.yv (Wt.some rfl rfl rfl h1) rfl rfl (Yv.loadO 0 rfl rfl rfl rfl) ?_; refine TL.yv (Wt.some rfl rfl rfl h1) rfl rfl (Yv.pur rfl) ?_; refine TL.y (Yv.pickF rfl rfl h1 rfl) ?_; refine TL.run 1 rfl ?_; refine TL.gsplit rfl rfl rfl (fun h2 => ?_) (fun h2 => ?_)
    · have p2 := h2; (try simp only [nfB] at p2); refine TL.off (Wt.not rfl rfl rfl h2) rfl rfl ?_; refine TL.off (Wt.not rfl rfl rfl h2) rfl rfl ?_; refine TL.off (Wt.not rfl rfl rfl h2) rfl rfl ?_; refine TL.y (Yv.pickT rfl rfl h2 rfl) ?_; refine TL.nil (K.seq ?_); refine T.condT rfl rfl ?_; refine T.seq (T.region ?_); refine TL.run 1 rfl ?_; refine TL.nil (K.seq (T.ret (K.then_ret ?_))); refine K.ret1 rfl rfl (fun w' hw => ⟨?_, hw.isBelow⟩); exact ret_bool (by rw [stHasF, if_pos (by first | (left; assumption) | (right; omega))])
    · have p2 := h2; (try simp only [nfB] at p2); refine TL.yv (Wt.some rfl rfl rfl h2) rfl rfl (Yv.fieldAddr rfl rfl) ?_; refine TL.yv (Wt.some rfl rfl rfl h2) rfl rfl (Yv.loadO 0 rfl rfl rfl rfl) ?_; refine TL.yv (Wt.some rfl rfl rfl h2) rfl rfl (Yv.pur rfl) ?_; refine TL.y (Yv.pickF rfl rfl h2 rfl) ?_; refine TL.nil (K.seq ?_); refine T.cond rfl (fun h3 => ?_) (fun h3 => ?_)
      · have p3 := h3; (try simp only [nfB] at p3); refine T.seq (T.region ?_); refine TL.run 1 rfl ?_; refine TL.nil (K.seq (T.ret (K.then_ret ?_))); refine K.ret1 rfl rfl (fun w' hw => ⟨?_, hw.isBelow⟩); exact ret_bool (by rw [stHasF, if_pos (by first | (left; assumption) | (right; omega))])
      · have p3 := h3; (try simp only [nfB] at p3); refine T.skip (K.seq (T.seq ?_)); refine T.draw (.still 0 (.still 1 (.still 2 (.still 3 (.still 4 (.still 5 (.eff 6 (.still 7 (.still 8 (.still 9 (.still 10 (.still 11 .done)))))))))))) _ (by kernel_rfl) (List.Sublist.refl _) ?_; refine TS.run 2 rfl ?_; refine TS.y rfl (Yv.fieldAddr rfl rfl) ?_; refine TS.y rfl (Yv.loadB rfl rfl hsp0 (fun h => h)) ?_; refine TS.y rfl (Yv.fieldAddr rfl rfl) ?_; refine TS.y rfl (Yv.loadO 0 rfl rfl rfl rfl) ?_; refine TS.eff ?_; (refine TSo.ew rfl (Wt.none rfl) rfl rfl (Ew.callD rfl rfl rfl (fun w hw => at_ret tp Y x.st w (hT.later (Fz.of_below hw.isBelow)) (Y.ix512 hok hix))) ?_; rintro _ _ ⟨rfl, rfl⟩; refine ⟨(by repeat first | exact S0 | exact S1 | refine S2 ?_ | refine S3 ?_), ?_⟩); refine TS.run 5 rfl ?_; refine TS.done ?_; refine K.seq (T.seq ?_); refine T.draw (.still 0 (.still 1 (.still 2 (.still 3 (.still 4 (.still 5 (.still 6 (.still 7 (.still 8 (.still 9 (.still 10 (.still 11 (.still 12 (.still 13 (.still 14 (.still 15 .done)))))))))))))))) _ (by kernel_rfl) (List.Sublist.refl _) ?_; refine TS.run 2 rfl ?_; refine TS.gsplit rfl rfl rfl rfl (fun h4 => ?_) (fun h4 => ?_)
        · have p4 := h4; (try simp only [nfB] at p4); (try (have hat := at_facts hix (s := x.st) (by assumption); obtain ⟨gL, oL, rfl, hc⟩ := hLs (by omega); have hk := hc (atF Y x.st).1.toNat (by omega); simp only [Le] at hk)); refine TS.still rfl (Wt.some rfl rfl rfl h4) rfl rfl (Yv.pur rfl) ?_; refine TS.still rfl (Wt.some rfl rfl rfl h4) rfl rfl (Yv.pur rfl) ?_; refine TS.still rfl (Wt.some rfl rfl rfl h4) rfl rfl (Yv.fieldAddr rfl rfl) ?_; refine TS.still rfl (Wt.some rfl rfl rfl h4) rfl rfl (Yv.loadB rfl rfl hsp1 (fun h => h)) ?_; refine TS.still rfl (Wt.some rfl rfl rfl h4) rfl rfl (Yv.pur rfl) ?_; refine TS.still rfl (Wt.some rfl rfl rfl h4) rfl rfl (Yv.indexSl rfl rfl rfl (show (atF Y x.st).1 = (((atF Y x.st).1.toNat : Nat) : Int) from by omega) (by omega)) ?_; refine TS.still rfl (Wt.some rfl rfl rfl h4) rfl rfl (Yv.loadC (j := 0) rfl rfl hk rfl rfl (fun h => h)) ?_; refine TS.still rfl (Wt.some rfl rfl rfl h4) rfl rfl (Yv.fieldAddr rfl rfl) ?_; refine TS.still rfl (Wt.some rfl rfl rfl h4) rfl rfl (Yv.loadO 0 rfl rfl rfl rfl) ?_; refine TS.still rfl (Wt.some rfl rfl rfl h4) rfl rfl (Yv.shrV x.ch.toNat rfl rfl rfl (by omega) (by omega)) ?_; refine TS.still rfl (Wt.some rfl rfl rfl h4) rfl rfl (Yv.andV (b := 1#64) rfl rfl rfl) ?_; refine TS.still rfl (Wt.some rfl rfl rfl h4) rfl rfl (Yv.pur rfl) ?_; refine TS.y rfl (Yv.pickT rfl rfl h4 rfl) ?_; refine TS.run 1 rfl ?_; refine TS.done ?_; refine K.seq (T.ret ?_); refine K.ret1 rfl rfl (fun w' hw => ⟨?_, hw.isBelow⟩); exact ret_bool (by rw [stHasF, if_neg (fun h => by rcases h with h | h | h; (rw [p1] at h; cases h); omega; omega), if_neg (by rw [p4]; simp), bit_is])
        · have p4 := h4; (try simp only [nfB] at p4); (try (have hat := at_facts hix (s := x.st) (by assumption); obtain ⟨gL, oL, rfl, hc⟩ := hLs (by omega); have hk := hc (atF Y x.st).1.toNat (by omega); simp only [Le] at hk)); refine TS.stillOff rfl (Wt.not rfl rfl rfl h4) rfl rfl ?_; refine TS.stillOff rfl (Wt.not rfl rfl rfl h4) rfl rfl ?_; refine TS.stillOff rfl (Wt.not rfl rfl rfl h4) rfl rfl ?_; refine TS.stillOff rfl (Wt.not rfl rfl rfl h4) rfl rfl ?_; refine TS.stillOff rfl (Wt.not rfl rfl rfl h4) rfl rfl ?_; refine TS.stillOff rfl (Wt.not rfl rfl rfl h4) rfl rfl ?_; refine TS.stillOff rfl (Wt.not rfl rfl rfl h4) rfl rfl ?_; refine TS.stillOff rfl (Wt.not rfl rfl rfl h4) rfl rfl ?_; refine TS.stillOff rfl (Wt.not rfl rfl rfl h4) rfl rfl ?_; refine TS.stillOff rfl (Wt.not rfl rfl rfl h4) rfl rfl ?_; refine TS.stillOff rfl (Wt.not rfl rfl rfl h4) rfl rfl ?_; refine TS.stillOff rfl (Wt.not rfl rfl rfl h4) rfl rfl ?_; refine TS.y rfl (Yv.pickF rfl rfl h4 rfl) ?_; refine TS.run 1 rfl ?_; refine TS.done ?_; refine K.seq (T.ret ?_); refine K.ret1 rfl rfl (fun w' hw => ⟨?_, hw.isBelow⟩); exact ret_bool (by rw [stHasF, if_neg (fun h => by rcases h with h | h | h; (rw [p1] at h; cases h); omega; omega), if_pos (by assumption)])
theorem fixed_bad (sp : Nat) (Y : Tb) (L : Ws) (w : World) (h : StateAt w sp Y L true) : Calls Tryz.prog 23 #[.pointer (some ⟨sp, 0, none⟩)] w fun e w' => e = .returned (.slice none 0 0) ∧ Below w.heap.size w w' := by
  have hcon := h.con; refine calls_T (M := fun _ => False) (hs := []) Tryz.func23 rfl rfl rfl (Hp.refl _ _) ?_; refine T.seq (T.region ?_); refine TL.run 1 rfl ?_; refine TL.nil (K.seq (T.seq (T.seq (T.region ?_)))); refine TL.run 1 rfl ?_; (refine TL.ew (Wt.none rfl) rfl rfl (Ew.callD rfl rfl rfl (fun w hw => missing_ret sp Y L true w (h.kept hw))) ?_; rintro _ _ ⟨rfl, rfl⟩); refine TL.run 1 rfl ?_; refine TL.yv (Wt.some rfl rfl rfl rfl) rfl rfl (Yv.pur rfl) ?_; refine TL.yv (Wt.some rfl rfl rfl rfl) rfl rfl (Yv.pur rfl) ?_; refine TL.yv (Wt.some rfl rfl rfl rfl) rfl rfl (Yv.fieldAddr rfl rfl) ?_; refine TL.yv (Wt.some rfl rfl rfl rfl) rfl rfl (Yv.loadB rfl rfl hcon (fun h => h)) ?_; refine TL.run 1 rfl ?_; refine TL.nil (K.seq ?_); refine T.condT rfl rfl ?_; refine T.seq (T.region ?_); refine TL.run 1 rfl ?_; refine TL.nil (K.seq (T.ret (K.then_ret ?_))); refine K.ret1 rfl rfl (fun w' hw => ⟨?_, hw.isBelow⟩)
  rfl
end Go.Proofs.YtljgejbmimapdaaGreatDoor
namespace Go.Proofs.YtljgejbmimapdaaGreatDoor
open Go.RowKit
def fixD (d : List GDomain) : List GChoice := (d.filter fun x => decide (x.Channels.length = 1)).map fun x => ⟨x.Station, nth x.Channels 0⟩
def stFix (m : List GDomain × Bool) : List GChoice := bif m.2 then fixD m.1 else []
def stHas (m : List GDomain × Bool) (c : GChoice) : Bool := m.2 && m.1.any fun x => decide (x.Station = c.Station) && x.Channels.any fun k => decide (k = c.Channel)
theorem fixD_snoc {d : List GDomain} {x : GDomain} : fixD (d ++ [x]) = fixD d ++ (if x.Channels.length = 1 then [⟨x.Station, nth x.Channels 0⟩] else []) := by
  unfold fixD; rw [List.filter_append, List.map_append]
  congr 1
  by_cases h : x.Channels.length = 1 <;> simp [h]
theorem only_one {b : BitVec 64} (hb : b ≠ 0#64) (h0 : b.getLsbD 0 = false) : (onlyB b ≠ 0 ↔ (chansN b).length = 1) ∧ (onlyB b ≠ 0 → chansN b = [onlyB b]) := by
  have key : onlyB b ≠ 0 → chansN b = [onlyB b] := fun h => by
    have h1 := (only_iff hb (c := ((onlyB b : Nat) : Int)) (by omega)).2 rfl
    cases hc : chansN b with
    | nil => exact absurd hc (chansN_ne hb)
    | cons j r =>
      have hj := h1 j (by rw [hc]; simp)
      cases r with
      | nil => rw [show j = onlyB b by omega]
      | cons k s =>
        have hk := h1 k (by rw [hc]; simp); have hn := chansN_nodup b; rw [hc, List.nodup_cons] at hn; exact absurd (by simp; left; omega) hn.1
  refine ⟨⟨fun h => by rw [key h]; rfl, fun h hz => ?_⟩, key⟩; obtain ⟨j, hj⟩ := List.length_eq_one_iff.1 h
  have hj0 : j ≠ 0 := fun e => by
    (have : j ∈ chansN b := by rw [hj]; simp); rw [chansN_mem, e, h0] at this
    cases this
  have := (only_iff hb (c := (j : Int)) (by omega)).1 (fun k hk => by rw [hj] at hk; simp at hk; omega); omega
theorem fix_gd {Y : Tb} {L : Ws} (hl : L.length = Y.n) (hne : ∀ i, i < Y.n → nth L i ≠ 0#64) (hb : In51 L) : ∀ k, k ≤ Y.n → (fixF Y L k).map Ch.er = fixD ((gd Y L).take k)
  | 0, _ => by simp [fixF, fixD]
  | k + 1, h => by
    have h0 : (nth L k).getLsbD 0 = false := by
      cases e : (nth L k).getLsbD 0 with
      | false => rfl
      | true => have := hb k 0 e; omega
    obtain ⟨h1, h2⟩ := only_one (hne k (by omega)) h0; rw [fixF_succ, List.map_append, fix_gd hl hne hb k (by omega), List.take_succ_eq_append_getElem (by rw [gd_len]; omega), ← nth_eq (by rw [gd_len]; omega), gd_nth (by omega), fixD_snoc]
    congr 1
    show List.map Ch.er (if onlyB (nth L k) ≠ 0 then [⟨nth Y.st k, (onlyB (nth L k) : Int)⟩] else []) = _
    dsimp only; rw [List.length_map]; by_cases e : onlyB (nth L k) = 0
    · rw [if_neg (by simpa using e), if_neg (fun q => (h1.2 q) e)]; rfl
    · rw [if_pos e, if_pos (h1.1 e), h2 e]; rfl
section
variable {p : GProblem} {m : List GDomain × Bool} {k : SK} {L : Ws} {w : World} {F0 : Frz}
theorem SI.ne (h : SI p m k L) (hm : m.2 = true) : ∀ i, i < k.Y.n → nth L i ≠ 0#64 := fun i hi => (h.good hm).1.ne i hi
theorem st_fixedS (hF0 : F0.At w) (h : SI p m k L) (hs : StateAt w k.sp k.Y L (!m.2)) : Calls Tryz.prog 23 #[.pointer (some ⟨k.sp, 0, none⟩)] w fun e w' => ∃ (y : Value) (G : Frz), SlC G y 2 ((stFix m).map GChoice.enc) ∧ e = .returned y ∧ Fx F0 w G w' := by
  cases hm : m.2 with
  | false =>
    rw [hm] at hs; refine (fixed_bad k.sp k.Y L w hs).mono ?_; rintro e w' ⟨rfl, hb⟩; exact ⟨.slice none 0 0, F0, by unfold stFix; rw [hm]; exact SlC.nil _ 2, rfl, Fx.refl hF0 hb⟩
  | true =>
    rw [hm] at hs; refine (fixed_ret k.sp k.Y L w hs h.ok).mono ?_; rintro e w' ⟨v, -, rfl, hw⟩; obtain ⟨G, h1, h2⟩ := chs_frz hF0 hw; refine ⟨v, G, ?_, rfl, h1⟩
    have e : stFix m = (fixF k.Y L k.Y.n).map Ch.er := by
      unfold stFix; rw [hm, cond_true, fix_gd h.len (h.ne hm) (h.good hm).2.1 _ (Nat.le_refl _), (h.good hm).2.2, List.take_of_length_le (by rw [gd_len]; exact Nat.le_refl _)]
    rw [e]; exact h2
theorem st_hasS (h : SI p m k L) (hs : StateAt w k.sp k.Y L (!m.2)) (c : GChoice) : Calls Tryz.prog 34 #[.pointer (some ⟨k.sp, 0, none⟩), .agg [.int .i64 c.Station, .int .i64 c.Channel].toArray] w fun e w' => e = .returned (.bool (stHas m c)) ∧ Below w.heap.size w w' := by
  obtain ⟨P, hP, hok', hY⟩ := h.pb; have hG := Pb.good hok'; refine (shas_ret k.sp k.Y L (!m.2) c.b w hs h.ok hY.ixn).mono ?_; rintro e w' ⟨rfl, hb⟩; refine ⟨?_, hb⟩
  congr 2
  unfold stHasF stHas
  cases hm : m.2 with
  | false => rw [if_pos (.inl rfl)]; rfl
  | true =>
    obtain ⟨-, h51, hd⟩ := h.good hm; rw [Bool.true_and, hd]
    have hany : ∀ q, (gd k.Y L).any (fun x => decide (x.Station = c.Station) && x.Channels.any fun k => decide (k = c.Channel)) = q ↔ ((∃ i, i < k.Y.n ∧ nth k.Y.st i = c.Station ∧ ∃ j : Nat, (nth L i).getLsbD j = true ∧ (j : Int) = c.Channel) ↔ q = true) := fun q => by
      have e1 : (gd k.Y L).any (fun x => decide (x.Station = c.Station) && x.Channels.any fun k => decide (k = c.Channel)) = true ↔ (∃ i, i < k.Y.n ∧ nth k.Y.st i = c.Station ∧ ∃ j : Nat, (nth L i).getLsbD j = true ∧ (j : Int) = c.Channel) := by
        rw [List.any_eq_true]; constructor
        · rintro ⟨x, hx, hh⟩; obtain ⟨i, hi, rfl⟩ := mem_nth hx; rw [gd_len] at hi; rw [Bool.and_eq_true, decide_eq_true_eq, List.any_eq_true] at hh; obtain ⟨h1, q, hq, h2⟩ := hh; obtain ⟨j, hj, rfl⟩ := (gd_mem hi).1 hq; rw [gd_nth hi] at h1; exact ⟨i, hi, h1, j, hj, of_decide_eq_true h2⟩
        · rintro ⟨i, hi, h1, j, hj, h2⟩; refine ⟨_, nth_memG (by rw [gd_len]; exact hi), ?_⟩; rw [Bool.and_eq_true, decide_eq_true_eq, List.any_eq_true]; exact ⟨by rw [gd_nth hi]; exact h1, (j : Int), (gd_mem hi).2 ⟨j, hj, rfl⟩, decide_eq_true h2⟩
      rw [← e1]
      cases (gd k.Y L).any (fun x => decide (x.Station = c.Station) && x.Channels.any fun k => decide (k = c.Channel)) <;> cases q <;> simp
    symm
    rw [hany]
    show _ ↔ (if (!true) = true ∨ c.Channel < 2 ∨ 51 < c.Channel then false else if (atF k.Y c.Station).2 = false then false else (nth L (atF k.Y c.Station).1.toNat).getLsbD c.Channel.toNat) = true
    by_cases hc : c.Channel < 2 ∨ 51 < c.Channel
    · rw [if_pos (.inr hc)]; refine ⟨fun ⟨i, hi, _, j, hj, h2⟩ => ?_, fun h => by cases h⟩; have := h51 i j hj; omega
    · rw [if_neg (by simpa using hc)]
      cases hh : hasSt P.er c.Station with
      | true =>
        obtain ⟨i, hi, e⟩ := (hasSt_iff hY).1 hh; rw [← e, at_yes hok' hY hi]; simp only [Bool.true_eq_false, if_false, Int.toNat_natCast]; constructor
        · rintro ⟨i', hi', h1, j, hj, h2⟩; rw [st_inj hG hY hi hi' h1.symm, ← h2, Int.toNat_natCast]; exact hj
        · intro h; exact ⟨i, hi, rfl, c.Channel.toNat, h, by omega⟩
      | false =>
        (have hno : ∀ i, i < k.Y.n → nth k.Y.st i ≠ c.Station := fun i hi e => by rw [(hasSt_iff hY).2 ⟨i, hi, e⟩] at hh; cases hh); rw [at_no hok' hY hno]; simp only [if_true]; exact ⟨fun ⟨i, hi, h1, _⟩ => absurd h1 (hno i hi), fun h => by cases h⟩
end
end Go.Proofs.YtljgejbmimapdaaGreatDoor
namespace Go.Proofs.YtljgejbmimapdaaGreatDoor
open Go.RowKit
theorem dom_facts {Y : Tb} {L : Ws} (hix : ∀ j, 0 ≤ Y.ix j ∧ Y.ix j ≤ Y.n) (hLn : L.length = Y.n) {s : Int} (h : (atF Y s).2 = true) : 0 ≤ (atF Y s).1 ∧ (atF Y s).1 < L.length := by rw [hLn]; exact at_facts hix h
theorem domain_bad (sp : Nat) (Y : Tb) (L : Ws) (s : Int) (w : World) (h : StateAt w sp Y L true) : Calls Tryz.prog 14 #[.pointer (some ⟨sp, 0, none⟩), .int .i64 s] w fun e w' => e = .returned (.tuple #[.slice none 0 0, .int .i64 8]) ∧ Below w.heap.size w w' := by
  have hcon := h.con; refine calls_T (M := fun _ => False) (hs := []) Tryz.func14 rfl rfl rfl (Hp.refl _ _) ?_; refine T.seq (T.region ?_); refine TL.run 2 rfl ?_; refine TL.nil (K.seq (T.seq (T.seq (T.region ?_)))); refine TL.run 1 rfl ?_; (refine TL.ew (Wt.none rfl) rfl rfl (Ew.callD rfl rfl rfl (fun w hw => missing_ret sp Y L true w (h.kept hw))) ?_; rintro _ _ ⟨rfl, rfl⟩); refine TL.nil (K.seq ?_); refine T.condF rfl rfl ?_; refine T.skip (K.seq (T.seq (T.seq (T.region ?_)))); refine TL.run 2 rfl ?_; refine TL.y (Yv.fieldAddr rfl rfl) ?_; refine TL.y (Yv.loadB rfl rfl hcon (fun h => h)) ?_; refine TL.nil (K.seq ?_); refine T.condT rfl rfl ?_; refine T.seq (T.region ?_); refine TL.run 2 rfl ?_; refine TL.nil (K.seq (T.ret (K.then_ret ?_))); refine K.ret2 rfl rfl rfl (fun w' hw => ⟨?_, hw.isBelow⟩)
  rfl
theorem domain_no (sp : Nat) (Y : Tb) (L : Ws) (s : Int) (w : World) (h : StateAt w sp Y L false) (hok : Y.Ok) (hix : ∀ j, 0 ≤ Y.ix j ∧ Y.ix j ≤ Y.n) (hat : (atF Y s).2 = false) : Calls Tryz.prog 14 #[.pointer (some ⟨sp, 0, none⟩), .int .i64 s] w fun e w' => e = .returned (.tuple #[.slice none 0 0, .int .i64 9]) ∧ Below w.heap.size w w' := by
  have hcon := h.con; obtain ⟨tp, hsp0, hT⟩ := h.tb; refine calls_T (M := fun _ => False) (hs := []) Tryz.func14 rfl rfl rfl (Hp.refl _ _) ?_; refine T.seq (T.region ?_); refine TL.run 2 rfl ?_; refine TL.nil (K.seq (T.seq (T.seq (T.region ?_)))); refine TL.run 1 rfl ?_; (refine TL.ew (Wt.none rfl) rfl rfl (Ew.callD rfl rfl rfl (fun w hw => missing_ret sp Y L false w (h.kept hw))) ?_; rintro _ _ ⟨rfl, rfl⟩); refine TL.nil (K.seq ?_); refine T.condF rfl rfl ?_; refine T.skip (K.seq (T.seq (T.seq (T.region ?_)))); refine TL.run 2 rfl ?_; refine TL.y (Yv.fieldAddr rfl rfl) ?_; refine TL.y (Yv.loadB rfl rfl hcon (fun h => h)) ?_; refine TL.nil (K.seq ?_); refine T.condF rfl rfl ?_; refine T.skip (K.seq (T.seq (T.region ?_))); refine TL.run 2 rfl ?_; refine TL.y (Yv.fieldAddr rfl rfl) ?_; refine TL.y (Yv.loadB rfl rfl hsp0 (fun h => h)) ?_; refine TL.run 1 rfl ?_; (refine TL.ew (Wt.none rfl) rfl rfl (Ew.callD rfl rfl rfl (fun w hw => at_ret tp Y s w (hT.later (Fz.of_below hw.isBelow)) (Y.ix512 hok hix))) ?_; rintro _ _ ⟨rfl, rfl⟩); refine TL.run 5 rfl ?_; refine TL.nil (K.seq (T.seq (T.seq (T.region ?_)))); refine TL.run 2 rfl ?_; refine TL.nil (K.seq ?_); refine T.condT rfl (by rw [hat]; rfl) ?_; refine T.seq (T.region ?_); refine TL.run 2 rfl ?_; refine TL.nil (K.seq (T.ret (K.then_ret ?_))); refine K.ret2 rfl rfl rfl (fun w' hw => ⟨?_, hw.isBelow⟩)
  rfl
theorem domain_ok (sp : Nat) (Y : Tb) (L : Ws) (s : Int) (w : World) (h : StateAt w sp Y L false) (hok : Y.Ok) (hix : ∀ j, 0 ≤ Y.ix j ∧ Y.ix j ≤ Y.n) (hat : (atF Y s).2 = true) : Calls Tryz.prog 14 #[.pointer (some ⟨sp, 0, none⟩), .int .i64 s] w fun e w' => ∃ v : Value, OneC v ∧ e = .returned (.tuple #[v, .int .i64 0]) ∧ Hp w (fun _ => False) [.sl v 3 1 (chansN (nth L (atF Y s).1.toNat)).length (nums (chansN (nth L (atF Y s).1.toNat)))] w' := by
  have hcon := h.con; obtain ⟨tp, hsp0, hT⟩ := h.tb; obtain ⟨vL, hsp1, hL⟩ := h.left; obtain ⟨AL, capL, rfl, hLs⟩ := hL.op; have hLn := h.len; have hat2 := dom_facts hix hLn hat; obtain ⟨gL, oL, rfl, hc⟩ := hLs (by omega); have hk := hc (atF Y s).1.toNat (by omega); simp only [Le] at hk; refine calls_T (M := fun _ => False) (hs := []) Tryz.func14 rfl rfl rfl (Hp.refl _ _) ?_; refine T.seq (T.region ?_); refine TL.run 2 rfl ?_; refine TL.nil (K.seq (T.seq (T.seq (T.region ?_)))); refine TL.run 1 rfl ?_; (refine TL.ew (Wt.none rfl) rfl rfl (Ew.callD rfl rfl rfl (fun w hw => missing_ret sp Y L false w (h.kept hw))) ?_; rintro _ _ ⟨rfl, rfl⟩); refine TL.nil (K.seq ?_); refine T.condF rfl rfl ?_; refine T.skip (K.seq (T.seq (T.seq (T.region ?_)))); refine TL.run 2 rfl ?_; refine TL.y (Yv.fieldAddr rfl rfl) ?_; refine TL.y (Yv.loadB rfl rfl hcon (fun h => h)) ?_; refine TL.nil (K.seq ?_); refine T.condF rfl rfl ?_; refine T.skip (K.seq (T.seq (T.region ?_))); refine TL.run 2 rfl ?_; refine TL.y (Yv.fieldAddr rfl rfl) ?_; refine TL.y (Yv.loadB rfl rfl hsp0 (fun h => h)) ?_; refine TL.run 1 rfl ?_; (refine TL.ew (Wt.none rfl) rfl rfl (Ew.callD rfl rfl rfl (fun w hw => at_ret tp Y s w (hT.later (Fz.of_below hw.isBelow)) (Y.ix512 hok hix))) ?_; rintro _ _ ⟨rfl, rfl⟩); refine TL.run 5 rfl ?_; refine TL.nil (K.seq (T.seq (T.seq (T.region ?_)))); refine TL.run 2 rfl ?_; refine TL.nil (K.seq ?_); refine T.condF rfl (by rw [hat]; rfl) ?_; refine T.skip (K.seq (T.seq (T.region ?_))); refine TL.run 2 rfl ?_; refine TL.y (Yv.fieldAddr rfl rfl) ?_; refine TL.y (Yv.loadB rfl rfl hsp1 (fun h => h)) ?_; refine TL.run 1 rfl ?_; refine TL.y (Yv.indexSl rfl rfl rfl (show (atF Y s).1 = (((atF Y s).1.toNat : Nat) : Int) from by omega) (by omega)) ?_; refine TL.y (Yv.loadC (j := 0) rfl rfl hk rfl rfl (fun h => h)) ?_; (refine TL.ew (Wt.none rfl) rfl rfl (Ew.callH rfl rfl rfl (fun w hw => channels_ret _ w (h.tab.keptF hw))) ?_; rintro v43 _ ⟨_, hv43, rfl, rfl⟩); refine TL.run 2 rfl ?_; refine TL.nil (K.seq (T.ret ?_)); exact K.ret2 rfl rfl rfl (fun w' hw => ⟨_, by assumption, rfl, hw.sub (by repeat first | exact S0 | exact S1 | refine S2 ?_ | refine S3 ?_)⟩)
end Go.Proofs.YtljgejbmimapdaaGreatDoor
namespace Go.Proofs.YtljgejbmimapdaaGreatDoor
open Go.RowKit
def sliceV (v : Value) (l h k : Nat) : Value := match v with
  | .slice a _ cap => sliced a l h cap k
  | x => x
theorem SlC.slice {F : Frz} {v : Value} {size : Nat} {cs : List (List Value)} (h : SlC F v size cs) {l i : Nat} (hl : l ≤ i) (hi : i ≤ cs.length) : SlC F (sliceV v l i size) size ((cs.take i).drop l) := by
  obtain ⟨A, cap, rfl, h2, h3, h4, h5⟩ := h; (have hlen : ((cs.take i).drop l).length = i - l := by rw [List.length_drop, List.length_take]; omega); have hmem : ∀ c ∈ (cs.take i).drop l, c ∈ cs := fun c hc => List.mem_of_mem_take (List.mem_of_mem_drop hc); refine ⟨if cap = l then A else A.map (·.add (l * size)), cap - l, ?_, by omega, by omega, fun c hc => h4 c (hmem c hc), fun hp => ?_⟩
  · rw [hlen]; rfl
  · rw [hlen] at hp; obtain ⟨g, off, rfl, hg, hc⟩ := h5 (by omega); rw [if_neg (by omega)]; refine ⟨g, off + l * size, by simp [add_off], hg, fun j hj => ?_⟩; rw [hlen] at hj; have h6 := hc (l + j) (by omega)
    have e : nth ((cs.take i).drop l) j = nth cs (l + j) := by
      rw [nth_eq (by omega), nth_eq (by omega), List.getElem_drop, List.getElem_take]
    rw [e, show off + l * size + j * size = off + (l + j) * size by rw [Nat.add_mul]; omega]; exact h6
theorem SlD.slice {α : Type} [Inhabited α] {rep : Frz → List Value → α → Prop} {F : Frz} {v : Value} {size : Nat} {cs : List (List Value)} {xs : List α} (h : SlD rep F v size cs xs) {l i : Nat} (hl : l ≤ i) (hi : i ≤ xs.length) : SlD rep F (sliceV v l i size) size ((cs.take i).drop l) ((xs.take i).drop l) := by
  refine ⟨h.1.slice hl (by rw [h.2.1]; exact hi), ?_, fun j hj => ?_⟩
  · rw [List.length_drop, List.length_take, List.length_drop, List.length_take, h.2.1]
  · have hj' := hj; rw [List.length_drop, List.length_take] at hj'
    have e : nth ((cs.take i).drop l) j = nth cs (l + j) := by
      rw [nth_eq (by rw [List.length_drop, List.length_take, h.2.1]; omega), nth_eq (by rw [h.2.1]; omega), List.getElem_drop, List.getElem_take]
    have e' : nth ((xs.take i).drop l) j = nth xs (l + j) := by
      rw [nth_eq hj, nth_eq (by omega), List.getElem_drop, List.getElem_take]
    rw [e, e']; exact h.2.2 _ (by omega)
section
variable {F : Frz} {v : Value} {size : Nat}
variable {α : Type} [Inhabited α] {rep : Frz → List Value → α → Prop} {cs : List (List Value)} {xs : List α}
end
section
variable {P : Program} {n : Nat} {B : World} {M : Nat → Prop} {fs : SFs} {hs : HS} {o : Oper} {v : Value}
end
end Go.Proofs.YtljgejbmimapdaaGreatDoor
namespace Go.Proofs.YtljgejbmimapdaaGreatDoor
open Go.RowKit
structure FxM (F : Frz) (w : World) (M : Nat → Prop) (G : Frz) (es : HS) (w' : World) : Prop where
  le : F.Le G
  at_ : G.At w'
  hp : Hp w M es w'
  new : ∀ g, G.S g → F.S g ∨ M g ∨ w.heap.size ≤ g
  ap : ∀ e ∈ es, ∀ g, e.fp g → ¬ G.S g
theorem fps_nil : fps [] = fun _ => False := by funext g; unfold fps; simp
section
variable {B w w' : World} {M S0 : Nat → Prop} {hs : HS} {F : FzB B M S0}
theorem FxM.of {F0 : Frz} {es : HS} {G : FzB B M S0} (hw : Hp B M (es ++ [Ent.fr G]) w') (hS : ∀ g, S0 g → F0.S g) (hle : F0.Le G.toFrz) : FxM F0 B M G.toFrz es w' := by
  have h1 := hw; have h2 := List.pairwise_append.1 h1.apart; refine ⟨hle, hw.fr (i := es.length) (by simp), hw.sub (List.sublist_append_left _ _), fun g hg => (G.new g hg).imp (hS g) id, fun e he g hg hS => ?_⟩; refine h2.2.2 e he (.fr G) (by simp) g hg (Ent.fr_fp.2 ⟨hS, ?_⟩); exact h1.new e (List.mem_append_left _ he) g hg
theorem FxM.up {M' : Nat → Prop} {G : Frz} {es : HS} (h : FxM F.toFrz w M' G es w') (hw : Hp B M hs w) (hM : ∀ g, M' g → M g ∨ B.heap.size ≤ g) : ∃ G' : FzB B M S0, G'.toFrz = G := by
  refine ⟨⟨G, fun g hg hb hm => ?_, fun g hg => ?_⟩, rfl⟩
  · rcases h.new g hg with h1 | h1 | h1
    · rw [(h.le g h1).2, F.base g h1 hb hm]
    · rcases hM g h1 with h2 | h2
      · exact absurd h2 hm
      · omega
    · have := hw.size; omega
  · rcases h.new g hg with h1 | h1 | h1
    · exact F.new g h1
    · exact .inr (hM g h1)
    · have := hw.size; exact .inr (.inr (by omega))
end
section
variable {P : Program} {n : Nat} {B D : World} {M S0 : Nat → Prop} {fs : SFs} {hs : HS} {o : Oper} {v : Value}
theorem Ew.callO (idx : List Nat) (bs rest : HS) {ι : Type} {F : FzB B M S0} {φ : ι → Frz → Prop} {val : ι → Value} {es : ι → HS} {c : Operand} {xs : Array Operand} {ts : Array TypeId} {f : FuncId} {fst caps : Array Value} {vs : List Value} [hE : Enters P f]
    (ho : o.op = .call { callee := .value c, args := xs, argTypes := ts }) (hc : ev fs c = some (.func (.func f) fst caps)) (hv : evs fs xs.toList = some vs) (hp : pickL hs idx = some (bs ++ .fr F :: rest)) (hn : idx.Nodup)
    (C : ∀ w, Hp B M hs w → Hp B M (bs ++ .fr F :: rest) w → F.toFrz.At w → Calls P f (fst.toList ++ vs ++ caps.toList).toArray w (fun e w' => ∃ y G, φ y G ∧ e = .returned (val y) ∧ FxM F.toFrz w (fps bs) G (es y) w')) :
    Ew P n B M fs hs o (fun v hs'' => ∃ y, ∃ G : FzB B M S0, F.toFrz.Le G.toFrz ∧ φ y G.toFrz ∧ v = val y ∧ hs'' = es y ++ .fr G :: rest) :=
  Ew.call ho hc hv fun w hw => by
    have hw2 := hw.pick hp hn; have hF : F.toFrz.At w := hw2.fr (i := bs.length) (by simp); refine (C w hw hw2 hF).mono fun e w' ⟨y, G, hy, he, hx⟩ => ?_; have hM : ∀ g, fps bs g → M g ∨ B.heap.size ≤ g := fun g ⟨e, he, hg⟩ => hw2.new e (List.mem_append_left _ he) g hg; obtain ⟨G', rfl⟩ := hx.up hw2 hM; refine ⟨val y, es y ++ .fr G' :: rest, he, Kp.only hx.hp.only (fun g hg c => ?_), ?_, y, G', hx.le, hy, rfl, rfl⟩
    · obtain ⟨e, h1, h2⟩ := hg; exact e.nd (hw2.own e (List.mem_append_left _ h1)) g h2 c
    · (have h3 : Hp B M ((bs ++ [.fr F]) ++ rest) w := by rw [List.append_assoc]; exact hw2); have h4 := Hp.go (es := bs ++ [.fr F]) (es' := es y ++ [.fr G']) h3 hx.hp.only (fun g _ ⟨e, he, hg⟩ => ⟨e, List.mem_append_left _ he, hg⟩) (fun e he => ?_) (fun e he g hg => ?_) ?_
      · rw [List.append_assoc] at h4; exact h4
      · rcases List.mem_append.1 he with he | he
        · exact hx.hp.own e he
        · simp at he; subst he; exact Ent.fr_ok.2 (fun g hg => hx.at_ g hg.1)
      · rcases List.mem_append.1 he with he | he
        · rcases hx.hp.new e he g hg with ⟨f, hf, hfg⟩ | h5
          · exact .inl ⟨f, List.mem_append_left _ hf, hfg⟩
          · exact .inr h5
        · simp at he; subst he; have h6 := Ent.fr_fp.1 hg; rcases hx.new g h6.1 with h7 | ⟨f, hf, hfg⟩ | h7
          · exact .inl ⟨.fr F, by simp, Ent.fr_fp.2 ⟨h7, h6.2⟩⟩
          · exact .inl ⟨f, List.mem_append_left _ hf, hfg⟩
          · exact .inr h7
      · exact List.pairwise_append.2 ⟨hx.hp.apart, List.pairwise_singleton _ _, fun e he f hf g hg hfg => by
          simp at hf; subst hf
          exact hx.ap e he g hg (Ent.fr_fp.1 hfg).1⟩
end
section
variable {w : World} {bs : HS} {F : Frz}
theorem startO_ex (hF : F.At w) (h : Hp w (fps bs) bs w) (hA : ∀ g, fps bs g → ¬ F.S g) : ∃ (S0 : Nat → Prop) (G : FzB w (fps bs) S0), G.toFrz = F ∧ (∀ g, S0 g → F.S g) ∧ Hp w (fps bs) (bs ++ [Ent.fr G]) w := ⟨F.S, Frz.inB hF _, rfl, fun _ h => h, Hp.startFM hF h hA⟩
variable {B : World} {M S0 : Nat → Prop} {G : FzB B M S0} {rest : HS}
theorem Hp.takes (h : Hp B M (bs ++ .fr G :: rest) w) : Hp w (fps bs) bs w ∧ ∀ g, fps bs g → ¬ G.toFrz.S g := by
  have h1 : Hp B M bs w := h.sub (List.sublist_append_left _ _); refine ⟨Hp.startL h1.own h1.apart, fun g ⟨e, he, hg⟩ hS => ?_⟩; exact (List.pairwise_append.1 h.apart).2.2 e he (.fr G) (by simp) g hg (Ent.fr_fp.2 ⟨hS, h1.new e he g hg⟩)
theorem Hp.takes0 (h : Hp B M (bs ++ .fr G :: rest) w) (h0 : ¬ M 0) (hB : 0 < B.heap.size) : ¬ fps bs 0 := fun ⟨e, he, hg⟩ => by
  rcases h.new e (List.mem_append_left _ he) 0 hg with h1 | h1
  · exact h0 h1
  · omega
end
theorem Tab.pos {w : World} (h : Tab w) : 0 < w.heap.size := by
  have h0 := h 0 (by decide); unfold World.cell? at h0; rcases Nat.eq_zero_or_pos w.heap.size with e | e
  · rw [Array.getElem?_eq_none (by omega)] at h0; simp at h0
  · exact e
end Go.Proofs.YtljgejbmimapdaaGreatDoor
namespace Go.Proofs.YtljgejbmimapdaaGreatDoor
open Go.RowKit
abbrev st2L (k : SK) (v : Value) (L : Ws) (b : Bool) : HS := [.row k.sp 72 [.pointer (some ⟨k.tp, 0, none⟩), v, .bool b], .sl v 73 1 k.Y.n (Ws.cells L)]
abbrev st2 (k : SK) (v : Value) (L : Ws) (b : Bool) : Ent := .bag (st2L k v L b)
def TbF (F : Frz) (k : SK) : Prop := ∀ g, IsC k.w0 g → F.S g ∧ F.w.heap[g]? = k.w0.heap[g]?
theorem TbF.mono {F G : Frz} {k : SK} (h : TbF F k) (hle : F.Le G) : TbF G k := fun g hg => ⟨(hle g (h g hg).1).1, (hle g (h g hg).1).2.trans (h g hg).2⟩
theorem TbF.fz {F : Frz} {k : SK} {w : World} (h : TbF F k) (hF : F.At w) : Fz k.w0 w := fun g hg => (hF g (h g hg).1).trans (h g hg).2
theorem le_cells : ∀ L : Ws, L.flatMap Le = Ws.cells L
  | [] => rfl
  | b :: r => by
    rw [List.flatMap_cons, le_cells r]; rfl
section
variable {p : GProblem} {m : List GDomain × Bool} {k : SK} {v : Value} {L : Ws} {b : Bool} {w w' : World} {F F0 : Frz}
theorem SI.gl (h : SI p m k L) (gl : GL) : SI p m { k with gl := gl } L := ⟨h.pb, h.tb, h.len, h.good, h.bad⟩
theorem SI.sp (h : SI p m k L) (sp : Nat) : SI p m { k with sp := sp } L := ⟨h.pb, h.tb, h.len, h.good, h.bad⟩
theorem SI.n512 (h : SI p m k L) : k.Y.n ≤ 512 := h.ok.n
theorem cell_of_row {g : Nat} {t : TypeId} {l : List Value} {i : Nat} {x : Value} (h : (Ent.row g t l).ok w) (hx : l[i]? = some x) : w.cell? ⟨g, i, none⟩ = some x := by rw [row_cell (Ent.row_ok.1 h)]; exact hx
theorem st2_at (h : SI p m k L) (hok : (st2 k v L b).ok w) (hf : Fz k.w0 w) (htab : Tab w) : StateAt w k.sp k.Y L b := by
  have h1 := (Ent.bag_ok.1 hok).1; have hr := h1 (.row k.sp 72 [.pointer (some ⟨k.tp, 0, none⟩), v, .bool b]) (by simp); have hl := Ent.sl_ok.1 (h1 (.sl v 73 1 k.Y.n (Ws.cells L)) (by simp)); refine ⟨htab, ⟨k.tp, cell_of_row hr rfl, h.tb.later hf⟩, ⟨v, cell_of_row hr rfl, ?_⟩, h.len, cell_of_row hr rfl⟩; refine SlOf.own (enc := Le) (size := 1) (fun _ => rfl) (xs := L) (e := 73) (k := k.Y.n) ?_ h.len.symm; rw [le_cells]; exact hl
theorem st2_gl (h : SI p m k L) (hok : (st2 k v L b).ok w) (hn : 0 < k.Y.n) : ∃ gl : GL, v = sG gl k.Y.n := by
  have h1 := (Ent.bag_ok.1 hok).1; have hl := Ent.sl_ok.1 (h1 (.sl v 73 1 k.Y.n (Ws.cells L)) (by simp)); rcases hl.2 with ⟨_, h0⟩ | ⟨g, cap, cur, rfl, _⟩
  · omega
  · exact ⟨⟨g, cap⟩, rfl⟩
theorem st2_stE {gl : GL} (hok : (st2 k (sG gl k.Y.n) L b).ok w) (hf : Fz k.w0 w) (hap : ∀ g, (st2 k (sG gl k.Y.n) L b).fp g → ¬ IsC k.w0 g) : (stE { k with gl := gl } L b).ok w := by
  obtain ⟨h1, h2⟩ := Ent.bag_ok.1 hok; refine Ent.bag_ok.2 ⟨fun e he => ?_, ?_⟩
  · simp at he; rcases he with rfl | rfl | rfl
    · exact h1 _ (by simp)
    · exact h1 _ (by simp)
    · exact Ent.fz_ok.2 hf
  · show ([sRow k.sp gl k.tp k.Y.n b, sLeft gl k.Y.n L] ++ [Ent.fz k.w0]).Pairwise _
    refine List.pairwise_append.2 ⟨h2, List.pairwise_singleton _ _, fun e he f hf' g hg hfg => ?_⟩; simp only [List.mem_singleton] at hf'; subst hf'; exact hap g (Ent.bag_fp.2 ⟨e, he, hg⟩) (Ent.fz_fp.1 hfg)
theorem stE_hp {gl : GL} {L' : Ws} {b' : Bool} (hf : Fz k.w0 w) (h : Hp w (stE { k with gl := gl } L b).fp [stE { k with gl := gl } L' b'] w') : Hp w (st2 k (sG gl k.Y.n) L b).fp [st2 k (sG gl k.Y.n) L' b'] w' := by
  have hok := h.own (stE { k with gl := gl } L' b') (by simp); obtain ⟨h1, h2⟩ := Ent.bag_ok.1 hok; have h3 : ([sRow k.sp gl k.tp k.Y.n b', sLeft gl k.Y.n L'] ++ [Ent.fz k.w0]).Pairwise fun e f => ∀ g, e.fp g → ¬ f.fp g := h2; obtain ⟨a1, a2, a3⟩ := List.pairwise_append.1 h3; have hf' : Fz k.w0 w' := Ent.fz_ok.1 (h1 (.fz k.w0) (by simp)); have hsp : ∀ g, (st2 k (sG gl k.Y.n) L' b').fp g ↔ ∃ e ∈ [sRow k.sp gl k.tp k.Y.n b', sLeft gl k.Y.n L'], e.fp g := fun g => Ent.bag_fp; have hfp : ∀ g, (st2 k (sG gl k.Y.n) L b).fp g ↔ ∃ e ∈ [sRow k.sp gl k.tp k.Y.n b, sLeft gl k.Y.n L], e.fp g := fun g => Ent.bag_fp
  have hE : ∀ g, (stE { k with gl := gl } L b).fp g ↔ (st2 k (sG gl k.Y.n) L b).fp g ∨ IsC k.w0 g := fun g => by
    rw [hfp, Ent.bag_fp]; simp only [List.mem_cons, List.not_mem_nil, or_false, exists_eq_or_imp, exists_eq_left, Ent.fz_fp]; exact or_assoc.symm
  refine ⟨h.os, h.tape, h.output, h.size, fun g hg hn => ?_, fun e he => ?_, fun e he g hg => ?_, List.pairwise_singleton _ _⟩
  · by_cases hc : IsC k.w0 g
    · rw [hf' g hc, hf g hc]
    · exact h.base g hg (fun hh => ((hE g).1 hh).elim hn hc)
  · simp at he; subst he; exact Ent.bag_ok.2 ⟨fun e he => h1 e (by simp at he ⊢; rcases he with h | h <;> simp [h]), a1⟩
  · simp at he; subst he; have hg' := (hsp g).1 hg; obtain ⟨x, hx, hxg⟩ := hg'; rcases h.new (stE { k with gl := gl } L' b') (by simp) g (Ent.bag_fp.2 ⟨x, by simp at hx ⊢; rcases hx with h | h <;> simp [h], hxg⟩) with h4 | h4
    · rcases (hE g).1 h4 with h5 | h5
      · exact .inl h5
      · exact absurd (Ent.fz_fp.2 h5) (a3 x hx (.fz k.w0) (by simp) g hxg)
    · exact .inr h4
theorem s2_conflict (h : SI p m k L) (tf : TbF F k) (hok : (st2 k v L (!m.2)).ok w) (hF : F.At w) (htab : Tab w) : Calls Tryz.prog 24 #[.pointer (some ⟨k.sp, 0, none⟩)] w fun e w' => e = .returned (.bool (!m.2)) ∧ Below w.heap.size w w' := st_conflictS (st2_at h hok (tf.fz hF) htab)
theorem s2_domains (h : SI p m k L) (tf : TbF F k) (hok : (st2 k v L (!m.2)).ok w) (hF : F.At w) (htab : Tab w) : Calls Tryz.prog 19 #[.pointer (some ⟨k.sp, 0, none⟩)] w fun e w' => ∃ (y : Value × List (List Value)) (G : Frz), SlD GDomain.rep G y.1 2 y.2 m.1 ∧ e = .returned y.1 ∧ Fx F w G w' := st_domainsS hF h (st2_at h hok (tf.fz hF) htab)
theorem s2_removed (h : SI p m k L) (tf : TbF F k) (hok : (st2 k v L (!m.2)).ok w) (hF : F.At w) (htab : Tab w) : Calls Tryz.prog 17 #[.pointer (some ⟨k.sp, 0, none⟩)] w fun e w' => e = .returned (.int .i64 (stRem p m)) ∧ Below w.heap.size w w' := st_removedS h (st2_at h hok (tf.fz hF) htab)
theorem s2_fixed (h : SI p m k L) (tf : TbF F k) (hok : (st2 k v L (!m.2)).ok w) (hF : F.At w) (htab : Tab w) : Calls Tryz.prog 23 #[.pointer (some ⟨k.sp, 0, none⟩)] w fun e w' => ∃ (y : Value) (G : Frz), SlC G y 2 ((stFix m).map GChoice.enc) ∧ e = .returned y ∧ Fx F w G w' := st_fixedS hF h (st2_at h hok (tf.fz hF) htab)
theorem s2_has (h : SI p m k L) (tf : TbF F k) (hok : (st2 k v L (!m.2)).ok w) (hF : F.At w) (htab : Tab w) (c : GChoice) : Calls Tryz.prog 34 #[.pointer (some ⟨k.sp, 0, none⟩), .agg [.int .i64 c.Station, .int .i64 c.Channel].toArray] w fun e w' => e = .returned (.bool (stHas m c)) ∧ Below w.heap.size w w' := st_hasS h (st2_at h hok (tf.fz hF) htab) c
def stDom (p : GProblem) (m : List GDomain × Bool) (s : Int) : List Int × Int := bif !m.2 then ([], 8) else match p.Domains.findIdx? (fun d => decide (d.Station = s)) with | some i => ((nth m.1 i).Channels, 0) | none => ([], 9)
theorem s2_domain (h : SI p m k L) (tf : TbF F k) (hok : (st2 k v L (!m.2)).ok w) (hF : F.At w) (htab : Tab w) (s : Int) : Calls Tryz.prog 14 #[.pointer (some ⟨k.sp, 0, none⟩), .int .i64 s] w fun e w' => ∃ (y : Value) (G : Frz), SlC G y 1 ((stDom p m s).1.map eI) ∧ e = .returned (.tuple #[y, .int .i64 (stDom p m s).2]) ∧ Fx F w G w' := by
  have hs := st2_at h hok (tf.fz hF) htab; obtain ⟨P, rfl, hok', hY⟩ := h.pb; have hG := Pb.good hok'; have hn := hY.n
  have hst : ∀ i, i < P.ds.length → (nth P.er.Domains i).Station = nth k.Y.st i := fun i hi => by
    show (nth (P.ds.map Dx.er) i).Station = _
    rw [nth_mapG hi, hY.nth_st (by omega)]; rfl
  (have hlen : P.er.Domains.length = P.ds.length := by show (P.ds.map Dx.er).length = _; simp)
  cases hm : m.2 with
  | false =>
    rw [hm] at hs; (have e : stDom P.er m s = ([], 8) := by unfold stDom; rw [hm]; rfl); rw [e]; refine (domain_bad k.sp k.Y L s w hs).mono ?_; rintro e w' ⟨rfl, hb⟩; exact ⟨.slice none 0 0, F, SlC.nil _ 1, rfl, Fx.refl hF hb⟩
  | true =>
    rw [hm] at hs
    cases hh : hasSt P.er s with
    | false =>
      (have hno : ∀ i, i < k.Y.n → nth k.Y.st i ≠ s := fun i hi e => by rw [(hasSt_iff hY).2 ⟨i, hi, e⟩] at hh; cases hh)
      have e : stDom P.er m s = ([], 9) := by
        unfold stDom; rw [hm, show P.er.Domains.findIdx? (fun d => decide (d.Station = s)) = none from ?_]; rfl; rw [List.findIdx?_eq_none_iff]; intro d hd; unfold hasSt at hh; rw [List.any_eq_false] at hh; have := hh d hd; simpa using this
      rw [e]; refine (domain_no k.sp k.Y L s w hs h.ok hY.ixn (by rw [at_no hok' hY hno])).mono ?_; rintro e w' ⟨rfl, hb⟩; exact ⟨.slice none 0 0, F, SlC.nil _ 1, rfl, Fx.refl hF hb⟩
    | true =>
      obtain ⟨i, hi, rfl⟩ := (hasSt_iff hY).1 hh; have hat := at_yes hok' hY hi
      have e : stDom P.er m (nth k.Y.st i) = ((chansN (nth L i)).map fun j : Nat => (j : Int), 0) := by
        unfold stDom; rw [hm, show P.er.Domains.findIdx? (fun d => decide (d.Station = nth k.Y.st i)) = some i from ?_]
        · show ((nth m.1 i).Channels, 0) = _
          rw [(h.good hm).2.2, gd_nth hi]
        · rw [List.findIdx?_eq_some_iff_getElem]; refine ⟨by omega, ?_, fun j hj => ?_⟩
          · rw [← nth_eq (by omega), hst i (by omega)]; simp
          · rw [← nth_eq (by omega), hst j (by omega)]; (have : nth k.Y.st j ≠ nth k.Y.st i := fun e => by have := st_inj hG hY (by omega) hi e; omega); simpa using this
      rw [e]; refine (domain_ok k.sp k.Y L (nth k.Y.st i) w hs h.ok hY.ixn (by rw [hat])).mono ?_; rintro e' w' ⟨v', hv', rfl, hw⟩; rw [hat] at hw; simp only [Int.toNat_natCast] at hw; obtain ⟨G, h1, h2, h3⟩ := Fx.hp hF hw; refine ⟨v', G, ?_, rfl, h1⟩; have h4 := SlK.ent (G := G) (hw.own (.sl v' 3 1 (chansN (nth L i)).length (nums (chansN (nth L i)))) (by simp)) h2 (h3 _ (by simp))
      have e5 : nums (chansN (nth L i)) = ((chansN (nth L i)).map fun j : Nat => (j : Int)).flatMap eI := by
        generalize chansN (nth L i) = l
        induction l with
        | nil => rfl
        | cons x r ih => rw [List.map_cons, List.flatMap_cons, ← ih]; rfl
      rw [e5] at h4; exact h4.toF (by simp) (fun _ => rfl)
theorem s2_act (kp : Bool) (num : FuncId) (h : SI p m k L) (tf : TbF F k) (hok : (st2 k v L (!m.2)).ok w) (hF : F.At w) (hap : ∀ g, (st2 k v L (!m.2)).fp g → ¬ F.S g) (htab : Tab w) {fuel : Nat} (c : GChoice) {r : (List GDomain × Bool) × Int} (hr : stAct fuel p m kp c = some r)
    (hE : (checkF k.Y (!m.2) c.b).2 ≠ 0 → Calls Tryz.prog num #[.pointer (some ⟨k.sp, 0, none⟩), .agg (Ch.cells c.b).toArray] w fun e w' => e = .returned (.int .i64 (checkF k.Y (!m.2) c.b).2) ∧ Below w.heap.size w w')
    (hO : ∀ gl : GL, SI p m { k with gl := gl } L → (stE { k with gl := gl } L (!m.2)).ok w → Calls Tryz.prog num #[.pointer (some ⟨k.sp, 0, none⟩), .agg [.int .i64 c.Station, .int .i64 c.Channel].toArray] w fun e w' => ∃ L', SI p r.1 { k with gl := gl } L' ∧ e = .returned (.int .i64 r.2) ∧ Hp w (stE { k with gl := gl } L (!m.2)).fp [stE { k with gl := gl } L' (!r.1.2)] w') :
    Calls Tryz.prog num #[.pointer (some ⟨k.sp, 0, none⟩), .agg [.int .i64 c.Station, .int .i64 c.Channel].toArray] w fun e w' => ∃ L', SI p r.1 k L' ∧ e = .returned (.int .i64 r.2) ∧ Hp w (st2 k v L (!m.2)).fp [st2 k v L' (!r.1.2)] w' := by
  have hfit := st_fits h (c := c)
  have keepE : ∀ {n : Int}, r = (m, n) → (checkF k.Y (!m.2) c.b).2 = n → n ≠ 0 → Calls Tryz.prog num #[.pointer (some ⟨k.sp, 0, none⟩), .agg [.int .i64 c.Station, .int .i64 c.Channel].toArray] w fun e w' => ∃ L', SI p r.1 k L' ∧ e = .returned (.int .i64 r.2) ∧ Hp w (st2 k v L (!m.2)).fp [st2 k v L' (!r.1.2)] w' := by
    intro n hr hc hn; subst hr; refine (hE (by rw [hc]; exact hn)).mono ?_; rintro e w' ⟨rfl, hb⟩; exact ⟨L, h, by rw [hc], (Hp.start hok).below hb⟩
  by_cases hn : 0 < k.Y.n
  · obtain ⟨gl, rfl⟩ := st2_gl h hok hn; refine (hO gl (h.gl gl) (st2_stE hok (tf.fz hF) (fun g hg hc => hap g hg (tf g hc).1))).mono ?_; rintro e w' ⟨L', h1, rfl, h2⟩; exact ⟨L', ⟨h1.pb, h1.tb, h1.len, h1.good, h1.bad⟩, rfl, stE_hp (tf.fz hF) h2⟩
  · unfold stAct at hr
    cases hg : goodC c with
    | false => rw [hg] at hr hfit; exact keepE (Option.some.inj hr).symm (by rw [hfit]; rfl) (by decide)
    | true =>
      rw [hg] at hr hfit; simp only [Bool.not_true, cond_false] at hr hfit
      cases hm : m.2 with
      | false => rw [hm] at hr hfit; rw [← hm]; exact keepE (Option.some.inj hr).symm (by rw [hm]; rw [hfit]; rfl) (by decide)
      | true =>
        rw [hm] at hr hfit; simp only [Bool.not_true, cond_false] at hr hfit
        cases hh : hasSt p c.Station with
        | false => rw [hh] at hr hfit; rw [← hm]; exact keepE (Option.some.inj hr).symm (by rw [hm, Bool.not_true, hfit]; rfl) (by decide)
        | true =>
          obtain ⟨P, rfl, _, hY⟩ := h.pb; obtain ⟨i, hi, _⟩ := (hasSt_iff hY).1 hh; omega
theorem s2_assume (h : SI p m k L) (tf : TbF F k) (hok : (st2 k v L (!m.2)).ok w) (hF : F.At w) (hap : ∀ g, (st2 k v L (!m.2)).fp g → ¬ F.S g) (htab : Tab w) {fuel : Nat} (hf : 100000 ≤ fuel) (c : GChoice) {r : (List GDomain × Bool) × Int} (hr : stAct fuel p m true c = some r) :
    Calls Tryz.prog 11 #[.pointer (some ⟨k.sp, 0, none⟩), .agg [.int .i64 c.Station, .int .i64 c.Channel].toArray] w fun e w' => ∃ L', SI p r.1 k L' ∧ e = .returned (.int .i64 r.2) ∧ Hp w (st2 k v L (!m.2)).fp [st2 k v L' (!r.1.2)] w' := by
  obtain ⟨P, hP, hok', hY⟩ := h.pb; exact s2_act true _ h tf hok hF hap htab c hr (fun he => assume_err k.sp k.Y L (!m.2) c.b w (st2_at h hok (tf.fz hF) htab) (k.Y.ix512 h.ok hY.ixn) he) (fun gl h1 h2 => st_assume h1 h2 htab hf c hr)
theorem s2_forbid (h : SI p m k L) (tf : TbF F k) (hok : (st2 k v L (!m.2)).ok w) (hF : F.At w) (hap : ∀ g, (st2 k v L (!m.2)).fp g → ¬ F.S g) (htab : Tab w) {fuel : Nat} (hf : 100000 ≤ fuel) (c : GChoice) {r : (List GDomain × Bool) × Int} (hr : stAct fuel p m false c = some r) :
    Calls Tryz.prog 12 #[.pointer (some ⟨k.sp, 0, none⟩), .agg [.int .i64 c.Station, .int .i64 c.Channel].toArray] w fun e w' => ∃ L', SI p r.1 k L' ∧ e = .returned (.int .i64 r.2) ∧ Hp w (st2 k v L (!m.2)).fp [st2 k v L' (!r.1.2)] w' := by
  obtain ⟨P, hP, hok', hY⟩ := h.pb; exact s2_act false _ h tf hok hF hap htab c hr (fun he => forbid_err k.sp k.Y L (!m.2) c.b w (st2_at h hok (tf.fz hF) htab) (k.Y.ix512 h.ok hY.ixn) he) (fun gl h1 h2 => st_forbid h1 h2 htab hf c hr)
theorem stE_new (hF : F0.At w) (h : SI p m k L) (hw : Hp w (fun _ => False) [stE k L b] w') : ∃ G, TbF G k ∧ FxM F0 w (fps []) G [st2 k (sG k.gl k.Y.n) L b] w' := by
  have hok := hw.own (stE k L b) (by simp); obtain ⟨h1, h2⟩ := Ent.bag_ok.1 hok; have h3 : ([sRow k.sp k.gl k.tp k.Y.n b, sLeft k.gl k.Y.n L] ++ [Ent.fz k.w0]).Pairwise fun e f => ∀ g, e.fp g → ¬ f.fp g := h2; obtain ⟨a1, a2, a3⟩ := List.pairwise_append.1 h3; have hf' : Fz k.w0 w' := Ent.fz_ok.1 (h1 (.fz k.w0) (by simp)); have hb := hw.isBelow; have hF' := hF.below hb; have hnew : ∀ g, IsC k.w0 g → w.heap.size ≤ g := fun g hg => (hw.new (stE k L b) (by simp) g (Ent.bag_fp.2 ⟨.fz k.w0, by simp, Ent.fz_fp.2 hg⟩)).elim (fun h => h.elim) id
  have hnew2 : ∀ g, (st2 k (sG k.gl k.Y.n) L b).fp g → w.heap.size ≤ g := fun g hg => by
    obtain ⟨e, he, hg⟩ := Ent.bag_fp.1 hg; exact (hw.new (stE k L b) (by simp) g (Ent.bag_fp.2 ⟨e, by simp at he ⊢; rcases he with h | h <;> simp [h], hg⟩)).elim (fun h => h.elim) id
  refine ⟨⟨fun g => F0.S g ∨ IsC k.w0 g, w', fun g hg => ?_⟩, fun g hg => ⟨.inr hg, hf' g hg⟩, ⟨fun g hg => ⟨.inl hg, hF' g hg⟩, fun g _ => rfl, ?_, fun g hg => hg.imp id (fun h => .inr (hnew g h)), fun e he g hg hS => ?_⟩⟩
  · rcases hg with hg | hg
    · exact hF'.cb hg
    · obtain ⟨cs, t, q, e⟩ := hg; exact ⟨cs, t, q, (hf' g ⟨cs, t, q, e⟩).trans e⟩
  · rw [fps_nil]; refine ⟨hw.os, hw.tape, hw.output, hw.size, hw.base, fun e he => ?_, fun e he g hg => ?_, List.pairwise_singleton _ _⟩
    · simp at he; subst he; exact Ent.bag_ok.2 ⟨fun e he => h1 e (by simp at he ⊢; rcases he with h | h <;> simp [h]), a1⟩
    · simp at he; subst he; exact .inr (hnew2 g hg)
  · simp at he; subst he; rcases hS with hS | hS
    · have := (hF.cb hS).lt; have := hnew2 g hg; omega
    · obtain ⟨e, he, hg⟩ := Ent.bag_fp.1 hg; exact a3 e he (.fz k.w0) (by simp) g hg (Ent.fz_fp.2 hS)
theorem s2_new {vd vp vl vc : Value} {cd : List (List Value)} (hF0 : F0.At w) (h : PbF F0 vd cd vp vl vc p) (htab : Tab w) (hv : okG p = true) {fuel : Nat} (hf : 100000 ≤ fuel) {r : List GDomain × Bool} (hr : ref18_Propagate_x fuel p p.Domains = some r) :
    Calls Tryz.prog 6 #[.agg [vd, vp, vl, vc].toArray] w fun e w' => ∃ (y : SK × Value × Ws) (G : Frz), (SI p r y.1 y.2.2 ∧ TbF G y.1) ∧ e = .returned (.tuple #[.pointer (some ⟨y.1.sp, 0, none⟩), .int .i64 0]) ∧ FxM F0 w (fps []) G [st2 y.1 y.2.1 y.2.2 (!r.2)] w' := by
  refine (st_new hF0 h htab hv hf hr).mono ?_; rintro e w' ⟨⟨k, L⟩, hs, rfl, hw⟩; obtain ⟨G, h1, h2⟩ := stE_new hF0 hs hw; exact ⟨(k, sG k.gl k.Y.n, L), G, ⟨hs, h1⟩, rfl, h2⟩
theorem s2_copy (h : SI p m k L) (tf : TbF F k) (hok : (st2 k v L (!m.2)).ok w) (hF : F.At w) (htab : Tab w) : Calls Tryz.prog 13 #[.pointer (some ⟨k.sp, 0, none⟩)] w fun e w' => ∃ (y : SK × Value) (G : Frz), (SI p m y.1 L ∧ TbF G y.1) ∧ e = .returned (.pointer (some ⟨y.1.sp, 0, none⟩)) ∧ FxM F w (fps []) G [st2 y.1 y.2 L (!m.2)] w' := by
  have hs := st2_at h hok (tf.fz hF) htab; have h1 := (Ent.bag_ok.1 hok).1; have hr := h1 (.row k.sp 72 [.pointer (some ⟨k.tp, 0, none⟩), v, .bool (!m.2)]) (by simp); have hl := h1 (.sl v 73 1 k.Y.n (Ws.cells L)) (by simp); have hn := h.n512
  -- what is there is frozen for the time of the call
  have hC : SlC (Frz.all w) v 1 (L.map Le) := by
    have hl2 := hl; rw [← le_cells] at hl2; exact (SlK.ent (G := Frz.all w) hl2 rfl (fun g _ hc => hc)).toF h.len.symm (fun _ => rfl)
  haveI := hC.oneC; refine Calls.mono (R := fun e w' => ∃ (y : Nat × Value), OneC y.2 ∧ e = .returned (.pointer (some ⟨y.1, 0, none⟩)) ∧ Hp w (fun _ => False) [.row y.1 72 [.pointer (some ⟨k.tp, 0, none⟩), y.2, .bool (!m.2)], .sl y.2 73 1 k.Y.n (Ws.cells L)] w') ?_ ?_
  · obtain ⟨S0, F1, hF1, hS0, hp0⟩ := startF_ex (Frz.all_at w); rw [← hF1] at hC; refine calls_T (M := fun _ => False) (hs := [.fr F1]) Tryz.func13 rfl rfl rfl hp0 ?_; refine T.seq (T.region ?_); refine TL.run 1 rfl ?_; refine TL.nil (K.seq (T.seq (T.seq (T.region ?_)))); refine TL.run 1 rfl ?_; refine TL.e (Ew.callD rfl rfl rfl (fun w' hw => missing_ret k.sp k.Y L (!m.2) w' (hs.kept hw))) ?_; rintro _ _ ⟨rfl, rfl⟩; refine TL.nil (K.seq ?_); refine T.condF rfl rfl ?_; refine T.skip (K.seq (T.seq ?_)); refine T.draw (.still 0 (.still 1 (.still 2 (.still 3 (.still 4 (.still 5 (.still 6 (.still 7 (.still 9 (.still 10 (.still 11 (.still 12 (.eff 8 (.still 13 (.eff 14 (.still 15 .done)))))))))))))))) [.fr F1] (by kernel_rfl) (List.Sublist.refl _) ?_; refine TS.run 2 rfl ?_; refine TS.y rfl (Yv.fieldAddr rfl rfl) ?_; refine TS.y rfl (Yv.loadB rfl rfl (cell_of_row (i := 0) hr rfl) (fun h => h)) ?_; refine TS.run 2 rfl ?_; refine TS.y rfl (Yv.fieldAddr rfl rfl) ?_; refine TS.y rfl (Yv.loadB rfl rfl (cell_of_row (i := 1) hr rfl) (fun h => h)) ?_; refine TS.run 2 rfl ?_; refine TS.y rfl (Yv.fieldAddr rfl rfl) ?_; refine TS.y rfl (Yv.loadB rfl rfl (cell_of_row (i := 2) hr rfl) (fun h => h)) ?_; refine TS.slNil 73 1 ?_; refine TS.eff ?_; refine TSo.ewG rfl (Wt.none rfl) rfl rfl (Ew.appendS 0 1 (F := F1) (k' := k.Y.n) (l' := Ws.cells L) (one_map (enc := Le) (fun x => inferInstanceAs (OneCs [U x]))) rfl rfl rfl rfl rfl hC (by rw [List.length_map, h.len]; omega) (by rw [List.nil_append, ← List.flatMap_def, le_cells]) (by omega) (by decide)) ?_; rintro v' _ ⟨hv', rfl⟩; refine ⟨fun w hw => hw.sub (List.sublist_cons_self _ _), ?_⟩; refine TS.y rfl (Yv.build rfl rfl) ?_; refine TS.eff ?_; refine TSo.ewG rfl (Wt.none rfl) rfl rfl (Ew.boxA rfl rfl) ?_; rintro _ _ ⟨g, rfl, rfl⟩; refine ⟨fun w hw => hw.sub (by repeat first | exact S0 | exact S1 | refine S2 ?_ | refine S3 ?_), ?_⟩; refine TS.run 1 rfl ?_; refine TS.done ?_; refine K.seq (T.ret ?_); exact K.ret1 rfl rfl (fun w' hw => ⟨(g, v'), hv', rfl, hw.sub (by repeat first | exact S0 | exact S1 | refine S2 ?_ | refine S3 ?_)⟩)
  · rintro e w' ⟨⟨g, v'⟩, hv', rfl, hw⟩; refine ⟨({ k with sp := g }, v'), F, ⟨h.sp g, tf⟩, rfl, ⟨Frz.Le.refl _, hF.below hw.isBelow, ?_, fun g hg => .inl hg, fun e he q hq hS => ?_⟩⟩
    · rw [fps_nil]; exact bag_new hw
    · simp at he; subst he; have h2 := (bag_new hw).new _ (by simp) q hq; have := (hF.cb hS).lt; rcases h2 with h2 | h2
      · exact h2
      · omega
end
end Go.Proofs.YtljgejbmimapdaaGreatDoor
namespace Go.Proofs.YtljgejbmimapdaaGreatDoor
open Go.RowKit
def nv : Value := .slice none 0 0
def Y0 : Tb := ⟨[1, 2, 3], ixAt (smp nv nv nv).ds 3, 7, [], (smp nv nv nv).psA 2, [], (smp nv nv nv).csA 1, [], (smp nv nv nv).inA 2, [], (smp nv nv nv).ouA 2⟩
section
variable {a b c : Value} {Y : Tb} (h : TbOf (smp a b c) Y)
include h
theorem sm_ps : Y.ps = Y0.ps := h.ps.trans rfl
theorem sm_cs : Y.cs = Y0.cs := h.cs.trans rfl
theorem sm_in : Y.inn = Y0.inn := h.inn.trans rfl
theorem sm_out : Y.out = Y0.out := h.out.trans rfl
theorem sm_n : Y.n = 3 := h.n
theorem sm_gone (L : Ws) (i : Nat) : goneF Y L i = goneF Y0 L i := by
  have h1 := sm_ps h; have h2 := sm_cs h; have h3 := sm_in h; have h4 := sm_out h; (have e1 : pairsF Y L i = pairsF Y0 L i := by unfold pairsF; rw [h1]); (have e2 : capsF Y L i = capsF Y0 L i := by unfold capsF; rw [h2, h3])
  have e3 : loadsF Y L i = loadsF Y0 L i := by
    unfold loadsF; rw [h4]; apply foldl_congr'; intro x _ s; unfold loadStep; rw [h2, h3]
  unfold goneF; rw [e1, e2, e3]
end
def l0 : Ws := [49152#64, 49152#64, 114688#64]
def k1 : Ws := [16384#64, 32768#64, 65536#64]
theorem sm_left (a b c : Value) : (smp a b c).left = l0 := by
  show [maskOf [14, 15], maskOf [14, 15], maskOf [14, 15, 16]] = l0
  decide
theorem sm_ok (a b c : Value) : (smp a b c).ok = true := by
  have e : (smp a b c).ok = (smp nv nv nv).ok := rfl; rw [e]; decide +kernel
theorem closed0 : ∀ i, i < 3 → nth l0 i ≠ 0#64 ∧ nth l0 i &&& goneF Y0 l0 i = 0#64 := by decide +kernel
theorem closed1 : ∀ i, i < 3 → nth k1 i ≠ 0#64 ∧ nth k1 i &&& goneF Y0 k1 i = 0#64 := by decide +kernel
def stepG (L : Ws) (i : Nat) : Ws := L.set i (nth L i &&& ~~~(goneF Y0 L i))
def t1 : Ws := [16384#64, 49152#64, 114688#64]
def t3 : Ws := [49152#64, 49152#64, 32768#64]
theorem steps1 : stepG (stepG t1 1) 2 = k1 := by decide +kernel
theorem steps3 : nth (stepG (stepG t3 1) 0) 0 = 0#64 := by decide +kernel
section
variable {a b c : Value} {Y : Tb} (h : TbOf (smp a b c) Y)
include h
theorem sm_tok : Y.Ok := h.ok (Pb.good (sm_ok a b c))
theorem sm_closed {K : Ws} (hl : K.length = 3) (hc : ∀ i, i < 3 → nth K i ≠ 0#64 ∧ nth K i &&& goneF Y0 K i = 0#64) : Closed Y K := ⟨by rw [hl, sm_n h], fun i hi => by
  rw [sm_n h] at hi; have := hc i hi
  exact ⟨this.1, by rw [sm_gone h]; exact this.2⟩⟩
theorem sm_reach {T M : Ws} {i : Nat} (hr : Reach Y T M) (hi : i < 3) : Reach Y T (stepG M i) := by
  unfold stepG; rw [← sm_gone h]; exact .step hr (by rw [sm_n h]; exact hi) (fun _ hj => hj)
theorem sm_new {L : Ws} {d : Bool} (hI : Is Y (smp a b c).left L d) : L = l0 ∧ d = false := by
  rw [sm_left] at hI; exact hI.eq (sm_tok h) (sm_closed h rfl closed0) .refl
theorem sm_check {x : Ch} : checkF Y false x = checkF Y0 false x := by
  unfold checkF atF; rw [h.ix]; rfl
theorem sm_asm1 : asm Y (smp a b c).left ⟨1, 14⟩ = t1 := by
  unfold asm; rw [sm_check h, sm_left]; decide +kernel
theorem sm_asm3 : asm Y (smp a b c).left ⟨3, 15⟩ = t3 := by
  unfold asm; rw [sm_check h, sm_left]; decide +kernel
theorem sm_fbd1 : fbd Y (smp a b c).left ⟨1, 15⟩ = t1 := by
  unfold fbd; rw [sm_check h, sm_left]; decide +kernel
theorem sm_one {L : Ws} {d : Bool} (hI : Is Y t1 L d) : L = k1 ∧ d = false := by
  refine hI.eq (sm_tok h) (sm_closed h rfl closed1) ?_; rw [← steps1]; exact sm_reach h (sm_reach h .refl (by decide)) (by decide)
theorem sm_three {L : Ws} {d : Bool} (hI : Is Y t3 L d) : d = true :=
  hI.conflict (sm_tok h) (i := 0) (by rw [sm_n h]; decide) steps3 (sm_reach h (sm_reach h .refl (by decide)) (by decide))
theorem sm_total : Y.total = 7 := h.total.trans rfl
theorem sm_st : Y.st = [1, 2, 3] := h.st.trans rfl
theorem sm_doms0 : domsF Y l0 Y.n = [(1, [14, 15]), (2, [14, 15]), (3, [14, 15, 16])] := by
  unfold domsF; rw [sm_n h, sm_st h]; (have e : ∀ m : BitVec 64, chansN m = (List.range' 0 64).filter m.getLsbD := fun m => by unfold chansN; rfl); simp only [e]
  decide +kernel
theorem sm_doms1 : domsF Y k1 Y.n = [(1, [14]), (2, [15]), (3, [16])] := by
  unfold domsF; rw [sm_n h, sm_st h]; (have e : ∀ m : BitVec 64, chansN m = (List.range' 0 64).filter m.getLsbD := fun m => by unfold chansN; rfl); simp only [e]
  decide +kernel
theorem sm_fix1 : fixF Y k1 Y.n = [⟨1, 14⟩, ⟨2, 15⟩, ⟨3, 16⟩] := by
  unfold fixF; rw [sm_n h, sm_st h]; decide +kernel
theorem sm_rem0 : removedF Y l0 false = 0 := by unfold removedF; rw [sm_total h]; decide +kernel
theorem sm_rem1 : removedF Y k1 false = 4 := by unfold removedF; rw [sm_total h]; decide +kernel
end
theorem dfix_pl (xs : List Dx) : dfix xs xs.length = ((xs.map Dx.pl).filter fun p => decide (p.2.length = 1)).map fun p => ⟨p.1, nth p.2 0⟩ := by
  unfold dfix; rw [List.take_length, List.filter_map, List.map_map]
  rfl
theorem pl_len {xs : List Dx} {l : List (Int × List Int)} (h : xs.map Dx.pl = l) : xs.length = l.length := by rw [← h, List.length_map]
theorem pl_chs {xs : List Dx} {l : List (Int × List Int)} (h : xs.map Dx.pl = l) (n : Nat) (hl : ∀ p ∈ l, p.2.length ≤ n) : ∀ d ∈ xs, d.chs.length ≤ n := fun d hd => hl (Dx.pl d) (by rw [← h]; exact List.mem_map.2 ⟨d, hd, rfl⟩)
def want : List Ch := [⟨1, 14⟩, ⟨2, 15⟩, ⟨3, 16⟩]
end Go.Proofs.YtljgejbmimapdaaGreatDoor
namespace Go.Proofs.YtljgejbmimapdaaGreatDoor
open Go.RowKit
theorem known_ret (w : World) (htab : Tab w) : Calls Tryz.prog 5 #[] w fun e w' => e = .returned (.bool true) ∧ Below w.heap.size w w' := by
  refine calls_T (M := fun _ => False) (hs := []) Tryz.func5 rfl rfl rfl (Hp.refl _ _) ?_; refine T.seq (T.region ?_); refine TL.run 1 rfl ?_; refine TL.nil (K.seq (T.seq (T.region ?_))); (refine TL.ew (Wt.none rfl) rfl rfl (Ew.callH rfl rfl rfl (fun w hw => sample_ret _)) ?_; rintro _ _ ⟨s1, -, rfl, rfl⟩); (refine TL.ew (Wt.none rfl) rfl rfl (Ew.callH rfl rfl rfl (fun w hw => new_ok s1.pb _ _ _ _ w (s1.prob hw) (htab.keptF hw) (sm_ok _ _ _))) ?_; rintro _ _ ⟨⟨g1, gl, tp, Y, L0, c0, w0⟩, hN, rfl, rfl⟩); dsimp only at hN; dsimp only [List.cons_append, List.nil_append]; have hTb := hN.tb; have hYok := sm_tok hTb; have hYn := sm_n hTb; have hI0 := hN.is (Pb.good (sm_ok _ _ _)); obtain ⟨rfl, rfl⟩ := sm_new hTb hI0; have hT := hN.at'; rw [show s1.pb.ds.length = 3 from rfl]; refine TL.run 5 rfl ?_; refine TL.nil (K.seq (T.seq (T.seq (T.region ?_)))); refine TL.run 1 rfl ?_; refine TL.y (Yv.binR rfl rfl rfl (eq46s _ _ _)) ?_; refine TL.run 1 rfl ?_; refine TL.yv (Wt.some rfl rfl rfl rfl) rfl rfl (Yv.pur rfl) ?_; refine TL.yv (Wt.some rfl rfl rfl rfl) rfl rfl (Yv.pur rfl) ?_; refine TL.run 2 rfl ?_; refine TL.yv (Wt.some rfl rfl rfl rfl) rfl rfl (Yv.pur rfl) ?_; (refine TL.ew (Wt.some rfl rfl rfl rfl) rfl rfl (Ew.callD rfl rfl rfl (fun w hw => removed_ret g1 Y l0 false w (StF.of (Y := Y) hw hT (Ent.fz_ok.1 (hw.own (Ent.fz w0) (by simp))) (htab.keptF hw) 0 1 (by rw [hYn]; rfl) (by rw [hYn]; rfl) (by rw [hYn]; rfl)).st hYok (by rw [sm_total hTb]; decide))) ?_; rintro _ _ ⟨rfl, rfl⟩); rw [sm_rem0 hTb]; refine TL.yv (Wt.some rfl rfl rfl rfl) rfl rfl (Yv.pur rfl) ?_; refine TL.run 2 rfl ?_; refine TL.yv (Wt.some rfl rfl rfl rfl) rfl rfl (Yv.pur rfl) ?_; (refine TL.ew (Wt.some rfl rfl rfl rfl) rfl rfl (Ew.callH rfl rfl rfl (fun w hw => domains_ok g1 Y l0 w (StF.of (Y := Y) hw hT (Ent.fz_ok.1 (hw.own (Ent.fz w0) (by simp))) (htab.keptF hw) 0 1 (by rw [hYn]; rfl) (by rw [hYn]; rfl) (by rw [hYn]; rfl)).st hYok)) ?_; rintro _ _ ⟨y24, hd24, rfl, rfl⟩); dsimp only [List.cons_append, List.nil_append]; rw [sm_doms0 hTb] at hd24; (refine TL.ew (Wt.some rfl rfl rfl rfl) rfl rfl (Ew.callH rfl rfl rfl (fun w hw => sample_ret _)) ?_; rintro _ _ ⟨s2, -, rfl, rfl⟩); refine TL.yv (Wt.some rfl rfl rfl rfl) rfl rfl (Yv.field rfl rfl rfl) ?_; (refine TL.ew (Wt.some rfl rfl rfl rfl) rfl rfl (Ew.callD rfl rfl rfl (fun w hw => sameDomains_ret y24.2 s2.pb.ds _ _ w (DomsAt.own hw 7 8 rfl rfl) (s2.prob hw).ds (by rw [pl_len hd24]; decide) (pl_chs hd24 _ (by decide)))) ?_; rintro _ _ ⟨rfl, rfl⟩); rw [show decide (y24.2.map Dx.pl = s2.pb.ds.map Dx.pl) = true from decide_eq_true (by rw [hd24]; rfl)]; refine TL.yv (Wt.some rfl rfl rfl rfl) rfl rfl (Yv.pur rfl) ?_; refine TL.run 1 rfl ?_; refine TL.nil (K.seq ?_); refine T.condF rfl rfl ?_; refine T.skip (K.seq (T.seq ?_)); refine T.weaken (hs' := [sRow g1 gl tp 3 false, sLeft gl 3 l0, Ent.fz w0]) Sub.refl (by repeat first | exact S0 | exact S1 | refine S2 ?_ | refine S3 ?_) ?_; refine T.region ?_; (refine TL.ew (Wt.none rfl) rfl rfl (Ew.callH rfl rfl rfl (fun w hw => sample_ret _)) ?_; rintro _ _ ⟨s3, -, rfl, rfl⟩); refine TL.y (Yv.build rfl rfl) ?_; (refine TL.ew (Wt.none rfl) rfl rfl (Ew.buildSlice rfl rfl rfl (by decide)) ?_; rintro _ _ ⟨g33, rfl, rfl⟩); (refine TL.ew (Wt.none rfl) rfl rfl (Ew.callH rfl rfl rfl (fun w hw => run_fine s3.pb _ _ _ _ ⟨1, 14⟩ _ w (s3.prob (by exact hw.sub (List.sublist_cons_self _ _))) (SlOf.lit (enc := Ch.cells) (size := 2) (fun _ => rfl) [⟨1, 14⟩] (Ent.row_ok.1 (hw.get (i := 0) rfl)) rfl rfl) (htab.keptF hw) (sm_ok _ _ _) (by decide) (fun Z hZ => by rw [sm_check hZ]; decide +kernel) (fun Z K d hZ hI => (sm_new hZ hI).2) (fun Z K d hZ hI => by rw [show s3.pb.left = (smp _ _ _).left from rfl, sm_asm1 hZ] at hI; exact (sm_one hZ hI).2))) ?_; rintro _ _ ⟨y34, ⟨Y1, L1, hT1, hI1, hd1⟩, rfl, rfl⟩); dsimp only [List.cons_append, List.nil_append]; (have hL1 : L1 = k1 := by rw [show s3.pb.left = (smp _ _ _).left from rfl, sm_asm1 hT1] at hI1; exact (sm_one hT1 hI1).1); subst hL1; rw [sm_doms1 hT1] at hd1; have hlen34 : y34.2.length = 3 := pl_len hd1; refine TL.run 7 rfl ?_; refine TL.nil (K.seq (T.seq ?_)); refine T.weaken (hs' := [.sl y34.1 57 2 y34.2.length (y34.2.flatMap Dx.cells), .bag (y34.2.map dE), sRow g1 gl tp 3 false, sLeft gl 3 l0, Ent.fz w0]) Sub.refl (by repeat first | exact S0 | exact S1 | refine S2 ?_ | refine S3 ?_) ?_; refine T.region ?_; refine TL.y (Yv.build rfl rfl) ?_; refine TL.y (Yv.build rfl rfl) ?_; refine TL.y (Yv.build rfl rfl) ?_; (refine TL.ew (Wt.none rfl) rfl rfl (Ew.buildSlice rfl rfl rfl (by decide)) ?_; rintro _ _ ⟨g41, rfl, rfl⟩); refine TL.run 1 rfl ?_; refine TL.nil (K.seq (T.seq (T.seq (T.region ?_)))); refine TL.run 3 rfl ?_; refine TL.yv (Wt.some rfl rfl rfl rfl) rfl rfl (Yv.pur rfl) ?_; refine TL.run 2 rfl ?_; refine TL.yv (Wt.some rfl rfl rfl rfl) rfl rfl (Yv.pur rfl) ?_; refine TL.yv (Wt.some rfl rfl rfl rfl) rfl rfl (Yv.lenE 1 rfl rfl rfl) ?_; refine TL.yv (Wt.some rfl rfl rfl rfl) rfl rfl (Yv.pur rfl) ?_; refine TL.run 2 rfl ?_; refine TL.yv (Wt.some rfl rfl rfl (by rw [hlen34]; rfl)) rfl rfl (Yv.pur rfl) ?_; (refine TL.ew (Wt.some rfl rfl rfl (by rw [hlen34]; rfl)) rfl rfl (Ew.callH rfl rfl rfl (fun w hw => dfixed_ret y34.2 _ w (DomsAt.own hw 1 2 rfl rfl) (by omega))) ?_; rintro v54 _ ⟨_, -, rfl, rfl⟩); dsimp only [List.cons_append, List.nil_append]; rw [show dfix y34.2 y34.2.length = want from by rw [dfix_pl, hd1]; decide]; refine TL.yv (Wt.some rfl rfl rfl (by rw [hlen34]; rfl)) rfl rfl (Yv.pur rfl) ?_; (refine TL.ew (Wt.some rfl rfl rfl (by rw [hlen34]; rfl)) rfl rfl (Ew.callD rfl rfl rfl (fun w hw => sameList_ret want want _ _ w (SlOf.ownAt (enc := Ch.cells) (fun _ => rfl) hw 0 rfl rfl) (SlOf.lit (enc := Ch.cells) (size := 2) (fun _ => rfl) want (Ent.row_ok.1 (hw.get (i := 1) rfl)) rfl rfl) (by decide))) ?_; rintro _ _ ⟨rfl, rfl⟩); rw [show decide (want = want) = true from decide_eq_true rfl]; refine TL.yv (Wt.some rfl rfl rfl (by rw [hlen34]; rfl)) rfl rfl (Yv.pur rfl) ?_; refine TL.y (Yv.pickF rfl rfl (by rw [hlen34]; rfl) rfl) ?_; refine TL.nil (K.seq ?_); refine T.condF rfl rfl ?_; refine T.skip (K.seq (T.seq ?_)); refine T.weaken (hs' := [.row g41 46 (want.flatMap Ch.cells), sRow g1 gl tp 3 false, sLeft gl 3 l0, Ent.fz w0]) Sub.refl (by repeat first | exact S0 | exact S1 | refine S2 ?_ | refine S3 ?_) ?_; refine T.region ?_; (refine TL.ew (Wt.none rfl) rfl rfl (Ew.callH rfl rfl rfl (fun w hw => sample_ret _)) ?_; rintro _ _ ⟨s4, -, rfl, rfl⟩); refine TL.y (Yv.build rfl rfl) ?_; (refine TL.ew (Wt.none rfl) rfl rfl (Ew.buildSlice rfl rfl rfl (by decide)) ?_; rintro _ _ ⟨g62, rfl, rfl⟩); (refine TL.ew (Wt.none rfl) rfl rfl (Ew.callD rfl rfl rfl (fun w hw => run_conf s4.pb _ _ _ _ ⟨3, 15⟩ _ w (s4.prob (by exact hw.sub (List.sublist_cons_self _ _))) (SlOf.lit (enc := Ch.cells) (size := 2) (fun _ => rfl) [⟨3, 15⟩] (Ent.row_ok.1 (hw.get (i := 0) rfl)) rfl rfl) (htab.keptF hw) (sm_ok _ _ _) (by decide) (fun Z hZ => by rw [sm_check hZ]; decide +kernel) (fun Z K d hZ hI => (sm_new hZ hI).2) (fun Z K d hZ hI => by rw [show s4.pb.left = (smp _ _ _).left from rfl, sm_asm3 hZ] at hI; exact sm_three hZ hI))) ?_; rintro _ _ ⟨rfl, rfl⟩); refine TL.run 7 rfl ?_; refine TL.nil (K.seq (T.seq ?_)); refine T.weaken (hs' := [.row g41 46 (want.flatMap Ch.cells), sRow g1 gl tp 3 false, sLeft gl 3 l0, Ent.fz w0]) Sub.refl (by repeat first | exact S0 | exact S1 | refine S2 ?_ | refine S3 ?_) ?_; refine T.permH (List.perm_append_comm (l₁ := [Ent.row g41 46 (want.flatMap Ch.cells)])) ?_; dsimp only [List.cons_append, List.nil_append]; refine T.region ?_; refine TL.run 3 rfl ?_; refine TL.yv (Wt.some rfl rfl rfl rfl) rfl rfl (Yv.pur rfl) ?_; refine TL.run 2 rfl ?_; refine TL.yv (Wt.some rfl rfl rfl rfl) rfl rfl (Yv.pur rfl) ?_; refine TL.yv (Wt.some rfl rfl rfl rfl) rfl rfl (Yv.lenSl rfl rfl) ?_; refine TL.yv (Wt.some rfl rfl rfl rfl) rfl rfl (Yv.pur rfl) ?_; refine TL.run 2 rfl ?_; refine TL.yv (Wt.some rfl rfl rfl rfl) rfl rfl (Yv.pur rfl) ?_; refine TL.yv (Wt.some rfl rfl rfl rfl) rfl rfl (Yv.build rfl rfl) ?_; rw [← hYn]; (refine TL.ew (Wt.some rfl rfl rfl rfl) rfl rfl (Ew.callL [sRow g1 gl tp Y.n false, sLeft gl Y.n l0] [Ent.fz w0, Ent.row g41 46 (want.flatMap Ch.cells)] rfl rfl rfl (List.Perm.refl _) (fun w hw hw2 => forbid_ok w0 g1 gl tp Y l0 w hT hYok (Ent.fz_ok.1 (hw2.own (Ent.fz w0) (by simp))) (htab.keptF hw) hw2.part (fun g hg hc => hw2.sep (f := Ent.fz w0) (by simp) g hg (Ent.fz_fp.2 hc)) (hw2.no0 htab) (by rw [hYn]; rfl) (sm_closed hTb rfl closed0).calm hTb.ixn ⟨1, 15⟩ (by rw [sm_check hTb]; decide +kernel))) ?_; rintro _ _ ⟨y80, hpost, rfl, rfl⟩); dsimp only [List.cons_append, List.nil_append]; rw [hYn]; have hI80 := hI0.cut hYok (by rw [sm_check hTb, hYn]; decide +kernel) (Is.of hYok (by unfold cutL; rw [List.length_set, hYn]; rfl) hpost); obtain ⟨L8, c8⟩ := y80; dsimp only at hI80 ⊢; (have hI81 : Is Y t1 L8 c8 := by rw [← sm_fbd1 hTb]; exact hI80); obtain ⟨rfl, rfl⟩ := sm_one hTb hI81; refine TL.yv (Wt.some rfl rfl rfl rfl) rfl rfl (Yv.pur rfl) ?_; refine TL.run 2 rfl ?_; refine TL.yv (Wt.some rfl rfl rfl rfl) rfl rfl (Yv.pur rfl) ?_; (refine TL.ew (Wt.some rfl rfl rfl rfl) rfl rfl (Ew.callH rfl rfl rfl (fun w hw => fixed_ret g1 Y k1 w (StF.of (Y := Y) hw hT (Ent.fz_ok.1 (hw.own (Ent.fz w0) (by simp))) (htab.keptF hw) 0 1 (by rw [hYn]; rfl) (by rw [hYn]; rfl) (by rw [hYn]; rfl)).st hYok)) ?_; rintro v85 _ ⟨_, -, rfl, rfl⟩); dsimp only [List.cons_append, List.nil_append]; rw [sm_fix1 hTb]; refine TL.yv (Wt.some rfl rfl rfl rfl) rfl rfl (Yv.pur rfl) ?_; (refine TL.ew (Wt.some rfl rfl rfl rfl) rfl rfl (Ew.callD rfl rfl rfl (fun w hw => sameList_ret want want _ _ w (SlOf.ownAt (enc := Ch.cells) (fun _ => rfl) hw 0 rfl rfl) (SlOf.lit (enc := Ch.cells) (size := 2) (fun _ => rfl) want (Ent.row_ok.1 (hw.get (i := 4) rfl)) rfl rfl) (by decide))) ?_; rintro _ _ ⟨rfl, rfl⟩); rw [show decide (want = want) = true from decide_eq_true rfl]; refine TL.run 2 rfl ?_; refine TL.yv (Wt.some rfl rfl rfl rfl) rfl rfl (Yv.pur rfl) ?_; (refine TL.ew (Wt.some rfl rfl rfl rfl) rfl rfl (Ew.callD rfl rfl rfl (fun w hw => removed_ret g1 Y k1 false w (StF.of (Y := Y) hw hT (Ent.fz_ok.1 (hw.own (Ent.fz w0) (by simp))) (htab.keptF hw) 1 2 (by rw [hYn]; rfl) (by rw [hYn]; rfl) (by rw [hYn]; rfl)).st hYok (by rw [sm_total hTb]; decide))) ?_; rintro _ _ ⟨rfl, rfl⟩); rw [sm_rem1 hTb]; refine TL.yv (Wt.some rfl rfl rfl rfl) rfl rfl (Yv.pur rfl) ?_; refine TL.run 2 rfl ?_; refine TL.yv (Wt.some rfl rfl rfl rfl) rfl rfl (Yv.pur rfl) ?_; (refine TL.ew (Wt.some rfl rfl rfl rfl) rfl rfl (Ew.callD rfl rfl rfl (fun w hw => conflict_ret g1 Y k1 false w (StF.of (Y := Y) hw hT (Ent.fz_ok.1 (hw.own (Ent.fz w0) (by simp))) (htab.keptF hw) 1 2 (by rw [hYn]; rfl) (by rw [hYn]; rfl) (by rw [hYn]; rfl)).st)) ?_; rintro _ _ ⟨rfl, rfl⟩); refine TL.yv (Wt.some rfl rfl rfl rfl) rfl rfl (Yv.pur rfl) ?_; refine TL.run 2 rfl ?_; refine TL.nil (K.seq (T.ret ?_)); refine K.ret1 rfl rfl (fun w' hw => ⟨?_, hw.isBelow⟩)
  rfl
end Go.Proofs.YtljgejbmimapdaaGreatDoor
