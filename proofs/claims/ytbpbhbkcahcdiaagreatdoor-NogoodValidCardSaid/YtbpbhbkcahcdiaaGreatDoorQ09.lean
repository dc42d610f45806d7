/- M13 Se M14 Ff Fo St Fv Sz Yn Sk: shortened and put together by squeeze.py. -/
import Derived.Test.YtbpbhbkcahcdiaaGreatDoorQ08
import Derived.Laws.Slices
set_option maxRecDepth 100000
set_option maxHeartbeats 4000000
set_option linter.unusedVariables false
set_option linter.unusedSectionVars false
set_option linter.unusedSimpArgs false
namespace Go.Proofs.YtbpbhbkcahcdiaaGreatDoor
open Go.RowKit
def zeL (Y : Tb) (L : Ws) (c : Bool) (x : Ch) : Bool := if c = true ∨ x.ch < 2 ∨ 51 < x.ch then false else if (atF Y x.st).2 = false then false else (nth L (atF Y x.st).1.toNat).getLsbD x.ch.toNat
theorem zjX (sp : Nat) (Y : Tb) (L : Ws) (c : Bool) (x : Ch) (w : World) (h : StateAt w sp Y L c) (hok : Y.Ok) (hix : ∀ j, 0 ≤ Y.ix j ∧ Y.ix j ≤ Y.n) : Calls Tryz.prog 102 #[.pointer (some ⟨sp, 0, none⟩), .agg (Ch.cells x).toArray] w fun e w' => e = .returned (.bool (zeL Y L c x)) ∧ Below w.heap.size w w' := by
  obtain ⟨tp, hsp0, hT⟩ := h.tb; obtain ⟨vL, hsp1, hL⟩ := h.left; obtain ⟨AL, capL, rfl, hLs⟩ := hL.op; have hLn := h.len; have hcon := h.con; refine zad (M := fun _ => False) (hs := []) Tryz.func102 rfl rfl rfl (Hp.refl _ _) ?_; simp only [Ch.cells]; refine T.seq (T.region ?_); (refine TL.ew (Wt.none rfl) rfl rfl (Ew.aB rfl rfl) ?_; rintro _ _ ⟨g3, rfl, rfl⟩); refine TL.run 1 rfl ?_; refine TL.nil (K.seq (T.seq (T.seq (T.region ?_)))); refine TL.run 1 rfl ?_; (refine TL.ew (Wt.none rfl) rfl rfl (Ew.af rfl rfl rfl (fun w hw => zbs sp Y L c w (h.kept hw))) ?_; rintro _ _ ⟨rfl, rfl⟩); refine TL.run 1 rfl ?_; refine TL.yv (Wt.some rfl rfl rfl rfl) rfl rfl (Yv.ax rfl) ?_; refine TL.yv (Wt.some rfl rfl rfl rfl) rfl rfl (Yv.ax rfl) ?_; refine TL.yv (Wt.some rfl rfl rfl rfl) rfl rfl (Yv.fieldAddr rfl rfl) ?_; refine TL.yv (Wt.some rfl rfl rfl rfl) rfl rfl (Yv.as rfl rfl hcon (fun h => h)) ?_; refine TL.run 2 rfl ?_; refine TL.an rfl rfl rfl (fun h1 => ?_) (fun h1 => ?_)
  · have p1 := h1; (try simp only [nfB] at p1); refine TL.off (Wt.not rfl rfl rfl h1) rfl rfl ?_; refine TL.off (Wt.not rfl rfl rfl h1) rfl rfl ?_; refine TL.off (Wt.not rfl rfl rfl h1) rfl rfl ?_; refine TL.y (Yv.aq rfl rfl h1 rfl) ?_; refine TL.run 5 rfl ?_; refine TL.nil (K.seq ?_); refine T.aK rfl rfl ?_; refine T.seq (T.region ?_); refine TL.run 1 rfl ?_; refine TL.nil (K.seq (T.ret (K.aa ?_))); refine K.ag rfl rfl (fun w' hw => ⟨?_, hw.isBelow⟩); exact zae (by rw [zeL, if_pos (by first | (left; assumption) | (right; omega))])
  · have p1 := h1; (try simp only [nfB] at p1); refine TL.yv (Wt.some rfl rfl rfl h1) rfl rfl (Yv.fieldAddr rfl rfl) ?_; refine TL.yv (Wt.some rfl rfl rfl h1) rfl rfl (Yv.ab 0 rfl rfl rfl rfl) ?_; refine TL.yv (Wt.some rfl rfl rfl h1) rfl rfl (Yv.ax rfl) ?_; refine TL.y (Yv.ar rfl rfl h1 rfl) ?_; refine TL.run 1 rfl ?_; refine TL.an rfl rfl rfl (fun h2 => ?_) (fun h2 => ?_)
    · have p2 := h2; (try simp only [nfB] at p2); refine TL.off (Wt.not rfl rfl rfl h2) rfl rfl ?_; refine TL.off (Wt.not rfl rfl rfl h2) rfl rfl ?_; refine TL.off (Wt.not rfl rfl rfl h2) rfl rfl ?_; refine TL.y (Yv.aq rfl rfl h2 rfl) ?_; refine TL.nil (K.seq ?_); refine T.aK rfl rfl ?_; refine T.seq (T.region ?_); refine TL.run 1 rfl ?_; refine TL.nil (K.seq (T.ret (K.aa ?_))); refine K.ag rfl rfl (fun w' hw => ⟨?_, hw.isBelow⟩); exact zae (by rw [zeL, if_pos (by first | (left; assumption) | (right; omega))])
    · have p2 := h2; (try simp only [nfB] at p2); refine TL.yv (Wt.some rfl rfl rfl h2) rfl rfl (Yv.fieldAddr rfl rfl) ?_; refine TL.yv (Wt.some rfl rfl rfl h2) rfl rfl (Yv.ab 0 rfl rfl rfl rfl) ?_; refine TL.yv (Wt.some rfl rfl rfl h2) rfl rfl (Yv.ax rfl) ?_; refine TL.y (Yv.ar rfl rfl h2 rfl) ?_; refine TL.nil (K.seq ?_); refine T.cond rfl (fun h3 => ?_) (fun h3 => ?_)
      · have p3 := h3; (try simp only [nfB] at p3); refine T.seq (T.region ?_); refine TL.run 1 rfl ?_; refine TL.nil (K.seq (T.ret (K.aa ?_))); refine K.ag rfl rfl (fun w' hw => ⟨?_, hw.isBelow⟩); exact zae (by rw [zeL, if_pos (by first | (left; assumption) | (right; omega))])
      · have p3 := h3; (try simp only [nfB] at p3); refine T.skip (K.seq (T.seq ?_)); refine T.aw (.still 0 (.still 1 (.still 2 (.still 3 (.still 4 (.still 5 (.eff 6 (.still 7 (.still 8 (.still 9 (.still 10 (.still 11 .done)))))))))))) _ (by kernel_rfl) (List.Sublist.refl _) ?_; refine TS.run 2 rfl ?_; refine TS.y rfl (Yv.fieldAddr rfl rfl) ?_; refine TS.y rfl (Yv.as rfl rfl hsp0 (fun h => h)) ?_; refine TS.y rfl (Yv.fieldAddr rfl rfl) ?_; refine TS.y rfl (Yv.ab 0 rfl rfl rfl rfl) ?_; refine TS.eff ?_; (refine TSo.ew rfl (Wt.none rfl) rfl rfl (Ew.af rfl rfl rfl (fun w hw => zkE tp Y x.st w (hT.later (Fz.of_below hw.isBelow)) (Y.ix512 hok hix))) ?_; rintro _ _ ⟨rfl, rfl⟩; refine ⟨(by repeat first | exact S0 | exact S1 | refine S2 ?_ | refine S3 ?_), ?_⟩); refine TS.run 5 rfl ?_; refine TS.done ?_; refine K.seq (T.seq ?_); refine T.aw (.still 0 (.still 1 (.still 2 (.still 3 (.still 4 (.still 5 (.still 6 (.still 7 (.still 8 (.still 9 (.still 10 (.still 11 (.still 12 (.still 13 (.still 14 (.still 15 .done)))))))))))))))) _ (by kernel_rfl) (List.Sublist.refl _) ?_; refine TS.run 2 rfl ?_; refine TS.an rfl rfl rfl rfl (fun h4 => ?_) (fun h4 => ?_)
        · have p4 := h4; (try simp only [nfB] at p4); (try (have hat := zfW hix (s := x.st) (by assumption); obtain ⟨gL, oL, rfl, hc⟩ := hLs (by omega); have hk := hc (atF Y x.st).1.toNat (by omega); simp only [Le] at hk)); refine TS.still rfl (Wt.some rfl rfl rfl h4) rfl rfl (Yv.ax rfl) ?_; refine TS.still rfl (Wt.some rfl rfl rfl h4) rfl rfl (Yv.ax rfl) ?_; refine TS.still rfl (Wt.some rfl rfl rfl h4) rfl rfl (Yv.fieldAddr rfl rfl) ?_; refine TS.still rfl (Wt.some rfl rfl rfl h4) rfl rfl (Yv.as rfl rfl hsp1 (fun h => h)) ?_; refine TS.still rfl (Wt.some rfl rfl rfl h4) rfl rfl (Yv.ax rfl) ?_; refine TS.still rfl (Wt.some rfl rfl rfl h4) rfl rfl (Yv.ai rfl rfl rfl (show (atF Y x.st).1 = (((atF Y x.st).1.toNat : Nat) : Int) from by omega) (by omega)) ?_; refine TS.still rfl (Wt.some rfl rfl rfl h4) rfl rfl (Yv.loadC (j := 0) rfl rfl hk rfl rfl (fun h => h)) ?_; refine TS.still rfl (Wt.some rfl rfl rfl h4) rfl rfl (Yv.fieldAddr rfl rfl) ?_; refine TS.still rfl (Wt.some rfl rfl rfl h4) rfl rfl (Yv.ab 0 rfl rfl rfl rfl) ?_; refine TS.still rfl (Wt.some rfl rfl rfl h4) rfl rfl (Yv.aY x.ch.toNat rfl rfl rfl (by omega) (by omega)) ?_; refine TS.still rfl (Wt.some rfl rfl rfl h4) rfl rfl (Yv.aX (b := 1#64) rfl rfl rfl) ?_; refine TS.still rfl (Wt.some rfl rfl rfl h4) rfl rfl (Yv.ax rfl) ?_; refine TS.y rfl (Yv.aq rfl rfl h4 rfl) ?_; refine TS.run 1 rfl ?_; refine TS.done ?_; refine K.seq (T.ret ?_); refine K.ag rfl rfl (fun w' hw => ⟨?_, hw.isBelow⟩); exact zae (by rw [zeL, if_neg (fun h => by rcases h with h | h | h; (rw [p1] at h; cases h); omega; omega), if_neg (by rw [p4]; simp), zgq])
        · have p4 := h4; (try simp only [nfB] at p4); (try (have hat := zfW hix (s := x.st) (by assumption); obtain ⟨gL, oL, rfl, hc⟩ := hLs (by omega); have hk := hc (atF Y x.st).1.toNat (by omega); simp only [Le] at hk)); refine TS.aI rfl (Wt.not rfl rfl rfl h4) rfl rfl ?_; refine TS.aI rfl (Wt.not rfl rfl rfl h4) rfl rfl ?_; refine TS.aI rfl (Wt.not rfl rfl rfl h4) rfl rfl ?_; refine TS.aI rfl (Wt.not rfl rfl rfl h4) rfl rfl ?_; refine TS.aI rfl (Wt.not rfl rfl rfl h4) rfl rfl ?_; refine TS.aI rfl (Wt.not rfl rfl rfl h4) rfl rfl ?_; refine TS.aI rfl (Wt.not rfl rfl rfl h4) rfl rfl ?_; refine TS.aI rfl (Wt.not rfl rfl rfl h4) rfl rfl ?_; refine TS.aI rfl (Wt.not rfl rfl rfl h4) rfl rfl ?_; refine TS.aI rfl (Wt.not rfl rfl rfl h4) rfl rfl ?_; refine TS.aI rfl (Wt.not rfl rfl rfl h4) rfl rfl ?_; refine TS.aI rfl (Wt.not rfl rfl rfl h4) rfl rfl ?_; refine TS.y rfl (Yv.ar rfl rfl h4 rfl) ?_; refine TS.run 1 rfl ?_; refine TS.done ?_; refine K.seq (T.ret ?_); refine K.ag rfl rfl (fun w' hw => ⟨?_, hw.isBelow⟩); exact zae (by rw [zeL, if_neg (fun h => by rcases h with h | h | h; (rw [p1] at h; cases h); omega; omega), if_pos (by assumption)])
theorem zix (sp : Nat) (Y : Tb) (L : Ws) (w : World) (h : StateAt w sp Y L true) : Calls Tryz.prog 101 #[.pointer (some ⟨sp, 0, none⟩)] w fun e w' => e = .returned (.slice none 0 0) ∧ Below w.heap.size w w' := by
  have hcon := h.con; refine zad (M := fun _ => False) (hs := []) Tryz.func101 rfl rfl rfl (Hp.refl _ _) ?_; refine T.seq (T.region ?_); refine TL.run 1 rfl ?_; refine TL.nil (K.seq (T.seq (T.seq (T.region ?_)))); refine TL.run 1 rfl ?_; (refine TL.ew (Wt.none rfl) rfl rfl (Ew.af rfl rfl rfl (fun w hw => zbs sp Y L true w (h.kept hw))) ?_; rintro _ _ ⟨rfl, rfl⟩); refine TL.run 1 rfl ?_; refine TL.yv (Wt.some rfl rfl rfl rfl) rfl rfl (Yv.ax rfl) ?_; refine TL.yv (Wt.some rfl rfl rfl rfl) rfl rfl (Yv.ax rfl) ?_; refine TL.yv (Wt.some rfl rfl rfl rfl) rfl rfl (Yv.fieldAddr rfl rfl) ?_; refine TL.yv (Wt.some rfl rfl rfl rfl) rfl rfl (Yv.as rfl rfl hcon (fun h => h)) ?_; refine TL.run 1 rfl ?_; refine TL.nil (K.seq ?_); refine T.aK rfl rfl ?_; refine T.seq (T.region ?_); refine TL.run 1 rfl ?_; refine TL.nil (K.seq (T.ret (K.aa ?_))); refine K.ag rfl rfl (fun w' hw => ⟨?_, hw.isBelow⟩)
  rfl
end Go.Proofs.YtbpbhbkcahcdiaaGreatDoor
namespace Go.Proofs.YtbpbhbkcahcdiaaGreatDoor
open Go.RowKit
def fixD (d : List GDomain) : List GChoice := (d.filter fun x => decide (x.Channels.length = 1)).map fun x => ⟨x.Station, nth x.Channels 0⟩
def zcb (m : List GDomain × Bool) : List GChoice := bif m.2 then fixD m.1 else []
def ziL (m : List GDomain × Bool) (c : GChoice) : Bool := m.2 && m.1.any fun x => decide (x.Station = c.Station) && x.Channels.any fun k => decide (k = c.Channel)
theorem zjC {d : List GDomain} {x : GDomain} : fixD (d ++ [x]) = fixD d ++ (if x.Channels.length = 1 then [⟨x.Station, nth x.Channels 0⟩] else []) := by
  unfold fixD; rw [List.filter_append, List.map_append]
  congr 1
  by_cases h : x.Channels.length = 1 <;> simp [h]
theorem zj5 {b : BitVec 64} (hb : b ≠ 0#64) (h0 : b.getLsbD 0 = false) : (zbV b ≠ 0 ↔ (chansN b).length = 1) ∧ (zbV b ≠ 0 → chansN b = [zbV b]) := by
  have key : zbV b ≠ 0 → chansN b = [zbV b] := fun h => by
    have h1 := (zfJ hb (c := ((zbV b : Nat) : Int)) (by omega)).2 rfl
    cases hc : chansN b with
    | nil => exact absurd hc (zf4 hb)
    | cons j r =>
      have hj := h1 j (by rw [hc]; simp)
      cases r with
      | nil => rw [show j = zbV b by omega]
      | cons k s =>
        have hk := h1 k (by rw [hc]; simp); have hn := zc4 b; rw [hc, List.nodup_cons] at hn; exact absurd (by simp; left; omega) hn.1
  refine ⟨⟨fun h => by rw [key h]; rfl, fun h hz => ?_⟩, key⟩; obtain ⟨j, hj⟩ := List.length_eq_one_iff.1 h
  have hj0 : j ≠ 0 := fun e => by
    (have : j ∈ chansN b := by rw [hj]; simp); rw [chansN_mem, e, h0] at this
    cases this
  have := (zfJ hb (c := (j : Int)) (by omega)).1 (fun k hk => by rw [hj] at hk; simp at hk; omega); omega
theorem zkB {Y : Tb} {L : Ws} (hl : L.length = Y.n) (hne : ∀ i, i < Y.n → nth L i ≠ 0#64) (hb : In51 L) : ∀ k, k ≤ Y.n → (fixF Y L k).map Ch.er = fixD ((gd Y L).take k)
  | 0, _ => by simp [fixF, fixD]
  | k + 1, h => by
    have h0 : (nth L k).getLsbD 0 = false := by
      cases e : (nth L k).getLsbD 0 with
      | false => rfl
      | true => have := hb k 0 e; omega
    obtain ⟨h1, h2⟩ := zj5 (hne k (by omega)) h0; rw [ze0, List.map_append, zkB hl hne hb k (by omega), List.take_succ_eq_append_getElem (by rw [za5]; omega), ← zao (by rw [za5]; omega), zbq (by omega), zjC]
    congr 1
    show List.map Ch.er (if zbV (nth L k) ≠ 0 then [⟨nth Y.st k, (zbV (nth L k) : Int)⟩] else []) = _
    dsimp only; rw [List.length_map]; by_cases e : zbV (nth L k) = 0
    · rw [if_neg (by simpa using e), if_neg (fun q => (h1.2 q) e)]; rfl
    · rw [if_pos e, if_pos (h1.1 e), h2 e]; rfl
section
variable {p : GProblem} {m : List GDomain × Bool} {k : SK} {L : Ws} {w : World} {F0 : Frz}
theorem SI.ne (h : SI p m k L) (hm : m.2 = true) : ∀ i, i < k.Y.n → nth L i ≠ 0#64 := fun i hi => (h.good hm).1.ne i hi
theorem zjK (hF0 : F0.At w) (h : SI p m k L) (hs : StateAt w k.sp k.Y L (!m.2)) : Calls Tryz.prog 101 #[.pointer (some ⟨k.sp, 0, none⟩)] w fun e w' => ∃ (y : Value) (G : Frz), SlC G y 2 ((zcb m).map GChoice.enc) ∧ e = .returned y ∧ Fx F0 w G w' := by
  cases hm : m.2 with
  | false =>
    rw [hm] at hs; refine (zix k.sp k.Y L w hs).mono ?_; rintro e w' ⟨rfl, hb⟩; exact ⟨.slice none 0 0, F0, by unfold zcb; rw [hm]; exact SlC.nil _ 2, rfl, Fx.refl hF0 hb⟩
  | true =>
    rw [hm] at hs; refine (zjI k.sp k.Y L w hs h.ok).mono ?_; rintro e w' ⟨v, -, rfl, hw⟩; obtain ⟨G, h1, h2⟩ := zk6 hF0 hw; refine ⟨v, G, ?_, rfl, h1⟩
    have e : zcb m = (fixF k.Y L k.Y.n).map Ch.er := by
      unfold zcb; rw [hm, cond_true, zkB h.len (h.ne hm) (h.good hm).2.1 _ (Nat.le_refl _), (h.good hm).2.2, List.take_of_length_le (by rw [za5]; exact Nat.le_refl _)]
    rw [e]; exact h2
theorem zla (h : SI p m k L) (hs : StateAt w k.sp k.Y L (!m.2)) (c : GChoice) : Calls Tryz.prog 102 #[.pointer (some ⟨k.sp, 0, none⟩), .agg [.int .i64 c.Station, .int .i64 c.Channel].toArray] w fun e w' => e = .returned (.bool (ziL m c)) ∧ Below w.heap.size w w' := by
  obtain ⟨P, hP, hok', hY⟩ := h.pb; have hG := Pb.good hok'; refine (zjX k.sp k.Y L (!m.2) c.b w hs h.ok hY.ixn).mono ?_; rintro e w' ⟨rfl, hb⟩; refine ⟨?_, hb⟩
  congr 2
  unfold zeL ziL
  cases hm : m.2 with
  | false => rw [if_pos (.inl rfl)]; rfl
  | true =>
    obtain ⟨-, h51, hd⟩ := h.good hm; rw [Bool.true_and, hd]
    have hany : ∀ q, (gd k.Y L).any (fun x => decide (x.Station = c.Station) && x.Channels.any fun k => decide (k = c.Channel)) = q ↔ ((∃ i, i < k.Y.n ∧ nth k.Y.st i = c.Station ∧ ∃ j : Nat, (nth L i).getLsbD j = true ∧ (j : Int) = c.Channel) ↔ q = true) := fun q => by
      have e1 : (gd k.Y L).any (fun x => decide (x.Station = c.Station) && x.Channels.any fun k => decide (k = c.Channel)) = true ↔ (∃ i, i < k.Y.n ∧ nth k.Y.st i = c.Station ∧ ∃ j : Nat, (nth L i).getLsbD j = true ∧ (j : Int) = c.Channel) := by
        rw [List.any_eq_true]; constructor
        · rintro ⟨x, hx, hh⟩; obtain ⟨i, hi, rfl⟩ := zaV hx; rw [za5] at hi; rw [Bool.and_eq_true, decide_eq_true_eq, List.any_eq_true] at hh; obtain ⟨h1, q, hq, h2⟩ := hh; obtain ⟨j, hj, rfl⟩ := (zeK hi).1 hq; rw [zbq hi] at h1; exact ⟨i, hi, h1, j, hj, of_decide_eq_true h2⟩
        · rintro ⟨i, hi, h1, j, hj, h2⟩; refine ⟨_, zap (by rw [za5]; exact hi), ?_⟩; rw [Bool.and_eq_true, decide_eq_true_eq, List.any_eq_true]; exact ⟨by rw [zbq hi]; exact h1, (j : Int), (zeK hi).2 ⟨j, hj, rfl⟩, decide_eq_true h2⟩
      rw [← e1]
      cases (gd k.Y L).any (fun x => decide (x.Station = c.Station) && x.Channels.any fun k => decide (k = c.Channel)) <;> cases q <;> simp
    symm
    rw [hany]
    show _ ↔ (if (!true) = true ∨ c.Channel < 2 ∨ 51 < c.Channel then false else if (atF k.Y c.Station).2 = false then false else (nth L (atF k.Y c.Station).1.toNat).getLsbD c.Channel.toNat) = true
    by_cases hc : c.Channel < 2 ∨ 51 < c.Channel
    · rw [if_pos (.inr hc)]; refine ⟨fun ⟨i, hi, _, j, hj, h2⟩ => ?_, fun h => by cases h⟩; have := h51 i j hj; omega
    · rw [if_neg (by simpa using hc)]
      cases hh : zb9 P.er c.Station with
      | true =>
        obtain ⟨i, hi, e⟩ := (zcO hY).1 hh; rw [← e, zjm hok' hY hi]; simp only [Bool.true_eq_false, if_false, Int.toNat_natCast]; constructor
        · rintro ⟨i', hi', h1, j, hj, h2⟩; rw [zd2 hG hY hi hi' h1.symm, ← h2, Int.toNat_natCast]; exact hj
        · intro h; exact ⟨i, hi, rfl, c.Channel.toNat, h, by omega⟩
      | false =>
        (have hno : ∀ i, i < k.Y.n → nth k.Y.st i ≠ c.Station := fun i hi e => by rw [(zcO hY).2 ⟨i, hi, e⟩] at hh; cases hh); rw [zlx hok' hY hno]; simp only [if_true]; exact ⟨fun ⟨i, hi, h1, _⟩ => absurd h1 (hno i hi), fun h => by cases h⟩
end
end Go.Proofs.YtbpbhbkcahcdiaaGreatDoor
namespace Go.Proofs.YtbpbhbkcahcdiaaGreatDoor
open Go.RowKit
end Go.Proofs.YtbpbhbkcahcdiaaGreatDoor
namespace Go.Proofs.YtbpbhbkcahcdiaaGreatDoor
open Go.RowKit
def zcs (v : Value) (l h k : Nat) : Value := match v with
  | .slice a _ cap => sliced a l h cap k
  | x => x
theorem SlC.slice {F : Frz} {v : Value} {size : Nat} {cs : List (List Value)} (h : SlC F v size cs) {l i : Nat} (hl : l ≤ i) (hi : i ≤ cs.length) : SlC F (zcs v l i size) size ((cs.take i).drop l) := by
  obtain ⟨A, cap, rfl, h2, h3, h4, h5⟩ := h; (have hlen : ((cs.take i).drop l).length = i - l := by rw [List.length_drop, List.length_take]; omega); have hmem : ∀ c ∈ (cs.take i).drop l, c ∈ cs := fun c hc => List.mem_of_mem_take (List.mem_of_mem_drop hc); refine ⟨if cap = l then A else A.map (·.add (l * size)), cap - l, ?_, by omega, by omega, fun c hc => h4 c (hmem c hc), fun hp => ?_⟩
  · rw [hlen]; rfl
  · rw [hlen] at hp; obtain ⟨g, off, rfl, hg, hc⟩ := h5 (by omega); rw [if_neg (by omega)]; refine ⟨g, off + l * size, by simp [zcQ], hg, fun j hj => ?_⟩; rw [hlen] at hj; have h6 := hc (l + j) (by omega)
    have e : nth ((cs.take i).drop l) j = nth cs (l + j) := by
      rw [zao (by omega), zao (by omega), List.getElem_drop, List.getElem_take]
    rw [e, show off + l * size + j * size = off + (l + j) * size by rw [Nat.add_mul]; omega]; exact h6
theorem SlD.slice {α : Type} [Inhabited α] {rep : Frz → List Value → α → Prop} {F : Frz} {v : Value} {size : Nat} {cs : List (List Value)} {xs : List α} (h : SlD rep F v size cs xs) {l i : Nat} (hl : l ≤ i) (hi : i ≤ xs.length) : SlD rep F (zcs v l i size) size ((cs.take i).drop l) ((xs.take i).drop l) := by
  refine ⟨h.1.slice hl (by rw [h.2.1]; exact hi), ?_, fun j hj => ?_⟩
  · rw [List.length_drop, List.length_take, List.length_drop, List.length_take, h.2.1]
  · have hj' := hj; rw [List.length_drop, List.length_take] at hj'
    have e : nth ((cs.take i).drop l) j = nth cs (l + j) := by
      rw [zao (by rw [List.length_drop, List.length_take, h.2.1]; omega), zao (by rw [h.2.1]; omega), List.getElem_drop, List.getElem_take]
    have e' : nth ((xs.take i).drop l) j = nth xs (l + j) := by
      rw [zao hj, zao (by omega), List.getElem_drop, List.getElem_take]
    rw [e, e']; exact h.2.2 _ (by omega)
section
variable {F : Frz} {v : Value} {size : Nat}
theorem SlC.sliceh {α : Type} {enc : α → List Value} {xs : List α} (h : SlC F v size (xs.map enc)) {i : Nat} (hi : i ≤ xs.length) : SlC F (zcs v 0 i size) size ((xs.take i).map enc) := by
  have := h.slice (l := 0) (i := i) (Nat.zero_le _) (by rw [List.length_map]; exact hi)
  rwa [List.drop_zero, ← List.map_take] at this
variable {α : Type} [Inhabited α] {rep : Frz → List Value → α → Prop} {cs : List (List Value)} {xs : List α}
theorem SlD.sliceh (h : SlD rep F v size cs xs) {i : Nat} (hi : i ≤ xs.length) : SlD rep F (zcs v 0 i size) size (cs.take i) (xs.take i) := by
  have := h.slice (l := 0) (Nat.zero_le _) hi
  rwa [List.drop_zero, List.drop_zero] at this
end
section
variable {P : Program} {n : Nat} {B : World} {M : Nat → Prop} {fs : SFs} {hs : HS} {o : Oper} {v : Value}
theorem TySl.elem {t e k : Nat} (h : TySl P t e k) : P.underlying t = some (.slice (P.elem t)) ∧ ∀ w, (sizeOf (P.elem t)).run P w = .ok k w := by
  have h := h.h; unfold zd6 at h
  split at h
  · rename_i el hU; (have he : P.elem t = el := by unfold Program.elem; rw [hU])
    cases hi' : P.info? el with
    | none => rw [hi'] at h; cases h
    | some inf =>
      rw [hi'] at h
      cases h
      refine ⟨by rw [he]; exact hU, fun w => ?_⟩; rw [he]; simp [sizeOf, typeInfo, hi']
  · cases h
theorem Yv.bO {F : Frz} {t e k i m : Nat} {z : Int} {q : IntKind} {cs : List (List Value)} {x y : Operand} [hT : TySl P t e k] (ho : o.op = .slice t x none (some y) none) (hx : ev fs x = some v) (hy : ev fs y = some (.int q z)) (h : SlC F v k cs) (hm : cs.length = m) (hz : z = (i : Int)) (hi : i ≤ m) : Yv P n B M fs hs o (zcs v 0 i k) := fun a w ha _ => by
  subst hm hz; obtain ⟨A, cap, rfl, h2, h3, h4, h5⟩ := h; unfold execOp; have := run_slice_h (P := P) w t A cs.length cap hT.elem.1 q (i : Int) (by omega) (by omega); simp [ho, ha.ev hx, ha.ev hy, run_sliceAt_slice w t _ _ _ _ hT.elem.1, this, hT.elem.2, zcs]
end
end Go.Proofs.YtbpbhbkcahcdiaaGreatDoor
namespace Go.Proofs.YtbpbhbkcahcdiaaGreatDoor
open Go.RowKit
structure FxM (F : Frz) (w : World) (M : Nat → Prop) (G : Frz) (es : HS) (w' : World) : Prop where
  le : F.Le G
  at_ : G.At w'
  hp : Hp w M es w'
  new : ∀ g, G.S g → F.S g ∨ M g ∨ w.heap.size ≤ g
  ap : ∀ e ∈ es, ∀ g, e.fp g → ¬ G.S g
theorem zhk : fps [] = fun _ => False := by funext g; unfold fps; simp
section
variable {B w w' : World} {M S0 : Nat → Prop} {hs : HS} {F : FzB B M S0}
theorem FxM.of {F0 : Frz} {es : HS} {G : FzB B M S0} (hw : Hp B M (es ++ [Ent.fr G]) w') (hS : ∀ g, S0 g → F0.S g) (hle : F0.Le G.toFrz) : FxM F0 B M G.toFrz es w' := by
  have h1 := hw; have h2 := List.pairwise_append.1 h1.apart; refine ⟨hle, hw.fr (i := es.length) (by simp), hw.sub (List.sublist_append_left _ _), fun g hg => (G.new g hg).imp (hS g) id, fun e he g hg hS => ?_⟩; refine h2.2.2 e he (.fr G) (by simp) g hg (Ent.fr_fp.2 ⟨hS, ?_⟩); exact h1.new e (List.mem_append_left _ he) g hg
theorem FxM.up {M' : Nat → Prop} {G : Frz} {es : HS} (h : FxM F.toFrz w M' G es w') (hw : Hp B M hs w) (hM : ∀ g, M' g → M g ∨ B.heap.size ≤ g) : ∃ G' : FzB B M S0, G'.toFrz = G := by
  refine ⟨⟨G, fun g hg hb hm => ?_, fun g hg => ?_⟩, rfl⟩
  · rcases h.new g hg with h1 | h1 | h1
    · rw [(h.le g h1).2, F.base g h1 hb hm]
    · rcases hM g h1 with h2 | h2
      · exact absurd h2 hm
      · omega
    · have := hw.size; omega
  · rcases h.new g hg with h1 | h1 | h1
    · exact F.new g h1
    · exact .inr (hM g h1)
    · have := hw.size; exact .inr (.inr (by omega))
end
section
variable {P : Program} {n : Nat} {B D : World} {M S0 : Nat → Prop} {fs : SFs} {hs : HS} {o : Oper} {v : Value}
theorem Ew.aH (idx : List Nat) (bs rest : HS) {ι : Type} {F : FzB B M S0} {φ : ι → Frz → Prop} {val : ι → Value} {es : ι → HS} {c : Operand} {xs : Array Operand} {ts : Array TypeId} {f : FuncId} {fst caps : Array Value} {vs : List Value} [hE : Enters P f]
    (ho : o.op = .call { callee := .value c, args := xs, argTypes := ts }) (hc : ev fs c = some (.func (.func f) fst caps)) (hv : evs fs xs.toList = some vs) (hp : zer hs idx = some (bs ++ .fr F :: rest)) (hn : idx.Nodup)
    (C : ∀ w, Hp B M hs w → Hp B M (bs ++ .fr F :: rest) w → F.toFrz.At w → Calls P f (fst.toList ++ vs ++ caps.toList).toArray w (fun e w' => ∃ y G, φ y G ∧ e = .returned (val y) ∧ FxM F.toFrz w (fps bs) G (es y) w')) :
    Ew P n B M fs hs o (fun v hs'' => ∃ y, ∃ G : FzB B M S0, F.toFrz.Le G.toFrz ∧ φ y G.toFrz ∧ v = val y ∧ hs'' = es y ++ .fr G :: rest) :=
  Ew.call ho hc hv fun w hw => by
    have hw2 := hw.pick hp hn; have hF : F.toFrz.At w := hw2.fr (i := bs.length) (by simp); refine (C w hw hw2 hF).mono fun e w' ⟨y, G, hy, he, hx⟩ => ?_; have hM : ∀ g, fps bs g → M g ∨ B.heap.size ≤ g := fun g ⟨e, he, hg⟩ => hw2.new e (List.mem_append_left _ he) g hg; obtain ⟨G', rfl⟩ := hx.up hw2 hM; refine ⟨val y, es y ++ .fr G' :: rest, he, Kp.only hx.hp.only (fun g hg c => ?_), ?_, y, G', hx.le, hy, rfl, rfl⟩
    · obtain ⟨e, h1, h2⟩ := hg; exact e.nd (hw2.own e (List.mem_append_left _ h1)) g h2 c
    · (have h3 : Hp B M ((bs ++ [.fr F]) ++ rest) w := by rw [List.append_assoc]; exact hw2); have h4 := Hp.go (es := bs ++ [.fr F]) (es' := es y ++ [.fr G']) h3 hx.hp.only (fun g _ ⟨e, he, hg⟩ => ⟨e, List.mem_append_left _ he, hg⟩) (fun e he => ?_) (fun e he g hg => ?_) ?_
      · rw [List.append_assoc] at h4; exact h4
      · rcases List.mem_append.1 he with he | he
        · exact hx.hp.own e he
        · simp at he; subst he; exact Ent.fr_ok.2 (fun g hg => hx.at_ g hg.1)
      · rcases List.mem_append.1 he with he | he
        · rcases hx.hp.new e he g hg with ⟨f, hf, hfg⟩ | h5
          · exact .inl ⟨f, List.mem_append_left _ hf, hfg⟩
          · exact .inr h5
        · simp at he; subst he; have h6 := Ent.fr_fp.1 hg; rcases hx.new g h6.1 with h7 | ⟨f, hf, hfg⟩ | h7
          · exact .inl ⟨.fr F, by simp, Ent.fr_fp.2 ⟨h7, h6.2⟩⟩
          · exact .inl ⟨f, List.mem_append_left _ hf, hfg⟩
          · exact .inr h7
      · exact List.pairwise_append.2 ⟨hx.hp.apart, List.pairwise_singleton _ _, fun e he f hf g hg hfg => by
          simp at hf; subst hf
          exact hx.ap e he g hg (Ent.fr_fp.1 hfg).1⟩
theorem Ew.aW (idx : List Nat) (bs rest : HS) {ι : Type} {F : FzB B M S0} {φ : ι → Prop} {val : ι → Value} {es : ι → HS} {c : Operand} {xs : Array Operand} {ts : Array TypeId} {f : FuncId} {fst caps : Array Value} {vs : List Value} [hE : Enters P f]
    (ho : o.op = .call { callee := .value c, args := xs, argTypes := ts }) (hc : ev fs c = some (.func (.func f) fst caps)) (hv : evs fs xs.toList = some vs) (hp : zer hs idx = some (bs ++ .fr F :: rest)) (hn : idx.Nodup)
    (C : ∀ w, Hp B M hs w → Hp B M (bs ++ .fr F :: rest) w → F.toFrz.At w → Calls P f (fst.toList ++ vs ++ caps.toList).toArray w (fun e w' => ∃ y, φ y ∧ e = .returned (val y) ∧ FxM F.toFrz w (fps bs) F.toFrz (es y) w')) :
    Ew P n B M fs hs o (fun v hs'' => ∃ y, φ y ∧ v = val y ∧ hs'' = es y ++ .fr F :: rest) :=
  Ew.call ho hc hv fun w hw => by
    have hw2 := hw.pick hp hn; have hF : F.toFrz.At w := hw2.fr (i := bs.length) (by simp); refine (C w hw hw2 hF).mono fun e w' ⟨y, hy, he, hx⟩ => ?_; refine ⟨val y, es y ++ .fr F :: rest, he, Kp.only hx.hp.only (fun g hg c => ?_), ?_, y, hy, rfl, rfl⟩
    · obtain ⟨e, h1, h2⟩ := hg; exact e.nd (hw2.own e (List.mem_append_left _ h1)) g h2 c
    · exact Hp.go (es := bs) (es' := es y) hw2 hx.hp.only (fun g _ ⟨e, he, hg⟩ => ⟨e, he, hg⟩) hx.hp.own (fun e he g hg => hx.hp.new e he g hg) hx.hp.apart
end
section
variable {w : World} {bs : HS} {F : Frz}
theorem zbu (hF : F.At w) (h : Hp w (fps bs) bs w) (hA : ∀ g, fps bs g → ¬ F.S g) : ∃ (S0 : Nat → Prop) (G : FzB w (fps bs) S0), G.toFrz = F ∧ (∀ g, S0 g → F.S g) ∧ Hp w (fps bs) (bs ++ [Ent.fr G]) w := ⟨F.S, Frz.inB hF _, rfl, fun _ h => h, Hp.startFM hF h hA⟩
variable {B : World} {M S0 : Nat → Prop} {G : FzB B M S0} {rest : HS}
theorem Hp.takes (h : Hp B M (bs ++ .fr G :: rest) w) : Hp w (fps bs) bs w ∧ ∀ g, fps bs g → ¬ G.toFrz.S g := by
  have h1 : Hp B M bs w := h.sub (List.sublist_append_left _ _); refine ⟨Hp.startL h1.own h1.apart, fun g ⟨e, he, hg⟩ hS => ?_⟩; exact (List.pairwise_append.1 h.apart).2.2 e he (.fr G) (by simp) g hg (Ent.fr_fp.2 ⟨hS, h1.new e he g hg⟩)
theorem Hp.takes0 (h : Hp B M (bs ++ .fr G :: rest) w) (h0 : ¬ M 0) (hB : 0 < B.heap.size) : ¬ fps bs 0 := fun ⟨e, he, hg⟩ => by
  rcases h.new e (List.mem_append_left _ he) 0 hg with h1 | h1
  · exact h0 h1
  · omega
end
theorem Tab.pos {w : World} (h : Tab w) : 0 < w.heap.size := by
  have h0 := h 0 (by decide); unfold World.cell? at h0; rcases Nat.eq_zero_or_pos w.heap.size with e | e
  · rw [Array.getElem?_eq_none (by omega)] at h0; simp at h0
  · exact e
end Go.Proofs.YtbpbhbkcahcdiaaGreatDoor
namespace Go.Proofs.YtbpbhbkcahcdiaaGreatDoor
open Go.RowKit
abbrev st2L (k : SK) (v : Value) (L : Ws) (b : Bool) : HS := [.row k.sp 116 [.pointer (some ⟨k.tp, 0, none⟩), v, .bool b], .sl v 88 1 k.Y.n (Ws.cells L)]
abbrev st2 (k : SK) (v : Value) (L : Ws) (b : Bool) : Ent := .bag (st2L k v L b)
def TbF (F : Frz) (k : SK) : Prop := ∀ g, IsC k.w0 g → F.S g ∧ F.w.heap[g]? = k.w0.heap[g]?
theorem TbF.mono {F G : Frz} {k : SK} (h : TbF F k) (hle : F.Le G) : TbF G k := fun g hg => ⟨(hle g (h g hg).1).1, (hle g (h g hg).1).2.trans (h g hg).2⟩
theorem TbF.fz {F : Frz} {k : SK} {w : World} (h : TbF F k) (hF : F.At w) : Fz k.w0 w := fun g hg => (hF g (h g hg).1).trans (h g hg).2
theorem zeF : ∀ L : Ws, L.flatMap Le = Ws.cells L
  | [] => rfl
  | b :: r => by
    rw [List.flatMap_cons, zeF r]; rfl
section
variable {p : GProblem} {m : List GDomain × Bool} {k : SK} {v : Value} {L : Ws} {b : Bool} {w w' : World} {F F0 : Frz}
theorem SI.gl (h : SI p m k L) (gl : GL) : SI p m { k with gl := gl } L := ⟨h.pb, h.tb, h.len, h.good, h.bad⟩
theorem SI.sp (h : SI p m k L) (sp : Nat) : SI p m { k with sp := sp } L := ⟨h.pb, h.tb, h.len, h.good, h.bad⟩
theorem SI.n512 (h : SI p m k L) : k.Y.n ≤ 512 := h.ok.n
theorem zbS {g : Nat} {t : TypeId} {l : List Value} {i : Nat} {x : Value} (h : (Ent.row g t l).ok w) (hx : l[i]? = some x) : w.cell? ⟨g, i, none⟩ = some x := by rw [zaT (Ent.row_ok.1 h)]; exact hx
theorem ze6 (h : SI p m k L) (hok : (st2 k v L b).ok w) (hf : Fz k.w0 w) (htab : Tab w) : StateAt w k.sp k.Y L b := by
  have h1 := (Ent.bag_ok.1 hok).1; have hr := h1 (.row k.sp 116 [.pointer (some ⟨k.tp, 0, none⟩), v, .bool b]) (by simp); have hl := Ent.sl_ok.1 (h1 (.sl v 88 1 k.Y.n (Ws.cells L)) (by simp)); refine ⟨htab, ⟨k.tp, zbS hr rfl, h.tb.later hf⟩, ⟨v, zbS hr rfl, ?_⟩, h.len, zbS hr rfl⟩; refine SlOf.own (enc := Le) (size := 1) (fun _ => rfl) (xs := L) (e := 88) (k := k.Y.n) ?_ h.len.symm; rw [zeF]; exact hl
theorem zlU (h : SI p m k L) (hok : (st2 k v L b).ok w) (hn : 0 < k.Y.n) : ∃ gl : GL, v = sG gl k.Y.n := by
  have h1 := (Ent.bag_ok.1 hok).1; have hl := Ent.sl_ok.1 (h1 (.sl v 88 1 k.Y.n (Ws.cells L)) (by simp)); rcases hl.2 with ⟨_, h0⟩ | ⟨g, cap, cur, rfl, _⟩
  · omega
  · exact ⟨⟨g, cap⟩, rfl⟩
theorem zkR {gl : GL} (hok : (st2 k (sG gl k.Y.n) L b).ok w) (hf : Fz k.w0 w) (hap : ∀ g, (st2 k (sG gl k.Y.n) L b).fp g → ¬ IsC k.w0 g) : (stE { k with gl := gl } L b).ok w := by
  obtain ⟨h1, h2⟩ := Ent.bag_ok.1 hok; refine Ent.bag_ok.2 ⟨fun e he => ?_, ?_⟩
  · simp at he; rcases he with rfl | rfl | rfl
    · exact h1 _ (by simp)
    · exact h1 _ (by simp)
    · exact Ent.fz_ok.2 hf
  · show ([sRow k.sp gl k.tp k.Y.n b, zaK gl k.Y.n L] ++ [Ent.fz k.w0]).Pairwise _
    refine List.pairwise_append.2 ⟨h2, List.pairwise_singleton _ _, fun e he f hf' g hg hfg => ?_⟩; simp only [List.mem_singleton] at hf'; subst hf'; exact hap g (Ent.bag_fp.2 ⟨e, he, hg⟩) (Ent.fz_fp.1 hfg)
theorem zlu {gl : GL} {L' : Ws} {b' : Bool} (hf : Fz k.w0 w) (h : Hp w (stE { k with gl := gl } L b).fp [stE { k with gl := gl } L' b'] w') : Hp w (st2 k (sG gl k.Y.n) L b).fp [st2 k (sG gl k.Y.n) L' b'] w' := by
  have hok := h.own (stE { k with gl := gl } L' b') (by simp); obtain ⟨h1, h2⟩ := Ent.bag_ok.1 hok; have h3 : ([sRow k.sp gl k.tp k.Y.n b', zaK gl k.Y.n L'] ++ [Ent.fz k.w0]).Pairwise fun e f => ∀ g, e.fp g → ¬ f.fp g := h2; obtain ⟨a1, a2, a3⟩ := List.pairwise_append.1 h3; have hf' : Fz k.w0 w' := Ent.fz_ok.1 (h1 (.fz k.w0) (by simp)); have hsp : ∀ g, (st2 k (sG gl k.Y.n) L' b').fp g ↔ ∃ e ∈ [sRow k.sp gl k.tp k.Y.n b', zaK gl k.Y.n L'], e.fp g := fun g => Ent.bag_fp; have hfp : ∀ g, (st2 k (sG gl k.Y.n) L b).fp g ↔ ∃ e ∈ [sRow k.sp gl k.tp k.Y.n b, zaK gl k.Y.n L], e.fp g := fun g => Ent.bag_fp
  have hE : ∀ g, (stE { k with gl := gl } L b).fp g ↔ (st2 k (sG gl k.Y.n) L b).fp g ∨ IsC k.w0 g := fun g => by
    rw [hfp, Ent.bag_fp]; simp only [List.mem_cons, List.not_mem_nil, or_false, exists_eq_or_imp, exists_eq_left, Ent.fz_fp]; exact or_assoc.symm
  refine ⟨h.os, h.tape, h.output, h.size, fun g hg hn => ?_, fun e he => ?_, fun e he g hg => ?_, List.pairwise_singleton _ _⟩
  · by_cases hc : IsC k.w0 g
    · rw [hf' g hc, hf g hc]
    · exact h.base g hg (fun hh => ((hE g).1 hh).elim hn hc)
  · simp at he; subst he; exact Ent.bag_ok.2 ⟨fun e he => h1 e (by simp at he ⊢; rcases he with h | h <;> simp [h]), a1⟩
  · simp at he; subst he; have hg' := (hsp g).1 hg; obtain ⟨x, hx, hxg⟩ := hg'; rcases h.new (stE { k with gl := gl } L' b') (by simp) g (Ent.bag_fp.2 ⟨x, by simp at hx ⊢; rcases hx with h | h <;> simp [h], hxg⟩) with h4 | h4
    · rcases (hE g).1 h4 with h5 | h5
      · exact .inl h5
      · exact absurd (Ent.fz_fp.2 h5) (a3 x hx (.fz k.w0) (by simp) g hxg)
    · exact .inr h4
theorem zdB (h : SI p m k L) (tf : TbF F k) (hok : (st2 k v L (!m.2)).ok w) (hF : F.At w) (htab : Tab w) : Calls Tryz.prog 68 #[.pointer (some ⟨k.sp, 0, none⟩)] w fun e w' => e = .returned (.bool (!m.2)) ∧ Below w.heap.size w w' := zgM (ze6 h hok (tf.fz hF) htab)
theorem zig (h : SI p m k L) (tf : TbF F k) (hok : (st2 k v L (!m.2)).ok w) (hF : F.At w) (htab : Tab w) : Calls Tryz.prog 48 #[.pointer (some ⟨k.sp, 0, none⟩)] w fun e w' => ∃ (y : Value × List (List Value)) (G : Frz), SlD GDomain.rep G y.1 2 y.2 m.1 ∧ e = .returned y.1 ∧ Fx F w G w' := zht hF h (ze6 h hok (tf.fz hF) htab)
theorem zke (h : SI p m k L) (tf : TbF F k) (hok : (st2 k v L (!m.2)).ok w) (hF : F.At w) (htab : Tab w) : Calls Tryz.prog 101 #[.pointer (some ⟨k.sp, 0, none⟩)] w fun e w' => ∃ (y : Value) (G : Frz), SlC G y 2 ((zcb m).map GChoice.enc) ∧ e = .returned y ∧ Fx F w G w' := zjK hF h (ze6 h hok (tf.fz hF) htab)
theorem zlt (h : SI p m k L) (tf : TbF F k) (hok : (st2 k v L (!m.2)).ok w) (hF : F.At w) (htab : Tab w) (c : GChoice) : Calls Tryz.prog 102 #[.pointer (some ⟨k.sp, 0, none⟩), .agg [.int .i64 c.Station, .int .i64 c.Channel].toArray] w fun e w' => e = .returned (.bool (ziL m c)) ∧ Below w.heap.size w w' := zla h (ze6 h hok (tf.fz hF) htab) c
theorem zkA (kp : Bool) (num : FuncId) (h : SI p m k L) (tf : TbF F k) (hok : (st2 k v L (!m.2)).ok w) (hF : F.At w) (hap : ∀ g, (st2 k v L (!m.2)).fp g → ¬ F.S g) (htab : Tab w) {fuel : Nat} (c : GChoice) {r : (List GDomain × Bool) × Int} (hr : zff fuel p m kp c = some r)
    (hE : (zaN k.Y (!m.2) c.b).2 ≠ 0 → Calls Tryz.prog num #[.pointer (some ⟨k.sp, 0, none⟩), .agg (Ch.cells c.b).toArray] w fun e w' => e = .returned (.int .i64 (zaN k.Y (!m.2) c.b).2) ∧ Below w.heap.size w w')
    (hO : ∀ gl : GL, SI p m { k with gl := gl } L → (stE { k with gl := gl } L (!m.2)).ok w → Calls Tryz.prog num #[.pointer (some ⟨k.sp, 0, none⟩), .agg [.int .i64 c.Station, .int .i64 c.Channel].toArray] w fun e w' => ∃ L', SI p r.1 { k with gl := gl } L' ∧ e = .returned (.int .i64 r.2) ∧ Hp w (stE { k with gl := gl } L (!m.2)).fp [stE { k with gl := gl } L' (!r.1.2)] w') :
    Calls Tryz.prog num #[.pointer (some ⟨k.sp, 0, none⟩), .agg [.int .i64 c.Station, .int .i64 c.Channel].toArray] w fun e w' => ∃ L', SI p r.1 k L' ∧ e = .returned (.int .i64 r.2) ∧ Hp w (st2 k v L (!m.2)).fp [st2 k v L' (!r.1.2)] w' := by
  have hfit := ziI h (c := c)
  have keepE : ∀ {n : Int}, r = (m, n) → (zaN k.Y (!m.2) c.b).2 = n → n ≠ 0 → Calls Tryz.prog num #[.pointer (some ⟨k.sp, 0, none⟩), .agg [.int .i64 c.Station, .int .i64 c.Channel].toArray] w fun e w' => ∃ L', SI p r.1 k L' ∧ e = .returned (.int .i64 r.2) ∧ Hp w (st2 k v L (!m.2)).fp [st2 k v L' (!r.1.2)] w' := by
    intro n hr hc hn; subst hr; refine (hE (by rw [hc]; exact hn)).mono ?_; rintro e w' ⟨rfl, hb⟩; exact ⟨L, h, by rw [hc], (Hp.start hok).below hb⟩
  by_cases hn : 0 < k.Y.n
  · obtain ⟨gl, rfl⟩ := zlU h hok hn; refine (hO gl (h.gl gl) (zkR hok (tf.fz hF) (fun g hg hc => hap g hg (tf g hc).1))).mono ?_; rintro e w' ⟨L', h1, rfl, h2⟩; exact ⟨L', ⟨h1.pb, h1.tb, h1.len, h1.good, h1.bad⟩, rfl, zlu (tf.fz hF) h2⟩
  · unfold zff at hr
    cases hg : ziB c with
    | false => rw [hg] at hr hfit; exact keepE (Option.some.inj hr).symm (by rw [hfit]; rfl) (by decide)
    | true =>
      rw [hg] at hr hfit; simp only [Bool.not_true, cond_false] at hr hfit
      cases hm : m.2 with
      | false => rw [hm] at hr hfit; rw [← hm]; exact keepE (Option.some.inj hr).symm (by rw [hm]; rw [hfit]; rfl) (by decide)
      | true =>
        rw [hm] at hr hfit; simp only [Bool.not_true, cond_false] at hr hfit
        cases hh : zb9 p c.Station with
        | false => rw [hh] at hr hfit; rw [← hm]; exact keepE (Option.some.inj hr).symm (by rw [hm, Bool.not_true, hfit]; rfl) (by decide)
        | true =>
          obtain ⟨P, rfl, _, hY⟩ := h.pb; obtain ⟨i, hi, _⟩ := (zcO hY).1 hh; omega
theorem zi9 (h : SI p m k L) (tf : TbF F k) (hok : (st2 k v L (!m.2)).ok w) (hF : F.At w) (hap : ∀ g, (st2 k v L (!m.2)).fp g → ¬ F.S g) (htab : Tab w) {fuel : Nat} (hf : 100000 ≤ fuel) (c : GChoice) {r : (List GDomain × Bool) × Int} (hr : zff fuel p m true c = some r) :
    Calls Tryz.prog 69 #[.pointer (some ⟨k.sp, 0, none⟩), .agg [.int .i64 c.Station, .int .i64 c.Channel].toArray] w fun e w' => ∃ L', SI p r.1 k L' ∧ e = .returned (.int .i64 r.2) ∧ Hp w (st2 k v L (!m.2)).fp [st2 k v L' (!r.1.2)] w' := by
  obtain ⟨P, hP, hok', hY⟩ := h.pb; exact zkA true _ h tf hok hF hap htab c hr (fun he => zfu k.sp k.Y L (!m.2) c.b w (ze6 h hok (tf.fz hF) htab) (k.Y.ix512 h.ok hY.ixn) he) (fun gl h1 h2 => zjj h1 h2 htab hf c hr)
theorem ziw (h : SI p m k L) (tf : TbF F k) (hok : (st2 k v L (!m.2)).ok w) (hF : F.At w) (hap : ∀ g, (st2 k v L (!m.2)).fp g → ¬ F.S g) (htab : Tab w) {fuel : Nat} (hf : 100000 ≤ fuel) (c : GChoice) {r : (List GDomain × Bool) × Int} (hr : zff fuel p m false c = some r) :
    Calls Tryz.prog 72 #[.pointer (some ⟨k.sp, 0, none⟩), .agg [.int .i64 c.Station, .int .i64 c.Channel].toArray] w fun e w' => ∃ L', SI p r.1 k L' ∧ e = .returned (.int .i64 r.2) ∧ Hp w (st2 k v L (!m.2)).fp [st2 k v L' (!r.1.2)] w' := by
  obtain ⟨P, hP, hok', hY⟩ := h.pb; exact zkA false _ h tf hok hF hap htab c hr (fun he => zfj k.sp k.Y L (!m.2) c.b w (ze6 h hok (tf.fz hF) htab) (k.Y.ix512 h.ok hY.ixn) he) (fun gl h1 h2 => ziV h1 h2 htab hf c hr)
theorem zk8 (hF : F0.At w) (h : SI p m k L) (hw : Hp w (fun _ => False) [stE k L b] w') : ∃ G, TbF G k ∧ FxM F0 w (fps []) G [st2 k (sG k.gl k.Y.n) L b] w' := by
  have hok := hw.own (stE k L b) (by simp); obtain ⟨h1, h2⟩ := Ent.bag_ok.1 hok; have h3 : ([sRow k.sp k.gl k.tp k.Y.n b, zaK k.gl k.Y.n L] ++ [Ent.fz k.w0]).Pairwise fun e f => ∀ g, e.fp g → ¬ f.fp g := h2; obtain ⟨a1, a2, a3⟩ := List.pairwise_append.1 h3; have hf' : Fz k.w0 w' := Ent.fz_ok.1 (h1 (.fz k.w0) (by simp)); have hb := hw.isBelow; have hF' := hF.below hb; have hnew : ∀ g, IsC k.w0 g → w.heap.size ≤ g := fun g hg => (hw.new (stE k L b) (by simp) g (Ent.bag_fp.2 ⟨.fz k.w0, by simp, Ent.fz_fp.2 hg⟩)).elim (fun h => h.elim) id
  have hnew2 : ∀ g, (st2 k (sG k.gl k.Y.n) L b).fp g → w.heap.size ≤ g := fun g hg => by
    obtain ⟨e, he, hg⟩ := Ent.bag_fp.1 hg; exact (hw.new (stE k L b) (by simp) g (Ent.bag_fp.2 ⟨e, by simp at he ⊢; rcases he with h | h <;> simp [h], hg⟩)).elim (fun h => h.elim) id
  refine ⟨⟨fun g => F0.S g ∨ IsC k.w0 g, w', fun g hg => ?_⟩, fun g hg => ⟨.inr hg, hf' g hg⟩, ⟨fun g hg => ⟨.inl hg, hF' g hg⟩, fun g _ => rfl, ?_, fun g hg => hg.imp id (fun h => .inr (hnew g h)), fun e he g hg hS => ?_⟩⟩
  · rcases hg with hg | hg
    · exact hF'.cb hg
    · obtain ⟨cs, t, q, e⟩ := hg; exact ⟨cs, t, q, (hf' g ⟨cs, t, q, e⟩).trans e⟩
  · rw [zhk]; refine ⟨hw.os, hw.tape, hw.output, hw.size, hw.base, fun e he => ?_, fun e he g hg => ?_, List.pairwise_singleton _ _⟩
    · simp at he; subst he; exact Ent.bag_ok.2 ⟨fun e he => h1 e (by simp at he ⊢; rcases he with h | h <;> simp [h]), a1⟩
    · simp at he; subst he; exact .inr (hnew2 g hg)
  · simp at he; subst he; rcases hS with hS | hS
    · have := (hF.cb hS).lt; have := hnew2 g hg; omega
    · obtain ⟨e, he, hg⟩ := Ent.bag_fp.1 hg; exact a3 e he (.fz k.w0) (by simp) g hg (Ent.fz_fp.2 hS)
theorem zls {vd vp vl vc : Value} {cd : List (List Value)} (hF0 : F0.At w) (h : PbF F0 vd cd vp vl vc p) (htab : Tab w) (hv : okG p = true) {fuel : Nat} (hf : 100000 ≤ fuel) {r : List GDomain × Bool} (hr : zaR fuel p p.Domains = some r) :
    Calls Tryz.prog 40 #[.agg [vd, vp, vl, vc].toArray] w fun e w' => ∃ (y : SK × Value × Ws) (G : Frz), (SI p r y.1 y.2.2 ∧ TbF G y.1) ∧ e = .returned (.tuple #[.pointer (some ⟨y.1.sp, 0, none⟩), .int .i64 0]) ∧ FxM F0 w (fps []) G [st2 y.1 y.2.1 y.2.2 (!r.2)] w' := by
  refine (zlv hF0 h htab hv hf hr).mono ?_; rintro e w' ⟨⟨k, L⟩, hs, rfl, hw⟩; obtain ⟨G, h1, h2⟩ := zk8 hF0 hs hw; exact ⟨(k, sG k.gl k.Y.n, L), G, ⟨hs, h1⟩, rfl, h2⟩
theorem zlb (h : SI p m k L) (tf : TbF F k) (hok : (st2 k v L (!m.2)).ok w) (hF : F.At w) (htab : Tab w) : Calls Tryz.prog 52 #[.pointer (some ⟨k.sp, 0, none⟩)] w fun e w' => ∃ (y : SK × Value) (G : Frz), (SI p m y.1 L ∧ TbF G y.1) ∧ e = .returned (.pointer (some ⟨y.1.sp, 0, none⟩)) ∧ FxM F w (fps []) G [st2 y.1 y.2 L (!m.2)] w' := by
  have hs := ze6 h hok (tf.fz hF) htab; have h1 := (Ent.bag_ok.1 hok).1; have hr := h1 (.row k.sp 116 [.pointer (some ⟨k.tp, 0, none⟩), v, .bool (!m.2)]) (by simp); have hl := h1 (.sl v 88 1 k.Y.n (Ws.cells L)) (by simp); have hn := h.n512
  -- what is there is frozen for the time of the call
  have hC : SlC (Frz.all w) v 1 (L.map Le) := by
    have hl2 := hl; rw [← zeF] at hl2; exact (SlK.ent (G := Frz.all w) hl2 rfl (fun g _ hc => hc)).toF h.len.symm (fun _ => rfl)
  haveI := hC.oneC; refine Calls.mono (R := fun e w' => ∃ (y : Nat × Value), OneC y.2 ∧ e = .returned (.pointer (some ⟨y.1, 0, none⟩)) ∧ Hp w (fun _ => False) [.row y.1 116 [.pointer (some ⟨k.tp, 0, none⟩), y.2, .bool (!m.2)], .sl y.2 88 1 k.Y.n (Ws.cells L)] w') ?_ ?_
  · obtain ⟨S0, F1, hF1, hS0, hp0⟩ := zaq (Frz.all_at w); rw [← hF1] at hC; refine zad (M := fun _ => False) (hs := [.fr F1]) Tryz.func52 rfl rfl rfl hp0 ?_; refine T.seq (T.region ?_); refine TL.run 1 rfl ?_; refine TL.nil (K.seq (T.seq (T.seq (T.region ?_)))); refine TL.run 1 rfl ?_; refine TL.e (Ew.af rfl rfl rfl (fun w' hw => zbs k.sp k.Y L (!m.2) w' (hs.kept hw))) ?_; rintro _ _ ⟨rfl, rfl⟩; refine TL.nil (K.seq ?_); refine T.aG rfl rfl ?_; refine T.skip (K.seq (T.seq ?_)); refine T.aw (.still 0 (.still 1 (.still 2 (.still 3 (.still 4 (.still 5 (.still 6 (.still 7 (.still 9 (.still 10 (.still 11 (.still 12 (.eff 8 (.still 13 (.eff 14 (.still 15 .done)))))))))))))))) [.fr F1] (by kernel_rfl) (List.Sublist.refl _) ?_; refine TS.run 2 rfl ?_; refine TS.y rfl (Yv.fieldAddr rfl rfl) ?_; refine TS.y rfl (Yv.as rfl rfl (zbS (i := 0) hr rfl) (fun h => h)) ?_; refine TS.run 2 rfl ?_; refine TS.y rfl (Yv.fieldAddr rfl rfl) ?_; refine TS.y rfl (Yv.as rfl rfl (zbS (i := 1) hr rfl) (fun h => h)) ?_; refine TS.run 2 rfl ?_; refine TS.y rfl (Yv.fieldAddr rfl rfl) ?_; refine TS.y rfl (Yv.as rfl rfl (zbS (i := 2) hr rfl) (fun h => h)) ?_; refine TS.slNil 88 1 ?_; refine TS.eff ?_; refine TSo.aL rfl (Wt.none rfl) rfl rfl (Ew.bF 0 1 (F := F1) (k' := k.Y.n) (l' := Ws.cells L) (ziX (enc := Le) (fun x => inferInstanceAs (OneCs [U x]))) rfl rfl rfl rfl rfl hC (by rw [List.length_map, h.len]; omega) (by rw [List.nil_append, ← List.flatMap_def, zeF]) (by omega) (by decide)) ?_; rintro v' _ ⟨hv', rfl⟩; refine ⟨fun w hw => hw.sub (List.sublist_cons_self _ _), ?_⟩; refine TS.y rfl (Yv.build rfl rfl) ?_; refine TS.eff ?_; refine TSo.aL rfl (Wt.none rfl) rfl rfl (Ew.aB rfl rfl) ?_; rintro _ _ ⟨g, rfl, rfl⟩; refine ⟨fun w hw => hw.sub (by repeat first | exact S0 | exact S1 | refine S2 ?_ | refine S3 ?_), ?_⟩; refine TS.run 1 rfl ?_; refine TS.done ?_; refine K.seq (T.ret ?_); exact K.ag rfl rfl (fun w' hw => ⟨(g, v'), hv', rfl, hw.sub (by repeat first | exact S0 | exact S1 | refine S2 ?_ | refine S3 ?_)⟩)
  · rintro e w' ⟨⟨g, v'⟩, hv', rfl, hw⟩; refine ⟨({ k with sp := g }, v'), F, ⟨h.sp g, tf⟩, rfl, ⟨Frz.Le.refl _, hF.below hw.isBelow, ?_, fun g hg => .inl hg, fun e he q hq hS => ?_⟩⟩
    · rw [zhk]; exact zg4 hw
    · simp at he; subst he; have h2 := (zg4 hw).new _ (by simp) q hq; have := (hF.cb hS).lt; rcases h2 with h2 | h2
      · exact h2
      · omega
end
end Go.Proofs.YtbpbhbkcahcdiaaGreatDoor
namespace Go.Proofs.YtbpbhbkcahcdiaaGreatDoor
open Go.RowKit
abbrev vI (z : Int) : Value := .int .i64 z
abbrev Vec (n : Nat) (α : Type) := { l : List α // l.length = n }
def Vec.fill {α : Type} (n : Nat) (v : α) : Vec n α := ⟨List.replicate n v, List.length_replicate⟩
instance {n : Nat} {α : Type} [Inhabited α] : Inhabited (Vec n α) := ⟨Vec.fill n default⟩
def Vec.get {n : Nat} {α : Type} [Inhabited α] (x : Vec n α) (i : Nat) : α := nth x.1 i
def Vec.put {n : Nat} {α : Type} (x : Vec n α) (i : Nat) (v : α) : Vec n α := ⟨x.1.set i v, by rw [List.length_set, x.2]⟩
theorem Vec.get_fill {α : Type} [Inhabited α] {n i : Nat} {v : α} (h : i < n) : (Vec.fill n v).get i = v := by
  unfold Vec.get Vec.fill; rw [zao (by simpa using h)]; simp
theorem Vec.get_put {α : Type} [Inhabited α] {n i j : Nat} {x : Vec n α} {v : α} (h : i < n) : (x.put i v).get j = if j = i then v else x.get j := by
  unfold Vec.get Vec.put; (have hx : i < x.1.length := by rw [x.2]; exact h); unfold nth; rw [List.getD_eq_getElem?_getD, List.getD_eq_getElem?_getD]; by_cases e : j = i
  · rw [if_pos e, e, List.getElem?_set_self hx]; rfl
  · rw [if_neg e, List.getElem?_set_ne (fun h => e h.symm)]
section
variable {α : Type} [Inhabited α] {n i j m p : Nat} {x : Vec n α} {f : α → Value} {a b l r : List Value} {v : Value}
theorem Vec.len : (x.1.map f).length = n := by rw [List.length_map, x.2]
theorem Vec.cell (h : i < n) : (x.1.map f)[i]? = some (f (x.get i)) := by
  unfold Vec.get; rw [List.getElem?_map, List.getElem?_eq_getElem (by rw [x.2]; exact h), zao (by rw [x.2]; exact h)]; rfl
theorem Vec.upd {v : α} (h : i < n) : (x.1.map f).set i (f v) = (x.put i v).1.map f := by
  show _ = (x.1.set i v).map f
  rw [List.map_set]
theorem zcL (hp : p = i) (h : l[i]? = some v) : l[p]? = some v := by rw [hp]; exact h
theorem zhi {u : Value} (hp : p = i) (h : l.set i u = r) : l.set p u = r := by rw [hp]; exact h
theorem zhq (ha : a.length = m) (hi : i < m) (h : a[i]? = some v) : (a ++ b)[i]? = some v := by
  rw [List.getElem?_append_left (by omega)]; exact h
theorem zdf (ha : a.length = m) (h : b[j]? = some v) : (a ++ b)[m + j]? = some v := by
  rw [List.getElem?_append_right (by omega), ha, show m + j - m = j by omega]; exact h
theorem zhY {u : Value} (ha : a.length = m) (h : b.set j u = r) : (a ++ b).set (m + j) u = a ++ r := by
  rw [List.set_append_right _ _ (by omega), ha, show m + j - m = j by omega, h]
theorem zcx {k : Nat} (ha : a.length = m) (hb : b.length = k) : (a ++ b).length = m + k := by rw [List.length_append, ha, hb]
instance OneCs.vmap {β : Type} {g : β → Value} {y : List β} [h : ∀ z, OneC (g z)] : OneCs (y.map g) := ⟨fun z hz => by obtain ⟨b, _, rfl⟩ := List.mem_map.1 hz; exact (h b).h⟩
instance OneCs.cat [h : OneCs a] [k : OneCs b] : OneCs (a ++ b) := ⟨fun z hz => (List.mem_append.1 hz).elim (h.h z) (k.h z)⟩
end
section
variable {P : Program} {n : Nat} {B D : World} {M : Nat → Prop} {fs : SFs} {hs : HS} {o : Oper} {v : Value}
theorem Ew.bf {t : TypeId} {z l : List Value} [hT : TyZ P t z] (ho : o.op = .alloc t) (hz : z = l) : Ew P n B M fs hs o (fun v hs' => ∃ g, v = .pointer (some ⟨g, 0, none⟩) ∧ hs' = .row g t l :: hs) := by
  subst hz; exact Ew.alloc ho
theorem ze9 {place : Nat → Option (Nat × Nat)} {l l1 m : List Value} {l2 : Array Value} {i off size : Nat} {v : Value} {ps : List (Nat × Value)} (hp : place i = some (off, size)) (hc : v.cells = m.toArray) (hs : m.length = size) (h1 : zcT l off m = l1) (hb : off + m.length ≤ l.length) (h2 : Instr.fill place l1.toArray ps = some l2) : Instr.fill place l.toArray ((i, v) :: ps) = some l2 := by
  obtain ⟨l2'⟩ := l2; haveI : Place place i off size := ⟨hp⟩; haveI : Cells v m := ⟨hc⟩; haveI : Splice l off m l1 := ⟨h1, hb⟩; haveI : Fill place l1 ps l2' := ⟨h2⟩; haveI : LenIs m size := ⟨hs⟩; exact (inferInstance : Fill place l ((i, v) :: ps) l2').h
theorem zil {l r : List Value} {off : Nat} {v : Value} (h : off < l.length) (hr : l.set off v = r) : zcT l off [v] = r := by
  rw [← hr]; exact zel l off v h
theorem zfw {a b m : List Value} (h : a.length = m.length) : zcT (a ++ b) 0 m = m ++ b := by
  simp [zcT, ← h]
theorem Yv.bP {t : TypeId} {ps : Array (Nat × Operand)} {vs : List (Nat × Value)} {z l0 l : List Value} [hS : TySt P t] [hZ : TyZ P t z] (ho : o.op = .build t ps) (hv : evPs fs ps.toList = some vs) (hz : z = l0) (hF : Instr.fill (ze5 P t) l0.toArray vs = some l.toArray) : Yv P n B M fs hs o (.agg l.toArray) := by
  subst hz; haveI : Fill (ze5 P t) z vs l := ⟨hF⟩; exact Yv.build ho hv
end
end Go.Proofs.YtbpbhbkcahcdiaaGreatDoor
namespace Go.Proofs.YtbpbhbkcahcdiaaGreatDoor
open Go.RowKit
section
variable {B : World} {M S0 : Nat → Prop} {hs : HS} {F : FzB B M S0}
def FzB.addE {w : World} (F : FzB B M S0) (hF : F.toFrz.At w) (T : Nat → Prop) (hc : ∀ g, T g → Cb w g) (hb : ∀ g, T g → M g ∨ B.heap.size ≤ g) : FzB B M S0 where
  S k := F.S k ∨ T k
  w := w
  c k hk := hk.elim (fun h => hF.cb h) (hc k)
  base k hk h1 h2 := by
    rcases hk with h | h
    · rw [hF k h, F.base k h h1 h2]
    · rcases hb k h with h3 | h3
      · exact absurd h3 h2
      · omega
  new k hk := hk.elim (F.new k) (fun h => .inr (hb k h))
theorem Hp.freezeE {w : World} {i j : Nat} {e : Ent} (hw : Hp B M hs w) (hij : i ≠ j) (hi : hs[i]? = some (.fr F)) (hj : hs[j]? = some e) (hc : ∀ g, e.fp g → Cb w g) :
    ∃ G : FzB B M S0, F.toFrz.Le G.toFrz ∧ (∀ w', G.toFrz.At w' → e.ok w') ∧ Hp B M ((hs.set i (.fr G)).eraseIdx j) w := by
  have hF := hw.fr hi; have hb := hw.new e (List.mem_of_getElem? hj); refine ⟨F.addE hF e.fp hc hb, fun k hk => ⟨.inl hk, hF k hk⟩, fun w' hw' => e.loc (fun g hg => hw' g (.inr hg)) (hw.get hj), ?_⟩; obtain ⟨r, h1, h2⟩ := zds (a' := .fr (F.addE hF e.fp hc hb)) hij hi hj; refine Hp.perm ?_ h2.symm; refine Hp.repl (hw.perm h1) ?_ ?_ (List.pairwise_singleton _ _)
  · intro x hx; simp at hx; subst hx; exact Ent.fr_ok.2 (fun k hk => rfl)
  · intro x hx k hk; simp at hx; subst hx; have h := Ent.fr_fp.1 hk; rcases h.1 with h3 | h3
    · exact ⟨_, by simp, Ent.fr_fp.2 ⟨h3, h.2⟩⟩
    · exact ⟨e, by simp, h3⟩
end
theorem zlR {k : SK} {v : Value} {L : Ws} {b : Bool} {w : World} (h : (st2 k v L b).ok w) : ∀ g, (st2 k v L b).fp g → Cb w g := fun g hg => by
  have h1 := (Ent.bag_ok.1 h).1; obtain ⟨e, he, hg⟩ := Ent.bag_fp.1 hg; simp at he; rcases he with rfl | rfl
  · have := Ent.row_fp.1 hg; subst this; exact ⟨_, _, _, Ent.row_ok.1 (h1 _ (List.mem_cons_self ..))⟩
  · have h2 := Ent.sl_fp.1 hg; rcases (Ent.sl_ok.1 (h1 (.sl v 88 1 k.Y.n (Ws.cells L)) (by simp))).2 with ⟨rfl, _⟩ | ⟨g', cap, cur, rfl, _, hgg, _⟩
    · cases h2
    · simp [Value.ownBlock] at h2; subst h2; exact ⟨_, _, _, hgg⟩
def SzF (F : Frz) (k : SK) (v : Value) (L : Ws) (b : Bool) : Prop := ∀ w, F.At w → (st2 k v L b).ok w
theorem SzF.mono {F G : Frz} {k : SK} {v : Value} {L : Ws} {b : Bool} (h : SzF F k v L b) (hle : F.Le G) : SzF G k v L b := fun w hw => h w (hw.le hle)
theorem Hp.freezeSt {B w : World} {M S0 : Nat → Prop} {hs : HS} {F : FzB B M S0} {i j : Nat} {k : SK} {v : Value} {L : Ws} {b : Bool} (hw : Hp B M hs w) (hij : i ≠ j) (hi : hs[i]? = some (.fr F)) (hj : hs[j]? = some (st2 k v L b)) :
    ∃ G : FzB B M S0, (F.toFrz.Le G.toFrz ∧ SzF G.toFrz k v L b) ∧ Hp B M ((hs.set i (.fr G)).eraseIdx j) w := by
  obtain ⟨G, h1, h2, h3⟩ := hw.freezeE hij hi hj (zlR (hw.get hj)); exact ⟨G, ⟨h1, h2⟩, h3⟩
end Go.Proofs.YtbpbhbkcahcdiaaGreatDoor
namespace Go.Proofs.YtbpbhbkcahcdiaaGreatDoor
open Go.RowKit
def R_List_GChoice.rep (F : Frz) (c : List Value) (x : List GChoice) : Prop := ∃ (v0 : Value), c = [v0] ∧ SlC F v0 2 (x.map GChoice.enc)
theorem R_List_GChoice.mono {F G : Frz} {c : List Value} {x : List GChoice} (hle : F.Le G) (h : R_List_GChoice.rep F c x) : R_List_GChoice.rep G c x := by
  obtain ⟨v0, h0, h1⟩ := h; exact ⟨v0, h0, h1.mono hle⟩
theorem R_List_GChoice.len {F : Frz} {c : List Value} {x : List GChoice} (h : R_List_GChoice.rep F c x) : c.length = 1 := by
  obtain ⟨v0, h0, h1⟩ := h; subst h0; rfl
theorem R_List_GChoice.one {F : Frz} {c : List Value} {x : List GChoice} (h : R_List_GChoice.rep F c x) : OneCs c := by
  obtain ⟨v0, h0, h1⟩ := h; subst h0; haveI := h1.oneC
  infer_instance
theorem R_List_GChoice.c0 {F : Frz} {c : List Value} {x : List GChoice} (h : R_List_GChoice.rep F c x) : c[0]? = some (nth c 0) ∧ SlC F (nth c 0) 2 (x.map GChoice.enc) := by
  obtain ⟨v0, h0, h1⟩ := h; subst h0; exact ⟨rfl, h1⟩
theorem R_List_GChoice.form {F : Frz} {c : List Value} {x : List GChoice} (h : R_List_GChoice.rep F c x) : (c.drop 0).take 1 = [nth c 0] := by
  obtain ⟨v0, h0, h1⟩ := h; subst h0; rfl
def zaO (l : List GChoice) (g_ : List GChoice) : Bool :=
  zaF (fun (_ : Unit) =>
    true)
  (fun k1 =>
    zah (fun (i_3 : Nat) (next2 : Unit → Bool) (_ : Unit) =>
      zaF (fun (has_5 : Bool) =>
        (bif !has_5 then
          false
          else
          next2 ()))
      (fun k6 =>
        zah (fun (k_9 : Nat) (next8 : Bool → Bool) (has_7 : Bool) =>
          (bif has_7 then
            next8 true
            else
            next8 (decide ((nth l k_9).Station = (nth g_ i_3).Station) && decide ((nth l k_9).Channel = (nth g_ i_3).Channel))))
        (fun (has_7 : Bool) =>
          k6 has_7) (l.length - 0) 0 false))
    (fun (_ : Unit) =>
      k1 ()) (g_.length - 0) 0 ())
theorem zep (F0 : Frz) (w : World) (hF0 : F0.At w) (l : List GChoice) (vl : Value) (hl : SlC F0 vl 2 (l.map GChoice.enc)) (g_ : List GChoice) (vg_ : Value) (hg_ : SlC F0 vg_ 2 (g_.map GChoice.enc)) : Calls Tryz.prog 16 #[vl, vg_] w fun e w' => e = .returned (.bool (zaO l g_)) ∧ Below w.heap.size w w' := by
  obtain ⟨r, hk⟩ : ∃ r, zaO l g_ = r := ⟨_, rfl⟩; rw [hk]; unfold zaO at hk; haveI := hl.oneC; haveI := hg_.oneC; obtain ⟨S0, F1, rfl, hS0, hp0⟩ := zaq hF0; refine zad (M := fun _ => False) (hs := [.fr F1]) Tryz.func16 rfl rfl rfl hp0 ?_; refine T.seq (T.region ?_); refine TL.run 1 rfl ?_; refine TL.nil (K.seq (T.seq (T.seq (T.region ?_)))); refine TL.run 1 rfl ?_; refine TL.nil (K.seq ?_); have hq := zag hk; clear hk; obtain ⟨k1, hk1, hk⟩ := hq; (try dsimp only at hk); refine T.ao (ι := Unit) (fun z => []) (fun z => [.fr F1]) (fun z => k1 () = r) ?_ ?_
  · have hq := zan hk; clear hk; obtain ⟨f2, kk2, hf2, hkk2, hk⟩ := hq; refine T.block ?_; refine T.loop (ι := Nat) (fun z => [(0, vl), (1, vg_), (5, .int .i64 (z : Int))]) (fun z => [.fr F1]) (fun z => zah f2 kk2 (g_.length - z) z () = r) (fun z => g_.length - z) 0 ?_ ?_ ?_ ?_
    · exact hk
    · exact (.c (.c (.c .nil)))
    · exact List.Sublist.refl _
    · rintro i_3 hk; refine T.seq (T.seq (T.region ?_)); refine TL.run 2 rfl ?_; refine TL.y (Yv.aA rfl rfl hg_ (List.length_map _)) ?_; have hm10 : g_.length ≤ 9223372036854775807 := (List.length_map _) ▸ hg_.max; refine TL.run 1 rfl ?_; refine TL.nil (K.seq ?_); refine T.cond rfl (fun h4 => ?_) (fun h4 => ?_)
      · have p4 := of_decide_eq_true h4; rw [zaE (by omega)] at hk; generalize hn2 : zah f2 kk2 (g_.length - (i_3 + 1)) (i_3 + 1) = next2 at hk; rw [← hf2] at hk; (try dsimp only at hk); refine T.skip (K.seq (T.seq (T.block (T.seq (T.region ?_))))); refine TL.run 1 rfl ?_; refine TL.nil (K.seq (T.seq (T.seq (T.region ?_)))); refine TL.run 1 rfl ?_; refine TL.nil (K.seq ?_); have hq := zag hk; clear hk; obtain ⟨k6, hk6, hk⟩ := hq; (try dsimp only at hk); refine T.ao (ι := Bool) (fun z => [(0, vl), (1, vg_), (5, .int .i64 (i_3 : Int)), (6, .bool z)]) (fun z => [.fr F1]) (fun z => k6 z = r) ?_ ?_
        · have hq := zan hk; clear hk; obtain ⟨f8, kk8, hf8, hkk8, hk⟩ := hq; refine T.block ?_; refine T.loop (ι := Nat × Bool) (fun z => [(0, vl), (1, vg_), (5, .int .i64 (i_3 : Int)), (6, .bool z.2), (7, .int .i64 (z.1 : Int))]) (fun z => [.fr F1]) (fun z => zah f8 kk8 (l.length - z.1) z.1 z.2 = r) (fun z => l.length - z.1) (0, false) ?_ ?_ ?_ ?_
          · exact hk
          · exact (.c (.c (.c (.c (.c .nil)))))
          · exact List.Sublist.refl _
          · rintro ⟨k_9, has_7⟩ hk; (try dsimp only at *); refine T.seq (T.seq (T.region ?_)); refine TL.run 2 rfl ?_; refine TL.y (Yv.aA rfl rfl hl (List.length_map _)) ?_; have hm16 : l.length ≤ 9223372036854775807 := (List.length_map _) ▸ hl.max; refine TL.run 1 rfl ?_; refine TL.nil (K.seq ?_); refine T.cond rfl (fun h10 => ?_) (fun h10 => ?_)
            · have p10 := of_decide_eq_true h10; rw [zaE (by omega)] at hk; generalize hn8 : zah f8 kk8 (l.length - (k_9 + 1)) (k_9 + 1) = next8 at hk; rw [← hf8] at hk; (try dsimp only at hk); refine T.skip (K.seq (T.seq (T.block ?_))); refine T.aw (.still 0 (.still 1 (.still 2 (.still 3 (.still 4 (.still 5 (.still 6 (.still 7 (.still 8 (.still 9 (.still 10 (.still 11 (.still 12 .done))))))))))))) _ (by kernel_rfl) (List.Sublist.refl _) ?_; refine TS.run 2 rfl ?_; refine TS.gs rfl rfl rfl rfl (fun h11 => ?_) (fun h11 => ?_)
              · have p11 := h11; (try simp only [nfB] at p11); replace hk := zab hk h11; refine TS.run 11 rfl ?_; refine TS.done ?_; refine K.ad (K.seq (T.region ?_)); refine TL.run 1 rfl ?_; refine TL.y (Yv.am rfl rfl rfl (by omega)) ?_; refine TL.run 1 rfl ?_; refine TL.nil ?_; rw [← hn8] at hk; exact K.next ((k_9 + 1), true) hk (by dsimp only; omega) (.c (.c (.c (.c (.c .nil))))) (List.Sublist.refl _)
              · have p11 := h11; (try simp only [nfB] at p11); replace hk := zaa hk h11; refine TS.run 2 rfl ?_; refine TS.y rfl (Yv.az (i := k_9) rfl rfl rfl hl (List.length_map _) rfl (by omega)) ?_; refine TS.y rfl (Yv.aE 0 (i := k_9) rfl rfl rfl hl (by omega) rfl rfl rfl) ?_; refine TS.run 2 rfl ?_; refine TS.y rfl (Yv.az (i := i_3) rfl rfl rfl hg_ (List.length_map _) rfl (by omega)) ?_; refine TS.y rfl (Yv.aE 0 (i := i_3) rfl rfl rfl hg_ (by omega) rfl rfl rfl) ?_; refine TS.y rfl (Yv.cz (by kernel_rfl) rfl rfl rfl) ?_; refine TS.run 2 rfl ?_; refine TS.done ?_; refine K.ad (K.seq (T.region ?_)); refine TL.run 1 rfl ?_; refine TL.y (Yv.am rfl rfl rfl (by omega)) ?_; refine TL.run 1 rfl ?_; refine TL.nil ?_; rw [← hn8] at hk; exact K.next ((k_9 + 1), (decide ((nth l k_9).Station = (nth g_ i_3).Station) && decide ((nth l k_9).Channel = (nth g_ i_3).Channel))) hk (by dsimp only; omega) (.c (.c (.c (.c (.c .nil))))) (List.Sublist.refl _)
            · have p10 := of_decide_eq_false h10; rw [zaC (by omega), ← hkk8] at hk; (try dsimp only at hk); refine T.exit (K.ac (K.ac (K.ae ?_))); exact K.ak has_7 hk (.c (.c (.c (.c .nil)))) (List.Sublist.refl _)
        · rintro has_5 hk; rw [← hk6] at hk; (try dsimp only at hk); refine T.seq (T.region ?_); refine TL.run 2 rfl ?_; refine TL.nil (K.seq ?_); refine T.cond rfl (fun h12 => ?_) (fun h12 => ?_)
          · have p12 := h12; (try simp only [nfB] at p12); replace hk := zab hk h12; refine T.seq (T.region ?_); refine TL.run 1 rfl ?_; refine TL.nil (K.seq (T.ret (K.ah (K.aa (K.aa (K.ah (K.aa ?_))))))); subst hk; exact K.ag rfl rfl (fun w' hw => ⟨rfl, hw.isBelow⟩)
          · have p12 := h12; (try simp only [nfB] at p12); replace hk := zaa hk h12; refine T.skip (K.ad (K.seq (T.region ?_))); refine TL.run 1 rfl ?_; refine TL.y (Yv.am rfl rfl rfl (by omega)) ?_; refine TL.run 1 rfl ?_; refine TL.nil ?_; rw [← hn2] at hk; exact K.next (i_3 + 1) hk (by omega) (.c (.c (.c .nil))) (List.Sublist.refl _)
      · have p4 := of_decide_eq_false h4; rw [zaC (by omega), ← hkk2] at hk; (try dsimp only at hk); refine T.exit (K.ac (K.ac (K.ae ?_))); exact K.ak () hk .nil (List.Sublist.refl _)
  · rintro _ hk; rw [← hk1] at hk; (try dsimp only at hk); refine T.seq (T.region ?_); refine TL.run 1 rfl ?_; refine TL.nil (K.seq (T.ret ?_)); subst hk; exact K.ag rfl rfl (fun w' hw => ⟨rfl, hw.isBelow⟩)
def zbl (p : GProblem) (g_ : List GChoice) : Option Bool :=
  (zbM p).bind fun r8 =>
  (bif ((!r8) || (!(zaS g_))) then
    some false
    else
    zaF (fun (_ : Unit) =>
      some true)
    (fun k3 =>
      zah (fun (i_5 : Nat) (next4 : Unit → Option Bool) (_ : Unit) =>
        zaF (fun (x_7 : Bool) =>
          (bif x_7 then
            some false
            else
            next4 ()))
        (fun k8 =>
          (bif decide ((zac p ((nth g_ i_5).Station)) < 0) then
            k8 true
            else
            grd (0 ≤ (zac p ((nth g_ i_5).Station)) ∧ (zac p ((nth g_ i_5).Station)) < (p.Domains.length : Int)) <|
            k8 (!(zbk ((nth p.Domains ((zac p ((nth g_ i_5).Station)).toNat)).Channels) ((nth g_ i_5).Channel))))))
      (fun (_ : Unit) =>
        k3 ()) (g_.length - 0) 0 ()))
theorem zfV (F0 : Frz) (w : World) (hF0 : F0.At w) (p : GProblem) (vp_0 : Value) (cp_0 : List (List Value)) (hp_0 : SlD GDomain.rep F0 vp_0 2 cp_0 p.Domains) (vp_1 : Value) (hp_1 : SlC F0 vp_1 5 (p.Rules.Pairs.map GPair.enc)) (vp_2 : Value) (hp_2 : SlC F0 vp_2 5 (p.Rules.Loads.map GLoad.enc)) (vp_3 : Value) (hp_3 : SlC F0 vp_3 4 (p.Rules.Caps.map GCap.enc)) (g_ : List GChoice) (vg_ : Value) (hg_ : SlC F0 vg_ 2 (g_.map GChoice.enc)) (r : Bool) (hr : zbl p g_ = some r) : Calls Tryz.prog 24 #[.agg [vp_0, vp_1, vp_2, vp_3].toArray, vg_] w fun e w' => e = .returned (.bool r) ∧ Below w.heap.size w w' := by
  have hk := hr; unfold zbl at hk; haveI := hp_0.1.oneC; haveI := hp_1.oneC; haveI := hp_2.oneC; haveI := hp_3.oneC; haveI := hg_.oneC; obtain ⟨S0, F1, rfl, hS0, hp0⟩ := zaq hF0; refine zad (M := fun _ => False) (hs := [.fr F1]) Tryz.func24 rfl rfl rfl hp0 ?_; refine T.seq (T.region ?_); refine TL.e (Ew.aB rfl rfl) ?_; rintro _ _ ⟨g2, rfl, rfl⟩; refine TL.run 1 rfl ?_; refine TL.nil (K.seq (T.seq (T.seq ?_))); have hq := zak hk; clear hk; obtain ⟨r8, hr8, hk⟩ := hq; (try dsimp only at hk); refine T.ao (ι := Unit) (fun z => [(1, vg_), (2, .pointer (some ⟨g2, 0, none⟩)), (14, .bool ((!r8) || (!(zaS g_))))]) (fun z => [.row g2 29 [vp_0, vp_1, vp_2, vp_3], .fr F1]) (fun z => True) ?_ ?_
  · refine T.region ?_; refine TL.y (Yv.al 0 rfl rfl rfl rfl) ?_; refine TL.e (Ew.af rfl rfl rfl (fun w hw => zfG _ w (hw.fr (i := 1) rfl) p vp_0 cp_0 hp_0 vp_1 hp_1 vp_2 hp_2 vp_3 hp_3 r8 hr8)) ?_; rintro _ _ ⟨rfl, rfl⟩; refine TL.run 2 rfl ?_; refine TL.gs rfl rfl rfl (fun h1 => ?_) (fun h1 => ?_)
    · have p1 := h1; (try simp only [nfB] at p1); refine TL.run 4 rfl ?_; refine TL.nil ?_; exact K.ak () trivial (.c (.c (.b (zbD h1).symm .nil))) (List.Sublist.refl _)
    · have p1 := h1; (try simp only [nfB] at p1); refine TL.run 1 rfl ?_; refine TL.e (Ew.af rfl rfl rfl (fun w hw => zec _ w (hw.fr (i := 1) rfl) g_ vg_ hg_)) ?_; rintro _ _ ⟨rfl, rfl⟩; refine TL.run 2 rfl ?_; refine TL.nil ?_; exact K.ak () trivial (.c (.c (.b (or_f h1) .nil))) (List.Sublist.refl _)
  · rintro _ _; refine T.cond rfl (fun h2 => ?_) (fun h2 => ?_)
    · have p2 := h2; (try simp only [nfB] at p2); replace hk := zab hk h2; refine T.seq (T.region ?_); refine TL.run 1 rfl ?_; refine TL.nil (K.seq (T.ret (K.aa ?_))); obtain rfl := Option.some.inj hk; exact K.ag rfl rfl (fun w' hw => ⟨rfl, hw.isBelow⟩)
    · have p2 := h2; (try simp only [nfB] at p2); replace hk := zaa hk h2; refine T.skip (K.seq (T.seq (T.seq (T.region ?_)))); refine TL.run 1 rfl ?_; refine TL.nil (K.seq ?_); have hq := zag hk; clear hk; obtain ⟨k3, hk3, hk⟩ := hq; (try dsimp only at hk); refine T.ao (ι := Unit) (fun z => []) (fun z => [.fr F1]) (fun z => k3 () = some r) ?_ ?_
      · have hq := zan hk; clear hk; obtain ⟨f4, kk4, hf4, hkk4, hk⟩ := hq; refine T.block ?_; refine T.loop (ι := Nat) (fun z => [(1, vg_), (2, .pointer (some ⟨g2, 0, none⟩)), (5, .int .i64 (z : Int))]) (fun z => [.row g2 29 [vp_0, vp_1, vp_2, vp_3], .fr F1]) (fun z => zah f4 kk4 (g_.length - z) z () = some r) (fun z => g_.length - z) 0 ?_ ?_ ?_ ?_
        · exact hk
        · exact (.c (.c (.c .nil)))
        · exact List.Sublist.refl _
        · rintro i_5 hk; refine T.seq (T.seq (T.region ?_)); refine TL.run 2 rfl ?_; refine TL.y (Yv.aA rfl rfl hg_ (List.length_map _)) ?_; have hm17 : g_.length ≤ 9223372036854775807 := (List.length_map _) ▸ hg_.max; refine TL.run 1 rfl ?_; refine TL.nil (K.seq ?_); refine T.cond rfl (fun h6 => ?_) (fun h6 => ?_)
          · have p6 := of_decide_eq_true h6; rw [zaE (by omega)] at hk; generalize hn4 : zah f4 kk4 (g_.length - (i_5 + 1)) (i_5 + 1) = next4 at hk; rw [← hf4] at hk; (try dsimp only at hk); refine T.skip (K.seq (T.seq (T.block (T.seq ?_)))); refine T.aw (.still 0 (.still 1 (.still 2 (.still 3 (.still 4 (.still 5 (.eff 6 (.still 7 .done)))))))) _ (by kernel_rfl) (List.Sublist.refl _) ?_; refine TS.y rfl (Yv.al 0 rfl rfl rfl rfl) ?_; refine TS.run 2 rfl ?_; refine TS.y rfl (Yv.az (i := i_5) rfl rfl rfl hg_ (List.length_map _) rfl (by omega)) ?_; refine TS.y rfl (Yv.aQ rfl rfl hg_ (List.length_map _) (by omega)) ?_; refine TS.y rfl (Yv.aD 1 (i := i_5) (j := 0) rfl rfl rfl hg_ (by omega) rfl rfl) ?_; refine TS.eff ?_; refine TSo.aL rfl (Wt.none rfl) rfl rfl (Ew.af rfl rfl rfl (fun w hw => zbF _ w (hw.fr (i := 1) rfl) p vp_0 cp_0 hp_0 vp_1 hp_1 vp_2 hp_2 vp_3 hp_3 ((nth g_ i_5).Station))) ?_; rintro _ _ ⟨rfl, rfl⟩; refine ⟨(fun w hw => hw.sub (by repeat first | exact S0 | exact S1 | refine S2 ?_ | refine S3 ?_)), ?_⟩; refine TS.run 1 rfl ?_; refine TS.done ?_; refine K.seq (T.seq ?_); (try dsimp only at hk); have hq := zag hk; clear hk; obtain ⟨k8, hk8, hk⟩ := hq; (try dsimp only at hk); refine T.ao (ι := Bool) (fun z => [(1, vg_), (2, .pointer (some ⟨g2, 0, none⟩)), (5, .int .i64 (i_5 : Int)), (44, .bool z)]) (fun z => [.row g2 29 [vp_0, vp_1, vp_2, vp_3], .fr F1]) (fun z => k8 z = some r) ?_ ?_
            · refine T.aw (.still 0 (.still 1 (.still 2 (.still 3 (.still 4 (.still 5 (.still 6 (.still 7 (.still 8 (.still 9 (.still 10 (.still 11 (.still 12 (.still 13 (.eff 14 (.still 15 (.still 16 .done))))))))))))))))) _ (by kernel_rfl) (List.Sublist.refl _) ?_; refine TS.run 3 rfl ?_; refine TS.gs rfl rfl rfl rfl (fun h9 => ?_) (fun h9 => ?_)
              · have p9 := of_decide_eq_true h9; replace hk := zab hk h9; refine TS.run 11 rfl ?_; refine TS.eff ?_; refine TSo.off rfl (Wt.not rfl rfl rfl rfl) rfl rfl ?_; refine TS.run 2 rfl ?_; refine TS.done ?_; exact K.ak true hk (.c (.c (.c (.c .nil)))) (List.Sublist.refl _)
              · have p9 := of_decide_eq_false h9; replace hk := zaa hk h9; refine TS.y rfl (Yv.fieldAddr rfl rfl) ?_; refine TS.y rfl (Yv.ab 0 rfl rfl rfl rfl) ?_; refine TS.run 1 rfl ?_; have hq : (0 ≤ (zac p ((nth g_ i_5).Station)) ∧ (zac p ((nth g_ i_5).Station)) < (p.Domains.length : Int)) ∧ _ := zbi hk; clear hk; obtain ⟨g34, hk⟩ := hq; refine TS.y rfl (Yv.az (i := (zac p ((nth g_ i_5).Station)).toNat) rfl rfl rfl hp_0.1 hp_0.2.1 (by omega) (by omega)) ?_; refine TS.y rfl (Yv.aQ rfl rfl hp_0.1 hp_0.2.1 (by omega)) ?_; refine TS.y rfl (Yv.loadR 1 (i := (zac p ((nth g_ i_5).Station)).toNat) (j := 1) rfl rfl rfl hp_0.1 hp_0.2.1 (by omega) rfl (GDomain.c1 (hp_0.2.2 ((zac p ((nth g_ i_5).Station)).toNat) (by omega))).1) ?_; have hd36_1 := (GDomain.c1 (hp_0.2.2 ((zac p ((nth g_ i_5).Station)).toNat) (by omega))).2; haveI := hd36_1.oneC; refine TS.run 2 rfl ?_; refine TS.y rfl (Yv.az (i := i_5) rfl rfl rfl hg_ (List.length_map _) rfl (by omega)) ?_; refine TS.y rfl (Yv.aQ rfl rfl hg_ (List.length_map _) (by omega)) ?_; refine TS.y rfl (Yv.aD 1 (i := i_5) (j := 1) rfl rfl rfl hg_ (by omega) rfl rfl) ?_; refine TS.eff ?_; refine TSo.aL rfl (Wt.some rfl rfl rfl rfl) rfl rfl (Ew.af rfl rfl rfl (fun w hw => zg0 _ w (hw.fr (i := 1) rfl) ((nth p.Domains ((zac p ((nth g_ i_5).Station)).toNat)).Channels) (nth (nth cp_0 ((zac p ((nth g_ i_5).Station)).toNat)) 1) hd36_1 ((nth g_ i_5).Channel))) ?_; rintro _ _ ⟨rfl, rfl⟩; refine ⟨(fun w hw => hw.sub (by repeat first | exact S0 | exact S1 | refine S2 ?_ | refine S3 ?_)), ?_⟩; refine TS.run 2 rfl ?_; refine TS.done ?_; exact K.ak (!(zbk ((nth p.Domains ((zac p ((nth g_ i_5).Station)).toNat)).Channels) ((nth g_ i_5).Channel))) hk (.c (.c (.c (.c .nil)))) (List.Sublist.refl _)
            · rintro x_7 hk; rw [← hk8] at hk; (try dsimp only at hk); refine T.cond rfl (fun h10 => ?_) (fun h10 => ?_)
              · have p10 := h10; (try simp only [nfB] at p10); replace hk := zab hk h10; refine T.seq (T.region ?_); refine TL.run 1 rfl ?_; refine TL.nil (K.seq (T.ret (K.ah (K.aa (K.aa (K.ah (K.aa ?_))))))); obtain rfl := Option.some.inj hk; exact K.ag rfl rfl (fun w' hw => ⟨rfl, hw.isBelow⟩)
              · have p10 := h10; (try simp only [nfB] at p10); replace hk := zaa hk h10; refine T.skip (K.ad (K.seq (T.region ?_))); refine TL.run 1 rfl ?_; refine TL.y (Yv.am rfl rfl rfl (by omega)) ?_; refine TL.run 1 rfl ?_; refine TL.nil ?_; rw [← hn4] at hk; exact K.next (i_5 + 1) hk (by omega) (.c (.c (.c .nil))) (List.Sublist.refl _)
          · have p6 := of_decide_eq_false h6; rw [zaC (by omega), ← hkk4] at hk; (try dsimp only at hk); refine T.exit (K.ac (K.ac (K.ae ?_))); refine K.pick [1] rfl (by decide) ?_; exact K.ak () hk .nil (List.Sublist.refl _)
      · rintro _ hk; rw [← hk3] at hk; (try dsimp only at hk); refine T.seq (T.region ?_); refine TL.run 1 rfl ?_; refine TL.nil (K.seq (T.ret ?_)); obtain rfl := Option.some.inj hk; exact K.ag rfl rfl (fun w' hw => ⟨rfl, hw.isBelow⟩)
end Go.Proofs.YtbpbhbkcahcdiaaGreatDoor
namespace Go.Proofs.YtbpbhbkcahcdiaaGreatDoor
open Go.RowKit
section
variable {P : Program} {n : Nat} {B : World} {M : Nat → Prop} {fs : SFs} {hs : HS} {o : Oper}
theorem zcV {w : World} {v : Value} {e : TypeId} {size k : Nat} {l : List Value} (h : (Ent.sl v e size k l).ok w) : k ≤ 9223372036854775807 := by
  have ho := Ent.sl_ok.1 h; rcases ho.2 with ⟨rfl, h0⟩ | ⟨g, cap, cur, rfl, hb, hg, hnc, hcm, hcs, htake⟩
  · omega
  · unfold maxLen at hcm; omega
theorem Ew.bz {t e : TypeId} {size bytes : Nat} {z : List Value} [hT : TyE P t e size bytes z] (ho : o.op = .buildSlice t 0 #[]) : Ew P n B M fs hs o (fun v hs' => ∃ g, v = .slice (some ⟨g, 0, none⟩) 0 0 ∧ hs' = .sl (.slice (some ⟨g, 0, none⟩) 0 0) e size 0 [] :: hs) := Ew.aT fun a w ha hp => by
  obtain ⟨i, zv, hU, hi, hz, hzc, rfl, rfl, hzs, hpos⟩ := hT.get; refine ⟨_, w.alloc (.cells #[] e), _, ?_, Kp.alloc w _, hp.fresh ((Below.refl _ _).alloc (Nat.le_refl _) _) (Ent.sl_ok.2 (World.ownsRow_made (base := 0) (e := e) (size := i.size) w #[] 0 (Nat.zero_le _) (by unfold maxLen; omega) (by simp))) (fun g hg => ?_), w.heap.size, rfl, rfl⟩
  · unfold execOp; simp [ho, Instr.buildSlice, underlying, hU, sizeOf, typeInfo, hi, Instr.fill, newRow]; rw [show Array.range 0 = #[] from by simp [Array.range]]; simp
  · have := Ent.sl_fp.1 hg; simp [Value.ownBlock] at this; omega
end
section
variable {Fe : Fence} [hFe : Calm Fe] {P : Program} {n : Nat} {B D : World} {M S0 : Nat → Prop} {Q : Exit → Act → World → Prop} {fs : SFs} {hs : HS} {ops : Array Oper}
theorem TL.bl {l : List Oper} {v : Value} {e : TypeId} {size k : Nat} {cs : List Value} (j : Nat) (hj : hs[j]? = some (.sl v e size k cs)) (h : OneC v → k ≤ 9223372036854775807 → TL Fe P n B D M ops Q l fs hs) : TL Fe P n B D M ops Q l fs hs :=
  TL.aZ (ι := Unit) (φ := fun _ => OneC v ∧ k ≤ 9223372036854775807) (hs' := fun _ => hs) (fun w hw => ⟨(), ⟨zcN (hw.get hj), zcV (hw.get hj)⟩, hw⟩) (fun _ hx => h hx.1 hx.2)
theorem TS.bl {hs0 : HS} {r : Ord} {v : Value} {e : TypeId} {size k : Nat} {cs : List Value} (j : Nat) (hj : hs[j]? = some (.sl v e size k cs)) (h : OneC v → k ≤ 9223372036854775807 → TS Fe P n B D M ops Q hs0 r fs hs) : TS Fe P n B D M ops Q hs0 r fs hs :=
  TS.aZ (ι := Unit) (φ := fun _ => OneC v ∧ k ≤ 9223372036854775807) (hs' := fun _ => hs) (fun w hw => ⟨(), ⟨zcN (hw.get hj), zcV (hw.get hj)⟩, hw⟩) (fun _ hx => h hx.1 hx.2)
end
theorem zjf (F0 : Frz) (w : World) (hF0 : F0.At w) (l : List GChoice) (vl : Value) (hl : SlC F0 vl 2 (l.map GChoice.enc)) (hr : room l.length 16) : Calls Tryz.prog 46 #[vl] w fun e w' => ∃ v' : Value, True ∧ e = .returned v' ∧ Hp w (fun _ => False) [.sl v' 50 2 l.length (l.flatMap GChoice.enc)] w' := by
  haveI := hl.oneC; have hl0 := hl; obtain ⟨A, cap, hv, hlc, hcm, hcl, hcs⟩ := hl0; have hlen : (l.map GChoice.enc).length = l.length := List.length_map _; obtain ⟨S0, F1, hF1, hS0, hp0⟩ := zaq hF0
  cases hA : A with
  | none =>
    have h0 : l = [] := by
      cases l with
      | nil => rfl
      | cons x r =>
        obtain ⟨g, off, h1, _⟩ := hcs (by simp); rw [hA] at h1; cases h1
    subst h0; refine zad (M := fun _ => False) (hs := [.fr F1]) Tryz.func46 rfl rfl rfl hp0 ?_; refine T.seq (T.region ?_); refine TL.run 1 rfl ?_; refine TL.nil (K.seq (T.seq (T.seq (T.region ?_)))); refine TL.run 1 rfl ?_; refine TL.y (Yv.bN (v := .bool true) rfl rfl rfl (fun w => by rw [hv, hA]; kernel_rfl)) ?_; refine TL.nil (K.seq ?_); refine T.aK rfl rfl ?_; refine T.seq (T.region ?_); refine TL.run 1 rfl ?_; refine TL.slNil 50 2 ?_; refine TL.nil (K.seq (T.ret (K.aa ?_))); exact K.ag rfl rfl (fun w' hw => ⟨.slice none 0 0, trivial, rfl, hw.sub (by repeat first | exact S0 | exact S1 | refine S2 ?_ | refine S3 ?_)⟩)
  | some a =>
    rw [← hF1] at hl; refine zad (M := fun _ => False) (hs := [.fr F1]) Tryz.func46 rfl rfl rfl hp0 ?_; refine T.seq (T.region ?_); refine TL.run 1 rfl ?_; refine TL.nil (K.seq (T.seq (T.seq (T.region ?_)))); refine TL.run 1 rfl ?_; refine TL.y (Yv.bN (v := .bool false) rfl rfl rfl (fun w => by rw [hv, hA]; kernel_rfl)) ?_; refine TL.nil (K.seq ?_); refine T.aG rfl rfl ?_; refine T.skip (K.seq (T.seq (T.region ?_))); refine TL.e (Ew.bz rfl) ?_; rintro _ _ ⟨g, rfl, rfl⟩; refine TL.run 1 rfl ?_; refine TL.e (Ew.bF 0 1 (k' := l.length) (l' := l.flatMap GChoice.enc) (ziX (enc := GChoice.enc) (fun _ => inferInstance)) rfl rfl rfl rfl rfl hl (by rw [List.length_map]; omega) (by rw [List.nil_append, ← List.flatMap_def]) hr (by decide)) ?_; rintro v' _ ⟨hv', rfl⟩; refine TL.run 1 rfl ?_; refine TL.nil (K.seq (T.ret ?_)); exact K.ag rfl rfl (fun w' hw => ⟨v', trivial, rfl, hw.sub (by repeat first | exact S0 | exact S1 | refine S2 ?_ | refine S3 ?_)⟩)
theorem zga (F0 : Frz) (w : World) (hF0 : F0.At w) (l : List GChoice) (vl : Value) (hl : SlC F0 vl 2 (l.map GChoice.enc)) (hr : room l.length 16) : Calls Tryz.prog 46 #[vl] w fun e w' => ∃ (y : Value) (G : Frz), SlC G y 2 (l.map GChoice.enc) ∧ e = .returned y ∧ Fx F0 w G w' := by
  refine (zjf F0 w hF0 l vl hl hr).mono ?_; rintro e w' ⟨v', _, rfl, hw⟩; obtain ⟨G, h1, h2, h3⟩ := Fx.hp hF0 hw; have h4 := SlK.ent (G := G) (hw.own (.sl v' 50 2 l.length (l.flatMap GChoice.enc)) (by simp)) h2 (h3 _ (by simp)); exact ⟨v', G, h4.toF rfl (fun _ => rfl), rfl, h1⟩
theorem zj6 {F0 : Frz} {w : World} {vd vp vl vc : Value} {cd : List (List Value)} {p : GProblem} (hF0 : F0.At w) (h : PbF F0 vd cd vp vl vc p) :
    Calls Tryz.prog 51 #[.agg [vd, vp, vl, vc].toArray] w fun e w' => e = .returned (.bool (okG p)) ∧ Below w.heap.size w w' := by
  obtain ⟨P, rfl, hP⟩ := zhj h hF0; rw [← zli]; exact zeZ P vd vp vl vc w hP
end Go.Proofs.YtbpbhbkcahcdiaaGreatDoor
