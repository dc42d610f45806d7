/- Sd Yp Lp Ps M9 Yv Lo Of: shortened and put together by squeeze.py. -/
import Derived.Test.YtljgejbmimapdaaDoorQ08
import Derived.Deep.Slices
import Derived.ChangeArms
set_option maxRecDepth 100000
set_option maxHeartbeats 4000000
set_option linter.unusedVariables false
set_option linter.unusedSectionVars false
set_option linter.unusedSimpArgs false
namespace Go.Proofs.YtljgejbmimapdaaDoor
open Go.RowKit
theorem fps_one {e : Ent} : fps [e] = e.fp := by
  funext g
  unfold fps; simp
theorem startFM_ex {F : Frz} {w : World} {e : Ent} (hF : F.At w) (h : e.ok w) (hM : ∀ g, e.fp g → ¬ F.S g) : ∃ (S0 : Nat → Prop) (G : FzB w e.fp S0), G.toFrz = F ∧ (∀ g, S0 g → F.S g) ∧ Hp w e.fp [e, .fr G] w := by
  refine ⟨F.S, Frz.inB hF _, rfl, fun _ h => h, ?_⟩; have := Hp.startFM (es := [e]) hF (by rw [fps_one]; exact Hp.start h) (by rw [fps_one]; exact hM); rw [fps_one] at this; exact this
section
variable {B w : World} {M S0 : Nat → Prop} {hs : HS} {F : FzB B M S0} {e : Ent} {i j : Nat}
theorem Hp.newAt (hw : Hp B M hs w) (hi : hs[i]? = some e) {g : Nat} (hg : e.fp g) : M g ∨ B.heap.size ≤ g := hw.new e (List.mem_of_getElem? hi) g hg
theorem Hp.apartF (hw : Hp B M hs w) (hi : hs[i]? = some e) (hj : hs[j]? = some (.fr F)) (hij : i < j) : ∀ g, e.fp g → ¬ F.toFrz.S g := fun g hg hS =>
  hw.ne hij hi hj hg (Ent.fr_fp.2 ⟨hS, hw.newAt hi hg⟩)
theorem Hp.not0 (hw : Hp B (fun _ => False) hs w) (hi : hs[i]? = some e) (htab : Tab B) : ¬ e.fp 0 := fun hg => by
  rcases hw.newAt hi hg with h | h
  · exact h
  · have h0 := htab 0 (by decide); unfold World.cell? at h0; rw [Array.getElem?_eq_none (by simpa using h)] at h0; simp at h0
end
def stRem (p : GProblem) (m : List GDomain × Bool) : Int := bif m.2 then (totG p.Domains : Int) - (totG m.1 : Int) else 0
theorem tot_take {d : List GDomain} {k : Nat} (hk : k < d.length) : totG (d.take (k + 1)) = totG (d.take k) + (nth d k).Channels.length := by
  unfold totG; rw [List.take_succ_eq_append_getElem hk, nth_eq hk, List.map_append, List.sum_append]; simp
theorem totAt_er {ds : List Dx} : ∀ k, k ≤ ds.length → totAt ds k = (totG ((ds.map Dx.er).take k) : Int)
  | 0, _ => by simp [totAt, totG]
  | k + 1, h => by
    rw [totAt, totAt_er k (by omega), tot_take (by rw [List.length_map]; omega), nth_mapG (by omega)]
    show _ + ((nth ds k).chs.length : Int) = ((_ + (nth ds k).chs.length : Nat) : Int)
    omega
theorem popsum_gd {Y : Tb} {L : Ws} (hl : L.length = Y.n) : ∀ k, k ≤ Y.n → popsum L k = (totG ((gd Y L).take k) : Int)
  | 0, _ => by simp [popsum, totG]
  | k + 1, h => by
    rw [popsum_succ (by omega), popsum_gd hl k (by omega), tot_take (by rw [gd_len]; omega), gd_nth (by omega), pop_chans]
    show _ + ((chansN (nth L k)).length : Int) = ((_ + ((chansN (nth L k)).map fun j : Nat => (j : Int)).length : Nat) : Int)
    rw [List.length_map]; omega
theorem st_removed {p : GProblem} {m : List GDomain × Bool} {k : SK} {L : Ws} {w : World} (h : SI p m k L) (hok : (stE k L (!m.2)).ok w) (htab : Tab w) : Calls Tryd.prog 21 #[.pointer (some ⟨k.sp, 0, none⟩)] w fun e w' => e = .returned (.int .i64 (stRem p m)) ∧ Below w.heap.size w w' := by
  have hs := (h.stF hok htab).st; obtain ⟨P, hP, hok', hY⟩ := h.pb; have hG := Pb.good hok'
  have ht : k.Y.total = (totG p.Domains : Int) := by
    rw [hY.total, totAt_er _ (Nat.le_refl _), ← hP, List.take_of_length_le (by rw [List.length_map]; exact Nat.le_refl _)]; rfl
  have hb : totG p.Domains ≤ 1000000 := by
    have h1 : ∀ x ∈ p.Domains, x.Channels.length ≤ 52 := fun x hx => by
      rw [← hP] at hx; obtain ⟨d, hd, rfl⟩ := List.mem_map.1 hx; exact (hG.chs d hd).1
    have h2 : ∀ d : List GDomain, (∀ x ∈ d, x.Channels.length ≤ 52) → totG d ≤ d.length * 52 := fun d => by
      induction d with
      | nil => intro _; simp [totG]
      | cons x r ih =>
        intro hh; have a1 := hh x (by simp); have a2 := ih (fun y hy => hh y (by simp [hy])); simp only [totG, List.map_cons, List.sum_cons, List.length_cons, Nat.add_mul] at a2 ⊢; omega
    have h3 := h2 _ h1; (have h4 : p.Domains.length = P.ds.length := by rw [← hP]; exact List.length_map _); have h5 := hG.n; rw [h4] at h3; omega
  refine (removed_ret k.sp k.Y L (!m.2) w hs h.ok (by rw [ht]; omega)).mono ?_; rintro e w' ⟨rfl, hb⟩; refine ⟨?_, hb⟩
  congr 2
  unfold removedF stRem
  cases hm : m.2 with
  | false => rfl
  | true =>
    rw [Bool.not_true, if_neg (by simp), cond_true, ht, h.len, popsum_gd h.len _ (Nat.le_refl _), (h.good hm).2.2, List.take_of_length_le (by rw [gd_len]; exact Nat.le_refl _)]
end Go.Proofs.YtljgejbmimapdaaDoor
namespace Go.Proofs.YtljgejbmimapdaaDoor
open Go.RowKit
structure GAct where
  Kind : Int
  Choice : GChoice
deriving DecidableEq, Inhabited
abbrev GAct.enc (x : GAct) : List Value := [.int .i64 x.Kind, .int .i64 x.Choice.Station, .int .i64 x.Choice.Channel]
theorem GAct.len (x : GAct) : (GAct.enc x).length = 3 := rfl
def law18_perform_x (fuel : Nat) (p0_ : GProblem) (m0_ : List GDomain × Bool) (l : List GAct) : Option (List GDomain × Bool) :=
  iterK (fun (i_3 : Nat) (next2 : (List GDomain × Bool) → Option (List GDomain × Bool)) (m_1 : List GDomain × Bool) =>
    (bif decide ((nth l i_3).Kind = 0) then
      (stAct fuel p0_ m_1 true ((nth l i_3).Choice)).bind fun r23 =>
      next2 r23.1
      else
      (stAct fuel p0_ m_1 false ((nth l i_3).Choice)).bind fun r30 =>
      next2 r30.1))
  (fun (m_1 : List GDomain × Bool) =>
    some m_1) (l.length - 0) 0 m0_
theorem law18_perform_c (F0 : Frz) (w : World) (hF0 : F0.At w) (p0_ : GProblem) (m0_ : List GDomain × Bool) (k0_ : SK) (L0_ : Ws) (hs0_ : SI p0_ m0_ k0_ L0_) (ho0_ : (stE k0_ L0_ (!m0_.2)).ok w) (ha0_ : ∀ g, (stE k0_ L0_ (!m0_.2)).fp g → ¬ F0.S g) (hz0_ : ¬ (stE k0_ L0_ (!m0_.2)).fp 0) (l : List GAct) (vl : Value) (hl : SlC F0 vl 3 (l.map GAct.enc)) (htab : Tab w) (fuel : Nat) (hfu : 100000 ≤ fuel) (r : (List GDomain × Bool)) (hr : law18_perform_x fuel p0_ m0_ l = some r) : Calls Tryd.prog 18 #[.pointer (some ⟨k0_.sp, 0, none⟩), vl] w fun e w' => ∃ L, SI p0_ r k0_ L ∧ e = .returned (.tuple #[]) ∧ Hp w (stE k0_ L0_ (!m0_.2)).fp [stE k0_ L (!r.2)] w' := by
  have hk := hr; unfold law18_perform_x at hk; haveI := hl.oneC; obtain ⟨S0, F1, rfl, hS0, hp0⟩ := startFM_ex hF0 ho0_ ha0_; refine calls_T (M := (stE k0_ L0_ (!m0_.2)).fp) (hs := [stE k0_ L0_ (!m0_.2), .fr F1]) Tryd.func18 rfl rfl rfl hp0 ?_; refine T.seq (T.region ?_); refine TL.run 1 rfl ?_; refine TL.nil (K.seq ?_); have hq := iterK_open hk; clear hk; obtain ⟨f2, kk2, hf2, hkk2, hk⟩ := hq; refine T.block ?_; refine T.loop (ι := Nat × (List GDomain × Bool) × Ws) (fun z => [(0, .pointer (some ⟨k0_.sp, 0, none⟩)), (1, vl), (4, .int .i64 (z.1 : Int))]) (fun z => [stE k0_ z.2.2 (!z.2.1.2), .fr F1]) (fun z => iterK f2 kk2 (l.length - z.1) z.1 z.2.1 = some r ∧ SI p0_ z.2.1 k0_ z.2.2) (fun z => l.length - z.1) (0, m0_, L0_) ?_ ?_ ?_ ?_
  · exact ⟨hk, hs0_⟩
  · exact (.c (.c (.c .nil)))
  · exact List.Sublist.refl _
  · rintro ⟨i_3, m_1, Lm_1⟩ ⟨hk, hsm_1⟩; (try dsimp only at *); refine T.seq (T.seq (T.region ?_)); refine TL.run 2 rfl ?_; refine TL.y (Yv.lenR rfl rfl hl (List.length_map _)) ?_; have hm7 : l.length ≤ 9223372036854775807 := (List.length_map _) ▸ hl.max; refine TL.run 1 rfl ?_; refine TL.nil (K.seq ?_); refine T.cond rfl (fun h4 => ?_) (fun h4 => ?_)
    · have p4 := of_decide_eq_true h4; rw [iterK_lt (by omega)] at hk; generalize hn2 : iterK f2 kk2 (l.length - (i_3 + 1)) (i_3 + 1) = next2 at hk; rw [← hf2] at hk; (try dsimp only at hk); refine T.skip (K.seq (T.seq (T.block (T.seq (T.region ?_))))); refine TL.run 2 rfl ?_; refine TL.y (Yv.idxR (i := i_3) rfl rfl rfl hl (List.length_map _) rfl (by omega)) ?_; refine TL.y (Yv.fldR rfl rfl hl (List.length_map _) (by omega)) ?_; refine TL.y (Yv.loadRF 1 (i := i_3) (j := 0) rfl rfl rfl hl (by omega) rfl rfl) ?_; refine TL.run 1 rfl ?_; refine TL.nil (K.seq ?_); refine T.cond rfl (fun h5 => ?_) (fun h5 => ?_)
      · have p5 := of_decide_eq_true h5; replace hk := condT_open hk h5; have hq := bind_open hk; clear hk; obtain ⟨r23, hr23, hk⟩ := hq; (try dsimp only at hk); refine T.region ?_; refine TL.run 3 rfl ?_; refine TL.y (Yv.idxR (i := i_3) rfl rfl rfl hl (List.length_map _) rfl (by omega)) ?_; refine TL.y (Yv.fldR rfl rfl hl (List.length_map _) (by omega)) ?_; refine TL.y (Yv.loadRFP 1 (i := i_3) (j := 1) rfl rfl rfl hl (by omega) rfl rfl rfl) ?_; refine TL.e (Ew.callM 0 rfl rfl rfl rfl (fun w hw => st_assume hsm_1 (hw.get (i := 0) rfl) (htab.kept hw hz0_) hfu ((nth l i_3).Choice) hr23)) ?_; rintro _ _ ⟨L23_, hs23, rfl, rfl⟩; refine TL.nil (K.blk_normal (K.seq (T.region ?_))); refine TL.run 1 rfl ?_; refine TL.y (Yv.addI rfl rfl rfl (by omega)) ?_; refine TL.run 1 rfl ?_; refine TL.nil ?_; rw [← hn2] at hk; exact K.next ((i_3 + 1), r23.1, L23_) ⟨hk, hs23⟩ (by dsimp only; omega) (.c (.c (.c .nil))) (List.Sublist.refl _)
      · have p5 := of_decide_eq_false h5; replace hk := condF_open hk h5; have hq := bind_open hk; clear hk; obtain ⟨r30, hr30, hk⟩ := hq; (try dsimp only at hk); refine T.region ?_; refine TL.run 3 rfl ?_; refine TL.y (Yv.idxR (i := i_3) rfl rfl rfl hl (List.length_map _) rfl (by omega)) ?_; refine TL.y (Yv.fldR rfl rfl hl (List.length_map _) (by omega)) ?_; refine TL.y (Yv.loadRFP 1 (i := i_3) (j := 1) rfl rfl rfl hl (by omega) rfl rfl rfl) ?_; refine TL.e (Ew.callM 0 rfl rfl rfl rfl (fun w hw => st_forbid hsm_1 (hw.get (i := 0) rfl) (htab.kept hw hz0_) hfu ((nth l i_3).Choice) hr30)) ?_; rintro _ _ ⟨L30_, hs30, rfl, rfl⟩; refine TL.nil (K.blk_normal (K.seq (T.region ?_))); refine TL.run 1 rfl ?_; refine TL.y (Yv.addI rfl rfl rfl (by omega)) ?_; refine TL.run 1 rfl ?_; refine TL.nil ?_; rw [← hn2] at hk; exact K.next ((i_3 + 1), r30.1, L30_) ⟨hk, hs30⟩ (by dsimp only; omega) (.c (.c (.c .nil))) (List.Sublist.refl _)
    · have p4 := of_decide_eq_false h4; rw [iterK_ge (by omega), ← hkk2] at hk; (try dsimp only at hk); refine T.exit (K.then_exit (K.then_exit (K.blk_exit_eq ?_))); obtain rfl := Option.some.inj hk; exact K.end0 rfl (fun w' hw => ⟨Lm_1, hsm_1, rfl, hw.sub (by repeat first | exact S0 | exact S1 | refine S2 ?_ | refine S3 ?_)⟩)
end Go.Proofs.YtljgejbmimapdaaDoor
namespace Go.Proofs.YtljgejbmimapdaaDoor
open Go.RowKit
structure FiltD (f : GDomain → GDomain) (φ : Int → Int → Prop) : Prop where
  st : ∀ x, (f x).Station = x.Station
  mem : ∀ x q, q ∈ (f x).Channels ↔ q ∈ x.Channels ∧ φ x.Station q
  sub : ∀ x, (f x).Channels.Sublist x.Channels
  mono : ∀ x y, x.Station = y.Station → x.Channels.Sublist y.Channels → (f x).Channels.Sublist (f y).Channels
theorem FiltD.id : FiltD id (fun _ _ => True) := ⟨fun _ => rfl, fun _ _ => by simp, fun _ => List.Sublist.refl _, fun _ _ _ h => h⟩
theorem FiltD.keep (s c : Int) : FiltD (keepD s c) (fun t q => t = s → q = c) := by
  refine ⟨fun _ => rfl, fun _ _ => keepD_mem, fun _ => keepD_sub, fun x y hst hsb => ?_⟩; unfold keepD; dsimp only; rw [hst]
  cases decide (y.Station = s)
  · exact hsb
  · cases ha : x.Channels.any (fun k => decide (k = c))
    · exact List.nil_sublist _
    · obtain ⟨k, hk, he⟩ := List.any_eq_true.1 ha; rw [List.any_eq_true.2 ⟨k, hsb.subset hk, he⟩]; exact List.Sublist.refl _
theorem FiltD.drop (s c : Int) : FiltD (dropD s c) (fun t q => ¬ t = s ∨ ¬ q = c) := by
  refine ⟨fun _ => rfl, fun x q => ?_, fun _ => List.filter_sublist, fun x y hst hsb => ?_⟩
  · unfold dropD; simp only [List.mem_filter, Bool.or_eq_true, decide_eq_true_eq]
  · unfold dropD; dsimp only; rw [hst]; exact hsb.filter _
section
variable {p : GProblem} {a b d : List GDomain} {f : GDomain → GDomain} {φ : Int → Int → Prop}
theorem FiltD.subD (h : FiltD f φ) : SubD (d.map f) d ∧ OrdD (d.map f) d := by
  refine ⟨⟨List.length_map _, fun i hi => ?_⟩, fun i hi => ?_⟩
  · rw [nth_mapG hi]; exact ⟨h.st _, fun c hc => ((h.mem _ _).1 hc).1⟩
  · rw [nth_mapG hi]; exact h.sub _
theorem FiltD.monoD (h : FiltD f φ) (hs : SubD a b) : SubD (a.map f) (b.map f) := by
  refine ⟨by rw [List.length_map, List.length_map]; exact hs.1, fun i hi => ?_⟩; rw [List.length_map] at hi; rw [nth_mapG hi, nth_mapG (by rw [hs.1]; exact hi)]; have h2 := hs.2 i hi; refine ⟨by rw [h.st, h.st]; exact h2.1, fun c hc => ?_⟩; have h3 := (h.mem _ _).1 hc; exact (h.mem _ _).2 ⟨h2.2 c h3.1, by rw [← h2.1]; exact h3.2⟩
theorem PropD.filt {m r : List GDomain × Bool} (hf : FiltD f φ) (h : PropD p d m) (hm : m.2 = true) (hr : PropD p (m.1.map f) r) : PropD p (d.map f) r := by
  rcases h with ⟨_, h2, h3, h4⟩ | ⟨h1, _⟩
  · have hsup : ∀ S, ClosedD p S → SubD S (d.map f) → SubD S (m.1.map f) := fun S hS hs => by
      have h5 := h4 S hS (hs.trans hf.subD.1); refine ⟨by rw [List.length_map]; exact h5.1, fun i hi => ?_⟩; rw [List.length_map] at hi; (have hid : i < d.length := by rw [← h3.1.1]; exact hi); rw [nth_mapG hi]; have h6 := h5.2 i hi; refine ⟨by rw [hf.st]; exact h6.1, fun k hk => (hf.mem _ _).2 ⟨h6.2 k hk, ?_⟩⟩; have h7 := (hs.2 i (by rw [List.length_map]; exact hid)).2 k hk; rw [nth_mapG hid] at h7; rw [(h3.1.2 i hid).1]; exact ((hf.mem _ _).1 h7).2
    rcases hr with ⟨g1, g2, g3, g4⟩ | ⟨g1, g2⟩
    · refine .inl ⟨g1, g2, ⟨g3.1.trans (hf.monoD h3.1), fun i hi => ?_⟩, fun S hS hs => g4 S hS (hsup S hS hs)⟩; rw [List.length_map] at hi; (have hi' : i < m.1.length := by rw [h3.1.1]; exact hi); have h8 := g3.2 i (by rw [List.length_map]; exact hi'); rw [nth_mapG hi'] at h8; rw [nth_mapG hi]; exact h8.trans (hf.mono _ _ (h3.1.2 i hi).1 (h3.2 i hi))
    · exact .inr ⟨g1, fun S hS hs => g2 S hS (hsup S hS hs)⟩
  · rw [h1] at hm; cases hm
def actC (keep : Bool) (c : GChoice) : GDomain → GDomain := bif goodC c then (bif keep then keepD c.Station c.Channel else dropD c.Station c.Channel) else id
def actQ (keep : Bool) (c : GChoice) (s q : Int) : Prop := goodC c = true → s = c.Station → (q = c.Channel ↔ keep = true)
theorem filt_act (keep : Bool) (c : GChoice) : FiltD (actC keep c) (actQ keep c) := by
  have key : ∀ {φ ψ : Int → Int → Prop} {f : GDomain → GDomain}, FiltD f φ → (∀ s q, φ s q ↔ ψ s q) → FiltD f ψ := fun h k => ⟨h.st, fun x q => by rw [h.mem, k], h.sub, h.mono⟩; unfold actC actQ
  cases goodC c
  · exact key FiltD.id (fun s q => by simp)
  · cases keep
    · exact key (FiltD.drop _ _) (fun s q => by simp; constructor <;> intro h <;> by_cases e : s = c.Station <;> simp_all)
    · exact key (FiltD.keep _ _) (fun s q => by simp)
theorem stAct_x {fuel : Nat} (hf : 100000 ≤ fuel) (hok : okG p = true) (hd : SubD d p.Domains ∧ OrdD d p.Domains) {m : List GDomain × Bool} (h : PropD p d m) (keep : Bool) (c : GChoice) : ∃ r, stAct fuel p m keep c = some (r, bif !goodC c then 2 else bif !m.2 then 8 else bif !hasSt p c.Station then 9 else 0) ∧ PropD p (d.map (actC keep c)) r := by
  obtain ⟨hw, hbd, ht, hn⟩ := okG_bd hok; unfold stAct
  cases hg : goodC c
  · refine ⟨m, rfl, ?_⟩; (have e : actC keep c = id := by unfold actC; rw [hg]; rfl); rw [e, List.map_id]; exact h
  · cases hm : m.2
    · exact ⟨m, rfl, h.keepBad hm (filt_act keep c).subD.1⟩
    · cases hh : hasSt p c.Station
      · refine ⟨m, rfl, ?_⟩
        have e : d.map (actC keep c) = d := by
          refine (List.map_congr_left (g := id) fun x hx => ?_).trans (List.map_id _); obtain ⟨i, hi, rfl⟩ := mem_nth hx; (have hi' : i < p.Domains.length := by rw [← hd.1.1]; exact hi)
          have hne : ¬ (nth d i).Station = c.Station := by
            rw [(hd.1.2 i hi').1]; intro e; have : hasSt p c.Station = true := List.any_eq_true.2 ⟨_, nth_memG hi', by simpa using e⟩; rw [hh] at this; cases this
          unfold actC; rw [hg, cond_true]
          cases keep
          · show dropD _ _ _ = _
            unfold dropD; have : (nth d i).Channels.filter (fun k => decide (¬ (nth d i).Station = c.Station) || decide (¬ k = c.Channel)) = (nth d i).Channels := List.filter_eq_self.2 (fun k _ => by simp [hne]); rw [this]; rfl
          · show keepD _ _ _ = _
            unfold keepD; rw [decide_eq_false hne]; rfl
        rw [e]; exact h
      · have ho := h.ord hm; have hol := ho.2.trans hd.2 hd.1.1; have hlen : m.1.length = p.Domains.length := ho.1.trans hd.1.1; have hb1 := hbd.ord hlen hol; have ht1 := totG_ord hlen hol; have hs := (filt_act keep c).subD (d := m.1); have hb2 := hb1.ord hs.1.1 hs.2; have ht2 := totG_ord hs.1.1 hs.2; obtain ⟨r, h5, h6⟩ := propagate_x (fuel := fuel) hw hb2 (by rw [hs.1.1]; omega) (by omega); refine ⟨r, ?_, PropD.filt (filt_act keep c) h hm h6⟩
        have e : (bif keep then ref18_Keep_x m.1 c.Station c.Channel else ref18_Drop_x m.1 c.Station c.Channel) = some (m.1.map (actC keep c)) := by
          unfold actC; rw [hg]
          cases keep
          · exact drop_x hb1.len (fun x hx => (hb1.ch x hx).1)
          · exact keep_x hb1.len (fun x hx => (hb1.ch x hx).1)
        simp only [Bool.not_true, cond_false]; rw [e, Option.bind_some, h5]; rfl
def actD (x : GAct) : GDomain → GDomain := actC (decide (x.Kind = 0)) x.Choice
def actL (d : List GDomain) (l : List GAct) : List GDomain := l.foldl (fun d x => d.map (actD x)) d
def actP (l : List GAct) (s q : Int) : Prop := ∀ x ∈ l, actQ (decide (x.Kind = 0)) x.Choice s q
theorem actL_sub {l : List GAct} : SubD (actL d l) d ∧ OrdD (actL d l) d := by
  induction l generalizing d with
  | nil => exact ⟨SubD.refl _, fun _ _ => List.Sublist.refl _⟩
  | cons x r ih =>
    have h1 := (filt_act (decide (x.Kind = 0)) x.Choice).subD (d := d); have h2 := ih (d := d.map (actD x)); exact ⟨h2.1.trans h1.1, h2.2.trans h1.2 h1.1.1⟩
theorem actL_mem {l : List GAct} {i : Nat} (hi : i < d.length) {q : Int} : q ∈ (nth (actL d l) i).Channels ↔ q ∈ (nth d i).Channels ∧ actP l (nth d i).Station q := by
  induction l generalizing d with
  | nil => simp [actL, actP]
  | cons x r ih =>
    show q ∈ (nth (actL (d.map (actD x)) r) i).Channels ↔ _
    rw [ih (by rw [List.length_map]; exact hi), nth_mapG hi]; have hF := filt_act (decide (x.Kind = 0)) x.Choice
    show q ∈ (actC _ _ _).Channels ∧ actP r (actC _ _ _).Station q ↔ _
    rw [hF.mem, hF.st]; unfold actP; simp only [List.mem_cons, forall_eq_or_imp, and_assoc]
theorem perform_x {fuel : Nat} (hf : 100000 ≤ fuel) (hok : okG p = true) {l : List GAct} {m : List GDomain × Bool} (h : PropD p p.Domains m) : ∃ r, law18_perform_x fuel p m l = some r ∧ PropD p (actL p.Domains l) r := by
  unfold law18_perform_x; rw [Nat.sub_zero]; refine iterK_inv (fun i s => PropD p (actL p.Domains (l.take i)) s) (fun o => ∃ r, o = some r ∧ PropD p (actL p.Domains l) r) (by simpa [actL] using h) (fun s hs => ⟨s, rfl, by rw [List.take_of_length_le (Nat.le_refl _)] at hs; exact hs⟩) (fun i s next hi hs hn => ?_)
  have hstep : actL p.Domains (l.take (i + 1)) = (actL p.Domains (l.take i)).map (actD (nth l i)) := by
    unfold actL; rw [List.take_succ_eq_append_getElem hi, nth_eq hi, List.foldl_append]; rfl
  have key : ∀ keep, decide ((nth l i).Kind = 0) = keep → ∃ r, ((stAct fuel p s keep (nth l i).Choice).bind fun x => next x.1) = some r ∧ PropD p (actL p.Domains l) r := fun keep hk => by
    obtain ⟨r, h1, h2⟩ := stAct_x hf hok actL_sub hs keep (nth l i).Choice; rw [h1, Option.bind_some]; refine hn r ?_; rw [hstep]; unfold actD; rw [hk]; exact h2
  cases hk : decide ((nth l i).Kind = 0)
  · exact key false hk
  · exact key true hk
theorem actL_same {l l' : List GAct} (hb : Bd d) (h : ∀ x, x ∈ l ↔ x ∈ l') : actL d l = actL d l' := by
  have h1 := actL_sub (d := d) (l := l); have h2 := actL_sub (d := d) (l := l'); refine ext_nth (h1.1.1.trans h2.1.1.symm) (fun i hi => ?_); (have hid : i < d.length := by rw [← h1.1.1]; exact hi); have e1 : (nth (actL d l) i).Station = (nth (actL d l') i).Station := (h1.1.2 i hid).1.trans (h2.1.2 i hid).1.symm
  have e2 : (nth (actL d l) i).Channels = (nth (actL d l') i).Channels := by
    refine sublist_ext (h1.2 i hid) (h2.2 i hid) (hb.ch _ (nth_memG hid)).2 (fun q => ?_); rw [actL_mem hid, actL_mem hid]; unfold actP; simp only [h]
  generalize nth (actL d l) i = x at e1 e2 ⊢; generalize nth (actL d l') i = y at e1 e2 ⊢
  cases x; cases y
  simp only at e1 e2; rw [e1, e2]
theorem okG_sub (hok : okG p = true) (hd : SubD d p.Domains ∧ OrdD d p.Domains) : okG ⟨d, p.Rules⟩ = true := by
  have hlen : (pbG ⟨d, p.Rules⟩).ds.length = d.length := List.length_map _; have hlp : (pbG p).ds.length = p.Domains.length := List.length_map _
  have hst : (pbG ⟨d, p.Rules⟩).ds.map (·.st) = (pbG p).ds.map (·.st) := by
    show (d.map GDomain.b).map (·.st) = (p.Domains.map GDomain.b).map (·.st)
    rw [List.map_map, List.map_map]; refine ext_nth (by rw [List.length_map, List.length_map]; exact hd.1.1) (fun i hi => ?_); rw [List.length_map] at hi; (have hi' : i < p.Domains.length := by rw [← hd.1.1]; exact hi); rw [nth_mapG hi, nth_mapG hi']; exact (hd.1.2 i hi').1
  have hn1 : ∀ i, i < d.length → nth (pbG ⟨d, p.Rules⟩).ds i = (nth d i).b := fun i hi => nth_mapG hi; have hn2 : ∀ i, i < p.Domains.length → nth (pbG p).ds i = (nth p.Domains i).b := fun i hi => nth_mapG hi; unfold okG at hok ⊢; simp only [Pb.ok, Bool.and_eq_true] at hok ⊢; obtain ⟨h1, h2, h3, h4, h5, h6⟩ := hok; (have hhas : ∀ i, (pbG ⟨d, p.Rules⟩).has i = (pbG p).has i := fun i => by unfold Pb.has; rw [hst]); refine ⟨?_, h2, ?_, ?_, ?_, ?_⟩
  · rw [allB_iff] at h1 ⊢; intro i hi; rw [hlen] at hi; (have hi' : i < p.Domains.length := by rw [← hd.1.1]; exact hi); have h7 := h1 i (by rw [hlp]; exact hi'); rw [hn2 i hi'] at h7; rw [hn1 i hi]; simp only [Dx.ok, Bool.and_eq_true] at h7 ⊢; have hsub := hd.2 i hi'; refine ⟨by show inB (nth d i).Station 0 511 = true; rw [(hd.1.2 i hi').1]; exact h7.1, ?_, ?_⟩
    · rw [allB_mem] at h7 ⊢; exact fun q hq => h7.2.1 q (hsub.subset hq)
    · have h8 := (incB_pw h7.2.2).sublist hsub; rw [incB_iff]; intro k hk
      have : nth (nth d i).Channels k < nth (nth d i).Channels (k + 1) := by
        have hk' : k + 1 < (nth d i).Channels.length := hk; rw [nth_eq (by omega), nth_eq hk']; exact List.pairwise_iff_getElem.1 h8 k (k + 1) (by omega) hk' (by omega)
      show cmpI (nth (nth d i).Channels k) (nth (nth d i).Channels (k + 1)) < 0
      unfold cmpI; rw [if_pos this]; omega
  · rw [incB_iff] at h3 ⊢; intro k hk; rw [hlen] at hk; (have hk' : k + 1 < p.Domains.length := by rw [← hd.1.1]; exact hk); have := h3 k (by rw [hlp]; exact hk'); rw [hn2 _ (by omega), hn2 _ hk'] at this; rw [hn1 _ (by omega), hn1 _ hk]
    show cmpI (nth d k).Station (nth d (k + 1)).Station < 0
    rw [(hd.1.2 k (by omega)).1, (hd.1.2 (k + 1) hk').1]; exact this
  · simp only [hhas]; exact h4
  · simp only [hhas]; exact h5
  · simp only [hhas]; exact h6
end
end Go.Proofs.YtljgejbmimapdaaDoor
namespace Go.Proofs.YtljgejbmimapdaaDoor
open Go.RowKit
def nv : Value := .slice none 0 0
def Y0 : Tb := ⟨[1, 2, 3], ixAt (smp nv nv nv).ds 3, 7, [], (smp nv nv nv).psA 2, [], (smp nv nv nv).csA 1, [], (smp nv nv nv).inA 2, [], (smp nv nv nv).ouA 2⟩
section
variable {a b c : Value} {Y : Tb} (h : TbOf (smp a b c) Y)
include h
theorem sm_ps : Y.ps = Y0.ps := h.ps.trans rfl
theorem sm_cs : Y.cs = Y0.cs := h.cs.trans rfl
theorem sm_in : Y.inn = Y0.inn := h.inn.trans rfl
theorem sm_out : Y.out = Y0.out := h.out.trans rfl
theorem sm_n : Y.n = 3 := h.n
theorem sm_gone (L : Ws) (i : Nat) : goneF Y L i = goneF Y0 L i := by
  have h1 := sm_ps h; have h2 := sm_cs h; have h3 := sm_in h; have h4 := sm_out h; (have e1 : pairsF Y L i = pairsF Y0 L i := by unfold pairsF; rw [h1]); (have e2 : capsF Y L i = capsF Y0 L i := by unfold capsF; rw [h2, h3])
  have e3 : loadsF Y L i = loadsF Y0 L i := by
    unfold loadsF; rw [h4]; apply foldl_congr'; intro x _ s; unfold loadStep; rw [h2, h3]
  unfold goneF; rw [e1, e2, e3]
end
def l0 : Ws := [49152#64, 49152#64, 114688#64]
def k1 : Ws := [16384#64, 32768#64, 65536#64]
theorem sm_left (a b c : Value) : (smp a b c).left = l0 := by
  show [maskOf [14, 15], maskOf [14, 15], maskOf [14, 15, 16]] = l0
  decide
theorem sm_ok (a b c : Value) : (smp a b c).ok = true := by
  have e : (smp a b c).ok = (smp nv nv nv).ok := rfl; rw [e]; decide +kernel
theorem closed0 : ∀ i, i < 3 → nth l0 i ≠ 0#64 ∧ nth l0 i &&& goneF Y0 l0 i = 0#64 := by decide +kernel
theorem closed1 : ∀ i, i < 3 → nth k1 i ≠ 0#64 ∧ nth k1 i &&& goneF Y0 k1 i = 0#64 := by decide +kernel
def stepG (L : Ws) (i : Nat) : Ws := L.set i (nth L i &&& ~~~(goneF Y0 L i))
def t1 : Ws := [16384#64, 49152#64, 114688#64]
def t3 : Ws := [49152#64, 49152#64, 32768#64]
theorem steps1 : stepG (stepG t1 1) 2 = k1 := by decide +kernel
theorem steps3 : nth (stepG (stepG t3 1) 0) 0 = 0#64 := by decide +kernel
section
variable {a b c : Value} {Y : Tb} (h : TbOf (smp a b c) Y)
include h
theorem sm_tok : Y.Ok := h.ok (Pb.good (sm_ok a b c))
theorem sm_closed {K : Ws} (hl : K.length = 3) (hc : ∀ i, i < 3 → nth K i ≠ 0#64 ∧ nth K i &&& goneF Y0 K i = 0#64) : Closed Y K := ⟨by rw [hl, sm_n h], fun i hi => by
  rw [sm_n h] at hi; have := hc i hi
  exact ⟨this.1, by rw [sm_gone h]; exact this.2⟩⟩
theorem sm_reach {T M : Ws} {i : Nat} (hr : Reach Y T M) (hi : i < 3) : Reach Y T (stepG M i) := by
  unfold stepG; rw [← sm_gone h]; exact .step hr (by rw [sm_n h]; exact hi) (fun _ hj => hj)
theorem sm_new {L : Ws} {d : Bool} (hI : Is Y (smp a b c).left L d) : L = l0 ∧ d = false := by
  rw [sm_left] at hI; exact hI.eq (sm_tok h) (sm_closed h rfl closed0) .refl
theorem sm_check {x : Ch} : checkF Y false x = checkF Y0 false x := by
  unfold checkF atF; rw [h.ix]; rfl
theorem sm_asm1 : asm Y (smp a b c).left ⟨1, 14⟩ = t1 := by
  unfold asm; rw [sm_check h, sm_left]; decide +kernel
theorem sm_asm3 : asm Y (smp a b c).left ⟨3, 15⟩ = t3 := by
  unfold asm; rw [sm_check h, sm_left]; decide +kernel
theorem sm_fbd1 : fbd Y (smp a b c).left ⟨1, 15⟩ = t1 := by
  unfold fbd; rw [sm_check h, sm_left]; decide +kernel
theorem sm_one {L : Ws} {d : Bool} (hI : Is Y t1 L d) : L = k1 ∧ d = false := by
  refine hI.eq (sm_tok h) (sm_closed h rfl closed1) ?_; rw [← steps1]; exact sm_reach h (sm_reach h .refl (by decide)) (by decide)
theorem sm_three {L : Ws} {d : Bool} (hI : Is Y t3 L d) : d = true :=
  hI.conflict (sm_tok h) (i := 0) (by rw [sm_n h]; decide) steps3 (sm_reach h (sm_reach h .refl (by decide)) (by decide))
theorem sm_total : Y.total = 7 := h.total.trans rfl
theorem sm_st : Y.st = [1, 2, 3] := h.st.trans rfl
theorem sm_doms0 : domsF Y l0 Y.n = [(1, [14, 15]), (2, [14, 15]), (3, [14, 15, 16])] := by
  unfold domsF; rw [sm_n h, sm_st h]; (have e : ∀ m : BitVec 64, chansN m = (List.range' 0 64).filter m.getLsbD := fun m => by unfold chansN; rfl); simp only [e]
  decide +kernel
theorem sm_doms1 : domsF Y k1 Y.n = [(1, [14]), (2, [15]), (3, [16])] := by
  unfold domsF; rw [sm_n h, sm_st h]; (have e : ∀ m : BitVec 64, chansN m = (List.range' 0 64).filter m.getLsbD := fun m => by unfold chansN; rfl); simp only [e]
  decide +kernel
theorem sm_fix1 : fixF Y k1 Y.n = [⟨1, 14⟩, ⟨2, 15⟩, ⟨3, 16⟩] := by
  unfold fixF; rw [sm_n h, sm_st h]; decide +kernel
theorem sm_rem0 : removedF Y l0 false = 0 := by unfold removedF; rw [sm_total h]; decide +kernel
theorem sm_rem1 : removedF Y k1 false = 4 := by unfold removedF; rw [sm_total h]; decide +kernel
end
theorem dfix_pl (xs : List Dx) : dfix xs xs.length = ((xs.map Dx.pl).filter fun p => decide (p.2.length = 1)).map fun p => ⟨p.1, nth p.2 0⟩ := by
  unfold dfix; rw [List.take_length, List.filter_map, List.map_map]
  rfl
theorem pl_len {xs : List Dx} {l : List (Int × List Int)} (h : xs.map Dx.pl = l) : xs.length = l.length := by rw [← h, List.length_map]
theorem pl_chs {xs : List Dx} {l : List (Int × List Int)} (h : xs.map Dx.pl = l) (n : Nat) (hl : ∀ p ∈ l, p.2.length ≤ n) : ∀ d ∈ xs, d.chs.length ≤ n := fun d hd => hl (Dx.pl d) (by rw [← h]; exact List.mem_map.2 ⟨d, hd, rfl⟩)
def want : List Ch := [⟨1, 14⟩, ⟨2, 15⟩, ⟨3, 16⟩]
end Go.Proofs.YtljgejbmimapdaaDoor
namespace Go.Proofs.YtljgejbmimapdaaDoor
open Go.RowKit
theorem known_ret (w : World) (htab : Tab w) : Calls Tryd.prog 10 #[] w fun e w' => e = .returned (.bool true) ∧ Below w.heap.size w w' := by
  refine calls_T (M := fun _ => False) (hs := []) Tryd.func10 rfl rfl rfl (Hp.refl _ _) ?_; refine T.seq (T.region ?_); refine TL.run 1 rfl ?_; refine TL.nil (K.seq (T.seq (T.region ?_))); (refine TL.ew (Wt.none rfl) rfl rfl (Ew.callH rfl rfl rfl (fun w hw => sample_ret _)) ?_; rintro _ _ ⟨s1, -, rfl, rfl⟩); (refine TL.ew (Wt.none rfl) rfl rfl (Ew.callH rfl rfl rfl (fun w hw => new_ok s1.pb _ _ _ _ w (s1.prob hw) (htab.keptF hw) (sm_ok _ _ _))) ?_; rintro _ _ ⟨⟨g1, gl, tp, Y, L0, c0, w0⟩, hN, rfl, rfl⟩); dsimp only at hN; dsimp only [List.cons_append, List.nil_append]; have hTb := hN.tb; have hYok := sm_tok hTb; have hYn := sm_n hTb; have hI0 := hN.is (Pb.good (sm_ok _ _ _)); obtain ⟨rfl, rfl⟩ := sm_new hTb hI0; have hT := hN.at'; rw [show s1.pb.ds.length = 3 from rfl]; refine TL.run 5 rfl ?_; refine TL.nil (K.seq (T.seq (T.seq (T.region ?_)))); refine TL.run 1 rfl ?_; refine TL.y (Yv.binR rfl rfl rfl (eq46s _ _ _)) ?_; refine TL.run 1 rfl ?_; refine TL.yv (Wt.some rfl rfl rfl rfl) rfl rfl (Yv.pur rfl) ?_; refine TL.yv (Wt.some rfl rfl rfl rfl) rfl rfl (Yv.pur rfl) ?_; refine TL.run 2 rfl ?_; refine TL.yv (Wt.some rfl rfl rfl rfl) rfl rfl (Yv.pur rfl) ?_; (refine TL.ew (Wt.some rfl rfl rfl rfl) rfl rfl (Ew.callD rfl rfl rfl (fun w hw => removed_ret g1 Y l0 false w (StF.of (Y := Y) hw hT (Ent.fz_ok.1 (hw.own (Ent.fz w0) (by simp))) (htab.keptF hw) 0 1 (by rw [hYn]; rfl) (by rw [hYn]; rfl) (by rw [hYn]; rfl)).st hYok (by rw [sm_total hTb]; decide))) ?_; rintro _ _ ⟨rfl, rfl⟩); rw [sm_rem0 hTb]; refine TL.yv (Wt.some rfl rfl rfl rfl) rfl rfl (Yv.pur rfl) ?_; refine TL.run 2 rfl ?_; refine TL.yv (Wt.some rfl rfl rfl rfl) rfl rfl (Yv.pur rfl) ?_; (refine TL.ew (Wt.some rfl rfl rfl rfl) rfl rfl (Ew.callH rfl rfl rfl (fun w hw => domains_ok g1 Y l0 w (StF.of (Y := Y) hw hT (Ent.fz_ok.1 (hw.own (Ent.fz w0) (by simp))) (htab.keptF hw) 0 1 (by rw [hYn]; rfl) (by rw [hYn]; rfl) (by rw [hYn]; rfl)).st hYok)) ?_; rintro _ _ ⟨y24, hd24, rfl, rfl⟩); dsimp only [List.cons_append, List.nil_append]; rw [sm_doms0 hTb] at hd24; (refine TL.ew (Wt.some rfl rfl rfl rfl) rfl rfl (Ew.callH rfl rfl rfl (fun w hw => sample_ret _)) ?_; rintro _ _ ⟨s2, -, rfl, rfl⟩); refine TL.yv (Wt.some rfl rfl rfl rfl) rfl rfl (Yv.field rfl rfl rfl) ?_; (refine TL.ew (Wt.some rfl rfl rfl rfl) rfl rfl (Ew.callD rfl rfl rfl (fun w hw => sameDomains_ret y24.2 s2.pb.ds _ _ w (DomsAt.own hw 7 8 rfl rfl) (s2.prob hw).ds (by rw [pl_len hd24]; decide) (pl_chs hd24 _ (by decide)))) ?_; rintro _ _ ⟨rfl, rfl⟩); rw [show decide (y24.2.map Dx.pl = s2.pb.ds.map Dx.pl) = true from decide_eq_true (by rw [hd24]; rfl)]; refine TL.yv (Wt.some rfl rfl rfl rfl) rfl rfl (Yv.pur rfl) ?_; refine TL.run 1 rfl ?_; refine TL.nil (K.seq ?_); refine T.condF rfl rfl ?_; refine T.skip (K.seq (T.seq ?_)); refine T.weaken (hs' := [sRow g1 gl tp 3 false, sLeft gl 3 l0, Ent.fz w0]) Sub.refl (by repeat first | exact S0 | exact S1 | refine S2 ?_ | refine S3 ?_) ?_; refine T.region ?_; (refine TL.ew (Wt.none rfl) rfl rfl (Ew.callH rfl rfl rfl (fun w hw => sample_ret _)) ?_; rintro _ _ ⟨s3, -, rfl, rfl⟩); refine TL.y (Yv.build rfl rfl) ?_; (refine TL.ew (Wt.none rfl) rfl rfl (Ew.buildSlice rfl rfl rfl (by decide)) ?_; rintro _ _ ⟨g33, rfl, rfl⟩); (refine TL.ew (Wt.none rfl) rfl rfl (Ew.callH rfl rfl rfl (fun w hw => run_fine s3.pb _ _ _ _ ⟨1, 14⟩ _ w (s3.prob (by exact hw.sub (List.sublist_cons_self _ _))) (SlOf.lit (enc := Ch.cells) (size := 2) (fun _ => rfl) [⟨1, 14⟩] (Ent.row_ok.1 (hw.get (i := 0) rfl)) rfl rfl) (htab.keptF hw) (sm_ok _ _ _) (by decide) (fun Z hZ => by rw [sm_check hZ]; decide +kernel) (fun Z K d hZ hI => (sm_new hZ hI).2) (fun Z K d hZ hI => by rw [show s3.pb.left = (smp _ _ _).left from rfl, sm_asm1 hZ] at hI; exact (sm_one hZ hI).2))) ?_; rintro _ _ ⟨y34, ⟨Y1, L1, hT1, hI1, hd1⟩, rfl, rfl⟩); dsimp only [List.cons_append, List.nil_append]; (have hL1 : L1 = k1 := by rw [show s3.pb.left = (smp _ _ _).left from rfl, sm_asm1 hT1] at hI1; exact (sm_one hT1 hI1).1); subst hL1; rw [sm_doms1 hT1] at hd1; have hlen34 : y34.2.length = 3 := pl_len hd1; refine TL.run 7 rfl ?_; refine TL.nil (K.seq (T.seq ?_)); refine T.weaken (hs' := [.sl y34.1 64 2 y34.2.length (y34.2.flatMap Dx.cells), .bag (y34.2.map dE), sRow g1 gl tp 3 false, sLeft gl 3 l0, Ent.fz w0]) Sub.refl (by repeat first | exact S0 | exact S1 | refine S2 ?_ | refine S3 ?_) ?_; refine T.region ?_; refine TL.y (Yv.build rfl rfl) ?_; refine TL.y (Yv.build rfl rfl) ?_; refine TL.y (Yv.build rfl rfl) ?_; (refine TL.ew (Wt.none rfl) rfl rfl (Ew.buildSlice rfl rfl rfl (by decide)) ?_; rintro _ _ ⟨g41, rfl, rfl⟩); refine TL.run 1 rfl ?_; refine TL.nil (K.seq (T.seq (T.seq (T.region ?_)))); refine TL.run 3 rfl ?_; refine TL.yv (Wt.some rfl rfl rfl rfl) rfl rfl (Yv.pur rfl) ?_; refine TL.run 2 rfl ?_; refine TL.yv (Wt.some rfl rfl rfl rfl) rfl rfl (Yv.pur rfl) ?_; refine TL.yv (Wt.some rfl rfl rfl rfl) rfl rfl (Yv.lenE 1 rfl rfl rfl) ?_; refine TL.yv (Wt.some rfl rfl rfl rfl) rfl rfl (Yv.pur rfl) ?_; refine TL.run 2 rfl ?_; refine TL.yv (Wt.some rfl rfl rfl (by rw [hlen34]; rfl)) rfl rfl (Yv.pur rfl) ?_; (refine TL.ew (Wt.some rfl rfl rfl (by rw [hlen34]; rfl)) rfl rfl (Ew.callH rfl rfl rfl (fun w hw => dfixed_ret y34.2 _ w (DomsAt.own hw 1 2 rfl rfl) (by omega))) ?_; rintro v54 _ ⟨_, -, rfl, rfl⟩); dsimp only [List.cons_append, List.nil_append]; rw [show dfix y34.2 y34.2.length = want from by rw [dfix_pl, hd1]; decide]; refine TL.yv (Wt.some rfl rfl rfl (by rw [hlen34]; rfl)) rfl rfl (Yv.pur rfl) ?_; (refine TL.ew (Wt.some rfl rfl rfl (by rw [hlen34]; rfl)) rfl rfl (Ew.callD rfl rfl rfl (fun w hw => sameList_ret want want _ _ w (SlOf.ownAt (enc := Ch.cells) (fun _ => rfl) hw 0 rfl rfl) (SlOf.lit (enc := Ch.cells) (size := 2) (fun _ => rfl) want (Ent.row_ok.1 (hw.get (i := 1) rfl)) rfl rfl) (by decide))) ?_; rintro _ _ ⟨rfl, rfl⟩); rw [show decide (want = want) = true from decide_eq_true rfl]; refine TL.yv (Wt.some rfl rfl rfl (by rw [hlen34]; rfl)) rfl rfl (Yv.pur rfl) ?_; refine TL.y (Yv.pickF rfl rfl (by rw [hlen34]; rfl) rfl) ?_; refine TL.nil (K.seq ?_); refine T.condF rfl rfl ?_; refine T.skip (K.seq (T.seq ?_)); refine T.weaken (hs' := [.row g41 40 (want.flatMap Ch.cells), sRow g1 gl tp 3 false, sLeft gl 3 l0, Ent.fz w0]) Sub.refl (by repeat first | exact S0 | exact S1 | refine S2 ?_ | refine S3 ?_) ?_; refine T.region ?_; (refine TL.ew (Wt.none rfl) rfl rfl (Ew.callH rfl rfl rfl (fun w hw => sample_ret _)) ?_; rintro _ _ ⟨s4, -, rfl, rfl⟩); refine TL.y (Yv.build rfl rfl) ?_; (refine TL.ew (Wt.none rfl) rfl rfl (Ew.buildSlice rfl rfl rfl (by decide)) ?_; rintro _ _ ⟨g62, rfl, rfl⟩); (refine TL.ew (Wt.none rfl) rfl rfl (Ew.callD rfl rfl rfl (fun w hw => run_conf s4.pb _ _ _ _ ⟨3, 15⟩ _ w (s4.prob (by exact hw.sub (List.sublist_cons_self _ _))) (SlOf.lit (enc := Ch.cells) (size := 2) (fun _ => rfl) [⟨3, 15⟩] (Ent.row_ok.1 (hw.get (i := 0) rfl)) rfl rfl) (htab.keptF hw) (sm_ok _ _ _) (by decide) (fun Z hZ => by rw [sm_check hZ]; decide +kernel) (fun Z K d hZ hI => (sm_new hZ hI).2) (fun Z K d hZ hI => by rw [show s4.pb.left = (smp _ _ _).left from rfl, sm_asm3 hZ] at hI; exact sm_three hZ hI))) ?_; rintro _ _ ⟨rfl, rfl⟩); refine TL.run 7 rfl ?_; refine TL.nil (K.seq (T.seq ?_)); refine T.weaken (hs' := [.row g41 40 (want.flatMap Ch.cells), sRow g1 gl tp 3 false, sLeft gl 3 l0, Ent.fz w0]) Sub.refl (by repeat first | exact S0 | exact S1 | refine S2 ?_ | refine S3 ?_) ?_; refine T.permH (List.perm_append_comm (l₁ := [Ent.row g41 40 (want.flatMap Ch.cells)])) ?_; dsimp only [List.cons_append, List.nil_append]; refine T.region ?_; refine TL.run 3 rfl ?_; refine TL.yv (Wt.some rfl rfl rfl rfl) rfl rfl (Yv.pur rfl) ?_; refine TL.run 2 rfl ?_; refine TL.yv (Wt.some rfl rfl rfl rfl) rfl rfl (Yv.pur rfl) ?_; refine TL.yv (Wt.some rfl rfl rfl rfl) rfl rfl (Yv.lenSl rfl rfl) ?_; refine TL.yv (Wt.some rfl rfl rfl rfl) rfl rfl (Yv.pur rfl) ?_; refine TL.run 2 rfl ?_; refine TL.yv (Wt.some rfl rfl rfl rfl) rfl rfl (Yv.pur rfl) ?_; refine TL.yv (Wt.some rfl rfl rfl rfl) rfl rfl (Yv.build rfl rfl) ?_; rw [← hYn]; (refine TL.ew (Wt.some rfl rfl rfl rfl) rfl rfl (Ew.callL [sRow g1 gl tp Y.n false, sLeft gl Y.n l0] [Ent.fz w0, Ent.row g41 40 (want.flatMap Ch.cells)] rfl rfl rfl (List.Perm.refl _) (fun w hw hw2 => forbid_ok w0 g1 gl tp Y l0 w hT hYok (Ent.fz_ok.1 (hw2.own (Ent.fz w0) (by simp))) (htab.keptF hw) hw2.part (fun g hg hc => hw2.sep (f := Ent.fz w0) (by simp) g hg (Ent.fz_fp.2 hc)) (hw2.no0 htab) (by rw [hYn]; rfl) (sm_closed hTb rfl closed0).calm hTb.ixn ⟨1, 15⟩ (by rw [sm_check hTb]; decide +kernel))) ?_; rintro _ _ ⟨y80, hpost, rfl, rfl⟩); dsimp only [List.cons_append, List.nil_append]; rw [hYn]; have hI80 := hI0.cut hYok (by rw [sm_check hTb, hYn]; decide +kernel) (Is.of hYok (by unfold cutL; rw [List.length_set, hYn]; rfl) hpost); obtain ⟨L8, c8⟩ := y80; dsimp only at hI80 ⊢; (have hI81 : Is Y t1 L8 c8 := by rw [← sm_fbd1 hTb]; exact hI80); obtain ⟨rfl, rfl⟩ := sm_one hTb hI81; refine TL.yv (Wt.some rfl rfl rfl rfl) rfl rfl (Yv.pur rfl) ?_; refine TL.run 2 rfl ?_; refine TL.yv (Wt.some rfl rfl rfl rfl) rfl rfl (Yv.pur rfl) ?_; (refine TL.ew (Wt.some rfl rfl rfl rfl) rfl rfl (Ew.callH rfl rfl rfl (fun w hw => fixed_ret g1 Y k1 w (StF.of (Y := Y) hw hT (Ent.fz_ok.1 (hw.own (Ent.fz w0) (by simp))) (htab.keptF hw) 0 1 (by rw [hYn]; rfl) (by rw [hYn]; rfl) (by rw [hYn]; rfl)).st hYok)) ?_; rintro v85 _ ⟨_, -, rfl, rfl⟩); dsimp only [List.cons_append, List.nil_append]; rw [sm_fix1 hTb]; refine TL.yv (Wt.some rfl rfl rfl rfl) rfl rfl (Yv.pur rfl) ?_; (refine TL.ew (Wt.some rfl rfl rfl rfl) rfl rfl (Ew.callD rfl rfl rfl (fun w hw => sameList_ret want want _ _ w (SlOf.ownAt (enc := Ch.cells) (fun _ => rfl) hw 0 rfl rfl) (SlOf.lit (enc := Ch.cells) (size := 2) (fun _ => rfl) want (Ent.row_ok.1 (hw.get (i := 4) rfl)) rfl rfl) (by decide))) ?_; rintro _ _ ⟨rfl, rfl⟩); rw [show decide (want = want) = true from decide_eq_true rfl]; refine TL.run 2 rfl ?_; refine TL.yv (Wt.some rfl rfl rfl rfl) rfl rfl (Yv.pur rfl) ?_; (refine TL.ew (Wt.some rfl rfl rfl rfl) rfl rfl (Ew.callD rfl rfl rfl (fun w hw => removed_ret g1 Y k1 false w (StF.of (Y := Y) hw hT (Ent.fz_ok.1 (hw.own (Ent.fz w0) (by simp))) (htab.keptF hw) 1 2 (by rw [hYn]; rfl) (by rw [hYn]; rfl) (by rw [hYn]; rfl)).st hYok (by rw [sm_total hTb]; decide))) ?_; rintro _ _ ⟨rfl, rfl⟩); rw [sm_rem1 hTb]; refine TL.yv (Wt.some rfl rfl rfl rfl) rfl rfl (Yv.pur rfl) ?_; refine TL.run 2 rfl ?_; refine TL.yv (Wt.some rfl rfl rfl rfl) rfl rfl (Yv.pur rfl) ?_; (refine TL.ew (Wt.some rfl rfl rfl rfl) rfl rfl (Ew.callD rfl rfl rfl (fun w hw => conflict_ret g1 Y k1 false w (StF.of (Y := Y) hw hT (Ent.fz_ok.1 (hw.own (Ent.fz w0) (by simp))) (htab.keptF hw) 1 2 (by rw [hYn]; rfl) (by rw [hYn]; rfl) (by rw [hYn]; rfl)).st)) ?_; rintro _ _ ⟨rfl, rfl⟩); refine TL.yv (Wt.some rfl rfl rfl rfl) rfl rfl (Yv.pur rfl) ?_; refine TL.run 2 rfl ?_; refine TL.nil (K.seq (T.ret ?_)); refine K.ret1 rfl rfl (fun w' hw => ⟨?_, hw.isBelow⟩)
  rfl
end Go.Proofs.YtljgejbmimapdaaDoor
namespace Go.Proofs.YtljgejbmimapdaaDoor
open Go.RowKit
def law18_PropagateOrders_x (fuel : Nat) (p : GProblem) (l : List GAct) (turn : Int) : Option Bool :=
  (ref17_Small_x fuel p 10 40).bind fun r17 =>
  joinK (fun (x_1 : Bool) =>
    (bif x_1 then
      some true
      else
      (bif okG p then
        (ref18_Propagate_x fuel p p.Domains).bind fun r40 =>
        (ref18_Propagate_x fuel p p.Domains).bind fun r45 =>
        joinK (fun (other_9 : List GAct) =>
          (law18_perform_x fuel p r40 l).bind fun rq74 =>
          (law18_perform_x fuel p r45 other_9).bind fun rq77 =>
          (bif ((!((!rq74.2) == (!rq77.2))) || (!(ref17_SameDomains_x rq74.1 rq77.1))) then
            some false
            else
            (bif !rq74.2 then
              some true
              else
              (bif okG (GProblem.mk rq74.1 (GRules.mk p.Rules.Pairs p.Rules.Loads p.Rules.Caps)) then
                (ref18_Propagate_x fuel (GProblem.mk rq74.1 (GRules.mk p.Rules.Pairs p.Rules.Loads p.Rules.Caps)) (GProblem.mk rq74.1 (GRules.mk p.Rules.Pairs p.Rules.Loads p.Rules.Caps)).Domains).bind fun r105 =>
                some ((((decide ((stRem (GProblem.mk rq74.1 (GRules.mk p.Rules.Pairs p.Rules.Loads p.Rules.Caps)) r105) = 0)) && (!(!r105.2))) && (ref17_SameDomains_x r105.1 rq74.1)) || false)
                else
                some false))))
        (fun k10 =>
          iterK (fun (i_13 : Nat) (next12 : List GAct → Option Bool) (other_11 : List GAct) =>
            grd (0 ≤ wI ((((l.length : Int) - 1) - (i_13 : Int)) + turn) ∧ 1 ≤ (l.length : Int)) <|
            grd (0 ≤ ((wI ((((l.length : Int) - 1) - (i_13 : Int)) + turn)) % (l.length : Int)) ∧ ((wI ((((l.length : Int) - 1) - (i_13 : Int)) + turn)) % (l.length : Int)) < (l.length : Int)) <|
            grd (room (other_11 ++ [(nth l (((wI ((((l.length : Int) - 1) - (i_13 : Int)) + turn)) % (l.length : Int)).toNat))]).length 24) <|
            next12 (other_11 ++ [(nth l (((wI ((((l.length : Int) - 1) - (i_13 : Int)) + turn)) % (l.length : Int)).toNat))]))
          (fun (other_11 : List GAct) =>
            k10 other_11) (l.length - 0) 0 [])
        else
        some false)))
  (fun k2 =>
    (bif !r17 then
      k2 true
      else
      (bif decide (10 < (l.length : Int)) then
        k2 true
        else
        (bif decide (turn < 0) then
          k2 true
          else
          (bif decide (10 < turn) then
            k2 true
            else
            (ref17_Valid_x p).bind fun r34 =>
            k2 (!r34))))))
theorem law18_PropagateOrders_c (F0 : Frz) (w : World) (hF0 : F0.At w) (p : GProblem) (vp_0 : Value) (cp_0 : List (List Value)) (hp_0 : SlD GDomain.rep F0 vp_0 2 cp_0 p.Domains) (vp_1 : Value) (hp_1 : SlC F0 vp_1 5 (p.Rules.Pairs.map GPair.enc)) (vp_2 : Value) (hp_2 : SlC F0 vp_2 5 (p.Rules.Loads.map GLoad.enc)) (vp_3 : Value) (hp_3 : SlC F0 vp_3 4 (p.Rules.Caps.map GCap.enc)) (l : List GAct) (vl : Value) (hl : SlC F0 vl 3 (l.map GAct.enc)) (turn : Int) (htab : Tab w) (fuel : Nat) (hfu : 100000 ≤ fuel) (r : Bool) (hr : law18_PropagateOrders_x fuel p l turn = some r) : Calls Tryd.prog 4 #[.agg [vp_0, vp_1, vp_2, vp_3].toArray, vl, .int .i64 turn] w fun e w' => e = .returned (.bool r) ∧ Below w.heap.size w w' := by
  have hk := hr; unfold law18_PropagateOrders_x at hk; haveI := hp_0.1.oneC; haveI := hp_1.oneC; haveI := hp_2.oneC; haveI := hp_3.oneC; haveI := hl.oneC; obtain ⟨S0, F1, rfl, hS0, hp0⟩ := startF_ex hF0; refine calls_T (M := fun _ => False) (hs := [.fr F1]) Tryd.func4 rfl rfl rfl hp0 ?_; refine T.seq (T.region ?_); refine TL.e (Ew.boxA rfl rfl) ?_; rintro _ _ ⟨g3, rfl, rfl⟩; refine TL.run 1 rfl ?_; refine TL.nil (K.seq (T.seq (T.seq ?_))); have hq := bind_open hk; clear hk; obtain ⟨r17, hr17, hk⟩ := hq; (try dsimp only at hk); have hq := joinK_open hk; clear hk; obtain ⟨k2, hk2, hk⟩ := hq; (try dsimp only at hk); refine T.cutXK (ι := Bool) (fun z => [(1, vl), (2, .int .i64 turn), (3, .pointer (some ⟨g3, 0, none⟩)), (36, .bool z)]) (fun z => [.row g3 29 [vp_0, vp_1, vp_2, vp_3], .fr F1]) (fun z => k2 z = some r) ?_ ?_
  · refine T.region ?_; refine TL.y (Yv.loadAO 0 rfl rfl rfl rfl) ?_; refine TL.e (Ew.callD rfl rfl rfl (fun w hw => ref17_Small_c _ w (hw.fr (i := 1) rfl) p vp_0 cp_0 hp_0 vp_1 hp_1 vp_2 hp_2 vp_3 hp_3 10 40 fuel r17 hr17)) ?_; rintro _ _ ⟨rfl, rfl⟩; refine TL.run 2 rfl ?_; refine TL.gs rfl rfl rfl (fun h3 => ?_) (fun h3 => ?_)
    · have p3 := h3; (try simp only [nfB] at p3); replace hk := condT_open hk h3; refine TL.run 17 rfl ?_; refine TL.nil ?_; exact K.atX true hk (.c (.c (.c (.c .nil)))) (List.Sublist.refl _)
    · have p3 := h3; (try simp only [nfB] at p3); replace hk := condF_open hk h3; refine TL.run 1 rfl ?_; refine TL.y (Yv.lenR rfl rfl hl (List.length_map _)) ?_; have hm21 : l.length ≤ 9223372036854775807 := (List.length_map _) ▸ hl.max; refine TL.run 3 rfl ?_; refine TL.gs rfl rfl rfl (fun h4 => ?_) (fun h4 => ?_)
      · have p4 := of_decide_eq_true h4; replace hk := condT_open hk h4; refine TL.run 12 rfl ?_; refine TL.nil ?_; exact K.atX true hk (.c (.c (.c (.c .nil)))) (List.Sublist.refl _)
      · have p4 := of_decide_eq_false h4; replace hk := condF_open hk h4; refine TL.run 4 rfl ?_; refine TL.gs rfl rfl rfl (fun h5 => ?_) (fun h5 => ?_)
        · have p5 := of_decide_eq_true h5; replace hk := condT_open hk h5; refine TL.run 8 rfl ?_; refine TL.nil ?_; exact K.atX true hk (.c (.c (.c (.c .nil)))) (List.Sublist.refl _)
        · have p5 := of_decide_eq_false h5; replace hk := condF_open hk h5; refine TL.run 4 rfl ?_; refine TL.gs rfl rfl rfl (fun h6 => ?_) (fun h6 => ?_)
          · have p6 := of_decide_eq_true h6; replace hk := condT_open hk h6; refine TL.run 4 rfl ?_; refine TL.nil ?_; exact K.atX true hk (.c (.c (.c (.c .nil)))) (List.Sublist.refl _)
          · have p6 := of_decide_eq_false h6; replace hk := condF_open hk h6; refine TL.y (Yv.loadAO 0 rfl rfl rfl rfl) ?_; have hq := bind_open hk; clear hk; obtain ⟨r34, hr34, hk⟩ := hq; refine TL.e (Ew.callD rfl rfl rfl (fun w hw => ref17_Valid_c _ w (hw.fr (i := 1) rfl) p vp_0 cp_0 hp_0 vp_1 hp_1 vp_2 hp_2 vp_3 hp_3 r34 hr34)) ?_; rintro _ _ ⟨rfl, rfl⟩; refine TL.run 2 rfl ?_; refine TL.nil ?_; exact K.atX (!r34) hk (.c (.c (.c (.c .nil)))) (List.Sublist.refl _)
  · rintro x_1 hk; rw [← hk2] at hk; (try dsimp only at hk); refine T.cond rfl (fun h7 => ?_) (fun h7 => ?_)
    · have p7 := h7; (try simp only [nfB] at p7); replace hk := condT_open hk h7; refine T.seq (T.region ?_); refine TL.e (Ew.callD rfl rfl rfl (fun w hw => known_ret w (htab.keptF hw))) ?_; rintro _ _ ⟨rfl, rfl⟩; refine TL.run 1 rfl ?_; refine TL.nil (K.seq (T.ret (K.then_ret ?_))); obtain rfl := Option.some.inj hk; exact K.ret1 rfl rfl (fun w' hw => ⟨rfl, hw.isBelow⟩)
    · have p7 := h7; (try simp only [nfB] at p7); replace hk := condF_open hk h7; refine T.skip (K.seq (T.seq ?_)); refine T.splitB (okG p) (fun h8 => ?_) (fun h8 => ?_)
      · replace hk := condT_open hk h8; have hq := bind_open hk; clear hk; obtain ⟨r40, hr40, hk⟩ := hq; (try dsimp only at hk); refine T.region ?_; refine TL.y (Yv.loadAO 0 rfl rfl rfl rfl) ?_; refine TL.e (Ew.callH rfl rfl rfl (fun w hw => st_new (p := p) (hw.fr (i := 1) rfl) ⟨hp_0, hp_1, hp_2, hp_3⟩ (htab.keptF hw) h8 hfu hr40)) ?_; rintro _ _ ⟨⟨k40_, L40_⟩, hs40, rfl, rfl⟩; dsimp only [List.cons_append, List.nil_append]; dsimp only at hs40; refine TL.run 5 rfl ?_; refine TL.nil (K.seq (T.seq ?_)); have hq := bind_open hk; clear hk; obtain ⟨r45, hr45, hk⟩ := hq; (try dsimp only at hk); refine T.region ?_; refine TL.y (Yv.loadAO 1 rfl rfl rfl rfl) ?_; refine TL.e (Ew.callH rfl rfl rfl (fun w hw => st_new (p := p) (hw.fr (i := 2) rfl) ⟨hp_0, hp_1, hp_2, hp_3⟩ (htab.keptF hw) h8 hfu hr45)) ?_; rintro _ _ ⟨⟨k45_, L45_⟩, hs45, rfl, rfl⟩; dsimp only [List.cons_append, List.nil_append]; dsimp only at hs45; refine TL.run 5 rfl ?_; refine TL.nil (K.seq (T.seq (T.seq ?_))); refine T.cutXK (ι := Unit) (fun z => [(1, vl), (2, .int .i64 turn), (3, .pointer (some ⟨g3, 0, none⟩)), (7, .pointer (some ⟨k40_.sp, 0, none⟩)), (9, .pointer (some ⟨k45_.sp, 0, none⟩)), (53, .bool false)]) (fun z => [stE k45_ L45_ (!r45.2), stE k40_ L40_ (!r40.2), .row g3 29 [vp_0, vp_1, vp_2, vp_3], .fr F1]) (fun z => True) ?_ ?_
        · refine T.region ?_; refine TL.run 1 rfl ?_; refine TL.y (Yv.eqNil (e := 69) (by kernel_rfl) rfl rfl rfl) ?_; refine TL.run 2 rfl ?_; refine TL.y (Yv.eqNil (e := 69) (by kernel_rfl) rfl rfl rfl) ?_; refine TL.run 1 rfl ?_; refine TL.nil ?_; exact K.atX () trivial (.c (.c (.c (.c (.c (.c .nil)))))) (List.Sublist.refl _)
        · rintro _ _; refine T.condF rfl rfl ?_; refine T.skip (K.seq (T.seq (T.region ?_))); refine TL.run 1 rfl ?_; refine TL.slNil 50 3 ?_; refine TL.nil (K.seq (T.seq (T.seq (T.region ?_)))); refine TL.run 1 rfl ?_; refine TL.nil (K.seq ?_); have hq := joinK_open hk; clear hk; obtain ⟨k10, hk10, hk⟩ := hq; (try dsimp only at hk); refine T.cutXK (ι := List GAct × Value) (fun z => [(1, vl), (3, .pointer (some ⟨g3, 0, none⟩)), (7, .pointer (some ⟨k40_.sp, 0, none⟩)), (9, .pointer (some ⟨k45_.sp, 0, none⟩)), (11, z.2)]) (fun z => [.sl z.2 50 3 z.1.length (z.1.flatMap GAct.enc), stE k45_ L45_ (!r45.2), stE k40_ L40_ (!r40.2), .row g3 29 [vp_0, vp_1, vp_2, vp_3], .fr F1]) (fun z => k10 z.1 = some r ∧ OneC z.2) ?_ ?_
          · have hq := iterK_open hk; clear hk; obtain ⟨f12, kk12, hf12, hkk12, hk⟩ := hq; refine T.block ?_; refine T.loop (ι := Nat × List GAct × Value) (fun z => [(1, vl), (2, .int .i64 turn), (3, .pointer (some ⟨g3, 0, none⟩)), (7, .pointer (some ⟨k40_.sp, 0, none⟩)), (9, .pointer (some ⟨k45_.sp, 0, none⟩)), (11, z.2.2), (12, .int .i64 (z.1 : Int))]) (fun z => [.sl z.2.2 50 3 z.2.1.length (z.2.1.flatMap GAct.enc), stE k45_ L45_ (!r45.2), stE k40_ L40_ (!r40.2), .row g3 29 [vp_0, vp_1, vp_2, vp_3], .fr F1]) (fun z => iterK f12 kk12 (l.length - z.1) z.1 z.2.1 = some r ∧ OneC z.2.2) (fun z => l.length - z.1) (0, [], (.slice none 0 0)) ?_ ?_ ?_ ?_
            · exact ⟨hk, inferInstance⟩
            · exact (.c (.c (.c (.c (.c (.c (.c .nil)))))))
            · exact List.Sublist.refl _
            · rintro ⟨i_13, other_11, vother_11⟩ ⟨hk, oother_11⟩; (try dsimp only at *); refine T.seq (T.seq (T.region ?_)); refine TL.run 2 rfl ?_; refine TL.y (Yv.lenR rfl rfl hl (List.length_map _)) ?_; have hm56 : l.length ≤ 9223372036854775807 := (List.length_map _) ▸ hl.max; refine TL.run 1 rfl ?_; refine TL.nil (K.seq ?_); refine T.cond rfl (fun h14 => ?_) (fun h14 => ?_)
              · have p14 := of_decide_eq_true h14; rw [iterK_lt (by omega)] at hk; generalize hn12 : iterK f12 kk12 (l.length - (i_13 + 1)) (i_13 + 1) = next12 at hk; rw [← hf12] at hk; (try dsimp only at hk); refine T.skip (K.seq (T.seq (T.block ?_))); have hq : (0 ≤ wI ((((l.length : Int) - 1) - (i_13 : Int)) + turn) ∧ 1 ≤ (l.length : Int)) ∧ _ := grd_some hk; clear hk; obtain ⟨g71, hk⟩ := hq; have hq : (0 ≤ ((wI ((((l.length : Int) - 1) - (i_13 : Int)) + turn)) % (l.length : Int)) ∧ ((wI ((((l.length : Int) - 1) - (i_13 : Int)) + turn)) % (l.length : Int)) < (l.length : Int)) ∧ _ := grd_some hk; clear hk; obtain ⟨g72, hk⟩ := hq; have hq : (room (other_11 ++ [(nth l (((wI ((((l.length : Int) - 1) - (i_13 : Int)) + turn)) % (l.length : Int)).toNat))]).length 24) ∧ _ := grd_some hk; clear hk; obtain ⟨g75, hk⟩ := hq; (try dsimp only at hk); refine T.region ?_; refine TL.run 3 rfl ?_; refine TL.y (Yv.lenR rfl rfl hl (List.length_map _)) ?_; refine TL.y (Yv.subI rfl rfl rfl (by omega)) ?_; refine TL.run 1 rfl ?_; refine TL.y (Yv.subI rfl rfl rfl (by omega)) ?_; refine TL.run 3 rfl ?_; refine TL.y (Yv.lenR rfl rfl hl (List.length_map _)) ?_; refine TL.y (Yv.remI rfl rfl rfl g71) ?_; refine TL.y (Yv.idxR (i := ((wI ((((l.length : Int) - 1) - (i_13 : Int)) + turn)) % (l.length : Int)).toNat) (z := ((wI ((((l.length : Int) - 1) - (i_13 : Int)) + turn)) % (l.length : Int))) rfl rfl rfl hl (List.length_map _) (by omega) (by omega)) ?_; refine TL.y (Yv.loadRFA 4 (i := ((wI ((((l.length : Int) - 1) - (i_13 : Int)) + turn)) % (l.length : Int)).toNat) rfl rfl rfl hl (by omega) rfl rfl rfl) ?_; refine TL.e (Ew.buildSlice rfl rfl rfl (by decide)) ?_; rintro _ _ ⟨g74, rfl, rfl⟩; refine TL.e (Ew.appendL 1 0 rfl rfl rfl rfl rfl rfl (len_lit (ys := [(nth l (((wI ((((l.length : Int) - 1) - (i_13 : Int)) + turn)) % (l.length : Int)).toNat))]) rfl) (flat_app (enc := GAct.enc) (xs := other_11) (ys := [(nth l (((wI ((((l.length : Int) - 1) - (i_13 : Int)) + turn)) % (l.length : Int)).toNat))])) g75 (by decide)) ?_; rintro v75 _ ⟨hv75, rfl⟩; refine TL.run 1 rfl ?_; refine TL.nil (K.blk_normal (K.seq (T.region ?_))); refine TL.run 1 rfl ?_; refine TL.y (Yv.addI rfl rfl rfl (by omega)) ?_; refine TL.run 1 rfl ?_; refine TL.nil ?_; rw [← hn12] at hk; refine K.pick [1, 2, 3, 4, 5] rfl (by decide) ?_; exact K.next ((i_13 + 1), (other_11 ++ [(nth l (((wI ((((l.length : Int) - 1) - (i_13 : Int)) + turn)) % (l.length : Int)).toNat))]), v75) ⟨hk, inferInstance⟩ (by dsimp only; omega) (.c (.c (.c (.c (.c (.c (.c .nil))))))) (List.Sublist.refl _)
              · have p14 := of_decide_eq_false h14; rw [iterK_ge (by omega), ← hkk12] at hk; (try dsimp only at hk); refine T.exit (K.then_exit (K.then_exit (K.blk_exit_eq ?_))); exact K.atX (other_11, vother_11) ⟨hk, inferInstance⟩ (.c (.c (.c (.c (.c .nil))))) (List.Sublist.refl _)
          · rintro ⟨other_9, vother_9⟩ ⟨hk, oother_9⟩; (try dsimp only at *); rw [← hk10] at hk; (try dsimp only at hk); refine T.seq ?_; have hq := bind_open hk; clear hk; obtain ⟨rq74, hrq74, hk⟩ := hq; (try dsimp only at hk); refine T.region ?_; refine TL.run 2 rfl ?_; refine TL.e (Ew.callM 2 rfl rfl rfl rfl (fun w hw => law18_perform_c _ w (hw.fr (i := 4) rfl) _ _ _ _ hs40 (hw.get (i := 2) rfl) (hw.apartF (i := 2) (j := 4) rfl rfl (by decide)) (hw.not0 (i := 2) rfl htab) l vl hl (htab.keptF hw) fuel hfu rq74 hrq74)) ?_; rintro _ _ ⟨Lq74_, hsq74, rfl, rfl⟩; refine TL.nil (K.seq (T.seq ?_)); refine T.exH (fun w hw => hw.freezeS (i := 4) (j := 0) (by decide) rfl rfl) ?_; rintro F2 ⟨le1_2, hz2⟩; dsimp only [List.set, List.eraseIdx]; have hf2 := hz2.toF rfl GAct.len; haveI := hf2.oneC; have hq := bind_open hk; clear hk; obtain ⟨rq77, hrq77, hk⟩ := hq; (try dsimp only at hk); refine T.region ?_; refine TL.run 2 rfl ?_; refine TL.e (Ew.callM 0 rfl rfl rfl rfl (fun w hw => law18_perform_c _ w (hw.fr (i := 3) rfl) _ _ _ _ hs45 (hw.get (i := 0) rfl) (hw.apartF (i := 0) (j := 3) rfl rfl (by decide)) (hw.not0 (i := 0) rfl htab) other_9 vother_9 hf2 (htab.keptF hw) fuel hfu rq77 hrq77)) ?_; rintro _ _ ⟨Lq77_, hsq77, rfl, rfl⟩; refine TL.nil (K.seq (T.seq (T.seq ?_))); refine T.cutXK (ι := FzB w (fun _ => False) S0) (fun z => [(3, .pointer (some ⟨g3, 0, none⟩)), (7, .pointer (some ⟨k40_.sp, 0, none⟩)), (94, .bool ((!((!rq74.2) == (!rq77.2))) || (!(ref17_SameDomains_x rq74.1 rq77.1))))]) (fun z => [stE k45_ Lq77_ (!rq77.2), stE k40_ Lq74_ (!rq74.2), .row g3 29 [vp_0, vp_1, vp_2, vp_3], .fr z]) (fun z => F2.toFrz.Le z.toFrz) ?_ ?_
            · refine T.region ?_; refine TL.run 1 rfl ?_; refine TL.e (Ew.callD rfl rfl rfl (fun w hw => st_conflict hsq74 (hw.get (i := 1) rfl) (htab.keptF hw))) ?_; rintro _ _ ⟨rfl, rfl⟩; refine TL.run 1 rfl ?_; refine TL.e (Ew.callD rfl rfl rfl (fun w hw => st_conflict hsq77 (hw.get (i := 0) rfl) (htab.keptF hw))) ?_; rintro _ _ ⟨rfl, rfl⟩; refine TL.y (Yv.neB (by kernel_rfl) rfl rfl rfl) ?_; refine TL.run 1 rfl ?_; refine TL.gs rfl rfl rfl (fun h15 => ?_) (fun h15 => ?_)
              · have p15 := h15; (try simp only [nfB] at p15); refine TL.run 7 rfl ?_; refine TL.nil ?_; exact K.atX F2 (Frz.Le.refl _) (.c (.c (.b (or_tt h15).symm .nil))) (List.Sublist.refl _)
              · have p15 := h15; (try simp only [nfB] at p15); refine TL.run 1 rfl ?_; refine TL.e (Ew.callR 3 rfl rfl rfl rfl (fun w hw hF => st_domains hF hsq74 (hw.get (i := 1) rfl) (htab.keptF hw))) ?_; rintro _ _ ⟨⟨v89_, c89_⟩, F4, le2_4, hf89, hq, rfl⟩; obtain rfl := hq.symm; dsimp only at hf89 ⊢; have le1_4 := le1_2.trans le2_4; haveI := hf89.1.oneC; refine TL.run 1 rfl ?_; refine TL.e (Ew.callR 3 rfl rfl rfl rfl (fun w hw hF => st_domains hF hsq77 (hw.get (i := 0) rfl) (htab.keptF hw))) ?_; rintro _ _ ⟨⟨v91_, c91_⟩, F5, le4_5, hf91, hq, rfl⟩; obtain rfl := hq.symm; dsimp only at hf91 ⊢; have le1_5 := le1_4.trans le4_5; have le2_5 := le2_4.trans le4_5; haveI := hf91.1.oneC; refine TL.e (Ew.callD rfl rfl rfl (fun w hw => ref17_SameDomains_c _ w (hw.fr (i := 3) rfl) rq74.1 v89_ c89_ (SlD.mono (rep := GDomain.rep) (fun _ _ _ _ => GDomain.mono) hf89 le4_5) rq77.1 v91_ c91_ hf91)) ?_; rintro _ _ ⟨rfl, rfl⟩; refine TL.run 2 rfl ?_; refine TL.nil ?_; exact K.atX F5 le2_5 (.c (.c (.b (or_f h15) .nil))) (List.Sublist.refl _)
            · rintro F3 le2_3; (try dsimp only at *); have le1_3 := le1_2.trans le2_3; refine T.cond rfl (fun h16 => ?_) (fun h16 => ?_)
              · have p16 := h16; (try simp only [nfB] at p16); replace hk := condT_open hk h16; refine T.seq (T.region ?_); refine TL.run 1 rfl ?_; refine TL.nil (K.seq (T.ret (K.then_ret ?_))); obtain rfl := Option.some.inj hk; exact K.ret1 rfl rfl (fun w' hw => ⟨rfl, hw.isBelow⟩)
              · have p16 := h16; (try simp only [nfB] at p16); replace hk := condF_open hk h16; refine T.skip (K.seq (T.seq (T.seq (T.region ?_)))); refine TL.run 1 rfl ?_; refine TL.e (Ew.callD rfl rfl rfl (fun w hw => st_conflict hsq74 (hw.get (i := 1) rfl) (htab.keptF hw))) ?_; rintro _ _ ⟨rfl, rfl⟩; refine TL.nil (K.seq ?_); refine T.cond rfl (fun h17 => ?_) (fun h17 => ?_)
                · have p17 := h17; (try simp only [nfB] at p17); replace hk := condT_open hk h17; refine T.seq (T.region ?_); refine TL.e (Ew.callD rfl rfl rfl (fun w hw => known_ret w (htab.keptF hw))) ?_; rintro _ _ ⟨rfl, rfl⟩; refine TL.run 1 rfl ?_; refine TL.nil (K.seq (T.ret (K.then_ret ?_))); obtain rfl := Option.some.inj hk; exact K.ret1 rfl rfl (fun w' hw => ⟨rfl, hw.isBelow⟩)
                · have p17 := h17; (try simp only [nfB] at p17); replace hk := condF_open hk h17; refine T.skip (K.seq (T.seq ?_)); refine T.cutXK (ι := Nat × Value × List (List Value) × FzB w (fun _ => False) S0) (fun z => [(13, .pointer (some ⟨z.1, 0, none⟩))]) (fun z => [.row z.1 29 [z.2.1, vp_1, vp_2, vp_3], stE k45_ Lq77_ (!rq77.2), stE k40_ Lq74_ (!rq74.2), .row g3 29 [vp_0, vp_1, vp_2, vp_3], .fr z.2.2.2]) (fun z => SlD GDomain.rep z.2.2.2.toFrz z.2.1 2 z.2.2.1 rq74.1 ∧ F3.toFrz.Le z.2.2.2.toFrz) ?_ ?_
                  · refine T.draw (.still 0 (.still 2 (.still 3 (.two 1 5 (.still 4 (.eff 5 (.eff 6 .done))) (.eff 1 (.still 4 (.eff 6 .done))))))) _ (by kernel_rfl) (List.Sublist.refl _) ?_; refine TS.run 1 rfl ?_; refine TS.y rfl (Yv.fieldAddr rfl rfl) ?_; refine TS.y rfl (Yv.loadAP 2 (m := [vp_1, vp_2, vp_3]) rfl rfl rfl rfl rfl) ?_; refine TS.two ?_ ?_
                    · refine TSo.ewG rfl (Wt.none rfl) rfl rfl (Ew.callR 3 rfl rfl rfl rfl (fun w hw hF => st_domains hF hsq74 (hw.get (i := 1) rfl) (htab.keptF hw))) ?_; rintro _ _ ⟨⟨v99_, c99_⟩, F7, le3_7, hf99, hq, rfl⟩; obtain rfl := hq.symm; dsimp only at hf99 ⊢; have le1_7 := le1_3.trans le3_7; have le2_7 := le2_3.trans le3_7; haveI := hf99.1.oneC; refine ⟨(fun w hw => (hw.frLe (i := 3) rfl le3_7).sub (by repeat first | exact S0 | exact S1 | refine S2 ?_ | refine S3 ?_)), ?_⟩; refine TS.y rfl (Yv.build rfl rfl) ?_; refine TS.eff ?_; refine TSo.ewG rfl (Wt.none rfl) rfl rfl (Ew.alloc rfl) ?_; rintro _ _ ⟨g13, rfl, rfl⟩; refine ⟨(fun w hw => (hw.frLe (i := 4) rfl le3_7).sub (by repeat first | exact S0 | exact S1 | refine S2 ?_ | refine S3 ?_)), ?_⟩; refine TS.eff ?_; refine TSo.ewG0 rfl (Wt.none rfl) rfl (Ew.storeAll 0 rfl rfl rfl rfl rfl rfl) ?_; rintro _ _ ⟨rfl, rfl⟩; refine ⟨(fun w hw => (hw.frLe (i := 4) rfl le3_7).sub (by repeat first | exact S0 | exact S1 | refine S2 ?_ | refine S3 ?_)), ?_⟩; refine TS.done ?_; exact K.atX (g13, v99_, c99_, F7) ⟨hf99, le3_7⟩ (.c .nil) (List.Sublist.refl _)
                    · refine TSo.ewG rfl (Wt.none rfl) rfl rfl (Ew.alloc rfl) ?_; rintro _ _ ⟨g13, rfl, rfl⟩; refine ⟨(fun w hw => hw.sub (by repeat first | exact S0 | exact S1 | refine S2 ?_ | refine S3 ?_)), ?_⟩; refine TS.eff ?_; refine TSo.ewG rfl (Wt.none rfl) rfl rfl (Ew.callR 4 rfl rfl rfl rfl (fun w hw hF => st_domains hF hsq74 (hw.get (i := 2) rfl) (htab.keptF hw))) ?_; rintro _ _ ⟨⟨v99_, c99_⟩, F8, le3_8, hf99, hq, rfl⟩; obtain rfl := hq.symm; dsimp only at hf99 ⊢; have le1_8 := le1_3.trans le3_8; have le2_8 := le2_3.trans le3_8; haveI := hf99.1.oneC; refine ⟨(fun w hw => (hw.frLe (i := 4) rfl le3_8).sub (by repeat first | exact S0 | exact S1 | refine S2 ?_ | refine S3 ?_)), ?_⟩; refine TS.y rfl (Yv.build rfl rfl) ?_; refine TS.eff ?_; refine TSo.ewG0 rfl (Wt.none rfl) rfl (Ew.storeAll 0 rfl rfl rfl rfl rfl rfl) ?_; rintro _ _ ⟨rfl, rfl⟩; refine ⟨(fun w hw => (hw.frLe (i := 4) rfl le3_8).sub (by repeat first | exact S0 | exact S1 | refine S2 ?_ | refine S3 ?_)), ?_⟩; refine TS.done ?_; exact K.atX (g13, v99_, c99_, F8) ⟨hf99, le3_8⟩ (.c .nil) (List.Sublist.refl _)
                  · rintro ⟨g13, vc8_0_18, cc8_0_18, F6⟩ ⟨hc8_0_18, le3_6⟩; (try dsimp only at *); have le1_6 := le1_3.trans le3_6; have le2_6 := le2_3.trans le3_6; refine T.seq ?_; refine T.splitB (okG (GProblem.mk rq74.1 (GRules.mk p.Rules.Pairs p.Rules.Loads p.Rules.Caps))) (fun h19 => ?_) (fun h19 => ?_)
                    · replace hk := condT_open hk h19; have hq := bind_open hk; clear hk; obtain ⟨r105, hr105, hk⟩ := hq; (try dsimp only at hk); refine T.region ?_; refine TL.y (Yv.loadAO 0 rfl rfl rfl rfl) ?_; refine TL.e (Ew.callH rfl rfl rfl (fun w hw => st_new (p := (GProblem.mk rq74.1 (GRules.mk p.Rules.Pairs p.Rules.Loads p.Rules.Caps))) (hw.fr (i := 4) rfl) ⟨hc8_0_18, (SlC.mono hp_1 le1_6), (SlC.mono hp_2 le1_6), (SlC.mono hp_3 le1_6)⟩ (htab.keptF hw) h19 hfu hr105)) ?_; rintro _ _ ⟨⟨k105_, L105_⟩, hs105, rfl, rfl⟩; dsimp only [List.cons_append, List.nil_append]; dsimp only at hs105; refine TL.run 5 rfl ?_; refine TL.nil (K.seq (T.seq ?_)); refine T.cutXK (ι := FzB w (fun _ => False) S0) (fun z => [(6, .bool ((((decide ((stRem (GProblem.mk rq74.1 (GRules.mk p.Rules.Pairs p.Rules.Loads p.Rules.Caps)) r105) = 0)) && (!(!r105.2))) && (ref17_SameDomains_x r105.1 rq74.1)) || false))]) (fun z => [stE k105_ L105_ (!r105.2), .row g13 29 [vc8_0_18, vp_1, vp_2, vp_3], stE k45_ Lq77_ (!rq77.2), stE k40_ Lq74_ (!rq74.2), .row g3 29 [vp_0, vp_1, vp_2, vp_3], .fr z]) (fun z => F6.toFrz.Le z.toFrz) ?_ ?_
                      · refine T.draw (.still 0 (.still 1 (.still 2 (.still 3 (.still 4 (.still 5 (.still 6 (.still 7 (.eff 8 (.still 9 (.still 10 (.still 11 (.still 12 (.eff 13 (.still 14 (.still 15 (.still 16 (.still 17 (.still 19 (.still 20 (.eff 18 (.eff 21 (.still 22 (.still 23 (.eff 24 (.still 25 (.still 26 .done))))))))))))))))))))))))))) _ (by kernel_rfl) (List.Sublist.refl _) ?_; refine TS.run 1 rfl ?_; refine TS.y rfl (Yv.neNil (e := 69) (by kernel_rfl) rfl rfl rfl) ?_; refine TS.run 6 rfl ?_; refine TS.eff ?_; refine TSo.ewG rfl (Wt.some rfl rfl rfl rfl) rfl rfl (Ew.callD rfl rfl rfl (fun w hw => st_removed hs105 (hw.get (i := 0) rfl) (htab.keptF hw))) ?_; rintro _ _ ⟨rfl, rfl⟩; refine ⟨(fun w hw => hw.sub (by repeat first | exact S0 | exact S1 | refine S2 ?_ | refine S3 ?_)), ?_⟩; refine TS.run 3 rfl ?_; refine TS.gs rfl rfl rfl rfl (fun h20 => ?_) (fun h20 => ?_)
                        · have p20 := of_decide_eq_true h20; refine TS.run 1 rfl ?_; refine TS.eff ?_; refine TSo.ewG rfl (Wt.some rfl rfl rfl rfl) rfl rfl (Ew.callD rfl rfl rfl (fun w hw => st_conflict hs105 (hw.get (i := 0) rfl) (htab.keptF hw))) ?_; rintro _ _ ⟨rfl, rfl⟩; refine ⟨(fun w hw => hw.sub (by repeat first | exact S0 | exact S1 | refine S2 ?_ | refine S3 ?_)), ?_⟩; refine TS.run 3 rfl ?_; refine TS.gs rfl rfl rfl rfl (fun h21 => ?_) (fun h21 => ?_)
                          · have p21 := h21; (try simp only [nfB] at p21); refine TS.run 1 rfl ?_; refine TS.y rfl (Yv.fieldAddr rfl rfl) ?_; refine TS.y rfl (Yv.loadO 1 rfl rfl rfl rfl) ?_; refine TS.eff ?_; refine TSo.ewG rfl (Wt.some rfl rfl rfl rfl) rfl rfl (Ew.callR 5 rfl rfl rfl rfl (fun w hw hF => st_domains hF hs105 (hw.get (i := 0) rfl) (htab.keptF hw))) ?_; rintro _ _ ⟨⟨v126_, c126_⟩, F10, le6_10, hf126, hq, rfl⟩; obtain rfl := hq.symm; dsimp only at hf126 ⊢; have le1_10 := le1_6.trans le6_10; have le2_10 := le2_6.trans le6_10; have le3_10 := le3_6.trans le6_10; haveI := hf126.1.oneC; refine ⟨(fun w hw => (hw.frLe (i := 5) rfl le6_10).sub (by repeat first | exact S0 | exact S1 | refine S2 ?_ | refine S3 ?_)), ?_⟩; refine TS.eff ?_; refine TSo.ewG rfl (Wt.some rfl rfl rfl rfl) rfl rfl (Ew.callD rfl rfl rfl (fun w hw => ref17_SameDomains_c _ w (hw.fr (i := 5) rfl) r105.1 v126_ c126_ hf126 rq74.1 vc8_0_18 cc8_0_18 (SlD.mono (rep := GDomain.rep) (fun _ _ _ _ => GDomain.mono) hc8_0_18 le6_10))) ?_; rintro _ _ ⟨rfl, rfl⟩; refine ⟨(fun w hw => (hw.frLe (i := 5) rfl le6_10).sub (by repeat first | exact S0 | exact S1 | refine S2 ?_ | refine S3 ?_)), ?_⟩; refine TS.run 2 rfl ?_; refine TS.eff ?_; refine TSo.gs rfl rfl rfl rfl (fun h22 => ?_) (fun h22 => ?_)
                            · have p22 := h22; (try simp only [nfB] at p22); refine TSo.ewG rfl (Wt.some rfl rfl rfl rfl) rfl rfl (Ew.callD rfl rfl rfl (fun w hw => known_ret w (htab.keptF hw))) ?_; rintro _ _ ⟨rfl, rfl⟩; refine ⟨(fun w hw => (hw.frLe (i := 5) rfl le6_10).sub (by repeat first | exact S0 | exact S1 | refine S2 ?_ | refine S3 ?_)), ?_⟩; refine TS.run 2 rfl ?_; refine TS.done ?_; exact K.atX F10 le6_10 (.b (or_tt (and_tx (and_tx h20 h21) h22)).symm .nil) (List.Sublist.refl _)
                            · have p22 := h22; (try simp only [nfB] at p22); refine TSo.off rfl (Wt.not rfl rfl rfl rfl) rfl rfl ?_; refine TS.run 2 rfl ?_; refine TS.done ?_; exact K.atX F10 le6_10 (.b (or_fx (and_tx (and_tx h20 h21) h22) rfl).symm .nil) (List.Sublist.refl _)
                          · have p21 := h21; (try simp only [nfB] at p21); refine TS.run 3 rfl ?_; refine TS.eff ?_; refine TSo.off rfl (Wt.not rfl rfl rfl rfl) rfl rfl ?_; refine TS.eff ?_; refine TSo.off rfl (Wt.not rfl rfl rfl rfl) rfl rfl ?_; refine TS.run 2 rfl ?_; refine TS.eff ?_; refine TSo.off rfl (Wt.not rfl rfl rfl rfl) rfl rfl ?_; refine TS.run 2 rfl ?_; refine TS.done ?_; exact K.atX F6 (Frz.Le.refl _) (.b (or_fx (and_ff (and_tx h20 h21)) rfl).symm .nil) (List.Sublist.refl _)
                        · have p20 := of_decide_eq_false h20; refine TS.run 1 rfl ?_; refine TS.eff ?_; refine TSo.off rfl (Wt.not rfl rfl rfl rfl) rfl rfl ?_; refine TS.run 6 rfl ?_; refine TS.eff ?_; refine TSo.off rfl (Wt.not rfl rfl rfl rfl) rfl rfl ?_; refine TS.eff ?_; refine TSo.off rfl (Wt.not rfl rfl rfl rfl) rfl rfl ?_; refine TS.run 2 rfl ?_; refine TS.eff ?_; refine TSo.off rfl (Wt.not rfl rfl rfl rfl) rfl rfl ?_; refine TS.run 2 rfl ?_; refine TS.done ?_; exact K.atX F6 (Frz.Le.refl _) (.b (or_fx (and_ff (and_ff h20)) rfl).symm .nil) (List.Sublist.refl _)
                      · rintro F9 le6_9; (try dsimp only at *); have le1_9 := le1_6.trans le6_9; have le2_9 := le2_6.trans le6_9; have le3_9 := le3_6.trans le6_9; refine T.ret ?_; obtain rfl := Option.some.inj hk; exact K.ret1 rfl rfl (fun w' hw => ⟨rfl, hw.isBelow⟩)
                    · replace hk := condF_open hk h19; refine T.region ?_; refine TL.y (Yv.loadAO 0 rfl rfl rfl rfl) ?_; refine TL.e (Ew.callD rfl rfl rfl (fun w hw => st_newbad (p := (GProblem.mk rq74.1 (GRules.mk p.Rules.Pairs p.Rules.Loads p.Rules.Caps))) (hw.fr (i := 4) rfl) ⟨hc8_0_18, (SlC.mono hp_1 le1_6), (SlC.mono hp_2 le1_6), (SlC.mono hp_3 le1_6)⟩ h19)) ?_; rintro _ _ ⟨rfl, rfl⟩; refine TL.run 5 rfl ?_; refine TL.nil (K.seq (T.seq ?_)); refine T.cutXK (ι := Unit) (fun z => [(6, .bool false)]) (fun z => [.row g13 29 [vc8_0_18, vp_1, vp_2, vp_3], stE k45_ Lq77_ (!rq77.2), stE k40_ Lq74_ (!rq74.2), .row g3 29 [vp_0, vp_1, vp_2, vp_3], .fr F6]) (fun z => True) ?_ ?_
                      · refine T.draw (.still 0 (.still 1 (.still 2 (.still 3 (.still 4 (.still 5 (.still 6 (.still 7 (.eff 8 (.still 9 (.still 10 (.still 11 (.still 12 (.eff 13 (.still 14 (.still 15 (.still 16 (.still 17 (.still 19 (.still 20 (.eff 18 (.eff 21 (.still 22 (.still 23 (.eff 24 (.still 25 (.still 26 .done))))))))))))))))))))))))))) _ (by kernel_rfl) (List.Sublist.refl _) ?_; refine TS.run 1 rfl ?_; refine TS.y rfl (Yv.neNil (e := 69) (by kernel_rfl) rfl rfl rfl) ?_; refine TS.run 6 rfl ?_; refine TS.eff ?_; refine TSo.off rfl (Wt.not rfl rfl rfl rfl) rfl rfl ?_; refine TS.run 4 rfl ?_; refine TS.eff ?_; refine TSo.off rfl (Wt.not rfl rfl rfl rfl) rfl rfl ?_; refine TS.run 6 rfl ?_; refine TS.eff ?_; refine TSo.off rfl (Wt.not rfl rfl rfl rfl) rfl rfl ?_; refine TS.eff ?_; refine TSo.off rfl (Wt.not rfl rfl rfl rfl) rfl rfl ?_; refine TS.run 2 rfl ?_; refine TS.eff ?_; refine TSo.off rfl (Wt.not rfl rfl rfl rfl) rfl rfl ?_; refine TS.run 2 rfl ?_; refine TS.done ?_; exact K.atX () trivial (.c .nil) (List.Sublist.refl _)
                      · rintro _ _; refine T.ret ?_; obtain rfl := Option.some.inj hk; exact K.ret1 rfl rfl (fun w' hw => ⟨rfl, hw.isBelow⟩)
      · replace hk := condF_open hk h8; refine T.region ?_; refine TL.y (Yv.loadAO 0 rfl rfl rfl rfl) ?_; refine TL.e (Ew.callD rfl rfl rfl (fun w hw => st_newbad (p := p) (hw.fr (i := 1) rfl) ⟨hp_0, hp_1, hp_2, hp_3⟩ h8)) ?_; rintro _ _ ⟨rfl, rfl⟩; refine TL.run 5 rfl ?_; refine TL.nil (K.seq (T.seq (T.region ?_))); refine TL.y (Yv.loadAO 0 rfl rfl rfl rfl) ?_; refine TL.e (Ew.callD rfl rfl rfl (fun w hw => st_newbad (p := p) (hw.fr (i := 1) rfl) ⟨hp_0, hp_1, hp_2, hp_3⟩ h8)) ?_; rintro _ _ ⟨rfl, rfl⟩; refine TL.run 5 rfl ?_; refine TL.nil (K.seq (T.seq (T.seq ?_))); refine T.cutXK (ι := Unit) (fun z => [(1, vl), (2, .int .i64 turn), (3, .pointer (some ⟨g3, 0, none⟩)), (7, .pointer none), (9, .pointer none), (53, .bool true)]) (fun z => [.row g3 29 [vp_0, vp_1, vp_2, vp_3], .fr F1]) (fun z => True) ?_ ?_
        · refine T.region ?_; refine TL.run 1 rfl ?_; refine TL.y (Yv.eqNil (e := 69) (by kernel_rfl) rfl rfl rfl) ?_; refine TL.run 4 rfl ?_; refine TL.nil ?_; exact K.atX () trivial (.c (.c (.c (.c (.c (.c .nil)))))) (List.Sublist.refl _)
        · rintro _ _; refine T.condT rfl rfl ?_; refine T.seq (T.region ?_); refine TL.run 1 rfl ?_; refine TL.nil (K.seq (T.ret (K.then_ret ?_))); obtain rfl := Option.some.inj hk; exact K.ret1 rfl rfl (fun w' hw => ⟨rfl, hw.isBelow⟩)
end Go.Proofs.YtljgejbmimapdaaDoor
namespace Go.Proofs.YtljgejbmimapdaaDoor
open Go.RowKit
section
variable {p : GProblem}
theorem remP_rules {q : GProblem} (h : q.Rules = p.Rules) (d : List GDomain) (s c : Int) : remP q d s c = remP p d s c := by
  unfold remP loadR overP sumP; rw [h]
theorem closed_rules {q : GProblem} (h : q.Rules = p.Rules) {d : List GDomain} : ClosedD q d ↔ ClosedD p d := by
  constructor
  · exact fun k => ⟨k.ne, fun x hx c hc => by rw [← remP_rules h]; exact k.calm x hx c hc⟩
  · exact fun k => ⟨k.ne, fun x hx c hc => by rw [remP_rules h]; exact k.calm x hx c hc⟩
theorem prop_closed {d : List GDomain} (h : ClosedD p d) : PropD p d (d, true) := .inl ⟨rfl, h, ⟨SubD.refl _, fun _ _ => List.Sublist.refl _⟩, fun S _ h => h⟩
theorem PropD.closed {d : List GDomain} {m : List GDomain × Bool} (h : PropD p d m) (hm : m.2 = true) : ClosedD p m.1 ∧ SubD m.1 d ∧ OrdD m.1 d := by
  rcases h with ⟨_, h2, h3, _⟩ | ⟨h1, _⟩
  · exact ⟨h2, h3⟩
  · rw [h1] at hm; cases hm
theorem mod_perm {n turn : Nat} (hn : 0 < n) {k : Nat} (hk : k < n) : ∃ i, i < n ∧ (n - 1 - i + turn) % n = k := by
  refine ⟨(n - 1 + (turn % n) + n - k) % n, Nat.mod_lt _ hn, ?_⟩; have ht : turn % n < n := Nat.mod_lt _ hn; rw [Nat.add_mod]; generalize turn % n = t at ht ⊢; rcases Nat.lt_or_ge (n - 1 + t + n - k) (2 * n) with h1 | h1
  · have e : (n - 1 + t + n - k) % n = n - 1 + t + n - k - n := by
      rw [Nat.mod_eq_sub_mod (by omega), Nat.mod_eq_of_lt (by omega)]
    rw [e, Nat.mod_eq_of_lt (show n - 1 - (n - 1 + t + n - k - n) < n by omega)]; rcases Nat.lt_or_ge (n - 1 - (n - 1 + t + n - k - n) + t) n with h2 | h2
    · rw [Nat.mod_eq_of_lt h2]; omega
    · omega
  · have e : (n - 1 + t + n - k) % n = n - 1 + t + n - k - 2 * n := by
      rw [Nat.mod_eq_sub_mod (by omega), Nat.mod_eq_sub_mod (by omega), Nat.mod_eq_of_lt (by omega)]; omega
    rw [e, Nat.mod_eq_of_lt (show n - 1 - (n - 1 + t + n - k - 2 * n) < n by omega)]; rw [Nat.mod_eq_sub_mod (by omega), Nat.mod_eq_of_lt (by omega)]; omega
def turnL (l : List GAct) (turn : Nat) : List GAct := (List.range l.length).map fun i => nth l ((l.length - 1 - i + turn) % l.length)
theorem turn_mem {l : List GAct} {turn : Nat} (x : GAct) : x ∈ turnL l turn ↔ x ∈ l := by
  unfold turnL; simp only [List.mem_map, List.mem_range]; constructor
  · rintro ⟨i, hi, rfl⟩; exact nth_memG (Nat.mod_lt _ (by omega))
  · intro hx; obtain ⟨k, hk, rfl⟩ := mem_nth hx; obtain ⟨i, hi, e⟩ := mod_perm (turn := turn) (by omega) hk; exact ⟨i, hi, by rw [e]⟩
theorem orders_loop {l : List GAct} {turn : Int} {k : List GAct → Option Bool} (hl : l.length ≤ 10) (h0 : 0 ≤ turn) (h1 : turn ≤ 10) :
    iterK (fun (i_13 : Nat) (next12 : List GAct → Option Bool) (other_11 : List GAct) =>
            grd (0 ≤ wI ((((l.length : Int) - 1) - (i_13 : Int)) + turn) ∧ 1 ≤ (l.length : Int)) <|
            grd (0 ≤ ((wI ((((l.length : Int) - 1) - (i_13 : Int)) + turn)) % (l.length : Int)) ∧ ((wI ((((l.length : Int) - 1) - (i_13 : Int)) + turn)) % (l.length : Int)) < (l.length : Int)) <|
            grd (room (other_11 ++ [(nth l (((wI ((((l.length : Int) - 1) - (i_13 : Int)) + turn)) % (l.length : Int)).toNat))]).length 24) <|
            next12 (other_11 ++ [(nth l (((wI ((((l.length : Int) - 1) - (i_13 : Int)) + turn)) % (l.length : Int)).toNat))]))
          (fun (other_11 : List GAct) => k other_11) (l.length - 0) 0 [] = k (turnL l turn.toNat) := by
  rw [Nat.sub_zero]; obtain ⟨t, rfl⟩ : ∃ t : Nat, turn = (t : Int) := ⟨turn.toNat, by omega⟩; refine iterK_inv (fun i s => s = (List.range i).map fun i => nth l ((l.length - 1 - i + t) % l.length)) (fun o => o = k (turnL l t)) rfl (fun s hs => by rw [hs]; rfl) (fun i s next hi hs hn => ?_); (have e1 : wI ((((l.length : Int) - 1) - (i : Int)) + (t : Int)) = ((l.length - 1 - i + t : Nat) : Int) := by rw [wI_in (by omega)]; omega); rw [e1]; (have e2 : (((l.length - 1 - i + t : Nat) : Int) % (l.length : Int)) = (((l.length - 1 - i + t) % l.length : Nat) : Int) := by omega); have hlt : (l.length - 1 - i + t) % l.length < l.length := Nat.mod_lt _ (by omega); rw [e2, Int.toNat_natCast, grd_pos ⟨by omega, by omega⟩, grd_pos ⟨by omega, by omega⟩, grd_pos]
  · refine hn _ ?_; rw [List.range_succ, List.map_append, ← hs]; rfl
  · (have : s.length = i := by rw [hs]; simp); unfold room; rw [List.length_append, this]; simp only [List.length_singleton]; omega
theorem orders_true {fuel : Nat} (hf : 100000 ≤ fuel) (l : List GAct) (turn : Int) : law18_PropagateOrders_x fuel p l turn = some true := by
  unfold law18_PropagateOrders_x; obtain ⟨b, hb⟩ := small_x (p := p) (a := 10) (b := 40) (fuel := fuel) (by omega); rw [hb, Option.bind_some]; simp only [joinK]
  cases b with
  | false => rfl
  | true =>
    simp only [Bool.not_true, cond_false]; by_cases h1 : (10 : Int) < (l.length : Int)
    · rw [decide_eq_true h1]; rfl
    rw [decide_eq_false h1, cond_false]; by_cases h2 : turn < 0
    · rw [decide_eq_true h2]; rfl
    rw [decide_eq_false h2, cond_false]; by_cases h3 : 10 < turn
    · rw [decide_eq_true h3]; rfl
    rw [decide_eq_false h3, cond_false, valid_x, Option.bind_some]
    cases hok : okG p with
    | false => rfl
    | true =>
      obtain ⟨hw, hbd, ht, hn⟩ := okG_bd hok; obtain ⟨m0, g1, g2⟩ := propagate_x (fuel := fuel) hw hbd (by omega) (by omega); simp only [Bool.not_true, cond_false, cond_true]; rw [g1, Option.bind_some, Option.bind_some, orders_loop (by omega) (by omega) (by omega)]; obtain ⟨r, g3, g4⟩ := perform_x hf hok (l := l) g2; obtain ⟨r', g5, g6⟩ := perform_x hf hok (l := turnL l turn.toNat) g2; have hs := actL_sub (d := p.Domains) (l := l); rw [actL_same hbd (l := turnL l turn.toNat) (l' := l) turn_mem] at g6; have e := g4.eq (hbd.ord hs.1.1 hs.2) g6; subst e; rw [g3, Option.bind_some, g5, Option.bind_some, sameDomains_x]; simp only [beq_self_eq_true, Bool.not_true, decide_true, Bool.or_self, cond_false]
      cases hm : r.2 with
      | false => rfl
      | true =>
        obtain ⟨c1, c2, c3⟩ := g4.closed hm; have hq := okG_sub hok ⟨c2.trans hs.1, c3.trans hs.2 hs.1.1⟩; simp only [Bool.not_true, cond_false]; have er : (GRules.mk p.Rules.Pairs p.Rules.Loads p.Rules.Caps) = p.Rules := rfl; rw [er, hq, cond_true]; obtain ⟨qw, qbd, qt, qn⟩ := okG_bd hq; obtain ⟨u, k1, k2⟩ := propagate_x (fuel := fuel) qw qbd (by simp only at qn ⊢; omega) (by omega); have e := (prop_closed ((closed_rules (p := p) (q := ⟨r.1, p.Rules⟩) rfl).2 c1)).eq qbd k2; subst e; rw [k1, Option.bind_some, sameDomains_x]; simp [stRem]
end
end Go.Proofs.YtljgejbmimapdaaDoor
namespace Go.Proofs.YtljgejbmimapdaaDoor
open Go.RowKit Go.ChangeShapes Go.WideShapes Go.Deep
def Opens {H : Type} (enc : TypeId × Value → H) (w : World) (base : Nat) (spare : Nat → Bool) (held : Bool) (t : TypeId) {α : Type} (R : List Value → α → Prop) : Prop :=
  ∀ fuel cs y, DataW.trod enc Tryd.prog w base spare held fuel t cs = some y → ∃ x, R cs x
section
variable {H : Type} {enc : TypeId × Value → H} {w : World} {base : Nat} {spare : Nat → Bool} {held : Bool}
theorem Opens.int {t : TypeId} (ht : Tryd.prog.underlying t = some (.int .i64)) : Opens enc w base spare held t (fun cs (x : Int) => cs = [.int .i64 x]) := fun fuel cs y h => by
  obtain ⟨k, hk, _⟩ := DataW.trod_int ht h; exact ⟨k, hk⟩
theorem cell_Cb {a : Addr} {v : Value} (h : w.cell? a = some v) : Cb w a.block := by
  unfold World.cell? at h
  split at h
  all_goals (first | exact ⟨_, _, _, by assumption⟩ | simp at h | skip)
theorem Opens.any {t e : TypeId} {k : Nat} {α : Type} [Inhabited α] {R : List Value → α → Prop} (ht : Tryd.prog.underlying t = some (.slice e)) (hk : Tryd.prog.cellsOf e = k) (hpos : 0 < k) (ho : Opens enc w base spare held e R) :
    Opens enc w base spare held t (fun cs (l : List α) => ∃ v c, cs = [v] ∧ SlC (Frz.all w) v k c ∧ c.length = l.length ∧ ∀ i, i < l.length → R (nth c i) (nth l i)) := fun fuel cs y h => by
  rcases open_slice ht h with ⟨h0, _⟩ | ⟨a, len, cap, m, n, D, Pl, hcs, hb, hl, hm, hmm, _, hx⟩
  · exact ⟨[], _, [], h0, SlC.nil _ _, rfl, fun i hi => absurd hi (Nat.not_lt_zero i)⟩
  · subst hcs; (have hlm : len ≤ m := by rw [hmm]; split <;> omega)
    have each : ∀ i, i < m → ∃ x : List Value × α, x.1.length = k ∧ R x.1 x.2 ∧ ∀ j, j < k → w.cell? (a.add (i * k + j)) = x.1[j]? := fun i hi => by
      obtain ⟨cs', h1, h2⟩ := hx i hi; rw [hk] at h1; obtain ⟨_, hlen, hcell⟩ := World.cells?_some h1; obtain ⟨x, hR⟩ := ho _ _ _ h2; exact ⟨(cs', x), hlen, hR, fun j hj => by rw [← hcell j hj, add_add]⟩
    obtain ⟨X, hX⟩ := choose_lt each
    have hn : ∀ i, i < len → nth ((List.range len).map fun i => (X i).1) i = (X i).1 := fun i hi => by
      rw [nth_eq (by simpa using hi)]; simp
    have hn2 : ∀ i, i < len → nth ((List.range len).map fun i => (X i).2) i = (X i).2 := fun i hi => by
      rw [nth_eq (by simpa using hi)]; simp
    refine ⟨(List.range len).map fun i => (X i).2, _, (List.range len).map fun i => (X i).1, rfl, ⟨some a, cap, by simp, by simpa using hl, by unfold maxLen at hm; omega, fun c hc => ?_, fun hp => ?_⟩, by simp, fun i hi => ?_⟩
    · simp at hc; obtain ⟨i, hi, rfl⟩ := hc; exact (hX i (by omega)).1
    · (have hp' : 0 < len := by simpa using hp); have c0 := (hX 0 (by omega)).2.2 0 hpos; have hx0 := (hX 0 (by omega)).1; rw [List.getElem?_eq_getElem (by omega)] at c0; have hcb := cell_Cb c0; have hs := World.cell?_spot c0; simp [Addr.add] at hs hcb; obtain ⟨b, off, sp⟩ := a; simp at hs hcb; subst hs; refine ⟨b, off, rfl, hcb, fun i hi j hj => ?_⟩; simp at hi; rw [hn i hi] at hj ⊢; have hxi := hX i (by omega); have := hxi.2.2 j (by omega); refine Eq.trans ?_ this
      show w.cell? _ = _
      rw [add_off, Nat.add_assoc]
    · simp at hi; rw [hn i hi, hn2 i hi]; exact (hX i (by omega)).2.1
theorem Opens.slC {t e : TypeId} {k : Nat} {α : Type} [Inhabited α] {en : α → List Value} (ht : Tryd.prog.underlying t = some (.slice e)) (hk : Tryd.prog.cellsOf e = k) (hpos : 0 < k) (ho : Opens enc w base spare held e (fun cs (x : α) => cs = en x)) :
    Opens enc w base spare held t (fun cs (l : List α) => ∃ v, cs = [v] ∧ SlC (Frz.all w) v k (l.map en)) := fun fuel cs y h => by
  obtain ⟨l, v, c, h1, h2, h3, h4⟩ := Opens.any ht hk hpos ho _ _ _ h; refine ⟨l, v, h1, ?_⟩
  have : c = l.map en := by
    apply List.ext_getElem (by simpa using h3); intro i hi hi2; rw [← nth_eq hi, h4 i (by omega), List.getElem_map, nth_eq (by omega)]
  rw [← this]; exact h2
theorem Opens.slD {t e : TypeId} {k : Nat} {α : Type} [Inhabited α] {rep : Frz → List Value → α → Prop} (ht : Tryd.prog.underlying t = some (.slice e)) (hk : Tryd.prog.cellsOf e = k) (hpos : 0 < k) (ho : Opens enc w base spare held e (rep (Frz.all w))) :
    Opens enc w base spare held t (fun cs (l : List α) => ∃ v c, cs = [v] ∧ SlD rep (Frz.all w) v k c l) := fun fuel cs y h => by
  obtain ⟨l, v, c, h1, h2, h3, h4⟩ := Opens.any ht hk hpos ho _ _ _ h; exact ⟨l, v, c, h1, h2, h3, h4⟩
end
end Go.Proofs.YtljgejbmimapdaaDoor
