/- Sd Yp Lp Gg M13 Se Ff Ps M9 Yw Lg Of: shortened and put together by squeeze.py. -/
import Derived.Test.YtljgejbmimapdaaDoorQ08
import Derived.Laws.Slices
import Derived.Deep.Slices
import Derived.ChangeArms
set_option maxRecDepth 100000
set_option maxHeartbeats 4000000
set_option linter.unusedVariables false
set_option linter.unusedSectionVars false
set_option linter.unusedSimpArgs false
namespace Go.Proofs.YtljgejbmimapdaaDoor
open Go.RowKit
theorem fps_one {e : Ent} : fps [e] = e.fp := by
  funext g
  unfold fps; simp
theorem startFM_ex {F : Frz} {w : World} {e : Ent} (hF : F.At w) (h : e.ok w) (hM : ∀ g, e.fp g → ¬ F.S g) : ∃ (S0 : Nat → Prop) (G : FzB w e.fp S0), G.toFrz = F ∧ (∀ g, S0 g → F.S g) ∧ Hp w e.fp [e, .fr G] w := by
  refine ⟨F.S, Frz.inB hF _, rfl, fun _ h => h, ?_⟩; have := Hp.startFM (es := [e]) hF (by rw [fps_one]; exact Hp.start h) (by rw [fps_one]; exact hM); rw [fps_one] at this; exact this
section
variable {B w : World} {M S0 : Nat → Prop} {hs : HS} {F : FzB B M S0} {e : Ent} {i j : Nat}
theorem Hp.newAt (hw : Hp B M hs w) (hi : hs[i]? = some e) {g : Nat} (hg : e.fp g) : M g ∨ B.heap.size ≤ g := hw.new e (List.mem_of_getElem? hi) g hg
theorem Hp.apartF (hw : Hp B M hs w) (hi : hs[i]? = some e) (hj : hs[j]? = some (.fr F)) (hij : i < j) : ∀ g, e.fp g → ¬ F.toFrz.S g := fun g hg hS =>
  hw.ne hij hi hj hg (Ent.fr_fp.2 ⟨hS, hw.newAt hi hg⟩)
theorem Hp.not0 (hw : Hp B (fun _ => False) hs w) (hi : hs[i]? = some e) (htab : Tab B) : ¬ e.fp 0 := fun hg => by
  rcases hw.newAt hi hg with h | h
  · exact h
  · have h0 := htab 0 (by decide); unfold World.cell? at h0; rw [Array.getElem?_eq_none (by simpa using h)] at h0; simp at h0
end
def stRem (p : GProblem) (m : List GDomain × Bool) : Int := bif m.2 then (totG p.Domains : Int) - (totG m.1 : Int) else 0
theorem tot_take {d : List GDomain} {k : Nat} (hk : k < d.length) : totG (d.take (k + 1)) = totG (d.take k) + (nth d k).Channels.length := by
  unfold totG; rw [List.take_succ_eq_append_getElem hk, nth_eq hk, List.map_append, List.sum_append]; simp
theorem totAt_er {ds : List Dx} : ∀ k, k ≤ ds.length → totAt ds k = (totG ((ds.map Dx.er).take k) : Int)
  | 0, _ => by simp [totAt, totG]
  | k + 1, h => by
    rw [totAt, totAt_er k (by omega), tot_take (by rw [List.length_map]; omega), nth_mapG (by omega)]
    show _ + ((nth ds k).chs.length : Int) = ((_ + (nth ds k).chs.length : Nat) : Int)
    omega
theorem popsum_gd {Y : Tb} {L : Ws} (hl : L.length = Y.n) : ∀ k, k ≤ Y.n → popsum L k = (totG ((gd Y L).take k) : Int)
  | 0, _ => by simp [popsum, totG]
  | k + 1, h => by
    rw [popsum_succ (by omega), popsum_gd hl k (by omega), tot_take (by rw [gd_len]; omega), gd_nth (by omega), pop_chans]
    show _ + ((chansN (nth L k)).length : Int) = ((_ + ((chansN (nth L k)).map fun j : Nat => (j : Int)).length : Nat) : Int)
    rw [List.length_map]; omega
theorem st_removed {p : GProblem} {m : List GDomain × Bool} {k : SK} {L : Ws} {w : World} (h : SI p m k L) (hok : (stE k L (!m.2)).ok w) (htab : Tab w) : Calls Tryd.prog 21 #[.pointer (some ⟨k.sp, 0, none⟩)] w fun e w' => e = .returned (.int .i64 (stRem p m)) ∧ Below w.heap.size w w' := by
  have hs := (h.stF hok htab).st; obtain ⟨P, hP, hok', hY⟩ := h.pb; have hG := Pb.good hok'
  have ht : k.Y.total = (totG p.Domains : Int) := by
    rw [hY.total, totAt_er _ (Nat.le_refl _), ← hP, List.take_of_length_le (by rw [List.length_map]; exact Nat.le_refl _)]; rfl
  have hb : totG p.Domains ≤ 1000000 := by
    have h1 : ∀ x ∈ p.Domains, x.Channels.length ≤ 52 := fun x hx => by
      rw [← hP] at hx; obtain ⟨d, hd, rfl⟩ := List.mem_map.1 hx; exact (hG.chs d hd).1
    have h2 : ∀ d : List GDomain, (∀ x ∈ d, x.Channels.length ≤ 52) → totG d ≤ d.length * 52 := fun d => by
      induction d with
      | nil => intro _; simp [totG]
      | cons x r ih =>
        intro hh; have a1 := hh x (by simp); have a2 := ih (fun y hy => hh y (by simp [hy])); simp only [totG, List.map_cons, List.sum_cons, List.length_cons, Nat.add_mul] at a2 ⊢; omega
    have h3 := h2 _ h1; (have h4 : p.Domains.length = P.ds.length := by rw [← hP]; exact List.length_map _); have h5 := hG.n; rw [h4] at h3; omega
  refine (removed_ret k.sp k.Y L (!m.2) w hs h.ok (by rw [ht]; omega)).mono ?_; rintro e w' ⟨rfl, hb⟩; refine ⟨?_, hb⟩
  congr 2
  unfold removedF stRem
  cases hm : m.2 with
  | false => rfl
  | true =>
    rw [Bool.not_true, if_neg (by simp), cond_true, ht, h.len, popsum_gd h.len _ (Nat.le_refl _), (h.good hm).2.2, List.take_of_length_le (by rw [gd_len]; exact Nat.le_refl _)]
end Go.Proofs.YtljgejbmimapdaaDoor
namespace Go.Proofs.YtljgejbmimapdaaDoor
open Go.RowKit
structure GAct where
  Kind : Int
  Choice : GChoice
deriving DecidableEq, Inhabited
abbrev GAct.enc (x : GAct) : List Value := [.int .i64 x.Kind, .int .i64 x.Choice.Station, .int .i64 x.Choice.Channel]
theorem GAct.len (x : GAct) : (GAct.enc x).length = 3 := rfl
def law18_perform_x (fuel : Nat) (p0_ : GProblem) (m0_ : List GDomain × Bool) (l : List GAct) : Option (List GDomain × Bool) :=
  iterK (fun (i_3 : Nat) (next2 : (List GDomain × Bool) → Option (List GDomain × Bool)) (m_1 : List GDomain × Bool) =>
    (bif decide ((nth l i_3).Kind = 0) then
      (stAct fuel p0_ m_1 true ((nth l i_3).Choice)).bind fun r23 =>
      next2 r23.1
      else
      (stAct fuel p0_ m_1 false ((nth l i_3).Choice)).bind fun r30 =>
      next2 r30.1))
  (fun (m_1 : List GDomain × Bool) =>
    some m_1) (l.length - 0) 0 m0_
theorem law18_perform_c (F0 : Frz) (w : World) (hF0 : F0.At w) (p0_ : GProblem) (m0_ : List GDomain × Bool) (k0_ : SK) (L0_ : Ws) (hs0_ : SI p0_ m0_ k0_ L0_) (ho0_ : (stE k0_ L0_ (!m0_.2)).ok w) (ha0_ : ∀ g, (stE k0_ L0_ (!m0_.2)).fp g → ¬ F0.S g) (hz0_ : ¬ (stE k0_ L0_ (!m0_.2)).fp 0) (l : List GAct) (vl : Value) (hl : SlC F0 vl 3 (l.map GAct.enc)) (htab : Tab w) (fuel : Nat) (hfu : 100000 ≤ fuel) (r : (List GDomain × Bool)) (hr : law18_perform_x fuel p0_ m0_ l = some r) : Calls Tryd.prog 18 #[.pointer (some ⟨k0_.sp, 0, none⟩), vl] w fun e w' => ∃ L, SI p0_ r k0_ L ∧ e = .returned (.tuple #[]) ∧ Hp w (stE k0_ L0_ (!m0_.2)).fp [stE k0_ L (!r.2)] w' := by
  have hk := hr; unfold law18_perform_x at hk; haveI := hl.oneC; obtain ⟨S0, F1, rfl, hS0, hp0⟩ := startFM_ex hF0 ho0_ ha0_; refine calls_T (M := (stE k0_ L0_ (!m0_.2)).fp) (hs := [stE k0_ L0_ (!m0_.2), .fr F1]) Tryd.func18 rfl rfl rfl hp0 ?_; refine T.seq (T.region ?_); refine TL.run 1 rfl ?_; refine TL.nil (K.seq ?_); have hq := iterK_open hk; clear hk; obtain ⟨f2, kk2, hf2, hkk2, hk⟩ := hq; refine T.block ?_; refine T.loop (ι := Nat × (List GDomain × Bool) × Ws) (fun z => [(0, .pointer (some ⟨k0_.sp, 0, none⟩)), (1, vl), (4, .int .i64 (z.1 : Int))]) (fun z => [stE k0_ z.2.2 (!z.2.1.2), .fr F1]) (fun z => iterK f2 kk2 (l.length - z.1) z.1 z.2.1 = some r ∧ SI p0_ z.2.1 k0_ z.2.2) (fun z => l.length - z.1) (0, m0_, L0_) ?_ ?_ ?_ ?_
  · exact ⟨hk, hs0_⟩
  · exact (.c (.c (.c .nil)))
  · exact List.Sublist.refl _
  · rintro ⟨i_3, m_1, Lm_1⟩ ⟨hk, hsm_1⟩; (try dsimp only at *); refine T.seq (T.seq (T.region ?_)); refine TL.run 2 rfl ?_; refine TL.y (Yv.lenR rfl rfl hl (List.length_map _)) ?_; have hm7 : l.length ≤ 9223372036854775807 := (List.length_map _) ▸ hl.max; refine TL.run 1 rfl ?_; refine TL.nil (K.seq ?_); refine T.cond rfl (fun h4 => ?_) (fun h4 => ?_)
    · have p4 := of_decide_eq_true h4; rw [iterK_lt (by omega)] at hk; generalize hn2 : iterK f2 kk2 (l.length - (i_3 + 1)) (i_3 + 1) = next2 at hk; rw [← hf2] at hk; (try dsimp only at hk); refine T.skip (K.seq (T.seq (T.block (T.seq (T.region ?_))))); refine TL.run 2 rfl ?_; refine TL.y (Yv.idxR (i := i_3) rfl rfl rfl hl (List.length_map _) rfl (by omega)) ?_; refine TL.y (Yv.fldR rfl rfl hl (List.length_map _) (by omega)) ?_; refine TL.y (Yv.loadRF 1 (i := i_3) (j := 0) rfl rfl rfl hl (by omega) rfl rfl) ?_; refine TL.run 1 rfl ?_; refine TL.nil (K.seq ?_); refine T.cond rfl (fun h5 => ?_) (fun h5 => ?_)
      · have p5 := of_decide_eq_true h5; replace hk := condT_open hk h5; have hq := bind_open hk; clear hk; obtain ⟨r23, hr23, hk⟩ := hq; (try dsimp only at hk); refine T.region ?_; refine TL.run 3 rfl ?_; refine TL.y (Yv.idxR (i := i_3) rfl rfl rfl hl (List.length_map _) rfl (by omega)) ?_; refine TL.y (Yv.fldR rfl rfl hl (List.length_map _) (by omega)) ?_; refine TL.y (Yv.loadRFP 1 (i := i_3) (j := 1) rfl rfl rfl hl (by omega) rfl rfl rfl) ?_; refine TL.e (Ew.callM 0 rfl rfl rfl rfl (fun w hw => st_assume hsm_1 (hw.get (i := 0) rfl) (htab.kept hw hz0_) hfu ((nth l i_3).Choice) hr23)) ?_; rintro _ _ ⟨L23_, hs23, rfl, rfl⟩; refine TL.nil (K.blk_normal (K.seq (T.region ?_))); refine TL.run 1 rfl ?_; refine TL.y (Yv.addI rfl rfl rfl (by omega)) ?_; refine TL.run 1 rfl ?_; refine TL.nil ?_; rw [← hn2] at hk; exact K.next ((i_3 + 1), r23.1, L23_) ⟨hk, hs23⟩ (by dsimp only; omega) (.c (.c (.c .nil))) (List.Sublist.refl _)
      · have p5 := of_decide_eq_false h5; replace hk := condF_open hk h5; have hq := bind_open hk; clear hk; obtain ⟨r30, hr30, hk⟩ := hq; (try dsimp only at hk); refine T.region ?_; refine TL.run 3 rfl ?_; refine TL.y (Yv.idxR (i := i_3) rfl rfl rfl hl (List.length_map _) rfl (by omega)) ?_; refine TL.y (Yv.fldR rfl rfl hl (List.length_map _) (by omega)) ?_; refine TL.y (Yv.loadRFP 1 (i := i_3) (j := 1) rfl rfl rfl hl (by omega) rfl rfl rfl) ?_; refine TL.e (Ew.callM 0 rfl rfl rfl rfl (fun w hw => st_forbid hsm_1 (hw.get (i := 0) rfl) (htab.kept hw hz0_) hfu ((nth l i_3).Choice) hr30)) ?_; rintro _ _ ⟨L30_, hs30, rfl, rfl⟩; refine TL.nil (K.blk_normal (K.seq (T.region ?_))); refine TL.run 1 rfl ?_; refine TL.y (Yv.addI rfl rfl rfl (by omega)) ?_; refine TL.run 1 rfl ?_; refine TL.nil ?_; rw [← hn2] at hk; exact K.next ((i_3 + 1), r30.1, L30_) ⟨hk, hs30⟩ (by dsimp only; omega) (.c (.c (.c .nil))) (List.Sublist.refl _)
    · have p4 := of_decide_eq_false h4; rw [iterK_ge (by omega), ← hkk2] at hk; (try dsimp only at hk); refine T.exit (K.then_exit (K.then_exit (K.blk_exit_eq ?_))); obtain rfl := Option.some.inj hk; exact K.end0 rfl (fun w' hw => ⟨Lm_1, hsm_1, rfl, hw.sub (by repeat first | exact S0 | exact S1 | refine S2 ?_ | refine S3 ?_)⟩)
end Go.Proofs.YtljgejbmimapdaaDoor
namespace Go.Proofs.YtljgejbmimapdaaDoor
open Go.RowKit
structure FiltD (f : GDomain → GDomain) (φ : Int → Int → Prop) : Prop where
  st : ∀ x, (f x).Station = x.Station
  mem : ∀ x q, q ∈ (f x).Channels ↔ q ∈ x.Channels ∧ φ x.Station q
  sub : ∀ x, (f x).Channels.Sublist x.Channels
  mono : ∀ x y, x.Station = y.Station → x.Channels.Sublist y.Channels → (f x).Channels.Sublist (f y).Channels
theorem FiltD.id : FiltD id (fun _ _ => True) := ⟨fun _ => rfl, fun _ _ => by simp, fun _ => List.Sublist.refl _, fun _ _ _ h => h⟩
theorem FiltD.keep (s c : Int) : FiltD (keepD s c) (fun t q => t = s → q = c) := by
  refine ⟨fun _ => rfl, fun _ _ => keepD_mem, fun _ => keepD_sub, fun x y hst hsb => ?_⟩; unfold keepD; dsimp only; rw [hst]
  cases decide (y.Station = s)
  · exact hsb
  · cases ha : x.Channels.any (fun k => decide (k = c))
    · exact List.nil_sublist _
    · obtain ⟨k, hk, he⟩ := List.any_eq_true.1 ha; rw [List.any_eq_true.2 ⟨k, hsb.subset hk, he⟩]; exact List.Sublist.refl _
theorem FiltD.drop (s c : Int) : FiltD (dropD s c) (fun t q => ¬ t = s ∨ ¬ q = c) := by
  refine ⟨fun _ => rfl, fun x q => ?_, fun _ => List.filter_sublist, fun x y hst hsb => ?_⟩
  · unfold dropD; simp only [List.mem_filter, Bool.or_eq_true, decide_eq_true_eq]
  · unfold dropD; dsimp only; rw [hst]; exact hsb.filter _
section
variable {p : GProblem} {a b d : List GDomain} {f : GDomain → GDomain} {φ : Int → Int → Prop}
theorem FiltD.subD (h : FiltD f φ) : SubD (d.map f) d ∧ OrdD (d.map f) d := by
  refine ⟨⟨List.length_map _, fun i hi => ?_⟩, fun i hi => ?_⟩
  · rw [nth_mapG hi]; exact ⟨h.st _, fun c hc => ((h.mem _ _).1 hc).1⟩
  · rw [nth_mapG hi]; exact h.sub _
theorem FiltD.monoD (h : FiltD f φ) (hs : SubD a b) : SubD (a.map f) (b.map f) := by
  refine ⟨by rw [List.length_map, List.length_map]; exact hs.1, fun i hi => ?_⟩; rw [List.length_map] at hi; rw [nth_mapG hi, nth_mapG (by rw [hs.1]; exact hi)]; have h2 := hs.2 i hi; refine ⟨by rw [h.st, h.st]; exact h2.1, fun c hc => ?_⟩; have h3 := (h.mem _ _).1 hc; exact (h.mem _ _).2 ⟨h2.2 c h3.1, by rw [← h2.1]; exact h3.2⟩
theorem PropD.filt {m r : List GDomain × Bool} (hf : FiltD f φ) (h : PropD p d m) (hm : m.2 = true) (hr : PropD p (m.1.map f) r) : PropD p (d.map f) r := by
  rcases h with ⟨_, h2, h3, h4⟩ | ⟨h1, _⟩
  · have hsup : ∀ S, ClosedD p S → SubD S (d.map f) → SubD S (m.1.map f) := fun S hS hs => by
      have h5 := h4 S hS (hs.trans hf.subD.1); refine ⟨by rw [List.length_map]; exact h5.1, fun i hi => ?_⟩; rw [List.length_map] at hi; (have hid : i < d.length := by rw [← h3.1.1]; exact hi); rw [nth_mapG hi]; have h6 := h5.2 i hi; refine ⟨by rw [hf.st]; exact h6.1, fun k hk => (hf.mem _ _).2 ⟨h6.2 k hk, ?_⟩⟩; have h7 := (hs.2 i (by rw [List.length_map]; exact hid)).2 k hk; rw [nth_mapG hid] at h7; rw [(h3.1.2 i hid).1]; exact ((hf.mem _ _).1 h7).2
    rcases hr with ⟨g1, g2, g3, g4⟩ | ⟨g1, g2⟩
    · refine .inl ⟨g1, g2, ⟨g3.1.trans (hf.monoD h3.1), fun i hi => ?_⟩, fun S hS hs => g4 S hS (hsup S hS hs)⟩; rw [List.length_map] at hi; (have hi' : i < m.1.length := by rw [h3.1.1]; exact hi); have h8 := g3.2 i (by rw [List.length_map]; exact hi'); rw [nth_mapG hi'] at h8; rw [nth_mapG hi]; exact h8.trans (hf.mono _ _ (h3.1.2 i hi).1 (h3.2 i hi))
    · exact .inr ⟨g1, fun S hS hs => g2 S hS (hsup S hS hs)⟩
  · rw [h1] at hm; cases hm
def actC (keep : Bool) (c : GChoice) : GDomain → GDomain := bif goodC c then (bif keep then keepD c.Station c.Channel else dropD c.Station c.Channel) else id
def actQ (keep : Bool) (c : GChoice) (s q : Int) : Prop := goodC c = true → s = c.Station → (q = c.Channel ↔ keep = true)
theorem filt_act (keep : Bool) (c : GChoice) : FiltD (actC keep c) (actQ keep c) := by
  have key : ∀ {φ ψ : Int → Int → Prop} {f : GDomain → GDomain}, FiltD f φ → (∀ s q, φ s q ↔ ψ s q) → FiltD f ψ := fun h k => ⟨h.st, fun x q => by rw [h.mem, k], h.sub, h.mono⟩; unfold actC actQ
  cases goodC c
  · exact key FiltD.id (fun s q => by simp)
  · cases keep
    · exact key (FiltD.drop _ _) (fun s q => by simp; constructor <;> intro h <;> by_cases e : s = c.Station <;> simp_all)
    · exact key (FiltD.keep _ _) (fun s q => by simp)
theorem stAct_x {fuel : Nat} (hf : 100000 ≤ fuel) (hok : okG p = true) (hd : SubD d p.Domains ∧ OrdD d p.Domains) {m : List GDomain × Bool} (h : PropD p d m) (keep : Bool) (c : GChoice) : ∃ r, stAct fuel p m keep c = some (r, bif !goodC c then 2 else bif !m.2 then 8 else bif !hasSt p c.Station then 9 else 0) ∧ PropD p (d.map (actC keep c)) r := by
  obtain ⟨hw, hbd, ht, hn⟩ := okG_bd hok; unfold stAct
  cases hg : goodC c
  · refine ⟨m, rfl, ?_⟩; (have e : actC keep c = id := by unfold actC; rw [hg]; rfl); rw [e, List.map_id]; exact h
  · cases hm : m.2
    · exact ⟨m, rfl, h.keepBad hm (filt_act keep c).subD.1⟩
    · cases hh : hasSt p c.Station
      · refine ⟨m, rfl, ?_⟩
        have e : d.map (actC keep c) = d := by
          refine (List.map_congr_left (g := id) fun x hx => ?_).trans (List.map_id _); obtain ⟨i, hi, rfl⟩ := mem_nth hx; (have hi' : i < p.Domains.length := by rw [← hd.1.1]; exact hi)
          have hne : ¬ (nth d i).Station = c.Station := by
            rw [(hd.1.2 i hi').1]; intro e; have : hasSt p c.Station = true := List.any_eq_true.2 ⟨_, nth_memG hi', by simpa using e⟩; rw [hh] at this; cases this
          unfold actC; rw [hg, cond_true]
          cases keep
          · show dropD _ _ _ = _
            unfold dropD; have : (nth d i).Channels.filter (fun k => decide (¬ (nth d i).Station = c.Station) || decide (¬ k = c.Channel)) = (nth d i).Channels := List.filter_eq_self.2 (fun k _ => by simp [hne]); rw [this]; rfl
          · show keepD _ _ _ = _
            unfold keepD; rw [decide_eq_false hne]; rfl
        rw [e]; exact h
      · have ho := h.ord hm; have hol := ho.2.trans hd.2 hd.1.1; have hlen : m.1.length = p.Domains.length := ho.1.trans hd.1.1; have hb1 := hbd.ord hlen hol; have ht1 := totG_ord hlen hol; have hs := (filt_act keep c).subD (d := m.1); have hb2 := hb1.ord hs.1.1 hs.2; have ht2 := totG_ord hs.1.1 hs.2; obtain ⟨r, h5, h6⟩ := propagate_x (fuel := fuel) hw hb2 (by rw [hs.1.1]; omega) (by omega); refine ⟨r, ?_, PropD.filt (filt_act keep c) h hm h6⟩
        have e : (bif keep then ref18_Keep_x m.1 c.Station c.Channel else ref18_Drop_x m.1 c.Station c.Channel) = some (m.1.map (actC keep c)) := by
          unfold actC; rw [hg]
          cases keep
          · exact drop_x hb1.len (fun x hx => (hb1.ch x hx).1)
          · exact keep_x hb1.len (fun x hx => (hb1.ch x hx).1)
        simp only [Bool.not_true, cond_false]; rw [e, Option.bind_some, h5]; rfl
def actD (x : GAct) : GDomain → GDomain := actC (decide (x.Kind = 0)) x.Choice
def actL (d : List GDomain) (l : List GAct) : List GDomain := l.foldl (fun d x => d.map (actD x)) d
theorem actL_sub {l : List GAct} : SubD (actL d l) d ∧ OrdD (actL d l) d := by
  induction l generalizing d with
  | nil => exact ⟨SubD.refl _, fun _ _ => List.Sublist.refl _⟩
  | cons x r ih =>
    have h1 := (filt_act (decide (x.Kind = 0)) x.Choice).subD (d := d); have h2 := ih (d := d.map (actD x)); exact ⟨h2.1.trans h1.1, h2.2.trans h1.2 h1.1.1⟩
theorem perform_x {fuel : Nat} (hf : 100000 ≤ fuel) (hok : okG p = true) {l : List GAct} {m : List GDomain × Bool} (h : PropD p p.Domains m) : ∃ r, law18_perform_x fuel p m l = some r ∧ PropD p (actL p.Domains l) r := by
  unfold law18_perform_x; rw [Nat.sub_zero]; refine iterK_inv (fun i s => PropD p (actL p.Domains (l.take i)) s) (fun o => ∃ r, o = some r ∧ PropD p (actL p.Domains l) r) (by simpa [actL] using h) (fun s hs => ⟨s, rfl, by rw [List.take_of_length_le (Nat.le_refl _)] at hs; exact hs⟩) (fun i s next hi hs hn => ?_)
  have hstep : actL p.Domains (l.take (i + 1)) = (actL p.Domains (l.take i)).map (actD (nth l i)) := by
    unfold actL; rw [List.take_succ_eq_append_getElem hi, nth_eq hi, List.foldl_append]; rfl
  have key : ∀ keep, decide ((nth l i).Kind = 0) = keep → ∃ r, ((stAct fuel p s keep (nth l i).Choice).bind fun x => next x.1) = some r ∧ PropD p (actL p.Domains l) r := fun keep hk => by
    obtain ⟨r, h1, h2⟩ := stAct_x hf hok actL_sub hs keep (nth l i).Choice; rw [h1, Option.bind_some]; refine hn r ?_; rw [hstep]; unfold actD; rw [hk]; exact h2
  cases hk : decide ((nth l i).Kind = 0)
  · exact key false hk
  · exact key true hk
end
end Go.Proofs.YtljgejbmimapdaaDoor
namespace Go.Proofs.YtljgejbmimapdaaDoor
open Go.RowKit
structure GG (p : GProblem) : Prop where
  n : p.Domains.length ≤ 512
  st : ∀ x ∈ p.Domains, 0 ≤ x.Station ∧ x.Station ≤ 511
  chs : ∀ x ∈ p.Domains, x.Channels.length ≤ 52 ∧ ∀ c ∈ x.Channels, 2 ≤ c ∧ c ≤ 51
  inc : ∀ i j, i < j → j < p.Domains.length → (nth p.Domains i).Station < (nth p.Domains j).Station
  ps : ∀ x ∈ p.Rules.Pairs, (hasSt p x.A = true ∧ hasSt p x.B = true) ∧ (x.A < x.B ∧ -1 ≤ x.Offset ∧ x.Offset ≤ 1) ∧ 2 ≤ x.Low ∧ x.Low ≤ x.High ∧ x.High ≤ 51
  ls : ∀ x ∈ p.Rules.Loads, (hasSt p x.To = true ∧ hasSt p x.From = true) ∧ (x.To ≠ x.From ∧ 1 ≤ x.Weight ∧ x.Weight ≤ 1073741824) ∧ 2 ≤ x.Low ∧ x.Low ≤ x.High ∧ x.High ≤ 51
  cs : ∀ x ∈ p.Rules.Caps, hasSt p x.Station = true ∧ (0 ≤ x.Max ∧ x.Max ≤ 1099511627776) ∧ 2 ≤ x.Low ∧ x.Low ≤ x.High ∧ x.High ≤ 51
  lls : p.Rules.Loads.length ≤ 1024
  lps : p.Rules.Pairs.length ≤ 4096
  lcs : p.Rules.Caps.length ≤ 1024
theorem hasSt_ex {p : GProblem} {s : Int} : hasSt p s = true ↔ ∃ x ∈ p.Domains, x.Station = s := by
  unfold hasSt; rw [List.any_eq_true]; simp only [decide_eq_true_eq]
theorem okG_gg {p : GProblem} (h : okG p = true) : GG p := by
  have hG := Pb.good h; have hl : (pbG p).ds.length = p.Domains.length := List.length_map _; have hn : ∀ i, i < p.Domains.length → nth (pbG p).ds i = (nth p.Domains i).b := fun i hi => nth_mapG hi
  have hs : ∀ {s : Int}, (∃ i, i < (pbG p).ds.length ∧ s = (nth (pbG p).ds i).st) → hasSt p s = true := fun ⟨i, hi, e⟩ => by
    rw [hl] at hi; rw [hn i hi] at e; exact hasSt_ex.2 ⟨_, nth_memG hi, e.symm⟩
  refine ⟨by rw [← hl]; exact hG.n, fun x hx => hG.st x.b (List.mem_map.2 ⟨x, hx, rfl⟩), fun x hx => hG.chs x.b (List.mem_map.2 ⟨x, hx, rfl⟩), fun i j hij hj => ?_, fun x hx => ?_, fun x hx => ?_, fun x hx => ?_, ?_, ?_, ?_⟩
  · have := hG.inc i j hij (by rw [hl]; exact hj); rw [hn i (by omega), hn j hj] at this; exact this
  · obtain ⟨h1, h2, h3⟩ := hG.ps x.b (List.mem_map.2 ⟨x, hx, rfl⟩); simp only [Pr.ok, rngB, inB, Bool.and_eq_true, decide_eq_true_eq] at h1; exact ⟨⟨hs h2, hs h3⟩, by show x.A < x.B ∧ _; exact ⟨h1.2.2.1, h1.2.2.2.1.1, h1.2.2.2.1.2⟩, h1.2.2.2.2.1, h1.2.2.2.2.2.1, h1.2.2.2.2.2.2⟩
  · obtain ⟨h1, h2, h3⟩ := hG.ls x.b (List.mem_map.2 ⟨x, hx, rfl⟩); simp only [Ld.ok, rngB, inB, Bool.and_eq_true, decide_eq_true_eq] at h1; exact ⟨⟨hs h2, hs h3⟩, ⟨h1.2.2.1, h1.2.2.2.1.1, h1.2.2.2.1.2⟩, h1.2.2.2.2.1, h1.2.2.2.2.2.1, h1.2.2.2.2.2.2⟩
  · obtain ⟨h1, h2⟩ := hG.cs x.b (List.mem_map.2 ⟨x, hx, rfl⟩); simp only [Cp.ok, rngB, inB, Bool.and_eq_true, decide_eq_true_eq] at h1; exact ⟨hs h2, ⟨h1.2.1.1, h1.2.1.2⟩, h1.2.2.1, h1.2.2.2.1, h1.2.2.2.2⟩
  · have := hG.lls; have e : (pbG p).ls.length = p.Rules.Loads.length := List.length_map _; omega
  · have := hG.lps; have e : (pbG p).ps.length = p.Rules.Pairs.length := List.length_map _; omega
  · have := hG.lcs; have e : (pbG p).cs.length = p.Rules.Caps.length := List.length_map _; omega
structure ValidL (l : List GChoice) : Prop where
  good : ∀ c ∈ l, 0 ≤ c.Station ∧ c.Station ≤ 511 ∧ 2 ≤ c.Channel ∧ c.Channel ≤ 51
  inc : ∀ i j, i < j → j < l.length → (nth l i).Station < (nth l j).Station
theorem ValidL.inj {l : List GChoice} (h : ValidL l) {a b : GChoice} (ha : a ∈ l) (hb : b ∈ l) (e : a.Station = b.Station) : a = b := by
  obtain ⟨i, hi, rfl⟩ := mem_nth ha; obtain ⟨j, hj, rfl⟩ := mem_nth hb; rcases Nat.lt_trichotomy i j with h1 | h1 | h1
  · have := h.inc i j h1 hj; omega
  · rw [h1]
  · have := h.inc j i h1 hi; omega
def orV (k : Int) (o : Option Nat) (r : GViolation) : GViolation := match o with
  | some i => ⟨k, (i : Int)⟩
  | none => r
section
variable {p : GProblem} {f : Int → Int}
theorem over_iff {s c l : Int} : overP p s c l = true ↔ ∃ x ∈ p.Rules.Caps, (x.Station = s ∧ x.Low ≤ c ∧ c ≤ x.High) ∧ x.Max < l := by
  unfold overP; rw [List.any_eq_true]; simp only [Bool.and_eq_true, decide_eq_true_eq]
end
end Go.Proofs.YtljgejbmimapdaaDoor
namespace Go.Proofs.YtljgejbmimapdaaDoor
open Go.RowKit
def stHasF (Y : Tb) (L : Ws) (c : Bool) (x : Ch) : Bool := if c = true ∨ x.ch < 2 ∨ 51 < x.ch then false else if (atF Y x.st).2 = false then false else (nth L (atF Y x.st).1.toNat).getLsbD x.ch.toNat
theorem shas_ret (sp : Nat) (Y : Tb) (L : Ws) (c : Bool) (x : Ch) (w : World) (h : StateAt w sp Y L c) (hok : Y.Ok) (hix : ∀ j, 0 ≤ Y.ix j ∧ Y.ix j ≤ Y.n) : Calls Tryd.prog 26 #[.pointer (some ⟨sp, 0, none⟩), .agg (Ch.cells x).toArray] w fun e w' => e = .returned (.bool (stHasF Y L c x)) ∧ Below w.heap.size w w' := by
  obtain ⟨tp, hsp0, hT⟩ := h.tb; obtain ⟨vL, hsp1, hL⟩ := h.left; obtain ⟨AL, capL, rfl, hLs⟩ := hL.op; have hLn := h.len; have hcon := h.con; refine calls_T (M := fun _ => False) (hs := []) Tryd.func26 rfl rfl rfl (Hp.refl _ _) ?_; simp only [Ch.cells]; refine T.seq (T.region ?_)
  first | (refine TL.ew (Wt.none rfl) rfl rfl (Ew.box rfl rfl) ?_; rintro _ _ ⟨g3, rfl, rfl⟩) | (refine TL.ew (Wt.none rfl) rfl rfl (Ew.boxA rfl rfl) ?_; rintro _ _ ⟨g3, rfl, rfl⟩)
  refine TL.run 1 rfl ?_; refine TL.nil (K.seq (T.seq (T.seq (T.region ?_)))); refine TL.run 1 rfl ?_; (refine TL.ew (Wt.none rfl) rfl rfl (Ew.callD rfl rfl rfl (fun w hw => missing_ret sp Y L c w (h.kept hw))) ?_; rintro _ _ ⟨rfl, rfl⟩); refine TL.run 1 rfl ?_; refine TL.yv (Wt.some rfl rfl rfl rfl) rfl rfl (Yv.pur rfl) ?_; refine TL.yv (Wt.some rfl rfl rfl rfl) rfl rfl (Yv.pur rfl) ?_; refine TL.yv (Wt.some rfl rfl rfl rfl) rfl rfl (Yv.fieldAddr rfl rfl) ?_
  first | refine TL.yv (Wt.some rfl rfl rfl rfl) rfl rfl (Yv.loadB rfl rfl hcon (fun h => h)) ?_ | refine TL.yv (Wt.some rfl rfl rfl rfl) rfl rfl (Yv.loadB rfl rfl hsp0 (fun h => h)) ?_ | refine TL.yv (Wt.some rfl rfl rfl rfl) rfl rfl (Yv.loadB rfl rfl hsp1 (fun h => h)) ?_ | refine TL.yv (Wt.some rfl rfl rfl rfl) rfl rfl (Yv.loadC (j := 0) rfl rfl hk rfl rfl (fun h => h)) ?_ | refine TL.yv (Wt.some rfl rfl rfl rfl) rfl rfl (Yv.loadO 0 rfl rfl rfl rfl) ?_ | refine TL.yv (Wt.some rfl rfl rfl rfl) rfl rfl (Yv.loadO 1 rfl rfl rfl rfl) ?_ | refine TL.yv (Wt.some rfl rfl rfl rfl) rfl rfl (Yv.loadO 2 rfl rfl rfl rfl) ?_ | refine TL.yv (Wt.some rfl rfl rfl rfl) rfl rfl (Yv.loadB rfl rfl (by assumption) (fun h => h)) ?_ | refine TL.yv (Wt.some rfl rfl rfl rfl) rfl rfl (Yv.loadS 0 rfl rfl rfl (by first | rfl | assumption)) ?_ | refine TL.yv (Wt.some rfl rfl rfl rfl) rfl rfl (Yv.loadS 1 rfl rfl rfl (by first | rfl | assumption)) ?_ | refine TL.yv (Wt.some rfl rfl rfl rfl) rfl rfl (Yv.loadS 2 rfl rfl rfl (by first | rfl | assumption)) ?_
  refine TL.run 2 rfl ?_; refine TL.gsplit rfl rfl rfl (fun h1 => ?_) (fun h1 => ?_)
  · have p1 := h1; (try simp only [nfB] at p1); refine TL.off (Wt.not rfl rfl rfl h1) rfl rfl ?_; refine TL.off (Wt.not rfl rfl rfl h1) rfl rfl ?_; refine TL.off (Wt.not rfl rfl rfl h1) rfl rfl ?_; refine TL.y (Yv.pickT rfl rfl h1 rfl) ?_; refine TL.run 5 rfl ?_; refine TL.nil (K.seq ?_); refine T.condT rfl rfl ?_; refine T.seq (T.region ?_); refine TL.run 1 rfl ?_; refine TL.nil (K.seq (T.ret (K.then_ret ?_))); refine K.ret1 rfl rfl (fun w' hw => ⟨?_, hw.isBelow⟩)
    first | exact ret_bool (by rw [stHasF, if_pos (by first | (left; assumption) | (right; omega))]) | exact ret_bool (by rw [stHasF, if_neg (fun h => by rcases h with h | h | h; (rw [p1] at h; cases h); omega; omega), if_pos (by assumption)]) | exact ret_bool (by rw [stHasF, if_neg (fun h => by rcases h with h | h | h; (rw [p1] at h; cases h); omega; omega), if_neg (by rw [p4]; simp), bit_is])
  · have p1 := h1; (try simp only [nfB] at p1); refine TL.yv (Wt.some rfl rfl rfl h1) rfl rfl (Yv.fieldAddr rfl rfl) ?_
    first | refine TL.yv (Wt.some rfl rfl rfl h1) rfl rfl (Yv.loadB rfl rfl hcon (fun h => h)) ?_ | refine TL.yv (Wt.some rfl rfl rfl h1) rfl rfl (Yv.loadB rfl rfl hsp0 (fun h => h)) ?_ | refine TL.yv (Wt.some rfl rfl rfl h1) rfl rfl (Yv.loadB rfl rfl hsp1 (fun h => h)) ?_ | refine TL.yv (Wt.some rfl rfl rfl h1) rfl rfl (Yv.loadC (j := 0) rfl rfl hk rfl rfl (fun h => h)) ?_ | refine TL.yv (Wt.some rfl rfl rfl h1) rfl rfl (Yv.loadO 0 rfl rfl rfl rfl) ?_ | refine TL.yv (Wt.some rfl rfl rfl h1) rfl rfl (Yv.loadO 1 rfl rfl rfl rfl) ?_ | refine TL.yv (Wt.some rfl rfl rfl h1) rfl rfl (Yv.loadO 2 rfl rfl rfl rfl) ?_ | refine TL.yv (Wt.some rfl rfl rfl h1) rfl rfl (Yv.loadB rfl rfl (by assumption) (fun h => h)) ?_ | refine TL.yv (Wt.some rfl rfl rfl h1) rfl rfl (Yv.loadS 0 rfl rfl rfl (by first | rfl | assumption)) ?_ | refine TL.yv (Wt.some rfl rfl rfl h1) rfl rfl (Yv.loadS 1 rfl rfl rfl (by first | rfl | assumption)) ?_ | refine TL.yv (Wt.some rfl rfl rfl h1) rfl rfl (Yv.loadS 2 rfl rfl rfl (by first | rfl | assumption)) ?_
    refine TL.yv (Wt.some rfl rfl rfl h1) rfl rfl (Yv.pur rfl) ?_; refine TL.y (Yv.pickF rfl rfl h1 rfl) ?_; refine TL.run 1 rfl ?_; refine TL.gsplit rfl rfl rfl (fun h2 => ?_) (fun h2 => ?_)
    · have p2 := h2; (try simp only [nfB] at p2); refine TL.off (Wt.not rfl rfl rfl h2) rfl rfl ?_; refine TL.off (Wt.not rfl rfl rfl h2) rfl rfl ?_; refine TL.off (Wt.not rfl rfl rfl h2) rfl rfl ?_; refine TL.y (Yv.pickT rfl rfl h2 rfl) ?_; refine TL.nil (K.seq ?_); refine T.condT rfl rfl ?_; refine T.seq (T.region ?_); refine TL.run 1 rfl ?_; refine TL.nil (K.seq (T.ret (K.then_ret ?_))); refine K.ret1 rfl rfl (fun w' hw => ⟨?_, hw.isBelow⟩)
      first | exact ret_bool (by rw [stHasF, if_pos (by first | (left; assumption) | (right; omega))]) | exact ret_bool (by rw [stHasF, if_neg (fun h => by rcases h with h | h | h; (rw [p1] at h; cases h); omega; omega), if_pos (by assumption)]) | exact ret_bool (by rw [stHasF, if_neg (fun h => by rcases h with h | h | h; (rw [p1] at h; cases h); omega; omega), if_neg (by rw [p4]; simp), bit_is])
    · have p2 := h2; (try simp only [nfB] at p2); refine TL.yv (Wt.some rfl rfl rfl h2) rfl rfl (Yv.fieldAddr rfl rfl) ?_
      first | refine TL.yv (Wt.some rfl rfl rfl h2) rfl rfl (Yv.loadB rfl rfl hcon (fun h => h)) ?_ | refine TL.yv (Wt.some rfl rfl rfl h2) rfl rfl (Yv.loadB rfl rfl hsp0 (fun h => h)) ?_ | refine TL.yv (Wt.some rfl rfl rfl h2) rfl rfl (Yv.loadB rfl rfl hsp1 (fun h => h)) ?_ | refine TL.yv (Wt.some rfl rfl rfl h2) rfl rfl (Yv.loadC (j := 0) rfl rfl hk rfl rfl (fun h => h)) ?_ | refine TL.yv (Wt.some rfl rfl rfl h2) rfl rfl (Yv.loadO 0 rfl rfl rfl rfl) ?_ | refine TL.yv (Wt.some rfl rfl rfl h2) rfl rfl (Yv.loadO 1 rfl rfl rfl rfl) ?_ | refine TL.yv (Wt.some rfl rfl rfl h2) rfl rfl (Yv.loadO 2 rfl rfl rfl rfl) ?_ | refine TL.yv (Wt.some rfl rfl rfl h2) rfl rfl (Yv.loadB rfl rfl (by assumption) (fun h => h)) ?_ | refine TL.yv (Wt.some rfl rfl rfl h2) rfl rfl (Yv.loadS 0 rfl rfl rfl (by first | rfl | assumption)) ?_ | refine TL.yv (Wt.some rfl rfl rfl h2) rfl rfl (Yv.loadS 1 rfl rfl rfl (by first | rfl | assumption)) ?_ | refine TL.yv (Wt.some rfl rfl rfl h2) rfl rfl (Yv.loadS 2 rfl rfl rfl (by first | rfl | assumption)) ?_
      refine TL.yv (Wt.some rfl rfl rfl h2) rfl rfl (Yv.pur rfl) ?_; refine TL.y (Yv.pickF rfl rfl h2 rfl) ?_; refine TL.nil (K.seq ?_); refine T.cond rfl (fun h3 => ?_) (fun h3 => ?_)
      · have p3 := h3; (try simp only [nfB] at p3); refine T.seq (T.region ?_); refine TL.run 1 rfl ?_; refine TL.nil (K.seq (T.ret (K.then_ret ?_))); refine K.ret1 rfl rfl (fun w' hw => ⟨?_, hw.isBelow⟩)
        first | exact ret_bool (by rw [stHasF, if_pos (by first | (left; assumption) | (right; omega))]) | exact ret_bool (by rw [stHasF, if_neg (fun h => by rcases h with h | h | h; (rw [p1] at h; cases h); omega; omega), if_pos (by assumption)]) | exact ret_bool (by rw [stHasF, if_neg (fun h => by rcases h with h | h | h; (rw [p1] at h; cases h); omega; omega), if_neg (by rw [p4]; simp), bit_is])
      · have p3 := h3; (try simp only [nfB] at p3); refine T.skip (K.seq (T.seq ?_)); refine T.draw (.still 0 (.still 1 (.still 2 (.still 3 (.still 4 (.still 5 (.eff 6 (.still 7 (.still 8 (.still 9 (.still 10 (.still 11 .done)))))))))))) _ (by kernel_rfl) (List.Sublist.refl _) ?_; refine TS.run 2 rfl ?_; refine TS.y rfl (Yv.fieldAddr rfl rfl) ?_
        first | refine TS.y rfl (Yv.loadB rfl rfl hcon (fun h => h)) ?_ | refine TS.y rfl (Yv.loadB rfl rfl hsp0 (fun h => h)) ?_ | refine TS.y rfl (Yv.loadB rfl rfl hsp1 (fun h => h)) ?_ | refine TS.y rfl (Yv.loadC (j := 0) rfl rfl hk rfl rfl (fun h => h)) ?_ | refine TS.y rfl (Yv.loadO 0 rfl rfl rfl rfl) ?_ | refine TS.y rfl (Yv.loadO 1 rfl rfl rfl rfl) ?_ | refine TS.y rfl (Yv.loadO 2 rfl rfl rfl rfl) ?_ | refine TS.y rfl (Yv.loadB rfl rfl (by assumption) (fun h => h)) ?_ | refine TS.y rfl (Yv.loadS 0 rfl rfl rfl (by first | rfl | assumption)) ?_ | refine TS.y rfl (Yv.loadS 1 rfl rfl rfl (by first | rfl | assumption)) ?_ | refine TS.y rfl (Yv.loadS 2 rfl rfl rfl (by first | rfl | assumption)) ?_
        refine TS.y rfl (Yv.fieldAddr rfl rfl) ?_
        first | refine TS.y rfl (Yv.loadB rfl rfl hcon (fun h => h)) ?_ | refine TS.y rfl (Yv.loadB rfl rfl hsp0 (fun h => h)) ?_ | refine TS.y rfl (Yv.loadB rfl rfl hsp1 (fun h => h)) ?_ | refine TS.y rfl (Yv.loadC (j := 0) rfl rfl hk rfl rfl (fun h => h)) ?_ | refine TS.y rfl (Yv.loadO 0 rfl rfl rfl rfl) ?_ | refine TS.y rfl (Yv.loadO 1 rfl rfl rfl rfl) ?_ | refine TS.y rfl (Yv.loadO 2 rfl rfl rfl rfl) ?_ | refine TS.y rfl (Yv.loadB rfl rfl (by assumption) (fun h => h)) ?_ | refine TS.y rfl (Yv.loadS 0 rfl rfl rfl (by first | rfl | assumption)) ?_ | refine TS.y rfl (Yv.loadS 1 rfl rfl rfl (by first | rfl | assumption)) ?_ | refine TS.y rfl (Yv.loadS 2 rfl rfl rfl (by first | rfl | assumption)) ?_
        refine TS.eff ?_; (refine TSo.ew rfl (Wt.none rfl) rfl rfl (Ew.callD rfl rfl rfl (fun w hw => at_ret tp Y x.st w (hT.later (Fz.of_below hw.isBelow)) (Y.ix512 hok hix))) ?_; rintro _ _ ⟨rfl, rfl⟩; refine ⟨(by repeat first | exact S0 | exact S1 | refine S2 ?_ | refine S3 ?_), ?_⟩); refine TS.run 5 rfl ?_; refine TS.done ?_; refine K.seq (T.seq ?_); refine T.draw (.still 0 (.still 1 (.still 2 (.still 3 (.still 4 (.still 5 (.still 6 (.still 7 (.still 8 (.still 9 (.still 10 (.still 11 (.still 12 (.still 13 (.still 14 (.still 15 .done)))))))))))))))) _ (by kernel_rfl) (List.Sublist.refl _) ?_; refine TS.run 2 rfl ?_; refine TS.gsplit rfl rfl rfl rfl (fun h4 => ?_) (fun h4 => ?_)
        · have p4 := h4; (try simp only [nfB] at p4); (try (have hat := at_facts hix (s := x.st) (by assumption); obtain ⟨gL, oL, rfl, hc⟩ := hLs (by omega); have hk := hc (atF Y x.st).1.toNat (by omega); simp only [Le] at hk)); refine TS.still rfl (Wt.some rfl rfl rfl h4) rfl rfl (Yv.pur rfl) ?_; refine TS.still rfl (Wt.some rfl rfl rfl h4) rfl rfl (Yv.pur rfl) ?_; refine TS.still rfl (Wt.some rfl rfl rfl h4) rfl rfl (Yv.fieldAddr rfl rfl) ?_
          first | refine TS.still rfl (Wt.some rfl rfl rfl h4) rfl rfl (Yv.loadB rfl rfl hcon (fun h => h)) ?_ | refine TS.still rfl (Wt.some rfl rfl rfl h4) rfl rfl (Yv.loadB rfl rfl hsp0 (fun h => h)) ?_ | refine TS.still rfl (Wt.some rfl rfl rfl h4) rfl rfl (Yv.loadB rfl rfl hsp1 (fun h => h)) ?_ | refine TS.still rfl (Wt.some rfl rfl rfl h4) rfl rfl (Yv.loadC (j := 0) rfl rfl hk rfl rfl (fun h => h)) ?_ | refine TS.still rfl (Wt.some rfl rfl rfl h4) rfl rfl (Yv.loadO 0 rfl rfl rfl rfl) ?_ | refine TS.still rfl (Wt.some rfl rfl rfl h4) rfl rfl (Yv.loadO 1 rfl rfl rfl rfl) ?_ | refine TS.still rfl (Wt.some rfl rfl rfl h4) rfl rfl (Yv.loadO 2 rfl rfl rfl rfl) ?_ | refine TS.still rfl (Wt.some rfl rfl rfl h4) rfl rfl (Yv.loadB rfl rfl (by assumption) (fun h => h)) ?_ | refine TS.still rfl (Wt.some rfl rfl rfl h4) rfl rfl (Yv.loadS 0 rfl rfl rfl (by first | rfl | assumption)) ?_ | refine TS.still rfl (Wt.some rfl rfl rfl h4) rfl rfl (Yv.loadS 1 rfl rfl rfl (by first | rfl | assumption)) ?_ | refine TS.still rfl (Wt.some rfl rfl rfl h4) rfl rfl (Yv.loadS 2 rfl rfl rfl (by first | rfl | assumption)) ?_
          refine TS.still rfl (Wt.some rfl rfl rfl h4) rfl rfl (Yv.pur rfl) ?_
          first | refine TS.still rfl (Wt.some rfl rfl rfl h4) rfl rfl (Yv.indexSl rfl rfl rfl rfl (by omega)) ?_ | refine TS.still rfl (Wt.some rfl rfl rfl h4) rfl rfl (Yv.indexAr rfl rfl rfl rfl (by omega)) ?_ | refine TS.still rfl (Wt.some rfl rfl rfl h4) rfl rfl (Yv.indexSl rfl rfl rfl (show (atF Y x.st).1 = (((atF Y x.st).1.toNat : Nat) : Int) from by omega) (by omega)) ?_ | refine TS.still rfl (Wt.some rfl rfl rfl h4) rfl rfl (Yv.indexAr rfl rfl rfl (show (atF Y x.st).1 = (((atF Y x.st).1.toNat : Nat) : Int) from by omega) (by omega)) ?_
          first | refine TS.still rfl (Wt.some rfl rfl rfl h4) rfl rfl (Yv.loadB rfl rfl hcon (fun h => h)) ?_ | refine TS.still rfl (Wt.some rfl rfl rfl h4) rfl rfl (Yv.loadB rfl rfl hsp0 (fun h => h)) ?_ | refine TS.still rfl (Wt.some rfl rfl rfl h4) rfl rfl (Yv.loadB rfl rfl hsp1 (fun h => h)) ?_ | refine TS.still rfl (Wt.some rfl rfl rfl h4) rfl rfl (Yv.loadC (j := 0) rfl rfl hk rfl rfl (fun h => h)) ?_ | refine TS.still rfl (Wt.some rfl rfl rfl h4) rfl rfl (Yv.loadO 0 rfl rfl rfl rfl) ?_ | refine TS.still rfl (Wt.some rfl rfl rfl h4) rfl rfl (Yv.loadO 1 rfl rfl rfl rfl) ?_ | refine TS.still rfl (Wt.some rfl rfl rfl h4) rfl rfl (Yv.loadO 2 rfl rfl rfl rfl) ?_ | refine TS.still rfl (Wt.some rfl rfl rfl h4) rfl rfl (Yv.loadB rfl rfl (by assumption) (fun h => h)) ?_ | refine TS.still rfl (Wt.some rfl rfl rfl h4) rfl rfl (Yv.loadS 0 rfl rfl rfl (by first | rfl | assumption)) ?_ | refine TS.still rfl (Wt.some rfl rfl rfl h4) rfl rfl (Yv.loadS 1 rfl rfl rfl (by first | rfl | assumption)) ?_ | refine TS.still rfl (Wt.some rfl rfl rfl h4) rfl rfl (Yv.loadS 2 rfl rfl rfl (by first | rfl | assumption)) ?_
          refine TS.still rfl (Wt.some rfl rfl rfl h4) rfl rfl (Yv.fieldAddr rfl rfl) ?_
          first | refine TS.still rfl (Wt.some rfl rfl rfl h4) rfl rfl (Yv.loadB rfl rfl hcon (fun h => h)) ?_ | refine TS.still rfl (Wt.some rfl rfl rfl h4) rfl rfl (Yv.loadB rfl rfl hsp0 (fun h => h)) ?_ | refine TS.still rfl (Wt.some rfl rfl rfl h4) rfl rfl (Yv.loadB rfl rfl hsp1 (fun h => h)) ?_ | refine TS.still rfl (Wt.some rfl rfl rfl h4) rfl rfl (Yv.loadC (j := 0) rfl rfl hk rfl rfl (fun h => h)) ?_ | refine TS.still rfl (Wt.some rfl rfl rfl h4) rfl rfl (Yv.loadO 0 rfl rfl rfl rfl) ?_ | refine TS.still rfl (Wt.some rfl rfl rfl h4) rfl rfl (Yv.loadO 1 rfl rfl rfl rfl) ?_ | refine TS.still rfl (Wt.some rfl rfl rfl h4) rfl rfl (Yv.loadO 2 rfl rfl rfl rfl) ?_ | refine TS.still rfl (Wt.some rfl rfl rfl h4) rfl rfl (Yv.loadB rfl rfl (by assumption) (fun h => h)) ?_ | refine TS.still rfl (Wt.some rfl rfl rfl h4) rfl rfl (Yv.loadS 0 rfl rfl rfl (by first | rfl | assumption)) ?_ | refine TS.still rfl (Wt.some rfl rfl rfl h4) rfl rfl (Yv.loadS 1 rfl rfl rfl (by first | rfl | assumption)) ?_ | refine TS.still rfl (Wt.some rfl rfl rfl h4) rfl rfl (Yv.loadS 2 rfl rfl rfl (by first | rfl | assumption)) ?_
          first | refine TS.still rfl (Wt.some rfl rfl rfl h4) rfl rfl (Yv.shrV x.ch.toNat rfl rfl rfl (by omega) (by omega)) ?_ | refine TS.still rfl (Wt.some rfl rfl rfl h4) rfl rfl (Yv.shrU rfl rfl rfl (by omega)) ?_ | refine TS.still rfl (Wt.some rfl rfl rfl h4) rfl rfl (Yv.shrU rfl rfl rfl) ?_
          first | refine TS.still rfl (Wt.some rfl rfl rfl h4) rfl rfl (Yv.andV (b := 1#64) rfl rfl rfl) ?_ | refine TS.still rfl (Wt.some rfl rfl rfl h4) rfl rfl (Yv.andU rfl rfl rfl (by omega)) ?_ | refine TS.still rfl (Wt.some rfl rfl rfl h4) rfl rfl (Yv.andU rfl rfl rfl) ?_
          first | refine TS.still rfl (Wt.some rfl rfl rfl h4) rfl rfl (Yv.pur rfl) ?_ | refine TS.still rfl (Wt.some rfl rfl rfl h4) rfl rfl (Yv.eqB rfl rfl rfl rfl) ?_
          refine TS.y rfl (Yv.pickT rfl rfl h4 rfl) ?_; refine TS.run 1 rfl ?_; refine TS.done ?_; refine K.seq (T.ret ?_); refine K.ret1 rfl rfl (fun w' hw => ⟨?_, hw.isBelow⟩)
          first | exact ret_bool (by rw [stHasF, if_pos (by first | (left; assumption) | (right; omega))]) | exact ret_bool (by rw [stHasF, if_neg (fun h => by rcases h with h | h | h; (rw [p1] at h; cases h); omega; omega), if_pos (by assumption)]) | exact ret_bool (by rw [stHasF, if_neg (fun h => by rcases h with h | h | h; (rw [p1] at h; cases h); omega; omega), if_neg (by rw [p4]; simp), bit_is])
        · have p4 := h4; (try simp only [nfB] at p4); (try (have hat := at_facts hix (s := x.st) (by assumption); obtain ⟨gL, oL, rfl, hc⟩ := hLs (by omega); have hk := hc (atF Y x.st).1.toNat (by omega); simp only [Le] at hk)); refine TS.stillOff rfl (Wt.not rfl rfl rfl h4) rfl rfl ?_; refine TS.stillOff rfl (Wt.not rfl rfl rfl h4) rfl rfl ?_; refine TS.stillOff rfl (Wt.not rfl rfl rfl h4) rfl rfl ?_; refine TS.stillOff rfl (Wt.not rfl rfl rfl h4) rfl rfl ?_; refine TS.stillOff rfl (Wt.not rfl rfl rfl h4) rfl rfl ?_; refine TS.stillOff rfl (Wt.not rfl rfl rfl h4) rfl rfl ?_; refine TS.stillOff rfl (Wt.not rfl rfl rfl h4) rfl rfl ?_; refine TS.stillOff rfl (Wt.not rfl rfl rfl h4) rfl rfl ?_; refine TS.stillOff rfl (Wt.not rfl rfl rfl h4) rfl rfl ?_; refine TS.stillOff rfl (Wt.not rfl rfl rfl h4) rfl rfl ?_; refine TS.stillOff rfl (Wt.not rfl rfl rfl h4) rfl rfl ?_; refine TS.stillOff rfl (Wt.not rfl rfl rfl h4) rfl rfl ?_; refine TS.y rfl (Yv.pickF rfl rfl h4 rfl) ?_; refine TS.run 1 rfl ?_; refine TS.done ?_; refine K.seq (T.ret ?_); refine K.ret1 rfl rfl (fun w' hw => ⟨?_, hw.isBelow⟩)
          first | exact ret_bool (by rw [stHasF, if_pos (by first | (left; assumption) | (right; omega))]) | exact ret_bool (by rw [stHasF, if_neg (fun h => by rcases h with h | h | h; (rw [p1] at h; cases h); omega; omega), if_pos (by assumption)]) | exact ret_bool (by rw [stHasF, if_neg (fun h => by rcases h with h | h | h; (rw [p1] at h; cases h); omega; omega), if_neg (by rw [p4]; simp), bit_is])
end Go.Proofs.YtljgejbmimapdaaDoor
namespace Go.Proofs.YtljgejbmimapdaaDoor
open Go.RowKit
def stHas (m : List GDomain × Bool) (c : GChoice) : Bool := m.2 && m.1.any fun x => decide (x.Station = c.Station) && x.Channels.any fun k => decide (k = c.Channel)
section
variable {p : GProblem} {m : List GDomain × Bool} {k : SK} {L : Ws} {w : World} {F0 : Frz}
theorem SI.ne (h : SI p m k L) (hm : m.2 = true) : ∀ i, i < k.Y.n → nth L i ≠ 0#64 := fun i hi => (h.good hm).1.ne i hi
theorem st_has (h : SI p m k L) (hok : (stE k L (!m.2)).ok w) (htab : Tab w) (c : GChoice) : Calls Tryd.prog 26 #[.pointer (some ⟨k.sp, 0, none⟩), .agg [.int .i64 c.Station, .int .i64 c.Channel].toArray] w fun e w' => e = .returned (.bool (stHas m c)) ∧ Below w.heap.size w w' := by
  have hs := (h.stF hok htab).st; obtain ⟨P, hP, hok', hY⟩ := h.pb; have hG := Pb.good hok'; refine (shas_ret k.sp k.Y L (!m.2) c.b w hs h.ok hY.ixn).mono ?_; rintro e w' ⟨rfl, hb⟩; refine ⟨?_, hb⟩
  congr 2
  unfold stHasF stHas
  cases hm : m.2 with
  | false => rw [if_pos (.inl rfl)]; rfl
  | true =>
    obtain ⟨-, h51, hd⟩ := h.good hm; rw [Bool.true_and, hd]
    have hany : ∀ q, (gd k.Y L).any (fun x => decide (x.Station = c.Station) && x.Channels.any fun k => decide (k = c.Channel)) = q ↔ ((∃ i, i < k.Y.n ∧ nth k.Y.st i = c.Station ∧ ∃ j : Nat, (nth L i).getLsbD j = true ∧ (j : Int) = c.Channel) ↔ q = true) := fun q => by
      have e1 : (gd k.Y L).any (fun x => decide (x.Station = c.Station) && x.Channels.any fun k => decide (k = c.Channel)) = true ↔ (∃ i, i < k.Y.n ∧ nth k.Y.st i = c.Station ∧ ∃ j : Nat, (nth L i).getLsbD j = true ∧ (j : Int) = c.Channel) := by
        rw [List.any_eq_true]; constructor
        · rintro ⟨x, hx, hh⟩; obtain ⟨i, hi, rfl⟩ := mem_nth hx; rw [gd_len] at hi; rw [Bool.and_eq_true, decide_eq_true_eq, List.any_eq_true] at hh; obtain ⟨h1, q, hq, h2⟩ := hh; obtain ⟨j, hj, rfl⟩ := (gd_mem hi).1 hq; rw [gd_nth hi] at h1; exact ⟨i, hi, h1, j, hj, of_decide_eq_true h2⟩
        · rintro ⟨i, hi, h1, j, hj, h2⟩; refine ⟨_, nth_memG (by rw [gd_len]; exact hi), ?_⟩; rw [Bool.and_eq_true, decide_eq_true_eq, List.any_eq_true]; exact ⟨by rw [gd_nth hi]; exact h1, (j : Int), (gd_mem hi).2 ⟨j, hj, rfl⟩, decide_eq_true h2⟩
      rw [← e1]
      cases (gd k.Y L).any (fun x => decide (x.Station = c.Station) && x.Channels.any fun k => decide (k = c.Channel)) <;> cases q <;> simp
    symm
    rw [hany]
    show _ ↔ (if (!true) = true ∨ c.Channel < 2 ∨ 51 < c.Channel then false else if (atF k.Y c.Station).2 = false then false else (nth L (atF k.Y c.Station).1.toNat).getLsbD c.Channel.toNat) = true
    by_cases hc : c.Channel < 2 ∨ 51 < c.Channel
    · rw [if_pos (.inr hc)]; refine ⟨fun ⟨i, hi, _, j, hj, h2⟩ => ?_, fun h => by cases h⟩; have := h51 i j hj; omega
    · rw [if_neg (by simpa using hc)]
      cases hh : hasSt P.er c.Station with
      | true =>
        obtain ⟨i, hi, e⟩ := (hasSt_iff hY).1 hh; rw [← e, at_yes hok' hY hi]; simp only [Bool.true_eq_false, if_false, Int.toNat_natCast]; constructor
        · rintro ⟨i', hi', h1, j, hj, h2⟩; rw [st_inj hG hY hi hi' h1.symm, ← h2, Int.toNat_natCast]; exact hj
        · intro h; exact ⟨i, hi, rfl, c.Channel.toNat, h, by omega⟩
      | false =>
        (have hno : ∀ i, i < k.Y.n → nth k.Y.st i ≠ c.Station := fun i hi e => by rw [(hasSt_iff hY).2 ⟨i, hi, e⟩] at hh; cases hh); rw [at_no hok' hY hno]; simp only [if_true]; exact ⟨fun ⟨i, hi, h1, _⟩ => absurd h1 (hno i hi), fun h => by cases h⟩
end
end Go.Proofs.YtljgejbmimapdaaDoor
namespace Go.Proofs.YtljgejbmimapdaaDoor
open Go.RowKit
def sliceV (v : Value) (l h k : Nat) : Value := match v with
  | .slice a _ cap => sliced a l h cap k
  | x => x
theorem SlC.slice {F : Frz} {v : Value} {size : Nat} {cs : List (List Value)} (h : SlC F v size cs) {l i : Nat} (hl : l ≤ i) (hi : i ≤ cs.length) : SlC F (sliceV v l i size) size ((cs.take i).drop l) := by
  obtain ⟨A, cap, rfl, h2, h3, h4, h5⟩ := h; (have hlen : ((cs.take i).drop l).length = i - l := by rw [List.length_drop, List.length_take]; omega); have hmem : ∀ c ∈ (cs.take i).drop l, c ∈ cs := fun c hc => List.mem_of_mem_take (List.mem_of_mem_drop hc); refine ⟨if cap = l then A else A.map (·.add (l * size)), cap - l, ?_, by omega, by omega, fun c hc => h4 c (hmem c hc), fun hp => ?_⟩
  · rw [hlen]; rfl
  · rw [hlen] at hp; obtain ⟨g, off, rfl, hg, hc⟩ := h5 (by omega); rw [if_neg (by omega)]; refine ⟨g, off + l * size, by simp [add_off], hg, fun j hj => ?_⟩; rw [hlen] at hj; have h6 := hc (l + j) (by omega)
    have e : nth ((cs.take i).drop l) j = nth cs (l + j) := by
      rw [nth_eq (by omega), nth_eq (by omega), List.getElem_drop, List.getElem_take]
    rw [e, show off + l * size + j * size = off + (l + j) * size by rw [Nat.add_mul]; omega]; exact h6
theorem SlD.slice {α : Type} [Inhabited α] {rep : Frz → List Value → α → Prop} {F : Frz} {v : Value} {size : Nat} {cs : List (List Value)} {xs : List α} (h : SlD rep F v size cs xs) {l i : Nat} (hl : l ≤ i) (hi : i ≤ xs.length) : SlD rep F (sliceV v l i size) size ((cs.take i).drop l) ((xs.take i).drop l) := by
  refine ⟨h.1.slice hl (by rw [h.2.1]; exact hi), ?_, fun j hj => ?_⟩
  · rw [List.length_drop, List.length_take, List.length_drop, List.length_take, h.2.1]
  · have hj' := hj; rw [List.length_drop, List.length_take] at hj'
    have e : nth ((cs.take i).drop l) j = nth cs (l + j) := by
      rw [nth_eq (by rw [List.length_drop, List.length_take, h.2.1]; omega), nth_eq (by rw [h.2.1]; omega), List.getElem_drop, List.getElem_take]
    have e' : nth ((xs.take i).drop l) j = nth xs (l + j) := by
      rw [nth_eq hj, nth_eq (by omega), List.getElem_drop, List.getElem_take]
    rw [e, e']; exact h.2.2 _ (by omega)
section
variable {F : Frz} {v : Value} {size : Nat}
theorem SlC.sliceh {α : Type} {enc : α → List Value} {xs : List α} (h : SlC F v size (xs.map enc)) {i : Nat} (hi : i ≤ xs.length) : SlC F (sliceV v 0 i size) size ((xs.take i).map enc) := by
  have := h.slice (l := 0) (i := i) (Nat.zero_le _) (by rw [List.length_map]; exact hi)
  rwa [List.drop_zero, ← List.map_take] at this
variable {α : Type} [Inhabited α] {rep : Frz → List Value → α → Prop} {cs : List (List Value)} {xs : List α}
theorem SlD.sliceh (h : SlD rep F v size cs xs) {i : Nat} (hi : i ≤ xs.length) : SlD rep F (sliceV v 0 i size) size (cs.take i) (xs.take i) := by
  have := h.slice (l := 0) (Nat.zero_le _) hi
  rwa [List.drop_zero, List.drop_zero] at this
end
section
variable {P : Program} {n : Nat} {B : World} {M : Nat → Prop} {fs : SFs} {hs : HS} {o : Oper} {v : Value}
theorem TySl.elem {t e k : Nat} (h : TySl P t e k) : P.underlying t = some (.slice (P.elem t)) ∧ ∀ w, (sizeOf (P.elem t)).run P w = .ok k w := by
  have h := h.h; unfold tySlice at h
  split at h
  · rename_i el hU; (have he : P.elem t = el := by unfold Program.elem; rw [hU])
    cases hi' : P.info? el with
    | none => rw [hi'] at h; cases h
    | some inf =>
      rw [hi'] at h
      cases h
      refine ⟨by rw [he]; exact hU, fun w => ?_⟩; rw [he]; simp [sizeOf, typeInfo, hi']
  · cases h
theorem Yv.slRh {F : Frz} {t e k i m : Nat} {z : Int} {q : IntKind} {cs : List (List Value)} {x y : Operand} [hT : TySl P t e k] (ho : o.op = .slice t x none (some y) none) (hx : ev fs x = some v) (hy : ev fs y = some (.int q z)) (h : SlC F v k cs) (hm : cs.length = m) (hz : z = (i : Int)) (hi : i ≤ m) : Yv P n B M fs hs o (sliceV v 0 i k) := fun a w ha _ => by
  subst hm hz; obtain ⟨A, cap, rfl, h2, h3, h4, h5⟩ := h; unfold execOp; have := run_slice_h (P := P) w t A cs.length cap hT.elem.1 q (i : Int) (by omega) (by omega); simp [ho, ha.ev hx, ha.ev hy, run_sliceAt_slice w t _ _ _ _ hT.elem.1, this, hT.elem.2, sliceV]
end
end Go.Proofs.YtljgejbmimapdaaDoor
namespace Go.Proofs.YtljgejbmimapdaaDoor
open Go.RowKit
def nv : Value := .slice none 0 0
def Y0 : Tb := ⟨[1, 2, 3], ixAt (smp nv nv nv).ds 3, 7, [], (smp nv nv nv).psA 2, [], (smp nv nv nv).csA 1, [], (smp nv nv nv).inA 2, [], (smp nv nv nv).ouA 2⟩
section
variable {a b c : Value} {Y : Tb} (h : TbOf (smp a b c) Y)
include h
theorem sm_ps : Y.ps = Y0.ps := h.ps.trans rfl
theorem sm_cs : Y.cs = Y0.cs := h.cs.trans rfl
theorem sm_in : Y.inn = Y0.inn := h.inn.trans rfl
theorem sm_out : Y.out = Y0.out := h.out.trans rfl
theorem sm_n : Y.n = 3 := h.n
theorem sm_gone (L : Ws) (i : Nat) : goneF Y L i = goneF Y0 L i := by
  have h1 := sm_ps h; have h2 := sm_cs h; have h3 := sm_in h; have h4 := sm_out h; (have e1 : pairsF Y L i = pairsF Y0 L i := by unfold pairsF; rw [h1]); (have e2 : capsF Y L i = capsF Y0 L i := by unfold capsF; rw [h2, h3])
  have e3 : loadsF Y L i = loadsF Y0 L i := by
    unfold loadsF; rw [h4]; apply foldl_congr'; intro x _ s; unfold loadStep; rw [h2, h3]
  unfold goneF; rw [e1, e2, e3]
end
def l0 : Ws := [49152#64, 49152#64, 114688#64]
def k1 : Ws := [16384#64, 32768#64, 65536#64]
theorem sm_left (a b c : Value) : (smp a b c).left = l0 := by
  show [maskOf [14, 15], maskOf [14, 15], maskOf [14, 15, 16]] = l0
  decide
theorem sm_ok (a b c : Value) : (smp a b c).ok = true := by
  have e : (smp a b c).ok = (smp nv nv nv).ok := rfl; rw [e]; decide +kernel
theorem closed0 : ∀ i, i < 3 → nth l0 i ≠ 0#64 ∧ nth l0 i &&& goneF Y0 l0 i = 0#64 := by decide +kernel
theorem closed1 : ∀ i, i < 3 → nth k1 i ≠ 0#64 ∧ nth k1 i &&& goneF Y0 k1 i = 0#64 := by decide +kernel
def stepG (L : Ws) (i : Nat) : Ws := L.set i (nth L i &&& ~~~(goneF Y0 L i))
def t1 : Ws := [16384#64, 49152#64, 114688#64]
def t3 : Ws := [49152#64, 49152#64, 32768#64]
theorem steps1 : stepG (stepG t1 1) 2 = k1 := by decide +kernel
theorem steps3 : nth (stepG (stepG t3 1) 0) 0 = 0#64 := by decide +kernel
section
variable {a b c : Value} {Y : Tb} (h : TbOf (smp a b c) Y)
include h
theorem sm_tok : Y.Ok := h.ok (Pb.good (sm_ok a b c))
theorem sm_closed {K : Ws} (hl : K.length = 3) (hc : ∀ i, i < 3 → nth K i ≠ 0#64 ∧ nth K i &&& goneF Y0 K i = 0#64) : Closed Y K := ⟨by rw [hl, sm_n h], fun i hi => by
  rw [sm_n h] at hi; have := hc i hi
  exact ⟨this.1, by rw [sm_gone h]; exact this.2⟩⟩
theorem sm_reach {T M : Ws} {i : Nat} (hr : Reach Y T M) (hi : i < 3) : Reach Y T (stepG M i) := by
  unfold stepG; rw [← sm_gone h]; exact .step hr (by rw [sm_n h]; exact hi) (fun _ hj => hj)
theorem sm_new {L : Ws} {d : Bool} (hI : Is Y (smp a b c).left L d) : L = l0 ∧ d = false := by
  rw [sm_left] at hI; exact hI.eq (sm_tok h) (sm_closed h rfl closed0) .refl
theorem sm_check {x : Ch} : checkF Y false x = checkF Y0 false x := by
  unfold checkF atF; rw [h.ix]; rfl
theorem sm_asm1 : asm Y (smp a b c).left ⟨1, 14⟩ = t1 := by
  unfold asm; rw [sm_check h, sm_left]; decide +kernel
theorem sm_asm3 : asm Y (smp a b c).left ⟨3, 15⟩ = t3 := by
  unfold asm; rw [sm_check h, sm_left]; decide +kernel
theorem sm_fbd1 : fbd Y (smp a b c).left ⟨1, 15⟩ = t1 := by
  unfold fbd; rw [sm_check h, sm_left]; decide +kernel
theorem sm_one {L : Ws} {d : Bool} (hI : Is Y t1 L d) : L = k1 ∧ d = false := by
  refine hI.eq (sm_tok h) (sm_closed h rfl closed1) ?_; rw [← steps1]; exact sm_reach h (sm_reach h .refl (by decide)) (by decide)
theorem sm_three {L : Ws} {d : Bool} (hI : Is Y t3 L d) : d = true :=
  hI.conflict (sm_tok h) (i := 0) (by rw [sm_n h]; decide) steps3 (sm_reach h (sm_reach h .refl (by decide)) (by decide))
theorem sm_total : Y.total = 7 := h.total.trans rfl
theorem sm_st : Y.st = [1, 2, 3] := h.st.trans rfl
theorem sm_doms0 : domsF Y l0 Y.n = [(1, [14, 15]), (2, [14, 15]), (3, [14, 15, 16])] := by
  unfold domsF; rw [sm_n h, sm_st h]; (have e : ∀ m : BitVec 64, chansN m = (List.range' 0 64).filter m.getLsbD := fun m => by unfold chansN; rfl); simp only [e]
  decide +kernel
theorem sm_doms1 : domsF Y k1 Y.n = [(1, [14]), (2, [15]), (3, [16])] := by
  unfold domsF; rw [sm_n h, sm_st h]; (have e : ∀ m : BitVec 64, chansN m = (List.range' 0 64).filter m.getLsbD := fun m => by unfold chansN; rfl); simp only [e]
  decide +kernel
theorem sm_fix1 : fixF Y k1 Y.n = [⟨1, 14⟩, ⟨2, 15⟩, ⟨3, 16⟩] := by
  unfold fixF; rw [sm_n h, sm_st h]; decide +kernel
theorem sm_rem0 : removedF Y l0 false = 0 := by unfold removedF; rw [sm_total h]; decide +kernel
theorem sm_rem1 : removedF Y k1 false = 4 := by unfold removedF; rw [sm_total h]; decide +kernel
end
theorem dfix_pl (xs : List Dx) : dfix xs xs.length = ((xs.map Dx.pl).filter fun p => decide (p.2.length = 1)).map fun p => ⟨p.1, nth p.2 0⟩ := by
  unfold dfix; rw [List.take_length, List.filter_map, List.map_map]
  rfl
theorem pl_len {xs : List Dx} {l : List (Int × List Int)} (h : xs.map Dx.pl = l) : xs.length = l.length := by rw [← h, List.length_map]
theorem pl_chs {xs : List Dx} {l : List (Int × List Int)} (h : xs.map Dx.pl = l) (n : Nat) (hl : ∀ p ∈ l, p.2.length ≤ n) : ∀ d ∈ xs, d.chs.length ≤ n := fun d hd => hl (Dx.pl d) (by rw [← h]; exact List.mem_map.2 ⟨d, hd, rfl⟩)
def want : List Ch := [⟨1, 14⟩, ⟨2, 15⟩, ⟨3, 16⟩]
end Go.Proofs.YtljgejbmimapdaaDoor
namespace Go.Proofs.YtljgejbmimapdaaDoor
open Go.RowKit
theorem known_ret (w : World) (htab : Tab w) : Calls Tryd.prog 10 #[] w fun e w' => e = .returned (.bool true) ∧ Below w.heap.size w w' := by
  refine calls_T (M := fun _ => False) (hs := []) Tryd.func10 rfl rfl rfl (Hp.refl _ _) ?_; refine T.seq (T.region ?_); refine TL.run 1 rfl ?_; refine TL.nil (K.seq (T.seq (T.region ?_))); (refine TL.ew (Wt.none rfl) rfl rfl (Ew.callH rfl rfl rfl (fun w hw => sample_ret _)) ?_; rintro _ _ ⟨s1, -, rfl, rfl⟩); (refine TL.ew (Wt.none rfl) rfl rfl (Ew.callH rfl rfl rfl (fun w hw => new_ok s1.pb _ _ _ _ w (s1.prob hw) (htab.keptF hw) (sm_ok _ _ _))) ?_; rintro _ _ ⟨⟨g1, gl, tp, Y, L0, c0, w0⟩, hN, rfl, rfl⟩); dsimp only at hN; dsimp only [List.cons_append, List.nil_append]; have hTb := hN.tb; have hYok := sm_tok hTb; have hYn := sm_n hTb; have hI0 := hN.is (Pb.good (sm_ok _ _ _)); obtain ⟨rfl, rfl⟩ := sm_new hTb hI0; have hT := hN.at'; rw [show s1.pb.ds.length = 3 from rfl]; refine TL.run 5 rfl ?_; refine TL.nil (K.seq (T.seq (T.seq (T.region ?_)))); refine TL.run 1 rfl ?_; refine TL.y (Yv.binR rfl rfl rfl (eq46s _ _ _)) ?_; refine TL.run 1 rfl ?_; refine TL.yv (Wt.some rfl rfl rfl rfl) rfl rfl (Yv.pur rfl) ?_; refine TL.yv (Wt.some rfl rfl rfl rfl) rfl rfl (Yv.pur rfl) ?_; refine TL.run 2 rfl ?_; refine TL.yv (Wt.some rfl rfl rfl rfl) rfl rfl (Yv.pur rfl) ?_; (refine TL.ew (Wt.some rfl rfl rfl rfl) rfl rfl (Ew.callD rfl rfl rfl (fun w hw => removed_ret g1 Y l0 false w (StF.of (Y := Y) hw hT (Ent.fz_ok.1 (hw.own (Ent.fz w0) (by simp))) (htab.keptF hw) 0 1 (by rw [hYn]; rfl) (by rw [hYn]; rfl) (by rw [hYn]; rfl)).st hYok (by rw [sm_total hTb]; decide))) ?_; rintro _ _ ⟨rfl, rfl⟩); rw [sm_rem0 hTb]; refine TL.yv (Wt.some rfl rfl rfl rfl) rfl rfl (Yv.pur rfl) ?_; refine TL.run 2 rfl ?_; refine TL.yv (Wt.some rfl rfl rfl rfl) rfl rfl (Yv.pur rfl) ?_; (refine TL.ew (Wt.some rfl rfl rfl rfl) rfl rfl (Ew.callH rfl rfl rfl (fun w hw => domains_ok g1 Y l0 w (StF.of (Y := Y) hw hT (Ent.fz_ok.1 (hw.own (Ent.fz w0) (by simp))) (htab.keptF hw) 0 1 (by rw [hYn]; rfl) (by rw [hYn]; rfl) (by rw [hYn]; rfl)).st hYok)) ?_; rintro _ _ ⟨y24, hd24, rfl, rfl⟩); dsimp only [List.cons_append, List.nil_append]; rw [sm_doms0 hTb] at hd24; (refine TL.ew (Wt.some rfl rfl rfl rfl) rfl rfl (Ew.callH rfl rfl rfl (fun w hw => sample_ret _)) ?_; rintro _ _ ⟨s2, -, rfl, rfl⟩); refine TL.yv (Wt.some rfl rfl rfl rfl) rfl rfl (Yv.field rfl rfl rfl) ?_; (refine TL.ew (Wt.some rfl rfl rfl rfl) rfl rfl (Ew.callD rfl rfl rfl (fun w hw => sameDomains_ret y24.2 s2.pb.ds _ _ w (DomsAt.own hw 7 8 rfl rfl) (s2.prob hw).ds (by rw [pl_len hd24]; decide) (pl_chs hd24 _ (by decide)))) ?_; rintro _ _ ⟨rfl, rfl⟩); rw [show decide (y24.2.map Dx.pl = s2.pb.ds.map Dx.pl) = true from decide_eq_true (by rw [hd24]; rfl)]; refine TL.yv (Wt.some rfl rfl rfl rfl) rfl rfl (Yv.pur rfl) ?_; refine TL.run 1 rfl ?_; refine TL.nil (K.seq ?_); refine T.condF rfl rfl ?_; refine T.skip (K.seq (T.seq ?_)); refine T.weaken (hs' := [sRow g1 gl tp 3 false, sLeft gl 3 l0, Ent.fz w0]) Sub.refl (by repeat first | exact S0 | exact S1 | refine S2 ?_ | refine S3 ?_) ?_; refine T.region ?_; (refine TL.ew (Wt.none rfl) rfl rfl (Ew.callH rfl rfl rfl (fun w hw => sample_ret _)) ?_; rintro _ _ ⟨s3, -, rfl, rfl⟩); refine TL.y (Yv.build rfl rfl) ?_; (refine TL.ew (Wt.none rfl) rfl rfl (Ew.buildSlice rfl rfl rfl (by decide)) ?_; rintro _ _ ⟨g33, rfl, rfl⟩); (refine TL.ew (Wt.none rfl) rfl rfl (Ew.callH rfl rfl rfl (fun w hw => run_fine s3.pb _ _ _ _ ⟨1, 14⟩ _ w (s3.prob (by exact hw.sub (List.sublist_cons_self _ _))) (SlOf.lit (enc := Ch.cells) (size := 2) (fun _ => rfl) [⟨1, 14⟩] (Ent.row_ok.1 (hw.get (i := 0) rfl)) rfl rfl) (htab.keptF hw) (sm_ok _ _ _) (by decide) (fun Z hZ => by rw [sm_check hZ]; decide +kernel) (fun Z K d hZ hI => (sm_new hZ hI).2) (fun Z K d hZ hI => by rw [show s3.pb.left = (smp _ _ _).left from rfl, sm_asm1 hZ] at hI; exact (sm_one hZ hI).2))) ?_; rintro _ _ ⟨y34, ⟨Y1, L1, hT1, hI1, hd1⟩, rfl, rfl⟩); dsimp only [List.cons_append, List.nil_append]; (have hL1 : L1 = k1 := by rw [show s3.pb.left = (smp _ _ _).left from rfl, sm_asm1 hT1] at hI1; exact (sm_one hT1 hI1).1); subst hL1; rw [sm_doms1 hT1] at hd1; have hlen34 : y34.2.length = 3 := pl_len hd1; refine TL.run 7 rfl ?_; refine TL.nil (K.seq (T.seq ?_)); refine T.weaken (hs' := [.sl y34.1 64 2 y34.2.length (y34.2.flatMap Dx.cells), .bag (y34.2.map dE), sRow g1 gl tp 3 false, sLeft gl 3 l0, Ent.fz w0]) Sub.refl (by repeat first | exact S0 | exact S1 | refine S2 ?_ | refine S3 ?_) ?_; refine T.region ?_; refine TL.y (Yv.build rfl rfl) ?_; refine TL.y (Yv.build rfl rfl) ?_; refine TL.y (Yv.build rfl rfl) ?_; (refine TL.ew (Wt.none rfl) rfl rfl (Ew.buildSlice rfl rfl rfl (by decide)) ?_; rintro _ _ ⟨g41, rfl, rfl⟩); refine TL.run 1 rfl ?_; refine TL.nil (K.seq (T.seq (T.seq (T.region ?_)))); refine TL.run 3 rfl ?_; refine TL.yv (Wt.some rfl rfl rfl rfl) rfl rfl (Yv.pur rfl) ?_; refine TL.run 2 rfl ?_; refine TL.yv (Wt.some rfl rfl rfl rfl) rfl rfl (Yv.pur rfl) ?_; refine TL.yv (Wt.some rfl rfl rfl rfl) rfl rfl (Yv.lenE 1 rfl rfl rfl) ?_; refine TL.yv (Wt.some rfl rfl rfl rfl) rfl rfl (Yv.pur rfl) ?_; refine TL.run 2 rfl ?_; refine TL.yv (Wt.some rfl rfl rfl (by rw [hlen34]; rfl)) rfl rfl (Yv.pur rfl) ?_; (refine TL.ew (Wt.some rfl rfl rfl (by rw [hlen34]; rfl)) rfl rfl (Ew.callH rfl rfl rfl (fun w hw => dfixed_ret y34.2 _ w (DomsAt.own hw 1 2 rfl rfl) (by omega))) ?_; rintro v54 _ ⟨_, -, rfl, rfl⟩); dsimp only [List.cons_append, List.nil_append]; rw [show dfix y34.2 y34.2.length = want from by rw [dfix_pl, hd1]; decide]; refine TL.yv (Wt.some rfl rfl rfl (by rw [hlen34]; rfl)) rfl rfl (Yv.pur rfl) ?_; (refine TL.ew (Wt.some rfl rfl rfl (by rw [hlen34]; rfl)) rfl rfl (Ew.callD rfl rfl rfl (fun w hw => sameList_ret want want _ _ w (SlOf.ownAt (enc := Ch.cells) (fun _ => rfl) hw 0 rfl rfl) (SlOf.lit (enc := Ch.cells) (size := 2) (fun _ => rfl) want (Ent.row_ok.1 (hw.get (i := 1) rfl)) rfl rfl) (by decide))) ?_; rintro _ _ ⟨rfl, rfl⟩); rw [show decide (want = want) = true from decide_eq_true rfl]; refine TL.yv (Wt.some rfl rfl rfl (by rw [hlen34]; rfl)) rfl rfl (Yv.pur rfl) ?_; refine TL.y (Yv.pickF rfl rfl (by rw [hlen34]; rfl) rfl) ?_; refine TL.nil (K.seq ?_); refine T.condF rfl rfl ?_; refine T.skip (K.seq (T.seq ?_)); refine T.weaken (hs' := [.row g41 40 (want.flatMap Ch.cells), sRow g1 gl tp 3 false, sLeft gl 3 l0, Ent.fz w0]) Sub.refl (by repeat first | exact S0 | exact S1 | refine S2 ?_ | refine S3 ?_) ?_; refine T.region ?_; (refine TL.ew (Wt.none rfl) rfl rfl (Ew.callH rfl rfl rfl (fun w hw => sample_ret _)) ?_; rintro _ _ ⟨s4, -, rfl, rfl⟩); refine TL.y (Yv.build rfl rfl) ?_; (refine TL.ew (Wt.none rfl) rfl rfl (Ew.buildSlice rfl rfl rfl (by decide)) ?_; rintro _ _ ⟨g62, rfl, rfl⟩); (refine TL.ew (Wt.none rfl) rfl rfl (Ew.callD rfl rfl rfl (fun w hw => run_conf s4.pb _ _ _ _ ⟨3, 15⟩ _ w (s4.prob (by exact hw.sub (List.sublist_cons_self _ _))) (SlOf.lit (enc := Ch.cells) (size := 2) (fun _ => rfl) [⟨3, 15⟩] (Ent.row_ok.1 (hw.get (i := 0) rfl)) rfl rfl) (htab.keptF hw) (sm_ok _ _ _) (by decide) (fun Z hZ => by rw [sm_check hZ]; decide +kernel) (fun Z K d hZ hI => (sm_new hZ hI).2) (fun Z K d hZ hI => by rw [show s4.pb.left = (smp _ _ _).left from rfl, sm_asm3 hZ] at hI; exact sm_three hZ hI))) ?_; rintro _ _ ⟨rfl, rfl⟩); refine TL.run 7 rfl ?_; refine TL.nil (K.seq (T.seq ?_)); refine T.weaken (hs' := [.row g41 40 (want.flatMap Ch.cells), sRow g1 gl tp 3 false, sLeft gl 3 l0, Ent.fz w0]) Sub.refl (by repeat first | exact S0 | exact S1 | refine S2 ?_ | refine S3 ?_) ?_; refine T.permH (List.perm_append_comm (l₁ := [Ent.row g41 40 (want.flatMap Ch.cells)])) ?_; dsimp only [List.cons_append, List.nil_append]; refine T.region ?_; refine TL.run 3 rfl ?_; refine TL.yv (Wt.some rfl rfl rfl rfl) rfl rfl (Yv.pur rfl) ?_; refine TL.run 2 rfl ?_; refine TL.yv (Wt.some rfl rfl rfl rfl) rfl rfl (Yv.pur rfl) ?_; refine TL.yv (Wt.some rfl rfl rfl rfl) rfl rfl (Yv.lenSl rfl rfl) ?_; refine TL.yv (Wt.some rfl rfl rfl rfl) rfl rfl (Yv.pur rfl) ?_; refine TL.run 2 rfl ?_; refine TL.yv (Wt.some rfl rfl rfl rfl) rfl rfl (Yv.pur rfl) ?_; refine TL.yv (Wt.some rfl rfl rfl rfl) rfl rfl (Yv.build rfl rfl) ?_; rw [← hYn]; (refine TL.ew (Wt.some rfl rfl rfl rfl) rfl rfl (Ew.callL [sRow g1 gl tp Y.n false, sLeft gl Y.n l0] [Ent.fz w0, Ent.row g41 40 (want.flatMap Ch.cells)] rfl rfl rfl (List.Perm.refl _) (fun w hw hw2 => forbid_ok w0 g1 gl tp Y l0 w hT hYok (Ent.fz_ok.1 (hw2.own (Ent.fz w0) (by simp))) (htab.keptF hw) hw2.part (fun g hg hc => hw2.sep (f := Ent.fz w0) (by simp) g hg (Ent.fz_fp.2 hc)) (hw2.no0 htab) (by rw [hYn]; rfl) (sm_closed hTb rfl closed0).calm hTb.ixn ⟨1, 15⟩ (by rw [sm_check hTb]; decide +kernel))) ?_; rintro _ _ ⟨y80, hpost, rfl, rfl⟩); dsimp only [List.cons_append, List.nil_append]; rw [hYn]; have hI80 := hI0.cut hYok (by rw [sm_check hTb, hYn]; decide +kernel) (Is.of hYok (by unfold cutL; rw [List.length_set, hYn]; rfl) hpost); obtain ⟨L8, c8⟩ := y80; dsimp only at hI80 ⊢; (have hI81 : Is Y t1 L8 c8 := by rw [← sm_fbd1 hTb]; exact hI80); obtain ⟨rfl, rfl⟩ := sm_one hTb hI81; refine TL.yv (Wt.some rfl rfl rfl rfl) rfl rfl (Yv.pur rfl) ?_; refine TL.run 2 rfl ?_; refine TL.yv (Wt.some rfl rfl rfl rfl) rfl rfl (Yv.pur rfl) ?_; (refine TL.ew (Wt.some rfl rfl rfl rfl) rfl rfl (Ew.callH rfl rfl rfl (fun w hw => fixed_ret g1 Y k1 w (StF.of (Y := Y) hw hT (Ent.fz_ok.1 (hw.own (Ent.fz w0) (by simp))) (htab.keptF hw) 0 1 (by rw [hYn]; rfl) (by rw [hYn]; rfl) (by rw [hYn]; rfl)).st hYok)) ?_; rintro v85 _ ⟨_, -, rfl, rfl⟩); dsimp only [List.cons_append, List.nil_append]; rw [sm_fix1 hTb]; refine TL.yv (Wt.some rfl rfl rfl rfl) rfl rfl (Yv.pur rfl) ?_; (refine TL.ew (Wt.some rfl rfl rfl rfl) rfl rfl (Ew.callD rfl rfl rfl (fun w hw => sameList_ret want want _ _ w (SlOf.ownAt (enc := Ch.cells) (fun _ => rfl) hw 0 rfl rfl) (SlOf.lit (enc := Ch.cells) (size := 2) (fun _ => rfl) want (Ent.row_ok.1 (hw.get (i := 4) rfl)) rfl rfl) (by decide))) ?_; rintro _ _ ⟨rfl, rfl⟩); rw [show decide (want = want) = true from decide_eq_true rfl]; refine TL.run 2 rfl ?_; refine TL.yv (Wt.some rfl rfl rfl rfl) rfl rfl (Yv.pur rfl) ?_; (refine TL.ew (Wt.some rfl rfl rfl rfl) rfl rfl (Ew.callD rfl rfl rfl (fun w hw => removed_ret g1 Y k1 false w (StF.of (Y := Y) hw hT (Ent.fz_ok.1 (hw.own (Ent.fz w0) (by simp))) (htab.keptF hw) 1 2 (by rw [hYn]; rfl) (by rw [hYn]; rfl) (by rw [hYn]; rfl)).st hYok (by rw [sm_total hTb]; decide))) ?_; rintro _ _ ⟨rfl, rfl⟩); rw [sm_rem1 hTb]; refine TL.yv (Wt.some rfl rfl rfl rfl) rfl rfl (Yv.pur rfl) ?_; refine TL.run 2 rfl ?_; refine TL.yv (Wt.some rfl rfl rfl rfl) rfl rfl (Yv.pur rfl) ?_; (refine TL.ew (Wt.some rfl rfl rfl rfl) rfl rfl (Ew.callD rfl rfl rfl (fun w hw => conflict_ret g1 Y k1 false w (StF.of (Y := Y) hw hT (Ent.fz_ok.1 (hw.own (Ent.fz w0) (by simp))) (htab.keptF hw) 1 2 (by rw [hYn]; rfl) (by rw [hYn]; rfl) (by rw [hYn]; rfl)).st)) ?_; rintro _ _ ⟨rfl, rfl⟩); refine TL.yv (Wt.some rfl rfl rfl rfl) rfl rfl (Yv.pur rfl) ?_; refine TL.run 2 rfl ?_; refine TL.nil (K.seq (T.ret ?_)); refine K.ret1 rfl rfl (fun w' hw => ⟨?_, hw.isBelow⟩)
  rfl
end Go.Proofs.YtljgejbmimapdaaDoor
namespace Go.Proofs.YtljgejbmimapdaaDoor
open Go.RowKit
def law18_fewer_x (r_ : GRules) (at_ : Int) : Option GRules :=
  joinK (fun (s4 : List GPair × List GLoad × List GCap) =>
    joinK (fun (s15 : List GPair × List GLoad × List GCap) =>
      joinK (fun (s26 : List GPair × List GLoad × List GCap) =>
        some (GRules.mk s26.1 s26.2.1 s26.2.2))
      (fun k26 =>
        iterK (fun (i_31 : Nat) (next30 : (List GPair × List GLoad × List GCap) → Option GRules) (s30 : List GPair × List GLoad × List GCap) =>
          (bif decide (¬ (i_31 : Int) = at_) then
            grd (room (s30.2.2 ++ [(nth r_.Caps i_31)]).length 32) <|
            next30 (s30.1, s30.2.1, (s30.2.2 ++ [(nth r_.Caps i_31)]))
            else
            next30 (s30.1, s30.2.1, s30.2.2)))
        (fun (s30 : List GPair × List GLoad × List GCap) =>
          k26 (s30.1, s30.2.1, s30.2.2)) (r_.Caps.length - 0) 0 (s15.1, s15.2.1, s15.2.2)))
    (fun k15 =>
      iterK (fun (i_20 : Nat) (next19 : (List GPair × List GLoad × List GCap) → Option GRules) (s19 : List GPair × List GLoad × List GCap) =>
        (bif decide (¬ (i_20 : Int) = at_) then
          grd (room (s19.2.1 ++ [(nth r_.Loads i_20)]).length 40) <|
          next19 (s19.1, (s19.2.1 ++ [(nth r_.Loads i_20)]), s19.2.2)
          else
          next19 (s19.1, s19.2.1, s19.2.2)))
      (fun (s19 : List GPair × List GLoad × List GCap) =>
        k15 (s19.1, s19.2.1, s19.2.2)) (r_.Loads.length - 0) 0 (s4.1, s4.2.1, s4.2.2)))
  (fun k4 =>
    iterK (fun (i_9 : Nat) (next8 : (List GPair × List GLoad × List GCap) → Option GRules) (s8 : List GPair × List GLoad × List GCap) =>
      (bif decide (¬ (i_9 : Int) = at_) then
        grd (room (s8.1 ++ [(nth r_.Pairs i_9)]).length 40) <|
        next8 ((s8.1 ++ [(nth r_.Pairs i_9)]), s8.2.1, s8.2.2)
        else
        next8 (s8.1, s8.2.1, s8.2.2)))
    (fun (s8 : List GPair × List GLoad × List GCap) =>
      k4 (s8.1, s8.2.1, s8.2.2)) (r_.Pairs.length - 0) 0 ([], [], []))
theorem law18_fewer_c (F0 : Frz) (w : World) (hF0 : F0.At w) (r_ : GRules) (vr__0 : Value) (hr__0 : SlC F0 vr__0 5 (r_.Pairs.map GPair.enc)) (vr__1 : Value) (hr__1 : SlC F0 vr__1 5 (r_.Loads.map GLoad.enc)) (vr__2 : Value) (hr__2 : SlC F0 vr__2 4 (r_.Caps.map GCap.enc)) (at_ : Int) (r : GRules) (hr : law18_fewer_x r_ at_ = some r) : Calls Tryd.prog 27 #[.agg [vr__0, vr__1, vr__2].toArray, .int .i64 at_] w fun e w' => ∃ (y : Value × Value × Value) (G : Frz), (SlC G y.1 5 (r.Pairs.map GPair.enc) ∧ SlC G y.2.1 5 (r.Loads.map GLoad.enc) ∧ SlC G y.2.2 4 (r.Caps.map GCap.enc)) ∧ e = .returned (.agg [y.1, y.2.1, y.2.2].toArray) ∧ Fx F0 w G w' := by
  have hk := hr; unfold law18_fewer_x at hk; haveI := hr__0.oneC; haveI := hr__1.oneC; haveI := hr__2.oneC; obtain ⟨S0, F1, rfl, hS0, hp0⟩ := startF_ex hF0; refine calls_T (M := fun _ => False) (hs := [.fr F1]) Tryd.func27 rfl rfl rfl hp0 ?_; refine T.seq (T.region ?_); refine TL.e (Ew.boxA rfl rfl) ?_; rintro _ _ ⟨g2, rfl, rfl⟩; refine TL.e (Ew.alloc rfl) ?_; rintro _ _ ⟨g4, rfl, rfl⟩; refine TL.nil (K.seq (T.seq (T.region ?_))); refine TL.e (Ew.alloc rfl) ?_; rintro _ _ ⟨g5, rfl, rfl⟩; refine TL.slNil 84 5 ?_; refine TL.slNil 86 5 ?_; refine TL.slNil 88 4 ?_; refine TL.nil (K.seq (T.seq (T.seq (T.region ?_)))); refine TL.run 1 rfl ?_; refine TL.nil (K.seq ?_); have hq := joinK_open hk; clear hk; obtain ⟨k4, hk4, hk⟩ := hq; (try dsimp only at hk); refine T.cutXK (ι := List GPair × Value × List GLoad × Value × List GCap × Value) (fun z => [(1, .int .i64 at_), (2, .pointer (some ⟨g2, 0, none⟩)), (4, .pointer (some ⟨g4, 0, none⟩)), (5, .pointer (some ⟨g5, 0, none⟩))]) (fun z => [.sl z.2.1 84 5 z.1.length (z.1.flatMap GPair.enc), .sl z.2.2.2.1 86 5 z.2.2.1.length (z.2.2.1.flatMap GLoad.enc), .sl z.2.2.2.2.2 88 4 z.2.2.2.2.1.length (z.2.2.2.2.1.flatMap GCap.enc), .row g5 27 [z.2.1, z.2.2.2.1, z.2.2.2.2.2], .row g4 27 [(.slice none 0 0), (.slice none 0 0), (.slice none 0 0)], .row g2 27 [vr__0, vr__1, vr__2], .fr F1]) (fun z => k4 (z.1, z.2.2.1, z.2.2.2.2.1) = some r ∧ OneC z.2.1 ∧ OneC z.2.2.2.1 ∧ OneC z.2.2.2.2.2) ?_ ?_
  · have hq := iterK_open hk; clear hk; obtain ⟨f8, kk8, hf8, hkk8, hk⟩ := hq; refine T.block ?_; refine T.pick [2, 1, 0, 3, 4, 5, 6] rfl (by decide) ?_; refine T.loop (ι := Nat × List GPair × Value × List GLoad × Value × List GCap × Value) (fun z => [(1, .int .i64 at_), (2, .pointer (some ⟨g2, 0, none⟩)), (4, .pointer (some ⟨g4, 0, none⟩)), (5, .pointer (some ⟨g5, 0, none⟩)), (6, .int .i64 (z.1 : Int))]) (fun z => [.sl z.2.2.1 84 5 z.2.1.length (z.2.1.flatMap GPair.enc), .sl z.2.2.2.2.1 86 5 z.2.2.2.1.length (z.2.2.2.1.flatMap GLoad.enc), .sl z.2.2.2.2.2.2 88 4 z.2.2.2.2.2.1.length (z.2.2.2.2.2.1.flatMap GCap.enc), .row g5 27 [z.2.2.1, z.2.2.2.2.1, z.2.2.2.2.2.2], .row g4 27 [(.slice none 0 0), (.slice none 0 0), (.slice none 0 0)], .row g2 27 [vr__0, vr__1, vr__2], .fr F1]) (fun z => iterK f8 kk8 (r_.Pairs.length - z.1) z.1 (z.2.1, z.2.2.2.1, z.2.2.2.2.2.1) = some r ∧ OneC z.2.2.1 ∧ OneC z.2.2.2.2.1 ∧ OneC z.2.2.2.2.2.2) (fun z => r_.Pairs.length - z.1) (0, [], (.slice none 0 0), [], (.slice none 0 0), [], (.slice none 0 0)) ?_ ?_ ?_ ?_
    · exact ⟨hk, inferInstance, inferInstance, inferInstance⟩
    · exact (.c (.c (.c (.c (.c .nil)))))
    · exact List.Sublist.refl _
    · rintro ⟨i_9, c_5, vc_5, c_6, vc_6, c_7, vc_7⟩ ⟨hk, oc_5, oc_6, oc_7⟩; (try dsimp only at *); refine T.seq (T.seq (T.region ?_)); refine TL.run 1 rfl ?_; refine TL.y (Yv.fieldAddr rfl rfl) ?_; refine TL.y (Yv.loadO 5 rfl rfl rfl rfl) ?_; refine TL.y (Yv.lenR rfl rfl hr__0 (List.length_map _)) ?_; have hm12 : r_.Pairs.length ≤ 9223372036854775807 := (List.length_map _) ▸ hr__0.max; refine TL.run 1 rfl ?_; refine TL.nil (K.seq ?_); refine T.cond rfl (fun h10 => ?_) (fun h10 => ?_)
      · have p10 := of_decide_eq_true h10; rw [iterK_lt (by omega)] at hk; generalize hn8 : iterK f8 kk8 (r_.Pairs.length - (i_9 + 1)) (i_9 + 1) = next8 at hk; rw [← hf8] at hk; (try dsimp only at hk); refine T.skip (K.seq (T.seq (T.block (T.seq (T.region ?_))))); refine TL.run 3 rfl ?_; refine TL.nil (K.seq ?_); refine T.cond rfl (fun h11 => ?_) (fun h11 => ?_)
        · have p11 := of_decide_eq_true h11; replace hk := condT_open hk h11; have hq : (room (c_5 ++ [(nth r_.Pairs i_9)]).length 40) ∧ _ := grd_some hk; clear hk; obtain ⟨g27, hk⟩ := hq; (try dsimp only at hk); refine T.draw (.still 0 (.still 2 (.still 3 (.still 4 (.still 5 (.still 6 (.two 1 7 (.eff 7 (.eff 8 (.still 9 (.eff 10 .done)))) (.eff 1 (.eff 8 (.still 9 (.eff 10 .done))))))))))) [.sl vc_6 86 5 c_6.length (c_6.flatMap GLoad.enc), .sl vc_7 88 4 c_7.length (c_7.flatMap GCap.enc), .row g4 27 [(.slice none 0 0), (.slice none 0 0), (.slice none 0 0)], .row g2 27 [vr__0, vr__1, vr__2], .fr F1] (by kernel_rfl) (by repeat first | exact S0 | exact S1 | refine S2 ?_ | refine S3 ?_) ?_; refine TS.y rfl (Yv.fieldAddr rfl rfl) ?_; refine TS.y rfl (Yv.fieldAddr rfl rfl) ?_; refine TS.y rfl (Yv.loadO 3 rfl rfl rfl rfl) ?_; refine TS.run 1 rfl ?_; refine TS.y rfl (Yv.idxR (i := i_9) rfl rfl rfl hr__0 (List.length_map _) rfl (by omega)) ?_; refine TS.y rfl (Yv.loadRFA 4 (i := i_9) rfl rfl rfl hr__0 (by omega) rfl rfl rfl) ?_; refine TS.two ?_ ?_
          · refine TSo.yvG rfl (Wt.none rfl) rfl rfl (Yv.loadO 3 rfl rfl rfl rfl) (fun w hw => hw.sub (by repeat first | exact S0 | exact S1 | refine S2 ?_ | refine S3 ?_)) ?_; refine TS.eff ?_; refine TSo.ewG rfl (Wt.none rfl) rfl rfl (Ew.buildSlice rfl rfl rfl (by decide)) ?_; rintro _ _ ⟨g26, rfl, rfl⟩; refine ⟨(fun w hw => hw.sub (by repeat first | exact S0 | exact S1 | refine S2 ?_ | refine S3 ?_)), ?_⟩; refine TS.eff ?_; refine TSo.ewG rfl (Wt.none rfl) rfl rfl (Ew.appendL 1 0 rfl rfl rfl rfl rfl rfl (len_lit (ys := [(nth r_.Pairs i_9)]) rfl) (flat_app (enc := GPair.enc) (xs := c_5) (ys := [(nth r_.Pairs i_9)])) g27 (by decide)) ?_; rintro v27 _ ⟨hv27, rfl⟩; refine ⟨(fun w hw => hw.sub (by repeat first | exact S0 | exact S1 | refine S2 ?_ | refine S3 ?_)), ?_⟩; refine TS.y rfl (Yv.fieldAddr rfl rfl) ?_; refine TS.eff ?_; refine TSo.ewG0 rfl (Wt.none rfl) rfl (Ew.store1 4 rfl rfl rfl rfl (by simp)) ?_; rintro _ _ ⟨rfl, rfl⟩; refine ⟨(fun w hw => hw.sub (by repeat first | exact S0 | exact S1 | refine S2 ?_ | refine S3 ?_)), ?_⟩; refine TS.done ?_; refine K.blk_normal (K.seq (T.region ?_)); refine TL.run 1 rfl ?_; refine TL.y (Yv.addI rfl rfl rfl (by omega)) ?_; refine TL.run 1 rfl ?_; refine TL.nil ?_; rw [← hn8] at hk; refine K.pick [1, 2, 3, 4, 5, 6, 7] rfl (by decide) ?_; exact K.next ((i_9 + 1), (c_5 ++ [(nth r_.Pairs i_9)]), v27, c_6, vc_6, c_7, vc_7) ⟨hk, inferInstance, inferInstance, inferInstance⟩ (by dsimp only; omega) (.c (.c (.c (.c (.c .nil))))) (List.Sublist.refl _)
          · refine TSo.ewG rfl (Wt.none rfl) rfl rfl (Ew.buildSlice rfl rfl rfl (by decide)) ?_; rintro _ _ ⟨g26, rfl, rfl⟩; refine ⟨(fun w hw => hw.sub (by repeat first | exact S0 | exact S1 | refine S2 ?_ | refine S3 ?_)), ?_⟩; refine TS.eff ?_; refine TSo.yvG rfl (Wt.none rfl) rfl rfl (Yv.loadO 4 rfl rfl rfl rfl) (fun w hw => hw.sub (by repeat first | exact S0 | exact S1 | refine S2 ?_ | refine S3 ?_)) ?_; refine TS.eff ?_; refine TSo.ewG rfl (Wt.none rfl) rfl rfl (Ew.appendL 1 0 rfl rfl rfl rfl rfl rfl (len_lit (ys := [(nth r_.Pairs i_9)]) rfl) (flat_app (enc := GPair.enc) (xs := c_5) (ys := [(nth r_.Pairs i_9)])) g27 (by decide)) ?_; rintro v27 _ ⟨hv27, rfl⟩; refine ⟨(fun w hw => hw.sub (by repeat first | exact S0 | exact S1 | refine S2 ?_ | refine S3 ?_)), ?_⟩; refine TS.y rfl (Yv.fieldAddr rfl rfl) ?_; refine TS.eff ?_; refine TSo.ewG0 rfl (Wt.none rfl) rfl (Ew.store1 4 rfl rfl rfl rfl (by simp)) ?_; rintro _ _ ⟨rfl, rfl⟩; refine ⟨(fun w hw => hw.sub (by repeat first | exact S0 | exact S1 | refine S2 ?_ | refine S3 ?_)), ?_⟩; refine TS.done ?_; refine K.blk_normal (K.seq (T.region ?_)); refine TL.run 1 rfl ?_; refine TL.y (Yv.addI rfl rfl rfl (by omega)) ?_; refine TL.run 1 rfl ?_; refine TL.nil ?_; rw [← hn8] at hk; refine K.pick [1, 2, 3, 4, 5, 6, 7] rfl (by decide) ?_; exact K.next ((i_9 + 1), (c_5 ++ [(nth r_.Pairs i_9)]), v27, c_6, vc_6, c_7, vc_7) ⟨hk, inferInstance, inferInstance, inferInstance⟩ (by dsimp only; omega) (.c (.c (.c (.c (.c .nil))))) (List.Sublist.refl _)
        · have p11 := of_decide_eq_false h11; replace hk := condF_open hk h11; refine T.skip (K.blk_normal (K.seq (T.region ?_))); refine TL.run 1 rfl ?_; refine TL.y (Yv.addI rfl rfl rfl (by omega)) ?_; refine TL.run 1 rfl ?_; refine TL.nil ?_; rw [← hn8] at hk; exact K.next ((i_9 + 1), c_5, vc_5, c_6, vc_6, c_7, vc_7) ⟨hk, inferInstance, inferInstance, inferInstance⟩ (by dsimp only; omega) (.c (.c (.c (.c (.c .nil))))) (List.Sublist.refl _)
      · have p10 := of_decide_eq_false h10; rw [iterK_ge (by omega), ← hkk8] at hk; (try dsimp only at hk); refine T.exit (K.then_exit (K.then_exit (K.blk_exit_eq ?_))); exact K.atX (c_5, vc_5, c_6, vc_6, c_7, vc_7) ⟨hk, inferInstance, inferInstance, inferInstance⟩ (.c (.c (.c (.c .nil)))) (List.Sublist.refl _)
  · rintro ⟨c_1, vc_1, c_2, vc_2, c_3, vc_3⟩ ⟨hk, oc_1, oc_2, oc_3⟩; (try dsimp only at *); rw [← hk4] at hk; (try dsimp only at hk); refine T.seq (T.seq (T.region ?_)); refine TL.run 1 rfl ?_; refine TL.nil (K.seq ?_); have hq := joinK_open hk; clear hk; obtain ⟨k15, hk15, hk⟩ := hq; (try dsimp only at hk); refine T.cutXK (ι := List GPair × Value × List GLoad × Value × List GCap × Value) (fun z => [(1, .int .i64 at_), (2, .pointer (some ⟨g2, 0, none⟩)), (4, .pointer (some ⟨g4, 0, none⟩)), (5, .pointer (some ⟨g5, 0, none⟩))]) (fun z => [.sl z.2.1 84 5 z.1.length (z.1.flatMap GPair.enc), .sl z.2.2.2.1 86 5 z.2.2.1.length (z.2.2.1.flatMap GLoad.enc), .sl z.2.2.2.2.2 88 4 z.2.2.2.2.1.length (z.2.2.2.2.1.flatMap GCap.enc), .row g5 27 [z.2.1, z.2.2.2.1, z.2.2.2.2.2], .row g4 27 [(.slice none 0 0), (.slice none 0 0), (.slice none 0 0)], .row g2 27 [vr__0, vr__1, vr__2], .fr F1]) (fun z => k15 (z.1, z.2.2.1, z.2.2.2.2.1) = some r ∧ OneC z.2.1 ∧ OneC z.2.2.2.1 ∧ OneC z.2.2.2.2.2) ?_ ?_
    · have hq := iterK_open hk; clear hk; obtain ⟨f19, kk19, hf19, hkk19, hk⟩ := hq; refine T.block ?_; refine T.loop (ι := Nat × List GPair × Value × List GLoad × Value × List GCap × Value) (fun z => [(1, .int .i64 at_), (2, .pointer (some ⟨g2, 0, none⟩)), (4, .pointer (some ⟨g4, 0, none⟩)), (5, .pointer (some ⟨g5, 0, none⟩)), (7, .int .i64 (z.1 : Int))]) (fun z => [.sl z.2.2.1 84 5 z.2.1.length (z.2.1.flatMap GPair.enc), .sl z.2.2.2.2.1 86 5 z.2.2.2.1.length (z.2.2.2.1.flatMap GLoad.enc), .sl z.2.2.2.2.2.2 88 4 z.2.2.2.2.2.1.length (z.2.2.2.2.2.1.flatMap GCap.enc), .row g5 27 [z.2.2.1, z.2.2.2.2.1, z.2.2.2.2.2.2], .row g4 27 [(.slice none 0 0), (.slice none 0 0), (.slice none 0 0)], .row g2 27 [vr__0, vr__1, vr__2], .fr F1]) (fun z => iterK f19 kk19 (r_.Loads.length - z.1) z.1 (z.2.1, z.2.2.2.1, z.2.2.2.2.2.1) = some r ∧ OneC z.2.2.1 ∧ OneC z.2.2.2.2.1 ∧ OneC z.2.2.2.2.2.2) (fun z => r_.Loads.length - z.1) (0, c_1, vc_1, c_2, vc_2, c_3, vc_3) ?_ ?_ ?_ ?_
      · exact ⟨hk, inferInstance, inferInstance, inferInstance⟩
      · exact (.c (.c (.c (.c (.c .nil)))))
      · exact List.Sublist.refl _
      · rintro ⟨i_20, c_16, vc_16, c_17, vc_17, c_18, vc_18⟩ ⟨hk, oc_16, oc_17, oc_18⟩; (try dsimp only at *); refine T.seq (T.seq (T.region ?_)); refine TL.run 1 rfl ?_; refine TL.y (Yv.fieldAddr rfl rfl) ?_; refine TL.y (Yv.loadO 5 rfl rfl rfl rfl) ?_; refine TL.y (Yv.lenR rfl rfl hr__1 (List.length_map _)) ?_; have hm32 : r_.Loads.length ≤ 9223372036854775807 := (List.length_map _) ▸ hr__1.max; refine TL.run 1 rfl ?_; refine TL.nil (K.seq ?_); refine T.cond rfl (fun h21 => ?_) (fun h21 => ?_)
        · have p21 := of_decide_eq_true h21; rw [iterK_lt (by omega)] at hk; generalize hn19 : iterK f19 kk19 (r_.Loads.length - (i_20 + 1)) (i_20 + 1) = next19 at hk; rw [← hf19] at hk; (try dsimp only at hk); refine T.skip (K.seq (T.seq (T.block (T.seq (T.region ?_))))); refine TL.run 3 rfl ?_; refine TL.nil (K.seq ?_); refine T.cond rfl (fun h22 => ?_) (fun h22 => ?_)
          · have p22 := of_decide_eq_true h22; replace hk := condT_open hk h22; have hq : (room (c_17 ++ [(nth r_.Loads i_20)]).length 40) ∧ _ := grd_some hk; clear hk; obtain ⟨g47, hk⟩ := hq; (try dsimp only at hk); refine T.draw (.still 0 (.still 2 (.still 3 (.still 4 (.still 5 (.still 6 (.two 1 7 (.eff 7 (.eff 8 (.still 9 (.eff 10 .done)))) (.eff 1 (.eff 8 (.still 9 (.eff 10 .done))))))))))) [.sl vc_16 84 5 c_16.length (c_16.flatMap GPair.enc), .sl vc_18 88 4 c_18.length (c_18.flatMap GCap.enc), .row g4 27 [(.slice none 0 0), (.slice none 0 0), (.slice none 0 0)], .row g2 27 [vr__0, vr__1, vr__2], .fr F1] (by kernel_rfl) (by repeat first | exact S0 | exact S1 | refine S2 ?_ | refine S3 ?_) ?_; refine TS.y rfl (Yv.fieldAddr rfl rfl) ?_; refine TS.y rfl (Yv.fieldAddr rfl rfl) ?_; refine TS.y rfl (Yv.loadO 3 rfl rfl rfl rfl) ?_; refine TS.run 1 rfl ?_; refine TS.y rfl (Yv.idxR (i := i_20) rfl rfl rfl hr__1 (List.length_map _) rfl (by omega)) ?_; refine TS.y rfl (Yv.loadRFA 4 (i := i_20) rfl rfl rfl hr__1 (by omega) rfl rfl rfl) ?_; refine TS.two ?_ ?_
            · refine TSo.yvG rfl (Wt.none rfl) rfl rfl (Yv.loadO 3 rfl rfl rfl rfl) (fun w hw => hw.sub (by repeat first | exact S0 | exact S1 | refine S2 ?_ | refine S3 ?_)) ?_; refine TS.eff ?_; refine TSo.ewG rfl (Wt.none rfl) rfl rfl (Ew.buildSlice rfl rfl rfl (by decide)) ?_; rintro _ _ ⟨g46, rfl, rfl⟩; refine ⟨(fun w hw => hw.sub (by repeat first | exact S0 | exact S1 | refine S2 ?_ | refine S3 ?_)), ?_⟩; refine TS.eff ?_; refine TSo.ewG rfl (Wt.none rfl) rfl rfl (Ew.appendL 2 0 rfl rfl rfl rfl rfl rfl (len_lit (ys := [(nth r_.Loads i_20)]) rfl) (flat_app (enc := GLoad.enc) (xs := c_17) (ys := [(nth r_.Loads i_20)])) g47 (by decide)) ?_; rintro v47 _ ⟨hv47, rfl⟩; refine ⟨(fun w hw => hw.sub (by repeat first | exact S0 | exact S1 | refine S2 ?_ | refine S3 ?_)), ?_⟩; refine TS.y rfl (Yv.fieldAddr rfl rfl) ?_; refine TS.eff ?_; refine TSo.ewG0 rfl (Wt.none rfl) rfl (Ew.store1 4 rfl rfl rfl rfl (by simp)) ?_; rintro _ _ ⟨rfl, rfl⟩; refine ⟨(fun w hw => hw.sub (by repeat first | exact S0 | exact S1 | refine S2 ?_ | refine S3 ?_)), ?_⟩; refine TS.done ?_; refine K.blk_normal (K.seq (T.region ?_)); refine TL.run 1 rfl ?_; refine TL.y (Yv.addI rfl rfl rfl (by omega)) ?_; refine TL.run 1 rfl ?_; refine TL.nil ?_; rw [← hn19] at hk; refine K.pick [1, 2, 3, 4, 5, 6, 7] rfl (by decide) ?_; exact K.next ((i_20 + 1), c_16, vc_16, (c_17 ++ [(nth r_.Loads i_20)]), v47, c_18, vc_18) ⟨hk, inferInstance, inferInstance, inferInstance⟩ (by dsimp only; omega) (.c (.c (.c (.c (.c .nil))))) (List.Sublist.refl _)
            · refine TSo.ewG rfl (Wt.none rfl) rfl rfl (Ew.buildSlice rfl rfl rfl (by decide)) ?_; rintro _ _ ⟨g46, rfl, rfl⟩; refine ⟨(fun w hw => hw.sub (by repeat first | exact S0 | exact S1 | refine S2 ?_ | refine S3 ?_)), ?_⟩; refine TS.eff ?_; refine TSo.yvG rfl (Wt.none rfl) rfl rfl (Yv.loadO 4 rfl rfl rfl rfl) (fun w hw => hw.sub (by repeat first | exact S0 | exact S1 | refine S2 ?_ | refine S3 ?_)) ?_; refine TS.eff ?_; refine TSo.ewG rfl (Wt.none rfl) rfl rfl (Ew.appendL 2 0 rfl rfl rfl rfl rfl rfl (len_lit (ys := [(nth r_.Loads i_20)]) rfl) (flat_app (enc := GLoad.enc) (xs := c_17) (ys := [(nth r_.Loads i_20)])) g47 (by decide)) ?_; rintro v47 _ ⟨hv47, rfl⟩; refine ⟨(fun w hw => hw.sub (by repeat first | exact S0 | exact S1 | refine S2 ?_ | refine S3 ?_)), ?_⟩; refine TS.y rfl (Yv.fieldAddr rfl rfl) ?_; refine TS.eff ?_; refine TSo.ewG0 rfl (Wt.none rfl) rfl (Ew.store1 4 rfl rfl rfl rfl (by simp)) ?_; rintro _ _ ⟨rfl, rfl⟩; refine ⟨(fun w hw => hw.sub (by repeat first | exact S0 | exact S1 | refine S2 ?_ | refine S3 ?_)), ?_⟩; refine TS.done ?_; refine K.blk_normal (K.seq (T.region ?_)); refine TL.run 1 rfl ?_; refine TL.y (Yv.addI rfl rfl rfl (by omega)) ?_; refine TL.run 1 rfl ?_; refine TL.nil ?_; rw [← hn19] at hk; refine K.pick [1, 2, 3, 4, 5, 6, 7] rfl (by decide) ?_; exact K.next ((i_20 + 1), c_16, vc_16, (c_17 ++ [(nth r_.Loads i_20)]), v47, c_18, vc_18) ⟨hk, inferInstance, inferInstance, inferInstance⟩ (by dsimp only; omega) (.c (.c (.c (.c (.c .nil))))) (List.Sublist.refl _)
          · have p22 := of_decide_eq_false h22; replace hk := condF_open hk h22; refine T.skip (K.blk_normal (K.seq (T.region ?_))); refine TL.run 1 rfl ?_; refine TL.y (Yv.addI rfl rfl rfl (by omega)) ?_; refine TL.run 1 rfl ?_; refine TL.nil ?_; rw [← hn19] at hk; exact K.next ((i_20 + 1), c_16, vc_16, c_17, vc_17, c_18, vc_18) ⟨hk, inferInstance, inferInstance, inferInstance⟩ (by dsimp only; omega) (.c (.c (.c (.c (.c .nil))))) (List.Sublist.refl _)
        · have p21 := of_decide_eq_false h21; rw [iterK_ge (by omega), ← hkk19] at hk; (try dsimp only at hk); refine T.exit (K.then_exit (K.then_exit (K.blk_exit_eq ?_))); exact K.atX (c_16, vc_16, c_17, vc_17, c_18, vc_18) ⟨hk, inferInstance, inferInstance, inferInstance⟩ (.c (.c (.c (.c .nil)))) (List.Sublist.refl _)
    · rintro ⟨c_12, vc_12, c_13, vc_13, c_14, vc_14⟩ ⟨hk, oc_12, oc_13, oc_14⟩; (try dsimp only at *); rw [← hk15] at hk; (try dsimp only at hk); refine T.seq (T.seq (T.region ?_)); refine TL.run 1 rfl ?_; refine TL.nil (K.seq ?_); have hq := joinK_open hk; clear hk; obtain ⟨k26, hk26, hk⟩ := hq; (try dsimp only at hk); refine T.cutXK (ι := List GPair × Value × List GLoad × Value × List GCap × Value) (fun z => [(4, .pointer (some ⟨g4, 0, none⟩)), (5, .pointer (some ⟨g5, 0, none⟩))]) (fun z => [.sl z.2.1 84 5 z.1.length (z.1.flatMap GPair.enc), .sl z.2.2.2.1 86 5 z.2.2.1.length (z.2.2.1.flatMap GLoad.enc), .sl z.2.2.2.2.2 88 4 z.2.2.2.2.1.length (z.2.2.2.2.1.flatMap GCap.enc), .row g5 27 [z.2.1, z.2.2.2.1, z.2.2.2.2.2], .row g4 27 [(.slice none 0 0), (.slice none 0 0), (.slice none 0 0)], .fr F1]) (fun z => k26 (z.1, z.2.2.1, z.2.2.2.2.1) = some r ∧ OneC z.2.1 ∧ OneC z.2.2.2.1 ∧ OneC z.2.2.2.2.2) ?_ ?_
      · have hq := iterK_open hk; clear hk; obtain ⟨f30, kk30, hf30, hkk30, hk⟩ := hq; refine T.block ?_; refine T.loop (ι := Nat × List GPair × Value × List GLoad × Value × List GCap × Value) (fun z => [(1, .int .i64 at_), (2, .pointer (some ⟨g2, 0, none⟩)), (4, .pointer (some ⟨g4, 0, none⟩)), (5, .pointer (some ⟨g5, 0, none⟩)), (8, .int .i64 (z.1 : Int))]) (fun z => [.sl z.2.2.1 84 5 z.2.1.length (z.2.1.flatMap GPair.enc), .sl z.2.2.2.2.1 86 5 z.2.2.2.1.length (z.2.2.2.1.flatMap GLoad.enc), .sl z.2.2.2.2.2.2 88 4 z.2.2.2.2.2.1.length (z.2.2.2.2.2.1.flatMap GCap.enc), .row g5 27 [z.2.2.1, z.2.2.2.2.1, z.2.2.2.2.2.2], .row g4 27 [(.slice none 0 0), (.slice none 0 0), (.slice none 0 0)], .row g2 27 [vr__0, vr__1, vr__2], .fr F1]) (fun z => iterK f30 kk30 (r_.Caps.length - z.1) z.1 (z.2.1, z.2.2.2.1, z.2.2.2.2.2.1) = some r ∧ OneC z.2.2.1 ∧ OneC z.2.2.2.2.1 ∧ OneC z.2.2.2.2.2.2) (fun z => r_.Caps.length - z.1) (0, c_12, vc_12, c_13, vc_13, c_14, vc_14) ?_ ?_ ?_ ?_
        · exact ⟨hk, inferInstance, inferInstance, inferInstance⟩
        · exact (.c (.c (.c (.c (.c .nil)))))
        · exact List.Sublist.refl _
        · rintro ⟨i_31, c_27, vc_27, c_28, vc_28, c_29, vc_29⟩ ⟨hk, oc_27, oc_28, oc_29⟩; (try dsimp only at *); refine T.seq (T.seq (T.region ?_)); refine TL.run 1 rfl ?_; refine TL.y (Yv.fieldAddr rfl rfl) ?_; refine TL.y (Yv.loadO 5 rfl rfl rfl rfl) ?_; refine TL.y (Yv.lenR rfl rfl hr__2 (List.length_map _)) ?_; have hm52 : r_.Caps.length ≤ 9223372036854775807 := (List.length_map _) ▸ hr__2.max; refine TL.run 1 rfl ?_; refine TL.nil (K.seq ?_); refine T.cond rfl (fun h32 => ?_) (fun h32 => ?_)
          · have p32 := of_decide_eq_true h32; rw [iterK_lt (by omega)] at hk; generalize hn30 : iterK f30 kk30 (r_.Caps.length - (i_31 + 1)) (i_31 + 1) = next30 at hk; rw [← hf30] at hk; (try dsimp only at hk); refine T.skip (K.seq (T.seq (T.block (T.seq (T.region ?_))))); refine TL.run 3 rfl ?_; refine TL.nil (K.seq ?_); refine T.cond rfl (fun h33 => ?_) (fun h33 => ?_)
            · have p33 := of_decide_eq_true h33; replace hk := condT_open hk h33; have hq : (room (c_29 ++ [(nth r_.Caps i_31)]).length 32) ∧ _ := grd_some hk; clear hk; obtain ⟨g67, hk⟩ := hq; (try dsimp only at hk); refine T.draw (.still 0 (.still 2 (.still 3 (.still 4 (.still 5 (.still 6 (.two 1 7 (.eff 7 (.eff 8 (.still 9 (.eff 10 .done)))) (.eff 1 (.eff 8 (.still 9 (.eff 10 .done))))))))))) [.sl vc_27 84 5 c_27.length (c_27.flatMap GPair.enc), .sl vc_28 86 5 c_28.length (c_28.flatMap GLoad.enc), .row g4 27 [(.slice none 0 0), (.slice none 0 0), (.slice none 0 0)], .row g2 27 [vr__0, vr__1, vr__2], .fr F1] (by kernel_rfl) (by repeat first | exact S0 | exact S1 | refine S2 ?_ | refine S3 ?_) ?_; refine TS.y rfl (Yv.fieldAddr rfl rfl) ?_; refine TS.y rfl (Yv.fieldAddr rfl rfl) ?_; refine TS.y rfl (Yv.loadO 3 rfl rfl rfl rfl) ?_; refine TS.run 1 rfl ?_; refine TS.y rfl (Yv.idxR (i := i_31) rfl rfl rfl hr__2 (List.length_map _) rfl (by omega)) ?_; refine TS.y rfl (Yv.loadRFA 4 (i := i_31) rfl rfl rfl hr__2 (by omega) rfl rfl rfl) ?_; refine TS.two ?_ ?_
              · refine TSo.yvG rfl (Wt.none rfl) rfl rfl (Yv.loadO 3 rfl rfl rfl rfl) (fun w hw => hw.sub (by repeat first | exact S0 | exact S1 | refine S2 ?_ | refine S3 ?_)) ?_; refine TS.eff ?_; refine TSo.ewG rfl (Wt.none rfl) rfl rfl (Ew.buildSlice rfl rfl rfl (by decide)) ?_; rintro _ _ ⟨g66, rfl, rfl⟩; refine ⟨(fun w hw => hw.sub (by repeat first | exact S0 | exact S1 | refine S2 ?_ | refine S3 ?_)), ?_⟩; refine TS.eff ?_; refine TSo.ewG rfl (Wt.none rfl) rfl rfl (Ew.appendL 3 0 rfl rfl rfl rfl rfl rfl (len_lit (ys := [(nth r_.Caps i_31)]) rfl) (flat_app (enc := GCap.enc) (xs := c_29) (ys := [(nth r_.Caps i_31)])) g67 (by decide)) ?_; rintro v67 _ ⟨hv67, rfl⟩; refine ⟨(fun w hw => hw.sub (by repeat first | exact S0 | exact S1 | refine S2 ?_ | refine S3 ?_)), ?_⟩; refine TS.y rfl (Yv.fieldAddr rfl rfl) ?_; refine TS.eff ?_; refine TSo.ewG0 rfl (Wt.none rfl) rfl (Ew.store1 4 rfl rfl rfl rfl (by simp)) ?_; rintro _ _ ⟨rfl, rfl⟩; refine ⟨(fun w hw => hw.sub (by repeat first | exact S0 | exact S1 | refine S2 ?_ | refine S3 ?_)), ?_⟩; refine TS.done ?_; refine K.blk_normal (K.seq (T.region ?_)); refine TL.run 1 rfl ?_; refine TL.y (Yv.addI rfl rfl rfl (by omega)) ?_; refine TL.run 1 rfl ?_; refine TL.nil ?_; rw [← hn30] at hk; refine K.pick [1, 2, 3, 4, 5, 6, 7] rfl (by decide) ?_; exact K.next ((i_31 + 1), c_27, vc_27, c_28, vc_28, (c_29 ++ [(nth r_.Caps i_31)]), v67) ⟨hk, inferInstance, inferInstance, inferInstance⟩ (by dsimp only; omega) (.c (.c (.c (.c (.c .nil))))) (List.Sublist.refl _)
              · refine TSo.ewG rfl (Wt.none rfl) rfl rfl (Ew.buildSlice rfl rfl rfl (by decide)) ?_; rintro _ _ ⟨g66, rfl, rfl⟩; refine ⟨(fun w hw => hw.sub (by repeat first | exact S0 | exact S1 | refine S2 ?_ | refine S3 ?_)), ?_⟩; refine TS.eff ?_; refine TSo.yvG rfl (Wt.none rfl) rfl rfl (Yv.loadO 4 rfl rfl rfl rfl) (fun w hw => hw.sub (by repeat first | exact S0 | exact S1 | refine S2 ?_ | refine S3 ?_)) ?_; refine TS.eff ?_; refine TSo.ewG rfl (Wt.none rfl) rfl rfl (Ew.appendL 3 0 rfl rfl rfl rfl rfl rfl (len_lit (ys := [(nth r_.Caps i_31)]) rfl) (flat_app (enc := GCap.enc) (xs := c_29) (ys := [(nth r_.Caps i_31)])) g67 (by decide)) ?_; rintro v67 _ ⟨hv67, rfl⟩; refine ⟨(fun w hw => hw.sub (by repeat first | exact S0 | exact S1 | refine S2 ?_ | refine S3 ?_)), ?_⟩; refine TS.y rfl (Yv.fieldAddr rfl rfl) ?_; refine TS.eff ?_; refine TSo.ewG0 rfl (Wt.none rfl) rfl (Ew.store1 4 rfl rfl rfl rfl (by simp)) ?_; rintro _ _ ⟨rfl, rfl⟩; refine ⟨(fun w hw => hw.sub (by repeat first | exact S0 | exact S1 | refine S2 ?_ | refine S3 ?_)), ?_⟩; refine TS.done ?_; refine K.blk_normal (K.seq (T.region ?_)); refine TL.run 1 rfl ?_; refine TL.y (Yv.addI rfl rfl rfl (by omega)) ?_; refine TL.run 1 rfl ?_; refine TL.nil ?_; rw [← hn30] at hk; refine K.pick [1, 2, 3, 4, 5, 6, 7] rfl (by decide) ?_; exact K.next ((i_31 + 1), c_27, vc_27, c_28, vc_28, (c_29 ++ [(nth r_.Caps i_31)]), v67) ⟨hk, inferInstance, inferInstance, inferInstance⟩ (by dsimp only; omega) (.c (.c (.c (.c (.c .nil))))) (List.Sublist.refl _)
            · have p33 := of_decide_eq_false h33; replace hk := condF_open hk h33; refine T.skip (K.blk_normal (K.seq (T.region ?_))); refine TL.run 1 rfl ?_; refine TL.y (Yv.addI rfl rfl rfl (by omega)) ?_; refine TL.run 1 rfl ?_; refine TL.nil ?_; rw [← hn30] at hk; exact K.next ((i_31 + 1), c_27, vc_27, c_28, vc_28, c_29, vc_29) ⟨hk, inferInstance, inferInstance, inferInstance⟩ (by dsimp only; omega) (.c (.c (.c (.c (.c .nil))))) (List.Sublist.refl _)
          · have p32 := of_decide_eq_false h32; rw [iterK_ge (by omega), ← hkk30] at hk; (try dsimp only at hk); refine T.exit (K.then_exit (K.then_exit (K.blk_exit_eq ?_))); refine K.pick [0, 1, 2, 3, 4, 6] rfl (by decide) ?_; exact K.atX (c_27, vc_27, c_28, vc_28, c_29, vc_29) ⟨hk, inferInstance, inferInstance, inferInstance⟩ (.c (.c .nil)) (List.Sublist.refl _)
      · rintro ⟨c_23, vc_23, c_24, vc_24, c_25, vc_25⟩ ⟨hk, oc_23, oc_24, oc_25⟩; (try dsimp only at *); rw [← hk26] at hk; (try dsimp only at hk); refine T.seq (T.region ?_); refine TL.y (Yv.loadAO 3 rfl rfl rfl rfl) ?_; refine TL.e0 (Ew.storeAll 4 rfl rfl rfl rfl rfl rfl) ?_; rintro _ _ ⟨rfl, rfl⟩; refine TL.nil (K.seq (T.ret ?_)); refine K.exH (fun w hw => hw.freezeS (i := 5) (j := 0) (by decide) rfl rfl) ?_; rintro F2 ⟨le1_2, hz2⟩; dsimp only [List.set, List.eraseIdx]; have hf2 := hz2.toF rfl GPair.len; haveI := hf2.oneC; refine K.exH (fun w hw => hw.freezeS (i := 4) (j := 0) (by decide) rfl rfl) ?_; rintro F3 ⟨le2_3, hz3⟩; dsimp only [List.set, List.eraseIdx]; have le1_3 := le1_2.trans le2_3; have hf3 := hz3.toF rfl GLoad.len; haveI := hf3.oneC; refine K.exH (fun w hw => hw.freezeS (i := 3) (j := 0) (by decide) rfl rfl) ?_; rintro F4 ⟨le3_4, hz4⟩; dsimp only [List.set, List.eraseIdx]; have le1_4 := le1_3.trans le3_4; have le2_4 := le2_3.trans le3_4; have hf4 := hz4.toF rfl GCap.len; haveI := hf4.oneC; obtain rfl := Option.some.inj hk; exact K.retC 1 rfl rfl rfl rfl (fun w' hw => ⟨(vc_23, vc_24, vc_25), F4.toFrz, ⟨(SlC.mono hf2 le2_4), (SlC.mono hf3 le3_4), hf4⟩, rfl, Fx.of hw (i := 2) rfl hS0 le1_4⟩)
def law18_PropagateGrows_x (fuel : Nat) (p : GProblem) (l : List GAct) (at_ : Int) (many : Int) : Option Bool :=
  (ref17_Small_x fuel p 10 40).bind fun r17 =>
  joinK (fun (x_1 : Bool) =>
    (bif x_1 then
      some true
      else
      (bif okG p then
        (ref18_Propagate_x fuel p p.Domains).bind fun r42 =>
        (law18_fewer_x p.Rules at_).bind fun r51 =>
        (bif okG (GProblem.mk p.Domains (GRules.mk r51.Pairs r51.Loads r51.Caps)) then
          (ref18_Propagate_x fuel (GProblem.mk p.Domains (GRules.mk r51.Pairs r51.Loads r51.Caps)) (GProblem.mk p.Domains (GRules.mk r51.Pairs r51.Loads r51.Caps)).Domains).bind fun r53 =>
          (law18_perform_x fuel p r42 l).bind fun rq64 =>
          grd (0 ≤ many ∧ many ≤ (l.length : Int)) <|
          (law18_perform_x fuel (GProblem.mk p.Domains (GRules.mk r51.Pairs r51.Loads r51.Caps)) r53 (l.take many.toNat)).bind fun rq69 =>
          (bif !rq64.2 then
            some true
            else
            joinK (fun (_ : Unit) =>
              some ((((decide ((rq64.1.length : Int) = (p.Domains.length : Int))) && (!(!rq69.2))) && (decide ((stRem (GProblem.mk p.Domains (GRules.mk r51.Pairs r51.Loads r51.Caps)) rq69) ≤ (stRem p rq64)))) || false))
            (fun k11 =>
              iterK (fun (i_13 : Nat) (next12 : Unit → Option Bool) (_ : Unit) =>
                iterK (fun (k_16 : Nat) (next15 : Unit → Option Bool) (_ : Unit) =>
                  (bif !(stHas rq69 (GChoice.mk ((nth rq64.1 i_13).Station) (nth ((nth rq64.1 i_13).Channels) k_16))) then
                    some false
                    else
                    next15 ()))
                (fun (_ : Unit) =>
                  next12 ()) ((((nth rq64.1 i_13).Channels).length) - 0) 0 ())
              (fun (_ : Unit) =>
                k11 ()) (rq64.1.length - 0) 0 ()))
          else
          some false)
        else
        (law18_fewer_x p.Rules at_).bind fun r51 =>
        (bif okG (GProblem.mk p.Domains (GRules.mk r51.Pairs r51.Loads r51.Caps)) then
          (ref18_Propagate_x fuel (GProblem.mk p.Domains (GRules.mk r51.Pairs r51.Loads r51.Caps)) (GProblem.mk p.Domains (GRules.mk r51.Pairs r51.Loads r51.Caps)).Domains).bind fun r53 =>
          some false
          else
          some false))))
  (fun k2 =>
    (bif !r17 then
      k2 true
      else
      (bif decide (10 < (l.length : Int)) then
        k2 true
        else
        (ref17_Valid_x p).bind fun r26 =>
        (bif !r26 then
          k2 true
          else
          (bif decide (many < 0) then
            k2 true
            else
            k2 (decide ((l.length : Int) < many)))))))
theorem law18_PropagateGrows_c (F0 : Frz) (w : World) (hF0 : F0.At w) (p : GProblem) (vp_0 : Value) (cp_0 : List (List Value)) (hp_0 : SlD GDomain.rep F0 vp_0 2 cp_0 p.Domains) (vp_1 : Value) (hp_1 : SlC F0 vp_1 5 (p.Rules.Pairs.map GPair.enc)) (vp_2 : Value) (hp_2 : SlC F0 vp_2 5 (p.Rules.Loads.map GLoad.enc)) (vp_3 : Value) (hp_3 : SlC F0 vp_3 4 (p.Rules.Caps.map GCap.enc)) (l : List GAct) (vl : Value) (hl : SlC F0 vl 3 (l.map GAct.enc)) (at_ : Int) (many : Int) (htab : Tab w) (fuel : Nat) (hfu : 100000 ≤ fuel) (r : Bool) (hr : law18_PropagateGrows_x fuel p l at_ many = some r) : Calls Tryd.prog 7 #[.agg [vp_0, vp_1, vp_2, vp_3].toArray, vl, .int .i64 at_, .int .i64 many] w fun e w' => e = .returned (.bool r) ∧ Below w.heap.size w w' := by
  have hk := hr; unfold law18_PropagateGrows_x at hk; haveI := hp_0.1.oneC; haveI := hp_1.oneC; haveI := hp_2.oneC; haveI := hp_3.oneC; haveI := hl.oneC; obtain ⟨S0, F1, rfl, hS0, hp0⟩ := startF_ex hF0; refine calls_T (M := fun _ => False) (hs := [.fr F1]) Tryd.func7 rfl rfl rfl hp0 ?_; refine T.seq (T.region ?_); refine TL.e (Ew.boxA rfl rfl) ?_; rintro _ _ ⟨g4, rfl, rfl⟩; refine TL.run 1 rfl ?_; refine TL.nil (K.seq (T.seq (T.seq ?_))); have hq := bind_open hk; clear hk; obtain ⟨r17, hr17, hk⟩ := hq; (try dsimp only at hk); have hq := joinK_open hk; clear hk; obtain ⟨k2, hk2, hk⟩ := hq; (try dsimp only at hk); refine T.cutXK (ι := Bool) (fun z => [(1, vl), (2, .int .i64 at_), (3, .int .i64 many), (4, .pointer (some ⟨g4, 0, none⟩)), (38, .bool z)]) (fun z => [.row g4 29 [vp_0, vp_1, vp_2, vp_3], .fr F1]) (fun z => k2 z = some r) ?_ ?_
  · refine T.region ?_; refine TL.y (Yv.loadAO 0 rfl rfl rfl rfl) ?_; refine TL.e (Ew.callD rfl rfl rfl (fun w hw => ref17_Small_c _ w (hw.fr (i := 1) rfl) p vp_0 cp_0 hp_0 vp_1 hp_1 vp_2 hp_2 vp_3 hp_3 10 40 fuel r17 hr17)) ?_; rintro _ _ ⟨rfl, rfl⟩; refine TL.run 2 rfl ?_; refine TL.gs rfl rfl rfl (fun h3 => ?_) (fun h3 => ?_)
    · have p3 := h3; (try simp only [nfB] at p3); replace hk := condT_open hk h3; refine TL.run 19 rfl ?_; refine TL.nil ?_; exact K.atX true hk (.c (.c (.c (.c (.c .nil))))) (List.Sublist.refl _)
    · have p3 := h3; (try simp only [nfB] at p3); replace hk := condF_open hk h3; refine TL.run 1 rfl ?_; refine TL.y (Yv.lenR rfl rfl hl (List.length_map _)) ?_; have hm21 : l.length ≤ 9223372036854775807 := (List.length_map _) ▸ hl.max; refine TL.run 3 rfl ?_; refine TL.gs rfl rfl rfl (fun h4 => ?_) (fun h4 => ?_)
      · have p4 := of_decide_eq_true h4; replace hk := condT_open hk h4; refine TL.run 14 rfl ?_; refine TL.nil ?_; exact K.atX true hk (.c (.c (.c (.c (.c .nil))))) (List.Sublist.refl _)
      · have p4 := of_decide_eq_false h4; replace hk := condF_open hk h4; refine TL.y (Yv.loadAO 0 rfl rfl rfl rfl) ?_; have hq := bind_open hk; clear hk; obtain ⟨r26, hr26, hk⟩ := hq; refine TL.e (Ew.callD rfl rfl rfl (fun w hw => ref17_Valid_c _ w (hw.fr (i := 1) rfl) p vp_0 cp_0 hp_0 vp_1 hp_1 vp_2 hp_2 vp_3 hp_3 r26 hr26)) ?_; rintro _ _ ⟨rfl, rfl⟩; refine TL.run 3 rfl ?_; refine TL.gs rfl rfl rfl (fun h5 => ?_) (fun h5 => ?_)
        · have p5 := h5; (try simp only [nfB] at p5); replace hk := condT_open hk h5; refine TL.run 9 rfl ?_; refine TL.nil ?_; exact K.atX true hk (.c (.c (.c (.c (.c .nil))))) (List.Sublist.refl _)
        · have p5 := h5; (try simp only [nfB] at p5); replace hk := condF_open hk h5; refine TL.run 4 rfl ?_; refine TL.gs rfl rfl rfl (fun h6 => ?_) (fun h6 => ?_)
          · have p6 := of_decide_eq_true h6; replace hk := condT_open hk h6; refine TL.run 5 rfl ?_; refine TL.nil ?_; exact K.atX true hk (.c (.c (.c (.c (.c .nil))))) (List.Sublist.refl _)
          · have p6 := of_decide_eq_false h6; replace hk := condF_open hk h6; refine TL.run 2 rfl ?_; refine TL.y (Yv.lenR rfl rfl hl (List.length_map _)) ?_; refine TL.run 2 rfl ?_; refine TL.nil ?_; exact K.atX (decide ((l.length : Int) < many)) hk (.c (.c (.c (.c (.c .nil))))) (List.Sublist.refl _)
  · rintro x_1 hk; rw [← hk2] at hk; (try dsimp only at hk); refine T.cond rfl (fun h7 => ?_) (fun h7 => ?_)
    · have p7 := h7; (try simp only [nfB] at p7); replace hk := condT_open hk h7; refine T.seq (T.region ?_); refine TL.e (Ew.callD rfl rfl rfl (fun w hw => known_ret w (htab.keptF hw))) ?_; rintro _ _ ⟨rfl, rfl⟩; refine TL.run 1 rfl ?_; refine TL.nil (K.seq (T.ret (K.then_ret ?_))); obtain rfl := Option.some.inj hk; exact K.ret1 rfl rfl (fun w' hw => ⟨rfl, hw.isBelow⟩)
    · have p7 := h7; (try simp only [nfB] at p7); replace hk := condF_open hk h7; refine T.skip (K.seq (T.seq ?_)); refine T.splitB (okG p) (fun h8 => ?_) (fun h8 => ?_)
      · replace hk := condT_open hk h8; have hq := bind_open hk; clear hk; obtain ⟨r42, hr42, hk⟩ := hq; (try dsimp only at hk); refine T.region ?_; refine TL.y (Yv.loadAO 0 rfl rfl rfl rfl) ?_; refine TL.e (Ew.callH rfl rfl rfl (fun w hw => st_new (p := p) (hw.fr (i := 1) rfl) ⟨hp_0, hp_1, hp_2, hp_3⟩ (htab.keptF hw) h8 hfu hr42)) ?_; rintro _ _ ⟨⟨k42_, L42_⟩, hs42, rfl, rfl⟩; dsimp only [List.cons_append, List.nil_append]; dsimp only at hs42; refine TL.run 5 rfl ?_; refine TL.nil (K.seq (T.seq ?_)); have hq := bind_open hk; clear hk; obtain ⟨r51, hr51, hk⟩ := hq; (try dsimp only at hk); refine T.splitB (okG (GProblem.mk p.Domains (GRules.mk r51.Pairs r51.Loads r51.Caps))) (fun h9 => ?_) (fun h9 => ?_)
        · replace hk := condT_open hk h9; have hq := bind_open hk; clear hk; obtain ⟨r53, hr53, hk⟩ := hq; (try dsimp only at hk); refine T.draw (.still 0 (.still 1 (.still 2 (.still 3 (.still 4 (.eff 5 (.still 6 (.eff 7 (.still 8 (.still 9 (.still 10 (.still 11 (.still 12 .done))))))))))))) _ (by kernel_rfl) (List.Sublist.refl _) ?_; refine TS.y rfl (Yv.fieldAddr rfl rfl) ?_; refine TS.y rfl (Yv.loadO 1 rfl rfl rfl rfl) ?_; refine TS.y rfl (Yv.fieldAddr rfl rfl) ?_; refine TS.y rfl (Yv.loadAP 1 (m := [vp_1, vp_2, vp_3]) rfl rfl rfl rfl rfl) ?_; refine TS.run 1 rfl ?_; refine TS.eff ?_; refine TSo.ewG rfl (Wt.none rfl) rfl rfl (Ew.callR 2 rfl rfl rfl rfl (fun w hw hF => law18_fewer_c _ w hF p.Rules vp_1 hp_1 vp_2 hp_2 vp_3 hp_3 at_ r51 hr51)) ?_; rintro _ _ ⟨⟨v51_0_0, v51_0_1, v51_0_2⟩, F2, le1_2, ⟨hf51_0_0, hf51_0_1, hf51_0_2⟩, rfl, rfl⟩; dsimp only at hf51_0_0 hf51_0_1 hf51_0_2 ⊢; haveI := hf51_0_0.oneC; haveI := hf51_0_1.oneC; haveI := hf51_0_2.oneC; refine ⟨(fun w hw => (hw.frLe (i := 2) rfl le1_2).sub (by repeat first | exact S0 | exact S1 | refine S2 ?_ | refine S3 ?_)), ?_⟩; refine TS.y rfl (Yv.build rfl rfl) ?_; refine TS.eff ?_; refine TSo.ewG rfl (Wt.none rfl) rfl rfl (Ew.callH rfl rfl rfl (fun w hw => st_new (p := (GProblem.mk p.Domains (GRules.mk r51.Pairs r51.Loads r51.Caps))) (hw.fr (i := 2) rfl) ⟨(SlD.mono (rep := GDomain.rep) (fun _ _ _ _ => GDomain.mono) hp_0 le1_2), hf51_0_0, hf51_0_1, hf51_0_2⟩ (htab.keptF hw) h9 hfu hr53)) ?_; rintro _ _ ⟨⟨k53_, L53_⟩, hs53, rfl, rfl⟩; dsimp only [List.cons_append, List.nil_append]; dsimp only at hs53; refine ⟨(fun w hw => (hw.frLe (i := 3) rfl le1_2).sub (by repeat first | exact S0 | exact S1 | refine S2 ?_ | refine S3 ?_)), ?_⟩; refine TS.run 5 rfl ?_; refine TS.done ?_; refine K.seq (T.seq (T.seq ?_)); refine T.cutXK (ι := Unit) (fun z => [(1, vl), (3, .int .i64 many), (4, .pointer (some ⟨g4, 0, none⟩)), (9, .pointer (some ⟨k42_.sp, 0, none⟩)), (11, .pointer (some ⟨k53_.sp, 0, none⟩)), (69, .bool false)]) (fun z => [stE k53_ L53_ (!r53.2), stE k42_ L42_ (!r42.2), .row g4 29 [vp_0, vp_1, vp_2, vp_3], .fr F2]) (fun z => True) ?_ ?_
          · refine T.region ?_; refine TL.run 1 rfl ?_; refine TL.y (Yv.eqNil (e := 69) (by kernel_rfl) rfl rfl rfl) ?_; refine TL.run 2 rfl ?_; refine TL.y (Yv.eqNil (e := 69) (by kernel_rfl) rfl rfl rfl) ?_; refine TL.run 9 rfl ?_; refine TL.nil ?_; exact K.atX () trivial (.c (.c (.c (.c (.c (.c .nil)))))) (List.Sublist.refl _)
          · rintro _ _; refine T.condF rfl rfl ?_; refine T.skip (K.seq (T.seq ?_)); have hq := bind_open hk; clear hk; obtain ⟨rq64, hrq64, hk⟩ := hq; (try dsimp only at hk); refine T.region ?_; refine TL.run 2 rfl ?_; refine TL.e (Ew.callM 1 rfl rfl rfl rfl (fun w hw => law18_perform_c _ w (hw.fr (i := 3) rfl) _ _ _ _ hs42 (hw.get (i := 1) rfl) (hw.apartF (i := 1) (j := 3) rfl rfl (by decide)) (hw.not0 (i := 1) rfl htab) l vl (SlC.mono hl le1_2) (htab.keptF hw) fuel hfu rq64 hrq64)) ?_; rintro _ _ ⟨Lq64_, hsq64, rfl, rfl⟩; refine TL.nil (K.seq (T.seq ?_)); have hq : (0 ≤ many ∧ many ≤ (l.length : Int)) ∧ _ := grd_some hk; clear hk; obtain ⟨g76h, hk⟩ := hq; have hq := bind_open hk; clear hk; obtain ⟨rq69, hrq69, hk⟩ := hq; (try dsimp only at hk); refine T.region ?_; refine TL.run 3 rfl ?_; refine TL.y (Yv.slRh (i := many.toNat) rfl rfl rfl (SlC.mono hl le1_2) (List.length_map _) (by omega) (by omega)) ?_; have hs76_ : SlC F1.toFrz (sliceV vl 0 many.toNat 3) 3 ((l.take many.toNat).map GAct.enc) := hl.sliceh (i := many.toNat) (by omega); haveI := hs76_.oneC; refine TL.e (Ew.callM 0 rfl rfl rfl rfl (fun w hw => law18_perform_c _ w (hw.fr (i := 3) rfl) _ _ _ _ hs53 (hw.get (i := 0) rfl) (hw.apartF (i := 0) (j := 3) rfl rfl (by decide)) (hw.not0 (i := 0) rfl htab) (l.take many.toNat) (sliceV vl 0 many.toNat 3) (SlC.mono hs76_ le1_2) (htab.keptF hw) fuel hfu rq69 hrq69)) ?_; rintro _ _ ⟨Lq69_, hsq69, rfl, rfl⟩; refine TL.nil (K.seq (T.seq (T.seq (T.region ?_)))); refine TL.run 1 rfl ?_; refine TL.e (Ew.callD rfl rfl rfl (fun w hw => st_conflict hsq64 (hw.get (i := 1) rfl) (htab.keptF hw))) ?_; rintro _ _ ⟨rfl, rfl⟩; refine TL.nil (K.seq ?_); refine T.cond rfl (fun h10 => ?_) (fun h10 => ?_)
            · have p10 := h10; (try simp only [nfB] at p10); replace hk := condT_open hk h10; refine T.seq (T.region ?_); refine TL.e (Ew.callD rfl rfl rfl (fun w hw => known_ret w (htab.keptF hw))) ?_; rintro _ _ ⟨rfl, rfl⟩; refine TL.run 1 rfl ?_; refine TL.nil (K.seq (T.ret (K.then_ret ?_))); obtain rfl := Option.some.inj hk; exact K.ret1 rfl rfl (fun w' hw => ⟨rfl, hw.isBelow⟩)
            · have p10 := h10; (try simp only [nfB] at p10); replace hk := condF_open hk h10; refine T.skip (K.seq (T.seq (T.region ?_))); refine TL.run 1 rfl ?_; refine TL.e (Ew.callR 3 rfl rfl rfl rfl (fun w hw hF => st_domains hF hsq64 (hw.get (i := 1) rfl) (htab.keptF hw))) ?_; rintro _ _ ⟨⟨v82_, c82_⟩, F3, le2_3, hf82, hq, rfl⟩; obtain rfl := hq.symm; dsimp only at hf82 ⊢; have le1_3 := le1_2.trans le2_3; haveI := hf82.1.oneC; refine TL.run 1 rfl ?_; refine TL.nil (K.seq (T.seq (T.seq (T.region ?_)))); refine TL.run 1 rfl ?_; refine TL.nil (K.seq ?_); have hq := joinK_open hk; clear hk; obtain ⟨k11, hk11, hk⟩ := hq; (try dsimp only at hk); refine T.cutXK (ι := Unit) (fun z => [(4, .pointer (some ⟨g4, 0, none⟩)), (9, .pointer (some ⟨k42_.sp, 0, none⟩)), (11, .pointer (some ⟨k53_.sp, 0, none⟩)), (13, v82_)]) (fun z => [stE k53_ Lq69_ (!rq69.2), stE k42_ Lq64_ (!rq64.2), .row g4 29 [vp_0, vp_1, vp_2, vp_3], .fr F3]) (fun z => k11 () = some r) ?_ ?_
              · have hq := iterK_open hk; clear hk; obtain ⟨f12, kk12, hf12, hkk12, hk⟩ := hq; refine T.block ?_; refine T.loop (ι := Nat) (fun z => [(4, .pointer (some ⟨g4, 0, none⟩)), (9, .pointer (some ⟨k42_.sp, 0, none⟩)), (11, .pointer (some ⟨k53_.sp, 0, none⟩)), (13, v82_), (14, .int .i64 (z : Int))]) (fun z => [stE k53_ Lq69_ (!rq69.2), stE k42_ Lq64_ (!rq64.2), .row g4 29 [vp_0, vp_1, vp_2, vp_3], .fr F3]) (fun z => iterK f12 kk12 (rq64.1.length - z) z () = some r) (fun z => rq64.1.length - z) 0 ?_ ?_ ?_ ?_
                · exact hk
                · exact (.c (.c (.c (.c (.c .nil)))))
                · exact List.Sublist.refl _
                · rintro i_13 hk; refine T.seq (T.seq (T.region ?_)); refine TL.run 2 rfl ?_; refine TL.y (Yv.lenR rfl rfl hf82.1 hf82.2.1) ?_; have hm85 : rq64.1.length ≤ 9223372036854775807 := hf82.2.1 ▸ hf82.1.max; refine TL.run 1 rfl ?_; refine TL.nil (K.seq ?_); refine T.cond rfl (fun h14 => ?_) (fun h14 => ?_)
                  · have p14 := of_decide_eq_true h14; rw [iterK_lt (by omega)] at hk; generalize hn12 : iterK f12 kk12 (rq64.1.length - (i_13 + 1)) (i_13 + 1) = next12 at hk; rw [← hf12] at hk; (try dsimp only at hk); refine T.skip (K.seq (T.seq (T.block (T.seq (T.region ?_))))); refine TL.run 1 rfl ?_; refine TL.nil (K.seq ?_); have hq := iterK_open hk; clear hk; obtain ⟨f15, kk15, hf15, hkk15, hk⟩ := hq; refine T.block ?_; refine T.loop (ι := Nat) (fun z => [(4, .pointer (some ⟨g4, 0, none⟩)), (9, .pointer (some ⟨k42_.sp, 0, none⟩)), (11, .pointer (some ⟨k53_.sp, 0, none⟩)), (13, v82_), (14, .int .i64 (i_13 : Int)), (15, .int .i64 (z : Int))]) (fun z => [stE k53_ Lq69_ (!rq69.2), stE k42_ Lq64_ (!rq64.2), .row g4 29 [vp_0, vp_1, vp_2, vp_3], .fr F3]) (fun z => iterK f15 kk15 ((((nth rq64.1 i_13).Channels).length) - z) z () = some r) (fun z => (((nth rq64.1 i_13).Channels).length) - z) 0 ?_ ?_ ?_ ?_
                    · exact hk
                    · exact (.c (.c (.c (.c (.c (.c .nil))))))
                    · exact List.Sublist.refl _
                    · rintro k_16 hk; refine T.seq (T.seq (T.region ?_)); refine TL.run 3 rfl ?_; refine TL.y (Yv.idxR (i := i_13) rfl rfl rfl hf82.1 hf82.2.1 rfl (by omega)) ?_; refine TL.y (Yv.fldR rfl rfl hf82.1 hf82.2.1 (by omega)) ?_; refine TL.y (Yv.loadR 3 (i := i_13) (j := 1) rfl rfl rfl hf82.1 hf82.2.1 (by omega) rfl (GDomain.c1 (hf82.2.2 i_13 (by omega))).1) ?_; have hd94_1 := (GDomain.c1 (hf82.2.2 i_13 (by omega))).2; haveI := hd94_1.oneC; refine TL.y (Yv.lenR rfl rfl hd94_1 (List.length_map _)) ?_; have hm95 : ((nth rq64.1 i_13).Channels).length ≤ 9223372036854775807 := (List.length_map _) ▸ hd94_1.max; refine TL.run 1 rfl ?_; refine TL.nil (K.seq ?_); refine T.cond rfl (fun h17 => ?_) (fun h17 => ?_)
                      · have p17 := of_decide_eq_true h17; rw [iterK_lt (by omega)] at hk; generalize hn15 : iterK f15 kk15 ((((nth rq64.1 i_13).Channels).length) - (k_16 + 1)) (k_16 + 1) = next15 at hk; rw [← hf15] at hk; (try dsimp only at hk); refine T.skip (K.seq (T.seq (T.block (T.seq ?_)))); refine T.draw (.still 0 (.still 1 (.still 2 (.still 3 (.still 4 (.still 5 (.still 6 (.still 7 (.still 8 (.still 9 (.still 10 (.still 11 (.still 12 (.still 13 (.still 14 (.eff 15 (.still 16 .done))))))))))))))))) _ (by kernel_rfl) (List.Sublist.refl _) ?_; refine TS.run 3 rfl ?_; refine TS.y rfl (Yv.idxR (i := i_13) rfl rfl rfl hf82.1 hf82.2.1 rfl (by omega)) ?_; refine TS.y rfl (Yv.fldR rfl rfl hf82.1 hf82.2.1 (by omega)) ?_; refine TS.y rfl (Yv.loadR 3 (i := i_13) (j := 0) rfl rfl rfl hf82.1 hf82.2.1 (by omega) rfl (GDomain.c0 (hf82.2.2 i_13 (by omega)))) ?_; refine TS.run 2 rfl ?_; refine TS.y rfl (Yv.idxR (i := i_13) rfl rfl rfl hf82.1 hf82.2.1 rfl (by omega)) ?_; refine TS.y rfl (Yv.fldR rfl rfl hf82.1 hf82.2.1 (by omega)) ?_; refine TS.y rfl (Yv.loadR 3 (i := i_13) (j := 1) rfl rfl rfl hf82.1 hf82.2.1 (by omega) rfl (GDomain.c1 (hf82.2.2 i_13 (by omega))).1) ?_; refine TS.run 1 rfl ?_; refine TS.y rfl (Yv.idxR (i := k_16) rfl rfl rfl hd94_1 (List.length_map _) rfl (by omega)) ?_; refine TS.y rfl (Yv.loadRF 3 (i := k_16) (j := 0) rfl rfl rfl hd94_1 (by omega) rfl rfl) ?_; refine TS.y rfl (Yv.build rfl rfl) ?_; refine TS.eff ?_; refine TSo.ewG rfl (Wt.none rfl) rfl rfl (Ew.callD rfl rfl rfl (fun w hw => st_has hsq69 (hw.get (i := 0) rfl) (htab.keptF hw) (GChoice.mk ((nth rq64.1 i_13).Station) (nth ((nth rq64.1 i_13).Channels) k_16)))) ?_; rintro _ _ ⟨rfl, rfl⟩; refine ⟨(fun w hw => hw.sub (by repeat first | exact S0 | exact S1 | refine S2 ?_ | refine S3 ?_)), ?_⟩; refine TS.run 1 rfl ?_; refine TS.done ?_; refine K.seq ?_; refine T.cond rfl (fun h18 => ?_) (fun h18 => ?_)
                        · have p18 := h18; (try simp only [nfB] at p18); replace hk := condT_open hk h18; refine T.seq (T.region ?_); refine TL.run 1 rfl ?_; refine TL.nil (K.seq (T.ret (K.blk_ret (K.then_ret (K.then_ret (K.blk_ret (K.blk_ret (K.then_ret (K.then_ret (K.blk_ret (K.then_ret ?_))))))))))); obtain rfl := Option.some.inj hk; exact K.ret1 rfl rfl (fun w' hw => ⟨rfl, hw.isBelow⟩)
                        · have p18 := h18; (try simp only [nfB] at p18); replace hk := condF_open hk h18; refine T.skip (K.blk_normal (K.seq (T.region ?_))); refine TL.run 1 rfl ?_; refine TL.y (Yv.addI rfl rfl rfl (by omega)) ?_; refine TL.run 1 rfl ?_; refine TL.nil ?_; rw [← hn15] at hk; exact K.next (k_16 + 1) hk (by omega) (.c (.c (.c (.c (.c (.c .nil)))))) (List.Sublist.refl _)
                      · have p17 := of_decide_eq_false h17; rw [iterK_ge (by omega), ← hkk15] at hk; (try dsimp only at hk); refine T.exit (K.then_exit (K.then_exit (K.blk_exit_eq (K.blk_normal (K.seq (T.region ?_)))))); refine TL.run 1 rfl ?_; refine TL.y (Yv.addI rfl rfl rfl (by omega)) ?_; refine TL.run 1 rfl ?_; refine TL.nil ?_; rw [← hn12] at hk; exact K.next (i_13 + 1) hk (by omega) (.c (.c (.c (.c (.c .nil))))) (List.Sublist.refl _)
                  · have p14 := of_decide_eq_false h14; rw [iterK_ge (by omega), ← hkk12] at hk; (try dsimp only at hk); refine T.exit (K.then_exit (K.then_exit (K.blk_exit_eq ?_))); exact K.atX () hk (.c (.c (.c (.c .nil)))) (List.Sublist.refl _)
              · rintro _ hk; rw [← hk11] at hk; (try dsimp only at hk); refine T.seq ?_; refine T.cutXK (ι := Unit) (fun z => [(8, .bool ((((decide ((rq64.1.length : Int) = (p.Domains.length : Int))) && (!(!rq69.2))) && (decide ((stRem (GProblem.mk p.Domains (GRules.mk r51.Pairs r51.Loads r51.Caps)) rq69) ≤ (stRem p rq64)))) || false))]) (fun z => [stE k53_ Lq69_ (!rq69.2), stE k42_ Lq64_ (!rq64.2), .row g4 29 [vp_0, vp_1, vp_2, vp_3], .fr F3]) (fun z => True) ?_ ?_
                · refine T.region ?_; refine TL.run 1 rfl ?_; refine TL.y (Yv.lenR rfl rfl hf82.1 hf82.2.1) ?_; have hm117 : rq64.1.length ≤ 9223372036854775807 := hf82.2.1 ▸ hf82.1.max; refine TL.y (Yv.fieldAddr rfl rfl) ?_; refine TL.y (Yv.loadO 2 rfl rfl rfl rfl) ?_; refine TL.y (Yv.lenR rfl rfl (SlD.mono (rep := GDomain.rep) (fun _ _ _ _ => GDomain.mono) hp_0 le1_3).1 (SlD.mono (rep := GDomain.rep) (fun _ _ _ _ => GDomain.mono) hp_0 le1_3).2.1) ?_; have hm120 : p.Domains.length ≤ 9223372036854775807 := (SlD.mono (rep := GDomain.rep) (fun _ _ _ _ => GDomain.mono) hp_0 le1_3).2.1 ▸ (SlD.mono (rep := GDomain.rep) (fun _ _ _ _ => GDomain.mono) hp_0 le1_3).1.max; refine TL.run 2 rfl ?_; refine TL.gs rfl rfl rfl (fun h19 => ?_) (fun h19 => ?_)
                  · have p19 := of_decide_eq_true h19; refine TL.run 1 rfl ?_; refine TL.e (Ew.callD rfl rfl rfl (fun w hw => st_conflict hsq69 (hw.get (i := 0) rfl) (htab.keptF hw))) ?_; rintro _ _ ⟨rfl, rfl⟩; refine TL.run 3 rfl ?_; refine TL.gs rfl rfl rfl (fun h20 => ?_) (fun h20 => ?_)
                    · have p20 := h20; (try simp only [nfB] at p20); refine TL.run 1 rfl ?_; refine TL.e (Ew.callD rfl rfl rfl (fun w hw => st_removed hsq69 (hw.get (i := 0) rfl) (htab.keptF hw))) ?_; rintro _ _ ⟨rfl, rfl⟩; refine TL.run 1 rfl ?_; refine TL.e (Ew.callD rfl rfl rfl (fun w hw => st_removed hsq64 (hw.get (i := 1) rfl) (htab.keptF hw))) ?_; rintro _ _ ⟨rfl, rfl⟩; refine TL.run 3 rfl ?_; refine TL.gs rfl rfl rfl (fun h21 => ?_) (fun h21 => ?_)
                      · have p21 := of_decide_eq_true h21; refine TL.e (Ew.callD rfl rfl rfl (fun w hw => known_ret w (htab.keptF hw))) ?_; rintro _ _ ⟨rfl, rfl⟩; refine TL.run 2 rfl ?_; refine TL.nil ?_; exact K.atX () trivial (.b (or_tt (and_tx (and_tx h19 h20) h21)).symm .nil) (List.Sublist.refl _)
                      · have p21 := of_decide_eq_false h21; refine TL.run 3 rfl ?_; refine TL.nil ?_; exact K.atX () trivial (.b (or_fx (and_tx (and_tx h19 h20) h21) rfl).symm .nil) (List.Sublist.refl _)
                    · have p20 := h20; (try simp only [nfB] at p20); refine TL.run 10 rfl ?_; refine TL.nil ?_; exact K.atX () trivial (.b (or_fx (and_ff (and_tx h19 h20)) rfl).symm .nil) (List.Sublist.refl _)
                  · have p19 := of_decide_eq_false h19; refine TL.run 15 rfl ?_; refine TL.nil ?_; exact K.atX () trivial (.b (or_fx (and_ff (and_ff h19)) rfl).symm .nil) (List.Sublist.refl _)
                · rintro _ _; refine T.ret ?_; obtain rfl := Option.some.inj hk; exact K.ret1 rfl rfl (fun w' hw => ⟨rfl, hw.isBelow⟩)
        · replace hk := condF_open hk h9; refine T.draw (.still 0 (.still 1 (.still 2 (.still 3 (.still 4 (.eff 5 (.still 6 (.eff 7 (.still 8 (.still 9 (.still 10 (.still 11 (.still 12 .done))))))))))))) _ (by kernel_rfl) (List.Sublist.refl _) ?_; refine TS.y rfl (Yv.fieldAddr rfl rfl) ?_; refine TS.y rfl (Yv.loadO 1 rfl rfl rfl rfl) ?_; refine TS.y rfl (Yv.fieldAddr rfl rfl) ?_; refine TS.y rfl (Yv.loadAP 1 (m := [vp_1, vp_2, vp_3]) rfl rfl rfl rfl rfl) ?_; refine TS.run 1 rfl ?_; refine TS.eff ?_; refine TSo.ewG rfl (Wt.none rfl) rfl rfl (Ew.callR 2 rfl rfl rfl rfl (fun w hw hF => law18_fewer_c _ w hF p.Rules vp_1 hp_1 vp_2 hp_2 vp_3 hp_3 at_ r51 hr51)) ?_; rintro _ _ ⟨⟨v51_0_0, v51_0_1, v51_0_2⟩, F4, le1_4, ⟨hf51_0_0, hf51_0_1, hf51_0_2⟩, rfl, rfl⟩; dsimp only at hf51_0_0 hf51_0_1 hf51_0_2 ⊢; haveI := hf51_0_0.oneC; haveI := hf51_0_1.oneC; haveI := hf51_0_2.oneC; refine ⟨(fun w hw => (hw.frLe (i := 2) rfl le1_4).sub (by repeat first | exact S0 | exact S1 | refine S2 ?_ | refine S3 ?_)), ?_⟩; refine TS.y rfl (Yv.build rfl rfl) ?_; refine TS.eff ?_; refine TSo.ewG rfl (Wt.none rfl) rfl rfl (Ew.callD rfl rfl rfl (fun w hw => st_newbad (p := (GProblem.mk p.Domains (GRules.mk r51.Pairs r51.Loads r51.Caps))) (hw.fr (i := 2) rfl) ⟨(SlD.mono (rep := GDomain.rep) (fun _ _ _ _ => GDomain.mono) hp_0 le1_4), hf51_0_0, hf51_0_1, hf51_0_2⟩ h9)) ?_; rintro _ _ ⟨rfl, rfl⟩; refine ⟨(fun w hw => (hw.frLe (i := 2) rfl le1_4).sub (by repeat first | exact S0 | exact S1 | refine S2 ?_ | refine S3 ?_)), ?_⟩; refine TS.run 5 rfl ?_; refine TS.done ?_; refine K.seq (T.seq (T.seq ?_)); refine T.cutXK (ι := Unit) (fun z => [(1, vl), (3, .int .i64 many), (4, .pointer (some ⟨g4, 0, none⟩)), (9, .pointer (some ⟨k42_.sp, 0, none⟩)), (11, .pointer none), (69, .bool true)]) (fun z => [stE k42_ L42_ (!r42.2), .row g4 29 [vp_0, vp_1, vp_2, vp_3], .fr F4]) (fun z => True) ?_ ?_
          · refine T.region ?_; refine TL.run 1 rfl ?_; refine TL.y (Yv.eqNil (e := 69) (by kernel_rfl) rfl rfl rfl) ?_; refine TL.run 2 rfl ?_; refine TL.y (Yv.eqNil (e := 69) (by kernel_rfl) rfl rfl rfl) ?_; refine TL.run 9 rfl ?_; refine TL.nil ?_; exact K.atX () trivial (.c (.c (.c (.c (.c (.c .nil)))))) (List.Sublist.refl _)
          · rintro _ _; refine T.condT rfl rfl ?_; refine T.seq (T.region ?_); refine TL.run 1 rfl ?_; refine TL.nil (K.seq (T.ret (K.then_ret ?_))); obtain rfl := Option.some.inj hk; exact K.ret1 rfl rfl (fun w' hw => ⟨rfl, hw.isBelow⟩)
      · replace hk := condF_open hk h8; refine T.region ?_; refine TL.y (Yv.loadAO 0 rfl rfl rfl rfl) ?_; refine TL.e (Ew.callD rfl rfl rfl (fun w hw => st_newbad (p := p) (hw.fr (i := 1) rfl) ⟨hp_0, hp_1, hp_2, hp_3⟩ h8)) ?_; rintro _ _ ⟨rfl, rfl⟩; refine TL.run 5 rfl ?_; refine TL.nil (K.seq (T.seq ?_)); have hq := bind_open hk; clear hk; obtain ⟨r51, hr51, hk⟩ := hq; (try dsimp only at hk); refine T.splitB (okG (GProblem.mk p.Domains (GRules.mk r51.Pairs r51.Loads r51.Caps))) (fun h22 => ?_) (fun h22 => ?_)
        · replace hk := condT_open hk h22; have hq := bind_open hk; clear hk; obtain ⟨r53, hr53, hk⟩ := hq; (try dsimp only at hk); refine T.draw (.still 0 (.still 1 (.still 2 (.still 3 (.still 4 (.eff 5 (.still 6 (.eff 7 (.still 8 (.still 9 (.still 10 (.still 11 (.still 12 .done))))))))))))) _ (by kernel_rfl) (List.Sublist.refl _) ?_; refine TS.y rfl (Yv.fieldAddr rfl rfl) ?_; refine TS.y rfl (Yv.loadO 0 rfl rfl rfl rfl) ?_; refine TS.y rfl (Yv.fieldAddr rfl rfl) ?_; refine TS.y rfl (Yv.loadAP 0 (m := [vp_1, vp_2, vp_3]) rfl rfl rfl rfl rfl) ?_; refine TS.run 1 rfl ?_; refine TS.eff ?_; refine TSo.ewG rfl (Wt.none rfl) rfl rfl (Ew.callR 1 rfl rfl rfl rfl (fun w hw hF => law18_fewer_c _ w hF p.Rules vp_1 hp_1 vp_2 hp_2 vp_3 hp_3 at_ r51 hr51)) ?_; rintro _ _ ⟨⟨v51_0_0, v51_0_1, v51_0_2⟩, F5, le1_5, ⟨hf51_0_0, hf51_0_1, hf51_0_2⟩, rfl, rfl⟩; dsimp only at hf51_0_0 hf51_0_1 hf51_0_2 ⊢; haveI := hf51_0_0.oneC; haveI := hf51_0_1.oneC; haveI := hf51_0_2.oneC; refine ⟨(fun w hw => (hw.frLe (i := 1) rfl le1_5).sub (by repeat first | exact S0 | exact S1 | refine S2 ?_ | refine S3 ?_)), ?_⟩; refine TS.y rfl (Yv.build rfl rfl) ?_; refine TS.eff ?_; refine TSo.ewG rfl (Wt.none rfl) rfl rfl (Ew.callH rfl rfl rfl (fun w hw => st_new (p := (GProblem.mk p.Domains (GRules.mk r51.Pairs r51.Loads r51.Caps))) (hw.fr (i := 1) rfl) ⟨(SlD.mono (rep := GDomain.rep) (fun _ _ _ _ => GDomain.mono) hp_0 le1_5), hf51_0_0, hf51_0_1, hf51_0_2⟩ (htab.keptF hw) h22 hfu hr53)) ?_; rintro _ _ ⟨⟨k53_, L53_⟩, hs53, rfl, rfl⟩; dsimp only [List.cons_append, List.nil_append]; dsimp only at hs53; refine ⟨(fun w hw => (hw.frLe (i := 2) rfl le1_5).sub (by repeat first | exact S0 | exact S1 | refine S2 ?_ | refine S3 ?_)), ?_⟩; refine TS.run 5 rfl ?_; refine TS.done ?_; refine K.seq (T.seq (T.seq ?_)); refine T.cutXK (ι := Unit) (fun z => [(1, vl), (3, .int .i64 many), (4, .pointer (some ⟨g4, 0, none⟩)), (9, .pointer none), (11, .pointer (some ⟨k53_.sp, 0, none⟩)), (69, .bool true)]) (fun z => [stE k53_ L53_ (!r53.2), .row g4 29 [vp_0, vp_1, vp_2, vp_3], .fr F5]) (fun z => True) ?_ ?_
          · refine T.region ?_; refine TL.run 1 rfl ?_; refine TL.y (Yv.eqNil (e := 69) (by kernel_rfl) rfl rfl rfl) ?_; refine TL.run 12 rfl ?_; refine TL.nil ?_; exact K.atX () trivial (.c (.c (.c (.c (.c (.c .nil)))))) (List.Sublist.refl _)
          · rintro _ _; refine T.condT rfl rfl ?_; refine T.seq (T.region ?_); refine TL.run 1 rfl ?_; refine TL.nil (K.seq (T.ret (K.then_ret ?_))); obtain rfl := Option.some.inj hk; exact K.ret1 rfl rfl (fun w' hw => ⟨rfl, hw.isBelow⟩)
        · replace hk := condF_open hk h22; refine T.draw (.still 0 (.still 1 (.still 2 (.still 3 (.still 4 (.eff 5 (.still 6 (.eff 7 (.still 8 (.still 9 (.still 10 (.still 11 (.still 12 .done))))))))))))) _ (by kernel_rfl) (List.Sublist.refl _) ?_; refine TS.y rfl (Yv.fieldAddr rfl rfl) ?_; refine TS.y rfl (Yv.loadO 0 rfl rfl rfl rfl) ?_; refine TS.y rfl (Yv.fieldAddr rfl rfl) ?_; refine TS.y rfl (Yv.loadAP 0 (m := [vp_1, vp_2, vp_3]) rfl rfl rfl rfl rfl) ?_; refine TS.run 1 rfl ?_; refine TS.eff ?_; refine TSo.ewG rfl (Wt.none rfl) rfl rfl (Ew.callR 1 rfl rfl rfl rfl (fun w hw hF => law18_fewer_c _ w hF p.Rules vp_1 hp_1 vp_2 hp_2 vp_3 hp_3 at_ r51 hr51)) ?_; rintro _ _ ⟨⟨v51_0_0, v51_0_1, v51_0_2⟩, F6, le1_6, ⟨hf51_0_0, hf51_0_1, hf51_0_2⟩, rfl, rfl⟩; dsimp only at hf51_0_0 hf51_0_1 hf51_0_2 ⊢; haveI := hf51_0_0.oneC; haveI := hf51_0_1.oneC; haveI := hf51_0_2.oneC; refine ⟨(fun w hw => (hw.frLe (i := 1) rfl le1_6).sub (by repeat first | exact S0 | exact S1 | refine S2 ?_ | refine S3 ?_)), ?_⟩; refine TS.y rfl (Yv.build rfl rfl) ?_; refine TS.eff ?_; refine TSo.ewG rfl (Wt.none rfl) rfl rfl (Ew.callD rfl rfl rfl (fun w hw => st_newbad (p := (GProblem.mk p.Domains (GRules.mk r51.Pairs r51.Loads r51.Caps))) (hw.fr (i := 1) rfl) ⟨(SlD.mono (rep := GDomain.rep) (fun _ _ _ _ => GDomain.mono) hp_0 le1_6), hf51_0_0, hf51_0_1, hf51_0_2⟩ h22)) ?_; rintro _ _ ⟨rfl, rfl⟩; refine ⟨(fun w hw => (hw.frLe (i := 1) rfl le1_6).sub (by repeat first | exact S0 | exact S1 | refine S2 ?_ | refine S3 ?_)), ?_⟩; refine TS.run 5 rfl ?_; refine TS.done ?_; refine K.seq (T.seq (T.seq ?_)); refine T.cutXK (ι := Unit) (fun z => [(1, vl), (3, .int .i64 many), (4, .pointer (some ⟨g4, 0, none⟩)), (9, .pointer none), (11, .pointer none), (69, .bool true)]) (fun z => [.row g4 29 [vp_0, vp_1, vp_2, vp_3], .fr F6]) (fun z => True) ?_ ?_
          · refine T.region ?_; refine TL.run 1 rfl ?_; refine TL.y (Yv.eqNil (e := 69) (by kernel_rfl) rfl rfl rfl) ?_; refine TL.run 12 rfl ?_; refine TL.nil ?_; exact K.atX () trivial (.c (.c (.c (.c (.c (.c .nil)))))) (List.Sublist.refl _)
          · rintro _ _; refine T.condT rfl rfl ?_; refine T.seq (T.region ?_); refine TL.run 1 rfl ?_; refine TL.nil (K.seq (T.ret (K.then_ret ?_))); obtain rfl := Option.some.inj hk; exact K.ret1 rfl rfl (fun w' hw => ⟨rfl, hw.isBelow⟩)
end Go.Proofs.YtljgejbmimapdaaDoor
namespace Go.Proofs.YtljgejbmimapdaaDoor
open Go.RowKit
def skipN {α : Type} [Inhabited α] (l : List α) (a : Int) (n : Nat) : List α := ((List.range n).filter fun j : Nat => decide (¬ (j : Int) = a)).map (nth l)
theorem skipN_succ {α : Type} [Inhabited α] {l : List α} {a : Int} {n : Nat} : skipN l a (n + 1) = skipN l a n ++ (if (n : Int) = a then [] else [nth l n]) := by
  unfold skipN; rw [List.range_succ, List.filter_append, List.map_append]
  congr 1
  by_cases h : (n : Int) = a <;> simp [h]
theorem skipN_len {α : Type} [Inhabited α] {l : List α} {a : Int} {n : Nat} : (skipN l a n).length ≤ n := by
  unfold skipN; rw [List.length_map]; have := List.length_filter_le (fun j : Nat => decide (¬ (j : Int) = a)) (List.range n)
  rwa [List.length_range] at this
theorem skipN_sub {α : Type} [Inhabited α] {l : List α} {a : Int} : (skipN l a l.length).Sublist l := by
  have h : (List.range l.length).map (nth l) = l := by
    refine ext_nth (by simp) fun i hi => ?_; simp at hi; rw [nth_mapG (by simpa using hi), nth_eq (xs := List.range l.length) (by simpa using hi)]; simp
  have h2 := (List.filter_sublist (p := fun j : Nat => decide (¬ (j : Int) = a)) (l := List.range l.length)).map (nth l); rw [h] at h2; exact h2
def fewG (r : GRules) (a : Int) : GRules := ⟨skipN r.Pairs a r.Pairs.length, skipN r.Loads a r.Loads.length, skipN r.Caps a r.Caps.length⟩
theorem fewer_x {r : GRules} {a : Int} (h1 : r.Pairs.length ≤ 4096) (h2 : r.Loads.length ≤ 1024) (h3 : r.Caps.length ≤ 1024) : law18_fewer_x r a = some (fewG r a) := by
  unfold law18_fewer_x; simp only [joinK, Nat.sub_zero]; refine iterK_inv (fun i s => s = (skipN r.Pairs a i, [], [])) (fun o => o = some (fewG r a)) rfl (fun s hs => ?_) (fun i s next hi hs hn => ?_)
  · subst hs; refine iterK_inv (fun i s => s = (skipN r.Pairs a r.Pairs.length, skipN r.Loads a i, [])) (fun o => o = some (fewG r a)) rfl (fun s hs => ?_) (fun i s next hi hs hn => ?_)
    · subst hs; refine iterK_inv (fun i s => s = (skipN r.Pairs a r.Pairs.length, skipN r.Loads a r.Loads.length, skipN r.Caps a i)) (fun o => o = some (fewG r a)) rfl (fun s hs => ?_) (fun i s next hi hs hn => ?_)
      · subst hs; rfl
      · subst hs; have hl := skipN_len (l := r.Caps) (a := a) (n := i); by_cases e : (i : Int) = a
        · rw [decide_eq_false (not_not_intro e), cond_false]; exact hn _ (by rw [skipN_succ, if_pos e, List.append_nil])
        · rw [decide_eq_true e, cond_true, grd_pos (by simp only [room, List.length_append, List.length_singleton]; omega)]; exact hn _ (by rw [skipN_succ, if_neg e])
    · subst hs; have hl := skipN_len (l := r.Loads) (a := a) (n := i); by_cases e : (i : Int) = a
      · rw [decide_eq_false (not_not_intro e), cond_false]; exact hn _ (by rw [skipN_succ, if_pos e, List.append_nil])
      · rw [decide_eq_true e, cond_true, grd_pos (by simp only [room, List.length_append, List.length_singleton]; omega)]; exact hn _ (by rw [skipN_succ, if_neg e])
  · subst hs; have hl := skipN_len (l := r.Pairs) (a := a) (n := i); by_cases e : (i : Int) = a
    · rw [decide_eq_false (not_not_intro e), cond_false]; exact hn _ (by rw [skipN_succ, if_pos e, List.append_nil])
    · rw [decide_eq_true e, cond_true, grd_pos (by simp only [room, List.length_append, List.length_singleton]; omega)]; exact hn _ (by rw [skipN_succ, if_neg e])
theorem incB_pairs {α : Type} [Inhabited α] {c : α → α → Int} (ht : ∀ x y z, c x y < 0 → c y z < 0 → c x z < 0) {l : List α} : incB c l = true ↔ l.Pairwise fun x y => c x y < 0 := by
  rw [incB_iff, List.pairwise_iff_getElem]; constructor
  · intro h i j hi hj hij
    have key : ∀ m, i + m + 1 < l.length → c (nth l i) (nth l (i + m + 1)) < 0 := by
      intro m
      induction m with
      | zero => intro hm; exact h i hm
      | succ m ih => intro hm; exact ht _ _ _ (ih (by omega)) (h (i + m + 1) (by omega))
    have := key (j - i - 1) (by omega); rw [show i + (j - i - 1) + 1 = j by omega, nth_eq hi, nth_eq hj] at this; exact this
  · intro h i hi; rw [nth_eq (by omega), nth_eq hi]; exact h i (i + 1) (by omega) hi (by omega)
theorem cmpI_cases (a b : Int) : (cmpI a b = -1 ∧ a < b) ∨ (cmpI a b = 0 ∧ a = b) ∨ (cmpI a b = 1 ∧ b < a) := by
  unfold cmpI
  split
  · exact .inl ⟨rfl, by assumption⟩
  · split
    · exact .inr (.inr ⟨rfl, by omega⟩)
    · exact .inr (.inl ⟨rfl, by omega⟩)
theorem orL_cons (a : Int) (l : List Int) : orL (a :: l) < 0 ↔ a < 0 ∨ (a = 0 ∧ orL l < 0) := by
  have e : orL (a :: l) = if a = 0 then orL l else a := rfl; rw [e]; by_cases h : a = 0
  · rw [if_pos h]; simp [h]
  · rw [if_neg h]; simp [h]
theorem orL_nil : ¬ orL [] < 0 := by unfold orL; simp
theorem cmp_lt {a b : Int} : cmpI a b < 0 ↔ a < b := by rcases cmpI_cases a b with h | h | h <;> omega
theorem cmp_eq {a b : Int} : cmpI a b = 0 ↔ a = b := by rcases cmpI_cases a b with h | h | h <;> omega
theorem Pr.trans (x y z : Pr) (h : Pr.cmp x y < 0) (k : Pr.cmp y z < 0) : Pr.cmp x z < 0 := by
  simp only [Pr.cmp, orL_cons, cmp_lt, cmp_eq, orL_nil, and_false, or_false] at h k ⊢; omega
theorem Ld.trans (x y z : Ld) (h : Ld.cmp x y < 0) (k : Ld.cmp y z < 0) : Ld.cmp x z < 0 := by
  simp only [Ld.cmp, orL_cons, cmp_lt, cmp_eq, orL_nil, and_false, or_false] at h k ⊢; omega
theorem Cp.trans (x y z : Cp) (h : Cp.cmp x y < 0) (k : Cp.cmp y z < 0) : Cp.cmp x z < 0 := by
  simp only [Cp.cmp, orL_cons, cmp_lt, cmp_eq, orL_nil, and_false, or_false] at h k ⊢; omega
structure SubR (q p : GRules) : Prop where
  ps : q.Pairs.Sublist p.Pairs
  ls : q.Loads.Sublist p.Loads
  cs : q.Caps.Sublist p.Caps
theorem fewG_sub (r : GRules) (a : Int) : SubR (fewG r a) r := ⟨skipN_sub, skipN_sub, skipN_sub⟩
section
variable {p q : GProblem}
theorem okG_few (hok : okG p = true) (hd : q.Domains = p.Domains) (h : SubR q.Rules p.Rules) : okG q = true := by
  unfold okG at hok ⊢; simp only [Pb.ok, Pb.rulesOk, Bool.and_eq_true, decide_eq_true_eq] at hok ⊢; obtain ⟨h1, ⟨h2, h3, h4, h5, h6, h7, h8, h9, h10⟩, h11, h12, h13, h14⟩ := hok; (have e1 : (pbG q).ds = (pbG p).ds := by unfold pbG; rw [hd]); have sp : (pbG q).ps.Sublist (pbG p).ps := h.ps.map _; have sl : (pbG q).ls.Sublist (pbG p).ls := h.ls.map _; have sc : (pbG q).cs.Sublist (pbG p).cs := h.cs.map _; (have hhas : ∀ i, (pbG q).has i = (pbG p).has i := fun i => by unfold Pb.has; rw [e1]); have all : ∀ {α : Type} [Inhabited α] {f : α → Bool} {a b : List α}, a.Sublist b → allB f b = true → allB f a = true := fun hs hb => allB_mem.2 fun x hx => allB_mem.1 hb x (hs.subset hx); have l1 := sp.length_le; have l2 := sl.length_le; have l3 := sc.length_le; refine ⟨by rw [e1]; exact h1, ⟨by omega, all sp h3, ?_, by omega, all sl h6, ?_, by omega, all sc h9, ?_⟩, by rw [e1]; exact h11, ?_, ?_, ?_⟩
  · exact (incB_pairs Pr.trans).2 (((incB_pairs Pr.trans).1 h4).sublist sp)
  · exact (incB_pairs Ld.trans).2 (((incB_pairs Ld.trans).1 h7).sublist sl)
  · exact (incB_pairs Cp.trans).2 (((incB_pairs Cp.trans).1 h10).sublist sc)
  · simp only [hhas]; exact all sp h12
  · simp only [hhas]; exact all sl h13
  · simp only [hhas]; exact all sc h14
theorem sum_few {d : List GDomain} {t c f : Int} : ∀ {l' l : List GLoad}, l'.Sublist l → (∀ x ∈ l, 0 ≤ x.Weight ∧ x.Weight ≤ 1073741824) → ∀ n n' : Int, 0 ≤ n → n ≤ n' → n' + 1073741824 * (l.length : Int) ≤ 4611686018427387904 →
    l'.foldl (fun n x => bif loadC d t c f x then wI (n + x.Weight) else n) n ≤ l.foldl (fun n x => bif loadC d t c f x then wI (n + x.Weight) else n) n' := by
  intro l' l h
  induction h with
  | slnil => intro _ n n' _ hn _; exact hn
  | cons x _ ih =>
    intro hw n n' h0 hn hb; have h1 := hw x (by simp); simp only [List.length_cons] at hb; rw [List.foldl_cons]; have e2 : wI (n' + x.Weight) = n' + x.Weight := wI_in (by omega); rw [e2]; refine ih (fun y hy => hw y (by simp [hy])) _ _ h0 ?_ ?_ <;> cases loadC d t c f x <;> simp <;> omega
  | cons_cons x _ ih =>
    intro hw n n' h0 hn hb; have h1 := hw x (by simp); simp only [List.length_cons] at hb; rw [List.foldl_cons, List.foldl_cons]; have e1 : wI (n + x.Weight) = n + x.Weight := wI_in (by omega); have e2 : wI (n' + x.Weight) = n' + x.Weight := wI_in (by omega); rw [e1, e2]; refine ih (fun y hy => hw y (by simp [hy])) _ _ ?_ ?_ ?_ <;> cases loadC d t c f x <;> simp <;> omega
theorem sumP_few (hp : WtP p) (h : SubR q.Rules p.Rules) {d : List GDomain} {t c f : Int} : sumP q d t c f ≤ sumP p d t c f := by
  unfold sumP; have := hp.1; exact sum_few h.ls hp.2 0 0 (by omega) (by omega) (by omega)
theorem overP_few (h : SubR q.Rules p.Rules) {s c l l' : Int} (hl : l ≤ l') (ho : overP q s c l = true) : overP p s c l' = true := by
  obtain ⟨x, hx, h1, h2⟩ := over_iff.1 ho; exact over_iff.2 ⟨x, h.cs.subset hx, h1, by omega⟩
theorem remP_few (hp : WtP p) (h : SubR q.Rules p.Rules) {d : List GDomain} {s c : Int} (hr : remP q d s c = true) : remP p d s c = true := by
  unfold remP at hr ⊢; simp only [Bool.or_eq_true, List.any_eq_true] at hr ⊢; rcases hr with (⟨x, hx, hr⟩ | hr) | ⟨x, hx, hr⟩
  · exact .inl (.inl ⟨x, h.ps.subset hx, hr⟩)
  · exact .inl (.inr (overP_few h (sumP_few hp h) hr))
  · refine .inr ⟨x, h.ls.subset hx, ?_⟩; unfold loadR at hr ⊢; simp only [Bool.and_eq_true] at hr ⊢; exact ⟨hr.1, overP_few h (sumP_few hp h) hr.2⟩
theorem closed_few (hp : WtP p) (h : SubR q.Rules p.Rules) {d : List GDomain} (hc : ClosedD p d) : ClosedD q d := ⟨hc.ne, fun x hx c hcx => by
  cases hr : remP q d x.Station c with
  | false => rfl
  | true => have := hc.calm x hx c hcx; rw [remP_few hp h hr] at this; cases this⟩
theorem sub_sublist {α : Type} [DecidableEq α] {a b l : List α} (ha : a.Sublist l) (hb : b.Sublist l) (hn : l.Nodup) (h : ∀ x ∈ a, x ∈ b) : a.Sublist b := by
  have e1 := sublist_filter ha hn; have e2 := sublist_filter hb hn
  have e3 : a = b.filter fun x => decide (x ∈ a) := by
    conv => lhs; rw [e1]
    conv => rhs; rw [e2, List.filter_filter]
    apply List.filter_congr; intro x hx; by_cases hxa : x ∈ a
    · simp [hxa, h x hxa]
    · simp [hxa]
  rw [e3]; exact List.filter_sublist
theorem prop_few (hok : okG p = true) (h : SubR q.Rules p.Rules) {d d' : List GDomain} {r r' : List GDomain × Bool} (hd : SubD d p.Domains ∧ OrdD d p.Domains) (hd' : SubD d' p.Domains ∧ OrdD d' p.Domains) (hdd : SubD d d') (hr : PropD p d r) (hr' : PropD q d' r') (h2 : r.2 = true) : r'.2 = true ∧ SubD r.1 r'.1 ∧ OrdD r.1 r'.1 ∧ r.1.length = p.Domains.length := by
  obtain ⟨hw, hbd, _, _⟩ := okG_bd hok; rcases hr with ⟨_, g1, g2, _⟩ | ⟨g1, _⟩
  · have hc := closed_few hw h g1; have hs := g2.1.trans hdd; rcases hr' with ⟨k1, k2, k3, k4⟩ | ⟨k1, k2⟩
    · have hS := k4 _ hc hs; have o1 := g2.2.trans hd.2 hd.1.1; have o2 := k3.2.trans hd'.2 hd'.1.1; have l1 : r.1.length = p.Domains.length := g2.1.1.trans hd.1.1; have l2 : r'.1.length = p.Domains.length := k3.1.1.trans hd'.1.1; refine ⟨k1, hS, fun i hi => ?_, l1⟩; (have hi' : i < p.Domains.length := by rw [← l2]; exact hi); exact sub_sublist (o1 i hi') (o2 i hi') (hbd.ch _ (nth_memG hi')).2 (hS.2 i hi).2
    · exact absurd hs (k2 _ hc)
  · rw [g1] at h2; cases h2
theorem actL_take {d : List GDomain} {l : List GAct} {n : Nat} : SubD (actL d l) (actL d (l.take n)) := by
  have e : actL d l = actL (actL d (l.take n)) (l.drop n) := by
    unfold actL; rw [← List.foldl_append, List.take_append_drop]
  rw [e]; exact actL_sub.1
theorem grows_true {fuel : Nat} (hf : 100000 ≤ fuel) (l : List GAct) (a many : Int) : law18_PropagateGrows_x fuel p l a many = some true := by
  unfold law18_PropagateGrows_x; obtain ⟨b, hb⟩ := small_x (p := p) (a := 10) (b := 40) (fuel := fuel) (by omega); rw [hb, Option.bind_some]; simp only [joinK]
  cases b with
  | false => rfl
  | true =>
    simp only [Bool.not_true, cond_false]; by_cases h1 : (10 : Int) < (l.length : Int)
    · rw [decide_eq_true h1]; rfl
    rw [decide_eq_false h1, cond_false, valid_x, Option.bind_some]
    cases hok : okG p with
    | false => rfl
    | true =>
      simp only [Bool.not_true, cond_false, cond_true]; by_cases h2 : many < 0
      · rw [decide_eq_true h2]; rfl
      rw [decide_eq_false h2, cond_false]; by_cases h3 : (l.length : Int) < many
      · rw [decide_eq_true h3]; rfl
      rw [decide_eq_false h3, cond_false]; have hG := okG_gg hok; obtain ⟨hw, hbd, ht, hn⟩ := okG_bd hok; obtain ⟨m0, g1, g2⟩ := propagate_x (fuel := fuel) hw hbd (by omega) (by omega); rw [g1, Option.bind_some, fewer_x hG.lps hG.lls hG.lcs, Option.bind_some]; have er : GRules.mk (fewG p.Rules a).Pairs (fewG p.Rules a).Loads (fewG p.Rules a).Caps = fewG p.Rules a := rfl; rw [er]; have hq : okG ⟨p.Domains, fewG p.Rules a⟩ = true := okG_few hok rfl (fewG_sub _ _); rw [hq, cond_true]; obtain ⟨qw, qbd, qt, qn⟩ := okG_bd hq; obtain ⟨m1, k1, k2⟩ := propagate_x (fuel := fuel) qw qbd (by simp only at qn ⊢; omega) (by simp only at qt ⊢; omega); rw [k1, Option.bind_some]; obtain ⟨r, g3, g4⟩ := perform_x hf hok (l := l) g2; obtain ⟨r', k3, k4⟩ := perform_x hf hq (l := l.take many.toNat) k2; rw [g3, Option.bind_some, grd_pos ⟨by omega, by omega⟩, k3, Option.bind_some]
      cases hr : r.2 with
      | false => rfl
      | true =>
        obtain ⟨c1, c2, c3, c4⟩ := prop_few (q := ⟨p.Domains, fewG p.Rules a⟩) hok (fewG_sub _ _) (actL_sub (l := l)) (actL_sub (l := l.take many.toNat)) actL_take g4 k4 hr; have hle := totG_ord c2.1 c3; simp only [Bool.not_true, cond_false, Nat.sub_zero]; have e0 : decide ((r.1.length : Int) = (p.Domains.length : Int)) = true := decide_eq_true (by omega)
        have e1 : decide (stRem ⟨p.Domains, fewG p.Rules a⟩ r' ≤ stRem p r) = true := decide_eq_true (by
          unfold stRem; rw [hr, c1, cond_true, cond_true]
          show (totG p.Domains : Int) - _ ≤ _
          omega)
        rw [e0, e1, c1]; refine (iterK_allO (z := some false) (fun i => true) (fun i next hi => ?_)).trans ?_
        · rw [cond_true]; refine (iterK_allO (z := some false) (fun k => true) (fun k nx hk => ?_)).trans ?_
          · have hx : stHas r' ⟨(nth r.1 i).Station, nth (nth r.1 i).Channels k⟩ = true := by
              unfold stHas; rw [c1, Bool.true_and, List.any_eq_true]; (have hi' : i < r'.1.length := by rw [← c2.1]; exact hi); have h5 := c2.2 i hi'; refine ⟨_, nth_memG hi', ?_⟩; rw [Bool.and_eq_true, decide_eq_true_eq, List.any_eq_true]; exact ⟨h5.1.symm, _, h5.2 _ (nth_memG hk), by simp⟩
            rw [hx]; rfl
          · rw [List.all_eq_true.2 (fun _ _ => rfl)]; rfl
        · rw [List.all_eq_true.2 (fun _ _ => rfl)]; rfl
end
end Go.Proofs.YtljgejbmimapdaaDoor
namespace Go.Proofs.YtljgejbmimapdaaDoor
open Go.RowKit Go.ChangeShapes Go.WideShapes Go.Deep
def Opens {H : Type} (enc : TypeId × Value → H) (w : World) (base : Nat) (spare : Nat → Bool) (held : Bool) (t : TypeId) {α : Type} (R : List Value → α → Prop) : Prop :=
  ∀ fuel cs y, DataW.trod enc Tryd.prog w base spare held fuel t cs = some y → ∃ x, R cs x
section
variable {H : Type} {enc : TypeId × Value → H} {w : World} {base : Nat} {spare : Nat → Bool} {held : Bool}
theorem Opens.int {t : TypeId} (ht : Tryd.prog.underlying t = some (.int .i64)) : Opens enc w base spare held t (fun cs (x : Int) => cs = [.int .i64 x]) := fun fuel cs y h => by
  obtain ⟨k, hk, _⟩ := DataW.trod_int ht h; exact ⟨k, hk⟩
theorem cell_Cb {a : Addr} {v : Value} (h : w.cell? a = some v) : Cb w a.block := by
  unfold World.cell? at h
  split at h
  all_goals (first | exact ⟨_, _, _, by assumption⟩ | simp at h | skip)
theorem Opens.any {t e : TypeId} {k : Nat} {α : Type} [Inhabited α] {R : List Value → α → Prop} (ht : Tryd.prog.underlying t = some (.slice e)) (hk : Tryd.prog.cellsOf e = k) (hpos : 0 < k) (ho : Opens enc w base spare held e R) :
    Opens enc w base spare held t (fun cs (l : List α) => ∃ v c, cs = [v] ∧ SlC (Frz.all w) v k c ∧ c.length = l.length ∧ ∀ i, i < l.length → R (nth c i) (nth l i)) := fun fuel cs y h => by
  rcases open_slice ht h with ⟨h0, _⟩ | ⟨a, len, cap, m, n, D, Pl, hcs, hb, hl, hm, hmm, _, hx⟩
  · exact ⟨[], _, [], h0, SlC.nil _ _, rfl, fun i hi => absurd hi (Nat.not_lt_zero i)⟩
  · subst hcs; (have hlm : len ≤ m := by rw [hmm]; split <;> omega)
    have each : ∀ i, i < m → ∃ x : List Value × α, x.1.length = k ∧ R x.1 x.2 ∧ ∀ j, j < k → w.cell? (a.add (i * k + j)) = x.1[j]? := fun i hi => by
      obtain ⟨cs', h1, h2⟩ := hx i hi; rw [hk] at h1; obtain ⟨_, hlen, hcell⟩ := World.cells?_some h1; obtain ⟨x, hR⟩ := ho _ _ _ h2; exact ⟨(cs', x), hlen, hR, fun j hj => by rw [← hcell j hj, add_add]⟩
    obtain ⟨X, hX⟩ := choose_lt each
    have hn : ∀ i, i < len → nth ((List.range len).map fun i => (X i).1) i = (X i).1 := fun i hi => by
      rw [nth_eq (by simpa using hi)]; simp
    have hn2 : ∀ i, i < len → nth ((List.range len).map fun i => (X i).2) i = (X i).2 := fun i hi => by
      rw [nth_eq (by simpa using hi)]; simp
    refine ⟨(List.range len).map fun i => (X i).2, _, (List.range len).map fun i => (X i).1, rfl, ⟨some a, cap, by simp, by simpa using hl, by unfold maxLen at hm; omega, fun c hc => ?_, fun hp => ?_⟩, by simp, fun i hi => ?_⟩
    · simp at hc; obtain ⟨i, hi, rfl⟩ := hc; exact (hX i (by omega)).1
    · (have hp' : 0 < len := by simpa using hp); have c0 := (hX 0 (by omega)).2.2 0 hpos; have hx0 := (hX 0 (by omega)).1; rw [List.getElem?_eq_getElem (by omega)] at c0; have hcb := cell_Cb c0; have hs := World.cell?_spot c0; simp [Addr.add] at hs hcb; obtain ⟨b, off, sp⟩ := a; simp at hs hcb; subst hs; refine ⟨b, off, rfl, hcb, fun i hi j hj => ?_⟩; simp at hi; rw [hn i hi] at hj ⊢; have hxi := hX i (by omega); have := hxi.2.2 j (by omega); refine Eq.trans ?_ this
      show w.cell? _ = _
      rw [add_off, Nat.add_assoc]
    · simp at hi; rw [hn i hi, hn2 i hi]; exact (hX i (by omega)).2.1
theorem Opens.slC {t e : TypeId} {k : Nat} {α : Type} [Inhabited α] {en : α → List Value} (ht : Tryd.prog.underlying t = some (.slice e)) (hk : Tryd.prog.cellsOf e = k) (hpos : 0 < k) (ho : Opens enc w base spare held e (fun cs (x : α) => cs = en x)) :
    Opens enc w base spare held t (fun cs (l : List α) => ∃ v, cs = [v] ∧ SlC (Frz.all w) v k (l.map en)) := fun fuel cs y h => by
  obtain ⟨l, v, c, h1, h2, h3, h4⟩ := Opens.any ht hk hpos ho _ _ _ h; refine ⟨l, v, h1, ?_⟩
  have : c = l.map en := by
    apply List.ext_getElem (by simpa using h3); intro i hi hi2; rw [← nth_eq hi, h4 i (by omega), List.getElem_map, nth_eq (by omega)]
  rw [← this]; exact h2
theorem Opens.slD {t e : TypeId} {k : Nat} {α : Type} [Inhabited α] {rep : Frz → List Value → α → Prop} (ht : Tryd.prog.underlying t = some (.slice e)) (hk : Tryd.prog.cellsOf e = k) (hpos : 0 < k) (ho : Opens enc w base spare held e (rep (Frz.all w))) :
    Opens enc w base spare held t (fun cs (l : List α) => ∃ v c, cs = [v] ∧ SlD rep (Frz.all w) v k c l) := fun fuel cs y h => by
  obtain ⟨l, v, c, h1, h2, h3, h4⟩ := Opens.any ht hk hpos ho _ _ _ h; exact ⟨l, v, c, h1, h2, h3, h4⟩
end
end Go.Proofs.YtljgejbmimapdaaDoor
