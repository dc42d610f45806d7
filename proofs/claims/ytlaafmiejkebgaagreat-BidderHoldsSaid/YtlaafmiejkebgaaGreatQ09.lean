/- Yi Ym Do Dq Dr Rm Df Dg Ds: shortened and put together by squeeze.py. -/
import Derived.Test.YtlaafmiejkebgaaGreatQ08
set_option maxRecDepth 100000
set_option maxHeartbeats 4000000
set_option linter.unusedVariables false
set_option linter.unusedSectionVars false
set_option linter.unusedSimpArgs false
namespace Go.Proofs.YtlaafmiejkebgaaGreat
open Go.RowKit
def zaX (s : List Int) (v_ : Int) : Int :=
  zap (fun (_ : Unit) =>
    (-1))
  (fun k1 =>
    zam (fun (i_3 : Nat) (next2 : Unit → Int) (_ : Unit) =>
      (bif decide (v_ = (nth s i_3)) then
        (i_3 : Int)
        else
        next2 ()))
    (fun (_ : Unit) =>
      k1 ()) (s.length - 0) 0 ())
theorem zdj (F0 : Frz) (w : World) (hF0 : F0.At w) (s : List Int) (vs : Value) (hs : SlC F0 vs 1 (s.map eI)) (v_ : Int) : Calls Tryz.prog 102 #[vs, .int .i64 v_] w fun e w' => e = .returned (.int .i64 (zaX s v_)) ∧ Below w.heap.size w w' := by
  obtain ⟨r, hk⟩ : ∃ r, zaX s v_ = r := ⟨_, rfl⟩; rw [hk]; unfold zaX at hk; haveI := hs.oneC; obtain ⟨S0, F1, rfl, hS0, hp0⟩ := zag hF0; refine zak Tryz.func102 rfl rfl rfl hp0 ?_; refine T.sr ?_; refine TL.run 1 rfl ?_; refine TL.ns (T.seq (T.sr ?_)); refine TL.run 1 rfl ?_; refine TL.y (Yv.am rfl rfl hs (List.length_map _)) ?_; have hm7 : s.length ≤ 9223372036854775807 := (List.length_map _) ▸ hs.max; refine TL.run 1 rfl ?_; refine TL.ns ?_; have hq := zae hk; clear hk; obtain ⟨k1, hk1, hk⟩ := hq; (try dsimp only at hk); refine T.ad (ι := Unit) (fun z => []) (fun z => [.fr F1]) (fun z => k1 () = r) ?_ ?_
  · have hq := zaw hk; clear hk; obtain ⟨f2, kk2, hf2, hkk2, hk⟩ := hq; refine T.block ?_; refine T.loop (ι := Nat) (fun z => [(0, vs), (1, .int .i64 v_), (7, .int .i64 (s.length : Int)), (8, .int .i64 (z : Int))]) (fun z => [.fr F1]) (fun z => zam f2 kk2 (s.length - z) z () = r) (fun z => s.length - z) 0 ?_ ?_ ?_ ?_
    · exact hk
    · exact (.c (.c (.c (.c .nil))))
    · exact List.Sublist.refl _
    · rintro i_3 hk; refine T.sr ?_; refine TL.run 1 rfl ?_; refine TL.ns (T.seq ?_); refine T.cond rfl (fun h4 => ?_) (fun h4 => ?_)
      · have p4 := of_decide_eq_true h4; rw [zaQ (by omega)] at hk; generalize hn2 : zam f2 kk2 (s.length - (i_3 + 1)) (i_3 + 1) = next2 at hk; rw [← hf2] at hk; (try dsimp only at hk); refine T.skip (K.seq (T.seq (T.block (T.sr ?_)))); refine TL.run 2 rfl ?_; refine TL.nx ?_; refine TL.run 3 rfl ?_; refine TL.y (Yv.an (i := i_3) rfl rfl rfl hs (List.length_map _) rfl (by omega)) ?_; refine TL.y (Yv.al 0 (i := i_3) (j := 0) rfl rfl rfl hs (by omega) rfl rfl) ?_; refine TL.run 1 rfl ?_; refine TL.ns ?_; refine T.cond rfl (fun h5 => ?_) (fun h5 => ?_)
        · have p5 := of_decide_eq_true h5; replace hk := zaa hk h5; refine T.sr ?_; refine TL.run 2 rfl ?_; refine TL.ns (T.ret (K.aj (K.a (K.a (K.aj (K.a ?_)))))); subst hk; exact K.ah rfl rfl (fun w' hw => ⟨rfl, hw.isBelow⟩)
        · have p5 := of_decide_eq_false h5; replace hk := zab hk h5; refine T.skip (K.ac (K.seq (T.region ?_))); refine TL.y (Yv.av rfl rfl rfl (by omega)) ?_; refine TL.run 1 rfl ?_; refine TL.nil ?_; rw [← hn2] at hk; exact K.next (i_3 + 1) hk (by omega) (.c (.c (.c (.c .nil)))) (List.Sublist.refl _)
      · have p4 := of_decide_eq_false h4; rw [zaR (by omega), ← hkk2] at hk; (try dsimp only at hk); refine T.exit (K.aa (K.aa (K.ae ?_))); exact K.ab () hk .nil (List.Sublist.refl _)
  · rintro _ hk; rw [← hk1] at hk; (try dsimp only at hk); refine T.sr ?_; refine TL.run 1 rfl ?_; refine TL.ns (T.ret ?_); subst hk; exact K.ah rfl rfl (fun w' hw => ⟨rfl, hw.isBelow⟩)
def zaE (s : List Int) (v_ : Int) : Bool :=
  (decide (0 ≤ (zaX s v_)))
theorem zc4 (F0 : Frz) (w : World) (hF0 : F0.At w) (s : List Int) (vs : Value) (hs : SlC F0 vs 1 (s.map eI)) (v_ : Int) : Calls Tryz.prog 79 #[vs, .int .i64 v_] w fun e w' => e = .returned (.bool (zaE s v_)) ∧ Below w.heap.size w w' := by
  obtain ⟨r, hk⟩ : ∃ r, zaE s v_ = r := ⟨_, rfl⟩; rw [hk]; unfold zaE at hk; haveI := hs.oneC; obtain ⟨S0, F1, rfl, hS0, hp0⟩ := zag hF0; refine zak Tryz.func79 rfl rfl rfl hp0 ?_; refine T.sr ?_; refine TL.run 1 rfl ?_; refine TL.nx ?_; refine TL.run 2 rfl ?_; refine TL.e (Ew.ai rfl rfl rfl (fun w hw => zdj _ w (hw.fr (i := 0) rfl) s vs hs v_)) ?_; rintro _ _ ⟨rfl, rfl⟩; refine TL.run 2 rfl ?_; refine TL.ns (T.ret ?_); subst hk; exact K.ah rfl rfl (fun w' hw => ⟨rfl, hw.isBelow⟩)
def zcv (b : GStationBid) : Option Bool :=
  (bif (((decide (b.Station < 0)) || (decide (512 ≤ b.Station))) || (decide (3 < (b.Fallbacks.length : Int)))) then
    some false
    else
    (zcd b).bind fun r21 =>
    zap (fun (_ : Unit) =>
      some true)
    (fun k4 =>
      zam (fun (i_6 : Nat) (next5 : Unit → Option Bool) (_ : Unit) =>
        (bif ((!(zby (nth r21 i_6))) || (zaE (r21.take i_6) (nth r21 i_6))) then
          some false
          else
          next5 ()))
      (fun (_ : Unit) =>
        k4 ()) (r21.length - 0) 0 ()))
theorem ze3 (F0 : Frz) (w : World) (hF0 : F0.At w) (b : GStationBid) (vb_2 : Value) (hb_2 : SlC F0 vb_2 1 (b.Fallbacks.map eI)) (r : Bool) (hr : zcv b = some r) : Calls Tryz.prog 53 #[.agg [.int .i64 b.Station, .int .i64 b.Preferred, vb_2].toArray] w fun e w' => e = .returned (.bool r) ∧ Below w.heap.size w w' := by
  have hk := hr; unfold zcv at hk; haveI := hb_2.oneC; obtain ⟨S0, F1, rfl, hS0, hp0⟩ := zag hF0; refine zak Tryz.func53 rfl rfl rfl hp0 ?_; refine T.sr ?_; refine TL.e (Ew.aw rfl rfl) ?_; rintro _ _ ⟨g1, rfl, rfl⟩; refine TL.run 1 rfl ?_; refine TL.ns (T.seq (T.seq ?_)); refine T.ad (ι := Unit) (fun z => [(1, .pointer (some ⟨g1, 0, none⟩)), (19, .bool (((decide (b.Station < 0)) || (decide (512 ≤ b.Station))) || (decide (3 < (b.Fallbacks.length : Int)))))]) (fun z => [.row g1 52 [.int .i64 b.Station, .int .i64 b.Preferred, vb_2], .fr F1]) (fun z => True) ?_ ?_
  · refine T.region ?_; refine TL.y (Yv.fieldAddr rfl rfl) ?_; refine TL.y (Yv.af 0 rfl rfl rfl rfl) ?_; refine TL.run 2 rfl ?_; refine TL.gs rfl rfl rfl (fun h1 => ?_) (fun h1 => ?_)
    · have p1 := of_decide_eq_true h1; refine TL.run 10 rfl ?_; refine TL.nil ?_; exact K.ab () trivial (.c (.b (zas (zas h1)).symm .nil)) (List.Sublist.refl _)
    · have p1 := of_decide_eq_false h1; refine TL.y (Yv.fieldAddr rfl rfl) ?_; refine TL.y (Yv.af 0 rfl rfl rfl rfl) ?_; refine TL.run 3 rfl ?_; refine TL.gs rfl rfl rfl (fun h2 => ?_) (fun h2 => ?_)
      · have p2 := of_decide_eq_true h2; refine TL.run 5 rfl ?_; refine TL.nil ?_; exact K.ab () trivial (.c (.b (zas (zay h1 h2)).symm .nil)) (List.Sublist.refl _)
      · have p2 := of_decide_eq_false h2; refine TL.y (Yv.fieldAddr rfl rfl) ?_; refine TL.y (Yv.af 0 rfl rfl rfl rfl) ?_; refine TL.y (Yv.am rfl rfl hb_2 (List.length_map _)) ?_; have hm17 : b.Fallbacks.length ≤ 9223372036854775807 := (List.length_map _) ▸ hb_2.max; refine TL.run 2 rfl ?_; refine TL.nil ?_; exact K.ab () trivial (.c (.b (or_f (zay h1 h2)) .nil)) (List.Sublist.refl _)
  · rintro _ _; have hm17 : b.Fallbacks.length ≤ 9223372036854775807 := (List.length_map _) ▸ hb_2.max; refine T.cond rfl (fun h3 => ?_) (fun h3 => ?_)
    · replace hk := zaa hk h3; refine T.sr ?_; refine TL.run 1 rfl ?_; refine TL.ns (T.ret (K.a ?_)); obtain rfl := Option.some.inj hk; exact K.ah rfl rfl (fun w' hw => ⟨rfl, hw.isBelow⟩)
    · have p3 := h3; (try simp only [nfB] at p3); replace hk := zab hk h3; refine T.skip (K.seq (T.seq ?_)); have hq := zac hk; clear hk; obtain ⟨r21, hr21, hk⟩ := hq; (try dsimp only at hk); refine T.region ?_; refine TL.y (Yv.ak 0 rfl rfl rfl rfl) ?_; refine TL.e (Ew.ao 1 rfl rfl rfl rfl (fun w hw hF => zdR _ w hF b vb_2 hb_2 r21 hr21)) ?_; rintro _ _ ⟨v21_0_0, F2, le1_2, hf21_0_0, hq, rfl⟩; obtain rfl := hq.symm; haveI := hf21_0_0.oneC; refine TL.run 1 rfl ?_; refine TL.ns (T.seq (T.sr ?_)); refine TL.run 1 rfl ?_; refine TL.y (Yv.am rfl rfl hf21_0_0 (List.length_map _)) ?_; have hm23 : r21.length ≤ 9223372036854775807 := (List.length_map _) ▸ hf21_0_0.max; refine TL.run 1 rfl ?_; refine TL.ns ?_; have hq := zae hk; clear hk; obtain ⟨k4, hk4, hk⟩ := hq; (try dsimp only at hk); refine T.ad (ι := Unit) (fun z => []) (fun z => [.fr F2]) (fun z => k4 () = some r) ?_ ?_
      · have hq := zaw hk; clear hk; obtain ⟨f5, kk5, hf5, hkk5, hk⟩ := hq; refine T.block ?_; refine T.pick [1] rfl (by decide) ?_; refine T.loop (ι := Nat) (fun z => [(3, v21_0_0), (22, v21_0_0), (23, .int .i64 (r21.length : Int)), (24, .int .i64 (z : Int))]) (fun z => [.fr F2]) (fun z => zam f5 kk5 (r21.length - z) z () = some r) (fun z => r21.length - z) 0 ?_ ?_ ?_ ?_
        · exact hk
        · exact (.c (.c (.c (.c .nil))))
        · exact List.Sublist.refl _
        · rintro i_6 hk; refine T.sr ?_; refine TL.run 1 rfl ?_; refine TL.ns (T.seq ?_); refine T.cond rfl (fun h7 => ?_) (fun h7 => ?_)
          · have p7 := of_decide_eq_true h7; rw [zaQ (by omega)] at hk; generalize hn5 : zam f5 kk5 (r21.length - (i_6 + 1)) (i_6 + 1) = next5 at hk; rw [← hf5] at hk; (try dsimp only at hk); refine T.skip (K.seq (T.seq (T.block (T.sr ?_)))); refine TL.run 1 rfl ?_; refine TL.y (Yv.an (i := i_6) rfl rfl rfl hf21_0_0 (List.length_map _) rfl (by omega)) ?_; refine TL.y (Yv.al 0 (i := i_6) (j := 0) rfl rfl rfl hf21_0_0 (by omega) rfl rfl) ?_; refine TL.run 2 rfl ?_; refine TL.ns (T.seq ?_); refine T.ad (ι := Unit) (fun z => [(3, v21_0_0), (22, v21_0_0), (23, .int .i64 (r21.length : Int)), (24, .int .i64 (i_6 : Int)), (38, .bool ((!(zby (nth r21 i_6))) || (zaE (r21.take i_6) (nth r21 i_6))))]) (fun z => [.fr F2]) (fun z => True) ?_ ?_
            · refine T.region ?_; refine TL.run 1 rfl ?_; refine TL.e (Ew.ai rfl rfl rfl (fun w hw => zer _ w (hw.fr (i := 0) rfl) (nth r21 i_6))) ?_; rintro _ _ ⟨rfl, rfl⟩; refine TL.run 2 rfl ?_; refine TL.gs rfl rfl rfl (fun h8 => ?_) (fun h8 => ?_)
              · refine TL.run 6 rfl ?_; refine TL.nil ?_; exact K.ab () trivial (.c (.c (.c (.c (.b (zas h8).symm .nil))))) (List.Sublist.refl _)
              · refine TL.run 2 rfl ?_; refine TL.y (Yv.bt (i := i_6) rfl rfl rfl hf21_0_0 (List.length_map _) rfl (by omega)) ?_; have hs35_ : SlC F2.toFrz (zcw v21_0_0 0 i_6 1) 1 ((r21.take i_6).map eI) := hf21_0_0.sliceh (i := i_6) (by omega); haveI := hs35_.oneC; refine TL.run 1 rfl ?_; refine TL.e (Ew.ai rfl rfl rfl (fun w hw => zc4 _ w (hw.fr (i := 0) rfl) (r21.take i_6) (zcw v21_0_0 0 i_6 1) hs35_ (nth r21 i_6))) ?_; rintro _ _ ⟨rfl, rfl⟩; refine TL.run 1 rfl ?_; refine TL.nil ?_; exact K.ab () trivial (.c (.c (.c (.c (.b (or_f h8) .nil))))) (List.Sublist.refl _)
            · rintro _ _; refine T.cond rfl (fun h9 => ?_) (fun h9 => ?_)
              · replace hk := zaa hk h9; refine T.sr ?_; refine TL.run 1 rfl ?_; refine TL.ns (T.ret (K.aj (K.a (K.a (K.aj (K.a ?_)))))); obtain rfl := Option.some.inj hk; exact K.ah rfl rfl (fun w' hw => ⟨rfl, hw.isBelow⟩)
              · replace hk := zab hk h9; refine T.skip (K.ac (K.seq (T.region ?_))); refine TL.y (Yv.av rfl rfl rfl (by omega)) ?_; refine TL.run 1 rfl ?_; refine TL.nil ?_; rw [← hn5] at hk; exact K.next (i_6 + 1) hk (by omega) (.c (.c (.c (.c .nil)))) (List.Sublist.refl _)
          · have p7 := of_decide_eq_false h7; rw [zaR (by omega), ← hkk5] at hk; (try dsimp only at hk); refine T.exit (K.aa (K.aa (K.ae ?_))); exact K.ab () hk .nil (List.Sublist.refl _)
      · rintro _ hk; rw [← hk4] at hk; (try dsimp only at hk); refine T.sr ?_; refine TL.run 1 rfl ?_; refine TL.ns (T.ret ?_); obtain rfl := Option.some.inj hk; exact K.ah rfl rfl (fun w' hw => ⟨rfl, hw.isBelow⟩)
def zbz (b : GStationBid) (home : Int) (current : Int) : Option Bool :=
  (zcv b).bind fun r10 =>
  (bif !r10 then
    some false
    else
    (zcd b).bind fun r13 =>
    zap (fun (_ : Unit) =>
      some true)
    (fun k2 =>
      zam (fun (i_4 : Nat) (next3 : Unit → Option Bool) (_ : Unit) =>
        (bif !(zcb home current (nth r13 i_4)) then
          some false
          else
          next3 ()))
      (fun (_ : Unit) =>
        k2 ()) (r13.length - 0) 0 ()))
theorem zet (F0 : Frz) (w : World) (hF0 : F0.At w) (b : GStationBid) (vb_2 : Value) (hb_2 : SlC F0 vb_2 1 (b.Fallbacks.map eI)) (home : Int) (current : Int) (r : Bool) (hr : zbz b home current = some r) : Calls Tryz.prog 19 #[.agg [.int .i64 b.Station, .int .i64 b.Preferred, vb_2].toArray, .int .i64 home, .int .i64 current] w fun e w' => e = .returned (.bool r) ∧ Below w.heap.size w w' := by
  have hk := hr; unfold zbz at hk; haveI := hb_2.oneC; obtain ⟨S0, F1, rfl, hS0, hp0⟩ := zag hF0; refine zak Tryz.func19 rfl rfl rfl hp0 ?_; refine T.sr ?_; refine TL.e (Ew.aw rfl rfl) ?_; rintro _ _ ⟨g3, rfl, rfl⟩; refine TL.run 1 rfl ?_; refine TL.ns (T.seq (T.seq ?_)); have hq := zac hk; clear hk; obtain ⟨r10, hr10, hk⟩ := hq; (try dsimp only at hk); refine T.region ?_; refine TL.y (Yv.ak 0 rfl rfl rfl rfl) ?_; refine TL.e (Ew.ai rfl rfl rfl (fun w hw => ze3 _ w (hw.fr (i := 1) rfl) b vb_2 hb_2 r10 hr10)) ?_; rintro _ _ ⟨rfl, rfl⟩; refine TL.run 1 rfl ?_; refine TL.ns ?_; refine T.cond rfl (fun h1 => ?_) (fun h1 => ?_)
  · replace hk := zaa hk h1; refine T.sr ?_; refine TL.run 1 rfl ?_; refine TL.ns (T.ret (K.a ?_)); obtain rfl := Option.some.inj hk; exact K.ah rfl rfl (fun w' hw => ⟨rfl, hw.isBelow⟩)
  · replace hk := zab hk h1; refine T.skip (K.seq (T.seq (T.seq ?_))); have hq := zac hk; clear hk; obtain ⟨r13, hr13, hk⟩ := hq; (try dsimp only at hk); refine T.region ?_; refine TL.y (Yv.ak 0 rfl rfl rfl rfl) ?_; refine TL.e (Ew.ao 1 rfl rfl rfl rfl (fun w hw hF => zdR _ w hF b vb_2 hb_2 r13 hr13)) ?_; rintro _ _ ⟨v13_0_0, F2, le1_2, hf13_0_0, hq, rfl⟩; obtain rfl := hq.symm; haveI := hf13_0_0.oneC; refine TL.y (Yv.am rfl rfl hf13_0_0 (List.length_map _)) ?_; have hm14 : r13.length ≤ 9223372036854775807 := (List.length_map _) ▸ hf13_0_0.max; refine TL.run 1 rfl ?_; refine TL.ns ?_; have hq := zae hk; clear hk; obtain ⟨k2, hk2, hk⟩ := hq; (try dsimp only at hk); refine T.ad (ι := Unit) (fun z => []) (fun z => [.fr F2]) (fun z => k2 () = some r) ?_ ?_
    · have hq := zaw hk; clear hk; obtain ⟨f3, kk3, hf3, hkk3, hk⟩ := hq; refine T.block ?_; refine T.pick [1] rfl (by decide) ?_; refine T.loop (ι := Nat) (fun z => [(1, .int .i64 home), (2, .int .i64 current), (13, v13_0_0), (14, .int .i64 (r13.length : Int)), (15, .int .i64 (z : Int))]) (fun z => [.fr F2]) (fun z => zam f3 kk3 (r13.length - z) z () = some r) (fun z => r13.length - z) 0 ?_ ?_ ?_ ?_
      · exact hk
      · exact (.c (.c (.c (.c (.c .nil)))))
      · exact List.Sublist.refl _
      · rintro i_4 hk; refine T.sr ?_; refine TL.run 1 rfl ?_; refine TL.ns (T.seq ?_); refine T.cond rfl (fun h5 => ?_) (fun h5 => ?_)
        · have p5 := of_decide_eq_true h5; rw [zaQ (by omega)] at hk; generalize hn3 : zam f3 kk3 (r13.length - (i_4 + 1)) (i_4 + 1) = next3 at hk; rw [← hf3] at hk; (try dsimp only at hk); refine T.skip (K.seq (T.seq (T.block (T.sr ?_)))); refine TL.y (Yv.an (i := i_4) rfl rfl rfl hf13_0_0 (List.length_map _) rfl (by omega)) ?_; refine TL.y (Yv.al 0 (i := i_4) (j := 0) rfl rfl rfl hf13_0_0 (by omega) rfl rfl) ?_; refine TL.run 1 rfl ?_; refine TL.nx ?_; refine TL.run 3 rfl ?_; refine TL.e (Ew.ai rfl rfl rfl (fun w hw => zeC _ w (hw.fr (i := 0) rfl) home current (nth r13 i_4))) ?_; rintro _ _ ⟨rfl, rfl⟩; refine TL.run 1 rfl ?_; refine TL.ns ?_; refine T.cond rfl (fun h6 => ?_) (fun h6 => ?_)
          · replace hk := zaa hk h6; refine T.sr ?_; refine TL.run 1 rfl ?_; refine TL.ns (T.ret (K.aj (K.a (K.a (K.aj (K.a ?_)))))); obtain rfl := Option.some.inj hk; exact K.ah rfl rfl (fun w' hw => ⟨rfl, hw.isBelow⟩)
          · replace hk := zab hk h6; refine T.skip (K.ac (K.seq (T.region ?_))); refine TL.y (Yv.av rfl rfl rfl (by omega)) ?_; refine TL.run 1 rfl ?_; refine TL.nil ?_; rw [← hn3] at hk; exact K.next (i_4 + 1) hk (by omega) (.c (.c (.c (.c (.c .nil))))) (List.Sublist.refl _)
        · have p5 := of_decide_eq_false h5; rw [zaR (by omega), ← hkk3] at hk; (try dsimp only at hk); refine T.exit (K.aa (K.aa (K.ae ?_))); exact K.ab () hk .nil (List.Sublist.refl _)
    · rintro _ hk; rw [← hk2] at hk; (try dsimp only at hk); refine T.sr ?_; refine TL.run 1 rfl ?_; refine TL.ns (T.ret ?_); obtain rfl := Option.some.inj hk; exact K.ah rfl rfl (fun w' hw => ⟨rfl, hw.isBelow⟩)
def zbD (fuel : Nat) (p : GStationPlan) (current : Int) (prices : List Int) (q : GBidderPlan) (l : List GProduct) (blocks : List Int) (starts : List Int) (clocks : List Int) (which : Int) (rise : Int) (seed : Int) (scale : Int) : Option Bool :=
  (bif ((((((((decide (10 < (p.Values.length : Int))) || (decide (10 < (prices.length : Int)))) || (!(zci q l))) || (decide (10 < (blocks.length : Int)))) || (decide (10 < (starts.length : Int)))) || (decide (10 < (clocks.length : Int)))) || (decide (rise < 0))) || (decide (549755813888 < rise))) then
    (zbO fuel).bind fun r85 =>
    some r85
    else
    (zaT fuel p current prices).bind fun r90 =>
    zap (fun (_ : Unit) =>
      (zar fuel q l clocks).bind fun r157 =>
      zap (fun (_ : Unit) =>
        (za0 fuel q l blocks starts clocks).bind fun r196 =>
        zap (fun (_ : Unit) =>
          (za7 fuel seed p.Station p.Home scale).bind fun r255 =>
          (bif ((decide (r255.2 = 0)) && (!(zau r255.1))) then
            some false
            else
            (zbl fuel seed q.Bidder l scale).bind fun r271 =>
            zap (fun (x_45 : Bool) =>
              (bif x_45 then
                some false
                else
                (zbO fuel).bind fun r287 =>
                some r287))
            (fun k46 =>
              (bif decide (r271.2 = 0) then
                (zaZ r271.1 l).bind fun r279 =>
                (bif !r279 then
                  k46 true
                  else
                  k46 (!(zaq l)))
                else
                k46 false))))
        (fun k31 =>
          (bif decide (r196.2 = 0) then
            grd (room ([] ++ blocks).length 8) <|
            zap (fun (l_33 : List Int) =>
              (bif ((decide (¬ r157.2 = 0)) || (!(za2 l_33 r157.1))) then
                some false
                else
                k31 ()))
            (fun k34 =>
              zam (fun (i_37 : Nat) (next36 : List Int → Option Bool) (l_35 : List Int) =>
                (bif ((decide ((nth r196.1 i_37).Product < 0)) || (decide ((l_35.length : Int) ≤ (nth r196.1 i_37).Product))) then
                  some false
                  else
                  next36 (l_35.set (((nth r196.1 i_37).Product).toNat) (wI ((nth l_35 (((nth r196.1 i_37).Product).toNat)) + ((nth r196.1 i_37).Change))))))
              (fun (l_35 : List Int) =>
                k34 l_35) (r196.1.length - 0) 0 ([] ++ blocks))
            else
            k31 ())))
      (fun k23 =>
        (bif decide (r157.2 = 0) then
          (zb9 l clocks r157.1).bind fun r166 =>
          zap (fun (x_25 : Bool) =>
            (bif x_25 then
              some false
              else
              (zcn fuel q l clocks which rise).bind fun r188 =>
              (bif !r188 then
                some false
                else
                k23 ())))
          (fun k26 =>
            (bif decide (¬ r166.2 = 0) then
              k26 true
              else
              (bif decide (q.Budget < r166.1) then
                k26 true
                else
                (zbd l r157.1).bind fun r180 =>
                k26 (!r180))))
          else
          k23 ())))
    (fun k9 =>
      (bif decide (r90.2 = 0) then
        (zbb p r90.1.Preferred prices).bind fun r100 =>
        zap (fun (x_11 : Bool) =>
          (bif x_11 then
            some false
            else
            zap (fun (_ : Unit) =>
              (zbi fuel p.Home current).bind fun r139 =>
              (bif ((decide (¬ r139.2 = 0)) || (decide (¬ (r139.1.length : Int) = wI (1 + (r90.1.Fallbacks.length : Int))))) then
                some false
                else
                k9 ()))
            (fun k15 =>
              zam (fun (i_17 : Nat) (next16 : Unit → Option Bool) (_ : Unit) =>
                (zbb p (nth r90.1.Fallbacks i_17) prices).bind fun r124 =>
                (bif ((decide (¬ r124.2 = 0)) || (decide (r100.1 < r124.1))) then
                  some false
                  else
                  next16 ()))
              (fun (_ : Unit) =>
                k15 ()) (r90.1.Fallbacks.length - 0) 0 ())))
        (fun k12 =>
          (bif decide (¬ r100.2 = 0) then
            k12 true
            else
            (zbz r90.1 p.Home current).bind fun r110 =>
            k12 (!r110)))
        else
        k9 ())))
theorem zdW (F0 : Frz) (w : World) (hF0 : F0.At w) (p : GStationPlan) (vp_2 : Value) (hp_2 : SlC F0 vp_2 1 (p.Values.map eI)) (current : Int) (prices : List Int) (vprices : Value) (hprices : SlC F0 vprices 1 (prices.map eI)) (q : GBidderPlan) (vq_2 : Value) (cq_2 : List (List Value)) (hq_2 : SlD R_List_Int.rep F0 vq_2 1 cq_2 q.Values) (l : List GProduct) (vl : Value) (hl : SlC F0 vl 5 (l.map GProduct.enc)) (blocks : List Int) (vblocks : Value) (hblocks : SlC F0 vblocks 1 (blocks.map eI)) (starts : List Int) (vstarts : Value) (hstarts : SlC F0 vstarts 1 (starts.map eI)) (clocks : List Int) (vclocks : Value) (hclocks : SlC F0 vclocks 1 (clocks.map eI)) (which : Int) (rise : Int) (seed : Int) (scale : Int) (fuel : Nat) (r : Bool) (hr : zbD fuel p current prices q l blocks starts clocks which rise seed scale = some r) : Calls Tryz.prog 5 #[.agg [.int .i64 p.Station, .int .i64 p.Home, vp_2].toArray, .int .i64 current, vprices, .agg [.int .i64 q.Bidder, .int .i64 q.Budget, vq_2].toArray, vl, vblocks, vstarts, vclocks, .int .i64 which, .int .i64 rise, .int .i64 seed, .int .i64 scale] w fun e w' => e = .returned (.bool r) ∧ Below w.heap.size w w' := by
  have hk := hr; unfold zbD at hk; haveI := hp_2.oneC; haveI := hprices.oneC; haveI := hq_2.1.oneC; haveI := hl.oneC; haveI := hblocks.oneC; haveI := hstarts.oneC; haveI := hclocks.oneC; obtain ⟨S0, F1, rfl, hS0, hp0⟩ := zag hF0; refine zak Tryz.func5 rfl rfl rfl hp0 ?_; refine T.sr ?_; refine TL.e (Ew.aw rfl rfl) ?_; rintro _ _ ⟨g12, rfl, rfl⟩; refine TL.e (Ew.aw rfl rfl) ?_; rintro _ _ ⟨g15, rfl, rfl⟩; refine TL.run 1 rfl ?_; refine TL.ns (T.seq (T.seq ?_)); refine T.ad (ι := Unit) (fun z => [(1, .int .i64 current), (2, vprices), (4, vl), (5, vblocks), (6, vstarts), (7, vclocks), (8, .int .i64 which), (9, .int .i64 rise), (10, .int .i64 seed), (11, .int .i64 scale), (12, .pointer (some ⟨g12, 0, none⟩)), (15, .pointer (some ⟨g15, 0, none⟩)), (84, .bool ((((((((decide (10 < (p.Values.length : Int))) || (decide (10 < (prices.length : Int)))) || (!(zci q l))) || (decide (10 < (blocks.length : Int)))) || (decide (10 < (starts.length : Int)))) || (decide (10 < (clocks.length : Int)))) || (decide (rise < 0))) || (decide (549755813888 < rise))))]) (fun z => [.row g15 24 [.int .i64 q.Bidder, .int .i64 q.Budget, vq_2], .row g12 39 [.int .i64 p.Station, .int .i64 p.Home, vp_2], .fr F1]) (fun z => True) ?_ ?_
  · refine T.region ?_; refine TL.y (Yv.fieldAddr rfl rfl) ?_; refine TL.y (Yv.af 1 rfl rfl rfl rfl) ?_; refine TL.y (Yv.am rfl rfl hp_2 (List.length_map _)) ?_; have hm49 : p.Values.length ≤ 9223372036854775807 := (List.length_map _) ▸ hp_2.max; refine TL.run 2 rfl ?_; refine TL.gs rfl rfl rfl (fun h1 => ?_) (fun h1 => ?_)
    · have p1 := of_decide_eq_true h1; refine TL.run 33 rfl ?_; refine TL.nil ?_; exact K.ab () trivial (.c (.c (.c (.c (.c (.c (.c (.c (.c (.c (.c (.c (.b (zas (zas (zas (zas (zas (zas (zas h1))))))).symm .nil))))))))))))) (List.Sublist.refl _)
    · have p1 := of_decide_eq_false h1; refine TL.run 1 rfl ?_; refine TL.y (Yv.am rfl rfl hprices (List.length_map _)) ?_; have hm53 : prices.length ≤ 9223372036854775807 := (List.length_map _) ▸ hprices.max; refine TL.run 3 rfl ?_; refine TL.gs rfl rfl rfl (fun h2 => ?_) (fun h2 => ?_)
      · have p2 := of_decide_eq_true h2; refine TL.run 28 rfl ?_; refine TL.nil ?_; exact K.ab () trivial (.c (.c (.c (.c (.c (.c (.c (.c (.c (.c (.c (.c (.b (zas (zas (zas (zas (zas (zas (zay h1 h2))))))).symm .nil))))))))))))) (List.Sublist.refl _)
      · have p2 := of_decide_eq_false h2; refine TL.y (Yv.ak 0 rfl rfl rfl rfl) ?_; refine TL.run 1 rfl ?_; refine TL.e (Ew.ai rfl rfl rfl (fun w hw => zgf _ w (hw.fr (i := 2) rfl) q vq_2 cq_2 hq_2 l vl hl)) ?_; rintro _ _ ⟨rfl, rfl⟩; refine TL.run 3 rfl ?_; refine TL.gs rfl rfl rfl (fun h3 => ?_) (fun h3 => ?_)
        · refine TL.run 22 rfl ?_; refine TL.nil ?_; exact K.ab () trivial (.c (.c (.c (.c (.c (.c (.c (.c (.c (.c (.c (.c (.b (zas (zas (zas (zas (zas (zay (zay h1 h2) h3)))))).symm .nil))))))))))))) (List.Sublist.refl _)
        · refine TL.run 1 rfl ?_; refine TL.y (Yv.am rfl rfl hblocks (List.length_map _)) ?_; have hm64 : blocks.length ≤ 9223372036854775807 := (List.length_map _) ▸ hblocks.max; refine TL.run 3 rfl ?_; refine TL.gs rfl rfl rfl (fun h4 => ?_) (fun h4 => ?_)
          · have p4 := of_decide_eq_true h4; refine TL.run 17 rfl ?_; refine TL.nil ?_; exact K.ab () trivial (.c (.c (.c (.c (.c (.c (.c (.c (.c (.c (.c (.c (.b (zas (zas (zas (zas (zay (zay (zay h1 h2) h3) h4))))).symm .nil))))))))))))) (List.Sublist.refl _)
          · have p4 := of_decide_eq_false h4; refine TL.run 1 rfl ?_; refine TL.y (Yv.am rfl rfl hstarts (List.length_map _)) ?_; have hm69 : starts.length ≤ 9223372036854775807 := (List.length_map _) ▸ hstarts.max; refine TL.run 3 rfl ?_; refine TL.gs rfl rfl rfl (fun h5 => ?_) (fun h5 => ?_)
            · have p5 := of_decide_eq_true h5; refine TL.run 12 rfl ?_; refine TL.nil ?_; exact K.ab () trivial (.c (.c (.c (.c (.c (.c (.c (.c (.c (.c (.c (.c (.b (zas (zas (zas (zay (zay (zay (zay h1 h2) h3) h4) h5)))).symm .nil))))))))))))) (List.Sublist.refl _)
            · have p5 := of_decide_eq_false h5; refine TL.run 1 rfl ?_; refine TL.y (Yv.am rfl rfl hclocks (List.length_map _)) ?_; have hm74 : clocks.length ≤ 9223372036854775807 := (List.length_map _) ▸ hclocks.max; refine TL.run 3 rfl ?_; refine TL.gs rfl rfl rfl (fun h6 => ?_) (fun h6 => ?_)
              · have p6 := of_decide_eq_true h6; refine TL.run 7 rfl ?_; refine TL.nil ?_; exact K.ab () trivial (.c (.c (.c (.c (.c (.c (.c (.c (.c (.c (.c (.c (.b (zas (zas (zay (zay (zay (zay (zay h1 h2) h3) h4) h5) h6))).symm .nil))))))))))))) (List.Sublist.refl _)
              · have p6 := of_decide_eq_false h6; refine TL.run 4 rfl ?_; refine TL.gs rfl rfl rfl (fun h7 => ?_) (fun h7 => ?_)
                · have p7 := of_decide_eq_true h7; refine TL.run 3 rfl ?_; refine TL.nil ?_; exact K.ab () trivial (.c (.c (.c (.c (.c (.c (.c (.c (.c (.c (.c (.c (.b (zas (zay (zay (zay (zay (zay (zay h1 h2) h3) h4) h5) h6) h7)).symm .nil))))))))))))) (List.Sublist.refl _)
                · have p7 := of_decide_eq_false h7; refine TL.run 3 rfl ?_; refine TL.nil ?_; exact K.ab () trivial (.c (.c (.c (.c (.c (.c (.c (.c (.c (.c (.c (.c (.b (or_f (zay (zay (zay (zay (zay (zay h1 h2) h3) h4) h5) h6) h7)) .nil))))))))))))) (List.Sublist.refl _)
  · rintro _ _; have hm49 : p.Values.length ≤ 9223372036854775807 := (List.length_map _) ▸ hp_2.max; have hm53 : prices.length ≤ 9223372036854775807 := (List.length_map _) ▸ hprices.max; have hm64 : blocks.length ≤ 9223372036854775807 := (List.length_map _) ▸ hblocks.max; have hm69 : starts.length ≤ 9223372036854775807 := (List.length_map _) ▸ hstarts.max; have hm74 : clocks.length ≤ 9223372036854775807 := (List.length_map _) ▸ hclocks.max; refine T.cond rfl (fun h8 => ?_) (fun h8 => ?_)
    · replace hk := zaa hk h8; refine T.seq ?_; have hq := zac hk; clear hk; obtain ⟨r85, hr85, hk⟩ := hq; (try dsimp only at hk); refine T.region ?_; refine TL.e (Ew.ai rfl rfl rfl (fun w hw => zd4 _ w (hw.fr (i := 2) rfl)  fuel r85 hr85)) ?_; rintro _ _ ⟨rfl, rfl⟩; refine TL.run 1 rfl ?_; refine TL.ns (T.ret (K.a ?_)); obtain rfl := Option.some.inj hk; exact K.ah rfl rfl (fun w' hw => ⟨rfl, hw.isBelow⟩)
    · have p8 := h8; (try simp only [nfB] at p8); replace hk := zab hk h8; refine T.skip (K.seq (T.seq (T.seq ?_))); have hq := zac hk; clear hk; obtain ⟨r90, hr90, hk⟩ := hq; (try dsimp only at hk); refine T.region ?_; refine TL.y (Yv.ak 1 rfl rfl rfl rfl) ?_; refine TL.run 2 rfl ?_; refine TL.e (Ew.ao 2 rfl rfl rfl rfl (fun w hw hF => zc7 _ w hF p vp_2 hp_2 current prices vprices hprices fuel r90 hr90)) ?_; rintro _ _ ⟨v90_0_2, F2, le1_2, hf90_0_2, rfl, rfl⟩; haveI := hf90_0_2.oneC; refine TL.run 3 rfl ?_; refine TL.e (Ew.alloc rfl) ?_; rintro _ _ ⟨g25, rfl, rfl⟩; refine TL.e0 (Ew.ag 0 rfl rfl rfl rfl rfl rfl) ?_; rintro _ _ ⟨rfl, rfl⟩; refine TL.run 1 rfl ?_; refine TL.nx ?_; refine TL.run 2 rfl ?_; refine TL.ns ?_; have hq := zae hk; clear hk; obtain ⟨k9, hk9, hk⟩ := hq; (try dsimp only at hk); refine T.ad (ι := FzB w (fun _ => False) S0) (fun z => [(4, vl), (5, vblocks), (6, vstarts), (7, vclocks), (8, .int .i64 which), (9, .int .i64 rise), (10, .int .i64 seed), (11, .int .i64 scale), (12, .pointer (some ⟨g12, 0, none⟩)), (15, .pointer (some ⟨g15, 0, none⟩))]) (fun z => [.row g15 24 [.int .i64 q.Bidder, .int .i64 q.Budget, vq_2], .row g12 39 [.int .i64 p.Station, .int .i64 p.Home, vp_2], .fr z]) (fun z => k9 () = some r ∧ F2.toFrz.Le z.toFrz) ?_ ?_
      · refine T.cond rfl (fun h10 => ?_) (fun h10 => ?_)
        · have p10 := of_decide_eq_true h10; replace hk := zaa hk h10; refine T.seq ?_; have hq := zac hk; clear hk; obtain ⟨r100, hr100, hk⟩ := hq; (try dsimp only at hk); refine T.region ?_; refine TL.y (Yv.ak 2 rfl rfl rfl rfl) ?_; refine TL.y (Yv.fieldAddr rfl rfl) ?_; refine TL.y (Yv.af 0 rfl rfl rfl rfl) ?_; refine TL.run 1 rfl ?_; refine TL.e (Ew.ai rfl rfl rfl (fun w hw => zc2 _ w (hw.fr (i := 3) rfl) p vp_2 (SlC.mono hp_2 le1_2) r90.1.Preferred prices vprices (SlC.mono hprices le1_2) r100 hr100)) ?_; rintro _ _ ⟨rfl, rfl⟩; refine TL.run 5 rfl ?_; refine TL.ns (T.seq (T.seq ?_)); (try dsimp only at hk); have hq := zae hk; clear hk; obtain ⟨k12, hk12, hk⟩ := hq; (try dsimp only at hk); refine T.ad (ι := Bool) (fun z => [(1, .int .i64 current), (2, vprices), (4, vl), (5, vblocks), (6, vstarts), (7, vclocks), (8, .int .i64 which), (9, .int .i64 rise), (10, .int .i64 seed), (11, .int .i64 scale), (12, .pointer (some ⟨g12, 0, none⟩)), (15, .pointer (some ⟨g15, 0, none⟩)), (25, .pointer (some ⟨g25, 0, none⟩)), (27, .int .i64 r100.1), (112, .bool z)]) (fun z => [.row g25 52 [.int .i64 r90.1.Station, .int .i64 r90.1.Preferred, v90_0_2], .row g15 24 [.int .i64 q.Bidder, .int .i64 q.Budget, vq_2], .row g12 39 [.int .i64 p.Station, .int .i64 p.Home, vp_2], .fr F2]) (fun z => k12 z = some r) ?_ ?_
          · refine T.region ?_; refine TL.run 3 rfl ?_; refine TL.gs rfl rfl rfl (fun h13 => ?_) (fun h13 => ?_)
            · have p13 := of_decide_eq_true h13; replace hk := zaa hk h13; refine TL.run 7 rfl ?_; refine TL.nil ?_; exact K.ab true hk (.c (.c (.c (.c (.c (.c (.c (.c (.c (.c (.c (.c (.c (.c (.c .nil))))))))))))))) (List.Sublist.refl _)
            · have p13 := of_decide_eq_false h13; replace hk := zab hk h13; refine TL.y (Yv.ak 0 rfl rfl rfl rfl) ?_; refine TL.y (Yv.fieldAddr rfl rfl) ?_; refine TL.y (Yv.af 2 rfl rfl rfl rfl) ?_; refine TL.run 1 rfl ?_; have hq := zac hk; clear hk; obtain ⟨r110, hr110, hk⟩ := hq; refine TL.e (Ew.ai rfl rfl rfl (fun w hw => zet _ w (hw.fr (i := 3) rfl) r90.1 v90_0_2 hf90_0_2 p.Home current r110 hr110)) ?_; rintro _ _ ⟨rfl, rfl⟩; refine TL.run 2 rfl ?_; refine TL.nil ?_; exact K.ab (!r110) hk (.c (.c (.c (.c (.c (.c (.c (.c (.c (.c (.c (.c (.c (.c (.c .nil))))))))))))))) (List.Sublist.refl _)
          · rintro x_11 hk; rw [← hk12] at hk; (try dsimp only at hk); refine T.cond rfl (fun h14 => ?_) (fun h14 => ?_)
            · replace hk := zaa hk h14; refine T.sr ?_; refine TL.run 1 rfl ?_; refine TL.ns (T.ret (K.a (K.a ?_))); obtain rfl := Option.some.inj hk; exact K.ah rfl rfl (fun w' hw => ⟨rfl, hw.isBelow⟩)
            · replace hk := zab hk h14; refine T.skip (K.seq (T.seq (T.sr ?_))); refine TL.y (Yv.fieldAddr rfl rfl) ?_; refine TL.y (Yv.af 0 rfl rfl rfl rfl) ?_; refine TL.y (Yv.am rfl rfl hf90_0_2 (List.length_map _)) ?_; have hm115 : r90.1.Fallbacks.length ≤ 9223372036854775807 := (List.length_map _) ▸ hf90_0_2.max; refine TL.run 1 rfl ?_; refine TL.ns ?_; have hq := zae hk; clear hk; obtain ⟨k15, hk15, hk⟩ := hq; (try dsimp only at hk); refine T.ad (ι := Unit) (fun z => [(1, .int .i64 current), (4, vl), (5, vblocks), (6, vstarts), (7, vclocks), (8, .int .i64 which), (9, .int .i64 rise), (10, .int .i64 seed), (11, .int .i64 scale), (12, .pointer (some ⟨g12, 0, none⟩)), (15, .pointer (some ⟨g15, 0, none⟩)), (25, .pointer (some ⟨g25, 0, none⟩))]) (fun z => [.row g25 52 [.int .i64 r90.1.Station, .int .i64 r90.1.Preferred, v90_0_2], .row g15 24 [.int .i64 q.Bidder, .int .i64 q.Budget, vq_2], .row g12 39 [.int .i64 p.Station, .int .i64 p.Home, vp_2], .fr F2]) (fun z => k15 () = some r) ?_ ?_
              · have hq := zaw hk; clear hk; obtain ⟨f16, kk16, hf16, hkk16, hk⟩ := hq; refine T.block ?_; refine T.loop (ι := Nat) (fun z => [(1, .int .i64 current), (2, vprices), (4, vl), (5, vblocks), (6, vstarts), (7, vclocks), (8, .int .i64 which), (9, .int .i64 rise), (10, .int .i64 seed), (11, .int .i64 scale), (12, .pointer (some ⟨g12, 0, none⟩)), (15, .pointer (some ⟨g15, 0, none⟩)), (25, .pointer (some ⟨g25, 0, none⟩)), (27, .int .i64 r100.1), (114, v90_0_2), (115, .int .i64 (r90.1.Fallbacks.length : Int)), (116, .int .i64 (z : Int))]) (fun z => [.row g25 52 [.int .i64 r90.1.Station, .int .i64 r90.1.Preferred, v90_0_2], .row g15 24 [.int .i64 q.Bidder, .int .i64 q.Budget, vq_2], .row g12 39 [.int .i64 p.Station, .int .i64 p.Home, vp_2], .fr F2]) (fun z => zam f16 kk16 (r90.1.Fallbacks.length - z) z () = some r) (fun z => r90.1.Fallbacks.length - z) 0 ?_ ?_ ?_ ?_
                · exact hk
                · exact (.c (.c (.c (.c (.c (.c (.c (.c (.c (.c (.c (.c (.c (.c (.c (.c (.c .nil)))))))))))))))))
                · exact List.Sublist.refl _
                · rintro i_17 hk; refine T.sr ?_; refine TL.run 1 rfl ?_; refine TL.ns (T.seq ?_); refine T.cond rfl (fun h18 => ?_) (fun h18 => ?_)
                  · have p18 := of_decide_eq_true h18; rw [zaQ (by omega)] at hk; generalize hn16 : zam f16 kk16 (r90.1.Fallbacks.length - (i_17 + 1)) (i_17 + 1) = next16 at hk; rw [← hf16] at hk; (try dsimp only at hk); refine T.skip (K.seq (T.seq (T.block (T.sr ?_)))); refine TL.y (Yv.an (i := i_17) rfl rfl rfl hf90_0_2 (List.length_map _) rfl (by omega)) ?_; refine TL.y (Yv.al 3 (i := i_17) (j := 0) rfl rfl rfl hf90_0_2 (by omega) rfl rfl) ?_; refine TL.run 1 rfl ?_; refine TL.ns (T.seq ?_); have hq := zac hk; clear hk; obtain ⟨r124, hr124, hk⟩ := hq; (try dsimp only at hk); refine T.region ?_; refine TL.y (Yv.ak 2 rfl rfl rfl rfl) ?_; refine TL.run 2 rfl ?_; refine TL.e (Ew.ai rfl rfl rfl (fun w hw => zc2 _ w (hw.fr (i := 3) rfl) p vp_2 (SlC.mono hp_2 le1_2) (nth r90.1.Fallbacks i_17) prices vprices (SlC.mono hprices le1_2) r124 hr124)) ?_; rintro _ _ ⟨rfl, rfl⟩; refine TL.run 5 rfl ?_; refine TL.ns (T.seq ?_); refine T.ad (ι := Unit) (fun z => [(1, .int .i64 current), (2, vprices), (4, vl), (5, vblocks), (6, vstarts), (7, vclocks), (8, .int .i64 which), (9, .int .i64 rise), (10, .int .i64 seed), (11, .int .i64 scale), (12, .pointer (some ⟨g12, 0, none⟩)), (15, .pointer (some ⟨g15, 0, none⟩)), (25, .pointer (some ⟨g25, 0, none⟩)), (27, .int .i64 r100.1), (114, v90_0_2), (115, .int .i64 (r90.1.Fallbacks.length : Int)), (116, .int .i64 (i_17 : Int)), (133, .bool ((decide (¬ r124.2 = 0)) || (decide (r100.1 < r124.1))))]) (fun z => [.row g25 52 [.int .i64 r90.1.Station, .int .i64 r90.1.Preferred, v90_0_2], .row g15 24 [.int .i64 q.Bidder, .int .i64 q.Budget, vq_2], .row g12 39 [.int .i64 p.Station, .int .i64 p.Home, vp_2], .fr F2]) (fun z => True) ?_ ?_
                    · refine T.region ?_; refine TL.run 3 rfl ?_; refine TL.gs rfl rfl rfl (fun h19 => ?_) (fun h19 => ?_)
                      · have p19 := of_decide_eq_true h19; refine TL.run 4 rfl ?_; refine TL.nil ?_; exact K.ab () trivial (.c (.c (.c (.c (.c (.c (.c (.c (.c (.c (.c (.c (.c (.c (.c (.c (.c (.b (zas h19).symm .nil)))))))))))))))))) (List.Sublist.refl _)
                      · have p19 := of_decide_eq_false h19; refine TL.run 4 rfl ?_; refine TL.nil ?_; exact K.ab () trivial (.c (.c (.c (.c (.c (.c (.c (.c (.c (.c (.c (.c (.c (.c (.c (.c (.c (.b (or_f h19) .nil)))))))))))))))))) (List.Sublist.refl _)
                    · rintro _ _; refine T.cond rfl (fun h20 => ?_) (fun h20 => ?_)
                      · replace hk := zaa hk h20; refine T.sr ?_; refine TL.run 1 rfl ?_; refine TL.ns (T.ret (K.aj (K.a (K.a (K.aj (K.a (K.a ?_))))))); obtain rfl := Option.some.inj hk; exact K.ah rfl rfl (fun w' hw => ⟨rfl, hw.isBelow⟩)
                      · have p20 := h20; (try simp only [nfB] at p20); replace hk := zab hk h20; refine T.skip (K.ac (K.seq (T.region ?_))); refine TL.y (Yv.av rfl rfl rfl (by omega)) ?_; refine TL.run 1 rfl ?_; refine TL.nil ?_; rw [← hn16] at hk; exact K.next (i_17 + 1) hk (by omega) (.c (.c (.c (.c (.c (.c (.c (.c (.c (.c (.c (.c (.c (.c (.c (.c (.c .nil))))))))))))))))) (List.Sublist.refl _)
                  · have p18 := of_decide_eq_false h18; rw [zaR (by omega), ← hkk16] at hk; (try dsimp only at hk); refine T.exit (K.aa (K.aa (K.ae ?_))); exact K.ab () hk (.c (.c (.c (.c (.c (.c (.c (.c (.c (.c (.c (.c .nil)))))))))))) (List.Sublist.refl _)
              · rintro _ hk; rw [← hk15] at hk; (try dsimp only at hk); refine T.seq ?_; have hq := zac hk; clear hk; obtain ⟨r139, hr139, hk⟩ := hq; (try dsimp only at hk); refine T.region ?_; refine TL.y (Yv.fieldAddr rfl rfl) ?_; refine TL.y (Yv.af 2 rfl rfl rfl rfl) ?_; refine TL.run 1 rfl ?_; refine TL.e (Ew.aB [3, 0, 1, 2] [] [.row g25 52 [.int .i64 r90.1.Station, .int .i64 r90.1.Preferred, v90_0_2], .row g15 24 [.int .i64 q.Bidder, .int .i64 q.Budget, vq_2], .row g12 39 [.int .i64 p.Station, .int .i64 p.Home, vp_2]] rfl rfl rfl rfl (by decide) (fun w hw hw2 hF => zdz _ w hF p.Home current fuel r139 hr139)) ?_; rintro _ _ ⟨v139_0_0, -, rfl, rfl⟩; dsimp only [List.cons_append, List.nil_append]; refine TL.aI 0 rfl ?_; intro iv139_0_0 hmv139_0_0; refine TL.run 5 rfl ?_; refine TL.ns (T.seq ?_); refine T.ad (ι := Unit) (fun z => [(4, vl), (5, vblocks), (6, vstarts), (7, vclocks), (8, .int .i64 which), (9, .int .i64 rise), (10, .int .i64 seed), (11, .int .i64 scale), (12, .pointer (some ⟨g12, 0, none⟩)), (15, .pointer (some ⟨g15, 0, none⟩)), (152, .bool ((decide (¬ r139.2 = 0)) || (decide (¬ (r139.1.length : Int) = wI (1 + (r90.1.Fallbacks.length : Int))))))]) (fun z => [.sl v139_0_0 3 1 r139.1.length (r139.1.flatMap eI), .row g25 52 [.int .i64 r90.1.Station, .int .i64 r90.1.Preferred, v90_0_2], .row g15 24 [.int .i64 q.Bidder, .int .i64 q.Budget, vq_2], .row g12 39 [.int .i64 p.Station, .int .i64 p.Home, vp_2], .fr F2]) (fun z => True) ?_ ?_
                · refine T.region ?_; refine TL.run 3 rfl ?_; refine TL.gs rfl rfl rfl (fun h21 => ?_) (fun h21 => ?_)
                  · have p21 := of_decide_eq_true h21; refine TL.run 8 rfl ?_; refine TL.nil ?_; refine K.pick [0, 2, 3, 4, 1] rfl (by decide) ?_; exact K.ab () trivial (.c (.c (.c (.c (.c (.c (.c (.c (.c (.c (.b (zas h21).symm .nil))))))))))) (List.Sublist.refl _)
                  · have p21 := of_decide_eq_false h21; refine TL.run 1 rfl ?_; refine TL.y (Yv.be 0 rfl rfl rfl) ?_; refine TL.y (Yv.fieldAddr rfl rfl) ?_; refine TL.y (Yv.af 2 rfl rfl rfl rfl) ?_; refine TL.y (Yv.am rfl rfl hf90_0_2 (List.length_map _)) ?_; refine TL.y (Yv.as (v := .int .i64 (wI (1 + (r90.1.Fallbacks.length : Int)))) rfl) ?_; refine TL.run 2 rfl ?_; refine TL.nil ?_; refine K.pick [0, 2, 3, 4, 1] rfl (by decide) ?_; exact K.ab () trivial (.c (.c (.c (.c (.c (.c (.c (.c (.c (.c (.b (or_f h21) .nil))))))))))) (List.Sublist.refl _)
                · rintro _ _; refine T.cond rfl (fun h22 => ?_) (fun h22 => ?_)
                  · replace hk := zaa hk h22; refine T.sr ?_; refine TL.run 1 rfl ?_; refine TL.ns (T.ret (K.a ?_)); obtain rfl := Option.some.inj hk; exact K.ah rfl rfl (fun w' hw => ⟨rfl, hw.isBelow⟩)
                  · have p22 := h22; (try simp only [nfB] at p22); replace hk := zab hk h22; refine T.skip ?_; refine K.pick [2, 3, 4] rfl (by decide) ?_; exact K.ab F2 ⟨hk, (Frz.Le.refl _)⟩ (.c (.c (.c (.c (.c (.c (.c (.c (.c (.c .nil)))))))))) (List.Sublist.refl _)
        · have p10 := of_decide_eq_false h10; replace hk := zab hk h10; refine T.skip ?_; refine K.pick [1, 2, 3] rfl (by decide) ?_; exact K.ab F2 ⟨hk, (Frz.Le.refl _)⟩ (.c (.c (.c (.c (.c (.c (.c (.c (.c (.c .nil)))))))))) (List.Sublist.refl _)
      · rintro F3 ⟨hk, le2_3⟩; rw [← hk9] at hk; (try dsimp only at hk); have le1_3 := le1_2.trans le2_3; refine T.seq ?_; have hq := zac hk; clear hk; obtain ⟨r157, hr157, hk⟩ := hq; (try dsimp only at hk); refine T.region ?_; refine TL.y (Yv.ak 0 rfl rfl rfl rfl) ?_; refine TL.run 2 rfl ?_; refine TL.e (Ew.ao 2 rfl rfl rfl rfl (fun w hw hF => zcj _ w hF q vq_2 cq_2 (SlD.mono (rep := R_List_Int.rep) (fun _ _ _ _ => R_List_Int.mono) hq_2 le1_3) l vl (SlC.mono hl le1_3) clocks vclocks (SlC.mono hclocks le1_3) fuel r157 hr157)) ?_; rintro _ _ ⟨v157_0_0, F4, le3_4, hf157_0_0, rfl, rfl⟩; have le1_4 := le1_3.trans le3_4; haveI := hf157_0_0.oneC; refine TL.run 5 rfl ?_; refine TL.ns (T.seq (T.sr ?_)); refine TL.run 2 rfl ?_; refine TL.ns ?_; have hq := zae hk; clear hk; obtain ⟨k23, hk23, hk⟩ := hq; (try dsimp only at hk); refine T.ad (ι := Unit) (fun z => [(4, vl), (5, vblocks), (6, vstarts), (7, vclocks), (10, .int .i64 seed), (11, .int .i64 scale), (12, .pointer (some ⟨g12, 0, none⟩)), (15, .pointer (some ⟨g15, 0, none⟩)), (35, v157_0_0), (36, .int .i64 r157.2)]) (fun z => [.row g15 24 [.int .i64 q.Bidder, .int .i64 q.Budget, vq_2], .row g12 39 [.int .i64 p.Station, .int .i64 p.Home, vp_2], .fr F4]) (fun z => k23 () = some r) ?_ ?_
        · refine T.cond rfl (fun h24 => ?_) (fun h24 => ?_)
          · have p24 := of_decide_eq_true h24; replace hk := zaa hk h24; refine T.seq (T.seq ?_); have hq := zac hk; clear hk; obtain ⟨r166, hr166, hk⟩ := hq; (try dsimp only at hk); refine T.region ?_; refine TL.run 3 rfl ?_; refine TL.e (Ew.ai rfl rfl rfl (fun w hw => zd9 _ w (hw.fr (i := 2) rfl) l vl (SlC.mono hl le1_4) clocks vclocks (SlC.mono hclocks le1_4) r157.1 v157_0_0 hf157_0_0 r166 hr166)) ?_; rintro _ _ ⟨rfl, rfl⟩; refine TL.run 5 rfl ?_; refine TL.ns (T.seq ?_); (try dsimp only at hk); have hq := zae hk; clear hk; obtain ⟨k26, hk26, hk⟩ := hq; (try dsimp only at hk); refine T.ad (ι := Bool) (fun z => [(4, vl), (5, vblocks), (6, vstarts), (7, vclocks), (8, .int .i64 which), (9, .int .i64 rise), (10, .int .i64 seed), (11, .int .i64 scale), (12, .pointer (some ⟨g12, 0, none⟩)), (15, .pointer (some ⟨g15, 0, none⟩)), (35, v157_0_0), (36, .int .i64 r157.2), (182, .bool z)]) (fun z => [.row g15 24 [.int .i64 q.Bidder, .int .i64 q.Budget, vq_2], .row g12 39 [.int .i64 p.Station, .int .i64 p.Home, vp_2], .fr F4]) (fun z => k26 z = some r) ?_ ?_
            · refine T.region ?_; refine TL.run 3 rfl ?_; refine TL.gs rfl rfl rfl (fun h27 => ?_) (fun h27 => ?_)
              · have p27 := of_decide_eq_true h27; replace hk := zaa hk h27; refine TL.run 11 rfl ?_; refine TL.nil ?_; exact K.ab true hk (.c (.c (.c (.c (.c (.c (.c (.c (.c (.c (.c (.c (.c .nil))))))))))))) (List.Sublist.refl _)
              · have p27 := of_decide_eq_false h27; replace hk := zab hk h27; refine TL.run 1 rfl ?_; refine TL.y (Yv.fieldAddr rfl rfl) ?_; refine TL.y (Yv.af 0 rfl rfl rfl rfl) ?_; refine TL.run 3 rfl ?_; refine TL.gs rfl rfl rfl (fun h28 => ?_) (fun h28 => ?_)
                · have p28 := of_decide_eq_true h28; replace hk := zaa hk h28; refine TL.run 5 rfl ?_; refine TL.nil ?_; exact K.ab true hk (.c (.c (.c (.c (.c (.c (.c (.c (.c (.c (.c (.c (.c .nil))))))))))))) (List.Sublist.refl _)
                · have p28 := of_decide_eq_false h28; replace hk := zab hk h28; refine TL.run 2 rfl ?_; have hq := zac hk; clear hk; obtain ⟨r180, hr180, hk⟩ := hq; refine TL.e (Ew.ai rfl rfl rfl (fun w hw => zdi _ w (hw.fr (i := 2) rfl) l vl (SlC.mono hl le1_4) r157.1 v157_0_0 hf157_0_0 r180 hr180)) ?_; rintro _ _ ⟨rfl, rfl⟩; refine TL.run 2 rfl ?_; refine TL.nil ?_; exact K.ab (!r180) hk (.c (.c (.c (.c (.c (.c (.c (.c (.c (.c (.c (.c (.c .nil))))))))))))) (List.Sublist.refl _)
            · rintro x_25 hk; rw [← hk26] at hk; (try dsimp only at hk); refine T.cond rfl (fun h29 => ?_) (fun h29 => ?_)
              · replace hk := zaa hk h29; refine T.sr ?_; refine TL.run 1 rfl ?_; refine TL.ns (T.ret (K.a (K.a ?_))); obtain rfl := Option.some.inj hk; exact K.ah rfl rfl (fun w' hw => ⟨rfl, hw.isBelow⟩)
              · replace hk := zab hk h29; refine T.skip (K.seq (T.seq ?_)); have hq := zac hk; clear hk; obtain ⟨r188, hr188, hk⟩ := hq; (try dsimp only at hk); refine T.region ?_; refine TL.y (Yv.ak 0 rfl rfl rfl rfl) ?_; refine TL.run 4 rfl ?_; refine TL.e (Ew.ai rfl rfl rfl (fun w hw => zfk _ w (hw.fr (i := 2) rfl) q vq_2 cq_2 (SlD.mono (rep := R_List_Int.rep) (fun _ _ _ _ => R_List_Int.mono) hq_2 le1_4) l vl (SlC.mono hl le1_4) clocks vclocks (SlC.mono hclocks le1_4) which rise fuel r188 hr188)) ?_; rintro _ _ ⟨rfl, rfl⟩; refine TL.run 1 rfl ?_; refine TL.ns ?_; refine T.cond rfl (fun h30 => ?_) (fun h30 => ?_)
                · replace hk := zaa hk h30; refine T.sr ?_; refine TL.run 1 rfl ?_; refine TL.ns (T.ret (K.a ?_)); obtain rfl := Option.some.inj hk; exact K.ah rfl rfl (fun w' hw => ⟨rfl, hw.isBelow⟩)
                · replace hk := zab hk h30; refine T.skip ?_; exact K.ab () hk (.c (.c (.c (.c (.c (.c (.c (.c (.c (.c .nil)))))))))) (List.Sublist.refl _)
          · have p24 := of_decide_eq_false h24; replace hk := zab hk h24; refine T.skip ?_; exact K.ab () hk (.c (.c (.c (.c (.c (.c (.c (.c (.c (.c .nil)))))))))) (List.Sublist.refl _)
        · rintro _ hk; rw [← hk23] at hk; (try dsimp only at hk); refine T.seq (T.seq ?_); have hq := zac hk; clear hk; obtain ⟨r196, hr196, hk⟩ := hq; (try dsimp only at hk); refine T.region ?_; refine TL.y (Yv.ak 0 rfl rfl rfl rfl) ?_; refine TL.run 4 rfl ?_; refine TL.e (Ew.ao 2 rfl rfl rfl rfl (fun w hw hF => zea _ w hF q vq_2 cq_2 (SlD.mono (rep := R_List_Int.rep) (fun _ _ _ _ => R_List_Int.mono) hq_2 le1_4) l vl (SlC.mono hl le1_4) blocks vblocks (SlC.mono hblocks le1_4) starts vstarts (SlC.mono hstarts le1_4) clocks vclocks (SlC.mono hclocks le1_4) fuel r196 hr196)) ?_; rintro _ _ ⟨⟨v196_0_0, cs196_0_0⟩, F5, le4_5, hf196_0_0, rfl, rfl⟩; dsimp only at hf196_0_0 ⊢; have le1_5 := le1_4.trans le4_5; haveI := hf196_0_0.1.oneC; refine TL.run 5 rfl ?_; refine TL.nx ?_; refine TL.run 2 rfl ?_; refine TL.ns ?_; have hq := zae hk; clear hk; obtain ⟨k31, hk31, hk⟩ := hq; (try dsimp only at hk); refine T.ad (ι := FzB w (fun _ => False) S0) (fun z => [(4, vl), (10, .int .i64 seed), (11, .int .i64 scale), (12, .pointer (some ⟨g12, 0, none⟩)), (15, .pointer (some ⟨g15, 0, none⟩))]) (fun z => [.row g15 24 [.int .i64 q.Bidder, .int .i64 q.Budget, vq_2], .row g12 39 [.int .i64 p.Station, .int .i64 p.Home, vp_2], .fr z]) (fun z => k31 () = some r ∧ F5.toFrz.Le z.toFrz) ?_ ?_
          · refine T.cond rfl (fun h32 => ?_) (fun h32 => ?_)
            · have p32 := of_decide_eq_true h32; replace hk := zaa hk h32; refine T.seq ?_; have hq : (room ([] ++ blocks).length 8) ∧ _ := zaf hk; clear hk; obtain ⟨g202, hk⟩ := hq; (try dsimp only at hk); refine T.region ?_; refine TL.run 1 rfl ?_; refine TL.slNil 3 1 ?_; refine TL.e (Ew.bc 0 3 (zgc (fun _ => inferInstance)) rfl rfl rfl rfl rfl (SlC.mono hblocks le1_5) (zgz (xs := ([] : List Int))) (zfN (xs := ([] : List Int))) g202 (by decide)) ?_; rintro v202 _ ⟨hv202, rfl⟩; refine TL.run 1 rfl ?_; refine TL.ns (T.seq (T.sr ?_)); refine TL.run 1 rfl ?_; refine TL.ns ?_; have hq := zae hk; clear hk; obtain ⟨k34, hk34, hk⟩ := hq; (try dsimp only at hk); refine T.ad (ι := List Int) (fun z => [(4, vl), (10, .int .i64 seed), (11, .int .i64 scale), (12, .pointer (some ⟨g12, 0, none⟩)), (15, .pointer (some ⟨g15, 0, none⟩)), (35, v157_0_0), (36, .int .i64 r157.2), (41, v202)]) (fun z => [.sl v202 3 1 z.length (z.flatMap eI), .row g15 24 [.int .i64 q.Bidder, .int .i64 q.Budget, vq_2], .row g12 39 [.int .i64 p.Station, .int .i64 p.Home, vp_2], .fr F5]) (fun z => k34 z = some r) ?_ ?_
              · have hq := zaw hk; clear hk; obtain ⟨f36, kk36, hf36, hkk36, hk⟩ := hq; refine T.block ?_; refine T.loop (ι := Nat × List Int) (fun z => [(4, vl), (10, .int .i64 seed), (11, .int .i64 scale), (12, .pointer (some ⟨g12, 0, none⟩)), (15, .pointer (some ⟨g15, 0, none⟩)), (35, v157_0_0), (36, .int .i64 r157.2), (39, v196_0_0), (41, v202), (42, .int .i64 (z.1 : Int))]) (fun z => [.sl v202 3 1 z.2.length (z.2.flatMap eI), .row g15 24 [.int .i64 q.Bidder, .int .i64 q.Budget, vq_2], .row g12 39 [.int .i64 p.Station, .int .i64 p.Home, vp_2], .fr F5]) (fun z => zam f36 kk36 (r196.1.length - z.1) z.1 z.2 = some r) (fun z => r196.1.length - z.1) (0, ([] ++ blocks)) ?_ ?_ ?_ ?_
                · exact hk
                · exact (.c (.c (.c (.c (.c (.c (.c (.c (.c (.c .nil))))))))))
                · exact List.Sublist.refl _
                · rintro ⟨i_37, l_35⟩ hk; (try dsimp only at *); refine T.seq (T.sr ?_); refine TL.run 2 rfl ?_; refine TL.y (Yv.am rfl rfl hf196_0_0.1 hf196_0_0.2.1) ?_; have hm205 : r196.1.length ≤ 9223372036854775807 := hf196_0_0.2.1 ▸ hf196_0_0.1.max; refine TL.run 1 rfl ?_; refine TL.ns ?_; refine T.cond rfl (fun h38 => ?_) (fun h38 => ?_)
                  · have p38 := of_decide_eq_true h38; rw [zaQ (by omega)] at hk; generalize hn36 : zam f36 kk36 (r196.1.length - (i_37 + 1)) (i_37 + 1) = next36 at hk; rw [← hf36] at hk; (try dsimp only at hk); refine T.skip (K.seq (T.seq (T.block (T.seq (T.seq ?_))))); refine T.ad (ι := Unit) (fun z => [(4, vl), (10, .int .i64 seed), (11, .int .i64 scale), (12, .pointer (some ⟨g12, 0, none⟩)), (15, .pointer (some ⟨g15, 0, none⟩)), (35, v157_0_0), (36, .int .i64 r157.2), (39, v196_0_0), (41, v202), (42, .int .i64 (i_37 : Int)), (224, .bool ((decide ((nth r196.1 i_37).Product < 0)) || (decide ((l_35.length : Int) ≤ (nth r196.1 i_37).Product))))]) (fun z => [.sl v202 3 1 l_35.length (l_35.flatMap eI), .row g15 24 [.int .i64 q.Bidder, .int .i64 q.Budget, vq_2], .row g12 39 [.int .i64 p.Station, .int .i64 p.Home, vp_2], .fr F5]) (fun z => True) ?_ ?_
                    · refine T.region ?_; refine TL.run 2 rfl ?_; refine TL.y (Yv.an (i := i_37) rfl rfl rfl hf196_0_0.1 hf196_0_0.2.1 rfl (by omega)) ?_; refine TL.y (Yv.aN rfl rfl hf196_0_0.1 hf196_0_0.2.1 (by omega)) ?_; refine TL.y (Yv.aJ 3 (i := i_37) (j := 1) rfl rfl rfl hf196_0_0.1 hf196_0_0.2.1 (by omega) rfl (GBid.c1 (hf196_0_0.2.2 i_37 (by omega)))) ?_; refine TL.run 2 rfl ?_; refine TL.gs rfl rfl rfl (fun h39 => ?_) (fun h39 => ?_)
                      · have p39 := of_decide_eq_true h39; refine TL.run 9 rfl ?_; refine TL.nil ?_; exact K.ab () trivial (.c (.c (.c (.c (.c (.c (.c (.c (.c (.c (.b (zas h39).symm .nil))))))))))) (List.Sublist.refl _)
                      · have p39 := of_decide_eq_false h39; refine TL.run 2 rfl ?_; refine TL.y (Yv.an (i := i_37) rfl rfl rfl hf196_0_0.1 hf196_0_0.2.1 rfl (by omega)) ?_; refine TL.y (Yv.aN rfl rfl hf196_0_0.1 hf196_0_0.2.1 (by omega)) ?_; refine TL.y (Yv.aJ 3 (i := i_37) (j := 1) rfl rfl rfl hf196_0_0.1 hf196_0_0.2.1 (by omega) rfl (GBid.c1 (hf196_0_0.2.2 i_37 (by omega)))) ?_; refine TL.run 1 rfl ?_; refine TL.y (Yv.be 0 rfl rfl rfl) ?_; refine TL.run 2 rfl ?_; refine TL.nil ?_; exact K.ab () trivial (.c (.c (.c (.c (.c (.c (.c (.c (.c (.c (.b (or_f h39) .nil))))))))))) (List.Sublist.refl _)
                    · rintro _ _; refine T.cond rfl (fun h40 => ?_) (fun h40 => ?_)
                      · replace hk := zaa hk h40; refine T.sr ?_; refine TL.run 1 rfl ?_; refine TL.ns (T.ret (K.a (K.aj (K.a (K.a (K.aj (K.a (K.a ?_)))))))); obtain rfl := Option.some.inj hk; exact K.ah rfl rfl (fun w' hw => ⟨rfl, hw.isBelow⟩)
                      · have p40 := h40; (try simp only [nfB] at p40); replace hk := zab hk h40; refine T.skip (K.seq ?_); refine T.ax (.still 0 (.still 1 (.still 2 (.still 3 (.still 4 (.still 5 (.still 8 (.still 9 (.still 10 (.still 11 (.still 12 (.eff 6 (.eff 7 (.still 13 (.eff 14 (.eff 15 .done)))))))))))))))) [.row g15 24 [.int .i64 q.Bidder, .int .i64 q.Budget, vq_2], .row g12 39 [.int .i64 p.Station, .int .i64 p.Home, vp_2], .fr F5] (by kernel_rfl) Sx ?_; refine TS.run 3 rfl ?_; refine TS.y rfl (Yv.an (i := i_37) rfl rfl rfl hf196_0_0.1 hf196_0_0.2.1 rfl (by omega)) ?_; refine TS.y rfl (Yv.aN rfl rfl hf196_0_0.1 hf196_0_0.2.1 (by omega)) ?_; refine TS.y rfl (Yv.aJ 2 (i := i_37) (j := 1) rfl rfl rfl hf196_0_0.1 hf196_0_0.2.1 (by omega) rfl (GBid.c1 (hf196_0_0.2.2 i_37 (by omega)))) ?_; refine TS.run 2 rfl ?_; refine TS.y rfl (Yv.an (i := i_37) rfl rfl rfl hf196_0_0.1 hf196_0_0.2.1 rfl (by omega)) ?_; refine TS.y rfl (Yv.aN rfl rfl hf196_0_0.1 hf196_0_0.2.1 (by omega)) ?_; refine TS.y rfl (Yv.aJ 2 (i := i_37) (j := 2) rfl rfl rfl hf196_0_0.1 hf196_0_0.2.1 (by omega) rfl (GBid.c2 (hf196_0_0.2.2 i_37 (by omega)))) ?_; refine TS.eff ?_; refine TSo.ay rfl (Wt.none rfl) rfl rfl (Yv.ar 0 (i := ((nth r196.1 i_37).Product).toNat) rfl rfl rfl rfl (by omega) (by omega)) (fun w hw => hw.sub Sx) ?_; refine TS.eff ?_; refine TSo.ay rfl (Wt.none rfl) rfl rfl (Yv.au 0 rfl rfl rfl (by omega) (za1 (enc := eI) (i := ((nth r196.1 i_37).Product).toNat) (j := 0) (fun _ => rfl) (by omega) (by decide) rfl)) (fun w hw => hw.sub Sx) ?_; refine TS.y rfl (Yv.as (v := .int .i64 (wI ((nth l_35 (((nth r196.1 i_37).Product).toNat)) + ((nth r196.1 i_37).Change)))) rfl) ?_; refine TS.eff ?_; refine TSo.ay rfl (Wt.none rfl) rfl rfl (Yv.ar 0 (i := ((nth r196.1 i_37).Product).toNat) rfl rfl rfl rfl (by omega) (by omega)) (fun w hw => hw.sub Sx) ?_; refine TS.eff ?_; refine TSo.ewG0 rfl (Wt.none rfl) rfl (Ew.aq 0 (k' := (l_35.set (((nth r196.1 i_37).Product).toNat) (wI ((nth l_35 (((nth r196.1 i_37).Product).toNat)) + ((nth r196.1 i_37).Change)))).length) (l' := (l_35.set (((nth r196.1 i_37).Product).toNat) (wI ((nth l_35 (((nth r196.1 i_37).Product).toNat)) + ((nth r196.1 i_37).Change)))).flatMap eI) rfl rfl rfl rfl (by omega) (zaB (enc := eI) (xs := l_35) (i := ((nth r196.1 i_37).Product).toNat) (j := 0) (size := 1) (fun _ => rfl) (by omega) (by decide) (by first | omega | simp)) (zaK (enc := eI) (xs := l_35) (i := ((nth r196.1 i_37).Product).toNat) (j := 0) (size := 1) (x := (wI ((nth l_35 (((nth r196.1 i_37).Product).toNat)) + ((nth r196.1 i_37).Change)))) (fun _ => rfl) (by omega) (by decide) (by first | omega | simp) rfl) (List.length_set ..)) ?_; rintro _ _ ⟨rfl, rfl⟩; refine ⟨(fun w hw => hw.sub Sx), ?_⟩; refine TS.done ?_; refine K.ac (K.seq (T.region ?_)); refine TL.run 1 rfl ?_; refine TL.y (Yv.av rfl rfl rfl (by omega)) ?_; refine TL.run 1 rfl ?_; refine TL.nil ?_; rw [← hn36] at hk; exact K.next ((i_37 + 1), (l_35.set (((nth r196.1 i_37).Product).toNat) (wI ((nth l_35 (((nth r196.1 i_37).Product).toNat)) + ((nth r196.1 i_37).Change))))) hk (by dsimp only; omega) (.c (.c (.c (.c (.c (.c (.c (.c (.c (.c .nil)))))))))) (List.Sublist.refl _)
                  · have p38 := of_decide_eq_false h38; rw [zaR (by omega), ← hkk36] at hk; (try dsimp only at hk); refine T.exit (K.aa (K.aa (K.ae ?_))); exact K.ab l_35 hk (.c (.c (.c (.c (.c (.c (.c (.c .nil)))))))) (List.Sublist.refl _)
              · rintro l_33 hk; rw [← hk34] at hk; (try dsimp only at hk); refine T.seq ?_; refine T.aA (fun w hw => hw.freezeS (i := 3) (j := 0) (by decide) rfl rfl) ?_; rintro F7 ⟨le5_7, hz7⟩; dsimp only [List.set, List.eraseIdx]; have le4_7 := le4_5.trans le5_7; have hfF7 := hz7.toF rfl (fun _ => rfl); haveI := hfF7.oneC; refine T.ad (ι := Unit) (fun z => [(4, vl), (10, .int .i64 seed), (11, .int .i64 scale), (12, .pointer (some ⟨g12, 0, none⟩)), (15, .pointer (some ⟨g15, 0, none⟩)), (247, .bool ((decide (¬ r157.2 = 0)) || (!(za2 l_33 r157.1))))]) (fun z => [.row g15 24 [.int .i64 q.Bidder, .int .i64 q.Budget, vq_2], .row g12 39 [.int .i64 p.Station, .int .i64 p.Home, vp_2], .fr F7]) (fun z => True) ?_ ?_
                · refine T.region ?_; refine TL.run 3 rfl ?_; refine TL.gs rfl rfl rfl (fun h41 => ?_) (fun h41 => ?_)
                  · have p41 := of_decide_eq_true h41; refine TL.run 5 rfl ?_; refine TL.nil ?_; exact K.ab () trivial (.c (.c (.c (.c (.c (.b (zas h41).symm .nil)))))) (List.Sublist.refl _)
                  · have p41 := of_decide_eq_false h41; refine TL.run 2 rfl ?_; refine TL.e (Ew.ai rfl rfl rfl (fun w hw => zdh _ w (hw.fr (i := 2) rfl) l_33 v202 hfF7 r157.1 v157_0_0 (SlC.mono hf157_0_0 le4_7))) ?_; rintro _ _ ⟨rfl, rfl⟩; refine TL.run 2 rfl ?_; refine TL.nil ?_; exact K.ab () trivial (.c (.c (.c (.c (.c (.b (or_f h41) .nil)))))) (List.Sublist.refl _)
                · rintro _ _; refine T.cond rfl (fun h42 => ?_) (fun h42 => ?_)
                  · replace hk := zaa hk h42; refine T.sr ?_; refine TL.run 1 rfl ?_; refine TL.ns (T.ret (K.a ?_)); obtain rfl := Option.some.inj hk; exact K.ah rfl rfl (fun w' hw => ⟨rfl, hw.isBelow⟩)
                  · have p42 := h42; (try simp only [nfB] at p42); replace hk := zab hk h42; refine T.skip ?_; exact K.ab F7 ⟨hk, le5_7⟩ (.c (.c (.c (.c (.c .nil))))) (List.Sublist.refl _)
            · have p32 := of_decide_eq_false h32; replace hk := zab hk h32; refine T.skip ?_; exact K.ab F5 ⟨hk, (Frz.Le.refl _)⟩ (.c (.c (.c (.c (.c .nil))))) (List.Sublist.refl _)
          · rintro F6 ⟨hk, le5_6⟩; rw [← hk31] at hk; (try dsimp only at hk); have le1_6 := le1_5.trans le5_6; refine T.seq (T.seq ?_); have hq := zac hk; clear hk; obtain ⟨r255, hr255, hk⟩ := hq; (try dsimp only at hk); refine T.region ?_; refine TL.run 1 rfl ?_; refine TL.y (Yv.fieldAddr rfl rfl) ?_; refine TL.y (Yv.af 1 rfl rfl rfl rfl) ?_; refine TL.y (Yv.fieldAddr rfl rfl) ?_; refine TL.y (Yv.af 1 rfl rfl rfl rfl) ?_; refine TL.run 1 rfl ?_; refine TL.e (Ew.ao 2 rfl rfl rfl rfl (fun w hw hF => zdQ _ w hF seed p.Station p.Home scale fuel r255 hr255)) ?_; rintro _ _ ⟨v255_0_2, F8, le6_8, hf255_0_2, rfl, rfl⟩; have le1_8 := le1_6.trans le6_8; haveI := hf255_0_2.oneC; refine TL.run 3 rfl ?_; refine TL.e (Ew.alloc rfl) ?_; rintro _ _ ⟨g43, rfl, rfl⟩; refine TL.e0 (Ew.ag 0 rfl rfl rfl rfl rfl rfl) ?_; rintro _ _ ⟨rfl, rfl⟩; refine TL.run 1 rfl ?_; refine TL.ns (T.seq ?_); refine T.ad (ι := Unit) (fun z => [(4, vl), (10, .int .i64 seed), (11, .int .i64 scale), (15, .pointer (some ⟨g15, 0, none⟩)), (264, .bool ((decide (r255.2 = 0)) && (!(zau r255.1))))]) (fun z => [.row g43 39 [.int .i64 r255.1.Station, .int .i64 r255.1.Home, v255_0_2], .row g15 24 [.int .i64 q.Bidder, .int .i64 q.Budget, vq_2], .row g12 39 [.int .i64 p.Station, .int .i64 p.Home, vp_2], .fr F8]) (fun z => True) ?_ ?_
            · refine T.region ?_; refine TL.run 3 rfl ?_; refine TL.gs rfl rfl rfl (fun h43 => ?_) (fun h43 => ?_)
              · have p43 := of_decide_eq_true h43; refine TL.y (Yv.ak 0 rfl rfl rfl rfl) ?_; refine TL.e (Ew.ai rfl rfl rfl (fun w hw => zcX _ w (hw.fr (i := 3) rfl) r255.1 v255_0_2 hf255_0_2)) ?_; rintro _ _ ⟨rfl, rfl⟩; refine TL.run 2 rfl ?_; refine TL.nil ?_; exact K.ab () trivial (.c (.c (.c (.c (.b (zcY h43) .nil))))) (List.Sublist.refl _)
              · have p43 := of_decide_eq_false h43; refine TL.run 4 rfl ?_; refine TL.nil ?_; exact K.ab () trivial (.c (.c (.c (.c (.b (za8 h43).symm .nil))))) (List.Sublist.refl _)
            · rintro _ _; refine T.cond rfl (fun h44 => ?_) (fun h44 => ?_)
              · have p44 := h44; (try simp only [nfB] at p44); replace hk := zaa hk h44; refine T.sr ?_; refine TL.run 1 rfl ?_; refine TL.ns (T.ret (K.a ?_)); obtain rfl := Option.some.inj hk; exact K.ah rfl rfl (fun w' hw => ⟨rfl, hw.isBelow⟩)
              · replace hk := zab hk h44; refine T.skip (K.seq (T.seq (T.seq ?_))); have hq := zac hk; clear hk; obtain ⟨r271, hr271, hk⟩ := hq; (try dsimp only at hk); refine T.region ?_; refine TL.run 1 rfl ?_; refine TL.y (Yv.fieldAddr rfl rfl) ?_; refine TL.y (Yv.af 1 rfl rfl rfl rfl) ?_; refine TL.run 2 rfl ?_; refine TL.e (Ew.ao 3 rfl rfl rfl rfl (fun w hw hF => zdV _ w hF seed q.Bidder l vl (SlC.mono hl le1_8) scale fuel r271 hr271)) ?_; rintro _ _ ⟨⟨v271_0_2, cs271_0_2⟩, F9, le8_9, hf271_0_2, rfl, rfl⟩; dsimp only at hf271_0_2 ⊢; have le1_9 := le1_8.trans le8_9; haveI := hf271_0_2.1.oneC; refine TL.run 3 rfl ?_; refine TL.e (Ew.alloc rfl) ?_; rintro _ _ ⟨g45, rfl, rfl⟩; refine TL.e0 (Ew.ag 0 rfl rfl rfl rfl rfl rfl) ?_; rintro _ _ ⟨rfl, rfl⟩; refine TL.run 1 rfl ?_; refine TL.ns (T.seq ?_); (try dsimp only at hk); have hq := zae hk; clear hk; obtain ⟨k46, hk46, hk⟩ := hq; (try dsimp only at hk); refine T.ad (ι := Bool) (fun z => [(286, .bool z)]) (fun z => [.fr F9]) (fun z => k46 z = some r) ?_ ?_
                · refine T.region ?_; refine TL.run 3 rfl ?_; refine TL.gs rfl rfl rfl (fun h47 => ?_) (fun h47 => ?_)
                  · have p47 := of_decide_eq_true h47; replace hk := zaa hk h47; refine TL.y (Yv.ak 0 rfl rfl rfl rfl) ?_; refine TL.run 1 rfl ?_; have hq := zac hk; clear hk; obtain ⟨r279, hr279, hk⟩ := hq; refine TL.e (Ew.ai rfl rfl rfl (fun w hw => zcs _ w (hw.fr (i := 4) rfl) r271.1 v271_0_2 cs271_0_2 hf271_0_2 l vl (SlC.mono hl le1_9) r279 hr279)) ?_; rintro _ _ ⟨rfl, rfl⟩; refine TL.run 2 rfl ?_; refine TL.gs rfl rfl rfl (fun h48 => ?_) (fun h48 => ?_)
                    · replace hk := zaa hk h48; refine TL.run 5 rfl ?_; refine TL.nil ?_; refine K.pick [4] rfl (by decide) ?_; exact K.ab true hk (.c .nil) (List.Sublist.refl _)
                    · replace hk := zab hk h48; refine TL.run 1 rfl ?_; refine TL.e (Ew.ai rfl rfl rfl (fun w hw => zfm _ w (hw.fr (i := 4) rfl) l vl (SlC.mono hl le1_9))) ?_; rintro _ _ ⟨rfl, rfl⟩; refine TL.run 3 rfl ?_; refine TL.nil ?_; refine K.pick [4] rfl (by decide) ?_; exact K.ab (!(zaq l)) hk (.c .nil) (List.Sublist.refl _)
                  · have p47 := of_decide_eq_false h47; replace hk := zab hk h47; refine TL.run 10 rfl ?_; refine TL.nil ?_; refine K.pick [4] rfl (by decide) ?_; exact K.ab false hk (.c .nil) (List.Sublist.refl _)
                · rintro x_45 hk; rw [← hk46] at hk; (try dsimp only at hk); refine T.cond rfl (fun h49 => ?_) (fun h49 => ?_)
                  · replace hk := zaa hk h49; refine T.sr ?_; refine TL.run 1 rfl ?_; refine TL.ns (T.ret (K.a ?_)); obtain rfl := Option.some.inj hk; exact K.ah rfl rfl (fun w' hw => ⟨rfl, hw.isBelow⟩)
                  · replace hk := zab hk h49; refine T.skip (K.seq (T.seq ?_)); have hq := zac hk; clear hk; obtain ⟨r287, hr287, hk⟩ := hq; (try dsimp only at hk); refine T.region ?_; refine TL.e (Ew.ai rfl rfl rfl (fun w hw => zd4 _ w (hw.fr (i := 0) rfl)  fuel r287 hr287)) ?_; rintro _ _ ⟨rfl, rfl⟩; refine TL.run 1 rfl ?_; refine TL.ns (T.ret ?_); obtain rfl := Option.some.inj hk; exact K.ah rfl rfl (fun w' hw => ⟨rfl, hw.isBelow⟩)
structure OptL (c h : Int) (l : List Int) : Prop where
  len : (l.length : Int) = h - c + 1
  bd : ∀ u, u < l.length → c ≤ nth l u ∧ nth l u ≤ h
  ne : ∀ u v, u < v → v < l.length → nth l u ≠ nth l v
theorem zg8 {F : Nat} {c h : Int} (hF : 100 < F) (h1 : 1 ≤ h) (h2 : h ≤ 3) (h3 : 0 ≤ c) (h4 : c ≤ h) : ∃ l, zbi F h c = some (l, 0) ∧ OptL c h l := by
  unfold zbi zbj; rw [decide_eq_true h1, decide_eq_true h2, decide_eq_true h3, decide_eq_true h4, show (!(((true && true) && true) && true)) = false from rfl, cond_false]; simp only [zap]; refine zen (fun (s : List Int × Int) => s.2 = c + (s.1.length : Int) ∧ s.2 ≤ h + 1 ∧ ∀ u, u < s.1.length → nth s.1 u = c + (u : Int)) (fun s => (h + 1 - s.2).toNat) (fun x => ∃ l, x = some (l, 0) ∧ OptL c h l) ⟨by simp, by show c ≤ h + 1; omega, fun u hu => absurd hu (Nat.not_lt_zero u)⟩ (by show (h + 1 - c).toNat < F; omega) (fun s next hI hn => ?_); obtain ⟨i1, i2, i3⟩ := hI; obtain ⟨l, o⟩ := s; dsimp only at *; by_cases ho : o ≤ h
  · rw [decide_eq_true ho, cond_true]; (have hlen : (l ++ [o]).length = l.length + 1 := by rw [List.length_append]; rfl); rw [zaj (by unfold room; rw [hlen]; omega), zbx (by omega)]; refine hn _ ⟨?_, by show o + 1 ≤ h + 1; omega, fun u hu => ?_⟩ (by show (h + 1 - (o + 1)).toNat < (h + 1 - o).toNat; omega)
    · show o + 1 = c + ((l ++ [o]).length : Int)
      rw [hlen]; omega
    · dsimp only at hu ⊢; by_cases e : u = l.length
      · rw [zbT e]; omega
      · rw [zb7 (by omega)]; exact i3 u (by omega)
  · rw [decide_eq_false ho, cond_false]; refine ⟨l, rfl, by omega, fun u hu => by rw [i3 u hu]; omega, fun u v huv hv => by rw [i3 u (by omega), i3 v hv]; omega⟩
def sP (p : GStationPlan) (prices : List Int) (o : Int) : Int := if o = p.Home then nth p.Values o.toNat else wI (nth prices o.toNat + nth p.Values o.toNat)
theorem zeY {p : GStationPlan} {prices : List Int} {o : Int} (h1 : 0 ≤ o) (h2 : o ≤ p.Home) (hv : (p.Values.length : Int) = p.Home + 1) (hp : (prices.length : Int) = p.Home + 1) : zbu p o prices = some (sP p prices o) := by
  unfold zbu sP; by_cases e : o = p.Home
  · rw [decide_eq_true e, cond_true, if_pos e, zaj (by omega)]
  · rw [decide_eq_false e, cond_false, if_neg e, zaj (by omega), zaj (by omega)]
theorem zmW {p : GStationPlan} {prices : List Int} {a b : Int} (ha : 0 ≤ a ∧ a ≤ p.Home) (hb : 0 ≤ b ∧ b ≤ p.Home) (hv : (p.Values.length : Int) = p.Home + 1) (hp : (prices.length : Int) = p.Home + 1) : ∃ r, zbo a b p prices = some r ∧ (r < 0 → sP p prices b ≤ sP p prices a) ∧ (¬ r < 0 → sP p prices a ≤ sP p prices b) := by
  unfold zbo; rw [zeY hb.1 hb.2 hv hp, zeY ha.1 ha.2 hv hp, Option.bind_some, Option.bind_some, zhA, zgH, zgH]; refine ⟨_, rfl, ?_, ?_⟩
  · split <;> (repeat' split) <;> omega
  · split <;> (repeat' split) <;> omega
def swp (l : List Int) (j : Nat) : List Int := (l.set j (nth l (j - 1))).set (j - 1) (nth l j)
theorem zfA (l : List Int) (j : Nat) : (swp l j).length = l.length := by unfold swp; rw [List.length_set, List.length_set]
theorem zdZ {l : List Int} {j : Nat} (hj : 0 < j) (hl : j < l.length) (u : Nat) : nth (swp l j) u = if u = j - 1 then nth l j else if u = j then nth l (j - 1) else nth l u := by
  unfold swp; by_cases e : u = j - 1
  · rw [if_pos e, e, zaL (by rw [List.length_set]; omega)]
  · rw [if_neg e, zbh e]; by_cases e2 : u = j
    · rw [if_pos e2, e2, zaL hl]
    · rw [if_neg e2, zbh e2]
theorem OptL.swp {c h : Int} {l : List Int} (H : OptL c h l) {j : Nat} (hj : 0 < j) (hl : j < l.length) : OptL c h (swp l j) := by
  refine ⟨by rw [zfA]; exact H.len, fun u hu => ?_, fun u v huv hv => ?_⟩
  · rw [zfA] at hu; rw [zdZ hj hl]
    split
    · exact H.bd _ hl
    · split
      · exact H.bd _ (by omega)
      · exact H.bd _ hu
  · rw [zfA] at hv; rw [zdZ hj hl, zdZ hj hl]; have h1 := H.ne (j - 1) j (by omega) hl; by_cases eu1 : u = j - 1
    · rw [if_pos eu1]; by_cases ev1 : v = j
      · rw [if_neg (by omega), if_pos ev1]; exact fun e => h1 e.symm
      · rw [if_neg (by omega), if_neg ev1]; exact H.ne j v (by omega) hv
    · rw [if_neg eu1]; by_cases eu2 : u = j
      · rw [if_pos eu2, if_neg (by omega), if_neg (by omega)]; exact H.ne (j - 1) v (by omega) hv
      · rw [if_neg eu2]; by_cases ev1 : v = j - 1
        · rw [if_pos ev1]; exact H.ne u j (by omega) hl
        · rw [if_neg ev1]; by_cases ev2 : v = j
          · rw [if_pos ev2]; exact H.ne u (j - 1) (by omega) (by omega)
          · rw [if_neg ev2]; exact H.ne u v huv hv
def SrtI (f : Int → Int) (l : List Int) (i : Nat) : Prop := ∀ u v, u < v → v < i → f (nth l v) ≤ f (nth l u)
def SrtJ (f : Int → Int) (l : List Int) (i j : Nat) : Prop := (∀ u v, u < v → v ≤ i → u ≠ j → v ≠ j → f (nth l v) ≤ f (nth l u)) ∧ ∀ v, j < v → v ≤ i → f (nth l v) ≤ f (nth l j)
theorem SrtJ.swp {f : Int → Int} {l : List Int} {i j : Nat} (H : SrtJ f l i j) (hj : 0 < j) (hl : j < l.length) (hji : j ≤ i) (hc : f (nth l (j - 1)) ≤ f (nth l j)) : SrtJ f (swp l j) i (j - 1) := by
  refine ⟨fun u v huv hv hu hv2 => ?_, fun v hv1 hv2 => ?_⟩
  · rw [zdZ hj hl, zdZ hj hl, if_neg hu, if_neg hv2]; by_cases e : u = j
    · rw [if_pos e, if_neg (by omega)]; exact H.1 (j - 1) v (by omega) hv (by omega) (by omega)
    · rw [if_neg e]; by_cases e2 : v = j
      · rw [if_pos e2]; exact H.1 u (j - 1) (by omega) (by omega) e (by omega)
      · rw [if_neg e2]; exact H.1 u v huv hv e e2
  · rw [zdZ hj hl, zdZ hj hl, if_pos rfl, if_neg (by omega)]; by_cases e : v = j
    · rw [if_pos e]; exact hc
    · rw [if_neg e]; exact H.2 v (by omega) hv2
theorem SrtJ.fin {f : Int → Int} {l : List Int} {i j : Nat} (H : SrtJ f l i j) (hji : j ≤ i) (hc : 0 < j → f (nth l j) ≤ f (nth l (j - 1))) : SrtI f l (i + 1) := fun u v huv hv => by
  by_cases e : u = j
  · subst e; exact H.2 v huv (by omega)
  · by_cases e2 : v = j
    · subst e2; by_cases e3 : u = v - 1
      · subst e3; exact hc (by omega)
      · have h1 := H.1 u (v - 1) (by omega) (by omega) e (by omega); have h2 := hc (by omega); omega
    · exact H.1 u v huv (by omega) e e2
theorem zie {F : Nat} {p : GStationPlan} {prices : List Int} {c : Int} {l : List Int} (hF : 100 < F) (hc : 0 ≤ c) (hv : (p.Values.length : Int) = p.Home + 1) (hp : (prices.length : Int) = p.Home + 1) (hh : p.Home ≤ 3) (hl : OptL c p.Home l) (hl1 : 1 ≤ l.length) : ∃ l', zaD F l 0 (l.length : Int) p prices = some l' ∧ OptL c p.Home l' ∧ SrtI (sP p prices) l' l'.length := by
  (have hn : l.length ≤ 4 := by have := hl.len; omega); unfold zaD; rw [zbx (by omega)]; generalize hN : l.length = n at *
  refine zen (fun (s : Int × List Int) => OptL c p.Home s.2 ∧ s.2.length = n ∧ 1 ≤ s.1 ∧ s.1 ≤ (n : Int) ∧ SrtI (sP p prices) s.2 s.1.toNat) (fun s => ((n : Int) - s.1).toNat) (fun x => ∃ l', x = some l' ∧ OptL c p.Home l' ∧ SrtI (sP p prices) l' l'.length) ⟨hl, hN, by show (1 : Int) ≤ 0 + 1; omega, by show (0 : Int) + 1 ≤ n; omega, fun u v huv hv => by
    have : v < ((0 : Int) + 1).toNat := hv
    omega⟩ (by show ((n : Int) - (0 + 1)).toNat < F; omega) (fun s next hI hnx => ?_)
  obtain ⟨i, m⟩ := s; obtain ⟨i1, i2, i3, i4, i5⟩ := hI; dsimp only at *; by_cases hi : i < (n : Int)
  · rw [decide_eq_true hi, cond_true]; simp only [zap]; refine zen (fun (s : Int × List Int) => OptL c p.Home s.2 ∧ s.2.length = n ∧ 0 ≤ s.1 ∧ s.1 ≤ i ∧ SrtJ (sP p prices) s.2 i.toNat s.1.toNat) (fun s => s.1.toNat) (fun x => ∃ l', x = some l' ∧ OptL c p.Home l' ∧ SrtI (sP p prices) l' l'.length) ⟨i1, i2, by show 0 ≤ i; omega, Int.le_refl _, fun u v huv hv hu hv2 => i5 u v huv (by have : v ≠ i.toNat := hv2; omega), fun v h1 h2 => absurd h1 (by have : v ≤ i.toNat := h2; show ¬ i.toNat < v; omega)⟩ (by show i.toNat < F; omega) (fun s nextj hJ hnj => ?_); obtain ⟨j, q⟩ := s; obtain ⟨j1, j2, j3, j4, j5⟩ := hJ; dsimp only at *
    have fin : (0 < j.toNat → sP p prices (nth q j.toNat) ≤ sP p prices (nth q (j.toNat - 1))) → ∃ l', next (wI (i + 1), q) = some l' ∧ OptL c p.Home l' ∧ SrtI (sP p prices) l' l'.length := fun h => by
      rw [zbx (by omega)]; refine hnx (i + 1, q) ⟨j1, j2, by show 1 ≤ i + 1; omega, by show i + 1 ≤ n; omega, ?_⟩ (by show ((n : Int) - (i + 1)).toNat < ((n : Int) - i).toNat; omega); have h2 := j5.fin (by omega) h
      show SrtI _ q (i + 1).toNat
      rw [show (i + 1).toNat = i.toNat + 1 by omega]; exact h2
    by_cases hj0 : 0 < j
    · rw [decide_eq_true hj0, cond_true, zbx (by omega), zaj (by omega), zaj (by omega)]; (have e1 : (j - 1).toNat = j.toNat - 1 := by omega); rw [e1]; have b1 := j1.bd j.toNat (by omega); have b2 := j1.bd (j.toNat - 1) (by omega); obtain ⟨r, hr, hr1, hr2⟩ := zmW (p := p) (prices := prices) (a := nth q j.toNat) (b := nth q (j.toNat - 1)) ⟨by omega, b1.2⟩ ⟨by omega, b2.2⟩ hv hp; rw [hr, Option.bind_some]; by_cases hr0 : r < 0
      · rw [decide_eq_true hr0, cond_true, zaj (by omega), zaj (by omega), zaj (by rw [List.length_set]; omega)]; refine hnj (j - 1, swp q j.toNat) ⟨j1.swp (by omega) (by omega), by rw [zfA]; exact j2, by show 0 ≤ j - 1; omega, by show j - 1 ≤ i; omega, ?_⟩ (by show (j - 1).toNat < j.toNat; omega)
        show SrtJ _ (swp q j.toNat) i.toNat (j - 1).toNat
        rw [e1]; exact j5.swp (by omega) (by omega) (by omega) (hr1 hr0)
      · rw [decide_eq_false hr0, cond_false]; exact fin fun _ => hr2 hr0
    · rw [decide_eq_false hj0, cond_false, cond_false]; (exact fin fun h => by omega)
  · rw [decide_eq_false hi, cond_false]; refine ⟨m, rfl, i1, ?_⟩; rw [i2, show n = i.toNat by omega]; exact i5
theorem zmv {F : Nat} {p : GStationPlan} {prices : List Int} {c : Int} {l : List Int} (hF : 100 < F) (hc : 0 ≤ c) (hv : (p.Values.length : Int) = p.Home + 1) (hp : (prices.length : Int) = p.Home + 1) (hh : p.Home ≤ 3) (hl : OptL c p.Home l) (hl1 : 1 ≤ l.length) : ∃ l', zaN F l p prices = some l' ∧ OptL c p.Home l' ∧ SrtI (sP p prices) l' l'.length := by
  obtain ⟨l', h1, h2, h3⟩ := zie hF hc hv hp hh hl hl1; (have hn : l.length ≤ 4 := by have := hl.len; omega); refine ⟨l', ?_, h2, h3⟩; unfold zaN
  obtain ⟨r, hr⟩ : ∃ r, zcH (BitVec.ofInt 64 (l.length : Int)) = some r := by
    (have : l.length = 0 ∨ l.length = 1 ∨ l.length = 2 ∨ l.length = 3 ∨ l.length = 4 := by omega); rcases this with e | e | e | e | e <;> rw [e] <;> exact ⟨_, rfl⟩
  rw [hr, Option.bind_some]; unfold za6
  cases F with
  | zero => omega
  | succ F =>
    rw [zeq]; (try dsimp only); rw [zbx (by omega), decide_eq_true (by omega), cond_true, h1]; rfl
theorem zdl {ρ : Type} {f : Nat → (Unit → ρ) → Unit → ρ} {k : Unit → ρ} {n : Nat} (h : ∀ i next, i < n → f i next () = next ()) : zam f k n 0 () = k () :=
  zd6 (fun _ _ => True) (fun x => x = k ()) trivial (fun _ _ => rfl) (fun i s next hi _ hn => (h i next hi).trans (hn () trivial))
theorem zj8 {F : Nat} (hF : 100 < F) (p : GStationPlan) (current : Int) (prices : List Int) :
    (∃ e, e ≠ 0 ∧ zaT F p current prices = some (⟨0, 0, []⟩, e)) ∨
    (0 ≤ p.Station ∧ p.Station < 512 ∧ 1 ≤ p.Home ∧ p.Home ≤ 3 ∧ 0 ≤ current ∧ current ≤ p.Home ∧ (p.Values.length : Int) = p.Home + 1 ∧ (prices.length : Int) = p.Home + 1 ∧ (∀ o, 0 ≤ o → o ≤ p.Home → zav p o prices = 0) ∧
      ∃ r l, zbi F p.Home current = some (l, 0) ∧ OptL current p.Home l ∧ OptL current p.Home r ∧ SrtI (sP p prices) r r.length ∧ zaT F p current prices = some (⟨p.Station, nth r 0, r.drop 1⟩, 0)) := by
  by_cases hc : zav p current prices = 0
  · right; have hc2 := hc; unfold zav at hc2
    cases hv : zau p with
    | false => rw [hv] at hc2; cases hc2
    | true =>
      have hv2 := hv; unfold zau zaA at hv2; simp only [Bool.and_eq_true, decide_eq_true_eq] at hv2; obtain ⟨⟨⟨⟨⟨a1, a2⟩, a3⟩, a4⟩, a5⟩, a6⟩ := hv2; rw [zbx (by omega)] at a5; rw [hv, Bool.not_true, Bool.false_or] at hc2
      cases h1 : (decide (current < 0) || decide (p.Home < current)) with
      | true => rw [h1] at hc2; cases hc2
      | false =>
        rw [h1, cond_false] at hc2; rw [Bool.or_eq_false_iff, decide_eq_false_iff_not, decide_eq_false_iff_not] at h1
        cases h2 : (decide (¬ (prices.length : Int) = wI (p.Home + 1)) || !(zaH prices 1125899906842624)) with
        | true => rw [h2] at hc2; cases hc2
        | false =>
          have h3 := h2; rw [Bool.or_eq_false_iff, decide_eq_false_iff_not, zbx (by omega), Decidable.not_not] at h3
          have hck : ∀ o, 0 ≤ o → o ≤ p.Home → zav p o prices = 0 := fun o h4 h5 => by
            unfold zav; rw [hv, decide_eq_false (show ¬ o < 0 by omega), decide_eq_false (show ¬ p.Home < o by omega), h2]; rfl
          obtain ⟨l, hl, hl2⟩ := zg8 hF a3 a4 (show 0 ≤ current by omega) (show current ≤ p.Home by omega); have hlen := hl2.len; obtain ⟨r, hr, hr2, hr3⟩ := zmv hF (show 0 ≤ current by omega) a5 h3.1 a4 hl2 (by omega); have hrl := hr2.len; refine ⟨a1, a2, a3, a4, by omega, by omega, a5, h3.1, hck, r, l, hl, hl2, hr2, hr3, ?_⟩; unfold zaT; rw [hc, decide_eq_false (by simp), cond_false, hl, Option.bind_some, decide_eq_false (by simp), cond_false, hr, Option.bind_some, zaj (by omega), zaj (by unfold room; rw [List.length_drop]; omega)]
  · left; refine ⟨_, hc, ?_⟩; unfold zaT; rw [decide_eq_true hc, cond_true]
theorem zkQ {s : List Int} {v : Int} (h : ∀ j, j < s.length → nth s j ≠ v) : zaE s v = false := by
  have e : zaX s v = -1 := by
    unfold zaX; simp only [zap]
    rw [show s.length - 0 = s.length from rfl, zdl (fun i next hi => by
      rw [decide_eq_false (fun e => h i hi e.symm), cond_false])]
  unfold zaE; rw [e]; rfl
theorem zho {α : Type} [Inhabited α] {l : List α} {i j : Nat} (h : j < i) : nth (l.take i) j = nth l j := by
  unfold nth; rw [List.getD_eq_getElem?_getD, List.getD_eq_getElem?_getD, List.getElem?_take_of_lt h]
theorem zgS {r : List Int} (h : 1 ≤ r.length) : nth r 0 :: r.drop 1 = r := by
  cases r with
  | nil => exact absurd h (by decide)
  | cons x r => rfl
theorem zgU {c h st : Int} {r : List Int} (H : OptL c h r) (h1 : 1 ≤ h) (h2 : h ≤ 3) (h3 : 0 ≤ c) (h4 : c ≤ h) (h5 : 0 ≤ st) (h6 : st < 512) : zbz ⟨st, nth r 0, r.drop 1⟩ h c = some true := by
  have hl := H.len
  have hnm : zcd ⟨st, nth r 0, r.drop 1⟩ = some r := by
    unfold zcd; dsimp only; rw [zgS (by omega), zaj (by unfold room; omega)]
  have hv : zcv ⟨st, nth r 0, r.drop 1⟩ = some true := by
    unfold zcv; rw [hnm]; dsimp only; rw [decide_eq_false (show ¬ st < 0 by omega), decide_eq_false (show ¬ 512 ≤ st by omega), decide_eq_false (show ¬ 3 < ((r.drop 1).length : Int) by rw [List.length_drop]; omega), show ((false || false) || false) = false from rfl, cond_false, Option.bind_some]; simp only [zap]
    rw [show r.length - 0 = r.length from rfl, zdl (fun i next hi => by
      have hb := H.bd i hi
      rw [zkQ (fun j hj => by
        rw [List.length_take] at hj; rw [zho (by omega)]
        exact H.ne j i (by omega) hi)]
      unfold zby
      rw [decide_eq_true (show 0 ≤ nth r i by omega), decide_eq_true (show nth r i ≤ 3 by omega)]; rfl)]
  unfold zbz; rw [hv, hnm, Option.bind_some, Bool.not_true, cond_false, Option.bind_some]; simp only [zap]
  rw [show r.length - 0 = r.length from rfl, zdl (fun i next hi => by
    have hb := H.bd i hi; unfold zcb zbj
    rw [decide_eq_true h1, decide_eq_true h2, decide_eq_true h3, decide_eq_true h4, decide_eq_true hb.1, decide_eq_true hb.2]; rfl)]
theorem zhR {F : Nat} (hF : 100 < F) (p : GStationPlan) (current : Int) (prices : List Int) (K : Unit → Option Bool) :
    ((zaT F p current prices).bind fun r90 =>
    zap K
    (fun k9 =>
      (bif decide (r90.2 = 0) then
        (zbb p r90.1.Preferred prices).bind fun r100 =>
        zap (fun (x_11 : Bool) =>
          (bif x_11 then
            some false
            else
            zap (fun (_ : Unit) =>
              (zbi F p.Home current).bind fun r139 =>
              (bif ((decide (¬ r139.2 = 0)) || (decide (¬ (r139.1.length : Int) = wI (1 + (r90.1.Fallbacks.length : Int))))) then
                some false
                else
                k9 ()))
            (fun k15 =>
              zam (fun (i_17 : Nat) (next16 : Unit → Option Bool) (_ : Unit) =>
                (zbb p (nth r90.1.Fallbacks i_17) prices).bind fun r124 =>
                (bif ((decide (¬ r124.2 = 0)) || (decide (r100.1 < r124.1))) then
                  some false
                  else
                  next16 ()))
              (fun (_ : Unit) =>
                k15 ()) (r90.1.Fallbacks.length - 0) 0 ())))
        (fun k12 =>
          (bif decide (¬ r100.2 = 0) then
            k12 true
            else
            (zbz r90.1 p.Home current).bind fun r110 =>
            k12 (!r110)))
        else
        k9 ()))) = K () := by
  rcases zj8 hF p current prices with ⟨e, he, h⟩ | ⟨a1, a2, a3, a4, a5, a6, hv, hp, hck, r, l, hl, hl2, hr, hs, h⟩
  · rw [h, Option.bind_some]; simp only [zap]; rw [decide_eq_false he, cond_false]
  · have hlen := hl2.len; have hrl := hr.len; rw [h, Option.bind_some]; simp only [zap]
    have hsur : ∀ o, 0 ≤ o → o ≤ p.Home → zbb p o prices = some (sP p prices o, 0) := fun o h1 h2 => by
      unfold zbb; rw [hck o h1 h2, decide_eq_false (by simp), cond_false, zeY h1 h2 hv hp, Option.bind_some]
    have hb0 := hr.bd 0 (by omega); rw [decide_eq_true trivial, cond_true, hsur _ (by omega) hb0.2, Option.bind_some, decide_eq_false (by simp), cond_false, zgU hr a3 a4 a5 a6 a1 a2, Option.bind_some, Bool.not_true, cond_false]
    rw [show (r.drop 1).length - 0 = (r.drop 1).length from rfl, zdl (fun i next hi => by
      (have hi2 : i + 1 < r.length := by rw [List.length_drop] at hi; omega)
      have e : nth (r.drop 1) i = nth r (i + 1) := by
        unfold nth; rw [List.getD_eq_getElem?_getD, List.getD_eq_getElem?_getD, List.getElem?_drop, Nat.add_comm]
      have hb := hr.bd (i + 1) hi2; have hsi := hs 0 (i + 1) (by omega) hi2; rw [e, hsur _ (by omega) hb.2, Option.bind_some]
      rw [decide_eq_false (by simp), decide_eq_false (show ¬ sP p prices (nth r 0) < sP p prices (nth r (i + 1)) by omega)]; rfl)]
    rw [hl, Option.bind_some, decide_eq_false (by simp), List.length_drop, zbx (by omega), decide_eq_false (by dsimp only; omega)]; rfl
structure CapL (q : GBidderPlan) (l : List GProduct) (prices d : List Int) : Prop where
  len : d.length = l.length
  val : ∀ j, j < l.length → nth d j = capC (nth q.Values j) (nth prices j) (nth l j).Supply (nth q.Values j).length
theorem zim {F : Nat} (hF : 10000 ≤ F) {q : GBidderPlan} {l : List GProduct} {prices : List Int} (hn : l.length ≤ 8) (hb : zaW q l = some true) (hB : q.Budget = 1125899906842624) (hpl : PlanOk q l) (hvp : zai l prices = true) : ∃ d, CapL q l prices d ∧ zar F q l prices = some (d, 0) := by
  have hvp2 := hvp; rw [zb8, Bool.and_eq_true, decide_eq_true_eq] at hvp2; (have hprl : prices.length = l.length := by omega); have hp : ∀ j, j < l.length → 0 ≤ nth prices j ∧ nth prices j ≤ 549755813888 := fun j hj => all_iff.1 hvp2.2 j (by omega); have hR := zc8 hpl.prods; have hvl := hpl.len; unfold zar; rw [zco, hb, hvp, Option.bind_some, show (!true || !true) = false from rfl, cond_false]; unfold zaJ; rw [zaj (show room l.length 8 by unfold room; omega)]; simp only [zap]
  let post : Option (List Int × Int) → Prop := fun x => ∃ d, CapL q l prices d ∧ (x.bind fun r21 => some (r21.1, r21.2)) = some (d, 0)
  generalize hx : zam _ _ (l.length - 0) 0 (List.replicate l.length (0 : Int)) = x
  show post x
  rw [← hx]; refine zd6 (n := l.length) (fun i (d : List Int) => d.length = l.length ∧ ∀ j, j < l.length → nth d j = if j < i then capC (nth q.Values j) (nth prices j) (nth l j).Supply (nth q.Values j).length else 0) post ?_ (fun d hI => ?_) (fun i d next hi hI hnx => ?_)
  · refine ⟨List.length_replicate, fun j hj => ?_⟩; rw [if_neg (by omega), zbw (by simpa using hj)]; simp
  · obtain ⟨h1, h2⟩ := hI; have hC : CapL q l prices d := ⟨h1, fun j hj => by rw [h2 j hj, if_pos hj]⟩
    have hd : DemOk l d := ⟨h1, fun j hj => by
      have h3 := zge (nth q.Values j) (nth prices j) (nth l j).Supply (nth q.Values j).length; have h4 := ok12 hR hj; rw [hC.val j hj]
      exact ⟨h3.1, h3.2 (by omega)⟩⟩
    (have h12 : ∀ j, j < l.length → 0 ≤ nth d j ∧ nth d j ≤ 12 := fun j hj => by have := hd.bd j hj; have := ok12 hR hj; omega); have hcb := zdJ hp h12 l.length (Nat.le_refl _); refine ⟨d, hC, ?_⟩; rw [zhE hpl.prods hd hprl (by omega) hp, Option.bind_some, decide_eq_false (by simp), cond_false]; obtain ⟨F', rfl⟩ : ∃ F', F = F' + 1 := ⟨F - 1, by omega⟩; rw [zeq]; (try dsimp only); rw [decide_eq_false (show ¬ q.Budget < csum prices d l.length by omega), Bool.false_and, cond_false]; rfl
  · obtain ⟨h1, h2⟩ := hI; (try dsimp only); rw [zaj (by omega)]; refine zd6 (n := (nth q.Values i).length) (fun k (d : List Int) => d.length = l.length ∧ ∀ j, j < l.length → nth d j = if j < i then capC (nth q.Values j) (nth prices j) (nth l j).Supply (nth q.Values j).length else if j = i then capC (nth q.Values j) (nth prices j) (nth l j).Supply k else 0) post ?_ (fun d hI => ?_) (fun k d next2 hk hI hnx2 => ?_)
    · refine ⟨h1, fun j hj => ?_⟩; rw [h2 j hj]; by_cases e : j < i
      · rw [if_pos e, if_pos e]
      · rw [if_neg e, if_neg e]; by_cases e2 : j = i
        · rw [if_pos e2]; rfl
        · rw [if_neg e2]
    · refine hnx d ⟨hI.1, fun j hj => ?_⟩; rw [hI.2 j hj]; by_cases e : j < i
      · rw [if_pos e, if_pos (by omega)]
      · rw [if_neg e]; by_cases e2 : j = i
        · rw [if_pos e2, if_pos (by omega)]; subst e2; rfl
        · rw [if_neg e2, if_neg (by omega)]
    · obtain ⟨h3, h4⟩ := hI; (try dsimp only); have h5 := h4 i hi; rw [if_neg (by omega), if_pos rfl] at h5; have hs := ok12 hR hi; have h6 := zge (nth q.Values i) (nth prices i) (nth l i).Supply k; have h7 := h6.2 (by omega); rw [zaj (by omega)]; by_cases hv : nth prices i ≤ nth (nth q.Values i) k
      · rw [decide_eq_true hv, cond_true, zaj (by omega)]; by_cases hc : nth d i < (nth l i).Supply
        · rw [decide_eq_true hc, cond_true, zaj (by omega), zbx (by omega)]; refine hnx2 _ ⟨by rw [List.length_set]; exact h3, fun j hj => ?_⟩; by_cases e : j = i
          · subst e; rw [zaL (by omega), if_neg (by omega), if_pos rfl, capC, if_pos ⟨hv, by omega⟩, h5]
          · rw [zbh e, h4 j hj]; by_cases e2 : j < i
            · rw [if_pos e2, if_pos e2]
            · rw [if_neg e2, if_neg e2, if_neg e, if_neg e]
        · rw [decide_eq_false hc, cond_false]; refine hnx2 _ ⟨h3, fun j hj => ?_⟩; rw [h4 j hj]; by_cases e2 : j < i
          · rw [if_pos e2, if_pos e2]
          · rw [if_neg e2, if_neg e2]; by_cases e : j = i
            · subst e; rw [if_pos rfl, if_pos rfl, capC, if_neg (by omega)]
            · rw [if_neg e, if_neg e]
      · rw [decide_eq_false hv, cond_false, cond_false]; refine hnx2 _ ⟨h3, fun j hj => ?_⟩; rw [h4 j hj]; by_cases e2 : j < i
        · rw [if_pos e2, if_pos e2]
        · rw [if_neg e2, if_neg e2]; by_cases e : j = i
          · subst e; rw [if_pos rfl, if_pos rfl, capC, if_neg (by omega)]
          · rw [if_neg e, if_neg e]
theorem ziL (which : Int) {n : Nat} (h0 : 0 < n) (h8 : n ≤ 8) : ∃ i : Nat, i < n ∧ wI (((BitVec.ofInt 64 which) % (BitVec.ofInt 64 (n : Int))).toNat : Int) = (i : Int) ∧ ¬ (BitVec.ofInt 64 (n : Int)) = 0#64 := by
  have e : (BitVec.ofInt 64 (n : Int)).toNat = n := by
    rw [BitVec.toNat_ofInt]; omega
  have h1 := Nat.mod_lt (BitVec.ofInt 64 which).toNat h0; refine ⟨(BitVec.ofInt 64 which).toNat % n, h1, ?_, fun h => ?_⟩
  · rw [BitVec.toNat_umod, e]; exact zbx (by omega)
  · rw [h] at e; have : (0#64).toNat = 0 := rfl; omega
theorem zgV {q : GBidderPlan} {l : List GProduct} (hb : zaW q l = some true) (hpl : PlanOk q l) : zaW ⟨q.Bidder, 1125899906842624, q.Values⟩ l = some true := by
  have hv := hpl.bid; have hl := hpl.len; rw [zdg] at hb ⊢; dsimp only; rw [hpl.prods, decide_eq_false (show ¬ ¬ (q.Values.length : Int) = (l.length : Int) by omega), decide_eq_false (show ¬ q.Bidder < 0 by omega), decide_eq_false (show ¬ 31 < q.Bidder by omega)]; have h2 := hpl.budget; rw [hpl.prods, decide_eq_false (show ¬ ¬ (q.Values.length : Int) = (l.length : Int) by omega), decide_eq_false (show ¬ q.Bidder < 0 by omega), decide_eq_false (show ¬ 31 < q.Bidder by omega), decide_eq_false (show ¬ q.Budget < 0 by omega), decide_eq_false (show ¬ 1125899906842624 < q.Budget by omega)] at hb; exact hb
theorem ziI {F : Nat} (hF : 10000 ≤ F) {q : GBidderPlan} {l : List GProduct} {clocks : List Int} {which rise : Int} (hn : l.length ≤ 8) (hr : 0 ≤ rise) (hr2 : rise ≤ 549755813888) (hb : zaW q l = some true) (hpl : PlanOk q l) (hvp : zai l clocks = true) : zcn F q l clocks which rise = some true := by
  have hvp2 := hvp; rw [zb8, Bool.and_eq_true, decide_eq_true_eq] at hvp2; (have hcl : clocks.length = l.length := by omega); have hall := all_iff.1 hvp2.2; unfold zcn; by_cases h0 : (l.length : Int) = 0
  · rw [decide_eq_true h0, cond_true]
  · rw [decide_eq_false h0, cond_false]; obtain ⟨i, hi, e, hz⟩ := ziL which (show 0 < l.length by omega) hn; rw [e, zaj hz, List.nil_append, zaj (by unfold room; omega), zaj (by omega), show (i : Int).toNat = i by omega]; have hci := hall i (by omega); rw [zbx (by omega)]; have hbig := zgV hb hpl; have hplb : PlanOk ⟨q.Bidder, 1125899906842624, q.Values⟩ l := ⟨hpl.prods, hpl.len, hpl.bid, ⟨by show (0 : Int) ≤ 1125899906842624; decide, by show (1125899906842624 : Int) ≤ 1125899906842624; decide⟩, hpl.vals⟩
    have hmore : ∀ j, nth (clocks.set i (min 549755813888 (nth clocks i + rise))) j = if j = i then min 549755813888 (nth clocks i + rise) else nth clocks j := fun j => by
      by_cases ej : j = i
      · subst ej; rw [if_pos rfl, zaL (by omega)]
      · rw [if_neg ej, zbh ej]
    have hvm : zai l (clocks.set i (min 549755813888 (nth clocks i + rise))) = true := by
      rw [zb8, Bool.and_eq_true, decide_eq_true_eq, List.length_set]; refine ⟨by omega, all_iff.2 fun j hj => ?_⟩; rw [List.length_set] at hj; rw [hmore j]; have := hall j hj
      split <;> omega
    obtain ⟨d, hd, h1⟩ := zim hF hn hbig rfl hplb hvp; obtain ⟨d', hd', h2⟩ := zim hF hn hbig rfl hplb hvm; rw [h1, h2, Option.bind_some, Option.bind_some]; simp only [zap]; rw [decide_eq_false (show ¬ ¬ True by simp), decide_eq_false (show ¬ ¬ (d.length : Int) = (l.length : Int) by have := hd.len; omega), decide_eq_false (show ¬ ¬ (d'.length : Int) = (l.length : Int) by have := hd'.len; omega), show (((false || false) || false) || false) = false from rfl, cond_false]
    rw [show l.length - 0 = l.length from rfl, zdl (fun k next hk => by
      have v1 := hd.val k hk; have v2 := hd'.val k hk; rw [hmore k] at v2; dsimp only at v1 v2; by_cases ek : k = i
      · subst ek; rw [if_pos rfl] at v2; have hm := zfJ (nth q.Values k) (nth l k).Supply (show nth clocks k ≤ min 549755813888 (nth clocks k + rise) by omega) (nth q.Values k).length; rw [decide_eq_true rfl, decide_eq_false (show ¬ nth d k < nth d' k by omega), decide_eq_false (by simp)]; rfl
      · rw [if_neg ek] at v2
        rw [decide_eq_false (show ¬ (k : Int) = (i : Int) by omega), decide_eq_true (show ¬ (k : Int) = (i : Int) by omega), decide_eq_false (show ¬ ¬ nth d' k = nth d k by omega)]; rfl)]
theorem ziC {F : Nat} (hF : 10000 ≤ F) {q : GBidderPlan} {l : List GProduct} {clocks : List Int} {which rise : Int} (hl : l.length ≤ 8) (hr : 0 ≤ rise) (hr2 : rise ≤ 549755813888) {r157 : List Int × Int} (hd : zar F q l clocks = some r157) (K : Unit → Option Bool) :
    (zap K
      (fun k23 =>
        (bif decide (r157.2 = 0) then
          (zb9 l clocks r157.1).bind fun r166 =>
          zap (fun (x_25 : Bool) =>
            (bif x_25 then
              some false
              else
              (zcn F q l clocks which rise).bind fun r188 =>
              (bif !r188 then
                some false
                else
                k23 ())))
          (fun k26 =>
            (bif decide (¬ r166.2 = 0) then
              k26 true
              else
              (bif decide (q.Budget < r166.1) then
                k26 true
                else
                (zbd l r157.1).bind fun r180 =>
                k26 (!r180))))
          else
          k23 ()))) = K () := by
  simp only [zap]; rcases zfz (p := q) (prices := clocks) (fuel := F) (by omega) (show l.length ≤ 100 by omega) with ⟨h1, _, _⟩ | ⟨hb, hvp, hpl, hcl, hp, d0, hcnt, hdem, h1, _⟩
  · rw [hd] at h1; obtain rfl := Option.some.inj h1; rw [decide_eq_false (by decide), cond_false]
  · rw [hd] at h1; obtain rfl := Option.some.inj h1; have hR := zc8 hpl.prods; (have h12 : ∀ j, j < l.length → 0 ≤ nth d0 j ∧ nth d0 j ≤ 12 := fun j hj => by have := hdem.bd j hj; have := ok12 hR hj; omega); have hcb := zdJ hp h12 l.length (Nat.le_refl _); have hdok := zgm (l := l) (B := q.Budget) (prices := clocks) hpl.budget.1 hp l.length (csum clocks d0 l.length) d0 (Nat.le_refl _) hdem (by omega) (by omega); have hcost := zfW (B := q.Budget) (prices := clocks) (n := l.length) hpl.budget.1 l.length (csum clocks d0 l.length) d0 (Nat.le_refl _) hdem.len rfl (fun _ j h1 h2 => by omega) (fun j hj => (h12 j hj).1); dsimp only; generalize redL q.Budget clocks l.length (csum clocks d0 l.length) d0 = d at *; rw [decide_eq_true rfl, cond_true, zhE hpl.prods hdok hcl (by omega) hp, Option.bind_some, decide_eq_false (by simp), cond_false, decide_eq_false (show ¬ q.Budget < csum clocks d l.length by omega), cond_false]; unfold zbd; rw [pvalid, Option.bind_some, hpl.prods, zhl hdok, Option.bind_some, ziI hF hl hr hr2 hb hpl hvp, Option.bind_some]
    rfl
def LeO {ρ : Type} (x y : Option ρ) : Prop := ∀ r, x = some r → y = some r
theorem LeO.refl {ρ : Type} (x : Option ρ) : LeO x x := fun _ h => h
theorem LeO.bind {α ρ : Type} {x y : Option α} {f g : α → Option ρ} (h : LeO x y) (hf : ∀ a, LeO (f a) (g a)) : LeO (x.bind f) (y.bind g) := fun r hr => by
  obtain ⟨a, h1, h2⟩ := zac hr; rw [h a h1]; exact hf a r h2
theorem LeO.bif {ρ : Type} {c : Bool} {a b a2 b2 : Option ρ} (h1 : LeO a a2) (h2 : LeO b b2) : LeO (bif c then a else b) (bif c then a2 else b2) := by cases c; exact h2; exact h1
theorem LeO.grd {ρ : Type} {c : Prop} [Decidable c] {x y : Option ρ} (h : LeO x y) : LeO (grd c x) (grd c y) := fun r hr => by
  obtain ⟨h1, h2⟩ := zaf hr; rw [zaj h1]; exact h r h2
theorem LeO.join {σ ρ : Type} {k k2 : σ → Option ρ} {e e2 : (σ → Option ρ) → Option ρ} (h1 : ∀ s, LeO (k s) (k2 s)) (h2 : ∀ k k2, (∀ s, LeO (k s) (k2 s)) → LeO (e k) (e2 k2)) : LeO (zap k e) (zap k2 e2) := h2 _ _ h1
theorem LeO.iter {σ ρ : Type} {f f2 : Nat → (σ → Option ρ) → σ → Option ρ} {k k2 : σ → Option ρ} {i : Nat} {s : σ} (h1 : ∀ s, LeO (k s) (k2 s)) (h2 : ∀ i next next2, (∀ s, LeO (next s) (next2 s)) → ∀ s, LeO (f i next s) (f2 i next2 s)) {m : Nat} : LeO (zam f k m i s) (zam f2 k2 m i s) := by
  induction m generalizing i s with
  | zero => exact h1 s
  | succ m ih => exact h2 i _ _ (fun s => ih) s
theorem LeO.iterD {σ ρ : Type} {f f2 : Nat → (σ → Option ρ) → σ → Option ρ} {k k2 : σ → Option ρ} {s : σ} (h1 : ∀ s, LeO (k s) (k2 s)) (h2 : ∀ i next next2, (∀ s, LeO (next s) (next2 s)) → ∀ s, LeO (f i next s) (f2 i next2 s)) {m : Nat} : LeO (iterD f k m s) (Go.Proofs.YtlaafmiejkebgaaGreat.iterD f2 k2 m s) := by
  induction m generalizing s with
  | zero => exact h1 s
  | succ m ih => exact h2 m _ _ (fun s => ih) s
theorem LeO.whl {σ ρ : Type} {f f2 : (σ → Option ρ) → σ → Option ρ} {m m2 : Nat} {s : σ} (h : m ≤ m2) (h2 : ∀ next next2, (∀ s, LeO (next s) (next2 s)) → ∀ s, LeO (f next s) (f2 next2 s)) : LeO (zaI f m s) (zaI f2 m2 s) := by
  induction m generalizing m2 s with
  | zero => intro r hr; cases hr
  | succ m ih =>
    cases m2 with
    | zero => omega
    | succ m2 => exact h2 _ _ (fun s => ih (by omega)) s
section
variable {F F2 : Nat} (h : F ≤ F2)
include h
theorem zaU : ∀ x, LeO (za5 F x) (za5 F2 x) := by
  intro x; unfold za5
  repeat' (first | with_reducible exact LeO.refl _ | apply_assumption | refine LeO.bif ?_ ?_ | refine LeO.grd ?_ | refine LeO.join (fun _ => ?_) (fun _ _ _ => ?_) | refine LeO.bind ?_ (fun _ => ?_) | refine LeO.iter (fun _ => ?_) (fun _ _ _ _ _ => ?_) | refine LeO.iterD (fun _ => ?_) (fun _ _ _ _ _ => ?_) | refine LeO.whl h (fun _ _ _ _ => ?_))
theorem zbe : ∀ n, LeO (zch F n) (zch F2 n) := by
  intro n; unfold zch
  repeat' (first | with_reducible exact LeO.refl _ | apply_assumption | exact zaU h _ | refine LeO.bif ?_ ?_ | refine LeO.grd ?_ | refine LeO.join (fun _ => ?_) (fun _ _ _ => ?_) | refine LeO.bind ?_ (fun _ => ?_) | refine LeO.iter (fun _ => ?_) (fun _ _ _ _ _ => ?_) | refine LeO.iterD (fun _ => ?_) (fun _ _ _ _ _ => ?_) | refine LeO.whl h (fun _ _ _ _ => ?_))
theorem za4 : ∀ d, LeO (za3 F d) (za3 F2 d) := by
  intro d; unfold za3
  repeat' (first | with_reducible exact LeO.refl _ | apply_assumption | exact zaU h _ | exact zbe h _ | refine LeO.bif ?_ ?_ | refine LeO.grd ?_ | refine LeO.join (fun _ => ?_) (fun _ _ _ => ?_) | refine LeO.bind ?_ (fun _ => ?_) | refine LeO.iter (fun _ => ?_) (fun _ _ _ _ _ => ?_) | refine LeO.iterD (fun _ => ?_) (fun _ _ _ _ _ => ?_) | refine LeO.whl h (fun _ _ _ _ => ?_))
theorem zaY : ∀ x d, LeO (zbC F x d) (zbC F2 x d) := by
  intro x d; unfold zbC
  repeat' (first | with_reducible exact LeO.refl _ | apply_assumption | exact zaU h _ | exact zbe h _ | exact za4 h _ | refine LeO.bif ?_ ?_ | refine LeO.grd ?_ | refine LeO.join (fun _ => ?_) (fun _ _ _ => ?_) | refine LeO.bind ?_ (fun _ => ?_) | refine LeO.iter (fun _ => ?_) (fun _ _ _ _ _ => ?_) | refine LeO.iterD (fun _ => ?_) (fun _ _ _ _ _ => ?_) | refine LeO.whl h (fun _ _ _ _ => ?_))
theorem zbg : ∀ x y, LeO (zbF F x y) (zbF F2 x y) := by
  intro x y; unfold zbF
  repeat' (first | with_reducible exact LeO.refl _ | apply_assumption | exact zaU h _ | exact zbe h _ | exact za4 h _ | exact zaY h _ _ | refine LeO.bif ?_ ?_ | refine LeO.grd ?_ | refine LeO.join (fun _ => ?_) (fun _ _ _ => ?_) | refine LeO.bind ?_ (fun _ => ?_) | refine LeO.iter (fun _ => ?_) (fun _ _ _ _ _ => ?_) | refine LeO.iterD (fun _ => ?_) (fun _ _ _ _ _ => ?_) | refine LeO.whl h (fun _ _ _ _ => ?_))
theorem zbX : ∀ a b, LeO (zck F a b) (zck F2 a b) := by
  intro a b; unfold zck
  repeat' (first | with_reducible exact LeO.refl _ | apply_assumption | exact zaU h _ | exact zbe h _ | exact za4 h _ | exact zaY h _ _ | exact zbg h _ _ | refine LeO.bif ?_ ?_ | refine LeO.grd ?_ | refine LeO.join (fun _ => ?_) (fun _ _ _ => ?_) | refine LeO.bind ?_ (fun _ => ?_) | refine LeO.iter (fun _ => ?_) (fun _ _ _ _ _ => ?_) | refine LeO.iterD (fun _ => ?_) (fun _ _ _ _ _ => ?_) | refine LeO.whl h (fun _ _ _ _ => ?_))
theorem zb0 : ∀ a, LeO (zcF F a) (zcF F2 a) := by
  intro a; unfold zcF
  repeat' (first | with_reducible exact LeO.refl _ | apply_assumption | exact zaU h _ | exact zbe h _ | exact za4 h _ | exact zaY h _ _ | exact zbg h _ _ | exact zbX h _ _ | refine LeO.bif ?_ ?_ | refine LeO.grd ?_ | refine LeO.join (fun _ => ?_) (fun _ _ _ => ?_) | refine LeO.bind ?_ (fun _ => ?_) | refine LeO.iter (fun _ => ?_) (fun _ _ _ _ _ => ?_) | refine LeO.iterD (fun _ => ?_) (fun _ _ _ _ _ => ?_) | refine LeO.whl h (fun _ _ _ _ => ?_))
theorem zbp : ∀ x y, LeO (zbZ F x y) (zbZ F2 x y) := by
  intro x y; unfold zbZ
  repeat' (first | with_reducible exact LeO.refl _ | apply_assumption | exact zaU h _ | exact zbe h _ | exact za4 h _ | exact zaY h _ _ | exact zbg h _ _ | exact zbX h _ _ | exact zb0 h _ | refine LeO.bif ?_ ?_ | refine LeO.grd ?_ | refine LeO.join (fun _ => ?_) (fun _ _ _ => ?_) | refine LeO.bind ?_ (fun _ => ?_) | refine LeO.iter (fun _ => ?_) (fun _ _ _ _ _ => ?_) | refine LeO.iterD (fun _ => ?_) (fun _ _ _ _ _ => ?_) | refine LeO.whl h (fun _ _ _ _ => ?_))
theorem zbr : ∀ x y, LeO (zbY F x y) (zbY F2 x y) := by
  intro x y; unfold zbY
  repeat' (first | with_reducible exact LeO.refl _ | apply_assumption | exact zaU h _ | exact zbe h _ | exact za4 h _ | exact zaY h _ _ | exact zbg h _ _ | exact zbX h _ _ | exact zb0 h _ | exact zbp h _ _ | refine LeO.bif ?_ ?_ | refine LeO.grd ?_ | refine LeO.join (fun _ => ?_) (fun _ _ _ => ?_) | refine LeO.bind ?_ (fun _ => ?_) | refine LeO.iter (fun _ => ?_) (fun _ _ _ _ _ => ?_) | refine LeO.iterD (fun _ => ?_) (fun _ _ _ _ _ => ?_) | refine LeO.whl h (fun _ _ _ _ => ?_))
theorem zbq : ∀ a b, LeO (zaP F a b) (zaP F2 a b) := by
  intro a b; unfold zaP
  repeat' (first | with_reducible exact LeO.refl _ | apply_assumption | exact zaU h _ | exact zbe h _ | exact za4 h _ | exact zaY h _ _ | exact zbg h _ _ | exact zbX h _ _ | exact zb0 h _ | exact zbp h _ _ | exact zbr h _ _ | refine LeO.bif ?_ ?_ | refine LeO.grd ?_ | refine LeO.join (fun _ => ?_) (fun _ _ _ => ?_) | refine LeO.bind ?_ (fun _ => ?_) | refine LeO.iter (fun _ => ?_) (fun _ _ _ _ _ => ?_) | refine LeO.iterD (fun _ => ?_) (fun _ _ _ _ _ => ?_) | refine LeO.whl h (fun _ _ _ _ => ?_))
theorem zb1 : ∀ n d, LeO (zcC F n d) (zcC F2 n d) := by
  intro n d; unfold zcC
  repeat' (first | with_reducible exact LeO.refl _ | apply_assumption | exact zaU h _ | exact zbe h _ | exact za4 h _ | exact zaY h _ _ | exact zbg h _ _ | exact zbX h _ _ | exact zb0 h _ | exact zbp h _ _ | exact zbr h _ _ | exact zbq h _ _ | refine LeO.bif ?_ ?_ | refine LeO.grd ?_ | refine LeO.join (fun _ => ?_) (fun _ _ _ => ?_) | refine LeO.bind ?_ (fun _ => ?_) | refine LeO.iter (fun _ => ?_) (fun _ _ _ _ _ => ?_) | refine LeO.iterD (fun _ => ?_) (fun _ _ _ _ _ => ?_) | refine LeO.whl h (fun _ _ _ _ => ?_))
theorem zcK : ∀ n d, LeO (zbV F n d) (zbV F2 n d) := by
  intro n d; unfold zbV
  repeat' (first | with_reducible exact LeO.refl _ | apply_assumption | exact zaU h _ | exact zbe h _ | exact za4 h _ | exact zaY h _ _ | exact zbg h _ _ | exact zbX h _ _ | exact zb0 h _ | exact zbp h _ _ | exact zbr h _ _ | exact zbq h _ _ | exact zb1 h _ _ | refine LeO.bif ?_ ?_ | refine LeO.grd ?_ | refine LeO.join (fun _ => ?_) (fun _ _ _ => ?_) | refine LeO.bind ?_ (fun _ => ?_) | refine LeO.iter (fun _ => ?_) (fun _ _ _ _ _ => ?_) | refine LeO.iterD (fun _ => ?_) (fun _ _ _ _ _ => ?_) | refine LeO.whl h (fun _ _ _ _ => ?_))
theorem zbH : ∀ a p i f t s c, LeO (zaS F a p i f t s c) (zaS F2 a p i f t s c) := by
  intro a p i f t s c; unfold zaS
  repeat' (first | with_reducible exact LeO.refl _ | apply_assumption | exact zb0 h _ | exact zbp h _ _ | exact zbr h _ _ | exact zbq h _ _ | exact zb1 h _ _ | exact zcK h _ _ | refine LeO.bif ?_ ?_ | refine LeO.grd ?_ | refine LeO.join (fun _ => ?_) (fun _ _ _ => ?_) | refine LeO.bind ?_ (fun _ => ?_) | refine LeO.iter (fun _ => ?_) (fun _ _ _ _ _ => ?_) | refine LeO.iterD (fun _ => ?_) (fun _ _ _ _ _ => ?_) | refine LeO.whl h (fun _ _ _ _ => ?_))
theorem zcG : ∀ b c, LeO (za9 F b c) (za9 F2 b c) := by
  intro b c; unfold za9
  repeat' (first | with_reducible exact LeO.refl _ | apply_assumption | exact zbp h _ _ | exact zbr h _ _ | exact zbq h _ _ | exact zb1 h _ _ | exact zcK h _ _ | exact zbH h _ _ _ _ _ _ _ | refine LeO.bif ?_ ?_ | refine LeO.grd ?_ | refine LeO.join (fun _ => ?_) (fun _ _ _ => ?_) | refine LeO.bind ?_ (fun _ => ?_) | refine LeO.iter (fun _ => ?_) (fun _ _ _ _ _ => ?_) | refine LeO.iterD (fun _ => ?_) (fun _ _ _ _ _ => ?_) | refine LeO.whl h (fun _ _ _ _ => ?_))
theorem zc3 : ∀ p l q, LeO (zaJ F p l q) (zaJ F2 p l q) := by
  intro p l q; unfold zaJ
  repeat' (first | with_reducible exact LeO.refl _ | apply_assumption | exact zbr h _ _ | exact zbq h _ _ | exact zb1 h _ _ | exact zcK h _ _ | exact zbH h _ _ _ _ _ _ _ | exact zcG h _ _ | refine LeO.bif ?_ ?_ | refine LeO.grd ?_ | refine LeO.join (fun _ => ?_) (fun _ _ _ => ?_) | refine LeO.bind ?_ (fun _ => ?_) | refine LeO.iter (fun _ => ?_) (fun _ _ _ _ _ => ?_) | refine LeO.iterD (fun _ => ?_) (fun _ _ _ _ _ => ?_) | refine LeO.whl h (fun _ _ _ _ => ?_))
theorem zde : ∀ p l q, LeO (zar F p l q) (zar F2 p l q) := by
  intro p l q; unfold zar
  repeat' (first | with_reducible exact LeO.refl _ | apply_assumption | exact zbq h _ _ | exact zb1 h _ _ | exact zcK h _ _ | exact zbH h _ _ _ _ _ _ _ | exact zcG h _ _ | exact zc3 h _ _ _ | refine LeO.bif ?_ ?_ | refine LeO.grd ?_ | refine LeO.join (fun _ => ?_) (fun _ _ _ => ?_) | refine LeO.bind ?_ (fun _ => ?_) | refine LeO.iter (fun _ => ?_) (fun _ _ _ _ _ => ?_) | refine LeO.iterD (fun _ => ?_) (fun _ _ _ _ _ => ?_) | refine LeO.whl h (fun _ _ _ _ => ?_))
theorem zeD : ∀ p l b s c, LeO (za0 F p l b s c) (za0 F2 p l b s c) := by
  intro p l b s c; unfold za0
  repeat' (first | with_reducible exact LeO.refl _ | apply_assumption | exact zb1 h _ _ | exact zcK h _ _ | exact zbH h _ _ _ _ _ _ _ | exact zcG h _ _ | exact zc3 h _ _ _ | exact zde h _ _ _ | refine LeO.bif ?_ ?_ | refine LeO.grd ?_ | refine LeO.join (fun _ => ?_) (fun _ _ _ => ?_) | refine LeO.bind ?_ (fun _ => ?_) | refine LeO.iter (fun _ => ?_) (fun _ _ _ _ _ => ?_) | refine LeO.iterD (fun _ => ?_) (fun _ _ _ _ _ => ?_) | refine LeO.whl h (fun _ _ _ _ => ?_))
end
abbrev gS : BitVec 64 := 11400714819323198485#64
abbrev iS : BitVec 64 := 17428512612931826493#64
def zcZ (s : BitVec 64) : BitVec 64 := (zb5 s).2
theorem zh7 (s : BitVec 64) : (zb5 s).1 = s + gS := rfl
def kB (s : BitVec 64) : BitVec 64 := -(s + gS) * iS
theorem zin : gS * iS = 1#64 := by decide +kernel
theorem ziy (s : BitVec 64) : kB (s + gS) = kB s - 1#64 := by
  unfold kB; rw [← zin]; generalize gS = g; generalize iS = i
  grind
theorem zmc {s : BitVec 64} (h : kB s ≠ 0#64) : (kB s).toNat = (kB (s + gS)).toNat + 1 := by
  rw [ziy, BitVec.toNat_sub]; have h1 : (kB s).toNat ≠ 0 := fun e => h (BitVec.eq_of_toNat_eq e); have h2 := (kB s).isLt; have h3 : (1#64).toNat = 1 := rfl; rw [h3]; omega
theorem zjI {s : BitVec 64} (h : (kB s).toNat ≤ 0) : kB s = 0#64 := by
  apply BitVec.eq_of_toNat_eq; rw [BitVec.toNat_zero]; omega
theorem zfB {s : BitVec 64} (h : kB s = 0#64) : zcZ s = 0#64 := by
  have h1 : s + gS = 0#64 := by
    have e : kB s * gS = -(s + gS) := by
      unfold kB; rw [BitVec.mul_assoc, BitVec.mul_comm iS gS, zin, BitVec.mul_one]
    rw [h, BitVec.zero_mul] at e; have e2 := congrArg (fun x => -x) e; simpa using e2.symm
  unfold zcZ zb5; simp only []; rw [show s + 11400714819323198485#64 = 0#64 from h1]
  decide +kernel
attribute [irreducible] kB zcZ
def accB (n w : BitVec 64) : Bool := decide ((w.toNat : Int) ≤ (((18446744073709551615#64) - ((((18446744073709551615#64) % n) + (1#64)) % n)).toNat : Int))
theorem zh5 {n : BitVec 64} (h : n ≠ 0#64) : ((((18446744073709551615#64) % n) + (1#64)) % n).toNat = 18446744073709551616 % n.toNat ∧ ((-n) % n).toNat = 18446744073709551616 % n.toNat := by
  have h0 : n.toNat ≠ 0 := fun e => h (BitVec.eq_of_toNat_eq e); have h1 := n.isLt; constructor
  · rw [BitVec.toNat_umod, BitVec.toNat_add, BitVec.toNat_umod]; have h2 : (18446744073709551615#64).toNat = 18446744073709551615 := rfl; have h3 : (1#64).toNat = 1 := rfl; rw [h2, h3]; have h4 := Nat.mod_lt 18446744073709551615 (show 0 < n.toNat by omega); by_cases h5 : 18446744073709551615 % n.toNat + 1 < 2 ^ 64
    · rw [Nat.mod_eq_of_lt h5, Nat.mod_add_mod]
    · omega
  · rw [BitVec.toNat_umod, BitVec.toNat_neg, Nat.mod_eq_of_lt (show 2 ^ 64 - n.toNat < 2 ^ 64 by omega)]; exact (Nat.mod_eq_sub_mod (show n.toNat ≤ 18446744073709551616 by omega)).symm
theorem zg4 {n w : BitVec 64} (h : n ≠ 0#64) : ((decide (((0#64).toNat : Int) < (((-n) % n).toNat : Int))) && (decide (((-((-n) % n)).toNat : Int) ≤ (w.toNat : Int)))) = !accB n w := by
  obtain ⟨h1, h2⟩ := zh5 h; unfold accB; have h0 : n.toNat ≠ 0 := fun e => h (BitVec.eq_of_toNat_eq e); have h3 := n.isLt; have h4 := Nat.mod_lt 18446744073709551616 (show 0 < n.toNat by omega); have h5 := w.isLt; rw [BitVec.toNat_sub, BitVec.toNat_neg, h1, h2]; have h6 : (18446744073709551615#64).toNat = 18446744073709551615 := rfl; have h7 : (0#64).toNat = 0 := rfl; rw [h6, h7]; generalize 18446744073709551616 % n.toNat = E at *; by_cases hE : E = 0
  · subst hE; rw [decide_eq_false (by omega), Bool.false_and, decide_eq_true (by omega)]; rfl
  · rw [decide_eq_true (by omega), Bool.true_and]; by_cases hw : 2 ^ 64 - E ≤ w.toNat
    · rw [decide_eq_true (by omega), decide_eq_false (by omega)]; rfl
    · rw [decide_eq_false (by omega), decide_eq_true (by omega)]; rfl
theorem zeG {n : BitVec 64} : accB n 0#64 = true := by
  unfold accB; rw [decide_eq_true]; have h7 : (0#64).toNat = 0 := rfl; rw [h7]; omega
def zdk (n : BitVec 64) : Nat → BitVec 64 → BitVec 64 × BitVec 64
  | 0, s => (s + gS, zcZ s)
  | m + 1, s => bif accB n (zcZ s) then (s + gS, zcZ s) else zdk n m (s + gS)
theorem zfh (n s : BitVec 64) : zdk n 0 s = (s + gS, zcZ s) := rfl
theorem zf9 {n s : BitVec 64} {m : Nat} (h : accB n (zcZ s) = true) : zdk n (m + 1) s = (s + gS, zcZ s) := by
  rw [zdk, h]; rfl
theorem zgu {n s : BitVec 64} {m : Nat} (h : accB n (zcZ s) = false) : zdk n (m + 1) s = zdk n m (s + gS) := by
  rw [zdk, h]; rfl
theorem zdx {σ ρ : Type} (f : (σ → Option ρ) → σ → Option ρ) (m : Nat) (s : σ) : zaI f (m + 1) s = f (zaI f m) s := rfl
theorem zhS {ρ : Type} {n : BitVec 64} {K : BitVec 64 → BitVec 64 → Option ρ} {f : (BitVec 64 → Option ρ) → BitVec 64 → Option ρ} (hf : ∀ next s, f next s = bif accB n (zcZ s) then K (s + gS) (zcZ s) else next (s + gS)) (m : Nat) : ∀ (s : BitVec 64), (kB s).toNat ≤ m → ∀ M, m < M → zaI f M s = K (zdk n m s).1 (zdk n m s).2 := by
  induction m with
  | zero =>
    intro s h M hM; obtain ⟨M', rfl⟩ : ∃ M', M = M' + 1 := ⟨M - 1, by omega⟩; (have ha : accB n (zcZ s) = true := by rw [zfB (zjI h)]; exact zeG); rw [zdx, hf, zfh, ha, cond_true]
  | succ m ih =>
    intro s h M hM; obtain ⟨M', rfl⟩ : ∃ M', M = M' + 1 := ⟨M - 1, by omega⟩; rw [zdx, hf]
    cases ha : accB n (zcZ s) with
    | true => rw [zf9 ha, cond_true]
    | false =>
      (have hk : kB s ≠ 0#64 := fun e => by rw [zfB e, zeG] at ha; cases ha); have hlt := zmc hk; rw [cond_false, zgu ha]; exact ih (s + gS) (by omega) M' (by omega)
theorem zh8 {ρ : Type} {n : BitVec 64} {K : BitVec 64 → BitVec 64 → Option ρ} {f : (BitVec 64 × BitVec 64 → Option ρ) → BitVec 64 × BitVec 64 → Option ρ} (hf : ∀ next s, f next (zcZ s, s + gS) = bif accB n (zcZ s) then K (s + gS) (zcZ s) else next (zcZ (s + gS), s + gS + gS)) (m : Nat) : ∀ (s : BitVec 64), (kB s).toNat ≤ m → ∀ M, m < M → zaI f M (zcZ s, s + gS) = K (zdk n m s).1 (zdk n m s).2 := by
  induction m with
  | zero =>
    intro s h M hM; obtain ⟨M', rfl⟩ : ∃ M', M = M' + 1 := ⟨M - 1, by omega⟩; (have ha : accB n (zcZ s) = true := by rw [zfB (zjI h)]; exact zeG); rw [zdx, hf, zfh, ha, cond_true]
  | succ m ih =>
    intro s h M hM; obtain ⟨M', rfl⟩ : ∃ M', M = M' + 1 := ⟨M - 1, by omega⟩; rw [zdx, hf]
    cases ha : accB n (zcZ s) with
    | true => rw [zf9 ha, cond_true]
    | false =>
      (have hk : kB s ≠ 0#64 := fun e => by rw [zfB e, zeG] at ha; cases ha); have hlt := zmc hk; rw [cond_false, zgu ha]; exact ih (s + gS) (by omega) M' (by omega)
theorem zmz (s : BitVec 64) : zah ⟨true, s⟩ = (zcZ s, s + gS) := by
  unfold zcZ; rfl
theorem zhe : ∃ m : Nat, m = 18446744073709551616 := ⟨_, rfl⟩
noncomputable def bigN : Nat := Classical.choose zhe
theorem zhJ : bigN = 18446744073709551616 := Classical.choose_spec zhe
noncomputable def numB (s : BitVec 64) (limit : Int) : Int × BitVec 64 := (wI (((zdk (BitVec.ofInt 64 limit) bigN s).2 % BitVec.ofInt 64 limit).toNat : Int), (zdk (BitVec.ofInt 64 limit) bigN s).1)
theorem zhr {limit : Int} (h1 : 1 ≤ limit) (h2 : limit ≤ 4611686018427387904) : (BitVec.ofInt 64 limit).toNat = limit.toNat := by
  rw [BitVec.toNat_ofInt]; omega
theorem zir {limit : Int} (h1 : 1 ≤ limit) (h2 : limit ≤ 4611686018427387904) : BitVec.ofInt 64 limit ≠ 0#64 := fun e => by
  have := zhr h1 h2; rw [e] at this; have h7 : (0#64).toNat = 0 := rfl; omega
theorem zfl {limit : Int} (h1 : 1 ≤ limit) (h2 : limit ≤ 4611686018427387904) (s : BitVec 64) : 0 ≤ (numB s limit).1 ∧ (numB s limit).1 < limit := by
  unfold numB; have h3 := zhr h1 h2; generalize zdk (BitVec.ofInt 64 limit) bigN s = q; generalize BitVec.ofInt 64 limit = n at *; have h4 := Nat.mod_lt q.2.toNat (show 0 < n.toNat by omega); have h5 : (q.2 % n).toNat = q.2.toNat % n.toNat := BitVec.toNat_umod; dsimp only; rw [h5, zbx (by omega)]; omega
theorem zmL (s : BitVec 64) : (kB s).toNat ≤ bigN := by rw [zhJ]; have := (kB s).isLt; omega
theorem zgj {F m : Nat} {limit : Int} (h1 : 1 ≤ limit) (h2 : limit ≤ 4611686018427387904) (s : BitVec 64) (hk : (kB s).toNat ≤ m) (hF : m < F) : zbQ F s limit = some ((zdk (BitVec.ofInt 64 limit) m s).1, wI (((zdk (BitVec.ofInt 64 limit) m s).2 % BitVec.ofInt 64 limit).toNat : Int)) := by
  have hn := zir h1 h2; unfold zbQ; rw [zaj hn, zaj hn]; refine zhS (n := BitVec.ofInt 64 limit) (K := fun st w => some (st, wI ((w % BitVec.ofInt 64 limit).toNat : Int))) (fun next s => ?_) m s hk F hF; rw [zaj hn, zh7, show (zb5 s).2 = zcZ s from by unfold zcZ; rfl]; unfold accB
  rfl
theorem zh3 {F m : Nat} {limit : Int} (h1 : 1 ≤ limit) (h2 : limit ≤ 4611686018427387904) (s : BitVec 64) (hk : (kB s).toNat ≤ m) (hF : m < F) : zao F ⟨true, s⟩ limit = some (wI (((zdk (BitVec.ofInt 64 limit) m s).2 % BitVec.ofInt 64 limit).toNat : Int), 0, (zdk (BitVec.ofInt 64 limit) m s).1) := by
  have hn := zir h1 h2; unfold zao; simp only [zap, zmz]; rw [show zaC ⟨true, s⟩ = true from rfl, Bool.not_true, cond_false, decide_eq_false (show ¬ limit < 1 by omega), decide_eq_false (show ¬ 4611686018427387904 < limit by omega), Bool.false_or, cond_false, zaj hn]; refine zh8 (n := BitVec.ofInt 64 limit) (K := fun st w => some (wI ((w % BitVec.ofInt 64 limit).toNat : Int), 0, st)) (fun next s => ?_) m s hk F hF; dsimp only; rw [zg4 hn]
  cases accB (BitVec.ofInt 64 limit) (zcZ s)
  · rfl
  · rw [Bool.not_true, cond_false, cond_true, zaj hn]
theorem zhB (s : BitVec 64) (limit : Int) : numB s limit = (wI (((zdk (BitVec.ofInt 64 limit) bigN s).2 % BitVec.ofInt 64 limit).toNat : Int), (zdk (BitVec.ofInt 64 limit) bigN s).1) := by
  unfold numB
  with_reducible rfl
theorem zdp {F : Nat} (hF : bigN < F) {limit : Int} (h1 : 1 ≤ limit) (h2 : limit ≤ 4611686018427387904) (s : BitVec 64) : zbQ F s limit = some ((numB s limit).2, (numB s limit).1) := by
  rw [zgj h1 h2 s (zmL s) hF, zhB]
theorem zeH {F : Nat} (hF : bigN < F) {limit : Int} (h1 : 1 ≤ limit) (h2 : limit ≤ 4611686018427387904) (s : BitVec 64) : zao F ⟨true, s⟩ limit = some ((numB s limit).1, 0, (numB s limit).2) := by
  rw [zh3 h1 h2 s (zmL s) hF, zhB]
attribute [irreducible] numB zdk
def zhz (st home : Int) (q : GStationPlan × Int) : Prop := q.2 = 0 → q.1.Station = st ∧ q.1.Home = home ∧ 0 ≤ st ∧ st ≤ 511 ∧ 1 ≤ home ∧ home ≤ 3 ∧ (q.1.Values.length : Int) = home + 1 ∧ ∀ j, j < q.1.Values.length → 0 ≤ nth q.1.Values j ∧ nth q.1.Values j ≤ 68719476736
theorem zfu {F : Nat} (hF : bigN < F) (seed st home scale : Int) : ∃ q, za7 F seed st home scale = some q ∧ zcA F seed st home scale = some q ∧ zhz st home q := by
  by_cases hok : 0 ≤ st ∧ st ≤ 511 ∧ 1 ≤ home ∧ home ≤ 3 ∧ 0 ≤ scale ∧ scale ≤ 68719476736
  · unfold za7 zcA
    have c1 : ((!(zaA st home)) || (!(zat scale))) = false := by
      unfold zaA zat; simp only [Bool.or_eq_false_iff, Bool.not_eq_false', Bool.and_eq_true, decide_eq_true_eq]; omega
    have c2 : ((((((decide (st < 0)) || (decide (511 < st))) || (decide (home < 1))) || (decide (3 < home))) || (decide (scale < 0))) || (decide (68719476736 < scale))) = false := by
      simp only [Bool.or_eq_false_iff, decide_eq_false_iff_not]; omega
    rw [c1, cond_false, c2, cond_false, show (zan seed).isSome = true from rfl, cond_true, show (zan seed).getD default = ⟨true, BitVec.ofInt 64 seed⟩ from rfl]; rw [zbx (show -9223372036854775808 ≤ home + 1 ∧ home + 1 ≤ 9223372036854775807 by omega), zbx (show -9223372036854775808 ≤ scale + 1 ∧ scale + 1 ≤ 9223372036854775807 by omega)]; rw [zaj (by omega), zaj (by unfold room; omega), zaj (by unfold room; omega), zeH hF (by omega) (by omega), zdp hF (by omega) (by omega), Option.bind_some, Option.bind_some]; have hb := zfl (limit := scale + 1) (by omega) (by omega) (BitVec.ofInt 64 seed); have hlen : (List.replicate (home + 1).toNat (0 : Int)).length = (home + 1).toNat := List.length_replicate; rw [zaj (by omega), zaj (by omega)]; simp only [zap]; rw [zaj (by omega)]
    let post : Option (GStationPlan × Int) → Option (GStationPlan × Int) → Prop := fun x y => ∃ q, x = some q ∧ y = some q ∧ zhz st home q
    have h0 : ∀ j, nth (List.replicate (home + 1).toNat (0 : Int)) j = 0 := fun j => by
      unfold nth; rw [List.getD_eq_getElem?_getD, List.getElem?_replicate]
      split <;> rfl
    generalize hx : zam _ _ (home.toNat - 1) 1 ((numB (BitVec.ofInt 64 seed) (scale + 1)).2, _) = x; generalize hy : zam _ _ (home.toNat - 1) 1 ((numB (BitVec.ofInt 64 seed) (scale + 1)).2, _) = y
    show post x y
    rw [← hx, ← hy]; clear hx hy x y; generalize numB (BitVec.ofInt 64 seed) (scale + 1) = nb at *; refine zd1 (n := home.toNat) (fun i (s t : BitVec 64 × List Int) => s = t ∧ s.2.length = (home + 1).toNat ∧ 0 < i ∧ ∀ j, 0 ≤ nth s.2 j ∧ nth s.2 j ≤ 68719476736) post (fun s t hR => ?_) (fun i s t next next' hi hR hn => ?_) _ _ _ _ (by omega) ?_
    · obtain ⟨rfl, h2, _, h3⟩ := hR; exact ⟨_, rfl, rfl, fun _ => ⟨rfl, rfl, hok.1, hok.2.1, hok.2.2.1, hok.2.2.2.1, by rw [h2]; omega, fun j _ => h3 j⟩⟩
    · obtain ⟨rfl, h2, hi0, h3⟩ := hR; (try dsimp only); have h4 := h3 home.toNat; rw [zaj (by omega), zaj (by omega), zbx (by omega), zeH hF (by omega) (by omega), zdp hF (by omega) (by omega), Option.bind_some, Option.bind_some]; have hb2 := zfl (limit := nth s.2 home.toNat + 1) (by omega) (by omega) s.1; refine hn _ _ ⟨rfl, by rw [List.length_set]; exact h2, by omega, fun j => ?_⟩; by_cases e : j = i
      · subst e; rw [zaL (by omega)]; omega
      · rw [zbh e]; exact h3 j
    · refine ⟨rfl, by rw [List.length_set]; exact hlen, by omega, fun j => ?_⟩; by_cases e : j = home.toNat
      · subst e; rw [zaL (by omega)]; omega
      · rw [zbh e, h0]; omega
  · unfold za7 zcA
    have c1 : ((!(zaA st home)) || (!(zat scale))) = true := by
      rw [← Bool.not_eq_false]; unfold zaA zat; simp only [Bool.or_eq_false_iff, Bool.not_eq_false', Bool.and_eq_true, decide_eq_true_eq]; omega
    have c2 : ((((((decide (st < 0)) || (decide (511 < st))) || (decide (home < 1))) || (decide (3 < home))) || (decide (scale < 0))) || (decide (68719476736 < scale))) = true := by
      rw [← Bool.not_eq_false]; simp only [Bool.or_eq_false_iff, decide_eq_false_iff_not]; omega
    rw [c1, cond_true, c2, cond_true]; exact ⟨_, rfl, rfl, fun h => by cases h⟩
structure ValsOk (n scale : Int) (v : List Int) : Prop where
  len : (v.length : Int) = n
  bd : ∀ k, k < v.length → 0 ≤ nth v k ∧ nth v k ≤ scale
  desc : ∀ k, 0 < k → k < v.length → nth v k ≤ nth v (k - 1)
def zis (bidder : Int) (l : List GProduct) (q : GBidderPlan × Int) : Prop := q.2 = 0 → q.1.Bidder = bidder ∧ 0 ≤ bidder ∧ bidder ≤ 31 ∧ zaq l = true ∧ q.1.Values.length = l.length ∧ 0 ≤ q.1.Budget ∧ q.1.Budget ≤ 687194767360 ∧ ∀ i, i < l.length → ValsOk (nth l i).Supply 68719476736 (nth q.1.Values i)
theorem zfP {F : Nat} (hF : bigN < F) (seed bidder : Int) (l : List GProduct) (scale : Int) (hl : l.length ≤ 100) : ∃ q, zbl F seed bidder l scale = some q ∧ zdb F seed bidder l scale = some q ∧ zis bidder l q := by
  unfold zbl zdb; rw [pvalid]; simp only [zap, Option.bind_some]; by_cases hok : ¬ (0 ≤ bidder ∧ bidder ≤ 31 ∧ zaq l = true ∧ 0 ≤ scale ∧ scale ≤ 68719476736)
  · have c2 : (((((decide (bidder < 0)) || (decide (31 < bidder))) || (!(zaq l))) || (decide (scale < 0))) || (decide (68719476736 < scale))) = true := by
      rw [← Bool.not_eq_false]; simp only [Bool.or_eq_false_iff, decide_eq_false_iff_not, Bool.not_eq_false']; intro h; exact hok ⟨by omega, by omega, h.1.1.2, by omega, by omega⟩
    rw [c2, cond_true]; refine ⟨(⟨0, 0, []⟩, 2), ?_, rfl, fun h => by cases h⟩; by_cases h1 : bidder < 0
    · rw [decide_eq_true h1]; rfl
    · rw [decide_eq_false h1, cond_false]; by_cases h2 : 32 ≤ bidder
      · rw [decide_eq_true h2]; rfl
      · rw [decide_eq_false h2, cond_false]
        cases h3 : zaq l with
        | false => rfl
        | true =>
          rw [Bool.not_true, cond_false]
          have h4 : zat scale = false := by
            unfold zat; rw [← Bool.not_eq_true]; simp only [Bool.and_eq_true, decide_eq_true_eq]; intro h; exact hok ⟨by omega, by omega, h3, by omega, by omega⟩
          rw [h4]; rfl
  · have hok := Decidable.not_not.1 hok; obtain ⟨b1, b2, hv, s1, s2⟩ := hok
    have c2 : (((((decide (bidder < 0)) || (decide (31 < bidder))) || (!(zaq l))) || (decide (scale < 0))) || (decide (68719476736 < scale))) = false := by
      rw [hv]; simp only [Bool.or_eq_false_iff, decide_eq_false_iff_not, Bool.not_true, and_true]; omega
    have h4 : zat scale = true := by
      unfold zat; simp only [Bool.and_eq_true, decide_eq_true_eq]; omega
    have hR := zc8 hv; rw [c2, cond_false, decide_eq_false (show ¬ bidder < 0 by omega), cond_false, decide_eq_false (show ¬ 32 ≤ bidder by omega), cond_false, hv, Bool.not_true, cond_false, h4, Bool.not_true, cond_false]; rw [show (zan seed).isSome = true from rfl, cond_true, show (zan seed).getD default = ⟨true, BitVec.ofInt 64 seed⟩ from rfl]
    let post : Option (GBidderPlan × Int) → Option (GBidderPlan × Int) → Prop := fun x y => ∃ q, x = some q ∧ y = some q ∧ zis bidder l q
    generalize hx : zam _ _ (l.length - 0) 0 ((⟨true, BitVec.ofInt 64 seed⟩ : GSource).state, bidder, (0 : Int), ([] : List (List Int))) = x; generalize hy : zam _ _ (l.length - 0) 0 (BitVec.ofInt 64 seed, bidder, (0 : Int), ([] : List (List Int))) = y
    show post x y
    rw [← hx, ← hy]; clear hx hy x y; refine zcB (n := l.length) (fun i (s t : BitVec 64 × Int × Int × List (List Int)) => s = t ∧ s.2.1 = bidder ∧ s.2.2.2.length = i ∧ ∀ j, j < i → ValsOk (nth l j).Supply 68719476736 (nth s.2.2.2 j)) post ⟨rfl, rfl, rfl, fun j hj => by omega⟩ (fun s t hR2 => ?_) (fun i s t next next' hi hR2 hn => ?_)
    · obtain ⟨rfl, h2, h3, h5⟩ := hR2; (try dsimp only); rw [zbx (show -9223372036854775808 ≤ scale * 10 ∧ scale * 10 ≤ 9223372036854775807 by omega), zbx (show -9223372036854775808 ≤ 10 * scale ∧ 10 * scale ≤ 9223372036854775807 by omega), zbx (by omega), zbx (by omega), zeH hF (by omega) (by omega), zdp hF (by omega) (by omega), Option.bind_some, Option.bind_some, Int.mul_comm 10 scale]; have hb2 := zfl (limit := scale * 10 + 1) (by omega) (by omega) s.1; exact ⟨_, rfl, rfl, fun _ => ⟨h2, b1, b2, hv, h3, hb2.1, by show (numB s.1 (scale * 10 + 1)).1 ≤ _; omega, h5⟩⟩
    · obtain ⟨rfl, h2, h3, h5⟩ := hR2; (try dsimp only); have hsi := ok12 hR hi; rw [zaj (by omega), zaj (by omega)]; refine zcB (n := (nth l i).Supply.toNat) (fun k (a : Int × List Int × BitVec 64) (b : BitVec 64 × Int × List Int) => a.1 = b.2.1 ∧ a.2.1 = b.2.2 ∧ a.2.2 = b.1 ∧ 0 ≤ a.1 ∧ a.1 ≤ scale ∧ ValsOk (k : Int) scale a.2.1 ∧ (0 < k → a.1 = nth a.2.1 (k - 1))) post ?_ (fun a b hA => ?_) (fun k a b nx nx' hk hA hnx => ?_)
      · refine ⟨rfl, rfl, rfl, s1, Int.le_refl _, ⟨rfl, fun k hk => ?_, fun k h1 hk => ?_⟩, fun h => by omega⟩
        · exact absurd hk (Nat.not_lt_zero _)
        · exact absurd hk (Nat.not_lt_zero _)
      · obtain ⟨e1, e2, e3, a1, a2, hvs, _⟩ := hA; obtain ⟨a0, av, sv⟩ := a; obtain ⟨bs, b0, bv⟩ := b; dsimp only at *; subst e1 e2 e3; have hvl := hvs.len; (have hlen : (s.2.2.2 ++ [av]).length = i + 1 := by rw [List.length_append, h3]; rfl); rw [zaj (by unfold room; rw [hlen]; omega), zaj (by unfold room; rw [hlen]; omega)]; refine hn _ _ ⟨rfl, h2, hlen, fun j hj => ?_⟩
        show ValsOk _ _ (nth (s.2.2.2 ++ [av]) j)
        by_cases e : j = i
        · subst e; rw [zbT h3.symm]; exact ⟨by rw [hvl]; omega, fun k hk => by have := hvs.bd k hk; omega, hvs.desc⟩
        · rw [zb7 (by omega)]; exact h5 j (by omega)
      · obtain ⟨e1, e2, e3, a1, a2, hvs, hla⟩ := hA; obtain ⟨a0, av, sv⟩ := a; obtain ⟨bs, b0, bv⟩ := b; dsimp only at *; subst e1 e2 e3; have hvl := hvs.len; rw [zbx (show -9223372036854775808 ≤ a0 + 1 ∧ a0 + 1 ≤ 9223372036854775807 by omega), zeH hF (by omega) (by omega), zdp hF (by omega) (by omega), Option.bind_some, Option.bind_some]; have hb2 := zfl (limit := a0 + 1) (by omega) (by omega) sv; (try dsimp only); generalize numB sv (a0 + 1) = nb at *; (have hlen : (av ++ [nb.1]).length = av.length + 1 := by rw [List.length_append]; rfl); rw [zaj (by unfold room; rw [hlen]; omega), zaj (by unfold room; rw [hlen]; omega)]; refine hnx _ _ ⟨rfl, rfl, rfl, hb2.1, by show nb.1 ≤ scale; omega, ⟨by rw [hlen]; omega, fun j hj => ?_, fun j h1 hj => ?_⟩, fun _ => ?_⟩
        · dsimp only at hj ⊢; rw [hlen] at hj; by_cases e : j = av.length
          · rw [zbT e]; omega
          · rw [zb7 (by omega)]; exact hvs.bd j (by omega)
        · dsimp only at hj ⊢; rw [hlen] at hj; rw [zb7 (show j - 1 < av.length by omega)]; by_cases e : j = av.length
          · rw [zbT e]; have := hla (by omega); rw [show k - 1 = j - 1 by omega] at this; omega
          · rw [zb7 (by omega)]; exact hvs.desc j h1 (by omega)
        · show nb.1 = nth (av ++ [nb.1]) (k + 1 - 1)
          rw [zbT (by omega)]
theorem zk0 {F F0 : Nat} (hF0 : F0 = 100000) (hF : F0 ≤ F) {p : GBidderPlan} {l : List GProduct} {blocks starts clocks : List Int} (hn : l.length ≤ 100) :
    za0 F p l blocks starts clocks = some ([], 2) ∨ ∃ d, BidsIn p l d blocks starts clocks ∧ zar F p l clocks = some (d, 0) ∧ za0 F p l blocks starts clocks = some ((zcV p d blocks starts clocks l.length 0).map (zfn p.Bidder), 0) := by
  have hm := zeD hF p l blocks starts clocks; rcases zjZ hF0 (p := p) (l := l) (blocks := blocks) (starts := starts) (clocks := clocks) hn with ⟨h1, _⟩ | ⟨d, h1, _, h2, h3, _⟩
  · exact .inl (hm _ h1)
  · exact .inr ⟨d, h1, zde hF p l clocks _ h2, hm _ h3⟩
theorem zhv (a : List Int) : za2 a a = true := zhk a
theorem zh6 {F F0 : Nat} (hF0 : F0 = 100000) (hF : F0 ≤ F) {q : GBidderPlan} {l : List GProduct} {blocks starts clocks : List Int} (hl : l.length ≤ 8) {r157 : List Int × Int} (hd : zar F q l clocks = some r157) (K : Unit → Option Bool) :
    ((za0 F q l blocks starts clocks).bind fun r196 =>
        zap K
        (fun k31 =>
          (bif decide (r196.2 = 0) then
            grd (room ([] ++ blocks).length 8) <|
            zap (fun (l_33 : List Int) =>
              (bif ((decide (¬ r157.2 = 0)) || (!(za2 l_33 r157.1))) then
                some false
                else
                k31 ()))
            (fun k34 =>
              zam (fun (i_37 : Nat) (next36 : List Int → Option Bool) (l_35 : List Int) =>
                (bif ((decide ((nth r196.1 i_37).Product < 0)) || (decide ((l_35.length : Int) ≤ (nth r196.1 i_37).Product))) then
                  some false
                  else
                  next36 (l_35.set (((nth r196.1 i_37).Product).toNat) (wI ((nth l_35 (((nth r196.1 i_37).Product).toNat)) + ((nth r196.1 i_37).Change))))))
              (fun (l_35 : List Int) =>
                k34 l_35) (r196.1.length - 0) 0 ([] ++ blocks))
            else
            k31 ()))) = K () := by
  rcases zk0 hF0 hF (p := q) (l := l) (blocks := blocks) (starts := starts) (clocks := clocks) (show l.length ≤ 100 by omega) with h | ⟨d, hIn, h1, h2⟩
  · rw [h, Option.bind_some]; simp only [zap]; rw [decide_eq_false (by decide), cond_false]
  · rw [hd] at h1; obtain rfl := Option.some.inj h1; have hbl := hIn.bl; have hrl := zeR q d blocks starts clocks l.length 0; have hfold := zfg hIn l.length 0 blocks (by omega) hbl (fun j _ _ => rfl) (fun j hj => absurd hj (Nat.not_lt_zero j)); have hbd := fun r hr => zhQ hIn (r := r) hr; rw [h2, Option.bind_some]; simp only [zap]; generalize zcV q d blocks starts clocks l.length 0 = R at *; rw [decide_eq_true trivial, cond_true, List.nil_append, zaj (by unfold room; omega)]; rw [show ((R.map (zfn q.Bidder)).length - 0) = R.length from List.length_map _]; refine zd6 (n := R.length) (fun i (S : List Int) => S = (R.take i).foldl addR blocks ∧ S.length = l.length ∧ ∀ j, j < l.length → -(12 + 12 * (i : Int)) ≤ nth S j ∧ nth S j ≤ 12 + 12 * (i : Int)) (fun x => x = K ()) ⟨rfl, hbl, fun j hj => by have := hIn.bb j hj; omega⟩ (fun S hI => ?_) (fun i S next hi hI hnx => ?_)
    · obtain ⟨h3, _⟩ := hI; rw [List.take_length, hfold] at h3; subst h3; rw [decide_eq_false (by simp), zhv]; rfl
    · obtain ⟨h3, h4, h5⟩ := hI; have hb := hbd (nth R i) (zgL hi); (try dsimp only); rw [zgC hi, show (zfn q.Bidder (nth R i)).Product = (nth R i).Product from rfl, show (zfn q.Bidder (nth R i)).Change = (nth R i).Change from rfl]; rw [decide_eq_false (show ¬ (nth R i).Product < 0 by omega), decide_eq_false (show ¬ (S.length : Int) ≤ (nth R i).Product by omega), Bool.or_self, cond_false]; have h6 := h5 (nth R i).Product.toNat (by omega); rw [zbx (by omega)]; refine hnx _ ⟨?_, by rw [List.length_set]; exact h4, fun j hj => ?_⟩
      · rw [List.take_add_one, List.getElem?_eq_getElem hi, Option.toList_some, List.foldl_append, ← h3, ← zbw hi]; rfl
      · by_cases e : j = (nth R i).Product.toNat
        · rw [e, zaL (by omega)]; omega
        · rw [zbh e]; have := h5 j hj; omega
theorem zg7 {st home : Int} {q : GStationPlan × Int} (h : zhz st home q) (h0 : q.2 = 0) : zau q.1 = true := by
  obtain ⟨h1, h2, h3, h4, h5, h6, h7, h8⟩ := h h0; unfold zau zaA; rw [zfw, h1, h2, zbx (by omega)]; (have : zbt q.1.Values 1125899906842624 = true := all_iff.2 fun i hi => by have := h8 i hi; omega); rw [this, Bool.and_true]; simp only [Bool.and_eq_true, decide_eq_true_eq]; omega
theorem zeX {ρ : Type} {f : Nat → (Unit → ρ) → Unit → ρ} {k : Unit → ρ} : ∀ (m i : Nat), (∀ j next, i ≤ j → j < i + m → f j next () = next ()) → zam f k m i () = k ()
  | 0, _, _ => rfl
  | m + 1, i, h => by rw [zbW, h i _ (Nat.le_refl _) (by omega)]; exact zeX m (i + 1) (fun j next h1 h2 => h j next (by omega) (by omega))
theorem zgY {v : List Int} (h : ∀ k, 0 < k → k < v.length → nth v k ≤ nth v (k - 1)) (r : Option Bool) : ze2 v r = r := by
  unfold ze2
  rw [zeX _ _ fun j next h1 h2 => by
    have := h j (by omega) (by omega)
    rw [zaj (by omega), show ((j : Int) - 1).toNat = j - 1 by omega, decide_eq_false (by omega), cond_false]]
theorem zg3 {p : GBidderPlan} (h : ∀ i, i < p.Values.length → (nth p.Values i).length ≤ 12 ∧ (∀ k, k < (nth p.Values i).length → 0 ≤ nth (nth p.Values i) k ∧ nth (nth p.Values i) k ≤ 549755813888) ∧ ∀ k, 0 < k → k < (nth p.Values i).length → nth (nth p.Values i) k ≤ nth (nth p.Values i) (k - 1)) : ∀ m i, i + m = p.Values.length → zfD p m i = some true := by
  intro m i hm; unfold zfD
  rw [zeX _ _ fun j next h1 h2 => by
    obtain ⟨h3, h4, h5⟩ := h j (by omega); rw [decide_eq_false (show ¬ 12 < ((nth p.Values j).length : Int) by omega), all_iff.2 h4, Bool.not_true, Bool.or_self, cond_false]
    exact zgY h5 _]
theorem zg9 {bidder : Int} {l : List GProduct} {q : GBidderPlan × Int} (hl : l.length ≤ 100) (h : zis bidder l q) (h0 : q.2 = 0) : zaW q.1 l = some true ∧ zaq l = true := by
  obtain ⟨h1, h2, h3, h4, h5, h6, h7, h8⟩ := h h0; have hR := zc8 h4; refine ⟨?_, h4⟩; rw [zdg, h4, decide_eq_false (show ¬ ¬ (q.1.Values.length : Int) = (l.length : Int) by omega), decide_eq_false (show ¬ q.1.Bidder < 0 by omega), decide_eq_false (show ¬ 31 < q.1.Bidder by omega), decide_eq_false (show ¬ q.1.Budget < 0 by omega), decide_eq_false (show ¬ 1125899906842624 < q.1.Budget by omega)]; refine (show (bif (((((!true) || false) || false) || false) || false) || false then some false else _) = _ from ?_)
  exact zg3 (fun i hi => by
    have hv := h8 i (by omega); have hs := ok12 hR (show i < l.length by omega); have hlen := hv.len
    exact ⟨by omega, fun k hk => by have := hv.bd k hk; omega, hv.desc⟩) _ _ (by omega)
theorem zh1 {F : Nat} (hF : bigN < F) (seed : Int) (p : GStationPlan) (q : GBidderPlan) {l : List GProduct} (scale : Int) (hl : l.length ≤ 8) (hk : zbO F = some true) :
    ((za7 F seed p.Station p.Home scale).bind fun r255 =>
          (bif ((decide (r255.2 = 0)) && (!(zau r255.1))) then
            some false
            else
            (zbl F seed q.Bidder l scale).bind fun r271 =>
            zap (fun (x_45 : Bool) =>
              (bif x_45 then
                some false
                else
                (zbO F).bind fun r287 =>
                some r287))
            (fun k46 =>
              (bif decide (r271.2 = 0) then
                (zaZ r271.1 l).bind fun r279 =>
                (bif !r279 then
                  k46 true
                  else
                  k46 (!(zaq l)))
                else
                k46 false)))) = some true := by
  obtain ⟨a, h1, _, h2⟩ := zfu hF seed p.Station p.Home scale; obtain ⟨b, h3, _, h4⟩ := zfP hF seed q.Bidder l scale (by omega); rw [h1, Option.bind_some, h3, Option.bind_some, hk]
  have e1 : ((decide (a.2 = 0)) && (!(zau a.1))) = false := by
    by_cases e : a.2 = 0
    · rw [zg7 h2 e, Bool.not_true, Bool.and_false]
    · rw [decide_eq_false e, Bool.false_and]
  rw [e1, cond_false]; simp only [zap]; by_cases e : b.2 = 0
  · obtain ⟨h5, h6⟩ := zg9 (by omega) h4 e; rw [decide_eq_true e, cond_true, zco, h5, h6, Option.bind_some]; rfl
  · rw [decide_eq_false e, cond_false]; rfl
theorem zfR {F F0 : Nat} (hF0 : F0 = 100000) (hF1 : F0 ≤ F) (hF2 : bigN < F) (p : GStationPlan) (current : Int) (prices : List Int) (q : GBidderPlan) (l : List GProduct) (blocks starts clocks : List Int) (which rise seed scale : Int) : zbD F p current prices q l blocks starts clocks which rise seed scale = some true := by
  have hk := zhq (fuel := F) (by omega); unfold zbD; generalize hc : ((((((((decide (10 < (p.Values.length : Int))) || (decide (10 < (prices.length : Int)))) || (!(zci q l))) || (decide (10 < (blocks.length : Int)))) || (decide (10 < (starts.length : Int)))) || (decide (10 < (clocks.length : Int)))) || (decide (rise < 0))) || (decide (549755813888 < rise))) = c
  cases c with
  | true => rw [cond_true, hk]; rfl
  | false =>
    simp only [Bool.or_eq_false_iff, Bool.not_eq_false', decide_eq_false_iff_not] at hc; obtain ⟨⟨⟨⟨⟨⟨⟨_, _⟩, hfew⟩, _⟩, _⟩, _⟩, hr1⟩, hr2⟩ := hc; have hl := (ziz hfew).2; rw [cond_false, zhR (by omega)]
    obtain ⟨r157, hd⟩ : ∃ r, zar F q l clocks = some r := by
      rcases zfz (p := q) (prices := clocks) (fuel := F) (by omega) (show l.length ≤ 100 by omega) with ⟨h1, _, _⟩ | ⟨_, _, _, _, _, d0, _, _, h1, _⟩
      · exact ⟨_, h1⟩
      · exact ⟨_, h1⟩
    rw [hd, Option.bind_some, ziC (by omega) hl (by omega) (by omega) hd, zh6 hF0 hF1 hl hd]; exact zh1 hF2 seed p q scale hl hk
theorem zg0 {F : Nat} (hF : 18446744073709651616 ≤ F) (p : GStationPlan) (current : Int) (prices : List Int) (q : GBidderPlan) (l : List GProduct) (blocks starts clocks : List Int) (which rise seed scale : Int) : zbD F p current prices q l blocks starts clocks which rise seed scale = some true := by
  have h : ∃ F0, F0 = 100000 := ⟨_, rfl⟩; obtain ⟨F0, h⟩ := h; exact zfR h (by omega) (by rw [zhJ]; omega) p current prices q l blocks starts clocks which rise seed scale
end Go.Proofs.YtlaafmiejkebgaaGreat
