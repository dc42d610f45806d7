/- Ye Yl Ca Da Db Dc: shortened and put together by squeeze.py. -/
import Derived.Test.YtlaafmiejkebgaaQ06
set_option maxRecDepth 100000
set_option maxHeartbeats 4000000
set_option linter.unusedVariables false
set_option linter.unusedSectionVars false
set_option linter.unusedSimpArgs false
namespace Go.Proofs.Ytlaafmiejkebgaa
open Go.RowKit
def zay (l : List GProduct) : Bool :=
  zax (fun (_ : Unit) =>
    true)
  (fun k1 =>
    zai (fun (i_3 : Nat) (next2 : Unit → Bool) (_ : Unit) =>
      (bif ((((((((((decide ((nth l i_3).Area < 0)) || (decide (63 < (nth l i_3).Area))) || (decide ((nth l i_3).Category < 1))) || (decide (2 < (nth l i_3).Category))) || (decide ((nth l i_3).Supply < 1))) || (decide (12 < (nth l i_3).Supply))) || (decide ((nth l i_3).Units < 1))) || (decide (100000 < (nth l i_3).Units))) || (decide ((nth l i_3).Reserve < 0))) || (decide (549755813888 < (nth l i_3).Reserve))) then
        false
        else
        (bif decide (0 < (i_3 : Int)) then
          (bif ((decide ((nth l i_3).Area < (nth l (((i_3 : Int) - 1).toNat)).Area)) || ((decide ((nth l i_3).Area = (nth l (((i_3 : Int) - 1).toNat)).Area)) && ((decide ((nth l i_3).Category ≤ (nth l (((i_3 : Int) - 1).toNat)).Category)) || (decide (12 < wI (((nth l i_3).Supply) + ((nth l (((i_3 : Int) - 1).toNat)).Supply))))))) then
            false
            else
            next2 ())
          else
          next2 ())))
    (fun (_ : Unit) =>
      k1 ()) (l.length - 0) 0 ())
theorem zdY (F0 : Frz) (w : World) (hF0 : F0.At w) (l : List GProduct) (vl : Value) (hl : SlC F0 vl 5 (l.map GProduct.enc)) : Calls Try.prog 20 #[vl] w fun e w' => e = .returned (.bool (zay l)) ∧ Below w.heap.size w w' := by
  obtain ⟨r, hk⟩ : ∃ r, zay l = r := ⟨_, rfl⟩; rw [hk]; unfold zay at hk; haveI := hl.oneC; obtain ⟨S0, F1, rfl, hS0, hp0⟩ := zaf hF0; refine zah Try.func20 rfl rfl rfl hp0 ?_; refine T.sr ?_; refine TL.run 1 rfl ?_; refine TL.ns (T.seq (T.sr ?_)); refine TL.run 1 rfl ?_; refine TL.ns ?_; have hq := zad hk; clear hk; obtain ⟨k1, hk1, hk⟩ := hq; (try dsimp only at hk); refine T.af (ι := Unit) (fun z => []) (fun z => [.fr F1]) (fun z => k1 () = r) ?_ ?_
  · have hq := zam hk; clear hk; obtain ⟨f2, kk2, hf2, hkk2, hk⟩ := hq; refine T.block ?_; refine T.loop (ι := Nat) (fun z => [(0, vl), (3, .int .i64 (z : Int))]) (fun z => [.fr F1]) (fun z => zai f2 kk2 (l.length - z) z () = r) (fun z => l.length - z) 0 ?_ ?_ ?_ ?_
    · exact hk
    · exact (.c (.c .nil))
    · exact List.Sublist.refl _
    · rintro i_3 hk; refine T.seq (T.sr ?_); refine TL.run 2 rfl ?_; refine TL.y (Yv.am rfl rfl hl (List.length_map _)) ?_; have hm8 : l.length ≤ 9223372036854775807 := (List.length_map _) ▸ hl.max; refine TL.run 1 rfl ?_; refine TL.ns ?_; refine T.cond rfl (fun h4 => ?_) (fun h4 => ?_)
      · have p4 := of_decide_eq_true h4; rw [zaA (by omega)] at hk; generalize hn2 : zai f2 kk2 (l.length - (i_3 + 1)) (i_3 + 1) = next2 at hk; rw [← hf2] at hk; (try dsimp only at hk); refine T.skip (K.seq (T.seq (T.block (T.sr ?_)))); refine TL.run 2 rfl ?_; refine TL.y (Yv.an (i := i_3) rfl rfl rfl hl (List.length_map _) rfl (by omega)) ?_; refine TL.y (Yv.aP 0 (i := i_3) rfl rfl rfl hl (by omega) rfl rfl rfl) ?_; refine TL.e (Ew.alloc rfl) ?_; rintro _ _ ⟨g4, rfl, rfl⟩; refine TL.e0 (Ew.ag 0 rfl rfl rfl rfl rfl rfl) ?_; rintro _ _ ⟨rfl, rfl⟩; refine TL.ns (T.seq (T.seq ?_)); refine T.af (ι := Unit) (fun z => [(0, vl), (3, .int .i64 (i_3 : Int)), (4, .pointer (some ⟨g4, 0, none⟩)), (63, .bool ((((((((((decide ((nth l i_3).Area < 0)) || (decide (63 < (nth l i_3).Area))) || (decide ((nth l i_3).Category < 1))) || (decide (2 < (nth l i_3).Category))) || (decide ((nth l i_3).Supply < 1))) || (decide (12 < (nth l i_3).Supply))) || (decide ((nth l i_3).Units < 1))) || (decide (100000 < (nth l i_3).Units))) || (decide ((nth l i_3).Reserve < 0))) || (decide (549755813888 < (nth l i_3).Reserve))))]) (fun z => [.row g4 45 [.int .i64 ((nth l i_3).Area), .int .i64 ((nth l i_3).Category), .int .i64 ((nth l i_3).Supply), .int .i64 ((nth l i_3).Units), .int .i64 ((nth l i_3).Reserve)], .fr F1]) (fun z => True) ?_ ?_
        · refine T.region ?_; refine TL.y (Yv.fieldAddr rfl rfl) ?_; refine TL.y (Yv.ae 0 rfl rfl rfl rfl) ?_; refine TL.run 2 rfl ?_; refine TL.gs rfl rfl rfl (fun h5 => ?_) (fun h5 => ?_)
          · have p5 := of_decide_eq_true h5; refine TL.run 44 rfl ?_; refine TL.nil ?_; exact K.ad () trivial (.c (.c (.c (.b (zak (zak (zak (zak (zak (zak (zak (zak (zak h5))))))))).symm .nil)))) (List.Sublist.refl _)
          · have p5 := of_decide_eq_false h5; refine TL.y (Yv.fieldAddr rfl rfl) ?_; refine TL.y (Yv.ae 0 rfl rfl rfl rfl) ?_; refine TL.run 3 rfl ?_; refine TL.gs rfl rfl rfl (fun h6 => ?_) (fun h6 => ?_)
            · have p6 := of_decide_eq_true h6; refine TL.run 39 rfl ?_; refine TL.nil ?_; exact K.ad () trivial (.c (.c (.c (.b (zak (zak (zak (zak (zak (zak (zak (zak (zat h5 h6))))))))).symm .nil)))) (List.Sublist.refl _)
            · have p6 := of_decide_eq_false h6; refine TL.y (Yv.fieldAddr rfl rfl) ?_; refine TL.y (Yv.ae 0 rfl rfl rfl rfl) ?_; refine TL.run 3 rfl ?_; refine TL.gs rfl rfl rfl (fun h7 => ?_) (fun h7 => ?_)
              · have p7 := of_decide_eq_true h7; refine TL.run 34 rfl ?_; refine TL.nil ?_; exact K.ad () trivial (.c (.c (.c (.b (zak (zak (zak (zak (zak (zak (zak (zat (zat h5 h6) h7)))))))).symm .nil)))) (List.Sublist.refl _)
              · have p7 := of_decide_eq_false h7; refine TL.y (Yv.fieldAddr rfl rfl) ?_; refine TL.y (Yv.ae 0 rfl rfl rfl rfl) ?_; refine TL.run 3 rfl ?_; refine TL.gs rfl rfl rfl (fun h8 => ?_) (fun h8 => ?_)
                · have p8 := of_decide_eq_true h8; refine TL.run 29 rfl ?_; refine TL.nil ?_; exact K.ad () trivial (.c (.c (.c (.b (zak (zak (zak (zak (zak (zak (zat (zat (zat h5 h6) h7) h8))))))).symm .nil)))) (List.Sublist.refl _)
                · have p8 := of_decide_eq_false h8; refine TL.y (Yv.fieldAddr rfl rfl) ?_; refine TL.y (Yv.ae 0 rfl rfl rfl rfl) ?_; refine TL.run 3 rfl ?_; refine TL.gs rfl rfl rfl (fun h9 => ?_) (fun h9 => ?_)
                  · have p9 := of_decide_eq_true h9; refine TL.run 24 rfl ?_; refine TL.nil ?_; exact K.ad () trivial (.c (.c (.c (.b (zak (zak (zak (zak (zak (zat (zat (zat (zat h5 h6) h7) h8) h9)))))).symm .nil)))) (List.Sublist.refl _)
                  · have p9 := of_decide_eq_false h9; refine TL.y (Yv.fieldAddr rfl rfl) ?_; refine TL.y (Yv.ae 0 rfl rfl rfl rfl) ?_; refine TL.run 3 rfl ?_; refine TL.gs rfl rfl rfl (fun h10 => ?_) (fun h10 => ?_)
                    · have p10 := of_decide_eq_true h10; refine TL.run 19 rfl ?_; refine TL.nil ?_; exact K.ad () trivial (.c (.c (.c (.b (zak (zak (zak (zak (zat (zat (zat (zat (zat h5 h6) h7) h8) h9) h10))))).symm .nil)))) (List.Sublist.refl _)
                    · have p10 := of_decide_eq_false h10; refine TL.y (Yv.fieldAddr rfl rfl) ?_; refine TL.y (Yv.ae 0 rfl rfl rfl rfl) ?_; refine TL.run 3 rfl ?_; refine TL.gs rfl rfl rfl (fun h11 => ?_) (fun h11 => ?_)
                      · have p11 := of_decide_eq_true h11; refine TL.run 14 rfl ?_; refine TL.nil ?_; exact K.ad () trivial (.c (.c (.c (.b (zak (zak (zak (zat (zat (zat (zat (zat (zat h5 h6) h7) h8) h9) h10) h11)))).symm .nil)))) (List.Sublist.refl _)
                      · have p11 := of_decide_eq_false h11; refine TL.y (Yv.fieldAddr rfl rfl) ?_; refine TL.y (Yv.ae 0 rfl rfl rfl rfl) ?_; refine TL.run 3 rfl ?_; refine TL.gs rfl rfl rfl (fun h12 => ?_) (fun h12 => ?_)
                        · have p12 := of_decide_eq_true h12; refine TL.run 9 rfl ?_; refine TL.nil ?_; exact K.ad () trivial (.c (.c (.c (.b (zak (zak (zat (zat (zat (zat (zat (zat (zat h5 h6) h7) h8) h9) h10) h11) h12))).symm .nil)))) (List.Sublist.refl _)
                        · have p12 := of_decide_eq_false h12; refine TL.y (Yv.fieldAddr rfl rfl) ?_; refine TL.y (Yv.ae 0 rfl rfl rfl rfl) ?_; refine TL.run 3 rfl ?_; refine TL.gs rfl rfl rfl (fun h13 => ?_) (fun h13 => ?_)
                          · have p13 := of_decide_eq_true h13; refine TL.run 4 rfl ?_; refine TL.nil ?_; exact K.ad () trivial (.c (.c (.c (.b (zak (zat (zat (zat (zat (zat (zat (zat (zat h5 h6) h7) h8) h9) h10) h11) h12) h13)).symm .nil)))) (List.Sublist.refl _)
                          · have p13 := of_decide_eq_false h13; refine TL.y (Yv.fieldAddr rfl rfl) ?_; refine TL.y (Yv.ae 0 rfl rfl rfl rfl) ?_; refine TL.run 2 rfl ?_; refine TL.nil ?_; exact K.ad () trivial (.c (.c (.c (.b (or_f (zat (zat (zat (zat (zat (zat (zat (zat h5 h6) h7) h8) h9) h10) h11) h12) h13)) .nil)))) (List.Sublist.refl _)
        · rintro _ _; refine T.cond rfl (fun h14 => ?_) (fun h14 => ?_)
          · replace hk := zaa hk h14; refine T.sr ?_; refine TL.run 1 rfl ?_; refine TL.ns (T.ret (K.a (K.ah (K.a (K.a (K.ah (K.a ?_))))))); subst hk; exact K.ak rfl rfl (fun w' hw => ⟨rfl, hw.isBelow⟩)
          · have p14 := h14; (try simp only [nfB] at p14); replace hk := zab hk h14; refine T.skip (K.seq (T.sr ?_)); refine TL.run 2 rfl ?_; refine TL.ns ?_; refine T.cond rfl (fun h15 => ?_) (fun h15 => ?_)
            · have p15 := of_decide_eq_true h15; replace hk := zaa hk h15; refine T.sr ?_; refine TL.run 2 rfl ?_; refine TL.y (Yv.aH rfl rfl rfl (by omega)) ?_; refine TL.y (Yv.an (i := ((i_3 : Int) - 1).toNat) rfl rfl rfl hl (List.length_map _) (by omega) (by omega)) ?_; refine TL.y (Yv.aP 1 (i := ((i_3 : Int) - 1).toNat) rfl rfl rfl hl (by omega) rfl rfl rfl) ?_; refine TL.e (Ew.alloc rfl) ?_; rintro _ _ ⟨g5, rfl, rfl⟩; refine TL.e0 (Ew.ag 0 rfl rfl rfl rfl rfl rfl) ?_; rintro _ _ ⟨rfl, rfl⟩; refine TL.ns (T.seq ?_); refine T.af (ι := Unit) (fun z => [(0, vl), (3, .int .i64 (i_3 : Int)), (97, .bool ((decide ((nth l i_3).Area < (nth l (((i_3 : Int) - 1).toNat)).Area)) || ((decide ((nth l i_3).Area = (nth l (((i_3 : Int) - 1).toNat)).Area)) && ((decide ((nth l i_3).Category ≤ (nth l (((i_3 : Int) - 1).toNat)).Category)) || (decide (12 < wI (((nth l i_3).Supply) + ((nth l (((i_3 : Int) - 1).toNat)).Supply))))))))]) (fun z => [.row g5 45 [.int .i64 ((nth l (((i_3 : Int) - 1).toNat)).Area), .int .i64 ((nth l (((i_3 : Int) - 1).toNat)).Category), .int .i64 ((nth l (((i_3 : Int) - 1).toNat)).Supply), .int .i64 ((nth l (((i_3 : Int) - 1).toNat)).Units), .int .i64 ((nth l (((i_3 : Int) - 1).toNat)).Reserve)], .row g4 45 [.int .i64 ((nth l i_3).Area), .int .i64 ((nth l i_3).Category), .int .i64 ((nth l i_3).Supply), .int .i64 ((nth l i_3).Units), .int .i64 ((nth l i_3).Reserve)], .fr F1]) (fun z => True) ?_ ?_
              · refine T.region ?_; refine TL.y (Yv.fieldAddr rfl rfl) ?_; refine TL.y (Yv.ae 1 rfl rfl rfl rfl) ?_; refine TL.y (Yv.fieldAddr rfl rfl) ?_; refine TL.y (Yv.ae 0 rfl rfl rfl rfl) ?_; refine TL.run 2 rfl ?_; refine TL.gs rfl rfl rfl (fun h16 => ?_) (fun h16 => ?_)
                · have p16 := of_decide_eq_true h16; refine TL.run 21 rfl ?_; refine TL.nil ?_; exact K.ad () trivial (.c (.c (.b (zak h16).symm .nil))) (List.Sublist.refl _)
                · have p16 := of_decide_eq_false h16; refine TL.y (Yv.fieldAddr rfl rfl) ?_; refine TL.y (Yv.ae 1 rfl rfl rfl rfl) ?_; refine TL.y (Yv.fieldAddr rfl rfl) ?_; refine TL.y (Yv.ae 0 rfl rfl rfl rfl) ?_; refine TL.run 2 rfl ?_; refine TL.gs rfl rfl rfl (fun h17 => ?_) (fun h17 => ?_)
                  · have p17 := of_decide_eq_true h17; refine TL.y (Yv.fieldAddr rfl rfl) ?_; refine TL.y (Yv.ae 1 rfl rfl rfl rfl) ?_; refine TL.y (Yv.fieldAddr rfl rfl) ?_; refine TL.y (Yv.ae 0 rfl rfl rfl rfl) ?_; refine TL.run 2 rfl ?_; refine TL.gs rfl rfl rfl (fun h18 => ?_) (fun h18 => ?_)
                    · have p18 := of_decide_eq_true h18; refine TL.run 9 rfl ?_; refine TL.nil ?_; exact K.ad () trivial (.c (.c (.b (zat h16 (zb5 h17 (zak h18))).symm .nil))) (List.Sublist.refl _)
                    · have p18 := of_decide_eq_false h18; refine TL.y (Yv.fieldAddr rfl rfl) ?_; refine TL.y (Yv.ae 1 rfl rfl rfl rfl) ?_; refine TL.y (Yv.fieldAddr rfl rfl) ?_; refine TL.y (Yv.ae 0 rfl rfl rfl rfl) ?_; refine TL.y (Yv.au (v := .int .i64 (wI (((nth l i_3).Supply) + ((nth l (((i_3 : Int) - 1).toNat)).Supply)))) rfl) ?_; refine TL.run 4 rfl ?_; refine TL.nil ?_; exact K.ad () trivial (.c (.c (.b (Eq.trans (Eq.trans (or_f h18) (zcg h17)) (or_f h16)) .nil))) (List.Sublist.refl _)
                  · have p17 := of_decide_eq_false h17; refine TL.run 15 rfl ?_; refine TL.nil ?_; exact K.ad () trivial (.c (.c (.b (zat h16 (zaS h17)).symm .nil))) (List.Sublist.refl _)
              · rintro _ _; refine T.cond rfl (fun h19 => ?_) (fun h19 => ?_)
                · replace hk := zaa hk h19; refine T.sr ?_; refine TL.run 1 rfl ?_; refine TL.ns (T.ret (K.ah (K.a (K.a (K.ah (K.a ?_)))))); subst hk; exact K.ak rfl rfl (fun w' hw => ⟨rfl, hw.isBelow⟩)
                · have p19 := h19; (try simp only [nfB] at p19); replace hk := zab hk h19; refine T.skip (K.ab (K.seq (T.region ?_))); refine TL.run 1 rfl ?_; refine TL.y (Yv.av rfl rfl rfl (by omega)) ?_; refine TL.run 1 rfl ?_; refine TL.nil ?_; rw [← hn2] at hk; refine K.pick [2] rfl (by decide) ?_; exact K.next (i_3 + 1) hk (by omega) (.c (.c .nil)) (List.Sublist.refl _)
            · have p15 := of_decide_eq_false h15; replace hk := zab hk h15; refine T.skip (K.ab (K.seq (T.region ?_))); refine TL.run 1 rfl ?_; refine TL.y (Yv.av rfl rfl rfl (by omega)) ?_; refine TL.run 1 rfl ?_; refine TL.nil ?_; rw [← hn2] at hk; refine K.pick [1] rfl (by decide) ?_; exact K.next (i_3 + 1) hk (by omega) (.c (.c .nil)) (List.Sublist.refl _)
      · have p4 := of_decide_eq_false h4; rw [zaz (by omega), ← hkk2] at hk; (try dsimp only at hk); refine T.exit (K.aa (K.aa (K.ac ?_))); exact K.ad () hk .nil (List.Sublist.refl _)
  · rintro _ hk; rw [← hk1] at hk; (try dsimp only at hk); refine T.sr ?_; refine TL.run 1 rfl ?_; refine TL.ns (T.ret ?_); subst hk; exact K.ak rfl rfl (fun w' hw => ⟨rfl, hw.isBelow⟩)
def zaF (l : List Int) (most : Int) : Bool :=
  zax (fun (_ : Unit) =>
    true)
  (fun k1 =>
    zai (fun (i_3 : Nat) (next2 : Unit → Bool) (_ : Unit) =>
      (bif ((decide ((nth l i_3) < 0)) || (decide (most < (nth l i_3)))) then
        false
        else
        next2 ()))
    (fun (_ : Unit) =>
      k1 ()) (l.length - 0) 0 ())
theorem zdu (F0 : Frz) (w : World) (hF0 : F0.At w) (l : List Int) (vl : Value) (hl : SlC F0 vl 1 (l.map eI)) (most : Int) : Calls Try.prog 17 #[vl, .int .i64 most] w fun e w' => e = .returned (.bool (zaF l most)) ∧ Below w.heap.size w w' := by
  obtain ⟨r, hk⟩ : ∃ r, zaF l most = r := ⟨_, rfl⟩; rw [hk]; unfold zaF at hk; haveI := hl.oneC; obtain ⟨S0, F1, rfl, hS0, hp0⟩ := zaf hF0; refine zah Try.func17 rfl rfl rfl hp0 ?_; refine T.sr ?_; refine TL.run 1 rfl ?_; refine TL.ns (T.seq (T.sr ?_)); refine TL.run 1 rfl ?_; refine TL.ns ?_; have hq := zad hk; clear hk; obtain ⟨k1, hk1, hk⟩ := hq; (try dsimp only at hk); refine T.af (ι := Unit) (fun z => []) (fun z => [.fr F1]) (fun z => k1 () = r) ?_ ?_
  · have hq := zam hk; clear hk; obtain ⟨f2, kk2, hf2, hkk2, hk⟩ := hq; refine T.block ?_; refine T.loop (ι := Nat) (fun z => [(0, vl), (1, .int .i64 most), (5, .int .i64 (z : Int))]) (fun z => [.fr F1]) (fun z => zai f2 kk2 (l.length - z) z () = r) (fun z => l.length - z) 0 ?_ ?_ ?_ ?_
    · exact hk
    · exact (.c (.c (.c .nil)))
    · exact List.Sublist.refl _
    · rintro i_3 hk; refine T.seq (T.sr ?_); refine TL.run 2 rfl ?_; refine TL.y (Yv.am rfl rfl hl (List.length_map _)) ?_; have hm8 : l.length ≤ 9223372036854775807 := (List.length_map _) ▸ hl.max; refine TL.run 1 rfl ?_; refine TL.ns ?_; refine T.cond rfl (fun h4 => ?_) (fun h4 => ?_)
      · have p4 := of_decide_eq_true h4; rw [zaA (by omega)] at hk; generalize hn2 : zai f2 kk2 (l.length - (i_3 + 1)) (i_3 + 1) = next2 at hk; rw [← hf2] at hk; (try dsimp only at hk); refine T.skip (K.seq (T.seq (T.block (T.seq ?_)))); refine T.af (ι := Unit) (fun z => [(0, vl), (1, .int .i64 most), (5, .int .i64 (i_3 : Int)), (24, .bool ((decide ((nth l i_3) < 0)) || (decide (most < (nth l i_3)))))]) (fun z => [.fr F1]) (fun z => True) ?_ ?_
        · refine T.region ?_; refine TL.run 2 rfl ?_; refine TL.y (Yv.an (i := i_3) rfl rfl rfl hl (List.length_map _) rfl (by omega)) ?_; refine TL.y (Yv.al 0 (i := i_3) (j := 0) rfl rfl rfl hl (by omega) rfl rfl) ?_; refine TL.run 2 rfl ?_; refine TL.gs rfl rfl rfl (fun h5 => ?_) (fun h5 => ?_)
          · have p5 := of_decide_eq_true h5; refine TL.run 7 rfl ?_; refine TL.nil ?_; exact K.ad () trivial (.c (.c (.c (.b (zak h5).symm .nil)))) (List.Sublist.refl _)
          · have p5 := of_decide_eq_false h5; refine TL.run 2 rfl ?_; refine TL.y (Yv.an (i := i_3) rfl rfl rfl hl (List.length_map _) rfl (by omega)) ?_; refine TL.y (Yv.al 0 (i := i_3) (j := 0) rfl rfl rfl hl (by omega) rfl rfl) ?_; refine TL.run 3 rfl ?_; refine TL.nil ?_; exact K.ad () trivial (.c (.c (.c (.b (or_f h5) .nil)))) (List.Sublist.refl _)
        · rintro _ _; refine T.cond rfl (fun h6 => ?_) (fun h6 => ?_)
          · replace hk := zaa hk h6; refine T.sr ?_; refine TL.run 1 rfl ?_; refine TL.ns (T.ret (K.ah (K.a (K.a (K.ah (K.a ?_)))))); subst hk; exact K.ak rfl rfl (fun w' hw => ⟨rfl, hw.isBelow⟩)
          · have p6 := h6; (try simp only [nfB] at p6); replace hk := zab hk h6; refine T.skip (K.ab (K.seq (T.region ?_))); refine TL.run 1 rfl ?_; refine TL.y (Yv.av rfl rfl rfl (by omega)) ?_; refine TL.run 1 rfl ?_; refine TL.nil ?_; rw [← hn2] at hk; exact K.next (i_3 + 1) hk (by omega) (.c (.c (.c .nil))) (List.Sublist.refl _)
      · have p4 := of_decide_eq_false h4; rw [zaz (by omega), ← hkk2] at hk; (try dsimp only at hk); refine T.exit (K.aa (K.aa (K.ac ?_))); exact K.ad () hk .nil (List.Sublist.refl _)
  · rintro _ hk; rw [← hk1] at hk; (try dsimp only at hk); refine T.sr ?_; refine TL.run 1 rfl ?_; refine TL.ns (T.ret ?_); subst hk; exact K.ak rfl rfl (fun w' hw => ⟨rfl, hw.isBelow⟩)
def zaU (p : GBidderPlan) (l : List GProduct) : Option Bool :=
  (bif ((((((!(zay l)) || (decide (¬ (p.Values.length : Int) = (l.length : Int)))) || (decide (p.Bidder < 0))) || (decide (31 < p.Bidder))) || (decide (p.Budget < 0))) || (decide (1125899906842624 < p.Budget))) then
    some false
    else
    zax (fun (_ : Unit) =>
      some true)
    (fun k7 =>
      zai (fun (i_9 : Nat) (next8 : Unit → Option Bool) (_ : Unit) =>
        (bif ((decide (12 < ((nth p.Values i_9).length : Int))) || (!(zaF (nth p.Values i_9) 549755813888))) then
          some false
          else
          zai (fun (k_14 : Nat) (next13 : Unit → Option Bool) (_ : Unit) =>
            grd (0 ≤ ((k_14 : Int) - 1) ∧ ((k_14 : Int) - 1) < ((nth p.Values i_9).length : Int)) <|
            (bif decide ((nth (nth p.Values i_9) (((k_14 : Int) - 1).toNat)) < (nth (nth p.Values i_9) k_14)) then
              some false
              else
              next13 ()))
          (fun (_ : Unit) =>
            next8 ()) (((nth p.Values i_9).length) - 1) 1 ()))
      (fun (_ : Unit) =>
        k7 ()) (p.Values.length - 0) 0 ()))
theorem zcN (F0 : Frz) (w : World) (hF0 : F0.At w) (p : GBidderPlan) (vp_2 : Value) (cp_2 : List (List Value)) (hp_2 : SlD R_List_Int.rep F0 vp_2 1 cp_2 p.Values) (l : List GProduct) (vl : Value) (hl : SlC F0 vl 5 (l.map GProduct.enc)) (r : Bool) (hr : zaU p l = some r) : Calls Try.prog 9 #[.agg [.int .i64 p.Bidder, .int .i64 p.Budget, vp_2].toArray, vl] w fun e w' => e = .returned (.bool r) ∧ Below w.heap.size w w' := by
  have hk := hr; unfold zaU at hk; haveI := hp_2.1.oneC; haveI := hl.oneC; obtain ⟨S0, F1, rfl, hS0, hp0⟩ := zaf hF0; refine zah Try.func9 rfl rfl rfl hp0 ?_; refine T.sr ?_; refine TL.e (Ew.aw rfl rfl) ?_; rintro _ _ ⟨g2, rfl, rfl⟩; refine TL.run 1 rfl ?_; refine TL.ns (T.seq (T.seq ?_)); refine T.af (ι := Unit) (fun z => [(2, .pointer (some ⟨g2, 0, none⟩)), (38, .bool ((((((!(zay l)) || (decide (¬ (p.Values.length : Int) = (l.length : Int)))) || (decide (p.Bidder < 0))) || (decide (31 < p.Bidder))) || (decide (p.Budget < 0))) || (decide (1125899906842624 < p.Budget))))]) (fun z => [.row g2 24 [.int .i64 p.Bidder, .int .i64 p.Budget, vp_2], .fr F1]) (fun z => True) ?_ ?_
  · refine T.region ?_; refine TL.run 1 rfl ?_; refine TL.e (Ew.ai rfl rfl rfl (fun w hw => zdY _ w (hw.fr (i := 1) rfl) l vl hl)) ?_; rintro _ _ ⟨rfl, rfl⟩; refine TL.run 2 rfl ?_; refine TL.gs rfl rfl rfl (fun h1 => ?_) (fun h1 => ?_)
    · refine TL.run 27 rfl ?_; refine TL.nil ?_; exact K.ad () trivial (.c (.b (zak (zak (zak (zak (zak h1))))).symm .nil)) (List.Sublist.refl _)
    · refine TL.y (Yv.fieldAddr rfl rfl) ?_; refine TL.y (Yv.ae 0 rfl rfl rfl rfl) ?_; refine TL.y (Yv.am rfl rfl hp_2.1 hp_2.2.1) ?_; have hm14 : p.Values.length ≤ 9223372036854775807 := hp_2.2.1 ▸ hp_2.1.max; refine TL.run 1 rfl ?_; refine TL.y (Yv.am rfl rfl hl (List.length_map _)) ?_; have hm16 : l.length ≤ 9223372036854775807 := (List.length_map _) ▸ hl.max; refine TL.run 3 rfl ?_; refine TL.gs rfl rfl rfl (fun h2 => ?_) (fun h2 => ?_)
      · have p2 := of_decide_eq_true h2; refine TL.run 19 rfl ?_; refine TL.nil ?_; exact K.ad () trivial (.c (.b (zak (zak (zak (zak (zat h1 h2))))).symm .nil)) (List.Sublist.refl _)
      · have p2 := of_decide_eq_false h2; refine TL.y (Yv.fieldAddr rfl rfl) ?_; refine TL.y (Yv.ae 0 rfl rfl rfl rfl) ?_; refine TL.run 3 rfl ?_; refine TL.gs rfl rfl rfl (fun h3 => ?_) (fun h3 => ?_)
        · have p3 := of_decide_eq_true h3; refine TL.run 14 rfl ?_; refine TL.nil ?_; exact K.ad () trivial (.c (.b (zak (zak (zak (zat (zat h1 h2) h3)))).symm .nil)) (List.Sublist.refl _)
        · have p3 := of_decide_eq_false h3; refine TL.y (Yv.fieldAddr rfl rfl) ?_; refine TL.y (Yv.ae 0 rfl rfl rfl rfl) ?_; refine TL.run 3 rfl ?_; refine TL.gs rfl rfl rfl (fun h4 => ?_) (fun h4 => ?_)
          · have p4 := of_decide_eq_true h4; refine TL.run 9 rfl ?_; refine TL.nil ?_; exact K.ad () trivial (.c (.b (zak (zak (zat (zat (zat h1 h2) h3) h4))).symm .nil)) (List.Sublist.refl _)
          · have p4 := of_decide_eq_false h4; refine TL.y (Yv.fieldAddr rfl rfl) ?_; refine TL.y (Yv.ae 0 rfl rfl rfl rfl) ?_; refine TL.run 3 rfl ?_; refine TL.gs rfl rfl rfl (fun h5 => ?_) (fun h5 => ?_)
            · have p5 := of_decide_eq_true h5; refine TL.run 4 rfl ?_; refine TL.nil ?_; exact K.ad () trivial (.c (.b (zak (zat (zat (zat (zat h1 h2) h3) h4) h5)).symm .nil)) (List.Sublist.refl _)
            · have p5 := of_decide_eq_false h5; refine TL.y (Yv.fieldAddr rfl rfl) ?_; refine TL.y (Yv.ae 0 rfl rfl rfl rfl) ?_; refine TL.run 2 rfl ?_; refine TL.nil ?_; exact K.ad () trivial (.c (.b (or_f (zat (zat (zat (zat h1 h2) h3) h4) h5)) .nil)) (List.Sublist.refl _)
  · rintro _ _; have hm14 : p.Values.length ≤ 9223372036854775807 := hp_2.2.1 ▸ hp_2.1.max; have hm16 : l.length ≤ 9223372036854775807 := (List.length_map _) ▸ hl.max; refine T.cond rfl (fun h6 => ?_) (fun h6 => ?_)
    · replace hk := zaa hk h6; refine T.sr ?_; refine TL.run 1 rfl ?_; refine TL.ns (T.ret (K.a ?_)); obtain rfl := Option.some.inj hk; exact K.ak rfl rfl (fun w' hw => ⟨rfl, hw.isBelow⟩)
    · have p6 := h6; (try simp only [nfB] at p6); replace hk := zab hk h6; refine T.skip (K.seq (T.seq (T.sr ?_))); refine TL.run 1 rfl ?_; refine TL.ns ?_; have hq := zad hk; clear hk; obtain ⟨k7, hk7, hk⟩ := hq; (try dsimp only at hk); refine T.af (ι := Unit) (fun z => []) (fun z => [.fr F1]) (fun z => k7 () = some r) ?_ ?_
      · have hq := zam hk; clear hk; obtain ⟨f8, kk8, hf8, hkk8, hk⟩ := hq; refine T.block ?_; refine T.loop (ι := Nat) (fun z => [(2, .pointer (some ⟨g2, 0, none⟩)), (5, .int .i64 (z : Int))]) (fun z => [.row g2 24 [.int .i64 p.Bidder, .int .i64 p.Budget, vp_2], .fr F1]) (fun z => zai f8 kk8 (p.Values.length - z) z () = some r) (fun z => p.Values.length - z) 0 ?_ ?_ ?_ ?_
        · exact hk
        · exact (.c (.c .nil))
        · exact List.Sublist.refl _
        · rintro i_9 hk; refine T.seq (T.sr ?_); refine TL.run 1 rfl ?_; refine TL.y (Yv.fieldAddr rfl rfl) ?_; refine TL.y (Yv.ae 0 rfl rfl rfl rfl) ?_; refine TL.y (Yv.am rfl rfl hp_2.1 hp_2.2.1) ?_; refine TL.run 1 rfl ?_; refine TL.ns ?_; refine T.cond rfl (fun h10 => ?_) (fun h10 => ?_)
          · have p10 := of_decide_eq_true h10; rw [zaA (by omega)] at hk; generalize hn8 : zai f8 kk8 (p.Values.length - (i_9 + 1)) (i_9 + 1) = next8 at hk; rw [← hf8] at hk; (try dsimp only at hk); refine T.skip (K.seq (T.seq (T.block (T.sr ?_)))); refine TL.y (Yv.fieldAddr rfl rfl) ?_; refine TL.y (Yv.ae 0 rfl rfl rfl rfl) ?_; refine TL.run 1 rfl ?_; refine TL.y (Yv.an (i := i_9) rfl rfl rfl hp_2.1 hp_2.2.1 rfl (by omega)) ?_; refine TL.y (Yv.aJ 1 (i := i_9) (j := 0) rfl rfl rfl hp_2.1 hp_2.2.1 (by omega) rfl (R_List_Int.c0 (hp_2.2.2 i_9 (by omega))).1) ?_; have hd50_0 := (R_List_Int.c0 (hp_2.2.2 i_9 (by omega))).2; haveI := hd50_0.oneC; refine TL.run 1 rfl ?_; refine TL.ns (T.seq (T.seq ?_)); refine T.af (ι := Unit) (fun z => [(2, .pointer (some ⟨g2, 0, none⟩)), (5, .int .i64 (i_9 : Int)), (6, (nth (nth cp_2 i_9) 0)), (58, .bool ((decide (12 < ((nth p.Values i_9).length : Int))) || (!(zaF (nth p.Values i_9) 549755813888))))]) (fun z => [.row g2 24 [.int .i64 p.Bidder, .int .i64 p.Budget, vp_2], .fr F1]) (fun z => True) ?_ ?_
            · refine T.region ?_; refine TL.run 1 rfl ?_; refine TL.y (Yv.am rfl rfl hd50_0 (List.length_map _)) ?_; have hm52 : (nth p.Values i_9).length ≤ 9223372036854775807 := (List.length_map _) ▸ hd50_0.max; refine TL.run 2 rfl ?_; refine TL.gs rfl rfl rfl (fun h11 => ?_) (fun h11 => ?_)
              · have p11 := of_decide_eq_true h11; refine TL.run 4 rfl ?_; refine TL.nil ?_; exact K.ad () trivial (.c (.c (.c (.b (zak h11).symm .nil)))) (List.Sublist.refl _)
              · have p11 := of_decide_eq_false h11; refine TL.run 1 rfl ?_; refine TL.e (Ew.ai rfl rfl rfl (fun w hw => zdu _ w (hw.fr (i := 1) rfl) (nth p.Values i_9) (nth (nth cp_2 i_9) 0) hd50_0 549755813888)) ?_; rintro _ _ ⟨rfl, rfl⟩; refine TL.run 2 rfl ?_; refine TL.nil ?_; exact K.ad () trivial (.c (.c (.c (.b (or_f h11) .nil)))) (List.Sublist.refl _)
            · rintro _ _; have hm52 : (nth p.Values i_9).length ≤ 9223372036854775807 := (List.length_map _) ▸ hd50_0.max; refine T.cond rfl (fun h12 => ?_) (fun h12 => ?_)
              · replace hk := zaa hk h12; refine T.sr ?_; refine TL.run 1 rfl ?_; refine TL.ns (T.ret (K.a (K.ah (K.a (K.a (K.ah (K.a ?_))))))); obtain rfl := Option.some.inj hk; exact K.ak rfl rfl (fun w' hw => ⟨rfl, hw.isBelow⟩)
              · have p12 := h12; (try simp only [nfB] at p12); replace hk := zab hk h12; refine T.skip (K.seq (T.sr ?_)); refine TL.run 1 rfl ?_; refine TL.ns ?_; have hq := zam hk; clear hk; obtain ⟨f13, kk13, hf13, hkk13, hk⟩ := hq; refine T.block ?_; refine T.loop (ι := Nat) (fun z => [(2, .pointer (some ⟨g2, 0, none⟩)), (5, .int .i64 (i_9 : Int)), (6, (nth (nth cp_2 i_9) 0)), (7, .int .i64 (z : Int))]) (fun z => [.row g2 24 [.int .i64 p.Bidder, .int .i64 p.Budget, vp_2], .fr F1]) (fun z => zai f13 kk13 (((nth p.Values i_9).length) - z) z () = some r) (fun z => ((nth p.Values i_9).length) - z) 1 ?_ ?_ ?_ ?_
                · exact hk
                · exact (.c (.c (.c (.c .nil))))
                · exact List.Sublist.refl _
                · rintro k_14 hk; refine T.seq (T.sr ?_); refine TL.run 2 rfl ?_; refine TL.y (Yv.am rfl rfl hd50_0 (List.length_map _)) ?_; refine TL.run 1 rfl ?_; refine TL.ns ?_; refine T.cond rfl (fun h15 => ?_) (fun h15 => ?_)
                  · have p15 := of_decide_eq_true h15; rw [zaA (by omega)] at hk; generalize hn13 : zai f13 kk13 (((nth p.Values i_9).length) - (k_14 + 1)) (k_14 + 1) = next13 at hk; rw [← hf13] at hk; (try dsimp only at hk); refine T.skip (K.seq (T.seq (T.block (T.seq ?_)))); have hq : (0 ≤ ((k_14 : Int) - 1) ∧ ((k_14 : Int) - 1) < ((nth p.Values i_9).length : Int)) ∧ _ := zae hk; clear hk; obtain ⟨g72, hk⟩ := hq; (try dsimp only at hk); refine T.ax (.still 0 (.still 1 (.still 2 (.still 3 (.still 4 (.still 5 (.still 6 (.still 7 (.still 8 (.still 9 .done)))))))))) _ (by kernel_rfl) (List.Sublist.refl _) ?_; refine TS.run 2 rfl ?_; refine TS.y rfl (Yv.an (i := k_14) rfl rfl rfl hd50_0 (List.length_map _) rfl (by omega)) ?_; refine TS.y rfl (Yv.al 1 (i := k_14) (j := 0) rfl rfl rfl hd50_0 (by omega) rfl rfl) ?_; refine TS.run 2 rfl ?_; refine TS.y rfl (Yv.aH rfl rfl rfl (by omega)) ?_; refine TS.y rfl (Yv.an (i := ((k_14 : Int) - 1).toNat) rfl rfl rfl hd50_0 (List.length_map _) (by omega) (by omega)) ?_; refine TS.y rfl (Yv.al 1 (i := ((k_14 : Int) - 1).toNat) (j := 0) rfl rfl rfl hd50_0 (by omega) rfl rfl) ?_; refine TS.run 1 rfl ?_; refine TS.done ?_; refine K.seq ?_; refine T.cond rfl (fun h16 => ?_) (fun h16 => ?_)
                    · have p16 := of_decide_eq_true h16; replace hk := zaa hk h16; refine T.sr ?_; refine TL.run 1 rfl ?_; refine TL.ns (T.ret (K.ah (K.a (K.a (K.ah (K.ah (K.a (K.a (K.ah (K.a ?_)))))))))); obtain rfl := Option.some.inj hk; exact K.ak rfl rfl (fun w' hw => ⟨rfl, hw.isBelow⟩)
                    · have p16 := of_decide_eq_false h16; replace hk := zab hk h16; refine T.skip (K.ab (K.seq (T.region ?_))); refine TL.run 1 rfl ?_; refine TL.y (Yv.av rfl rfl rfl (by omega)) ?_; refine TL.run 1 rfl ?_; refine TL.nil ?_; rw [← hn13] at hk; exact K.next (k_14 + 1) hk (by omega) (.c (.c (.c (.c .nil)))) (List.Sublist.refl _)
                  · have p15 := of_decide_eq_false h15; rw [zaz (by omega), ← hkk13] at hk; (try dsimp only at hk); refine T.exit (K.aa (K.aa (K.ac (K.ab (K.seq (T.region ?_)))))); refine TL.run 1 rfl ?_; refine TL.y (Yv.av rfl rfl rfl (by omega)) ?_; refine TL.run 1 rfl ?_; refine TL.nil ?_; rw [← hn8] at hk; exact K.next (i_9 + 1) hk (by omega) (.c (.c .nil)) (List.Sublist.refl _)
          · have p10 := of_decide_eq_false h10; rw [zaz (by omega), ← hkk8] at hk; (try dsimp only at hk); refine T.exit (K.aa (K.aa (K.ac ?_))); refine K.pick [1] rfl (by decide) ?_; exact K.ad () hk .nil (List.Sublist.refl _)
      · rintro _ hk; rw [← hk7] at hk; (try dsimp only at hk); refine T.sr ?_; refine TL.run 1 rfl ?_; refine TL.ns (T.ret ?_); obtain rfl := Option.some.inj hk; exact K.ak rfl rfl (fun w' hw => ⟨rfl, hw.isBelow⟩)
def za3 (fuel : Nat) (p : GBidderPlan) (l : List GProduct) (prices : List Int) : Option (List Int × Int) :=
  (zaU p l).bind fun r15 =>
  (bif (((!r15) || (decide (¬ (prices.length : Int) = (l.length : Int)))) || (!(zaF prices 549755813888))) then
    some ([], 2)
    else
    grd (room l.length 8) <|
    zax (fun (s6 : Int × List Int) =>
      zax (fun (l_21 : List Int) =>
        some (l_21, 0))
      (fun k22 =>
        zce (fun (i_26 : Nat) (next25 : (Int × List Int) → Option (List Int × Int)) (s25 : Int × List Int) =>
          zaI (fun (next30 : (Int × List Int) → Option (List Int × Int)) (s30 : Int × List Int) =>
            grd (0 ≤ (i_26 : Int) ∧ (i_26 : Int) < (s30.2.length : Int)) <|
            (bif ((decide (0 < (nth s30.2 i_26))) && (decide (p.Budget < s30.1))) then
              grd (0 ≤ (i_26 : Int) ∧ (i_26 : Int) < (s30.2.length : Int)) <|
              next30 (wI (s30.1 - (nth prices i_26)), (s30.2.set i_26 (wI ((nth s30.2 i_26) - 1))))
              else
              next25 (s30.1, s30.2))) fuel (s25.1, s25.2))
        (fun (s25 : Int × List Int) =>
          k22 s25.2) l.length (s6.1, s6.2)))
    (fun k6 =>
      zai (fun (i_10 : Nat) (next9 : (Int × List Int) → Option (List Int × Int)) (s9 : Int × List Int) =>
        grd (0 ≤ (i_10 : Int) ∧ (i_10 : Int) < (p.Values.length : Int)) <|
        zai (fun (k_15 : Nat) (next14 : (Int × List Int) → Option (List Int × Int)) (s14 : Int × List Int) =>
          zax (fun (x_17 : Bool) =>
            (bif x_17 then
              grd (0 ≤ (i_10 : Int) ∧ (i_10 : Int) < (s14.2.length : Int)) <|
              next14 (wI (s14.1 + (nth prices i_10)), (s14.2.set i_10 (wI ((nth s14.2 i_10) + 1))))
              else
              next14 (s14.1, s14.2)))
          (fun k18 =>
            (bif decide ((nth prices i_10) ≤ (nth (nth p.Values i_10) k_15)) then
              grd (0 ≤ (i_10 : Int) ∧ (i_10 : Int) < (s14.2.length : Int)) <|
              k18 (decide ((nth s14.2 i_10) < (nth l i_10).Supply))
              else
              k18 false)))
        (fun (s14 : Int × List Int) =>
          next9 (s14.1, s14.2)) (((nth p.Values i_10).length) - 0) 0 (s9.1, s9.2))
      (fun (s9 : Int × List Int) =>
        k6 (s9.1, s9.2)) (l.length - 0) 0 (0, (List.replicate l.length (0 : Int)))))
theorem zdL (F0 : Frz) (w : World) (hF0 : F0.At w) (p : GBidderPlan) (vp_2 : Value) (cp_2 : List (List Value)) (hp_2 : SlD R_List_Int.rep F0 vp_2 1 cp_2 p.Values) (l : List GProduct) (vl : Value) (hl : SlC F0 vl 5 (l.map GProduct.enc)) (prices : List Int) (vprices : Value) (hprices : SlC F0 vprices 1 (prices.map eI)) (fuel : Nat) (r : List Int × Int) (hr : za3 fuel p l prices = some r) : Calls Try.prog 7 #[.agg [.int .i64 p.Bidder, .int .i64 p.Budget, vp_2].toArray, vl, vprices] w fun e w' => ∃ (y : Value) (G : Frz), (SlC G y 1 (r.1.map eI)) ∧ e = .returned (.tuple #[y, .int .i64 r.2]) ∧ Fx F0 w G w' := by
  have hk := hr; unfold za3 at hk; haveI := hp_2.1.oneC; haveI := hl.oneC; haveI := hprices.oneC; obtain ⟨S0, F1, rfl, hS0, hp0⟩ := zaf hF0; refine zah Try.func7 rfl rfl rfl hp0 ?_; refine T.sr ?_; refine TL.e (Ew.aw rfl rfl) ?_; rintro _ _ ⟨g3, rfl, rfl⟩; refine TL.run 2 rfl ?_; refine TL.ns (T.seq (T.seq ?_)); have hq := zac hk; clear hk; obtain ⟨r15, hr15, hk⟩ := hq; (try dsimp only at hk); refine T.af (ι := Unit) (fun z => [(1, vl), (2, vprices), (3, .pointer (some ⟨g3, 0, none⟩)), (28, .bool (((!r15) || (decide (¬ (prices.length : Int) = (l.length : Int)))) || (!(zaF prices 549755813888))))]) (fun z => [.row g3 24 [.int .i64 p.Bidder, .int .i64 p.Budget, vp_2], .fr F1]) (fun z => True) ?_ ?_
  · refine T.region ?_; refine TL.y (Yv.aj 0 rfl rfl rfl rfl) ?_; refine TL.run 1 rfl ?_; refine TL.e (Ew.ai rfl rfl rfl (fun w hw => zcN _ w (hw.fr (i := 1) rfl) p vp_2 cp_2 hp_2 l vl hl r15 hr15)) ?_; rintro _ _ ⟨rfl, rfl⟩; refine TL.run 2 rfl ?_; refine TL.gs rfl rfl rfl (fun h1 => ?_) (fun h1 => ?_)
    · refine TL.run 11 rfl ?_; refine TL.nil ?_; exact K.ad () trivial (.c (.c (.c (.b (zak (zak h1)).symm .nil)))) (List.Sublist.refl _)
    · refine TL.run 1 rfl ?_; refine TL.y (Yv.am rfl rfl hprices (List.length_map _)) ?_; have hm19 : prices.length ≤ 9223372036854775807 := (List.length_map _) ▸ hprices.max; refine TL.run 1 rfl ?_; refine TL.y (Yv.am rfl rfl hl (List.length_map _)) ?_; have hm21 : l.length ≤ 9223372036854775807 := (List.length_map _) ▸ hl.max; refine TL.run 3 rfl ?_; refine TL.gs rfl rfl rfl (fun h2 => ?_) (fun h2 => ?_)
      · have p2 := of_decide_eq_true h2; refine TL.run 4 rfl ?_; refine TL.nil ?_; exact K.ad () trivial (.c (.c (.c (.b (zak (zat h1 h2)).symm .nil)))) (List.Sublist.refl _)
      · have p2 := of_decide_eq_false h2; refine TL.run 1 rfl ?_; refine TL.e (Ew.ai rfl rfl rfl (fun w hw => zdu _ w (hw.fr (i := 1) rfl) prices vprices hprices 549755813888)) ?_; rintro _ _ ⟨rfl, rfl⟩; refine TL.run 2 rfl ?_; refine TL.nil ?_; exact K.ad () trivial (.c (.c (.c (.b (or_f (zat h1 h2)) .nil)))) (List.Sublist.refl _)
  · rintro _ _; have hm19 : prices.length ≤ 9223372036854775807 := (List.length_map _) ▸ hprices.max; have hm21 : l.length ≤ 9223372036854775807 := (List.length_map _) ▸ hl.max; refine T.cond rfl (fun h3 => ?_) (fun h3 => ?_)
    · replace hk := zaa hk h3; refine T.sr ?_; refine TL.run 2 rfl ?_; refine TL.ns (T.ret (K.a ?_)); obtain rfl := Option.some.inj hk; exact K.aC rfl rfl rfl (fun w' hw => ⟨(.slice none 0 0), F1.toFrz, (SlC.nil _ 1), rfl, Fx.of hw (i := 1) rfl hS0 (Frz.Le.refl _)⟩)
    · have p3 := h3; (try simp only [nfB] at p3); replace hk := zab hk h3; refine T.skip (K.seq (T.seq ?_)); have hq : (room l.length 8) ∧ _ := zae hk; clear hk; obtain ⟨g31, hk⟩ := hq; (try dsimp only at hk); refine T.region ?_; refine TL.run 1 rfl ?_; refine TL.y (Yv.am rfl rfl hl (List.length_map _)) ?_; refine TL.e (Ew.aM (n' := l.length) (enc := eI) (u := (0 : Int)) rfl rfl rfl rfl g31 (by decide) (by decide) (fun _ => rfl) rfl) ?_; rintro v31 _ ⟨hv31, rfl⟩; refine TL.aI 0 rfl ?_; intro iv31 hmv31; refine TL.run 1 rfl ?_; refine TL.nx ?_; refine TL.run 1 rfl ?_; refine TL.ns (T.seq (T.sr ?_)); refine TL.run 1 rfl ?_; refine TL.ns ?_; have hq := zad hk; clear hk; obtain ⟨k6, hk6, hk⟩ := hq; (try dsimp only at hk); refine T.af (ι := Int × List Int) (fun z => [(1, vl), (2, vprices), (3, .pointer (some ⟨g3, 0, none⟩)), (8, v31), (9, .int .i64 z.1)]) (fun z => [.sl v31 3 1 z.2.length (z.2.flatMap eI), .row g3 24 [.int .i64 p.Bidder, .int .i64 p.Budget, vp_2], .fr F1]) (fun z => k6 (z.1, z.2) = some r) ?_ ?_
      · have hq := zam hk; clear hk; obtain ⟨f9, kk9, hf9, hkk9, hk⟩ := hq; refine T.block ?_; refine T.loop (ι := Nat × Int × List Int) (fun z => [(1, vl), (2, vprices), (3, .pointer (some ⟨g3, 0, none⟩)), (8, v31), (9, .int .i64 z.2.1), (10, .int .i64 (z.1 : Int))]) (fun z => [.sl v31 3 1 z.2.2.length (z.2.2.flatMap eI), .row g3 24 [.int .i64 p.Bidder, .int .i64 p.Budget, vp_2], .fr F1]) (fun z => zai f9 kk9 (l.length - z.1) z.1 (z.2.1, z.2.2) = some r) (fun z => l.length - z.1) (0, 0, (List.replicate l.length (0 : Int))) ?_ ?_ ?_ ?_
        · exact hk
        · exact (.c (.c (.c (.c (.c (.c .nil))))))
        · exact List.Sublist.refl _
        · rintro ⟨i_10, cost_7, l_8⟩ hk; (try dsimp only at *); refine T.seq (T.sr ?_); refine TL.run 2 rfl ?_; refine TL.y (Yv.am rfl rfl hl (List.length_map _)) ?_; refine TL.run 1 rfl ?_; refine TL.ns ?_; refine T.cond rfl (fun h11 => ?_) (fun h11 => ?_)
          · have p11 := of_decide_eq_true h11; rw [zaA (by omega)] at hk; generalize hn9 : zai f9 kk9 (l.length - (i_10 + 1)) (i_10 + 1) = next9 at hk; rw [← hf9] at hk; (try dsimp only at hk); refine T.skip (K.seq (T.seq (T.block (T.sr ?_)))); refine TL.run 1 rfl ?_; refine TL.ns ?_; have hq : (0 ≤ (i_10 : Int) ∧ (i_10 : Int) < (p.Values.length : Int)) ∧ _ := zae hk; clear hk; obtain ⟨g42, hk⟩ := hq; (try dsimp only at hk); have hq := zam hk; clear hk; obtain ⟨f14, kk14, hf14, hkk14, hk⟩ := hq; refine T.block ?_; refine T.loop (ι := Nat × Int × List Int) (fun z => [(1, vl), (2, vprices), (3, .pointer (some ⟨g3, 0, none⟩)), (8, v31), (9, .int .i64 z.2.1), (10, .int .i64 (i_10 : Int)), (11, .int .i64 (z.1 : Int))]) (fun z => [.sl v31 3 1 z.2.2.length (z.2.2.flatMap eI), .row g3 24 [.int .i64 p.Bidder, .int .i64 p.Budget, vp_2], .fr F1]) (fun z => zai f14 kk14 (((nth p.Values i_10).length) - z.1) z.1 (z.2.1, z.2.2) = some r) (fun z => ((nth p.Values i_10).length) - z.1) (0, cost_7, l_8) ?_ ?_ ?_ ?_
            · exact hk
            · exact (.c (.c (.c (.c (.c (.c (.c .nil)))))))
            · exact List.Sublist.refl _
            · rintro ⟨k_15, cost_12, l_13⟩ hk; (try dsimp only at *); refine T.seq (T.sr ?_); refine TL.run 1 rfl ?_; refine TL.y (Yv.fieldAddr rfl rfl) ?_; refine TL.y (Yv.ae 1 rfl rfl rfl rfl) ?_; refine TL.run 1 rfl ?_; refine TL.y (Yv.an (i := i_10) rfl rfl rfl hp_2.1 hp_2.2.1 rfl (by omega)) ?_; refine TL.y (Yv.aJ 2 (i := i_10) (j := 0) rfl rfl rfl hp_2.1 hp_2.2.1 (by omega) rfl (R_List_Int.c0 (hp_2.2.2 i_10 (by omega))).1) ?_; have hd43_0 := (R_List_Int.c0 (hp_2.2.2 i_10 (by omega))).2; haveI := hd43_0.oneC; refine TL.y (Yv.am rfl rfl hd43_0 (List.length_map _)) ?_; have hm44 : (nth p.Values i_10).length ≤ 9223372036854775807 := (List.length_map _) ▸ hd43_0.max; refine TL.run 1 rfl ?_; refine TL.ns ?_; refine T.cond rfl (fun h16 => ?_) (fun h16 => ?_)
              · have p16 := of_decide_eq_true h16; rw [zaA (by omega)] at hk; generalize hn14 : zai f14 kk14 (((nth p.Values i_10).length) - (k_15 + 1)) (k_15 + 1) = next14 at hk; rw [← hf14] at hk; (try dsimp only at hk); refine T.skip (K.seq (T.seq (T.block (T.seq ?_)))); (try dsimp only at hk); have hq := zad hk; clear hk; obtain ⟨k18, hk18, hk⟩ := hq; (try dsimp only at hk); refine T.af (ι := Bool) (fun z => [(1, vl), (2, vprices), (3, .pointer (some ⟨g3, 0, none⟩)), (8, v31), (9, .int .i64 cost_12), (10, .int .i64 (i_10 : Int)), (11, .int .i64 (k_15 : Int)), (72, .bool z)]) (fun z => [.sl v31 3 1 l_13.length (l_13.flatMap eI), .row g3 24 [.int .i64 p.Bidder, .int .i64 p.Budget, vp_2], .fr F1]) (fun z => k18 z = some r) ?_ ?_
                · refine T.ax (.still 0 (.still 1 (.still 2 (.still 3 (.still 4 (.still 5 (.still 6 (.still 7 (.still 8 (.still 9 (.still 10 (.still 11 (.still 12 (.still 13 (.still 14 (.still 15 (.still 16 (.still 17 (.still 18 (.still 19 (.still 20 (.still 21 (.still 22 (.still 23 (.still 24 .done))))))))))))))))))))))))) _ (by kernel_rfl) (List.Sublist.refl _) ?_; refine TS.y rfl (Yv.fieldAddr rfl rfl) ?_; refine TS.y rfl (Yv.ae 1 rfl rfl rfl rfl) ?_; refine TS.run 1 rfl ?_; refine TS.y rfl (Yv.an (i := i_10) rfl rfl rfl hp_2.1 hp_2.2.1 rfl (by omega)) ?_; refine TS.y rfl (Yv.aJ 2 (i := i_10) (j := 0) rfl rfl rfl hp_2.1 hp_2.2.1 (by omega) rfl (R_List_Int.c0 (hp_2.2.2 i_10 (by omega))).1) ?_; refine TS.run 1 rfl ?_; refine TS.y rfl (Yv.an (i := k_15) rfl rfl rfl hd43_0 (List.length_map _) rfl (by omega)) ?_; refine TS.y rfl (Yv.al 2 (i := k_15) (j := 0) rfl rfl rfl hd43_0 (by omega) rfl rfl) ?_; refine TS.run 2 rfl ?_; refine TS.y rfl (Yv.an (i := i_10) rfl rfl rfl hprices (List.length_map _) rfl (by omega)) ?_; refine TS.y rfl (Yv.al 2 (i := i_10) (j := 0) rfl rfl rfl hprices (by omega) rfl rfl) ?_; refine TS.run 2 rfl ?_; refine TS.gs rfl rfl rfl rfl (fun h19 => ?_) (fun h19 => ?_)
                  · have p19 := of_decide_eq_true h19; replace hk := zaa hk h19; refine TS.run 2 rfl ?_; have hq : (0 ≤ (i_10 : Int) ∧ (i_10 : Int) < (l_13.length : Int)) ∧ _ := zae hk; clear hk; obtain ⟨g64, hk⟩ := hq; refine TS.y rfl (Yv.ar 0 (i := i_10) rfl rfl rfl rfl rfl (by omega)) ?_; refine TS.y rfl (Yv.as 0 rfl rfl rfl (by omega) (zaw (enc := eI) (i := i_10) (j := 0) (fun _ => rfl) (by omega) (by decide) rfl)) ?_; refine TS.run 2 rfl ?_; refine TS.y rfl (Yv.an (i := i_10) rfl rfl rfl hl (List.length_map _) rfl (by omega)) ?_; refine TS.y rfl (Yv.aQ rfl rfl hl (List.length_map _) (by omega)) ?_; refine TS.y rfl (Yv.al 2 (i := i_10) (j := 2) rfl rfl rfl hl (by omega) rfl rfl) ?_; refine TS.run 2 rfl ?_; refine TS.done ?_; exact K.ad (decide ((nth l_13 i_10) < (nth l i_10).Supply)) hk (.c (.c (.c (.c (.c (.c (.c (.c .nil)))))))) (List.Sublist.refl _)
                  · have p19 := of_decide_eq_false h19; replace hk := zab hk h19; refine TS.run 11 rfl ?_; refine TS.done ?_; exact K.ad false hk (.c (.c (.c (.c (.c (.c (.c (.c .nil)))))))) (List.Sublist.refl _)
                · rintro x_17 hk; rw [← hk18] at hk; (try dsimp only at hk); refine T.cond rfl (fun h20 => ?_) (fun h20 => ?_)
                  · replace hk := zaa hk h20; refine T.seq ?_; have hq : (0 ≤ (i_10 : Int) ∧ (i_10 : Int) < (l_13.length : Int)) ∧ _ := zae hk; clear hk; obtain ⟨g75, hk⟩ := hq; (try dsimp only at hk); refine T.region ?_; refine TL.run 2 rfl ?_; refine TL.y (Yv.ar 0 (i := i_10) rfl rfl rfl rfl rfl (by omega)) ?_; refine TL.y (Yv.as 0 rfl rfl rfl (by omega) (zaw (enc := eI) (i := i_10) (j := 0) (fun _ => rfl) (by omega) (by decide) rfl)) ?_; refine TL.y (Yv.au (v := .int .i64 (wI ((nth l_13 i_10) + 1))) rfl) ?_; refine TL.y (Yv.ar 0 (i := i_10) rfl rfl rfl rfl rfl (by omega)) ?_; refine TL.e0 (Ew.aq 0 (k' := (l_13.set i_10 (wI ((nth l_13 i_10) + 1))).length) (l' := (l_13.set i_10 (wI ((nth l_13 i_10) + 1))).flatMap eI) rfl rfl rfl rfl (by omega) (zan (enc := eI) (xs := l_13) (i := i_10) (j := 0) (size := 1) (fun _ => rfl) (by omega) (by decide) (by omega)) (zau (enc := eI) (xs := l_13) (i := i_10) (j := 0) (size := 1) (x := (wI ((nth l_13 i_10) + 1))) (fun _ => rfl) (by omega) (by decide) (by omega) rfl) (List.length_set ..)) ?_; rintro _ _ ⟨rfl, rfl⟩; refine TL.ns (T.region ?_); refine TL.run 3 rfl ?_; refine TL.y (Yv.an (i := i_10) rfl rfl rfl hprices (List.length_map _) rfl (by omega)) ?_; refine TL.y (Yv.al 2 (i := i_10) (j := 0) rfl rfl rfl hprices (by omega) rfl rfl) ?_; refine TL.y (Yv.au (v := .int .i64 (wI (cost_12 + (nth prices i_10)))) rfl) ?_; refine TL.run 1 rfl ?_; refine TL.nil (K.ab (K.seq (T.region ?_))); refine TL.run 1 rfl ?_; refine TL.y (Yv.av rfl rfl rfl (by omega)) ?_; refine TL.run 1 rfl ?_; refine TL.nil ?_; rw [← hn14] at hk; exact K.next ((k_15 + 1), wI (cost_12 + (nth prices i_10)), (l_13.set i_10 (wI ((nth l_13 i_10) + 1)))) hk (by dsimp only; omega) (.c (.c (.c (.c (.c (.c (.c .nil))))))) (List.Sublist.refl _)
                  · replace hk := zab hk h20; refine T.skip (K.ab (K.seq (T.region ?_))); refine TL.run 1 rfl ?_; refine TL.y (Yv.av rfl rfl rfl (by omega)) ?_; refine TL.run 1 rfl ?_; refine TL.nil ?_; rw [← hn14] at hk; exact K.next ((k_15 + 1), cost_12, l_13) hk (by dsimp only; omega) (.c (.c (.c (.c (.c (.c (.c .nil))))))) (List.Sublist.refl _)
              · have p16 := of_decide_eq_false h16; rw [zaz (by omega), ← hkk14] at hk; (try dsimp only at hk); refine T.exit (K.aa (K.aa (K.ac (K.ab (K.seq (T.region ?_)))))); refine TL.run 1 rfl ?_; refine TL.y (Yv.av rfl rfl rfl (by omega)) ?_; refine TL.run 1 rfl ?_; refine TL.nil ?_; rw [← hn9] at hk; exact K.next ((i_10 + 1), cost_12, l_13) hk (by dsimp only; omega) (.c (.c (.c (.c (.c (.c .nil)))))) (List.Sublist.refl _)
          · have p11 := of_decide_eq_false h11; rw [zaz (by omega), ← hkk9] at hk; (try dsimp only at hk); refine T.exit (K.aa (K.aa (K.ac ?_))); exact K.ad (cost_7, l_8) hk (.c (.c (.c (.c (.c .nil))))) (List.Sublist.refl _)
      · rintro ⟨cost_4, l_5⟩ hk; (try dsimp only at *); rw [← hk6] at hk; (try dsimp only at hk); refine T.seq (T.sr ?_); refine TL.run 1 rfl ?_; refine TL.y (Yv.am rfl rfl hl (List.length_map _)) ?_; refine TL.y (Yv.aH rfl rfl rfl (by omega)) ?_; refine TL.run 1 rfl ?_; refine TL.ns ?_; have hq := zad hk; clear hk; obtain ⟨k22, hk22, hk⟩ := hq; (try dsimp only at hk); refine T.af (ι := List Int) (fun z => [(8, v31)]) (fun z => [.sl v31 3 1 z.length (z.flatMap eI), .fr F1]) (fun z => k22 z = some r) ?_ ?_
        · have hq := zcF hk; clear hk; obtain ⟨f25, kk25, hf25, hkk25, hk⟩ := hq; refine T.block ?_; refine T.loop (ι := Nat × Int × List Int) (fun z => [(2, vprices), (3, .pointer (some ⟨g3, 0, none⟩)), (8, v31), (9, .int .i64 z.2.1), (12, .int .i64 ((z.1 : Int) - 1))]) (fun z => [.sl v31 3 1 z.2.2.length (z.2.2.flatMap eI), .row g3 24 [.int .i64 p.Bidder, .int .i64 p.Budget, vp_2], .fr F1]) (fun z => zce f25 kk25 z.1 (z.2.1, z.2.2) = some r ∧ z.1 ≤ l.length) (fun z => z.1) (l.length, cost_4, l_5) ?_ ?_ ?_ ?_
          · exact ⟨hk, (Nat.le_refl _)⟩
          · exact (.c (.c (.c (.c (.c .nil)))))
          · exact List.Sublist.refl _
          · rintro ⟨i_26, cost_23, l_24⟩ ⟨hk, hle25⟩; (try dsimp only at *); refine T.seq (T.sr ?_); refine TL.run 2 rfl ?_; refine TL.ns ?_; refine T.cond rfl (fun h27 => ?_) (fun h27 => ?_)
            · have p27 := of_decide_eq_true h27; obtain ⟨i_26', rfl⟩ : ∃ q, i_26 = q + 1 := ⟨i_26 - 1, by omega⟩; replace hk : f25 i_26' (zce f25 kk25 i_26') (cost_23, l_24) = some r := hk; generalize hn25 : zce f25 kk25 i_26' = next25 at hk; rw [← hf25] at hk; (try dsimp only at hk); refine T.aF (gs := [(2, vprices), (3, .pointer (some ⟨g3, 0, none⟩)), (8, v31), (9, .int .i64 cost_23), (12, .int .i64 (i_26' : Int))]) (by repeat (first | exact Sub.nil | refine Sub.cons rfl ?_ | refine Sub.consI rfl (by omega) ?_ | refine Sub.consB rfl (by assumption) ?_)) (List.Sublist.refl _) ?_; refine T.skip (K.seq (T.seq (T.block ?_))); have hq := za2 hk; clear hk; obtain ⟨f30, hf30, hk⟩ := hq; refine T.block ?_; refine T.loop (ι := Nat × Int × List Int) (fun z => [(2, vprices), (3, .pointer (some ⟨g3, 0, none⟩)), (8, v31), (9, .int .i64 z.2.1), (12, .int .i64 (i_26' : Int))]) (fun z => [.sl v31 3 1 z.2.2.length (z.2.2.flatMap eI), .row g3 24 [.int .i64 p.Bidder, .int .i64 p.Budget, vp_2], .fr F1]) (fun z => zaI f30 z.1 (z.2.1, z.2.2) = some r) (fun z => z.1) (fuel, cost_23, l_24) ?_ ?_ ?_ ?_
              · exact hk
              · exact (.c (.c (.c (.c (.c .nil)))))
              · exact List.Sublist.refl _
              · rintro ⟨m_31, cost_28, l_29⟩ hk; (try dsimp only at *); have hq := zbh hk; clear hk; obtain ⟨m_31', rfl, hk⟩ := hq; generalize hn30 : zaI f30 m_31' = next30 at hk; rw [← hf30] at hk; (try dsimp only at hk); refine T.seq (T.seq ?_); have hq : (0 ≤ (i_26' : Int) ∧ (i_26' : Int) < (l_29.length : Int)) ∧ _ := zae hk; clear hk; obtain ⟨g94, hk⟩ := hq; (try dsimp only at hk); refine T.af (ι := Unit) (fun z => [(2, vprices), (3, .pointer (some ⟨g3, 0, none⟩)), (8, v31), (9, .int .i64 cost_28), (12, .int .i64 (i_26' : Int)), (102, .bool ((decide (0 < (nth l_29 i_26'))) && (decide (p.Budget < cost_28))))]) (fun z => [.sl v31 3 1 l_29.length (l_29.flatMap eI), .row g3 24 [.int .i64 p.Bidder, .int .i64 p.Budget, vp_2], .fr F1]) (fun z => True) ?_ ?_
                · refine T.region ?_; refine TL.run 2 rfl ?_; refine TL.y (Yv.ar 0 (i := i_26') rfl rfl rfl rfl rfl (by omega)) ?_; refine TL.y (Yv.as 0 rfl rfl rfl (by omega) (zaw (enc := eI) (i := i_26') (j := 0) (fun _ => rfl) (by omega) (by decide) rfl)) ?_; refine TL.run 2 rfl ?_; refine TL.gs rfl rfl rfl (fun h32 => ?_) (fun h32 => ?_)
                  · have p32 := of_decide_eq_true h32; refine TL.run 1 rfl ?_; refine TL.y (Yv.fieldAddr rfl rfl) ?_; refine TL.y (Yv.ae 1 rfl rfl rfl rfl) ?_; refine TL.run 2 rfl ?_; refine TL.nil ?_; exact K.ad () trivial (.c (.c (.c (.c (.c (.b (zcg h32) .nil)))))) (List.Sublist.refl _)
                  · have p32 := of_decide_eq_false h32; refine TL.run 5 rfl ?_; refine TL.nil ?_; exact K.ad () trivial (.c (.c (.c (.c (.c (.b (zaS h32).symm .nil)))))) (List.Sublist.refl _)
                · rintro _ _; refine T.cond rfl (fun h33 => ?_) (fun h33 => ?_)
                  · have p33 := h33; (try simp only [nfB] at p33); replace hk := zaa hk h33; refine T.skip (K.seq (T.block (T.seq ?_))); have hq : (0 ≤ (i_26' : Int) ∧ (i_26' : Int) < (l_29.length : Int)) ∧ _ := zae hk; clear hk; obtain ⟨g105, hk⟩ := hq; (try dsimp only at hk); refine T.region ?_; refine TL.run 2 rfl ?_; refine TL.y (Yv.ar 0 (i := i_26') rfl rfl rfl rfl rfl (by omega)) ?_; refine TL.y (Yv.as 0 rfl rfl rfl (by omega) (zaw (enc := eI) (i := i_26') (j := 0) (fun _ => rfl) (by omega) (by decide) rfl)) ?_; refine TL.y (Yv.au (v := .int .i64 (wI ((nth l_29 i_26') - 1))) rfl) ?_; refine TL.y (Yv.ar 0 (i := i_26') rfl rfl rfl rfl rfl (by omega)) ?_; refine TL.e0 (Ew.aq 0 (k' := (l_29.set i_26' (wI ((nth l_29 i_26') - 1))).length) (l' := (l_29.set i_26' (wI ((nth l_29 i_26') - 1))).flatMap eI) rfl rfl rfl rfl (by omega) (zan (enc := eI) (xs := l_29) (i := i_26') (j := 0) (size := 1) (fun _ => rfl) (by omega) (by decide) (by omega)) (zau (enc := eI) (xs := l_29) (i := i_26') (j := 0) (size := 1) (x := (wI ((nth l_29 i_26') - 1))) (fun _ => rfl) (by omega) (by decide) (by omega) rfl) (List.length_set ..)) ?_; rintro _ _ ⟨rfl, rfl⟩; refine TL.ns (T.region ?_); refine TL.run 3 rfl ?_; refine TL.y (Yv.an (i := i_26') rfl rfl rfl hprices (List.length_map _) rfl (by omega)) ?_; refine TL.y (Yv.al 2 (i := i_26') (j := 0) rfl rfl rfl hprices (by omega) rfl rfl) ?_; refine TL.y (Yv.au (v := .int .i64 (wI (cost_28 - (nth prices i_26')))) rfl) ?_; refine TL.run 1 rfl ?_; refine TL.nil (K.ab ?_); rw [← hn30] at hk; exact K.next (m_31', wI (cost_28 - (nth prices i_26')), (l_29.set i_26' (wI ((nth l_29 i_26') - 1)))) hk (by dsimp only; omega) (.c (.c (.c (.c (.c .nil))))) (List.Sublist.refl _)
                  · replace hk := zab hk h33; refine T.exit (K.aa (K.aa (K.ac (K.ab (K.seq (T.region ?_)))))); refine TL.run 1 rfl ?_; refine TL.y (Yv.aH rfl rfl rfl (by omega)) ?_; refine TL.run 1 rfl ?_; refine TL.nil ?_; rw [← hn25] at hk; exact K.next (i_26', cost_28, l_29) ⟨hk, (by dsimp only; omega)⟩ (by dsimp only; omega) (.c (.c (.c (.c (.c .nil))))) (List.Sublist.refl _)
            · have p27 := of_decide_eq_false h27; obtain rfl : i_26 = 0 := (by omega); replace hk : kk25 (cost_23, l_24) = some r := hk; rw [← hkk25] at hk; (try dsimp only at hk); refine T.exit (K.aa (K.aa (K.ac ?_))); refine K.pick [0, 2] rfl (by decide) ?_; exact K.ad l_24 hk (.c .nil) (List.Sublist.refl _)
        · rintro l_21 hk; rw [← hk22] at hk; (try dsimp only at hk); refine T.sr ?_; refine TL.run 3 rfl ?_; refine TL.ns (T.ret ?_); refine K.aA (fun w hw => hw.freezeS (i := 1) (j := 0) (by decide) rfl rfl) ?_; rintro F2 ⟨le1_2, hz2⟩; dsimp only [List.set, List.eraseIdx]; have hfF2 := hz2.toF rfl (fun _ => rfl); haveI := hfF2.oneC; obtain rfl := Option.some.inj hk; exact K.aC rfl rfl rfl (fun w' hw => ⟨v31, F2.toFrz, hfF2, rfl, Fx.of hw (i := 0) rfl hS0 le1_2⟩)
def zaJ (a : List Int) (b : List Int) : Bool :=
  (bif decide (¬ (a.length : Int) = (b.length : Int)) then
    false
    else
    zax (fun (_ : Unit) =>
      true)
    (fun k2 =>
      zai (fun (i_4 : Nat) (next3 : Unit → Bool) (_ : Unit) =>
        (bif decide (¬ (nth a i_4) = (nth b i_4)) then
          false
          else
          next3 ()))
      (fun (_ : Unit) =>
        k2 ()) (a.length - 0) 0 ()))
theorem zcb (F0 : Frz) (w : World) (hF0 : F0.At w) (a : List Int) (va : Value) (ha : SlC F0 va 1 (a.map eI)) (b : List Int) (vb : Value) (hb : SlC F0 vb 1 (b.map eI)) : Calls Try.prog 10 #[va, vb] w fun e w' => e = .returned (.bool (zaJ a b)) ∧ Below w.heap.size w w' := by
  obtain ⟨r, hk⟩ : ∃ r, zaJ a b = r := ⟨_, rfl⟩; rw [hk]; unfold zaJ at hk; haveI := ha.oneC; haveI := hb.oneC; obtain ⟨S0, F1, rfl, hS0, hp0⟩ := zaf hF0; refine zah Try.func10 rfl rfl rfl hp0 ?_; refine T.sr ?_; refine TL.run 1 rfl ?_; refine TL.ns (T.seq (T.sr ?_)); refine TL.run 1 rfl ?_; refine TL.y (Yv.am rfl rfl ha (List.length_map _)) ?_; have hm7 : a.length ≤ 9223372036854775807 := (List.length_map _) ▸ ha.max; refine TL.run 1 rfl ?_; refine TL.y (Yv.am rfl rfl hb (List.length_map _)) ?_; have hm9 : b.length ≤ 9223372036854775807 := (List.length_map _) ▸ hb.max; refine TL.run 1 rfl ?_; refine TL.ns ?_; refine T.cond rfl (fun h1 => ?_) (fun h1 => ?_)
  · have p1 := of_decide_eq_true h1; replace hk := zaa hk h1; refine T.sr ?_; refine TL.run 1 rfl ?_; refine TL.ns (T.ret (K.a ?_)); subst hk; exact K.ak rfl rfl (fun w' hw => ⟨rfl, hw.isBelow⟩)
  · have p1 := of_decide_eq_false h1; replace hk := zab hk h1; refine T.skip (K.seq (T.seq (T.sr ?_))); refine TL.run 1 rfl ?_; refine TL.ns ?_; have hq := zad hk; clear hk; obtain ⟨k2, hk2, hk⟩ := hq; (try dsimp only at hk); refine T.af (ι := Unit) (fun z => []) (fun z => [.fr F1]) (fun z => k2 () = r) ?_ ?_
    · have hq := zam hk; clear hk; obtain ⟨f3, kk3, hf3, hkk3, hk⟩ := hq; refine T.block ?_; refine T.loop (ι := Nat) (fun z => [(0, va), (1, vb), (5, .int .i64 (z : Int))]) (fun z => [.fr F1]) (fun z => zai f3 kk3 (a.length - z) z () = r) (fun z => a.length - z) 0 ?_ ?_ ?_ ?_
      · exact hk
      · exact (.c (.c (.c .nil)))
      · exact List.Sublist.refl _
      · rintro i_4 hk; refine T.seq (T.sr ?_); refine TL.run 2 rfl ?_; refine TL.y (Yv.am rfl rfl ha (List.length_map _)) ?_; refine TL.run 1 rfl ?_; refine TL.ns ?_; refine T.cond rfl (fun h5 => ?_) (fun h5 => ?_)
        · have p5 := of_decide_eq_true h5; rw [zaA (by omega)] at hk; generalize hn3 : zai f3 kk3 (a.length - (i_4 + 1)) (i_4 + 1) = next3 at hk; rw [← hf3] at hk; (try dsimp only at hk); refine T.skip (K.seq (T.seq (T.block (T.seq ?_)))); refine T.ax (.still 0 (.still 1 (.still 2 (.still 3 (.still 4 (.still 5 (.still 6 (.still 7 (.still 8 .done))))))))) _ (by kernel_rfl) (List.Sublist.refl _) ?_; refine TS.run 2 rfl ?_; refine TS.y rfl (Yv.an (i := i_4) rfl rfl rfl ha (List.length_map _) rfl (by omega)) ?_; refine TS.y rfl (Yv.al 0 (i := i_4) (j := 0) rfl rfl rfl ha (by omega) rfl rfl) ?_; refine TS.run 2 rfl ?_; refine TS.y rfl (Yv.an (i := i_4) rfl rfl rfl hb (List.length_map _) rfl (by omega)) ?_; refine TS.y rfl (Yv.al 0 (i := i_4) (j := 0) rfl rfl rfl hb (by omega) rfl rfl) ?_; refine TS.run 1 rfl ?_; refine TS.done ?_; refine K.seq ?_; refine T.cond rfl (fun h6 => ?_) (fun h6 => ?_)
          · have p6 := of_decide_eq_true h6; replace hk := zaa hk h6; refine T.sr ?_; refine TL.run 1 rfl ?_; refine TL.ns (T.ret (K.ah (K.a (K.a (K.ah (K.a ?_)))))); subst hk; exact K.ak rfl rfl (fun w' hw => ⟨rfl, hw.isBelow⟩)
          · have p6 := of_decide_eq_false h6; replace hk := zab hk h6; refine T.skip (K.ab (K.seq (T.region ?_))); refine TL.run 1 rfl ?_; refine TL.y (Yv.av rfl rfl rfl (by omega)) ?_; refine TL.run 1 rfl ?_; refine TL.nil ?_; rw [← hn3] at hk; exact K.next (i_4 + 1) hk (by omega) (.c (.c (.c .nil))) (List.Sublist.refl _)
        · have p5 := of_decide_eq_false h5; rw [zaz (by omega), ← hkk3] at hk; (try dsimp only at hk); refine T.exit (K.aa (K.aa (K.ac ?_))); exact K.ad () hk .nil (List.Sublist.refl _)
    · rintro _ hk; rw [← hk2] at hk; (try dsimp only at hk); refine T.sr ?_; refine TL.run 1 rfl ?_; refine TL.ns (T.ret ?_); subst hk; exact K.ak rfl rfl (fun w' hw => ⟨rfl, hw.isBelow⟩)
structure GRow where
  Product : Int
  Change : Int
  Point : Int
deriving DecidableEq, Inhabited
abbrev GRow.enc (x : GRow) : List Value := [.int .i64 x.Product, .int .i64 x.Change, .int .i64 x.Point]
theorem GRow.len (x : GRow) : (GRow.enc x).length = 3 := rfl
def zbl (p : GBidderPlan) (l : List GProduct) : Bool :=
  zax (fun (_ : Unit) =>
    ((decide ((p.Values.length : Int) ≤ 8)) && (decide ((l.length : Int) ≤ 8))))
  (fun k1 =>
    zai (fun (i_3 : Nat) (next2 : Unit → Bool) (_ : Unit) =>
      (bif decide (16 < ((nth p.Values i_3).length : Int)) then
        false
        else
        next2 ()))
    (fun (_ : Unit) =>
      k1 ()) (p.Values.length - 0) 0 ())
theorem zet (F0 : Frz) (w : World) (hF0 : F0.At w) (p : GBidderPlan) (vp_2 : Value) (cp_2 : List (List Value)) (hp_2 : SlD R_List_Int.rep F0 vp_2 1 cp_2 p.Values) (l : List GProduct) (vl : Value) (hl : SlC F0 vl 5 (l.map GProduct.enc)) : Calls Try.prog 4 #[.agg [.int .i64 p.Bidder, .int .i64 p.Budget, vp_2].toArray, vl] w fun e w' => e = .returned (.bool (zbl p l)) ∧ Below w.heap.size w w' := by
  obtain ⟨r, hk⟩ : ∃ r, zbl p l = r := ⟨_, rfl⟩; rw [hk]; unfold zbl at hk; haveI := hp_2.1.oneC; haveI := hl.oneC; obtain ⟨S0, F1, rfl, hS0, hp0⟩ := zaf hF0; refine zah Try.func4 rfl rfl rfl hp0 ?_; refine T.sr ?_; refine TL.e (Ew.aw rfl rfl) ?_; rintro _ _ ⟨g2, rfl, rfl⟩; refine TL.run 1 rfl ?_; refine TL.ns (T.seq (T.sr ?_)); refine TL.run 1 rfl ?_; refine TL.ns ?_; have hq := zad hk; clear hk; obtain ⟨k1, hk1, hk⟩ := hq; (try dsimp only at hk); refine T.af (ι := Unit) (fun z => [(1, vl), (2, .pointer (some ⟨g2, 0, none⟩))]) (fun z => [.row g2 24 [.int .i64 p.Bidder, .int .i64 p.Budget, vp_2], .fr F1]) (fun z => k1 () = r) ?_ ?_
  · have hq := zam hk; clear hk; obtain ⟨f2, kk2, hf2, hkk2, hk⟩ := hq; refine T.block ?_; refine T.loop (ι := Nat) (fun z => [(1, vl), (2, .pointer (some ⟨g2, 0, none⟩)), (5, .int .i64 (z : Int))]) (fun z => [.row g2 24 [.int .i64 p.Bidder, .int .i64 p.Budget, vp_2], .fr F1]) (fun z => zai f2 kk2 (p.Values.length - z) z () = r) (fun z => p.Values.length - z) 0 ?_ ?_ ?_ ?_
    · exact hk
    · exact (.c (.c (.c .nil)))
    · exact List.Sublist.refl _
    · rintro i_3 hk; refine T.seq (T.sr ?_); refine TL.run 1 rfl ?_; refine TL.y (Yv.fieldAddr rfl rfl) ?_; refine TL.y (Yv.ae 0 rfl rfl rfl rfl) ?_; refine TL.y (Yv.am rfl rfl hp_2.1 hp_2.2.1) ?_; have hm9 : p.Values.length ≤ 9223372036854775807 := hp_2.2.1 ▸ hp_2.1.max; refine TL.run 1 rfl ?_; refine TL.ns ?_; refine T.cond rfl (fun h4 => ?_) (fun h4 => ?_)
      · have p4 := of_decide_eq_true h4; rw [zaA (by omega)] at hk; generalize hn2 : zai f2 kk2 (p.Values.length - (i_3 + 1)) (i_3 + 1) = next2 at hk; rw [← hf2] at hk; (try dsimp only at hk); refine T.skip (K.seq (T.seq (T.block (T.sr ?_)))); refine TL.y (Yv.fieldAddr rfl rfl) ?_; refine TL.y (Yv.ae 0 rfl rfl rfl rfl) ?_; refine TL.run 1 rfl ?_; refine TL.y (Yv.an (i := i_3) rfl rfl rfl hp_2.1 hp_2.2.1 rfl (by omega)) ?_; refine TL.y (Yv.aJ 1 (i := i_3) (j := 0) rfl rfl rfl hp_2.1 hp_2.2.1 (by omega) rfl (R_List_Int.c0 (hp_2.2.2 i_3 (by omega))).1) ?_; have hd17_0 := (R_List_Int.c0 (hp_2.2.2 i_3 (by omega))).2; haveI := hd17_0.oneC; refine TL.y (Yv.am rfl rfl hd17_0 (List.length_map _)) ?_; have hm18 : (nth p.Values i_3).length ≤ 9223372036854775807 := (List.length_map _) ▸ hd17_0.max; refine TL.run 1 rfl ?_; refine TL.ns ?_; refine T.cond rfl (fun h5 => ?_) (fun h5 => ?_)
        · have p5 := of_decide_eq_true h5; replace hk := zaa hk h5; refine T.sr ?_; refine TL.run 1 rfl ?_; refine TL.ns (T.ret (K.ah (K.a (K.a (K.ah (K.a ?_)))))); subst hk; exact K.ak rfl rfl (fun w' hw => ⟨rfl, hw.isBelow⟩)
        · have p5 := of_decide_eq_false h5; replace hk := zab hk h5; refine T.skip (K.ab (K.seq (T.region ?_))); refine TL.run 1 rfl ?_; refine TL.y (Yv.av rfl rfl rfl (by omega)) ?_; refine TL.run 1 rfl ?_; refine TL.nil ?_; rw [← hn2] at hk; exact K.next (i_3 + 1) hk (by omega) (.c (.c (.c .nil))) (List.Sublist.refl _)
      · have p4 := of_decide_eq_false h4; rw [zaz (by omega), ← hkk2] at hk; (try dsimp only at hk); refine T.exit (K.aa (K.aa (K.ac ?_))); exact K.ad () hk (.c (.c .nil)) (List.Sublist.refl _)
  · rintro _ hk; rw [← hk1] at hk; (try dsimp only at hk); refine T.seq ?_; refine T.af (ι := Unit) (fun z => [(4, .bool ((decide ((p.Values.length : Int) ≤ 8)) && (decide ((l.length : Int) ≤ 8))))]) (fun z => [.row g2 24 [.int .i64 p.Bidder, .int .i64 p.Budget, vp_2], .fr F1]) (fun z => True) ?_ ?_
    · refine T.region ?_; refine TL.y (Yv.fieldAddr rfl rfl) ?_; refine TL.y (Yv.ae 0 rfl rfl rfl rfl) ?_; refine TL.y (Yv.am rfl rfl hp_2.1 hp_2.2.1) ?_; have hm22 : p.Values.length ≤ 9223372036854775807 := hp_2.2.1 ▸ hp_2.1.max; refine TL.run 2 rfl ?_; refine TL.gs rfl rfl rfl (fun h6 => ?_) (fun h6 => ?_)
      · have p6 := of_decide_eq_true h6; refine TL.run 1 rfl ?_; refine TL.y (Yv.am rfl rfl hl (List.length_map _)) ?_; have hm26 : l.length ≤ 9223372036854775807 := (List.length_map _) ▸ hl.max; refine TL.run 3 rfl ?_; refine TL.nil ?_; exact K.ad () trivial (.b (zcg h6) .nil) (List.Sublist.refl _)
      · have p6 := of_decide_eq_false h6; refine TL.run 5 rfl ?_; refine TL.nil ?_; exact K.ad () trivial (.b (zaS h6).symm .nil) (List.Sublist.refl _)
    · rintro _ _; have hm22 : p.Values.length ≤ 9223372036854775807 := hp_2.2.1 ▸ hp_2.1.max; have hm26 : l.length ≤ 9223372036854775807 := (List.length_map _) ▸ hl.max; refine T.ret ?_; subst hk; exact K.ak rfl rfl (fun w' hw => ⟨rfl, hw.isBelow⟩)
def zcz (fuel : Nat) (l : List GBid) (id : Int) (want : List GRow) : Option Bool :=
  (bif decide (¬ (l.length : Int) = (want.length : Int)) then
    some false
    else
    zax (fun (_ : Unit) =>
      some true)
    (fun k2 =>
      zai (fun (i_4 : Nat) (next3 : Unit → Option Bool) (_ : Unit) =>
        (zcG fuel ((nth want i_4).Point) 1000).bind fun r27 =>
        zax (fun (x_6 : Bool) =>
          (bif x_6 then
            some false
            else
            next3 ()))
        (fun k7 =>
          (bif decide (¬ r27.2 = 0) then
            k7 true
            else
            (bif decide (¬ (nth l i_4).Bidder = id) then
              k7 true
              else
              (bif decide (¬ (nth l i_4).Product = (nth want i_4).Product) then
                k7 true
                else
                (bif decide (¬ (nth l i_4).Change = (nth want i_4).Change) then
                  k7 true
                  else
                  (zbF fuel ((nth l i_4).Point)).bind fun r73 =>
                  (bif !r73 then
                    k7 true
                    else
                    (zb6 fuel ((nth l i_4).Point) r27.1).bind fun r83 =>
                    k7 (decide (¬ r83 = 0)))))))))
      (fun (_ : Unit) =>
        k2 ()) (l.length - 0) 0 ()))
theorem zeh (F0 : Frz) (w : World) (hF0 : F0.At w) (l : List GBid) (vl : Value) (cl : List (List Value)) (hl : SlD GBid.rep F0 vl 7 cl l) (id : Int) (want : List GRow) (vwant : Value) (hwant : SlC F0 vwant 3 (want.map GRow.enc)) (fuel : Nat) (r : Bool) (hr : zcz fuel l id want = some r) : Calls Try.prog 14 #[vl, .int .i64 id, vwant] w fun e w' => e = .returned (.bool r) ∧ Below w.heap.size w w' := by
  have hk := hr; unfold zcz at hk; haveI := hl.1.oneC; haveI := hwant.oneC; obtain ⟨S0, F1, rfl, hS0, hp0⟩ := zaf hF0; refine zah Try.func14 rfl rfl rfl hp0 ?_; refine T.sr ?_; refine TL.run 1 rfl ?_; refine TL.ns (T.seq (T.sr ?_)); refine TL.run 1 rfl ?_; refine TL.y (Yv.am rfl rfl hl.1 hl.2.1) ?_; have hm11 : l.length ≤ 9223372036854775807 := hl.2.1 ▸ hl.1.max; refine TL.run 1 rfl ?_; refine TL.y (Yv.am rfl rfl hwant (List.length_map _)) ?_; have hm13 : want.length ≤ 9223372036854775807 := (List.length_map _) ▸ hwant.max; refine TL.run 1 rfl ?_; refine TL.ns ?_; refine T.cond rfl (fun h1 => ?_) (fun h1 => ?_)
  · have p1 := of_decide_eq_true h1; replace hk := zaa hk h1; refine T.sr ?_; refine TL.run 1 rfl ?_; refine TL.ns (T.ret (K.a ?_)); obtain rfl := Option.some.inj hk; exact K.ak rfl rfl (fun w' hw => ⟨rfl, hw.isBelow⟩)
  · have p1 := of_decide_eq_false h1; replace hk := zab hk h1; refine T.skip (K.seq (T.seq (T.sr ?_))); refine TL.run 1 rfl ?_; refine TL.ns ?_; have hq := zad hk; clear hk; obtain ⟨k2, hk2, hk⟩ := hq; (try dsimp only at hk); refine T.af (ι := FzB w (fun _ => False) S0) (fun z => []) (fun z => [.fr z]) (fun z => k2 () = some r ∧ F1.toFrz.Le z.toFrz) ?_ ?_
    · have hq := zam hk; clear hk; obtain ⟨f3, kk3, hf3, hkk3, hk⟩ := hq; refine T.block ?_; refine T.loop (ι := Nat × FzB w (fun _ => False) S0) (fun z => [(0, vl), (1, .int .i64 id), (2, vwant), (7, .int .i64 (z.1 : Int))]) (fun z => [.fr z.2]) (fun z => zai f3 kk3 (l.length - z.1) z.1 () = some r ∧ F1.toFrz.Le z.2.toFrz) (fun z => l.length - z.1) (0, F1) ?_ ?_ ?_ ?_
      · exact ⟨hk, (Frz.Le.refl _)⟩
      · exact (.c (.c (.c (.c .nil))))
      · exact List.Sublist.refl _
      · rintro ⟨i_4, F3⟩ ⟨hk, le1_3⟩; (try dsimp only at *); refine T.seq (T.sr ?_); refine TL.run 2 rfl ?_; refine TL.y (Yv.am rfl rfl (SlD.mono (rep := GBid.rep) (fun _ _ _ _ => GBid.mono) hl le1_3).1 (SlD.mono (rep := GBid.rep) (fun _ _ _ _ => GBid.mono) hl le1_3).2.1) ?_; refine TL.run 1 rfl ?_; refine TL.ns ?_; refine T.cond rfl (fun h5 => ?_) (fun h5 => ?_)
        · have p5 := of_decide_eq_true h5; rw [zaA (by omega)] at hk; generalize hn3 : zai f3 kk3 (l.length - (i_4 + 1)) (i_4 + 1) = next3 at hk; rw [← hf3] at hk; (try dsimp only at hk); refine T.skip (K.seq (T.seq (T.block (T.seq ?_)))); have hq := zac hk; clear hk; obtain ⟨r27, hr27, hk⟩ := hq; (try dsimp only at hk); refine T.region ?_; refine TL.run 2 rfl ?_; refine TL.y (Yv.an (i := i_4) rfl rfl rfl (SlC.mono hwant le1_3) (List.length_map _) rfl (by omega)) ?_; refine TL.y (Yv.aQ rfl rfl (SlC.mono hwant le1_3) (List.length_map _) (by omega)) ?_; refine TL.y (Yv.al 0 (i := i_4) (j := 2) rfl rfl rfl (SlC.mono hwant le1_3) (by omega) rfl rfl) ?_; refine TL.e (Ew.ao 0 rfl rfl rfl rfl (fun w hw hF => zdV _ w hF ((nth want i_4).Point) 1000 fuel r27 hr27)) ?_; rintro _ _ ⟨⟨v27_0_1, v27_0_3⟩, F4, le3_4, ⟨hf27_0_1, hf27_0_3⟩, rfl, rfl⟩; dsimp only at hf27_0_1 hf27_0_3 ⊢; have le1_4 := le1_3.trans le3_4; haveI := hf27_0_1.oneC; haveI := hf27_0_3.oneC; refine TL.run 3 rfl ?_; refine TL.e (Ew.alloc rfl) ?_; rintro _ _ ⟨g8, rfl, rfl⟩; refine TL.e0 (Ew.ag 0 rfl rfl rfl rfl rfl rfl) ?_; rintro _ _ ⟨rfl, rfl⟩; refine TL.run 1 rfl ?_; refine TL.ns (T.seq ?_); (try dsimp only at hk); have hq := zad hk; clear hk; obtain ⟨k7, hk7, hk⟩ := hq; (try dsimp only at hk); refine T.af (ι := Bool) (fun z => [(0, vl), (1, .int .i64 id), (2, vwant), (7, .int .i64 (i_4 : Int)), (85, .bool z)]) (fun z => [.fr F4]) (fun z => k7 z = some r) ?_ ?_
          · refine T.ax (.still 0 (.still 1 (.still 2 (.still 3 (.still 4 (.still 5 (.still 6 (.still 7 (.still 8 (.still 9 (.still 10 (.still 11 (.still 12 (.still 13 (.still 14 (.still 15 (.still 16 (.still 17 (.still 18 (.still 19 (.still 20 (.still 21 (.still 22 (.still 23 (.still 24 (.still 25 (.still 26 (.still 27 (.still 28 (.still 29 (.still 30 (.still 31 (.still 32 (.still 33 (.still 34 (.still 35 (.still 36 (.still 37 (.still 38 (.still 39 (.still 40 (.still 41 (.still 42 (.eff 43 (.still 44 (.still 45 (.still 46 (.still 47 (.still 48 (.still 49 (.still 50 (.still 51 (.still 52 (.eff 53 (.still 54 (.still 55 .done)))))))))))))))))))))))))))))))))))))))))))))))))))))))) _ (by kernel_rfl) (List.Sublist.refl _) ?_; refine TS.run 3 rfl ?_; refine TS.gs rfl rfl rfl rfl (fun h8 => ?_) (fun h8 => ?_)
            · have p8 := of_decide_eq_true h8; replace hk := zaa hk h8; refine TS.run 40 rfl ?_; refine TS.eff ?_; refine TSo.off rfl (Wt.not rfl rfl rfl rfl) rfl rfl ?_; refine TS.run 9 rfl ?_; refine TS.eff ?_; refine TSo.off rfl (Wt.not rfl rfl rfl rfl) rfl rfl ?_; refine TS.run 2 rfl ?_; refine TS.done ?_; refine K.pick [1] rfl (by decide) ?_; exact K.ad true hk (.c (.c (.c (.c (.c .nil))))) (List.Sublist.refl _)
            · have p8 := of_decide_eq_false h8; replace hk := zab hk h8; refine TS.run 2 rfl ?_; refine TS.y rfl (Yv.an (i := i_4) rfl rfl rfl (SlD.mono (rep := GBid.rep) (fun _ _ _ _ => GBid.mono) hl le1_4).1 (SlD.mono (rep := GBid.rep) (fun _ _ _ _ => GBid.mono) hl le1_4).2.1 rfl (by omega)) ?_; refine TS.y rfl (Yv.aQ rfl rfl (SlD.mono (rep := GBid.rep) (fun _ _ _ _ => GBid.mono) hl le1_4).1 (SlD.mono (rep := GBid.rep) (fun _ _ _ _ => GBid.mono) hl le1_4).2.1 (by omega)) ?_; refine TS.y rfl (Yv.aJ 1 (i := i_4) (j := 0) rfl rfl rfl (SlD.mono (rep := GBid.rep) (fun _ _ _ _ => GBid.mono) hl le1_4).1 (SlD.mono (rep := GBid.rep) (fun _ _ _ _ => GBid.mono) hl le1_4).2.1 (by omega) rfl (GBid.c0 ((SlD.mono (rep := GBid.rep) (fun _ _ _ _ => GBid.mono) hl le1_4).2.2 i_4 (by omega)))) ?_; refine TS.run 4 rfl ?_; refine TS.gs rfl rfl rfl rfl (fun h9 => ?_) (fun h9 => ?_)
              · have p9 := of_decide_eq_true h9; replace hk := zaa hk h9; refine TS.run 31 rfl ?_; refine TS.eff ?_; refine TSo.off rfl (Wt.not rfl rfl rfl rfl) rfl rfl ?_; refine TS.run 9 rfl ?_; refine TS.eff ?_; refine TSo.off rfl (Wt.not rfl rfl rfl rfl) rfl rfl ?_; refine TS.run 2 rfl ?_; refine TS.done ?_; refine K.pick [1] rfl (by decide) ?_; exact K.ad true hk (.c (.c (.c (.c (.c .nil))))) (List.Sublist.refl _)
              · have p9 := of_decide_eq_false h9; replace hk := zab hk h9; refine TS.run 2 rfl ?_; refine TS.y rfl (Yv.an (i := i_4) rfl rfl rfl (SlD.mono (rep := GBid.rep) (fun _ _ _ _ => GBid.mono) hl le1_4).1 (SlD.mono (rep := GBid.rep) (fun _ _ _ _ => GBid.mono) hl le1_4).2.1 rfl (by omega)) ?_; refine TS.y rfl (Yv.aQ rfl rfl (SlD.mono (rep := GBid.rep) (fun _ _ _ _ => GBid.mono) hl le1_4).1 (SlD.mono (rep := GBid.rep) (fun _ _ _ _ => GBid.mono) hl le1_4).2.1 (by omega)) ?_; refine TS.y rfl (Yv.aJ 1 (i := i_4) (j := 1) rfl rfl rfl (SlD.mono (rep := GBid.rep) (fun _ _ _ _ => GBid.mono) hl le1_4).1 (SlD.mono (rep := GBid.rep) (fun _ _ _ _ => GBid.mono) hl le1_4).2.1 (by omega) rfl (GBid.c1 ((SlD.mono (rep := GBid.rep) (fun _ _ _ _ => GBid.mono) hl le1_4).2.2 i_4 (by omega)))) ?_; refine TS.run 2 rfl ?_; refine TS.y rfl (Yv.an (i := i_4) rfl rfl rfl (SlC.mono hwant le1_4) (List.length_map _) rfl (by omega)) ?_; refine TS.y rfl (Yv.aQ rfl rfl (SlC.mono hwant le1_4) (List.length_map _) (by omega)) ?_; refine TS.y rfl (Yv.al 1 (i := i_4) (j := 0) rfl rfl rfl (SlC.mono hwant le1_4) (by omega) rfl rfl) ?_; refine TS.run 3 rfl ?_; refine TS.gs rfl rfl rfl rfl (fun h10 => ?_) (fun h10 => ?_)
                · have p10 := of_decide_eq_true h10; replace hk := zaa hk h10; refine TS.run 18 rfl ?_; refine TS.eff ?_; refine TSo.off rfl (Wt.not rfl rfl rfl rfl) rfl rfl ?_; refine TS.run 9 rfl ?_; refine TS.eff ?_; refine TSo.off rfl (Wt.not rfl rfl rfl rfl) rfl rfl ?_; refine TS.run 2 rfl ?_; refine TS.done ?_; refine K.pick [1] rfl (by decide) ?_; exact K.ad true hk (.c (.c (.c (.c (.c .nil))))) (List.Sublist.refl _)
                · have p10 := of_decide_eq_false h10; replace hk := zab hk h10; refine TS.run 2 rfl ?_; refine TS.y rfl (Yv.an (i := i_4) rfl rfl rfl (SlD.mono (rep := GBid.rep) (fun _ _ _ _ => GBid.mono) hl le1_4).1 (SlD.mono (rep := GBid.rep) (fun _ _ _ _ => GBid.mono) hl le1_4).2.1 rfl (by omega)) ?_; refine TS.y rfl (Yv.aQ rfl rfl (SlD.mono (rep := GBid.rep) (fun _ _ _ _ => GBid.mono) hl le1_4).1 (SlD.mono (rep := GBid.rep) (fun _ _ _ _ => GBid.mono) hl le1_4).2.1 (by omega)) ?_; refine TS.y rfl (Yv.aJ 1 (i := i_4) (j := 2) rfl rfl rfl (SlD.mono (rep := GBid.rep) (fun _ _ _ _ => GBid.mono) hl le1_4).1 (SlD.mono (rep := GBid.rep) (fun _ _ _ _ => GBid.mono) hl le1_4).2.1 (by omega) rfl (GBid.c2 ((SlD.mono (rep := GBid.rep) (fun _ _ _ _ => GBid.mono) hl le1_4).2.2 i_4 (by omega)))) ?_; refine TS.run 2 rfl ?_; refine TS.y rfl (Yv.an (i := i_4) rfl rfl rfl (SlC.mono hwant le1_4) (List.length_map _) rfl (by omega)) ?_; refine TS.y rfl (Yv.aQ rfl rfl (SlC.mono hwant le1_4) (List.length_map _) (by omega)) ?_; refine TS.y rfl (Yv.al 1 (i := i_4) (j := 1) rfl rfl rfl (SlC.mono hwant le1_4) (by omega) rfl rfl) ?_; refine TS.run 3 rfl ?_; refine TS.gs rfl rfl rfl rfl (fun h11 => ?_) (fun h11 => ?_)
                  · have p11 := of_decide_eq_true h11; replace hk := zaa hk h11; refine TS.run 5 rfl ?_; refine TS.eff ?_; refine TSo.off rfl (Wt.not rfl rfl rfl rfl) rfl rfl ?_; refine TS.run 9 rfl ?_; refine TS.eff ?_; refine TSo.off rfl (Wt.not rfl rfl rfl rfl) rfl rfl ?_; refine TS.run 2 rfl ?_; refine TS.done ?_; refine K.pick [1] rfl (by decide) ?_; exact K.ad true hk (.c (.c (.c (.c (.c .nil))))) (List.Sublist.refl _)
                  · have p11 := of_decide_eq_false h11; replace hk := zab hk h11; refine TS.run 2 rfl ?_; refine TS.y rfl (Yv.an (i := i_4) rfl rfl rfl (SlD.mono (rep := GBid.rep) (fun _ _ _ _ => GBid.mono) hl le1_4).1 (SlD.mono (rep := GBid.rep) (fun _ _ _ _ => GBid.mono) hl le1_4).2.1 rfl (by omega)) ?_; refine TS.y rfl (Yv.aQ rfl rfl (SlD.mono (rep := GBid.rep) (fun _ _ _ _ => GBid.mono) hl le1_4).1 (SlD.mono (rep := GBid.rep) (fun _ _ _ _ => GBid.mono) hl le1_4).2.1 (by omega)) ?_; refine TS.y rfl (Yv.be 1 (i := i_4) (j := 3) rfl rfl rfl (SlD.mono (rep := GBid.rep) (fun _ _ _ _ => GBid.mono) hl le1_4).1 (SlD.mono (rep := GBid.rep) (fun _ _ _ _ => GBid.mono) hl le1_4).2.1 (by omega) rfl ((zej (GBid.form ((SlD.mono (rep := GBid.rep) (fun _ _ _ _ => GBid.mono) hl le1_4).2.2 i_4 (by omega))) (j := 3) (q := 4) (by decide)).trans rfl) rfl) ?_; have hd72_4 := (GBid.c4 ((SlD.mono (rep := GBid.rep) (fun _ _ _ _ => GBid.mono) hl le1_4).2.2 i_4 (by omega))).2; haveI := hd72_4.oneC; have hd72_6 := (GBid.c6 ((SlD.mono (rep := GBid.rep) (fun _ _ _ _ => GBid.mono) hl le1_4).2.2 i_4 (by omega))).2; haveI := hd72_6.oneC; refine TS.eff ?_; have hq := zac hk; clear hk; obtain ⟨r73, hr73, hk⟩ := hq; refine TSo.ay rfl (Wt.some rfl rfl rfl rfl) rfl rfl (Ew.ai rfl rfl rfl (fun w hw => zco _ w (hw.fr (i := 1) rfl) ((nth l i_4).Point) (nth (nth cl i_4) 4) hd72_4 (nth (nth cl i_4) 6) hd72_6 fuel r73 hr73)) ?_; rintro _ _ ⟨rfl, rfl⟩; refine ⟨(fun w hw => hw.sub Sx), ?_⟩; refine TS.run 3 rfl ?_; refine TS.gs rfl rfl rfl rfl (fun h12 => ?_) (fun h12 => ?_)
                    · replace hk := zaa hk h12; refine TS.run 6 rfl ?_; refine TS.eff ?_; refine TSo.off rfl (Wt.not rfl rfl rfl rfl) rfl rfl ?_; refine TS.run 2 rfl ?_; refine TS.done ?_; refine K.pick [1] rfl (by decide) ?_; exact K.ad true hk (.c (.c (.c (.c (.c .nil))))) (List.Sublist.refl _)
                    · replace hk := zab hk h12; refine TS.run 2 rfl ?_; refine TS.y rfl (Yv.an (i := i_4) rfl rfl rfl (SlD.mono (rep := GBid.rep) (fun _ _ _ _ => GBid.mono) hl le1_4).1 (SlD.mono (rep := GBid.rep) (fun _ _ _ _ => GBid.mono) hl le1_4).2.1 rfl (by omega)) ?_; refine TS.y rfl (Yv.aQ rfl rfl (SlD.mono (rep := GBid.rep) (fun _ _ _ _ => GBid.mono) hl le1_4).1 (SlD.mono (rep := GBid.rep) (fun _ _ _ _ => GBid.mono) hl le1_4).2.1 (by omega)) ?_; refine TS.y rfl (Yv.be 1 (i := i_4) (j := 3) rfl rfl rfl (SlD.mono (rep := GBid.rep) (fun _ _ _ _ => GBid.mono) hl le1_4).1 (SlD.mono (rep := GBid.rep) (fun _ _ _ _ => GBid.mono) hl le1_4).2.1 (by omega) rfl ((zej (GBid.form ((SlD.mono (rep := GBid.rep) (fun _ _ _ _ => GBid.mono) hl le1_4).2.2 i_4 (by omega))) (j := 3) (q := 4) (by decide)).trans rfl) rfl) ?_; refine TS.y rfl (Yv.aj 0 rfl rfl rfl rfl) ?_; refine TS.eff ?_; have hq := zac hk; clear hk; obtain ⟨r83, hr83, hk⟩ := hq; refine TSo.ay rfl (Wt.some rfl rfl rfl rfl) rfl rfl (Ew.ai rfl rfl rfl (fun w hw => zdC _ w (hw.fr (i := 1) rfl) ((nth l i_4).Point) (nth (nth cl i_4) 4) hd72_4 (nth (nth cl i_4) 6) hd72_6 r27.1 v27_0_1 hf27_0_1 v27_0_3 hf27_0_3 fuel r83 hr83)) ?_; rintro _ _ ⟨rfl, rfl⟩; refine ⟨(fun w hw => hw.sub Sx), ?_⟩; refine TS.run 2 rfl ?_; refine TS.done ?_; refine K.pick [1] rfl (by decide) ?_; exact K.ad (decide (¬ r83 = 0)) hk (.c (.c (.c (.c (.c .nil))))) (List.Sublist.refl _)
          · rintro x_6 hk; rw [← hk7] at hk; (try dsimp only at hk); refine T.cond rfl (fun h13 => ?_) (fun h13 => ?_)
            · replace hk := zaa hk h13; refine T.sr ?_; refine TL.run 1 rfl ?_; refine TL.ns (T.ret (K.ah (K.a (K.a (K.ah (K.a ?_)))))); obtain rfl := Option.some.inj hk; exact K.ak rfl rfl (fun w' hw => ⟨rfl, hw.isBelow⟩)
            · replace hk := zab hk h13; refine T.skip (K.ab (K.seq (T.region ?_))); refine TL.run 1 rfl ?_; refine TL.y (Yv.av rfl rfl rfl (by omega)) ?_; refine TL.run 1 rfl ?_; refine TL.nil ?_; rw [← hn3] at hk; exact K.next ((i_4 + 1), F4) ⟨hk, le1_4⟩ (by dsimp only; omega) (.c (.c (.c (.c .nil)))) (List.Sublist.refl _)
        · have p5 := of_decide_eq_false h5; rw [zaz (by omega), ← hkk3] at hk; (try dsimp only at hk); refine T.exit (K.aa (K.aa (K.ac ?_))); exact K.ad F3 ⟨hk, le1_3⟩ .nil (List.Sublist.refl _)
    · rintro F2 ⟨hk, le1_2⟩; rw [← hk2] at hk; (try dsimp only at hk); refine T.sr ?_; refine TL.run 1 rfl ?_; refine TL.ns (T.ret ?_); obtain rfl := Option.some.inj hk; exact K.ak rfl rfl (fun w' hw => ⟨rfl, hw.isBelow⟩)
def zbn (fuel : Nat)  : Option Bool :=
  (zbU (GStationPlan.mk 7 3 [0, 10, 20, 100]) 0 [90, 70, 85, 0]).bind fun r23 =>
  (zbx fuel (GStationPlan.mk 7 3 [0, 10, 20, 100]) 0 [90, 70, 85, 0]).bind fun r29 =>
  (bif ((((((decide (¬ r23.1 = 90)) || (decide (¬ r23.2 = 0))) || (decide (¬ r29.2 = 0))) || (decide (¬ r29.1.Station = 7))) || (decide (¬ r29.1.Preferred = 2))) || (!(zaJ r29.1.Fallbacks [3, 0, 1]))) then
    some false
    else
    zax (fun (_ : Unit) =>
      (zcq fuel (GBidderPlan.mk 2 1000 [[9, 7, 2]]) [(GProduct.mk 1 1 3 1 0)] [2] [5] [10]).bind fun r98 =>
      zax (fun (x_13 : Bool) =>
        (bif x_13 then
          some false
          else
          (zaH fuel (GBidderPlan.mk 2 9 [[9, 7, 2]]) [(GProduct.mk 1 1 3 1 0)] [5]).bind fun r116 =>
          some ((decide (r116.2 = 0)) && (zaJ r116.1 [1]))))
      (fun k14 =>
        (bif decide (¬ r98.2 = 0) then
          k14 true
          else
          (zcz fuel r98.1 2 [(GRow.mk 0 (-1) 400), (GRow.mk 0 (-1) 800)]).bind fun r108 =>
          k14 (!r108))))
    (fun k7 =>
      zai (fun (i_9 : Nat) (next8 : Unit → Option Bool) (_ : Unit) =>
        grd (0 ≤ (i_9 : Int) ∧ (i_9 : Int) < ([2, 2, 0].length : Int)) <|
        grd (0 ≤ (i_9 : Int) ∧ (i_9 : Int) < ([5, 7, 10].length : Int)) <|
        (zaH fuel (GBidderPlan.mk 2 1000 [[9, 7, 2]]) [(GProduct.mk 1 1 3 1 0)] [(nth [5, 7, 10] i_9)]).bind fun r79 =>
        (bif ((decide (¬ r79.2 = 0)) || (!(zaJ r79.1 [(nth [2, 2, 0] i_9)]))) then
          some false
          else
          next8 ()))
      (fun (_ : Unit) =>
        k7 ()) (3 - 0) 0 ()))
theorem zc1 (F0 : Frz) (w : World) (hF0 : F0.At w)  (fuel : Nat) (r : Bool) (hr : zbn fuel = some r) : Calls Try.prog 5 #[] w fun e w' => e = .returned (.bool r) ∧ Below w.heap.size w w' := by
  have hk := hr; unfold zbn at hk; obtain ⟨S0, F1, rfl, hS0, hp0⟩ := zaf hF0; refine zah Try.func5 rfl rfl rfl hp0 ?_; refine T.sr ?_; refine TL.run 1 rfl ?_; refine TL.nx ?_; refine TL.e (Ew.buildSlice rfl rfl rfl (by decide)) ?_; rintro _ _ ⟨g17, rfl, rfl⟩; refine TL.y (Yv.build rfl rfl) ?_; refine TL.e (Ew.alloc rfl) ?_; rintro _ _ ⟨g1, rfl, rfl⟩; refine TL.e0 (Ew.ag 0 rfl rfl rfl rfl rfl rfl) ?_; rintro _ _ ⟨rfl, rfl⟩; refine TL.nx ?_; refine TL.e (Ew.buildSlice rfl rfl rfl (by decide)) ?_; rintro _ _ ⟨g19, rfl, rfl⟩; refine TL.run 1 rfl ?_; refine TL.ns (T.seq ?_); refine T.aA (fun w hw => hw.freezeR (i := 3) (j := 2) (by decide) rfl rfl) ?_; rintro F2 ⟨le1_2, hz2⟩; dsimp only [List.set, List.eraseIdx]; have hfF2 : SlC F2.toFrz (.slice (some ⟨g17, 0, none⟩) 4 4) 1 ([0, 10, 20, 100].map eI) := (SlK.lit hz2 rfl (Nat.le_refl _) (by decide)).toF (xs := [0, 10, 20, 100]) rfl (fun _ => rfl); refine T.aA (fun w hw => hw.freezeR (i := 2) (j := 0) (by decide) rfl rfl) ?_; rintro F3 ⟨le2_3, hz3⟩; dsimp only [List.set, List.eraseIdx]; have hfF3 : SlC F3.toFrz (.slice (some ⟨g19, 0, none⟩) 4 4) 1 ([90, 70, 85, 0].map eI) := (SlK.lit hz3 rfl (Nat.le_refl _) (by decide)).toF (xs := [90, 70, 85, 0]) rfl (fun _ => rfl); have hq := zac hk; clear hk; obtain ⟨r23, hr23, hk⟩ := hq; (try dsimp only at hk); refine T.region ?_; refine TL.y (Yv.aj 0 rfl rfl rfl rfl) ?_; refine TL.run 1 rfl ?_; refine TL.e (Ew.ai rfl rfl rfl (fun w hw => zdl _ w (hw.fr (i := 1) rfl) (GStationPlan.mk 7 3 [0, 10, 20, 100]) (.slice (some ⟨g17, 0, none⟩) 4 4) (SlC.mono hfF2 le2_3) 0 [90, 70, 85, 0] (.slice (some ⟨g19, 0, none⟩) 4 4) hfF3 r23 hr23)) ?_; rintro _ _ ⟨rfl, rfl⟩; refine TL.run 5 rfl ?_; refine TL.ns (T.seq ?_); have hq := zac hk; clear hk; obtain ⟨r29, hr29, hk⟩ := hq; (try dsimp only at hk); refine T.region ?_; refine TL.y (Yv.aj 0 rfl rfl rfl rfl) ?_; refine TL.run 1 rfl ?_; refine TL.e (Ew.ao 1 rfl rfl rfl rfl (fun w hw hF => zcQ _ w hF (GStationPlan.mk 7 3 [0, 10, 20, 100]) (.slice (some ⟨g17, 0, none⟩) 4 4) (SlC.mono hfF2 le2_3) 0 [90, 70, 85, 0] (.slice (some ⟨g19, 0, none⟩) 4 4) hfF3 fuel r29 hr29)) ?_; rintro _ _ ⟨v29_0_2, F4, le3_4, hf29_0_2, rfl, rfl⟩; haveI := hf29_0_2.oneC; refine TL.run 3 rfl ?_; refine TL.e (Ew.alloc rfl) ?_; rintro _ _ ⟨g5, rfl, rfl⟩; refine TL.e0 (Ew.ag 0 rfl rfl rfl rfl rfl rfl) ?_; rintro _ _ ⟨rfl, rfl⟩; refine TL.run 1 rfl ?_; refine TL.ns (T.seq (T.seq ?_)); refine T.af (ι := FzB w (fun _ => False) S0) (fun z => [(58, .bool ((((((decide (¬ r23.1 = 90)) || (decide (¬ r23.2 = 0))) || (decide (¬ r29.2 = 0))) || (decide (¬ r29.1.Station = 7))) || (decide (¬ r29.1.Preferred = 2))) || (!(zaJ r29.1.Fallbacks [3, 0, 1]))))]) (fun z => [.row g5 41 [.int .i64 r29.1.Station, .int .i64 r29.1.Preferred, v29_0_2], .row g1 37 [.int .i64 7, .int .i64 3, (.slice (some ⟨g17, 0, none⟩) 4 4)], .fr z]) (fun z => F4.toFrz.Le z.toFrz) ?_ ?_
  · refine T.region ?_; refine TL.run 3 rfl ?_; refine TL.gs rfl rfl rfl (fun h1 => ?_) (fun h1 => ?_)
    · have p1 := of_decide_eq_true h1; refine TL.run 24 rfl ?_; refine TL.nil ?_; exact K.ad F4 (Frz.Le.refl _) (.b (zak (zak (zak (zak (zak h1))))).symm .nil) (List.Sublist.refl _)
    · have p1 := of_decide_eq_false h1; refine TL.run 4 rfl ?_; refine TL.gs rfl rfl rfl (fun h2 => ?_) (fun h2 => ?_)
      · have p2 := of_decide_eq_true h2; refine TL.run 20 rfl ?_; refine TL.nil ?_; exact K.ad F4 (Frz.Le.refl _) (.b (zak (zak (zak (zak (zat h1 h2))))).symm .nil) (List.Sublist.refl _)
      · have p2 := of_decide_eq_false h2; refine TL.run 4 rfl ?_; refine TL.gs rfl rfl rfl (fun h3 => ?_) (fun h3 => ?_)
        · have p3 := of_decide_eq_true h3; refine TL.run 16 rfl ?_; refine TL.nil ?_; exact K.ad F4 (Frz.Le.refl _) (.b (zak (zak (zak (zat (zat h1 h2) h3)))).symm .nil) (List.Sublist.refl _)
        · have p3 := of_decide_eq_false h3; refine TL.y (Yv.fieldAddr rfl rfl) ?_; refine TL.y (Yv.ae 0 rfl rfl rfl rfl) ?_; refine TL.run 3 rfl ?_; refine TL.gs rfl rfl rfl (fun h4 => ?_) (fun h4 => ?_)
          · have p4 := of_decide_eq_true h4; refine TL.run 11 rfl ?_; refine TL.nil ?_; exact K.ad F4 (Frz.Le.refl _) (.b (zak (zak (zat (zat (zat h1 h2) h3) h4))).symm .nil) (List.Sublist.refl _)
          · have p4 := of_decide_eq_false h4; refine TL.y (Yv.fieldAddr rfl rfl) ?_; refine TL.y (Yv.ae 0 rfl rfl rfl rfl) ?_; refine TL.run 3 rfl ?_; refine TL.gs rfl rfl rfl (fun h5 => ?_) (fun h5 => ?_)
            · have p5 := of_decide_eq_true h5; refine TL.run 6 rfl ?_; refine TL.nil ?_; exact K.ad F4 (Frz.Le.refl _) (.b (zak (zat (zat (zat (zat h1 h2) h3) h4) h5)).symm .nil) (List.Sublist.refl _)
            · have p5 := of_decide_eq_false h5; refine TL.y (Yv.fieldAddr rfl rfl) ?_; refine TL.y (Yv.ae 0 rfl rfl rfl rfl) ?_; refine TL.e (Ew.buildSlice rfl rfl rfl (by decide)) ?_; rintro _ _ ⟨g55, rfl, rfl⟩; refine TL.aA (fun w hw => hw.freezeR (i := 3) (j := 0) (by decide) rfl rfl) ?_; rintro F6 ⟨le4_6, hz6⟩; dsimp only [List.set, List.eraseIdx]; have hfF6 : SlC F6.toFrz (.slice (some ⟨g55, 0, none⟩) 3 3) 1 ([3, 0, 1].map eI) := (SlK.lit hz6 rfl (Nat.le_refl _) (by decide)).toF (xs := [3, 0, 1]) rfl (fun _ => rfl); refine TL.e (Ew.ai rfl rfl rfl (fun w hw => zcb _ w (hw.fr (i := 2) rfl) r29.1.Fallbacks v29_0_2 (SlC.mono hf29_0_2 le4_6) [3, 0, 1] (.slice (some ⟨g55, 0, none⟩) 3 3) hfF6)) ?_; rintro _ _ ⟨rfl, rfl⟩; refine TL.run 2 rfl ?_; refine TL.nil ?_; exact K.ad F6 le4_6 (.b (or_f (zat (zat (zat (zat h1 h2) h3) h4) h5)) .nil) (List.Sublist.refl _)
  · rintro F5 le4_5; (try dsimp only at *); refine T.cond rfl (fun h6 => ?_) (fun h6 => ?_)
    · replace hk := zaa hk h6; refine T.sr ?_; refine TL.run 1 rfl ?_; refine TL.ns (T.ret (K.a ?_)); obtain rfl := Option.some.inj hk; exact K.ak rfl rfl (fun w' hw => ⟨rfl, hw.isBelow⟩)
    · have p6 := h6; (try simp only [nfB] at p6); replace hk := zab hk h6; refine T.skip (K.seq (T.sr ?_)); refine TL.y (Yv.build rfl rfl) ?_; refine TL.e (Ew.buildSlice rfl rfl rfl (by decide)) ?_; rintro _ _ ⟨g60, rfl, rfl⟩; refine TL.run 1 rfl ?_; refine TL.nx ?_; refine TL.e (Ew.buildSlice rfl rfl rfl (by decide)) ?_; rintro _ _ ⟨g61, rfl, rfl⟩; refine TL.aA (fun w hw => hw.freezeR (i := 4) (j := 0) (by decide) rfl rfl) ?_; rintro F7 ⟨le5_7, hz7⟩; dsimp only [List.set, List.eraseIdx]; have hfF7 : SlC F7.toFrz (.slice (some ⟨g61, 0, none⟩) 3 3) 1 ([9, 7, 2].map eI) := (SlK.lit hz7 rfl (Nat.le_refl _) (by decide)).toF (xs := [9, 7, 2]) rfl (fun _ => rfl); refine TL.e (Ew.buildSlice rfl rfl rfl (by decide)) ?_; rintro _ _ ⟨g62, rfl, rfl⟩; have hl62 : OwnD R_List_Int.rep F7.toFrz 1 [[(.slice (some ⟨g61, 0, none⟩) 3 3)]] [[9, 7, 2]] := (OwnD.snoc (OwnD.nil _ _ 1) ⟨_, rfl, hfF7⟩ rfl); refine TL.y (Yv.build rfl rfl) ?_; refine TL.e (Ew.alloc rfl) ?_; rintro _ _ ⟨g8, rfl, rfl⟩; refine TL.e0 (Ew.ag 0 rfl rfl rfl rfl rfl rfl) ?_; rintro _ _ ⟨rfl, rfl⟩; refine TL.ns (T.seq (T.sr ?_)); refine TL.e (Ew.buildSlice rfl rfl rfl (by decide)) ?_; rintro _ _ ⟨g64, rfl, rfl⟩; refine TL.y (Yv.bb rfl rfl) ?_; refine TL.run 1 rfl ?_; refine TL.ns ?_; refine T.aA (fun w hw => hw.freezeR (i := 6) (j := 3) (by decide) rfl rfl) ?_; rintro F8 ⟨le7_8, hz8⟩; dsimp only [List.set, List.eraseIdx]; have hfF8 : SlC F8.toFrz (.slice (some ⟨g60, 0, none⟩) 1 1) 5 ([(GProduct.mk 1 1 3 1 0)].map GProduct.enc) := (SlK.lit hz8 rfl (Nat.le_refl _) (by decide)).toF (xs := [(GProduct.mk 1 1 3 1 0)]) rfl GProduct.len; refine T.aA (fun w hw => hw.freezeR (i := 5) (j := 2) (by decide) rfl rfl) ?_; rintro F9 ⟨le8_9, hz9⟩; dsimp only [List.set, List.eraseIdx]; have le7_9 := le7_8.trans le8_9; have hfF9 : SlD R_List_Int.rep F9.toFrz (.slice (some ⟨g62, 0, none⟩) 1 1) 1 [[(.slice (some ⟨g61, 0, none⟩) 3 3)]] [[9, 7, 2]] := (SlK.lit hz9 rfl (Nat.le_refl _) (by decide)).toD (OwnD.mono (rep := R_List_Int.rep) (fun _ _ _ _ => R_List_Int.mono) hl62 le7_9) rfl; refine T.aA (fun w hw => hw.freezeR (i := 4) (j := 0) (by decide) rfl rfl) ?_; rintro F10 ⟨le9_10, hz10⟩; dsimp only [List.set, List.eraseIdx]; have le8_10 := le8_9.trans le9_10; have hfF10 : SlC F10.toFrz (.slice (some ⟨g64, 0, none⟩) 3 3) 1 ([2, 2, 0].map eI) := (SlK.lit hz10 rfl (Nat.le_refl _) (by decide)).toF (xs := [2, 2, 0]) rfl (fun _ => rfl); have hq := zad hk; clear hk; obtain ⟨k7, hk7, hk⟩ := hq; (try dsimp only at hk); refine T.af (ι := FzB w (fun _ => False) S0) (fun z => [(7, (.slice (some ⟨g60, 0, none⟩) 1 1)), (8, .pointer (some ⟨g8, 0, none⟩))]) (fun z => [.row g8 24 [.int .i64 2, .int .i64 1000, (.slice (some ⟨g62, 0, none⟩) 1 1)], .fr z]) (fun z => k7 () = some r ∧ F10.toFrz.Le z.toFrz) ?_ ?_
      · have hq := zam hk; clear hk; obtain ⟨f8, kk8, hf8, hkk8, hk⟩ := hq; refine T.block ?_; refine T.pick [0, 3] rfl (by decide) ?_; refine T.loop (ι := Nat × FzB w (fun _ => False) S0) (fun z => [(7, (.slice (some ⟨g60, 0, none⟩) 1 1)), (8, .pointer (some ⟨g8, 0, none⟩)), (64, (.slice (some ⟨g64, 0, none⟩) 3 3)), (65, .int .i64 3), (66, .int .i64 (z.1 : Int))]) (fun z => [.row g8 24 [.int .i64 2, .int .i64 1000, (.slice (some ⟨g62, 0, none⟩) 1 1)], .fr z.2]) (fun z => zai f8 kk8 (3 - z.1) z.1 () = some r ∧ F10.toFrz.Le z.2.toFrz) (fun z => 3 - z.1) (0, F10) ?_ ?_ ?_ ?_
        · exact ⟨hk, (Frz.Le.refl _)⟩
        · exact (.c (.c (.c (.c (.c .nil)))))
        · exact List.Sublist.refl _
        · rintro ⟨i_9, F12⟩ ⟨hk, le10_12⟩; (try dsimp only at *); have le8_12 := le8_10.trans le10_12; have le9_12 := le9_10.trans le10_12; refine T.sr ?_; refine TL.run 1 rfl ?_; refine TL.ns (T.seq ?_); refine T.cond rfl (fun h10 => ?_) (fun h10 => ?_)
          · have p10 := of_decide_eq_true h10; rw [zaA (by omega)] at hk; generalize hn8 : zai f8 kk8 (3 - (i_9 + 1)) (i_9 + 1) = next8 at hk; rw [← hf8] at hk; (try dsimp only at hk); refine T.skip (K.seq (T.seq (T.block (T.seq ?_)))); have hq : (0 ≤ (i_9 : Int) ∧ (i_9 : Int) < ([2, 2, 0].length : Int)) ∧ _ := zae hk; clear hk; obtain ⟨g69, hk⟩ := hq; (try dsimp only at hk); refine T.region ?_; refine TL.run 1 rfl ?_; refine TL.y (Yv.an (i := i_9) rfl rfl rfl (SlC.mono hfF10 le10_12) (List.length_map _) rfl (by omega)) ?_; refine TL.y (Yv.al 1 (i := i_9) (j := 0) rfl rfl rfl (SlC.mono hfF10 le10_12) (by omega) rfl rfl) ?_; refine TL.run 2 rfl ?_; refine TL.ns (T.seq ?_); have hq : (0 ≤ (i_9 : Int) ∧ (i_9 : Int) < ([5, 7, 10].length : Int)) ∧ _ := zae hk; clear hk; obtain ⟨g76, hk⟩ := hq; have hq := zac hk; clear hk; obtain ⟨r79, hr79, hk⟩ := hq; (try dsimp only at hk); refine T.ax (.still 0 (.still 1 (.still 3 (.eff 2 (.still 4 (.eff 5 (.eff 6 (.eff 7 (.still 8 (.still 9 (.still 10 (.still 11 (.still 12 .done))))))))))))) _ (by kernel_rfl) (List.Sublist.refl _) ?_; refine TS.y rfl (Yv.aj 0 rfl rfl rfl rfl) ?_; refine TS.run 2 rfl ?_; refine TS.eff ?_; refine TSo.ay rfl (Wt.none rfl) rfl rfl (Ew.buildSlice rfl rfl rfl (by decide)) ?_; rintro _ _ ⟨g74, rfl, rfl⟩; refine ⟨(fun w hw => hw.sub Sx), ?_⟩; refine TS.aA (fun w hw => hw.freezeR (i := 2) (j := 0) (by decide) rfl rfl) ?_; rintro F13 ⟨le12_13, hz13⟩; dsimp only [List.set, List.eraseIdx]; have le8_13 := le8_12.trans le12_13; have le9_13 := le9_12.trans le12_13; have le10_13 := le10_12.trans le12_13; have hfF13 : SlC F13.toFrz (.slice (some ⟨g74, 0, none⟩) 3 3) 1 ([5, 7, 10].map eI) := (SlK.lit hz13 rfl (Nat.le_refl _) (by decide)).toF (xs := [5, 7, 10]) rfl (fun _ => rfl); refine TS.y rfl (Yv.an (i := i_9) rfl rfl rfl hfF13 (List.length_map _) rfl (by omega)) ?_; refine TS.eff ?_; refine TSo.az rfl (Wt.none rfl) rfl rfl (Yv.al 1 (i := i_9) (j := 0) rfl rfl rfl hfF13 (by omega) rfl rfl) (fun w hw => (hw.frLe (i := 1) rfl le12_13).sub Sx) ?_; refine TS.eff ?_; refine TSo.ay rfl (Wt.none rfl) rfl rfl (Ew.buildSlice rfl rfl rfl (by decide)) ?_; rintro _ _ ⟨g78, rfl, rfl⟩; refine ⟨(fun w hw => (hw.frLe (i := 2) rfl le12_13).sub Sx), ?_⟩; refine TS.aA (fun w hw => hw.freezeR (i := 2) (j := 0) (by decide) rfl rfl) ?_; rintro F14 ⟨le13_14, hz14⟩; dsimp only [List.set, List.eraseIdx]; have le8_14 := le8_13.trans le13_14; have le9_14 := le9_13.trans le13_14; have le10_14 := le10_13.trans le13_14; have le12_14 := le12_13.trans le13_14; have hfF14 : SlC F14.toFrz (.slice (some ⟨g78, 0, none⟩) 1 1) 1 ([(nth [5, 7, 10] i_9)].map eI) := (SlK.lit hz14 rfl (Nat.le_refl _) (by decide)).toF (xs := [(nth [5, 7, 10] i_9)]) rfl (fun _ => rfl); refine TS.eff ?_; refine TSo.ay rfl (Wt.none rfl) rfl rfl (Ew.ao 1 rfl rfl rfl rfl (fun w hw hF => zb1 _ w hF (GBidderPlan.mk 2 1000 [[9, 7, 2]]) (.slice (some ⟨g62, 0, none⟩) 1 1) [[(.slice (some ⟨g61, 0, none⟩) 3 3)]] (SlD.mono (rep := R_List_Int.rep) (fun _ _ _ _ => R_List_Int.mono) hfF9 le9_14) [(GProduct.mk 1 1 3 1 0)] (.slice (some ⟨g60, 0, none⟩) 1 1) (SlC.mono hfF8 le8_14) [(nth [5, 7, 10] i_9)] (.slice (some ⟨g78, 0, none⟩) 1 1) hfF14 fuel r79 hr79)) ?_; rintro _ _ ⟨v79_0_0, F15, le14_15, hf79_0_0, rfl, rfl⟩; have le10_15 := le10_14.trans le14_15; have le12_15 := le12_14.trans le14_15; haveI := hf79_0_0.oneC; refine ⟨(fun w hw => (hw.frLe (i := 1) rfl le12_15).sub Sx), ?_⟩; refine TS.run 5 rfl ?_; refine TS.done ?_; refine K.seq (T.seq ?_); refine T.af (ι := FzB w (fun _ => False) S0) (fun z => [(7, (.slice (some ⟨g60, 0, none⟩) 1 1)), (8, .pointer (some ⟨g8, 0, none⟩)), (64, (.slice (some ⟨g64, 0, none⟩) 3 3)), (65, .int .i64 3), (66, .int .i64 (i_9 : Int)), (90, .bool ((decide (¬ r79.2 = 0)) || (!(zaJ r79.1 [(nth [2, 2, 0] i_9)]))))]) (fun z => [.row g8 24 [.int .i64 2, .int .i64 1000, (.slice (some ⟨g62, 0, none⟩) 1 1)], .fr z]) (fun z => F15.toFrz.Le z.toFrz) ?_ ?_
            · refine T.region ?_; refine TL.run 3 rfl ?_; refine TL.gs rfl rfl rfl (fun h11 => ?_) (fun h11 => ?_)
              · have p11 := of_decide_eq_true h11; refine TL.run 6 rfl ?_; refine TL.nil ?_; exact K.ad F15 (Frz.Le.refl _) (.c (.c (.c (.c (.c (.b (zak h11).symm .nil)))))) (List.Sublist.refl _)
              · have p11 := of_decide_eq_false h11; refine TL.run 2 rfl ?_; refine TL.e (Ew.buildSlice rfl rfl rfl (by decide)) ?_; rintro _ _ ⟨g87, rfl, rfl⟩; refine TL.aA (fun w hw => hw.freezeR (i := 2) (j := 0) (by decide) rfl rfl) ?_; rintro F17 ⟨le15_17, hz17⟩; dsimp only [List.set, List.eraseIdx]; have hfF17 : SlC F17.toFrz (.slice (some ⟨g87, 0, none⟩) 1 1) 1 ([(nth [2, 2, 0] i_9)].map eI) := (SlK.lit hz17 rfl (Nat.le_refl _) (by decide)).toF (xs := [(nth [2, 2, 0] i_9)]) rfl (fun _ => rfl); refine TL.e (Ew.ai rfl rfl rfl (fun w hw => zcb _ w (hw.fr (i := 1) rfl) r79.1 v79_0_0 (SlC.mono hf79_0_0 le15_17) [(nth [2, 2, 0] i_9)] (.slice (some ⟨g87, 0, none⟩) 1 1) hfF17)) ?_; rintro _ _ ⟨rfl, rfl⟩; refine TL.run 2 rfl ?_; refine TL.nil ?_; exact K.ad F17 le15_17 (.c (.c (.c (.c (.c (.b (or_f h11) .nil)))))) (List.Sublist.refl _)
            · rintro F16 le15_16; (try dsimp only at *); have le10_16 := le10_15.trans le15_16; refine T.cond rfl (fun h12 => ?_) (fun h12 => ?_)
              · replace hk := zaa hk h12; refine T.sr ?_; refine TL.run 1 rfl ?_; refine TL.ns (T.ret (K.ah (K.a (K.a (K.ah (K.a ?_)))))); obtain rfl := Option.some.inj hk; exact K.ak rfl rfl (fun w' hw => ⟨rfl, hw.isBelow⟩)
              · have p12 := h12; (try simp only [nfB] at p12); replace hk := zab hk h12; refine T.skip (K.ab (K.seq (T.region ?_))); refine TL.y (Yv.av rfl rfl rfl (by omega)) ?_; refine TL.run 1 rfl ?_; refine TL.nil ?_; rw [← hn8] at hk; exact K.next ((i_9 + 1), F16) ⟨hk, le10_16⟩ (by dsimp only; omega) (.c (.c (.c (.c (.c .nil))))) (List.Sublist.refl _)
          · have p10 := of_decide_eq_false h10; rw [zaz (by omega), ← hkk8] at hk; (try dsimp only at hk); refine T.exit (K.aa (K.aa (K.ac ?_))); exact K.ad F12 ⟨hk, le10_12⟩ (.c (.c .nil)) (List.Sublist.refl _)
      · rintro F11 ⟨hk, le10_11⟩; rw [← hk7] at hk; (try dsimp only at hk); have le8_11 := le8_10.trans le10_11; have le9_11 := le9_10.trans le10_11; refine T.seq ?_; have hq := zac hk; clear hk; obtain ⟨r98, hr98, hk⟩ := hq; (try dsimp only at hk); refine T.region ?_; refine TL.y (Yv.aj 0 rfl rfl rfl rfl) ?_; refine TL.run 1 rfl ?_; refine TL.e (Ew.buildSlice rfl rfl rfl (by decide)) ?_; rintro _ _ ⟨g95, rfl, rfl⟩; refine TL.aA (fun w hw => hw.freezeR (i := 2) (j := 0) (by decide) rfl rfl) ?_; rintro F18 ⟨le11_18, hz18⟩; dsimp only [List.set, List.eraseIdx]; have le8_18 := le8_11.trans le11_18; have le9_18 := le9_11.trans le11_18; have hfF18 : SlC F18.toFrz (.slice (some ⟨g95, 0, none⟩) 1 1) 1 ([2].map eI) := (SlK.lit hz18 rfl (Nat.le_refl _) (by decide)).toF (xs := [2]) rfl (fun _ => rfl); refine TL.e (Ew.buildSlice rfl rfl rfl (by decide)) ?_; rintro _ _ ⟨g96, rfl, rfl⟩; refine TL.aA (fun w hw => hw.freezeR (i := 2) (j := 0) (by decide) rfl rfl) ?_; rintro F19 ⟨le18_19, hz19⟩; dsimp only [List.set, List.eraseIdx]; have le8_19 := le8_18.trans le18_19; have le9_19 := le9_18.trans le18_19; have hfF19 : SlC F19.toFrz (.slice (some ⟨g96, 0, none⟩) 1 1) 1 ([5].map eI) := (SlK.lit hz19 rfl (Nat.le_refl _) (by decide)).toF (xs := [5]) rfl (fun _ => rfl); refine TL.e (Ew.buildSlice rfl rfl rfl (by decide)) ?_; rintro _ _ ⟨g97, rfl, rfl⟩; refine TL.aA (fun w hw => hw.freezeR (i := 2) (j := 0) (by decide) rfl rfl) ?_; rintro F20 ⟨le19_20, hz20⟩; dsimp only [List.set, List.eraseIdx]; have le8_20 := le8_19.trans le19_20; have le9_20 := le9_19.trans le19_20; have le18_20 := le18_19.trans le19_20; have hfF20 : SlC F20.toFrz (.slice (some ⟨g97, 0, none⟩) 1 1) 1 ([10].map eI) := (SlK.lit hz20 rfl (Nat.le_refl _) (by decide)).toF (xs := [10]) rfl (fun _ => rfl); refine TL.e (Ew.ao 1 rfl rfl rfl rfl (fun w hw hF => zdZ _ w hF (GBidderPlan.mk 2 1000 [[9, 7, 2]]) (.slice (some ⟨g62, 0, none⟩) 1 1) [[(.slice (some ⟨g61, 0, none⟩) 3 3)]] (SlD.mono (rep := R_List_Int.rep) (fun _ _ _ _ => R_List_Int.mono) hfF9 le9_20) [(GProduct.mk 1 1 3 1 0)] (.slice (some ⟨g60, 0, none⟩) 1 1) (SlC.mono hfF8 le8_20) [2] (.slice (some ⟨g95, 0, none⟩) 1 1) (SlC.mono hfF18 le18_20) [5] (.slice (some ⟨g96, 0, none⟩) 1 1) (SlC.mono hfF19 le19_20) [10] (.slice (some ⟨g97, 0, none⟩) 1 1) hfF20 fuel r98 hr98)) ?_; rintro _ _ ⟨⟨v98_0_0, cs98_0_0⟩, F21, le20_21, hf98_0_0, rfl, rfl⟩; dsimp only at hf98_0_0 ⊢; have le8_21 := le8_20.trans le20_21; have le9_21 := le9_20.trans le20_21; haveI := hf98_0_0.1.oneC; refine TL.run 5 rfl ?_; refine TL.ns (T.seq (T.seq ?_)); (try dsimp only at hk); have hq := zad hk; clear hk; obtain ⟨k14, hk14, hk⟩ := hq; (try dsimp only at hk); refine T.af (ι := Bool × FzB w (fun _ => False) S0) (fun z => [(7, (.slice (some ⟨g60, 0, none⟩) 1 1)), (8, .pointer (some ⟨g8, 0, none⟩)), (110, .bool z.1)]) (fun z => [.row g8 24 [.int .i64 2, .int .i64 1000, (.slice (some ⟨g62, 0, none⟩) 1 1)], .fr z.2]) (fun z => k14 z.1 = some r ∧ F21.toFrz.Le z.2.toFrz) ?_ ?_
        · refine T.region ?_; refine TL.run 3 rfl ?_; refine TL.gs rfl rfl rfl (fun h15 => ?_) (fun h15 => ?_)
          · have p15 := of_decide_eq_true h15; replace hk := zaa hk h15; refine TL.run 7 rfl ?_; refine TL.nil ?_; exact K.ad (true, F21) ⟨hk, (Frz.Le.refl _)⟩ (.c (.c (.c .nil))) (List.Sublist.refl _)
          · have p15 := of_decide_eq_false h15; replace hk := zab hk h15; refine TL.run 1 rfl ?_; refine TL.y (Yv.build rfl rfl) ?_; refine TL.y (Yv.build rfl rfl) ?_; refine TL.e (Ew.buildSlice rfl rfl rfl (by decide)) ?_; rintro _ _ ⟨g107, rfl, rfl⟩; refine TL.aA (fun w hw => hw.freezeR (i := 2) (j := 0) (by decide) rfl rfl) ?_; rintro F23 ⟨le21_23, hz23⟩; dsimp only [List.set, List.eraseIdx]; have hfF23 : SlC F23.toFrz (.slice (some ⟨g107, 0, none⟩) 2 2) 3 ([(GRow.mk 0 (-1) 400), (GRow.mk 0 (-1) 800)].map GRow.enc) := (SlK.lit hz23 rfl (Nat.le_refl _) (by decide)).toF (xs := [(GRow.mk 0 (-1) 400), (GRow.mk 0 (-1) 800)]) rfl GRow.len; have hq := zac hk; clear hk; obtain ⟨r108, hr108, hk⟩ := hq; refine TL.e (Ew.ai rfl rfl rfl (fun w hw => zeh _ w (hw.fr (i := 1) rfl) r98.1 v98_0_0 cs98_0_0 (SlD.mono (rep := GBid.rep) (fun _ _ _ _ => GBid.mono) hf98_0_0 le21_23) 2 [(GRow.mk 0 (-1) 400), (GRow.mk 0 (-1) 800)] (.slice (some ⟨g107, 0, none⟩) 2 2) hfF23 fuel r108 hr108)) ?_; rintro _ _ ⟨rfl, rfl⟩; refine TL.run 2 rfl ?_; refine TL.nil ?_; exact K.ad (!r108, F23) ⟨hk, le21_23⟩ (.c (.c (.c .nil))) (List.Sublist.refl _)
        · rintro ⟨x_13, F22⟩ ⟨hk, le21_22⟩; (try dsimp only at *); rw [← hk14] at hk; (try dsimp only at hk); have le8_22 := le8_21.trans le21_22; have le9_22 := le9_21.trans le21_22; refine T.cond rfl (fun h16 => ?_) (fun h16 => ?_)
          · replace hk := zaa hk h16; refine T.sr ?_; refine TL.run 1 rfl ?_; refine TL.ns (T.ret (K.a ?_)); obtain rfl := Option.some.inj hk; exact K.ak rfl rfl (fun w' hw => ⟨rfl, hw.isBelow⟩)
          · replace hk := zab hk h16; refine T.skip (K.seq (T.sr ?_)); refine TL.y (Yv.fieldAddr rfl rfl) ?_; refine TL.e0 (Ew.bc 0 rfl rfl rfl rfl (by simp)) ?_; rintro _ _ ⟨rfl, rfl⟩; refine TL.ns (T.seq ?_); have hq := zac hk; clear hk; obtain ⟨r116, hr116, hk⟩ := hq; (try dsimp only at hk); refine T.region ?_; refine TL.y (Yv.aj 0 rfl rfl rfl rfl) ?_; refine TL.run 1 rfl ?_; refine TL.e (Ew.buildSlice rfl rfl rfl (by decide)) ?_; rintro _ _ ⟨g115, rfl, rfl⟩; refine TL.aA (fun w hw => hw.freezeR (i := 2) (j := 0) (by decide) rfl rfl) ?_; rintro F24 ⟨le22_24, hz24⟩; dsimp only [List.set, List.eraseIdx]; have le8_24 := le8_22.trans le22_24; have le9_24 := le9_22.trans le22_24; have hfF24 : SlC F24.toFrz (.slice (some ⟨g115, 0, none⟩) 1 1) 1 ([5].map eI) := (SlK.lit hz24 rfl (Nat.le_refl _) (by decide)).toF (xs := [5]) rfl (fun _ => rfl); refine TL.e (Ew.ao 1 rfl rfl rfl rfl (fun w hw hF => zb1 _ w hF (GBidderPlan.mk 2 9 [[9, 7, 2]]) (.slice (some ⟨g62, 0, none⟩) 1 1) [[(.slice (some ⟨g61, 0, none⟩) 3 3)]] (SlD.mono (rep := R_List_Int.rep) (fun _ _ _ _ => R_List_Int.mono) hfF9 le9_24) [(GProduct.mk 1 1 3 1 0)] (.slice (some ⟨g60, 0, none⟩) 1 1) (SlC.mono hfF8 le8_24) [5] (.slice (some ⟨g115, 0, none⟩) 1 1) hfF24 fuel r116 hr116)) ?_; rintro _ _ ⟨v116_0_0, F25, le24_25, hf116_0_0, rfl, rfl⟩; haveI := hf116_0_0.oneC; refine TL.run 5 rfl ?_; refine TL.ns (T.seq ?_); refine T.af (ι := FzB w (fun _ => False) S0) (fun z => [(0, .bool ((decide (r116.2 = 0)) && (zaJ r116.1 [1])))]) (fun z => [.row g8 24 [.int .i64 2, .int .i64 9, (.slice (some ⟨g62, 0, none⟩) 1 1)], .fr z]) (fun z => F25.toFrz.Le z.toFrz) ?_ ?_
            · refine T.region ?_; refine TL.run 3 rfl ?_; refine TL.gs rfl rfl rfl (fun h17 => ?_) (fun h17 => ?_)
              · have p17 := of_decide_eq_true h17; refine TL.run 1 rfl ?_; refine TL.e (Ew.buildSlice rfl rfl rfl (by decide)) ?_; rintro _ _ ⟨g123, rfl, rfl⟩; refine TL.aA (fun w hw => hw.freezeR (i := 2) (j := 0) (by decide) rfl rfl) ?_; rintro F27 ⟨le25_27, hz27⟩; dsimp only [List.set, List.eraseIdx]; have hfF27 : SlC F27.toFrz (.slice (some ⟨g123, 0, none⟩) 1 1) 1 ([1].map eI) := (SlK.lit hz27 rfl (Nat.le_refl _) (by decide)).toF (xs := [1]) rfl (fun _ => rfl); refine TL.e (Ew.ai rfl rfl rfl (fun w hw => zcb _ w (hw.fr (i := 1) rfl) r116.1 v116_0_0 (SlC.mono hf116_0_0 le25_27) [1] (.slice (some ⟨g123, 0, none⟩) 1 1) hfF27)) ?_; rintro _ _ ⟨rfl, rfl⟩; refine TL.run 2 rfl ?_; refine TL.nil ?_; exact K.ad F27 le25_27 (.b (zcg h17) .nil) (List.Sublist.refl _)
              · have p17 := of_decide_eq_false h17; refine TL.run 5 rfl ?_; refine TL.nil ?_; exact K.ad F25 (Frz.Le.refl _) (.b (zaS h17).symm .nil) (List.Sublist.refl _)
            · rintro F26 le25_26; (try dsimp only at *); refine T.ret ?_; obtain rfl := Option.some.inj hk; exact K.ak rfl rfl (fun w' hw => ⟨rfl, hw.isBelow⟩)
def zaY (fuel : Nat) (p : GBidderPlan) (l : List GProduct) (prices : List Int) : Option Bool :=
  (bif ((!(zbl p l)) || (decide (10 < (prices.length : Int)))) then
    (zbn fuel).bind fun r20 =>
    some r20
    else
    (zaH fuel p l prices).bind fun r25 =>
    (za3 fuel p l prices).bind fun r32 =>
    (zaD p l).bind fun r37 =>
    (zaU p l).bind fun r40 =>
    zax (fun (x_3 : Bool) =>
      some x_3)
    (fun k4 =>
      (bif (r37 == r40) then
        (bif (zaJ r25.1 r32.1) then
          (bif decide (r25.2 = r32.2) then
            (zbn fuel).bind fun r53 =>
            k4 r53
            else
            k4 false)
          else
          k4 false)
        else
        k4 false)))
theorem zcu (F0 : Frz) (w : World) (hF0 : F0.At w) (p : GBidderPlan) (vp_2 : Value) (cp_2 : List (List Value)) (hp_2 : SlD R_List_Int.rep F0 vp_2 1 cp_2 p.Values) (l : List GProduct) (vl : Value) (hl : SlC F0 vl 5 (l.map GProduct.enc)) (prices : List Int) (vprices : Value) (hprices : SlC F0 vprices 1 (prices.map eI)) (fuel : Nat) (r : Bool) (hr : zaY fuel p l prices = some r) : Calls Try.prog 3 #[.agg [.int .i64 p.Bidder, .int .i64 p.Budget, vp_2].toArray, vl, vprices] w fun e w' => e = .returned (.bool r) ∧ Below w.heap.size w w' := by
  have hk := hr; unfold zaY at hk; haveI := hp_2.1.oneC; haveI := hl.oneC; haveI := hprices.oneC; obtain ⟨S0, F1, rfl, hS0, hp0⟩ := zaf hF0; refine zah Try.func3 rfl rfl rfl hp0 ?_; refine T.sr ?_; refine TL.e (Ew.aw rfl rfl) ?_; rintro _ _ ⟨g3, rfl, rfl⟩; refine TL.run 1 rfl ?_; refine TL.ns (T.seq (T.seq ?_)); refine T.af (ι := Unit) (fun z => [(1, vl), (2, vprices), (3, .pointer (some ⟨g3, 0, none⟩)), (19, .bool ((!(zbl p l)) || (decide (10 < (prices.length : Int)))))]) (fun z => [.row g3 24 [.int .i64 p.Bidder, .int .i64 p.Budget, vp_2], .fr F1]) (fun z => True) ?_ ?_
  · refine T.region ?_; refine TL.y (Yv.aj 0 rfl rfl rfl rfl) ?_; refine TL.run 1 rfl ?_; refine TL.e (Ew.ai rfl rfl rfl (fun w hw => zet _ w (hw.fr (i := 1) rfl) p vp_2 cp_2 hp_2 l vl hl)) ?_; rintro _ _ ⟨rfl, rfl⟩; refine TL.run 2 rfl ?_; refine TL.gs rfl rfl rfl (fun h1 => ?_) (fun h1 => ?_)
    · refine TL.run 4 rfl ?_; refine TL.nil ?_; exact K.ad () trivial (.c (.c (.c (.b (zak h1).symm .nil)))) (List.Sublist.refl _)
    · refine TL.run 1 rfl ?_; refine TL.y (Yv.am rfl rfl hprices (List.length_map _)) ?_; have hm17 : prices.length ≤ 9223372036854775807 := (List.length_map _) ▸ hprices.max; refine TL.run 2 rfl ?_; refine TL.nil ?_; exact K.ad () trivial (.c (.c (.c (.b (or_f h1) .nil)))) (List.Sublist.refl _)
  · rintro _ _; have hm17 : prices.length ≤ 9223372036854775807 := (List.length_map _) ▸ hprices.max; refine T.cond rfl (fun h2 => ?_) (fun h2 => ?_)
    · replace hk := zaa hk h2; refine T.seq ?_; have hq := zac hk; clear hk; obtain ⟨r20, hr20, hk⟩ := hq; (try dsimp only at hk); refine T.region ?_; refine TL.e (Ew.ai rfl rfl rfl (fun w hw => zc1 _ w (hw.fr (i := 1) rfl)  fuel r20 hr20)) ?_; rintro _ _ ⟨rfl, rfl⟩; refine TL.run 1 rfl ?_; refine TL.ns (T.ret (K.a ?_)); obtain rfl := Option.some.inj hk; exact K.ak rfl rfl (fun w' hw => ⟨rfl, hw.isBelow⟩)
    · have p2 := h2; (try simp only [nfB] at p2); replace hk := zab hk h2; refine T.skip (K.seq (T.seq ?_)); have hq := zac hk; clear hk; obtain ⟨r25, hr25, hk⟩ := hq; (try dsimp only at hk); refine T.region ?_; refine TL.y (Yv.aj 0 rfl rfl rfl rfl) ?_; refine TL.run 2 rfl ?_; refine TL.e (Ew.ao 1 rfl rfl rfl rfl (fun w hw hF => zb1 _ w hF p vp_2 cp_2 hp_2 l vl hl prices vprices hprices fuel r25 hr25)) ?_; rintro _ _ ⟨v25_0_0, F2, le1_2, hf25_0_0, rfl, rfl⟩; haveI := hf25_0_0.oneC; refine TL.run 5 rfl ?_; refine TL.ns (T.seq ?_); have hq := zac hk; clear hk; obtain ⟨r32, hr32, hk⟩ := hq; (try dsimp only at hk); refine T.region ?_; refine TL.y (Yv.aj 0 rfl rfl rfl rfl) ?_; refine TL.run 2 rfl ?_; refine TL.e (Ew.ao 1 rfl rfl rfl rfl (fun w hw hF => zdL _ w hF p vp_2 cp_2 (SlD.mono (rep := R_List_Int.rep) (fun _ _ _ _ => R_List_Int.mono) hp_2 le1_2) l vl (SlC.mono hl le1_2) prices vprices (SlC.mono hprices le1_2) fuel r32 hr32)) ?_; rintro _ _ ⟨v32_0_0, F3, le2_3, hf32_0_0, rfl, rfl⟩; have le1_3 := le1_2.trans le2_3; haveI := hf32_0_0.oneC; refine TL.run 5 rfl ?_; refine TL.ns (T.seq ?_); have hq := zac hk; clear hk; obtain ⟨r37, hr37, hk⟩ := hq; have hq := zac hk; clear hk; obtain ⟨r40, hr40, hk⟩ := hq; (try dsimp only at hk); have hq := zad hk; clear hk; obtain ⟨k4, hk4, hk⟩ := hq; (try dsimp only at hk); refine T.af (ι := Bool) (fun z => [(6, .bool z)]) (fun z => [.fr F3]) (fun z => k4 z = some r) ?_ ?_
      · refine T.ax (.still 0 (.still 1 (.still 3 (.still 4 (.eff 2 (.eff 5 (.still 6 (.still 7 (.still 8 (.still 9 (.eff 10 (.still 11 (.still 12 (.still 13 (.still 14 (.still 15 (.still 16 (.still 17 (.eff 18 (.still 19 (.still 20 .done))))))))))))))))))))) _ (by kernel_rfl) (List.Sublist.refl _) ?_; refine TS.y rfl (Yv.aj 0 rfl rfl rfl rfl) ?_; refine TS.run 1 rfl ?_; refine TS.y rfl (Yv.aj 0 rfl rfl rfl rfl) ?_; refine TS.run 1 rfl ?_; refine TS.eff ?_; refine TSo.ay rfl (Wt.none rfl) rfl rfl (Ew.ai rfl rfl rfl (fun w hw => zbs _ w (hw.fr (i := 1) rfl) p vp_2 cp_2 (SlD.mono (rep := R_List_Int.rep) (fun _ _ _ _ => R_List_Int.mono) hp_2 le1_3) l vl (SlC.mono hl le1_3) r37 hr37)) ?_; rintro _ _ ⟨rfl, rfl⟩; refine ⟨(fun w hw => hw.sub Sx), ?_⟩; refine TS.eff ?_; refine TSo.ay rfl (Wt.none rfl) rfl rfl (Ew.ai rfl rfl rfl (fun w hw => zcN _ w (hw.fr (i := 1) rfl) p vp_2 cp_2 (SlD.mono (rep := R_List_Int.rep) (fun _ _ _ _ => R_List_Int.mono) hp_2 le1_3) l vl (SlC.mono hl le1_3) r40 hr40)) ?_; rintro _ _ ⟨rfl, rfl⟩; refine ⟨(fun w hw => hw.sub Sx), ?_⟩; refine TS.y rfl (Yv.ce (by kernel_rfl) rfl rfl rfl) ?_; refine TS.run 1 rfl ?_; refine TS.gs rfl rfl rfl rfl (fun h5 => ?_) (fun h5 => ?_)
        · replace hk := zaa hk h5; refine TS.run 2 rfl ?_; refine TS.eff ?_; refine TSo.ay rfl (Wt.some rfl rfl rfl rfl) rfl rfl (Ew.ai rfl rfl rfl (fun w hw => zcb _ w (hw.fr (i := 1) rfl) r25.1 v25_0_0 (SlC.mono hf25_0_0 le2_3) r32.1 v32_0_0 hf32_0_0)) ?_; rintro _ _ ⟨rfl, rfl⟩; refine ⟨(fun w hw => hw.sub Sx), ?_⟩; refine TS.run 2 rfl ?_; refine TS.gs rfl rfl rfl rfl (fun h6 => ?_) (fun h6 => ?_)
          · replace hk := zaa hk h6; refine TS.run 5 rfl ?_; refine TS.eff ?_; refine TSo.gs rfl rfl rfl rfl (fun h7 => ?_) (fun h7 => ?_)
            · have p7 := of_decide_eq_true h7; replace hk := zaa hk h7; have hq := zac hk; clear hk; obtain ⟨r53, hr53, hk⟩ := hq; refine TSo.ay rfl (Wt.some rfl rfl rfl rfl) rfl rfl (Ew.ai rfl rfl rfl (fun w hw => zc1 _ w (hw.fr (i := 1) rfl)  fuel r53 hr53)) ?_; rintro _ _ ⟨rfl, rfl⟩; refine ⟨(fun w hw => hw.sub Sx), ?_⟩; refine TS.run 2 rfl ?_; refine TS.done ?_; refine K.pick [1] rfl (by decide) ?_; exact K.ad r53 hk (.c .nil) (List.Sublist.refl _)
            · have p7 := of_decide_eq_false h7; replace hk := zab hk h7; refine TSo.off rfl (Wt.not rfl rfl rfl rfl) rfl rfl ?_; refine TS.run 2 rfl ?_; refine TS.done ?_; refine K.pick [1] rfl (by decide) ?_; exact K.ad false hk (.c .nil) (List.Sublist.refl _)
          · replace hk := zab hk h6; refine TS.run 5 rfl ?_; refine TS.eff ?_; refine TSo.off rfl (Wt.not rfl rfl rfl rfl) rfl rfl ?_; refine TS.run 2 rfl ?_; refine TS.done ?_; refine K.pick [1] rfl (by decide) ?_; exact K.ad false hk (.c .nil) (List.Sublist.refl _)
        · replace hk := zab hk h5; refine TS.run 2 rfl ?_; refine TS.eff ?_; refine TSo.off rfl (Wt.not rfl rfl rfl rfl) rfl rfl ?_; refine TS.run 7 rfl ?_; refine TS.eff ?_; refine TSo.off rfl (Wt.not rfl rfl rfl rfl) rfl rfl ?_; refine TS.run 2 rfl ?_; refine TS.done ?_; refine K.pick [1] rfl (by decide) ?_; exact K.ad false hk (.c .nil) (List.Sublist.refl _)
      · rintro x_3 hk; rw [← hk4] at hk; (try dsimp only at hk); refine T.ret ?_; obtain rfl := Option.some.inj hk; exact K.ak rfl rfl (fun w' hw => ⟨rfl, hw.isBelow⟩)
section
variable {σ ρ α : Type}
theorem zdx {f : Nat → (Unit → Bool) → Unit → Bool} {k : Unit → Bool} {n : Nat} (q : Nat → Bool) (hf : ∀ i next, i < n → f i next () = (q i && next ())) : zai f k n 0 () = ((List.range n).all q && k ()) := by
  have key : ∀ m i, i + m = n → zai f k m i () = ((List.range' i m).all q && k ()) := by
    intro m
    induction m with
    | zero => intro i _; simp [zai]
    | succ m ih =>
      intro i e
      show f i (zai f k m (i + 1)) () = _
      rw [hf i _ (by omega), ih (i + 1) (by omega), List.range'_succ, List.all_cons, Bool.and_assoc]
  rw [key n 0 (by omega), List.range_eq_range']
theorem zc8 {x : Int} (h : -9223372036854775808 ≤ x ∧ x ≤ 9223372036854775807) : wI x = x := IntWalk.i64_in _ h
end
theorem zdD {σ τ ρ ρ' : Type} {f : Nat → (σ → ρ) → σ → ρ} {k : σ → ρ} {g : Nat → (τ → ρ') → τ → ρ'} {k' : τ → ρ'} {n : Nat} (R : Nat → σ → τ → Prop) (post : ρ → ρ' → Prop) (hk : ∀ s t, R n s t → post (k s) (k' t)) (hf : ∀ i s t next next', i < n → R i s t → (∀ s t, R (i + 1) s t → post (next s) (next' t)) → post (f i next s) (g i next' t)) : ∀ m i s t, i + m = n → R i s t → post (zai f k m i s) (zai g k' m i t)
  | 0, i, s, t, h, hR => hk s t (by rw [← h]; exact hR)
  | m + 1, i, s, t, h, hR => hf i s t _ _ (by omega) hR fun s t hR => zdD R post hk hf m (i + 1) s t (by omega) hR
theorem zcd {σ τ ρ ρ' : Type} {f : Nat → (σ → ρ) → σ → ρ} {k : σ → ρ} {g : Nat → (τ → ρ') → τ → ρ'} {k' : τ → ρ'} {n : Nat} {s : σ} {t : τ} (R : Nat → σ → τ → Prop) (post : ρ → ρ' → Prop) (h0 : R 0 s t) (hk : ∀ s t, R n s t → post (k s) (k' t)) (hf : ∀ i s t next next', i < n → R i s t → (∀ s t, R (i + 1) s t → post (next s) (next' t)) → post (f i next s) (g i next' t)) : post (zai f k (n - 0) 0 s) (zai g k' (n - 0) 0 t) := zdD R post hk hf _ _ _ _ (by omega) h0
theorem zfO (a b : Int) : zag a b = if a < b then -1 else if b < a then 1 else 0 := by
  unfold zag zaT; rw [decide_eq_false (show ¬ ¬ a = a by simp), cond_false, decide_eq_false (show ¬ ¬ b = b by simp), cond_false]; by_cases h : a < b
  · rw [decide_eq_true h, cond_true, if_pos h]
  · rw [decide_eq_false h, cond_false, if_neg h]; by_cases h2 : b < a
    · rw [decide_eq_true h2, cond_true, if_pos h2]
    · rw [decide_eq_false h2, cond_false, if_neg h2]
theorem zf2 (a b : Int) : zbp [a, b] = if a = 0 then b else a := by
  show (bif decide (¬ a = 0) then a else bif decide (¬ b = 0) then b else 0) = _
  by_cases h : a = 0
  · rw [decide_eq_false (by simp [h]), cond_false, if_pos h]; by_cases h2 : b = 0
    · rw [decide_eq_false (by simp [h2]), cond_false, h2]
    · rw [decide_eq_true h2, cond_true]
  · rw [decide_eq_true h, cond_true, if_neg h]
theorem zgg (q p : GProduct) : decide (0 ≤ zav q p) = (decide (p.Area < q.Area) || (decide (p.Area = q.Area) && decide (p.Category ≤ q.Category))) := by
  unfold zav; rw [zf2, zfO, zfO]; rw [Bool.eq_iff_iff]; simp only [decide_eq_true_eq, Bool.or_eq_true, Bool.and_eq_true]
  repeat' split
  all_goals omega
def okR (p : GProduct) : Bool := !((((((((((decide (p.Area < 0)) || (decide (63 < p.Area))) || (decide (p.Category < 1))) || (decide (2 < p.Category))) || (decide (p.Supply < 1))) || (decide (12 < p.Supply))) || (decide (p.Units < 1))) || (decide (100000 < p.Units))) || (decide (p.Reserve < 0))) || (decide (549755813888 < p.Reserve)))
theorem zcC {p : GProduct} : okR p = true ↔ (0 ≤ p.Area ∧ p.Area ≤ 63 ∧ 1 ≤ p.Category ∧ p.Category ≤ 2 ∧ 1 ≤ p.Supply ∧ p.Supply ≤ 12 ∧ 1 ≤ p.Units ∧ p.Units ≤ 100000 ∧ 0 ≤ p.Reserve ∧ p.Reserve ≤ 549755813888) := by
  unfold okR; simp only [Bool.not_eq_true', Bool.or_eq_false_iff, decide_eq_false_iff_not]; omega
structure InvP (l : List GProduct) (i : Nat) (v : Vec 64 Int) : Prop where
  zero : ∀ a : Nat, a < 64 → (0 < i → (nth l (i - 1)).Area < (a : Int)) → v.get a = 0
  last : 0 < i → okR (nth l (i - 1)) = true ∧ ((nth l (i - 1)).Category = 1 → v.get (nth l (i - 1)).Area.toNat = (nth l (i - 1)).Supply)
def okN (q p : GProduct) : Bool := !((decide (p.Area < q.Area)) || ((decide (p.Area = q.Area)) && ((decide (p.Category ≤ q.Category)) || (decide (12 < wI (p.Supply + q.Supply))))))
theorem zeF {l : List GProduct} {i : Nat} {v : Vec 64 Int} (h : InvP l i v) :
    ∃ r, zaV (nth l i) v = some r ∧ ((okR (nth l i) = true ∧ (0 < i → okN (nth l (i - 1)) (nth l i) = true) ∧ r.1 = true ∧ (0 < i → decide (0 ≤ zav (nth l (i - 1)) (nth l i)) = false) ∧ InvP l (i + 1) r.2) ∨ ((okR (nth l i) = false ∨ 0 < i ∧ okN (nth l (i - 1)) (nth l i) = false) ∧ (r.1 = false ∨ 0 < i ∧ decide (0 ≤ zav (nth l (i - 1)) (nth l i)) = true))) := by
  obtain ⟨hz, hl⟩ := h; generalize nth l (i - 1) = q at *; generalize hp : nth l i = p; unfold zaV zao; by_cases h1 : 0 ≤ p.Area ∧ p.Area ≤ 63 ∧ 1 ≤ p.Category ∧ p.Category ≤ 2 ∧ 1 ≤ p.Supply ∧ p.Supply ≤ 12
  · obtain ⟨a1, a2, a3, a4, a5, a6⟩ := h1; rw [decide_eq_true a1, decide_eq_true a2, decide_eq_true a3, decide_eq_true a4, decide_eq_true a5, decide_eq_true a6]; simp only [Bool.and_self, Bool.not_true, Bool.or_self, cond_false]; (have ha : p.Area.toNat < 64 := by omega); rw [zbc (by omega), Vec.get_put ha, if_pos rfl]; refine ⟨_, rfl, ?_⟩; dsimp only; rw [zgg]
    -- the sum of the area
    have hsum : (0 < i → okR q = true ∧ q.Area ≤ p.Area ∧ (q.Area = p.Area → q.Category < p.Category)) → wI (v.get p.Area.toNat + p.Supply) = if 0 < i ∧ q.Area = p.Area then q.Supply + p.Supply else p.Supply := by
      intro hh; by_cases hi : 0 < i ∧ q.Area = p.Area
      · obtain ⟨b1, b2, b3⟩ := hh hi.1; rw [zcC] at b1; have b4 := (hl hi.1).2 (by have := b3 hi.2; omega); rw [if_pos hi, ← hi.2, b4, zc8 (by omega)]
      · rw [if_neg hi, hz p.Area.toNat ha (fun hi0 => by have := (hh hi0).2.1; have : q.Area ≠ p.Area := fun e => hi ⟨hi0, e⟩; omega), zc8 (by omega)]; omega
    by_cases hgood : okR p = true ∧ (0 < i → okN q p = true)
    · obtain ⟨g1, g2⟩ := hgood
      have hord : 0 < i → okR q = true ∧ q.Area ≤ p.Area ∧ (q.Area = p.Area → q.Category < p.Category ∧ p.Supply + q.Supply ≤ 12) := by
        intro hi; have := g2 hi; have hq := (hl hi).1; unfold okN at this; simp only [Bool.not_eq_true', Bool.or_eq_false_iff, Bool.and_eq_false_iff, decide_eq_false_iff_not] at this; rw [zcC] at hq; rw [zc8 (by omega)] at this; refine ⟨(hl hi).1, by omega, fun e => ?_⟩; omega
      have hs := hsum fun hi => ⟨(hord hi).1, (hord hi).2.1, fun e => ((hord hi).2.2 e).1⟩; refine .inl ⟨g1, g2, ?_, fun hi => ?_, ⟨fun a ha2 h0 => ?_, fun _ => ?_⟩⟩
      · rw [hs]; rw [zcC] at g1; simp only [Bool.and_eq_true, decide_eq_true_eq]
        split
        · rename_i hc; have := (hord hc.1).2.2 hc.2; omega
        · omega
      · have := hord hi; simp only [Bool.or_eq_false_iff, Bool.and_eq_false_iff, decide_eq_false_iff_not]; omega
      · have h9 := h0 (by omega); rw [show i + 1 - 1 = i by omega, hp] at h9; rw [Vec.get_put ha, if_neg (by omega)]; (exact hz a ha2 fun hi => by have := (hord hi).2.1; omega)
      · rw [show i + 1 - 1 = i by omega, hp]; refine ⟨g1, fun hc => ?_⟩; rw [Vec.get_put ha, if_pos rfl, hs, if_neg]; rintro ⟨hi, he⟩; have := (hord hi).2.2 he; have hq := (hord hi).1; rw [zcC] at hq; omega
    · right
      have hbad : okR p = false ∨ 0 < i ∧ okN q p = false := by
        cases h3 : okR p with
        | false => exact .inl rfl
        | true =>
          refine .inr ?_; by_cases hi : 0 < i
          · refine ⟨hi, ?_⟩
            cases h4 : okN q p with
            | false => rfl
            | true => exact absurd ⟨h3, fun _ => h4⟩ hgood
          · exact absurd ⟨h3, fun h => absurd h hi⟩ hgood
      refine ⟨hbad, ?_⟩; by_cases hcmp : 0 < i ∧ ((decide (p.Area < q.Area)) || ((decide (p.Area = q.Area)) && (decide (p.Category ≤ q.Category)))) = true
      · exact .inr hcmp
      · left
        have hord : 0 < i → okR q = true ∧ q.Area ≤ p.Area ∧ (q.Area = p.Area → q.Category < p.Category) := by
          intro hi; have h5 : ¬ ((decide (p.Area < q.Area)) || ((decide (p.Area = q.Area)) && (decide (p.Category ≤ q.Category)))) = true := fun h => hcmp ⟨hi, h⟩; simp only [Bool.or_eq_true, Bool.and_eq_true, decide_eq_true_eq] at h5; exact ⟨(hl hi).1, by omega, fun e => by omega⟩
        rw [hsum hord]; rcases hbad with hb | ⟨hi, hb⟩
        · rw [← Bool.not_eq_true, zcC] at hb; rw [← Bool.not_eq_true]; simp only [Bool.and_eq_true, decide_eq_true_eq]; omega
        · have h6 := hord hi; have hq := h6.1; rw [zcC] at hq; unfold okN at hb; rw [zc8 (by omega)] at hb; simp only [Bool.not_eq_false', Bool.or_eq_true, Bool.and_eq_true, decide_eq_true_eq] at hb; rw [← Bool.not_eq_true]; simp only [Bool.and_eq_true, decide_eq_true_eq]; (have he : q.Area = p.Area := by omega); rw [if_pos ⟨hi, he⟩]; have := h6.2.2 he; omega
  · refine ⟨(false, v), ?_, .inr ⟨.inl ?_, .inl rfl⟩⟩
    · rw [show ((((!(decide (0 ≤ p.Area) && decide (p.Area ≤ 63))) || (!(decide (1 ≤ p.Category) && decide (p.Category ≤ 2)))) || (!(decide (1 ≤ p.Supply) && decide (p.Supply ≤ 12))))) = true from ?_, cond_true]; rw [← Bool.not_eq_false]; simp only [Bool.or_eq_false_iff, Bool.not_eq_false', Bool.and_eq_true, decide_eq_true_eq]; omega
    · rw [← Bool.not_eq_true, zcC]; omega
theorem pvalid (l : List GProduct) : za8 l = some (zay l) := by
  unfold za8 zal zay; simp only [zax]
  have h := zcd (n := l.length) (s := Vec.fill 64 (0 : Int)) (t := ())
    (f := fun (i_5 : Nat) (next4 : Vec 64 Int → Option (Bool × Vec 64 Int)) (c_3 : Vec 64 Int) =>
      (zaV (nth l i_5) c_3).bind fun r18 =>
      (bif ((!r18.1) || ((decide (0 < (i_5 : Int))) && (decide (0 ≤ (zav (nth l (((i_5 : Int) - 1).toNat)) (nth l i_5)))))) then
        some (false, r18.2)
        else
        next4 r18.2)) (k := fun c_3 => some (true, c_3))
    (g := fun (i_3 : Nat) (next2 : Unit → Bool) (_ : Unit) =>
      (bif ((((((((((decide ((nth l i_3).Area < 0)) || (decide (63 < (nth l i_3).Area))) || (decide ((nth l i_3).Category < 1))) || (decide (2 < (nth l i_3).Category))) || (decide ((nth l i_3).Supply < 1))) || (decide (12 < (nth l i_3).Supply))) || (decide ((nth l i_3).Units < 1))) || (decide (100000 < (nth l i_3).Units))) || (decide ((nth l i_3).Reserve < 0))) || (decide (549755813888 < (nth l i_3).Reserve))) then
        false
        else
        (bif decide (0 < (i_3 : Int)) then
          (bif ((decide ((nth l i_3).Area < (nth l (((i_3 : Int) - 1).toNat)).Area)) || ((decide ((nth l i_3).Area = (nth l (((i_3 : Int) - 1).toNat)).Area)) && ((decide ((nth l i_3).Category ≤ (nth l (((i_3 : Int) - 1).toNat)).Category)) || (decide (12 < wI (((nth l i_3).Supply) + ((nth l (((i_3 : Int) - 1).toNat)).Supply))))))) then
            false
            else
            next2 ())
          else
          next2 ()))) (k' := fun _ => true)
    (fun i v _ => InvP l i v) (fun x y => x.map (·.1) = some y)
    ⟨fun a ha _ => Vec.get_fill ha, fun h => absurd h (by omega)⟩ (fun _ _ _ => rfl) (fun i v t next next' hi hR hn => by
      obtain ⟨r, hr, hc⟩ := zeF hR; (try dsimp only); rw [hr, Option.bind_some, show ((i : Int) - 1).toNat = i - 1 by omega]; (have e1 : decide (0 < (i : Int)) = decide (0 < i) := by rw [Bool.eq_iff_iff]; simp); rw [e1]; rcases hc with ⟨h1, h2, h3, h4, h5⟩ | ⟨h1, h2⟩
      · unfold okR at h1; rw [Bool.not_eq_true'] at h1; rw [h1, cond_false, h3, Bool.not_true, Bool.false_or]; by_cases hi0 : 0 < i
        · have h6 := h2 hi0; unfold okN at h6; rw [Bool.not_eq_true'] at h6; rw [h6, h4 hi0, Bool.and_false, cond_false, cond_false, decide_eq_true hi0, cond_true]; exact hn _ _ h5
        · rw [decide_eq_false hi0, Bool.false_and, cond_false, cond_false]; exact hn _ _ h5
      · have e2 : ((!r.1) || ((decide (0 < i)) && (decide (0 ≤ (zav (nth l (i - 1)) (nth l i)))))) = true := by
          rcases h2 with h2 | ⟨h2, h3⟩
          · rw [h2]; rfl
          · rw [h3, decide_eq_true h2]; simp
        rw [e2, cond_true]; rcases h1 with h1 | ⟨h0, h1⟩
        · unfold okR at h1; rw [Bool.not_eq_false'] at h1; rw [h1, cond_true]; rfl
        · unfold okN at h1; rw [Bool.not_eq_false'] at h1; rw [h1, decide_eq_true h0]
          cases (decide ((nth l i).Area < 0) || decide (63 < (nth l i).Area) || decide ((nth l i).Category < 1) || decide (2 < (nth l i).Category) || decide ((nth l i).Supply < 1) || decide (12 < (nth l i).Supply) || decide ((nth l i).Units < 1) || decide (100000 < (nth l i).Units) || decide ((nth l i).Reserve < 0) || decide (549755813888 < (nth l i).Reserve)) <;> rfl)
  generalize zai _ _ (l.length - 0) 0 (Vec.fill 64 (0 : Int)) = x at h ⊢; generalize zai _ _ (l.length - 0) 0 () = y at h ⊢
  cases x with
  | none => cases h
  | some x => exact h
theorem all_iff {l : List Int} {m : Int} : zaF l m = true ↔ ∀ i, i < l.length → 0 ≤ nth l i ∧ nth l i ≤ m := by
  unfold zaF; simp only [zax]
  rw [show l.length - 0 = l.length from rfl, zdx (fun i => decide (0 ≤ nth l i) && decide (nth l i ≤ m)) (fun i next hi => by
    rw [Bool.eq_iff_iff]
    cases h : ((decide ((nth l i) < 0)) || (decide (m < (nth l i)))) with
    | true =>
      simp only [Bool.or_eq_true, decide_eq_true_eq] at h; simp only [cond_true, Bool.and_eq_true, decide_eq_true_eq]; constructor
      · intro h2; cases h2
      · rintro ⟨h2, _⟩; omega
    | false =>
      simp only [Bool.or_eq_false_iff, decide_eq_false_iff_not] at h; simp only [cond_false, Bool.and_eq_true, decide_eq_true_eq]; constructor
      · intro h2; exact ⟨by omega, h2⟩
      · rintro ⟨_, h2⟩; exact h2)]
  rw [Bool.and_eq_true, List.all_eq_true]; constructor
  · intro h i hi; have := h.1 i (List.mem_range.2 hi); simpa using this
  · intro h; exact ⟨fun i hi => by simpa using h i (List.mem_range.1 hi), rfl⟩
theorem zeH (l : List Int) (m : Int) : zar l m = zaF l m := by
  unfold zar zap zas zaF; simp only [zax]
  have h := zcd (n := l.length) (s := ()) (t := ())
    (f := fun (i_3 : Nat) (next2 : Unit → Int) (_ : Unit) => (bif (zaW (nth l i_3) m) then (i_3 : Int) else next2 ())) (k := fun _ => -1)
    (g := fun (i_3 : Nat) (next2 : Unit → Bool) (_ : Unit) => (bif ((decide ((nth l i_3) < 0)) || (decide (m < (nth l i_3)))) then false else next2 ())) (k' := fun _ => true)
    (fun _ _ _ => True) (fun x y => (!decide (0 ≤ x)) = y) trivial (fun _ _ _ => rfl) (fun i s t next next' hi _ hn => by
      unfold zaW
      cases h : ((decide ((nth l i) < 0)) || (decide (m < (nth l i)))) with
      | true => rw [cond_true, cond_true, decide_eq_true (by omega)]; rfl
      | false => rw [cond_false, cond_false]; exact hn () () trivial)
  exact h
theorem zcI {σ ρ : Type} (f : Nat → (σ → ρ) → σ → ρ) (k : σ → ρ) (m i : Nat) (s : σ) : zai f k (m + 1) i s = f i (zai f k m (i + 1)) s := rfl
structure PlanOk (p : GBidderPlan) (l : List GProduct) : Prop where
  prods : zay l = true
  len : p.Values.length = l.length
  bid : 0 ≤ p.Bidder ∧ p.Bidder ≤ 31
  budget : 0 ≤ p.Budget ∧ p.Budget ≤ 1125899906842624
  vals : ∀ i, i < p.Values.length → (nth p.Values i).length ≤ 12 ∧ (∀ k, k < (nth p.Values i).length → 0 ≤ nth (nth p.Values i) k ∧ nth (nth p.Values i) k ≤ 549755813888) ∧ ∀ k, 0 < k → k < (nth p.Values i).length → nth (nth p.Values i) k ≤ nth (nth p.Values i) (k - 1)
def zen (v : List Int) (r : Option Bool) : Option Bool := zai (fun (k : Nat) (next : Unit → Option Bool) (_ : Unit) => grd (0 ≤ ((k : Int) - 1) ∧ ((k : Int) - 1) < (v.length : Int)) <| (bif decide ((nth v (((k : Int) - 1).toNat)) < (nth v k)) then some false else next ())) (fun _ => r) (v.length - 1) 1 ()
def zfC (v : List Int) (r : Option Bool) : Option Bool := zai (fun (i : Nat) (next : Unit → Option Bool) (_ : Unit) => (bif ((decide (0 < (i : Int))) && (decide ((nth v (((i : Int) - 1).toNat)) < (nth v i)))) then some false else next ())) (fun _ => r) (v.length - 0) 0 ()
theorem zfG (v : List Int) (r : Option Bool) : zfC v r = zen v r := by
  unfold zfC zen
  cases hv : v with
  | nil => rfl
  | cons a t =>
    rw [← hv]; (have hl : v.length = t.length + 1 := by rw [hv]; rfl); rw [show v.length - 0 = (v.length - 1) + 1 by omega]; rw [zcI]; (try dsimp only); rw [decide_eq_false (show ¬ 0 < ((0 : Nat) : Int) by omega), Bool.false_and, cond_false]; refine zdD (n := v.length) (fun i _ _ => 0 < i) (fun x y => x = y) (fun _ _ _ => rfl) (fun i s t next next' hi h0 hn => ?_) _ _ _ _ (by omega) (by omega); (try dsimp only); rw [zbc (by omega), decide_eq_true (show 0 < (i : Int) by omega), Bool.true_and, hn () () (by omega)]
theorem zeE (v : List Int) (r : Option Bool) : ((∀ k, 0 < k → k < v.length → nth v k ≤ nth v (k - 1)) ∧ zen v r = r) ∨ zen v r = some false := by
  unfold zen
  have key : ∀ m i, i + m = v.length → 0 < i → ((∀ k, i ≤ k → k < v.length → nth v k ≤ nth v (k - 1)) ∧ zai (fun (k : Nat) (next : Unit → Option Bool) (_ : Unit) => grd (0 ≤ ((k : Int) - 1) ∧ ((k : Int) - 1) < (v.length : Int)) <| (bif decide ((nth v (((k : Int) - 1).toNat)) < (nth v k)) then some false else next ())) (fun _ => r) m i () = r) ∨ zai (fun (k : Nat) (next : Unit → Option Bool) (_ : Unit) => grd (0 ≤ ((k : Int) - 1) ∧ ((k : Int) - 1) < (v.length : Int)) <| (bif decide ((nth v (((k : Int) - 1).toNat)) < (nth v k)) then some false else next ())) (fun _ => r) m i () = some false := by
    intro m
    induction m with
    | zero => intro i hi h0; exact .inl ⟨fun k hk hk2 => by omega, rfl⟩
    | succ m ih =>
      intro i hi h0; have h := ih (i + 1) (by omega) (by omega)
      show (_ ∧ grd _ _ = r) ∨ grd _ _ = some false
      rw [zbc (by omega), show ((i : Int) - 1).toNat = i - 1 by omega]; by_cases hd : nth v (i - 1) < nth v i
      · rw [decide_eq_true hd]; exact .inr rfl
      · rw [decide_eq_false hd, cond_false]; rcases h with ⟨h1, h2⟩ | h2
        · refine .inl ⟨fun k hk hk2 => ?_, h2⟩; by_cases e : k = i
          · subst e; omega
          · exact h1 k (by omega) hk2
        · exact .inr h2
  by_cases hl : v.length = 0
  · rw [show v.length - 1 = 0 by omega]; exact .inl ⟨fun k h1 h2 => by omega, rfl⟩
  · rcases key (v.length - 1) 1 (by omega) (by omega) with ⟨h1, h2⟩ | h2
    · exact .inl ⟨fun k h3 h4 => h1 k (by omega) h4, h2⟩
    · exact .inr h2
def zex (p : GBidderPlan) (m i : Nat) : Option Bool := zai (fun (i : Nat) (next : Unit → Option Bool) (_ : Unit) => (bif ((decide (12 < ((nth p.Values i).length : Int))) || (!(zaF (nth p.Values i) 549755813888))) then some false else zen (nth p.Values i) (next ()))) (fun _ => some true) m i ()
theorem zdX (p : GBidderPlan) : ∀ m i, i + m = p.Values.length → ∃ b, zex p m i = some b ∧ (b = true → ∀ j, i ≤ j → j < p.Values.length → (nth p.Values j).length ≤ 12 ∧ (∀ k, k < (nth p.Values j).length → 0 ≤ nth (nth p.Values j) k ∧ nth (nth p.Values j) k ≤ 549755813888) ∧ ∀ k, 0 < k → k < (nth p.Values j).length → nth (nth p.Values j) k ≤ nth (nth p.Values j) (k - 1))
  | 0, i, h => ⟨true, rfl, fun _ j h1 h2 => by omega⟩
  | m + 1, i, h => by
    obtain ⟨b, hb, hb2⟩ := zdX p m (i + 1) (by omega)
    show ∃ b, (bif _ then some false else zen (nth p.Values i) (zex p m (i + 1))) = some b ∧ _
    rw [hb]
    cases hc : ((decide (12 < ((nth p.Values i).length : Int))) || (!(zaF (nth p.Values i) 549755813888))) with
    | true => exact ⟨false, rfl, fun e => by cases e⟩
    | false =>
      rw [cond_false]; simp only [Bool.or_eq_false_iff, decide_eq_false_iff_not, Bool.not_eq_false'] at hc; have hal := all_iff.1 hc.2; rcases zeE (nth p.Values i) (some b) with ⟨h1, h2⟩ | h2
      · rw [h2]; refine ⟨b, rfl, fun e j hj hj2 => ?_⟩; by_cases ej : j = i
        · subst ej; exact ⟨by omega, hal, h1⟩
        · exact hb2 e j (by omega) hj2
      · rw [h2]; exact ⟨false, rfl, fun e => by cases e⟩
theorem zdh (p : GBidderPlan) (l : List GProduct) : zaU p l = bif ((((((!(zay l)) || (decide (¬ (p.Values.length : Int) = (l.length : Int)))) || (decide (p.Bidder < 0))) || (decide (31 < p.Bidder))) || (decide (p.Budget < 0))) || (decide (1125899906842624 < p.Budget))) then some false else zex p p.Values.length 0 := by
  unfold zaU zex zen; simp only [zax]
  rfl
theorem zcL (p : GBidderPlan) (l : List GProduct) : ∃ b, zaU p l = some b ∧ (b = true → PlanOk p l) := by
  rw [zdh]; obtain ⟨b, hb, hb2⟩ := zdX p p.Values.length 0 (by omega); rw [hb]
  cases hc : ((((((!(zay l)) || (decide (¬ (p.Values.length : Int) = (l.length : Int)))) || (decide (p.Bidder < 0))) || (decide (31 < p.Bidder))) || (decide (p.Budget < 0))) || (decide (1125899906842624 < p.Budget))) with
  | true => exact ⟨false, rfl, fun e => by cases e⟩
  | false =>
    simp only [Bool.or_eq_false_iff, decide_eq_false_iff_not, Bool.not_eq_false'] at hc; exact ⟨b, rfl, fun e => ⟨hc.1.1.1.1.1, by omega, by omega, by omega, fun i hi => hb2 e i (by omega) hi⟩⟩
theorem zfD (p : GBidderPlan) : zai (fun (i_9 : Nat) (next8 : Unit → Option Bool) (_ : Unit) => (bif ((decide (12 < ((nth p.Values i_9).length : Int))) || (!(zar (nth p.Values i_9) 549755813888))) then some false else zfC (nth p.Values i_9) (next8 ()))) (fun _ => some true) (p.Values.length - 0) 0 () = zex p p.Values.length 0 := by
  unfold zex; refine zcd (n := p.Values.length) (fun _ _ _ => True) (fun x y => x = y) trivial (fun _ _ _ => rfl) (fun i s t next next' hi _ hn => ?_); (try dsimp only); rw [zeH, zfG, hn () () trivial]
theorem zc4 (p : GBidderPlan) (l : List GProduct) : zaD p l = zaU p l := by
  rw [zdh]; unfold zaD; rw [pvalid, Option.bind_some]; simp only [zax]; have h := zfD p; unfold zfC at h; generalize zai _ _ (p.Values.length - 0) 0 () = x at h ⊢; subst h; generalize zex p p.Values.length 0 = y; (have e1 : decide (32 ≤ p.Bidder) = decide (31 < p.Bidder) := by rw [Bool.eq_iff_iff]; simp; omega); rw [e1]
  cases zay l <;> cases decide (p.Bidder < 0) <;> cases decide (31 < p.Bidder) <;> cases decide (p.Budget < 0) <;> cases decide (1125899906842624 < p.Budget) <;> cases decide (¬ (p.Values.length : Int) = (l.length : Int)) <;> rfl
theorem zd5 (l : List GProduct) (prices : List Int) : zaq l prices = (decide ((prices.length : Int) = (l.length : Int)) && zaF prices 549755813888) := by
  unfold zaq; rw [zeH]
theorem zbB {α : Type} [Inhabited α] {d : List α} {i : Nat} {x : α} (h : i < d.length) : nth (d.set i x) i = x := by
  unfold nth; rw [List.getD_eq_getElem?_getD, List.getElem?_set_self h]; rfl
theorem zcK {α : Type} [Inhabited α] {d : List α} {i j : Nat} {x : α} (h : j ≠ i) : nth (d.set i x) j = nth d j := by
  unfold nth; rw [List.getD_eq_getElem?_getD, List.getD_eq_getElem?_getD, List.getElem?_set_ne (fun e => h e.symm)]
theorem zd4 {α : Type} [Inhabited α] {d : List α} {i : Nat} (h : i < d.length) : d.set i (nth d i) = d := by
  rw [za6 h]; exact List.set_getElem_self h
def redN (B pr : Int) : Nat → Int → Nat × Int
  | 0, c => (0, c)
  | n + 1, c => bif decide (B < c) then redN B pr n (c - pr) else (n + 1, c)
def redL (B : Int) (prices : List Int) : Nat → Int → List Int → List Int
  | 0, _, d => d
  | i + 1, c, d => redL B prices i (redN B (nth prices i) (nth d i).toNat c).2 (d.set i ((redN B (nth prices i) (nth d i).toNat c).1 : Int))
theorem zfU {B pr c : Int} {n : Nat} (h : c ≤ B) : redN B pr n c = (n, c) := by
  cases n with
  | zero => rfl
  | succ n => rw [redN, decide_eq_false (by omega), cond_false]
theorem zfp {B pr : Int} (hB : 0 ≤ B) (hp : 0 ≤ pr ∧ pr ≤ 549755813888) : ∀ (n : Nat) (c : Int), -549755813888 ≤ c → c ≤ 1125899906842624 → (redN B pr n c).1 ≤ n ∧ -549755813888 ≤ (redN B pr n c).2 ∧ (redN B pr n c).2 ≤ 1125899906842624
  | 0, c, h1, h2 => ⟨Nat.le_refl _, h1, h2⟩
  | n + 1, c, h1, h2 => by
    rw [redN]; by_cases h : B < c
    · rw [decide_eq_true h, cond_true]; have := zfp hB hp n (c - pr) (by omega) (by omega); omega
    · rw [decide_eq_false h, cond_false]; exact ⟨Nat.le_refl _, h1, h2⟩
theorem zfe {B : Int} {prices : List Int} : ∀ (i : Nat) (c : Int) (d : List Int), c ≤ B → i ≤ d.length → (∀ j, j < d.length → 0 ≤ nth d j) → redL B prices i c d = d
  | 0, c, d, _, _, _ => rfl
  | i + 1, c, d, h, hi, hd => by
    have h0 := hd i (by omega); rw [redL, zfU h]; rw [show (((nth d i).toNat : Nat) : Int) = nth d i by omega, zd4 (by omega)]; exact zfe i c d h (by omega) hd
structure DemOk (l : List GProduct) (d : List Int) : Prop where
  len : d.length = l.length
  bd : ∀ j, j < l.length → 0 ≤ nth d j ∧ nth d j ≤ (nth l j).Supply
theorem DemOk.set {l : List GProduct} {d : List Int} (h : DemOk l d) {i : Nat} {x : Int} (h0 : 0 ≤ x) (h1 : x ≤ nth d i) (hi : i < l.length) : DemOk l (d.set i x) := by
  refine ⟨by rw [List.length_set]; exact h.len, fun j hj => ?_⟩; by_cases e : j = i
  · subst e; rw [zbB (by rw [h.len]; exact hj)]; have := h.bd j hj; omega
  · rw [zcK e]; exact h.bd j hj
section
variable {B : Int} {prices : List Int} {l : List GProduct} {ρ : Type}
theorem zfM (hB : 0 ≤ B) (hp : ∀ j, j < l.length → 0 ≤ nth prices j ∧ nth prices j ≤ 549755813888) {i : Nat} (hi : i < l.length) (hs : (nth l i).Supply ≤ 12) (K : (Int × List Int) → Option ρ) : ∀ (n fuel : Nat) (c : Int) (d : List Int), DemOk l d → nth d i = (n : Int) → n < fuel → -549755813888 ≤ c → c ≤ 1125899906842624 →
    zaI (fun (next30 : (Int × List Int) → Option ρ) (s30 : Int × List Int) =>
            grd (0 ≤ (i : Int) ∧ (i : Int) < (s30.2.length : Int)) <|
            (bif ((decide (0 < (nth s30.2 i))) && (decide (B < s30.1))) then
              grd (0 ≤ (i : Int) ∧ (i : Int) < (s30.2.length : Int)) <|
              next30 (wI (s30.1 - (nth prices i)), (s30.2.set i (wI ((nth s30.2 i) - 1))))
              else
              K (s30.1, s30.2))) fuel (c, d) = K ((redN B (nth prices i) n c).2, d.set i ((redN B (nth prices i) n c).1 : Int))
  | n, 0, c, d, _, _, h, _, _ => by omega
  | 0, fuel + 1, c, d, hd, hn, _, h1, h2 => by
    show grd _ _ = _
    have hl := hd.len; dsimp only; rw [zbc (by omega), hn, decide_eq_false (by omega), Bool.false_and, cond_false]
    show K (c, d) = K (c, d.set i 0)
    rw [show (0 : Int) = nth d i by omega, zd4 (by omega)]
  | n + 1, fuel + 1, c, d, hd, hn, hf, h1, h2 => by
    show grd _ _ = _
    have hl := hd.len; have hb := hd.bd i hi; have hpi := hp i hi; dsimp only; rw [zbc (by omega), decide_eq_true (show 0 < nth d i by omega), Bool.true_and]; by_cases h : B < c
    · rw [decide_eq_true h, cond_true, zbc (by omega), zc8 (by omega), zc8 (by omega)]; have ih := zfM hB hp hi hs K n fuel (c - nth prices i) (d.set i (nth d i - 1)) (hd.set (by omega) (by omega) hi) (by rw [zbB (by omega)]; omega) (by omega) (by omega) (by omega); rw [ih, List.set_set, redN, decide_eq_true h, cond_true]
    · rw [decide_eq_false h, cond_false, redN, decide_eq_false h, cond_false]; dsimp only; rw [← hn, zd4 (by omega)]
theorem zfj (hB : 0 ≤ B) (hp : ∀ j, j < l.length → 0 ≤ nth prices j ∧ nth prices j ≤ 549755813888) (hs : ∀ j, j < l.length → (nth l j).Supply ≤ 12) {fuel : Nat} (hf : 12 < fuel) (k : Int × List Int → Option ρ) : ∀ (i : Nat) (c : Int) (d : List Int), i ≤ l.length → DemOk l d → -549755813888 ≤ c → c ≤ 1125899906842624 →
    ∃ c', zce (fun (i_26 : Nat) (next25 : (Int × List Int) → Option ρ) (s25 : Int × List Int) =>
          zaI (fun (next30 : (Int × List Int) → Option ρ) (s30 : Int × List Int) =>
            grd (0 ≤ (i_26 : Int) ∧ (i_26 : Int) < (s30.2.length : Int)) <|
            (bif ((decide (0 < (nth s30.2 i_26))) && (decide (B < s30.1))) then
              grd (0 ≤ (i_26 : Int) ∧ (i_26 : Int) < (s30.2.length : Int)) <|
              next30 (wI (s30.1 - (nth prices i_26)), (s30.2.set i_26 (wI ((nth s30.2 i_26) - 1))))
              else
              next25 (s30.1, s30.2))) fuel (s25.1, s25.2)) k i (c, d) = k (c', redL B prices i c d)
  | 0, c, d, _, _, _, _ => ⟨c, rfl⟩
  | i + 1, c, d, hi, hd, h1, h2 => by
    have hdi := hd.bd i (by omega); have hsi := hs i (by omega); have hb := zfp hB (hp i (by omega)) (nth d i).toNat c h1 h2; obtain ⟨c', hc⟩ := zfj hB hp hs hf k i (redN B (nth prices i) (nth d i).toNat c).2 (d.set i ((redN B (nth prices i) (nth d i).toNat c).1 : Int)) (by omega) (hd.set (by omega) (by omega) (by omega)) hb.2.1 hb.2.2; refine ⟨c', ?_⟩
    show zaI _ fuel (c, d) = _
    rw [zfM hB hp (by omega) hsi _ (nth d i).toNat fuel c d hd (by omega) (by omega) h1 h2]; exact hc
def totL (d : List Int) : Nat → Nat
  | 0 => 0
  | i + 1 => totL d i + (nth d i).toNat
theorem zeS {d : List Int} {x : Int} {i : Nat} : ∀ (m : Nat), m ≤ i → totL (d.set i x) m = totL d m
  | 0, _ => rfl
  | m + 1, h => by rw [totL, totL, zeS m (by omega), zcK (by omega)]
theorem zd3 (hB : 0 ≤ B) (hpl : prices.length = l.length) (hp : ∀ j, j < l.length → 0 ≤ nth prices j ∧ nth prices j ≤ 549755813888) (hs : ∀ j, j < l.length → (nth l j).Supply ≤ 12) (k : List Int → Option ρ) : ∀ (fuel i : Nat) (c : Int) (d : List Int), i ≤ l.length → l.length ≤ 1000 → DemOk l d → totL d i + i < fuel → -549755813888 ≤ c → c ≤ 1125899906842624 →
    zaI (fun (next21 : (Int × Int × List Int) → Option ρ) (s21 : Int × Int × List Int) =>
          (bif ((decide (B < s21.1)) && (decide (0 ≤ s21.2.1))) then
            grd (0 ≤ s21.2.1 ∧ s21.2.1 < (s21.2.2.length : Int)) <|
            (bif decide ((nth s21.2.2 s21.2.1.toNat) = 0) then
              next21 (s21.1, wI (s21.2.1 - 1), s21.2.2)
              else
              grd (0 ≤ s21.2.1 ∧ s21.2.1 < (prices.length : Int)) <|
              next21 (wI (s21.1 - (nth prices s21.2.1.toNat)), s21.2.1, (s21.2.2.set s21.2.1.toNat (wI ((nth s21.2.2 s21.2.1.toNat) - 1)))))
            else
            k s21.2.2)) fuel (c, (i : Int) - 1, d) = k (redL B prices i c d)
  | 0, i, c, d, _, _, _, h, _, _ => by omega
  | fuel + 1, i, c, d, hi, hn, hd, hf, h1, h2 => by
    have hl := hd.len
    show (bif _ then _ else _) = _
    dsimp only; by_cases h : B < c
    · rw [decide_eq_true h, Bool.true_and]
      cases i with
      | zero => rw [decide_eq_false (by omega), cond_false]; rfl
      | succ i =>
        have hdi := hd.bd i (by omega); have hsi := hs i (by omega); have hpi := hp i (by omega); rw [decide_eq_true (by omega), cond_true, zbc (by omega), show ((((i + 1 : Nat) : Int) - 1)).toNat = i by omega]; by_cases hz : nth d i = 0
        · rw [decide_eq_true hz, cond_true, zc8 (by omega)]; rw [show (((i + 1 : Nat) : Int) - 1 - 1) = (i : Int) - 1 by omega]; rw [zd3 hB hpl hp hs k fuel i c d (by omega) hn hd (by rw [totL] at hf; omega) h1 h2]; rw [redL, hz]
          show _ = k (redL B prices i c (d.set i 0))
          rw [← hz, zd4 (by omega)]
        · rw [decide_eq_false hz, cond_false, zbc (by omega), zc8 (by omega), zc8 (by omega)]
          rw [zd3 hB hpl hp hs k fuel (i + 1) (c - nth prices i) (d.set i (nth d i - 1)) hi hn (hd.set (by omega) (by omega) (by omega)) (by
            rw [totL] at hf ⊢; rw [zeS i (Nat.le_refl _), zbB (by omega)]
            omega) (by omega) (by omega)]
          rw [redL, redL, zbB (by omega), List.set_set]; obtain ⟨n, hn⟩ : ∃ n : Nat, nth d i = ((n + 1 : Nat) : Int) := ⟨(nth d i).toNat - 1, by omega⟩; rw [hn, show (((n + 1 : Nat) : Int) - 1).toNat = n by omega, show (((n + 1 : Nat) : Int)).toNat = n + 1 by omega]; rw [show redN B (nth prices i) (n + 1) c = redN B (nth prices i) n (c - nth prices i) by rw [redN, decide_eq_true h, cond_true]]
    · rw [decide_eq_false h, Bool.false_and, cond_false, zfe i c d (by omega) (by omega) (fun j hj => (hd.bd j (by omega)).1)]
end
end Go.Proofs.Ytlaafmiejkebgaa
