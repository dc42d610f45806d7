/- Yb Yc Cv Sc Lc Ga Gg Lq Pb Sd: shortened and put together by squeeze.py. -/
import Derived.Test.YtbpbhbkcahcdiaaGreatDoorQ07
set_option maxRecDepth 100000
set_option maxHeartbeats 4000000
set_option linter.unusedVariables false
set_option linter.unusedSectionVars false
set_option linter.unusedSimpArgs false
namespace Go.Proofs.YtbpbhbkcahcdiaaGreatDoor
open Go.RowKit
def zbb (r_ : GRules) : Option Bool :=
  (bif (((decide (4096 < (r_.Pairs.length : Int))) || (decide (1024 < (r_.Loads.length : Int)))) || (decide (1024 < (r_.Caps.length : Int)))) then
    some false
    else
    zaF (fun (_ : Unit) =>
      zaF (fun (_ : Unit) =>
        zaF (fun (_ : Unit) =>
          some true)
        (fun k32 =>
          zah (fun (i_34 : Nat) (next33 : Unit → Option Bool) (_ : Unit) =>
            zaF (fun (x_36 : Bool) =>
              (bif x_36 then
                some false
                else
                next33 ()))
            (fun k37 =>
              (bif !(zal ((nth r_.Caps i_34).Station)) then
                k37 true
                else
                (bif decide ((nth r_.Caps i_34).Max < 0) then
                  k37 true
                  else
                  (bif decide (1099511627776 < (nth r_.Caps i_34).Max) then
                    k37 true
                    else
                    (bif !(zaU ((nth r_.Caps i_34).Low) ((nth r_.Caps i_34).High)) then
                      k37 true
                      else
                      (bif decide (0 < (i_34 : Int)) then
                        (za2 (zaD (nth r_.Caps (((i_34 : Int) - 1).toNat))) (zaD (nth r_.Caps i_34))).bind fun r200 =>
                        k37 (!r200)
                        else
                        k37 false)))))))
          (fun (_ : Unit) =>
            k32 ()) (r_.Caps.length - 0) 0 ()))
      (fun k18 =>
        zah (fun (i_20 : Nat) (next19 : Unit → Option Bool) (_ : Unit) =>
          zaF (fun (x_22 : Bool) =>
            (bif x_22 then
              some false
              else
              next19 ()))
          (fun k23 =>
            (bif !(zal ((nth r_.Loads i_20).To)) then
              k23 true
              else
              (bif !(zal ((nth r_.Loads i_20).From)) then
                k23 true
                else
                (bif decide ((nth r_.Loads i_20).To = (nth r_.Loads i_20).From) then
                  k23 true
                  else
                  (bif decide ((nth r_.Loads i_20).Weight < 1) then
                    k23 true
                    else
                    (bif decide (1073741824 < (nth r_.Loads i_20).Weight) then
                      k23 true
                      else
                      (bif !(zaU ((nth r_.Loads i_20).Low) ((nth r_.Loads i_20).High)) then
                        k23 true
                        else
                        (bif decide (0 < (i_20 : Int)) then
                          (za2 (zas (nth r_.Loads (((i_20 : Int) - 1).toNat))) (zas (nth r_.Loads i_20))).bind fun r149 =>
                          k23 (!r149)
                          else
                          k23 false)))))))))
        (fun (_ : Unit) =>
          k18 ()) (r_.Loads.length - 0) 0 ()))
    (fun k4 =>
      zah (fun (i_6 : Nat) (next5 : Unit → Option Bool) (_ : Unit) =>
        zaF (fun (x_8 : Bool) =>
          (bif x_8 then
            some false
            else
            next5 ()))
        (fun k9 =>
          (bif !(zal ((nth r_.Pairs i_6).A)) then
            k9 true
            else
            (bif !(zal ((nth r_.Pairs i_6).B)) then
              k9 true
              else
              (bif decide ((nth r_.Pairs i_6).B ≤ (nth r_.Pairs i_6).A) then
                k9 true
                else
                (bif decide ((nth r_.Pairs i_6).Offset < (-1)) then
                  k9 true
                  else
                  (bif decide (1 < (nth r_.Pairs i_6).Offset) then
                    k9 true
                    else
                    (bif !(zaU ((nth r_.Pairs i_6).Low) ((nth r_.Pairs i_6).High)) then
                      k9 true
                      else
                      (bif decide (0 < (i_6 : Int)) then
                        (za2 (zat (nth r_.Pairs (((i_6 : Int) - 1).toNat))) (zat (nth r_.Pairs i_6))).bind fun r85 =>
                        k9 (!r85)
                        else
                        k9 false)))))))))
      (fun (_ : Unit) =>
        k4 ()) (r_.Pairs.length - 0) 0 ()))
theorem zd0 (F0 : Frz) (w : World) (hF0 : F0.At w) (r_ : GRules) (vr__0 : Value) (hr__0 : SlC F0 vr__0 5 (r_.Pairs.map GPair.enc)) (vr__1 : Value) (hr__1 : SlC F0 vr__1 5 (r_.Loads.map GLoad.enc)) (vr__2 : Value) (hr__2 : SlC F0 vr__2 4 (r_.Caps.map GCap.enc)) (r : Bool) (hr : zbb r_ = some r) : Calls Tryz.prog 35 #[.agg [vr__0, vr__1, vr__2].toArray] w fun e w' => e = .returned (.bool r) ∧ Below w.heap.size w w' := by
  have hk := hr; unfold zbb at hk; haveI := hr__0.oneC; haveI := hr__1.oneC; haveI := hr__2.oneC; obtain ⟨S0, F1, rfl, hS0, hp0⟩ := zaq hF0; refine zad (M := fun _ => False) (hs := [.fr F1]) Tryz.func35 rfl rfl rfl hp0 ?_; refine T.seq (T.region ?_); refine TL.e (Ew.aB rfl rfl) ?_; rintro _ _ ⟨g1, rfl, rfl⟩; refine TL.run 1 rfl ?_; refine TL.nil (K.seq (T.seq (T.seq ?_))); refine T.ao (ι := Unit) (fun z => [(1, .pointer (some ⟨g1, 0, none⟩)), (24, .bool (((decide (4096 < (r_.Pairs.length : Int))) || (decide (1024 < (r_.Loads.length : Int)))) || (decide (1024 < (r_.Caps.length : Int)))))]) (fun z => [.row g1 27 [vr__0, vr__1, vr__2], .fr F1]) (fun z => True) ?_ ?_
  · refine T.region ?_; refine TL.y (Yv.fieldAddr rfl rfl) ?_; refine TL.y (Yv.ab 0 rfl rfl rfl rfl) ?_; refine TL.y (Yv.aA rfl rfl hr__0 (List.length_map _)) ?_; have hm11 : r_.Pairs.length ≤ 9223372036854775807 := (List.length_map _) ▸ hr__0.max; refine TL.run 2 rfl ?_; refine TL.gs rfl rfl rfl (fun h1 => ?_) (fun h1 => ?_)
    · have p1 := of_decide_eq_true h1; refine TL.run 11 rfl ?_; refine TL.nil ?_; exact K.ak () trivial (.c (.b (zbD (zbD h1)).symm .nil)) (List.Sublist.refl _)
    · have p1 := of_decide_eq_false h1; refine TL.y (Yv.fieldAddr rfl rfl) ?_; refine TL.y (Yv.ab 0 rfl rfl rfl rfl) ?_; refine TL.y (Yv.aA rfl rfl hr__1 (List.length_map _)) ?_; have hm16 : r_.Loads.length ≤ 9223372036854775807 := (List.length_map _) ▸ hr__1.max; refine TL.run 3 rfl ?_; refine TL.gs rfl rfl rfl (fun h2 => ?_) (fun h2 => ?_)
      · have p2 := of_decide_eq_true h2; refine TL.run 5 rfl ?_; refine TL.nil ?_; exact K.ak () trivial (.c (.b (zbD (zca h1 h2)).symm .nil)) (List.Sublist.refl _)
      · have p2 := of_decide_eq_false h2; refine TL.y (Yv.fieldAddr rfl rfl) ?_; refine TL.y (Yv.ab 0 rfl rfl rfl rfl) ?_; refine TL.y (Yv.aA rfl rfl hr__2 (List.length_map _)) ?_; have hm22 : r_.Caps.length ≤ 9223372036854775807 := (List.length_map _) ▸ hr__2.max; refine TL.run 2 rfl ?_; refine TL.nil ?_; exact K.ak () trivial (.c (.b (or_f (zca h1 h2)) .nil)) (List.Sublist.refl _)
  · rintro _ _; have hm11 : r_.Pairs.length ≤ 9223372036854775807 := (List.length_map _) ▸ hr__0.max; have hm16 : r_.Loads.length ≤ 9223372036854775807 := (List.length_map _) ▸ hr__1.max; have hm22 : r_.Caps.length ≤ 9223372036854775807 := (List.length_map _) ▸ hr__2.max; refine T.cond rfl (fun h3 => ?_) (fun h3 => ?_)
    · have p3 := h3; (try simp only [nfB] at p3); replace hk := zab hk h3; refine T.seq (T.region ?_); refine TL.run 1 rfl ?_; refine TL.nil (K.seq (T.ret (K.aa ?_))); obtain rfl := Option.some.inj hk; exact K.ag rfl rfl (fun w' hw => ⟨rfl, hw.isBelow⟩)
    · have p3 := h3; (try simp only [nfB] at p3); replace hk := zaa hk h3; refine T.skip (K.seq (T.seq (T.seq (T.region ?_)))); refine TL.run 1 rfl ?_; refine TL.nil (K.seq ?_); have hq := zag hk; clear hk; obtain ⟨k4, hk4, hk⟩ := hq; (try dsimp only at hk); refine T.ao (ι := FzB w (fun _ => False) S0) (fun z => [(1, .pointer (some ⟨g1, 0, none⟩))]) (fun z => [.row g1 27 [vr__0, vr__1, vr__2], .fr z]) (fun z => k4 () = some r ∧ F1.toFrz.Le z.toFrz) ?_ ?_
      · have hq := zan hk; clear hk; obtain ⟨f5, kk5, hf5, hkk5, hk⟩ := hq; refine T.block ?_; refine T.loop (ι := Nat × FzB w (fun _ => False) S0) (fun z => [(1, .pointer (some ⟨g1, 0, none⟩)), (3, .int .i64 (z.1 : Int))]) (fun z => [.row g1 27 [vr__0, vr__1, vr__2], .fr z.2]) (fun z => zah f5 kk5 (r_.Pairs.length - z.1) z.1 () = some r ∧ F1.toFrz.Le z.2.toFrz) (fun z => r_.Pairs.length - z.1) (0, F1) ?_ ?_ ?_ ?_
        · exact ⟨hk, (Frz.Le.refl _)⟩
        · exact (.c (.c .nil))
        · exact List.Sublist.refl _
        · rintro ⟨i_6, F3⟩ ⟨hk, le1_3⟩; (try dsimp only at *); refine T.seq (T.seq (T.region ?_)); refine TL.run 1 rfl ?_; refine TL.y (Yv.fieldAddr rfl rfl) ?_; refine TL.y (Yv.ab 0 rfl rfl rfl rfl) ?_; refine TL.y (Yv.aA rfl rfl (SlC.mono hr__0 le1_3) (List.length_map _)) ?_; refine TL.run 1 rfl ?_; refine TL.nil (K.seq ?_); refine T.cond rfl (fun h7 => ?_) (fun h7 => ?_)
          · have p7 := of_decide_eq_true h7; rw [zaE (by omega)] at hk; generalize hn5 : zah f5 kk5 (r_.Pairs.length - (i_6 + 1)) (i_6 + 1) = next5 at hk; rw [← hf5] at hk; (try dsimp only at hk); refine T.skip (K.seq (T.seq (T.block (T.seq (T.region ?_))))); refine TL.y (Yv.fieldAddr rfl rfl) ?_; refine TL.y (Yv.ab 0 rfl rfl rfl rfl) ?_; refine TL.run 1 rfl ?_; refine TL.y (Yv.az (i := i_6) rfl rfl rfl (SlC.mono hr__0 le1_3) (List.length_map _) rfl (by omega)) ?_; refine TL.y (Yv.aE 1 (i := i_6) rfl rfl rfl (SlC.mono hr__0 le1_3) (by omega) rfl rfl rfl) ?_; refine TL.e (Ew.alloc rfl) ?_; rintro _ _ ⟨g4, rfl, rfl⟩; refine TL.e0 (Ew.aj 0 rfl rfl rfl rfl rfl rfl) ?_; rintro _ _ ⟨rfl, rfl⟩; refine TL.nil (K.seq (T.seq ?_)); (try dsimp only at hk); have hq := zag hk; clear hk; obtain ⟨k9, hk9, hk⟩ := hq; (try dsimp only at hk); refine T.ao (ι := Bool × FzB w (fun _ => False) S0) (fun z => [(1, .pointer (some ⟨g1, 0, none⟩)), (3, .int .i64 (i_6 : Int)), (88, .bool z.1)]) (fun z => [.row g1 27 [vr__0, vr__1, vr__2], .fr z.2]) (fun z => k9 z.1 = some r ∧ F3.toFrz.Le z.2.toFrz) ?_ ?_
            · refine T.aw (.still 0 (.still 1 (.eff 2 (.still 3 (.still 4 (.still 5 (.still 6 (.eff 7 (.still 8 (.still 9 (.still 10 (.still 11 (.still 12 (.still 13 (.still 14 (.still 15 (.still 16 (.still 17 (.still 18 (.still 19 (.still 20 (.still 21 (.still 22 (.still 23 (.still 24 (.still 25 (.still 26 (.still 27 (.still 28 (.still 29 (.still 30 (.still 31 (.eff 32 (.still 33 (.still 34 (.still 35 (.still 36 (.still 37 (.still 38 (.still 39 (.still 40 (.still 41 (.still 42 (.still 43 (.still 44 (.still 46 (.eff 45 (.eff 47 (.eff 48 (.still 49 (.still 50 (.still 51 .done)))))))))))))))))))))))))))))))))))))))))))))))))))) _ (by kernel_rfl) (List.Sublist.refl _) ?_; refine TS.y rfl (Yv.fieldAddr rfl rfl) ?_; refine TS.y rfl (Yv.ab 0 rfl rfl rfl rfl) ?_; refine TS.eff ?_; refine TSo.aL rfl (Wt.none rfl) rfl rfl (Ew.af rfl rfl rfl (fun w hw => za6 _ w (hw.fr (i := 2) rfl) ((nth r_.Pairs i_6).A))) ?_; rintro _ _ ⟨rfl, rfl⟩; refine ⟨(fun w hw => hw.sub (by repeat first | exact S0 | exact S1 | refine S2 ?_ | refine S3 ?_)), ?_⟩; refine TS.run 2 rfl ?_; refine TS.gs rfl rfl rfl rfl (fun h10 => ?_) (fun h10 => ?_)
              · have p10 := h10; (try simp only [nfB] at p10); replace hk := zab hk h10; refine TS.run 2 rfl ?_; refine TS.eff ?_; refine TSo.off rfl (Wt.not rfl rfl rfl rfl) rfl rfl ?_; refine TS.run 24 rfl ?_; refine TS.eff ?_; refine TSo.off rfl (Wt.not rfl rfl rfl rfl) rfl rfl ?_; refine TS.run 13 rfl ?_; refine TS.eff ?_; refine TSo.off rfl (Wt.undef rfl rfl rfl) rfl rfl ?_; refine TS.eff ?_; refine TSo.off rfl (Wt.undef rfl rfl rfl) rfl rfl ?_; refine TS.eff ?_; refine TSo.off rfl (Wt.undef rfl rfl rfl) rfl rfl ?_; refine TS.run 3 rfl ?_; refine TS.done ?_; refine K.pick [1, 2] rfl (by decide) ?_; exact K.ak (true, F3) ⟨hk, (Frz.Le.refl _)⟩ (.c (.c (.c .nil))) (List.Sublist.refl _)
              · have p10 := h10; (try simp only [nfB] at p10); replace hk := zaa hk h10; refine TS.y rfl (Yv.fieldAddr rfl rfl) ?_; refine TS.y rfl (Yv.ab 0 rfl rfl rfl rfl) ?_; refine TS.eff ?_; refine TSo.aL rfl (Wt.some rfl rfl rfl rfl) rfl rfl (Ew.af rfl rfl rfl (fun w hw => za6 _ w (hw.fr (i := 2) rfl) ((nth r_.Pairs i_6).B))) ?_; rintro _ _ ⟨rfl, rfl⟩; refine ⟨(fun w hw => hw.sub (by repeat first | exact S0 | exact S1 | refine S2 ?_ | refine S3 ?_)), ?_⟩; refine TS.run 3 rfl ?_; refine TS.gs rfl rfl rfl rfl (fun h11 => ?_) (fun h11 => ?_)
                · have p11 := h11; (try simp only [nfB] at p11); replace hk := zab hk h11; refine TS.run 21 rfl ?_; refine TS.eff ?_; refine TSo.off rfl (Wt.not rfl rfl rfl rfl) rfl rfl ?_; refine TS.run 13 rfl ?_; refine TS.eff ?_; refine TSo.off rfl (Wt.undef rfl rfl rfl) rfl rfl ?_; refine TS.eff ?_; refine TSo.off rfl (Wt.undef rfl rfl rfl) rfl rfl ?_; refine TS.eff ?_; refine TSo.off rfl (Wt.undef rfl rfl rfl) rfl rfl ?_; refine TS.run 3 rfl ?_; refine TS.done ?_; refine K.pick [1, 2] rfl (by decide) ?_; exact K.ak (true, F3) ⟨hk, (Frz.Le.refl _)⟩ (.c (.c (.c .nil))) (List.Sublist.refl _)
                · have p11 := h11; (try simp only [nfB] at p11); replace hk := zaa hk h11; refine TS.y rfl (Yv.fieldAddr rfl rfl) ?_; refine TS.y rfl (Yv.ab 0 rfl rfl rfl rfl) ?_; refine TS.y rfl (Yv.fieldAddr rfl rfl) ?_; refine TS.y rfl (Yv.ab 0 rfl rfl rfl rfl) ?_; refine TS.run 3 rfl ?_; refine TS.gs rfl rfl rfl rfl (fun h12 => ?_) (fun h12 => ?_)
                  · have p12 := of_decide_eq_true h12; replace hk := zab hk h12; refine TS.run 14 rfl ?_; refine TS.eff ?_; refine TSo.off rfl (Wt.not rfl rfl rfl rfl) rfl rfl ?_; refine TS.run 13 rfl ?_; refine TS.eff ?_; refine TSo.off rfl (Wt.undef rfl rfl rfl) rfl rfl ?_; refine TS.eff ?_; refine TSo.off rfl (Wt.undef rfl rfl rfl) rfl rfl ?_; refine TS.eff ?_; refine TSo.off rfl (Wt.undef rfl rfl rfl) rfl rfl ?_; refine TS.run 3 rfl ?_; refine TS.done ?_; refine K.pick [1, 2] rfl (by decide) ?_; exact K.ak (true, F3) ⟨hk, (Frz.Le.refl _)⟩ (.c (.c (.c .nil))) (List.Sublist.refl _)
                  · have p12 := of_decide_eq_false h12; replace hk := zaa hk h12; refine TS.y rfl (Yv.fieldAddr rfl rfl) ?_; refine TS.y rfl (Yv.ab 0 rfl rfl rfl rfl) ?_; refine TS.run 3 rfl ?_; refine TS.gs rfl rfl rfl rfl (fun h13 => ?_) (fun h13 => ?_)
                    · have p13 := of_decide_eq_true h13; replace hk := zab hk h13; refine TS.run 9 rfl ?_; refine TS.eff ?_; refine TSo.off rfl (Wt.not rfl rfl rfl rfl) rfl rfl ?_; refine TS.run 13 rfl ?_; refine TS.eff ?_; refine TSo.off rfl (Wt.undef rfl rfl rfl) rfl rfl ?_; refine TS.eff ?_; refine TSo.off rfl (Wt.undef rfl rfl rfl) rfl rfl ?_; refine TS.eff ?_; refine TSo.off rfl (Wt.undef rfl rfl rfl) rfl rfl ?_; refine TS.run 3 rfl ?_; refine TS.done ?_; refine K.pick [1, 2] rfl (by decide) ?_; exact K.ak (true, F3) ⟨hk, (Frz.Le.refl _)⟩ (.c (.c (.c .nil))) (List.Sublist.refl _)
                    · have p13 := of_decide_eq_false h13; replace hk := zaa hk h13; refine TS.y rfl (Yv.fieldAddr rfl rfl) ?_; refine TS.y rfl (Yv.ab 0 rfl rfl rfl rfl) ?_; refine TS.run 3 rfl ?_; refine TS.gs rfl rfl rfl rfl (fun h14 => ?_) (fun h14 => ?_)
                      · have p14 := of_decide_eq_true h14; replace hk := zab hk h14; refine TS.run 4 rfl ?_; refine TS.eff ?_; refine TSo.off rfl (Wt.not rfl rfl rfl rfl) rfl rfl ?_; refine TS.run 13 rfl ?_; refine TS.eff ?_; refine TSo.off rfl (Wt.undef rfl rfl rfl) rfl rfl ?_; refine TS.eff ?_; refine TSo.off rfl (Wt.undef rfl rfl rfl) rfl rfl ?_; refine TS.eff ?_; refine TSo.off rfl (Wt.undef rfl rfl rfl) rfl rfl ?_; refine TS.run 3 rfl ?_; refine TS.done ?_; refine K.pick [1, 2] rfl (by decide) ?_; exact K.ak (true, F3) ⟨hk, (Frz.Le.refl _)⟩ (.c (.c (.c .nil))) (List.Sublist.refl _)
                      · have p14 := of_decide_eq_false h14; replace hk := zaa hk h14; refine TS.y rfl (Yv.fieldAddr rfl rfl) ?_; refine TS.y rfl (Yv.ab 0 rfl rfl rfl rfl) ?_; refine TS.y rfl (Yv.fieldAddr rfl rfl) ?_; refine TS.y rfl (Yv.ab 0 rfl rfl rfl rfl) ?_; refine TS.eff ?_; refine TSo.aL rfl (Wt.some rfl rfl rfl rfl) rfl rfl (Ew.af rfl rfl rfl (fun w hw => zde _ w (hw.fr (i := 2) rfl) ((nth r_.Pairs i_6).Low) ((nth r_.Pairs i_6).High))) ?_; rintro _ _ ⟨rfl, rfl⟩; refine ⟨(fun w hw => hw.sub (by repeat first | exact S0 | exact S1 | refine S2 ?_ | refine S3 ?_)), ?_⟩; refine TS.run 3 rfl ?_; refine TS.gs rfl rfl rfl rfl (fun h15 => ?_) (fun h15 => ?_)
                        · have p15 := h15; (try simp only [nfB] at p15); replace hk := zab hk h15; refine TS.run 10 rfl ?_; refine TS.eff ?_; refine TSo.off rfl (Wt.undef rfl rfl rfl) rfl rfl ?_; refine TS.eff ?_; refine TSo.off rfl (Wt.undef rfl rfl rfl) rfl rfl ?_; refine TS.eff ?_; refine TSo.off rfl (Wt.undef rfl rfl rfl) rfl rfl ?_; refine TS.run 3 rfl ?_; refine TS.done ?_; refine K.pick [1, 2] rfl (by decide) ?_; exact K.ak (true, F3) ⟨hk, (Frz.Le.refl _)⟩ (.c (.c (.c .nil))) (List.Sublist.refl _)
                        · have p15 := h15; (try simp only [nfB] at p15); replace hk := zaa hk h15; refine TS.run 3 rfl ?_; refine TS.gs rfl rfl rfl rfl (fun h16 => ?_) (fun h16 => ?_)
                          · have p16 := of_decide_eq_true h16; replace hk := zab hk h16; refine TS.y rfl (Yv.fieldAddr rfl rfl) ?_; refine TS.y rfl (Yv.ab 1 rfl rfl rfl rfl) ?_; refine TS.run 1 rfl ?_; refine TS.y rfl (Yv.aO rfl rfl rfl (by omega)) ?_; refine TS.y rfl (Yv.az (i := ((i_6 : Int) - 1).toNat) rfl rfl rfl (SlC.mono hr__0 le1_3) (List.length_map _) (by omega) (by omega)) ?_; refine TS.y rfl (Yv.aE 2 (i := ((i_6 : Int) - 1).toNat) rfl rfl rfl (SlC.mono hr__0 le1_3) (by omega) rfl rfl rfl) ?_; refine TS.y rfl (Yv.al 0 rfl rfl rfl rfl) ?_; refine TS.eff ?_; refine TSo.aL rfl (Wt.some rfl rfl rfl rfl) rfl rfl (Ew.aR 2 rfl rfl rfl rfl (fun w hw hF => zdq _ w hF (nth r_.Pairs (((i_6 : Int) - 1).toNat)))) ?_; rintro _ _ ⟨v82_0_0, F5, le3_5, hf82_0_0, hq, rfl⟩; obtain rfl := hq.symm; have le1_5 := le1_3.trans le3_5; haveI := hf82_0_0.oneC; refine ⟨(fun w hw => (hw.frLe (i := 2) rfl le3_5).sub (by repeat first | exact S0 | exact S1 | refine S2 ?_ | refine S3 ?_)), ?_⟩; refine TS.eff ?_; refine TSo.aL rfl (Wt.some rfl rfl rfl rfl) rfl rfl (Ew.aR 2 rfl rfl rfl rfl (fun w hw hF => zdq _ w hF (nth r_.Pairs i_6))) ?_; rintro _ _ ⟨v84_0_0, F6, le5_6, hf84_0_0, hq, rfl⟩; obtain rfl := hq.symm; have le1_6 := le1_5.trans le5_6; have le3_6 := le3_5.trans le5_6; haveI := hf84_0_0.oneC; refine ⟨(fun w hw => (hw.frLe (i := 2) rfl le3_6).sub (by repeat first | exact S0 | exact S1 | refine S2 ?_ | refine S3 ?_)), ?_⟩; refine TS.eff ?_; have hq := zak hk; clear hk; obtain ⟨r85, hr85, hk⟩ := hq; refine TSo.aL rfl (Wt.some rfl rfl rfl rfl) rfl rfl (Ew.af rfl rfl rfl (fun w hw => zdd _ w (hw.fr (i := 2) rfl) (zat (nth r_.Pairs (((i_6 : Int) - 1).toNat))) v82_0_0 (SlC.mono hf82_0_0 le5_6) (zat (nth r_.Pairs i_6)) v84_0_0 hf84_0_0 r85 hr85)) ?_; rintro _ _ ⟨rfl, rfl⟩; refine ⟨(fun w hw => (hw.frLe (i := 2) rfl le3_6).sub (by repeat first | exact S0 | exact S1 | refine S2 ?_ | refine S3 ?_)), ?_⟩; refine TS.run 3 rfl ?_; refine TS.done ?_; refine K.pick [1, 2] rfl (by decide) ?_; exact K.ak (!r85, F6) ⟨hk, le3_6⟩ (.c (.c (.c .nil))) (List.Sublist.refl _)
                          · have p16 := of_decide_eq_false h16; replace hk := zaa hk h16; refine TS.run 7 rfl ?_; refine TS.eff ?_; refine TSo.off rfl (Wt.not rfl rfl rfl rfl) rfl rfl ?_; refine TS.eff ?_; refine TSo.off rfl (Wt.not rfl rfl rfl rfl) rfl rfl ?_; refine TS.eff ?_; refine TSo.off rfl (Wt.not rfl rfl rfl rfl) rfl rfl ?_; refine TS.run 3 rfl ?_; refine TS.done ?_; refine K.pick [1, 2] rfl (by decide) ?_; exact K.ak (false, F3) ⟨hk, (Frz.Le.refl _)⟩ (.c (.c (.c .nil))) (List.Sublist.refl _)
            · rintro ⟨x_8, F4⟩ ⟨hk, le3_4⟩; (try dsimp only at *); rw [← hk9] at hk; (try dsimp only at hk); have le1_4 := le1_3.trans le3_4; refine T.cond rfl (fun h17 => ?_) (fun h17 => ?_)
              · have p17 := h17; (try simp only [nfB] at p17); replace hk := zab hk h17; refine T.seq (T.region ?_); refine TL.run 1 rfl ?_; refine TL.nil (K.seq (T.ret (K.ah (K.aa (K.aa (K.ah (K.aa ?_))))))); obtain rfl := Option.some.inj hk; exact K.ag rfl rfl (fun w' hw => ⟨rfl, hw.isBelow⟩)
              · have p17 := h17; (try simp only [nfB] at p17); replace hk := zaa hk h17; refine T.skip (K.ad (K.seq (T.region ?_))); refine TL.run 1 rfl ?_; refine TL.y (Yv.am rfl rfl rfl (by omega)) ?_; refine TL.run 1 rfl ?_; refine TL.nil ?_; rw [← hn5] at hk; exact K.next ((i_6 + 1), F4) ⟨hk, le1_4⟩ (by dsimp only; omega) (.c (.c .nil)) (List.Sublist.refl _)
          · have p7 := of_decide_eq_false h7; rw [zaC (by omega), ← hkk5] at hk; (try dsimp only at hk); refine T.exit (K.ac (K.ac (K.ae ?_))); exact K.ak F3 ⟨hk, le1_3⟩ (.c .nil) (List.Sublist.refl _)
      · rintro F2 ⟨hk, le1_2⟩; rw [← hk4] at hk; (try dsimp only at hk); refine T.seq (T.seq (T.region ?_)); refine TL.run 1 rfl ?_; refine TL.nil (K.seq ?_); have hq := zag hk; clear hk; obtain ⟨k18, hk18, hk⟩ := hq; (try dsimp only at hk); refine T.ao (ι := FzB w (fun _ => False) S0) (fun z => [(1, .pointer (some ⟨g1, 0, none⟩))]) (fun z => [.row g1 27 [vr__0, vr__1, vr__2], .fr z]) (fun z => k18 () = some r ∧ F2.toFrz.Le z.toFrz) ?_ ?_
        · have hq := zan hk; clear hk; obtain ⟨f19, kk19, hf19, hkk19, hk⟩ := hq; refine T.block ?_; refine T.loop (ι := Nat × FzB w (fun _ => False) S0) (fun z => [(1, .pointer (some ⟨g1, 0, none⟩)), (5, .int .i64 (z.1 : Int))]) (fun z => [.row g1 27 [vr__0, vr__1, vr__2], .fr z.2]) (fun z => zah f19 kk19 (r_.Loads.length - z.1) z.1 () = some r ∧ F2.toFrz.Le z.2.toFrz) (fun z => r_.Loads.length - z.1) (0, F2) ?_ ?_ ?_ ?_
          · exact ⟨hk, (Frz.Le.refl _)⟩
          · exact (.c (.c .nil))
          · exact List.Sublist.refl _
          · rintro ⟨i_20, F8⟩ ⟨hk, le2_8⟩; (try dsimp only at *); have le1_8 := le1_2.trans le2_8; refine T.seq (T.seq (T.region ?_)); refine TL.run 1 rfl ?_; refine TL.y (Yv.fieldAddr rfl rfl) ?_; refine TL.y (Yv.ab 0 rfl rfl rfl rfl) ?_; refine TL.y (Yv.aA rfl rfl (SlC.mono hr__1 le1_8) (List.length_map _)) ?_; refine TL.run 1 rfl ?_; refine TL.nil (K.seq ?_); refine T.cond rfl (fun h21 => ?_) (fun h21 => ?_)
            · have p21 := of_decide_eq_true h21; rw [zaE (by omega)] at hk; generalize hn19 : zah f19 kk19 (r_.Loads.length - (i_20 + 1)) (i_20 + 1) = next19 at hk; rw [← hf19] at hk; (try dsimp only at hk); refine T.skip (K.seq (T.seq (T.block (T.seq (T.region ?_))))); refine TL.y (Yv.fieldAddr rfl rfl) ?_; refine TL.y (Yv.ab 0 rfl rfl rfl rfl) ?_; refine TL.run 1 rfl ?_; refine TL.y (Yv.az (i := i_20) rfl rfl rfl (SlC.mono hr__1 le1_8) (List.length_map _) rfl (by omega)) ?_; refine TL.y (Yv.aE 1 (i := i_20) rfl rfl rfl (SlC.mono hr__1 le1_8) (by omega) rfl rfl rfl) ?_; refine TL.e (Ew.alloc rfl) ?_; rintro _ _ ⟨g6, rfl, rfl⟩; refine TL.e0 (Ew.aj 0 rfl rfl rfl rfl rfl rfl) ?_; rintro _ _ ⟨rfl, rfl⟩; refine TL.nil (K.seq (T.seq ?_)); (try dsimp only at hk); have hq := zag hk; clear hk; obtain ⟨k23, hk23, hk⟩ := hq; (try dsimp only at hk); refine T.ao (ι := Bool × FzB w (fun _ => False) S0) (fun z => [(1, .pointer (some ⟨g1, 0, none⟩)), (5, .int .i64 (i_20 : Int)), (152, .bool z.1)]) (fun z => [.row g1 27 [vr__0, vr__1, vr__2], .fr z.2]) (fun z => k23 z.1 = some r ∧ F8.toFrz.Le z.2.toFrz) ?_ ?_
              · refine T.aw (.still 0 (.still 1 (.eff 2 (.still 3 (.still 4 (.still 5 (.still 6 (.eff 7 (.still 8 (.still 9 (.still 10 (.still 11 (.still 12 (.still 13 (.still 14 (.still 15 (.still 16 (.still 17 (.still 18 (.still 19 (.still 20 (.still 21 (.still 22 (.still 23 (.still 24 (.still 25 (.still 26 (.still 27 (.still 28 (.still 29 (.still 30 (.still 31 (.eff 32 (.still 33 (.still 34 (.still 35 (.still 36 (.still 37 (.still 38 (.still 39 (.still 40 (.still 41 (.still 42 (.still 43 (.still 44 (.still 46 (.eff 45 (.eff 47 (.eff 48 (.still 49 (.still 50 (.still 51 .done)))))))))))))))))))))))))))))))))))))))))))))))))))) _ (by kernel_rfl) (List.Sublist.refl _) ?_; refine TS.y rfl (Yv.fieldAddr rfl rfl) ?_; refine TS.y rfl (Yv.ab 0 rfl rfl rfl rfl) ?_; refine TS.eff ?_; refine TSo.aL rfl (Wt.none rfl) rfl rfl (Ew.af rfl rfl rfl (fun w hw => za6 _ w (hw.fr (i := 2) rfl) ((nth r_.Loads i_20).To))) ?_; rintro _ _ ⟨rfl, rfl⟩; refine ⟨(fun w hw => hw.sub (by repeat first | exact S0 | exact S1 | refine S2 ?_ | refine S3 ?_)), ?_⟩; refine TS.run 2 rfl ?_; refine TS.gs rfl rfl rfl rfl (fun h24 => ?_) (fun h24 => ?_)
                · have p24 := h24; (try simp only [nfB] at p24); replace hk := zab hk h24; refine TS.run 2 rfl ?_; refine TS.eff ?_; refine TSo.off rfl (Wt.not rfl rfl rfl rfl) rfl rfl ?_; refine TS.run 24 rfl ?_; refine TS.eff ?_; refine TSo.off rfl (Wt.not rfl rfl rfl rfl) rfl rfl ?_; refine TS.run 13 rfl ?_; refine TS.eff ?_; refine TSo.off rfl (Wt.undef rfl rfl rfl) rfl rfl ?_; refine TS.eff ?_; refine TSo.off rfl (Wt.undef rfl rfl rfl) rfl rfl ?_; refine TS.eff ?_; refine TSo.off rfl (Wt.undef rfl rfl rfl) rfl rfl ?_; refine TS.run 3 rfl ?_; refine TS.done ?_; refine K.pick [1, 2] rfl (by decide) ?_; exact K.ak (true, F8) ⟨hk, (Frz.Le.refl _)⟩ (.c (.c (.c .nil))) (List.Sublist.refl _)
                · have p24 := h24; (try simp only [nfB] at p24); replace hk := zaa hk h24; refine TS.y rfl (Yv.fieldAddr rfl rfl) ?_; refine TS.y rfl (Yv.ab 0 rfl rfl rfl rfl) ?_; refine TS.eff ?_; refine TSo.aL rfl (Wt.some rfl rfl rfl rfl) rfl rfl (Ew.af rfl rfl rfl (fun w hw => za6 _ w (hw.fr (i := 2) rfl) ((nth r_.Loads i_20).From))) ?_; rintro _ _ ⟨rfl, rfl⟩; refine ⟨(fun w hw => hw.sub (by repeat first | exact S0 | exact S1 | refine S2 ?_ | refine S3 ?_)), ?_⟩; refine TS.run 3 rfl ?_; refine TS.gs rfl rfl rfl rfl (fun h25 => ?_) (fun h25 => ?_)
                  · have p25 := h25; (try simp only [nfB] at p25); replace hk := zab hk h25; refine TS.run 21 rfl ?_; refine TS.eff ?_; refine TSo.off rfl (Wt.not rfl rfl rfl rfl) rfl rfl ?_; refine TS.run 13 rfl ?_; refine TS.eff ?_; refine TSo.off rfl (Wt.undef rfl rfl rfl) rfl rfl ?_; refine TS.eff ?_; refine TSo.off rfl (Wt.undef rfl rfl rfl) rfl rfl ?_; refine TS.eff ?_; refine TSo.off rfl (Wt.undef rfl rfl rfl) rfl rfl ?_; refine TS.run 3 rfl ?_; refine TS.done ?_; refine K.pick [1, 2] rfl (by decide) ?_; exact K.ak (true, F8) ⟨hk, (Frz.Le.refl _)⟩ (.c (.c (.c .nil))) (List.Sublist.refl _)
                  · have p25 := h25; (try simp only [nfB] at p25); replace hk := zaa hk h25; refine TS.y rfl (Yv.fieldAddr rfl rfl) ?_; refine TS.y rfl (Yv.ab 0 rfl rfl rfl rfl) ?_; refine TS.y rfl (Yv.fieldAddr rfl rfl) ?_; refine TS.y rfl (Yv.ab 0 rfl rfl rfl rfl) ?_; refine TS.run 3 rfl ?_; refine TS.gs rfl rfl rfl rfl (fun h26 => ?_) (fun h26 => ?_)
                    · have p26 := of_decide_eq_true h26; replace hk := zab hk h26; refine TS.run 14 rfl ?_; refine TS.eff ?_; refine TSo.off rfl (Wt.not rfl rfl rfl rfl) rfl rfl ?_; refine TS.run 13 rfl ?_; refine TS.eff ?_; refine TSo.off rfl (Wt.undef rfl rfl rfl) rfl rfl ?_; refine TS.eff ?_; refine TSo.off rfl (Wt.undef rfl rfl rfl) rfl rfl ?_; refine TS.eff ?_; refine TSo.off rfl (Wt.undef rfl rfl rfl) rfl rfl ?_; refine TS.run 3 rfl ?_; refine TS.done ?_; refine K.pick [1, 2] rfl (by decide) ?_; exact K.ak (true, F8) ⟨hk, (Frz.Le.refl _)⟩ (.c (.c (.c .nil))) (List.Sublist.refl _)
                    · have p26 := of_decide_eq_false h26; replace hk := zaa hk h26; refine TS.y rfl (Yv.fieldAddr rfl rfl) ?_; refine TS.y rfl (Yv.ab 0 rfl rfl rfl rfl) ?_; refine TS.run 3 rfl ?_; refine TS.gs rfl rfl rfl rfl (fun h27 => ?_) (fun h27 => ?_)
                      · have p27 := of_decide_eq_true h27; replace hk := zab hk h27; refine TS.run 9 rfl ?_; refine TS.eff ?_; refine TSo.off rfl (Wt.not rfl rfl rfl rfl) rfl rfl ?_; refine TS.run 13 rfl ?_; refine TS.eff ?_; refine TSo.off rfl (Wt.undef rfl rfl rfl) rfl rfl ?_; refine TS.eff ?_; refine TSo.off rfl (Wt.undef rfl rfl rfl) rfl rfl ?_; refine TS.eff ?_; refine TSo.off rfl (Wt.undef rfl rfl rfl) rfl rfl ?_; refine TS.run 3 rfl ?_; refine TS.done ?_; refine K.pick [1, 2] rfl (by decide) ?_; exact K.ak (true, F8) ⟨hk, (Frz.Le.refl _)⟩ (.c (.c (.c .nil))) (List.Sublist.refl _)
                      · have p27 := of_decide_eq_false h27; replace hk := zaa hk h27; refine TS.y rfl (Yv.fieldAddr rfl rfl) ?_; refine TS.y rfl (Yv.ab 0 rfl rfl rfl rfl) ?_; refine TS.run 3 rfl ?_; refine TS.gs rfl rfl rfl rfl (fun h28 => ?_) (fun h28 => ?_)
                        · have p28 := of_decide_eq_true h28; replace hk := zab hk h28; refine TS.run 4 rfl ?_; refine TS.eff ?_; refine TSo.off rfl (Wt.not rfl rfl rfl rfl) rfl rfl ?_; refine TS.run 13 rfl ?_; refine TS.eff ?_; refine TSo.off rfl (Wt.undef rfl rfl rfl) rfl rfl ?_; refine TS.eff ?_; refine TSo.off rfl (Wt.undef rfl rfl rfl) rfl rfl ?_; refine TS.eff ?_; refine TSo.off rfl (Wt.undef rfl rfl rfl) rfl rfl ?_; refine TS.run 3 rfl ?_; refine TS.done ?_; refine K.pick [1, 2] rfl (by decide) ?_; exact K.ak (true, F8) ⟨hk, (Frz.Le.refl _)⟩ (.c (.c (.c .nil))) (List.Sublist.refl _)
                        · have p28 := of_decide_eq_false h28; replace hk := zaa hk h28; refine TS.y rfl (Yv.fieldAddr rfl rfl) ?_; refine TS.y rfl (Yv.ab 0 rfl rfl rfl rfl) ?_; refine TS.y rfl (Yv.fieldAddr rfl rfl) ?_; refine TS.y rfl (Yv.ab 0 rfl rfl rfl rfl) ?_; refine TS.eff ?_; refine TSo.aL rfl (Wt.some rfl rfl rfl rfl) rfl rfl (Ew.af rfl rfl rfl (fun w hw => zde _ w (hw.fr (i := 2) rfl) ((nth r_.Loads i_20).Low) ((nth r_.Loads i_20).High))) ?_; rintro _ _ ⟨rfl, rfl⟩; refine ⟨(fun w hw => hw.sub (by repeat first | exact S0 | exact S1 | refine S2 ?_ | refine S3 ?_)), ?_⟩; refine TS.run 3 rfl ?_; refine TS.gs rfl rfl rfl rfl (fun h29 => ?_) (fun h29 => ?_)
                          · have p29 := h29; (try simp only [nfB] at p29); replace hk := zab hk h29; refine TS.run 10 rfl ?_; refine TS.eff ?_; refine TSo.off rfl (Wt.undef rfl rfl rfl) rfl rfl ?_; refine TS.eff ?_; refine TSo.off rfl (Wt.undef rfl rfl rfl) rfl rfl ?_; refine TS.eff ?_; refine TSo.off rfl (Wt.undef rfl rfl rfl) rfl rfl ?_; refine TS.run 3 rfl ?_; refine TS.done ?_; refine K.pick [1, 2] rfl (by decide) ?_; exact K.ak (true, F8) ⟨hk, (Frz.Le.refl _)⟩ (.c (.c (.c .nil))) (List.Sublist.refl _)
                          · have p29 := h29; (try simp only [nfB] at p29); replace hk := zaa hk h29; refine TS.run 3 rfl ?_; refine TS.gs rfl rfl rfl rfl (fun h30 => ?_) (fun h30 => ?_)
                            · have p30 := of_decide_eq_true h30; replace hk := zab hk h30; refine TS.y rfl (Yv.fieldAddr rfl rfl) ?_; refine TS.y rfl (Yv.ab 1 rfl rfl rfl rfl) ?_; refine TS.run 1 rfl ?_; refine TS.y rfl (Yv.aO rfl rfl rfl (by omega)) ?_; refine TS.y rfl (Yv.az (i := ((i_20 : Int) - 1).toNat) rfl rfl rfl (SlC.mono hr__1 le1_8) (List.length_map _) (by omega) (by omega)) ?_; refine TS.y rfl (Yv.aE 2 (i := ((i_20 : Int) - 1).toNat) rfl rfl rfl (SlC.mono hr__1 le1_8) (by omega) rfl rfl rfl) ?_; refine TS.y rfl (Yv.al 0 rfl rfl rfl rfl) ?_; refine TS.eff ?_; refine TSo.aL rfl (Wt.some rfl rfl rfl rfl) rfl rfl (Ew.aR 2 rfl rfl rfl rfl (fun w hw hF => zdt _ w hF (nth r_.Loads (((i_20 : Int) - 1).toNat)))) ?_; rintro _ _ ⟨v146_0_0, F10, le8_10, hf146_0_0, hq, rfl⟩; obtain rfl := hq.symm; have le1_10 := le1_8.trans le8_10; have le2_10 := le2_8.trans le8_10; haveI := hf146_0_0.oneC; refine ⟨(fun w hw => (hw.frLe (i := 2) rfl le8_10).sub (by repeat first | exact S0 | exact S1 | refine S2 ?_ | refine S3 ?_)), ?_⟩; refine TS.eff ?_; refine TSo.aL rfl (Wt.some rfl rfl rfl rfl) rfl rfl (Ew.aR 2 rfl rfl rfl rfl (fun w hw hF => zdt _ w hF (nth r_.Loads i_20))) ?_; rintro _ _ ⟨v148_0_0, F11, le10_11, hf148_0_0, hq, rfl⟩; obtain rfl := hq.symm; have le1_11 := le1_10.trans le10_11; have le2_11 := le2_10.trans le10_11; have le8_11 := le8_10.trans le10_11; haveI := hf148_0_0.oneC; refine ⟨(fun w hw => (hw.frLe (i := 2) rfl le8_11).sub (by repeat first | exact S0 | exact S1 | refine S2 ?_ | refine S3 ?_)), ?_⟩; refine TS.eff ?_; have hq := zak hk; clear hk; obtain ⟨r149, hr149, hk⟩ := hq; refine TSo.aL rfl (Wt.some rfl rfl rfl rfl) rfl rfl (Ew.af rfl rfl rfl (fun w hw => zdd _ w (hw.fr (i := 2) rfl) (zas (nth r_.Loads (((i_20 : Int) - 1).toNat))) v146_0_0 (SlC.mono hf146_0_0 le10_11) (zas (nth r_.Loads i_20)) v148_0_0 hf148_0_0 r149 hr149)) ?_; rintro _ _ ⟨rfl, rfl⟩; refine ⟨(fun w hw => (hw.frLe (i := 2) rfl le8_11).sub (by repeat first | exact S0 | exact S1 | refine S2 ?_ | refine S3 ?_)), ?_⟩; refine TS.run 3 rfl ?_; refine TS.done ?_; refine K.pick [1, 2] rfl (by decide) ?_; exact K.ak (!r149, F11) ⟨hk, le8_11⟩ (.c (.c (.c .nil))) (List.Sublist.refl _)
                            · have p30 := of_decide_eq_false h30; replace hk := zaa hk h30; refine TS.run 7 rfl ?_; refine TS.eff ?_; refine TSo.off rfl (Wt.not rfl rfl rfl rfl) rfl rfl ?_; refine TS.eff ?_; refine TSo.off rfl (Wt.not rfl rfl rfl rfl) rfl rfl ?_; refine TS.eff ?_; refine TSo.off rfl (Wt.not rfl rfl rfl rfl) rfl rfl ?_; refine TS.run 3 rfl ?_; refine TS.done ?_; refine K.pick [1, 2] rfl (by decide) ?_; exact K.ak (false, F8) ⟨hk, (Frz.Le.refl _)⟩ (.c (.c (.c .nil))) (List.Sublist.refl _)
              · rintro ⟨x_22, F9⟩ ⟨hk, le8_9⟩; (try dsimp only at *); rw [← hk23] at hk; (try dsimp only at hk); have le1_9 := le1_8.trans le8_9; have le2_9 := le2_8.trans le8_9; refine T.cond rfl (fun h31 => ?_) (fun h31 => ?_)
                · have p31 := h31; (try simp only [nfB] at p31); replace hk := zab hk h31; refine T.seq (T.region ?_); refine TL.run 1 rfl ?_; refine TL.nil (K.seq (T.ret (K.ah (K.aa (K.aa (K.ah (K.aa ?_))))))); obtain rfl := Option.some.inj hk; exact K.ag rfl rfl (fun w' hw => ⟨rfl, hw.isBelow⟩)
                · have p31 := h31; (try simp only [nfB] at p31); replace hk := zaa hk h31; refine T.skip (K.ad (K.seq (T.region ?_))); refine TL.run 1 rfl ?_; refine TL.y (Yv.am rfl rfl rfl (by omega)) ?_; refine TL.run 1 rfl ?_; refine TL.nil ?_; rw [← hn19] at hk; exact K.next ((i_20 + 1), F9) ⟨hk, le2_9⟩ (by dsimp only; omega) (.c (.c .nil)) (List.Sublist.refl _)
            · have p21 := of_decide_eq_false h21; rw [zaC (by omega), ← hkk19] at hk; (try dsimp only at hk); refine T.exit (K.ac (K.ac (K.ae ?_))); exact K.ak F8 ⟨hk, le2_8⟩ (.c .nil) (List.Sublist.refl _)
        · rintro F7 ⟨hk, le2_7⟩; rw [← hk18] at hk; (try dsimp only at hk); have le1_7 := le1_2.trans le2_7; refine T.seq (T.seq (T.region ?_)); refine TL.run 1 rfl ?_; refine TL.nil (K.seq ?_); have hq := zag hk; clear hk; obtain ⟨k32, hk32, hk⟩ := hq; (try dsimp only at hk); refine T.ao (ι := FzB w (fun _ => False) S0) (fun z => []) (fun z => [.fr z]) (fun z => k32 () = some r ∧ F7.toFrz.Le z.toFrz) ?_ ?_
          · have hq := zan hk; clear hk; obtain ⟨f33, kk33, hf33, hkk33, hk⟩ := hq; refine T.block ?_; refine T.loop (ι := Nat × FzB w (fun _ => False) S0) (fun z => [(1, .pointer (some ⟨g1, 0, none⟩)), (7, .int .i64 (z.1 : Int))]) (fun z => [.row g1 27 [vr__0, vr__1, vr__2], .fr z.2]) (fun z => zah f33 kk33 (r_.Caps.length - z.1) z.1 () = some r ∧ F7.toFrz.Le z.2.toFrz) (fun z => r_.Caps.length - z.1) (0, F7) ?_ ?_ ?_ ?_
            · exact ⟨hk, (Frz.Le.refl _)⟩
            · exact (.c (.c .nil))
            · exact List.Sublist.refl _
            · rintro ⟨i_34, F13⟩ ⟨hk, le7_13⟩; (try dsimp only at *); have le1_13 := le1_7.trans le7_13; have le2_13 := le2_7.trans le7_13; refine T.seq (T.seq (T.region ?_)); refine TL.run 1 rfl ?_; refine TL.y (Yv.fieldAddr rfl rfl) ?_; refine TL.y (Yv.ab 0 rfl rfl rfl rfl) ?_; refine TL.y (Yv.aA rfl rfl (SlC.mono hr__2 le1_13) (List.length_map _)) ?_; refine TL.run 1 rfl ?_; refine TL.nil (K.seq ?_); refine T.cond rfl (fun h35 => ?_) (fun h35 => ?_)
              · have p35 := of_decide_eq_true h35; rw [zaE (by omega)] at hk; generalize hn33 : zah f33 kk33 (r_.Caps.length - (i_34 + 1)) (i_34 + 1) = next33 at hk; rw [← hf33] at hk; (try dsimp only at hk); refine T.skip (K.seq (T.seq (T.block (T.seq (T.region ?_))))); refine TL.y (Yv.fieldAddr rfl rfl) ?_; refine TL.y (Yv.ab 0 rfl rfl rfl rfl) ?_; refine TL.run 1 rfl ?_; refine TL.y (Yv.az (i := i_34) rfl rfl rfl (SlC.mono hr__2 le1_13) (List.length_map _) rfl (by omega)) ?_; refine TL.y (Yv.aE 1 (i := i_34) rfl rfl rfl (SlC.mono hr__2 le1_13) (by omega) rfl rfl rfl) ?_; refine TL.e (Ew.alloc rfl) ?_; rintro _ _ ⟨g8, rfl, rfl⟩; refine TL.e0 (Ew.aj 0 rfl rfl rfl rfl rfl rfl) ?_; rintro _ _ ⟨rfl, rfl⟩; refine TL.nil (K.seq (T.seq ?_)); (try dsimp only at hk); have hq := zag hk; clear hk; obtain ⟨k37, hk37, hk⟩ := hq; (try dsimp only at hk); refine T.ao (ι := Bool × FzB w (fun _ => False) S0) (fun z => [(1, .pointer (some ⟨g1, 0, none⟩)), (7, .int .i64 (i_34 : Int)), (203, .bool z.1)]) (fun z => [.row g1 27 [vr__0, vr__1, vr__2], .fr z.2]) (fun z => k37 z.1 = some r ∧ F13.toFrz.Le z.2.toFrz) ?_ ?_
                · refine T.aw (.still 0 (.still 1 (.eff 2 (.still 3 (.still 4 (.still 5 (.still 6 (.still 7 (.still 8 (.still 9 (.still 10 (.still 11 (.still 12 (.still 13 (.still 14 (.still 15 (.still 16 (.still 17 (.still 18 (.eff 19 (.still 20 (.still 21 (.still 22 (.still 23 (.still 24 (.still 25 (.still 26 (.still 27 (.still 28 (.still 29 (.still 30 (.still 31 (.still 33 (.eff 32 (.eff 34 (.eff 35 (.still 36 (.still 37 (.still 38 .done))))))))))))))))))))))))))))))))))))))) _ (by kernel_rfl) (List.Sublist.refl _) ?_; refine TS.y rfl (Yv.fieldAddr rfl rfl) ?_; refine TS.y rfl (Yv.ab 0 rfl rfl rfl rfl) ?_; refine TS.eff ?_; refine TSo.aL rfl (Wt.none rfl) rfl rfl (Ew.af rfl rfl rfl (fun w hw => za6 _ w (hw.fr (i := 2) rfl) ((nth r_.Caps i_34).Station))) ?_; rintro _ _ ⟨rfl, rfl⟩; refine ⟨(fun w hw => hw.sub (by repeat first | exact S0 | exact S1 | refine S2 ?_ | refine S3 ?_)), ?_⟩; refine TS.run 2 rfl ?_; refine TS.gs rfl rfl rfl rfl (fun h38 => ?_) (fun h38 => ?_)
                  · have p38 := h38; (try simp only [nfB] at p38); replace hk := zab hk h38; refine TS.run 14 rfl ?_; refine TS.eff ?_; refine TSo.off rfl (Wt.not rfl rfl rfl rfl) rfl rfl ?_; refine TS.run 13 rfl ?_; refine TS.eff ?_; refine TSo.off rfl (Wt.undef rfl rfl rfl) rfl rfl ?_; refine TS.eff ?_; refine TSo.off rfl (Wt.undef rfl rfl rfl) rfl rfl ?_; refine TS.eff ?_; refine TSo.off rfl (Wt.undef rfl rfl rfl) rfl rfl ?_; refine TS.run 3 rfl ?_; refine TS.done ?_; refine K.pick [1, 2] rfl (by decide) ?_; exact K.ak (true, F13) ⟨hk, (Frz.Le.refl _)⟩ (.c (.c (.c .nil))) (List.Sublist.refl _)
                  · have p38 := h38; (try simp only [nfB] at p38); replace hk := zaa hk h38; refine TS.y rfl (Yv.fieldAddr rfl rfl) ?_; refine TS.y rfl (Yv.ab 0 rfl rfl rfl rfl) ?_; refine TS.run 3 rfl ?_; refine TS.gs rfl rfl rfl rfl (fun h39 => ?_) (fun h39 => ?_)
                    · have p39 := of_decide_eq_true h39; replace hk := zab hk h39; refine TS.run 9 rfl ?_; refine TS.eff ?_; refine TSo.off rfl (Wt.not rfl rfl rfl rfl) rfl rfl ?_; refine TS.run 13 rfl ?_; refine TS.eff ?_; refine TSo.off rfl (Wt.undef rfl rfl rfl) rfl rfl ?_; refine TS.eff ?_; refine TSo.off rfl (Wt.undef rfl rfl rfl) rfl rfl ?_; refine TS.eff ?_; refine TSo.off rfl (Wt.undef rfl rfl rfl) rfl rfl ?_; refine TS.run 3 rfl ?_; refine TS.done ?_; refine K.pick [1, 2] rfl (by decide) ?_; exact K.ak (true, F13) ⟨hk, (Frz.Le.refl _)⟩ (.c (.c (.c .nil))) (List.Sublist.refl _)
                    · have p39 := of_decide_eq_false h39; replace hk := zaa hk h39; refine TS.y rfl (Yv.fieldAddr rfl rfl) ?_; refine TS.y rfl (Yv.ab 0 rfl rfl rfl rfl) ?_; refine TS.run 3 rfl ?_; refine TS.gs rfl rfl rfl rfl (fun h40 => ?_) (fun h40 => ?_)
                      · have p40 := of_decide_eq_true h40; replace hk := zab hk h40; refine TS.run 4 rfl ?_; refine TS.eff ?_; refine TSo.off rfl (Wt.not rfl rfl rfl rfl) rfl rfl ?_; refine TS.run 13 rfl ?_; refine TS.eff ?_; refine TSo.off rfl (Wt.undef rfl rfl rfl) rfl rfl ?_; refine TS.eff ?_; refine TSo.off rfl (Wt.undef rfl rfl rfl) rfl rfl ?_; refine TS.eff ?_; refine TSo.off rfl (Wt.undef rfl rfl rfl) rfl rfl ?_; refine TS.run 3 rfl ?_; refine TS.done ?_; refine K.pick [1, 2] rfl (by decide) ?_; exact K.ak (true, F13) ⟨hk, (Frz.Le.refl _)⟩ (.c (.c (.c .nil))) (List.Sublist.refl _)
                      · have p40 := of_decide_eq_false h40; replace hk := zaa hk h40; refine TS.y rfl (Yv.fieldAddr rfl rfl) ?_; refine TS.y rfl (Yv.ab 0 rfl rfl rfl rfl) ?_; refine TS.y rfl (Yv.fieldAddr rfl rfl) ?_; refine TS.y rfl (Yv.ab 0 rfl rfl rfl rfl) ?_; refine TS.eff ?_; refine TSo.aL rfl (Wt.some rfl rfl rfl rfl) rfl rfl (Ew.af rfl rfl rfl (fun w hw => zde _ w (hw.fr (i := 2) rfl) ((nth r_.Caps i_34).Low) ((nth r_.Caps i_34).High))) ?_; rintro _ _ ⟨rfl, rfl⟩; refine ⟨(fun w hw => hw.sub (by repeat first | exact S0 | exact S1 | refine S2 ?_ | refine S3 ?_)), ?_⟩; refine TS.run 3 rfl ?_; refine TS.gs rfl rfl rfl rfl (fun h41 => ?_) (fun h41 => ?_)
                        · have p41 := h41; (try simp only [nfB] at p41); replace hk := zab hk h41; refine TS.run 10 rfl ?_; refine TS.eff ?_; refine TSo.off rfl (Wt.undef rfl rfl rfl) rfl rfl ?_; refine TS.eff ?_; refine TSo.off rfl (Wt.undef rfl rfl rfl) rfl rfl ?_; refine TS.eff ?_; refine TSo.off rfl (Wt.undef rfl rfl rfl) rfl rfl ?_; refine TS.run 3 rfl ?_; refine TS.done ?_; refine K.pick [1, 2] rfl (by decide) ?_; exact K.ak (true, F13) ⟨hk, (Frz.Le.refl _)⟩ (.c (.c (.c .nil))) (List.Sublist.refl _)
                        · have p41 := h41; (try simp only [nfB] at p41); replace hk := zaa hk h41; refine TS.run 3 rfl ?_; refine TS.gs rfl rfl rfl rfl (fun h42 => ?_) (fun h42 => ?_)
                          · have p42 := of_decide_eq_true h42; replace hk := zab hk h42; refine TS.y rfl (Yv.fieldAddr rfl rfl) ?_; refine TS.y rfl (Yv.ab 1 rfl rfl rfl rfl) ?_; refine TS.run 1 rfl ?_; refine TS.y rfl (Yv.aO rfl rfl rfl (by omega)) ?_; refine TS.y rfl (Yv.az (i := ((i_34 : Int) - 1).toNat) rfl rfl rfl (SlC.mono hr__2 le1_13) (List.length_map _) (by omega) (by omega)) ?_; refine TS.y rfl (Yv.aE 2 (i := ((i_34 : Int) - 1).toNat) rfl rfl rfl (SlC.mono hr__2 le1_13) (by omega) rfl rfl rfl) ?_; refine TS.y rfl (Yv.al 0 rfl rfl rfl rfl) ?_; refine TS.eff ?_; refine TSo.aL rfl (Wt.some rfl rfl rfl rfl) rfl rfl (Ew.aR 2 rfl rfl rfl rfl (fun w hw hF => zdY _ w hF (nth r_.Caps (((i_34 : Int) - 1).toNat)))) ?_; rintro _ _ ⟨v197_0_0, F15, le13_15, hf197_0_0, hq, rfl⟩; obtain rfl := hq.symm; have le1_15 := le1_13.trans le13_15; have le2_15 := le2_13.trans le13_15; have le7_15 := le7_13.trans le13_15; haveI := hf197_0_0.oneC; refine ⟨(fun w hw => (hw.frLe (i := 2) rfl le13_15).sub (by repeat first | exact S0 | exact S1 | refine S2 ?_ | refine S3 ?_)), ?_⟩; refine TS.eff ?_; refine TSo.aL rfl (Wt.some rfl rfl rfl rfl) rfl rfl (Ew.aR 2 rfl rfl rfl rfl (fun w hw hF => zdY _ w hF (nth r_.Caps i_34))) ?_; rintro _ _ ⟨v199_0_0, F16, le15_16, hf199_0_0, hq, rfl⟩; obtain rfl := hq.symm; have le1_16 := le1_15.trans le15_16; have le2_16 := le2_15.trans le15_16; have le7_16 := le7_15.trans le15_16; have le13_16 := le13_15.trans le15_16; haveI := hf199_0_0.oneC; refine ⟨(fun w hw => (hw.frLe (i := 2) rfl le13_16).sub (by repeat first | exact S0 | exact S1 | refine S2 ?_ | refine S3 ?_)), ?_⟩; refine TS.eff ?_; have hq := zak hk; clear hk; obtain ⟨r200, hr200, hk⟩ := hq; refine TSo.aL rfl (Wt.some rfl rfl rfl rfl) rfl rfl (Ew.af rfl rfl rfl (fun w hw => zdd _ w (hw.fr (i := 2) rfl) (zaD (nth r_.Caps (((i_34 : Int) - 1).toNat))) v197_0_0 (SlC.mono hf197_0_0 le15_16) (zaD (nth r_.Caps i_34)) v199_0_0 hf199_0_0 r200 hr200)) ?_; rintro _ _ ⟨rfl, rfl⟩; refine ⟨(fun w hw => (hw.frLe (i := 2) rfl le13_16).sub (by repeat first | exact S0 | exact S1 | refine S2 ?_ | refine S3 ?_)), ?_⟩; refine TS.run 3 rfl ?_; refine TS.done ?_; refine K.pick [1, 2] rfl (by decide) ?_; exact K.ak (!r200, F16) ⟨hk, le13_16⟩ (.c (.c (.c .nil))) (List.Sublist.refl _)
                          · have p42 := of_decide_eq_false h42; replace hk := zaa hk h42; refine TS.run 7 rfl ?_; refine TS.eff ?_; refine TSo.off rfl (Wt.not rfl rfl rfl rfl) rfl rfl ?_; refine TS.eff ?_; refine TSo.off rfl (Wt.not rfl rfl rfl rfl) rfl rfl ?_; refine TS.eff ?_; refine TSo.off rfl (Wt.not rfl rfl rfl rfl) rfl rfl ?_; refine TS.run 3 rfl ?_; refine TS.done ?_; refine K.pick [1, 2] rfl (by decide) ?_; exact K.ak (false, F13) ⟨hk, (Frz.Le.refl _)⟩ (.c (.c (.c .nil))) (List.Sublist.refl _)
                · rintro ⟨x_36, F14⟩ ⟨hk, le13_14⟩; (try dsimp only at *); rw [← hk37] at hk; (try dsimp only at hk); have le1_14 := le1_13.trans le13_14; have le2_14 := le2_13.trans le13_14; have le7_14 := le7_13.trans le13_14; refine T.cond rfl (fun h43 => ?_) (fun h43 => ?_)
                  · have p43 := h43; (try simp only [nfB] at p43); replace hk := zab hk h43; refine T.seq (T.region ?_); refine TL.run 1 rfl ?_; refine TL.nil (K.seq (T.ret (K.ah (K.aa (K.aa (K.ah (K.aa ?_))))))); obtain rfl := Option.some.inj hk; exact K.ag rfl rfl (fun w' hw => ⟨rfl, hw.isBelow⟩)
                  · have p43 := h43; (try simp only [nfB] at p43); replace hk := zaa hk h43; refine T.skip (K.ad (K.seq (T.region ?_))); refine TL.run 1 rfl ?_; refine TL.y (Yv.am rfl rfl rfl (by omega)) ?_; refine TL.run 1 rfl ?_; refine TL.nil ?_; rw [← hn33] at hk; exact K.next ((i_34 + 1), F14) ⟨hk, le7_14⟩ (by dsimp only; omega) (.c (.c .nil)) (List.Sublist.refl _)
              · have p35 := of_decide_eq_false h35; rw [zaC (by omega), ← hkk33] at hk; (try dsimp only at hk); refine T.exit (K.ac (K.ac (K.ae ?_))); refine K.pick [1] rfl (by decide) ?_; exact K.ak F13 ⟨hk, le7_13⟩ .nil (List.Sublist.refl _)
          · rintro F12 ⟨hk, le7_12⟩; rw [← hk32] at hk; (try dsimp only at hk); have le1_12 := le1_7.trans le7_12; have le2_12 := le2_7.trans le7_12; refine T.seq (T.region ?_); refine TL.run 1 rfl ?_; refine TL.nil (K.seq (T.ret ?_)); obtain rfl := Option.some.inj hk; exact K.ag rfl rfl (fun w' hw => ⟨rfl, hw.isBelow⟩)
def zbM (p : GProblem) : Option Bool :=
  zaF (fun (x_1 : Bool) =>
    (bif x_1 then
      some false
      else
      zaF (fun (_ : Unit) =>
        zaF (fun (_ : Unit) =>
          zaF (fun (_ : Unit) =>
            zaF (fun (_ : Unit) =>
              some true)
            (fun k32 =>
              zah (fun (i_34 : Nat) (next33 : Unit → Option Bool) (_ : Unit) =>
                (bif decide ((zac p ((nth p.Rules.Caps i_34).Station)) < 0) then
                  some false
                  else
                  next33 ()))
              (fun (_ : Unit) =>
                k32 ()) (p.Rules.Caps.length - 0) 0 ()))
          (fun k26 =>
            zah (fun (i_28 : Nat) (next27 : Unit → Option Bool) (_ : Unit) =>
              (bif ((decide ((zac p ((nth p.Rules.Loads i_28).To)) < 0)) || (decide ((zac p ((nth p.Rules.Loads i_28).From)) < 0))) then
                some false
                else
                next27 ()))
            (fun (_ : Unit) =>
              k26 ()) (p.Rules.Loads.length - 0) 0 ()))
        (fun k20 =>
          zah (fun (i_22 : Nat) (next21 : Unit → Option Bool) (_ : Unit) =>
            (bif ((decide ((zac p ((nth p.Rules.Pairs i_22).A)) < 0)) || (decide ((zac p ((nth p.Rules.Pairs i_22).B)) < 0))) then
              some false
              else
              next21 ()))
          (fun (_ : Unit) =>
            k20 ()) (p.Rules.Pairs.length - 0) 0 ()))
      (fun k5 =>
        zah (fun (i_7 : Nat) (next6 : Unit → Option Bool) (_ : Unit) =>
          (bif (((!(zal ((nth p.Domains i_7).Station))) || ((decide (0 < (i_7 : Int))) && (decide ((nth p.Domains i_7).Station ≤ (nth p.Domains (((i_7 : Int) - 1).toNat)).Station)))) || (decide (50 < (((nth p.Domains i_7).Channels).length : Int)))) then
            some false
            else
            zah (fun (k_14 : Nat) (next13 : Unit → Option Bool) (_ : Unit) =>
              (bif (((decide ((nth ((nth p.Domains i_7).Channels) k_14) < 2)) || (decide (51 < (nth ((nth p.Domains i_7).Channels) k_14)))) || ((decide (0 < (k_14 : Int))) && (decide ((nth ((nth p.Domains i_7).Channels) k_14) ≤ (nth ((nth p.Domains i_7).Channels) (((k_14 : Int) - 1).toNat)))))) then
                some false
                else
                next13 ()))
            (fun (_ : Unit) =>
              next6 ()) ((((nth p.Domains i_7).Channels).length) - 0) 0 ()))
        (fun (_ : Unit) =>
          k5 ()) (p.Domains.length - 0) 0 ())))
  (fun k2 =>
    (bif decide (512 < (p.Domains.length : Int)) then
      k2 true
      else
      (zbb p.Rules).bind fun r16 =>
      k2 (!r16)))
theorem zfG (F0 : Frz) (w : World) (hF0 : F0.At w) (p : GProblem) (vp_0 : Value) (cp_0 : List (List Value)) (hp_0 : SlD GDomain.rep F0 vp_0 2 cp_0 p.Domains) (vp_1 : Value) (hp_1 : SlC F0 vp_1 5 (p.Rules.Pairs.map GPair.enc)) (vp_2 : Value) (hp_2 : SlC F0 vp_2 5 (p.Rules.Loads.map GLoad.enc)) (vp_3 : Value) (hp_3 : SlC F0 vp_3 4 (p.Rules.Caps.map GCap.enc)) (r : Bool) (hr : zbM p = some r) : Calls Tryz.prog 10 #[.agg [vp_0, vp_1, vp_2, vp_3].toArray] w fun e w' => e = .returned (.bool r) ∧ Below w.heap.size w w' := by
  have hk := hr; unfold zbM at hk; haveI := hp_0.1.oneC; haveI := hp_1.oneC; haveI := hp_2.oneC; haveI := hp_3.oneC; obtain ⟨S0, F1, rfl, hS0, hp0⟩ := zaq hF0; refine zad (M := fun _ => False) (hs := [.fr F1]) Tryz.func10 rfl rfl rfl hp0 ?_; refine T.seq (T.region ?_); refine TL.e (Ew.aB rfl rfl) ?_; rintro _ _ ⟨g1, rfl, rfl⟩; refine TL.run 1 rfl ?_; refine TL.nil (K.seq (T.seq (T.seq ?_))); (try dsimp only at hk); have hq := zag hk; clear hk; obtain ⟨k2, hk2, hk⟩ := hq; (try dsimp only at hk); refine T.ao (ι := Bool) (fun z => [(1, .pointer (some ⟨g1, 0, none⟩)), (18, .bool z)]) (fun z => [.row g1 29 [vp_0, vp_1, vp_2, vp_3], .fr F1]) (fun z => k2 z = some r) ?_ ?_
  · refine T.region ?_; refine TL.y (Yv.fieldAddr rfl rfl) ?_; refine TL.y (Yv.ab 0 rfl rfl rfl rfl) ?_; refine TL.y (Yv.aA rfl rfl hp_0.1 hp_0.2.1) ?_; have hm11 : p.Domains.length ≤ 9223372036854775807 := hp_0.2.1 ▸ hp_0.1.max; refine TL.run 2 rfl ?_; refine TL.gs rfl rfl rfl (fun h3 => ?_) (fun h3 => ?_)
    · have p3 := of_decide_eq_true h3; replace hk := zab hk h3; refine TL.run 5 rfl ?_; refine TL.nil ?_; exact K.ak true hk (.c (.c .nil)) (List.Sublist.refl _)
    · have p3 := of_decide_eq_false h3; replace hk := zaa hk h3; refine TL.y (Yv.fieldAddr rfl rfl) ?_; refine TL.y (Yv.bJ 0 (m := [vp_1, vp_2, vp_3]) rfl rfl rfl rfl rfl) ?_; have hq := zak hk; clear hk; obtain ⟨r16, hr16, hk⟩ := hq; refine TL.e (Ew.af rfl rfl rfl (fun w hw => zd0 _ w (hw.fr (i := 1) rfl) p.Rules vp_1 hp_1 vp_2 hp_2 vp_3 hp_3 r16 hr16)) ?_; rintro _ _ ⟨rfl, rfl⟩; refine TL.run 2 rfl ?_; refine TL.nil ?_; exact K.ak (!r16) hk (.c (.c .nil)) (List.Sublist.refl _)
  · rintro x_1 hk; rw [← hk2] at hk; (try dsimp only at hk); refine T.cond rfl (fun h4 => ?_) (fun h4 => ?_)
    · have p4 := h4; (try simp only [nfB] at p4); replace hk := zab hk h4; refine T.seq (T.region ?_); refine TL.run 1 rfl ?_; refine TL.nil (K.seq (T.ret (K.aa ?_))); obtain rfl := Option.some.inj hk; exact K.ag rfl rfl (fun w' hw => ⟨rfl, hw.isBelow⟩)
    · have p4 := h4; (try simp only [nfB] at p4); replace hk := zaa hk h4; refine T.skip (K.seq (T.seq (T.seq (T.region ?_)))); refine TL.run 1 rfl ?_; refine TL.nil (K.seq ?_); have hq := zag hk; clear hk; obtain ⟨k5, hk5, hk⟩ := hq; (try dsimp only at hk); refine T.ao (ι := Unit) (fun z => [(1, .pointer (some ⟨g1, 0, none⟩))]) (fun z => [.row g1 29 [vp_0, vp_1, vp_2, vp_3], .fr F1]) (fun z => k5 () = some r) ?_ ?_
      · have hq := zan hk; clear hk; obtain ⟨f6, kk6, hf6, hkk6, hk⟩ := hq; refine T.block ?_; refine T.loop (ι := Nat) (fun z => [(1, .pointer (some ⟨g1, 0, none⟩)), (3, .int .i64 (z : Int))]) (fun z => [.row g1 29 [vp_0, vp_1, vp_2, vp_3], .fr F1]) (fun z => zah f6 kk6 (p.Domains.length - z) z () = some r) (fun z => p.Domains.length - z) 0 ?_ ?_ ?_ ?_
        · exact hk
        · exact (.c (.c .nil))
        · exact List.Sublist.refl _
        · rintro i_7 hk; refine T.seq (T.seq (T.region ?_)); refine TL.run 1 rfl ?_; refine TL.y (Yv.fieldAddr rfl rfl) ?_; refine TL.y (Yv.ab 0 rfl rfl rfl rfl) ?_; refine TL.y (Yv.aA rfl rfl hp_0.1 hp_0.2.1) ?_; have hm22 : p.Domains.length ≤ 9223372036854775807 := hp_0.2.1 ▸ hp_0.1.max; refine TL.run 1 rfl ?_; refine TL.nil (K.seq ?_); refine T.cond rfl (fun h8 => ?_) (fun h8 => ?_)
          · have p8 := of_decide_eq_true h8; rw [zaE (by omega)] at hk; generalize hn6 : zah f6 kk6 (p.Domains.length - (i_7 + 1)) (i_7 + 1) = next6 at hk; rw [← hf6] at hk; (try dsimp only at hk); refine T.skip (K.seq (T.seq (T.block (T.seq (T.region ?_))))); refine TL.y (Yv.fieldAddr rfl rfl) ?_; refine TL.y (Yv.ab 0 rfl rfl rfl rfl) ?_; refine TL.run 1 rfl ?_; refine TL.y (Yv.az (i := i_7) rfl rfl rfl hp_0.1 hp_0.2.1 rfl (by omega)) ?_; refine TL.y (Yv.by 1 (i := i_7) (j := 0) rfl rfl rfl hp_0.1 hp_0.2.1 (by omega) rfl (GDomain.form (hp_0.2.2 i_7 (by omega))) rfl) ?_; have hd30_1 := (GDomain.c1 (hp_0.2.2 i_7 (by omega))).2; haveI := hd30_1.oneC; refine TL.e (Ew.alloc rfl) ?_; rintro _ _ ⟨g4, rfl, rfl⟩; refine TL.e0 (Ew.aj 0 rfl rfl rfl rfl rfl rfl) ?_; rintro _ _ ⟨rfl, rfl⟩; refine TL.nil (K.seq (T.seq (T.seq ?_))); refine T.ao (ι := Unit) (fun z => [(1, .pointer (some ⟨g1, 0, none⟩)), (3, .int .i64 (i_7 : Int)), (4, .pointer (some ⟨g4, 0, none⟩)), (56, .bool (((!(zal ((nth p.Domains i_7).Station))) || ((decide (0 < (i_7 : Int))) && (decide ((nth p.Domains i_7).Station ≤ (nth p.Domains (((i_7 : Int) - 1).toNat)).Station)))) || (decide (50 < (((nth p.Domains i_7).Channels).length : Int)))))]) (fun z => [.row g4 48 [.int .i64 ((nth p.Domains i_7).Station), (nth (nth cp_0 i_7) 1)], .row g1 29 [vp_0, vp_1, vp_2, vp_3], .fr F1]) (fun z => True) ?_ ?_
            · refine T.aw (.still 0 (.still 1 (.eff 2 (.still 3 (.still 4 (.still 5 (.still 6 (.still 7 (.still 8 (.still 9 (.still 10 (.still 11 (.still 12 (.still 13 (.still 14 (.still 15 (.still 16 (.still 17 (.still 18 (.still 19 (.still 20 (.still 21 (.still 22 (.still 23 (.still 24 (.still 25 .done)))))))))))))))))))))))))) _ (by kernel_rfl) (List.Sublist.refl _) ?_; refine TS.y rfl (Yv.fieldAddr rfl rfl) ?_; refine TS.y rfl (Yv.ab 0 rfl rfl rfl rfl) ?_; refine TS.eff ?_; refine TSo.aL rfl (Wt.none rfl) rfl rfl (Ew.af rfl rfl rfl (fun w hw => za6 _ w (hw.fr (i := 2) rfl) ((nth p.Domains i_7).Station))) ?_; rintro _ _ ⟨rfl, rfl⟩; refine ⟨(fun w hw => hw.sub (by repeat first | exact S0 | exact S1 | refine S2 ?_ | refine S3 ?_)), ?_⟩; refine TS.run 2 rfl ?_; refine TS.gs rfl rfl rfl rfl (fun h9 => ?_) (fun h9 => ?_)
              · have p9 := h9; (try simp only [nfB] at p9); refine TS.run 21 rfl ?_; refine TS.done ?_; exact K.ak () trivial (.c (.c (.c (.b (zbD (zbD h9)).symm .nil)))) (List.Sublist.refl _)
              · have p9 := h9; (try simp only [nfB] at p9); refine TS.run 3 rfl ?_; refine TS.gs rfl rfl rfl rfl (fun h10 => ?_) (fun h10 => ?_)
                · have p10 := of_decide_eq_true h10; refine TS.y rfl (Yv.fieldAddr rfl rfl) ?_; refine TS.y rfl (Yv.ab 1 rfl rfl rfl rfl) ?_; refine TS.run 1 rfl ?_; refine TS.y rfl (Yv.aO rfl rfl rfl (by omega)) ?_; refine TS.y rfl (Yv.az (i := ((i_7 : Int) - 1).toNat) rfl rfl rfl hp_0.1 hp_0.2.1 (by omega) (by omega)) ?_; refine TS.y rfl (Yv.aQ rfl rfl hp_0.1 hp_0.2.1 (by omega)) ?_; refine TS.y rfl (Yv.loadR 2 (i := ((i_7 : Int) - 1).toNat) (j := 0) rfl rfl rfl hp_0.1 hp_0.2.1 (by omega) rfl (GDomain.c0 (hp_0.2.2 (((i_7 : Int) - 1).toNat) (by omega)))) ?_; refine TS.y rfl (Yv.fieldAddr rfl rfl) ?_; refine TS.y rfl (Yv.ab 0 rfl rfl rfl rfl) ?_; refine TS.run 4 rfl ?_; refine TS.gs rfl rfl rfl rfl (fun h11 => ?_) (fun h11 => ?_)
                  · have p11 := of_decide_eq_true h11; refine TS.run 5 rfl ?_; refine TS.done ?_; exact K.ak () trivial (.c (.c (.c (.b (zbD (zca h9 (zbQ h10 h11))).symm .nil)))) (List.Sublist.refl _)
                  · have p11 := of_decide_eq_false h11; refine TS.y rfl (Yv.fieldAddr rfl rfl) ?_; refine TS.y rfl (Yv.ab 0 rfl rfl rfl rfl) ?_; refine TS.y rfl (Yv.aA rfl rfl hd30_1 (List.length_map _)) ?_; have hm54 : ((nth p.Domains i_7).Channels).length ≤ 9223372036854775807 := (List.length_map _) ▸ hd30_1.max; refine TS.run 2 rfl ?_; refine TS.done ?_; exact K.ak () trivial (.c (.c (.c (.b (or_f (zca h9 (zbQ h10 h11))) .nil)))) (List.Sublist.refl _)
                · have p10 := of_decide_eq_false h10; refine TS.run 13 rfl ?_; refine TS.y rfl (Yv.fieldAddr rfl rfl) ?_; refine TS.y rfl (Yv.ab 0 rfl rfl rfl rfl) ?_; refine TS.y rfl (Yv.aA rfl rfl hd30_1 (List.length_map _)) ?_; have hm54 : ((nth p.Domains i_7).Channels).length ≤ 9223372036854775807 := (List.length_map _) ▸ hd30_1.max; refine TS.run 2 rfl ?_; refine TS.done ?_; exact K.ak () trivial (.c (.c (.c (.b (or_f (zca h9 (zbh h10))) .nil)))) (List.Sublist.refl _)
            · rintro _ _; have hm54 : ((nth p.Domains i_7).Channels).length ≤ 9223372036854775807 := (List.length_map _) ▸ hd30_1.max; refine T.cond rfl (fun h12 => ?_) (fun h12 => ?_)
              · have p12 := h12; (try simp only [nfB] at p12); replace hk := zab hk h12; refine T.seq (T.region ?_); refine TL.run 1 rfl ?_; refine TL.nil (K.seq (T.ret (K.aa (K.ah (K.aa (K.aa (K.ah (K.aa ?_)))))))); obtain rfl := Option.some.inj hk; exact K.ag rfl rfl (fun w' hw => ⟨rfl, hw.isBelow⟩)
              · have p12 := h12; (try simp only [nfB] at p12); replace hk := zaa hk h12; refine T.skip (K.seq (T.seq (T.region ?_))); refine TL.run 1 rfl ?_; refine TL.nil (K.seq ?_); have hq := zan hk; clear hk; obtain ⟨f13, kk13, hf13, hkk13, hk⟩ := hq; refine T.block ?_; refine T.loop (ι := Nat) (fun z => [(1, .pointer (some ⟨g1, 0, none⟩)), (3, .int .i64 (i_7 : Int)), (4, .pointer (some ⟨g4, 0, none⟩)), (5, .int .i64 (z : Int))]) (fun z => [.row g4 48 [.int .i64 ((nth p.Domains i_7).Station), (nth (nth cp_0 i_7) 1)], .row g1 29 [vp_0, vp_1, vp_2, vp_3], .fr F1]) (fun z => zah f13 kk13 ((((nth p.Domains i_7).Channels).length) - z) z () = some r) (fun z => (((nth p.Domains i_7).Channels).length) - z) 0 ?_ ?_ ?_ ?_
                · exact hk
                · exact (.c (.c (.c (.c .nil))))
                · exact List.Sublist.refl _
                · rintro k_14 hk; refine T.seq (T.seq (T.region ?_)); refine TL.run 1 rfl ?_; refine TL.y (Yv.fieldAddr rfl rfl) ?_; refine TL.y (Yv.ab 0 rfl rfl rfl rfl) ?_; refine TL.y (Yv.aA rfl rfl hd30_1 (List.length_map _)) ?_; refine TL.run 1 rfl ?_; refine TL.nil (K.seq ?_); refine T.cond rfl (fun h15 => ?_) (fun h15 => ?_)
                  · have p15 := of_decide_eq_true h15; rw [zaE (by omega)] at hk; generalize hn13 : zah f13 kk13 ((((nth p.Domains i_7).Channels).length) - (k_14 + 1)) (k_14 + 1) = next13 at hk; rw [← hf13] at hk; (try dsimp only at hk); refine T.skip (K.seq (T.seq (T.block (T.seq ?_)))); refine T.ao (ι := Unit) (fun z => [(1, .pointer (some ⟨g1, 0, none⟩)), (3, .int .i64 (i_7 : Int)), (4, .pointer (some ⟨g4, 0, none⟩)), (5, .int .i64 (k_14 : Int)), (95, .bool (((decide ((nth ((nth p.Domains i_7).Channels) k_14) < 2)) || (decide (51 < (nth ((nth p.Domains i_7).Channels) k_14)))) || ((decide (0 < (k_14 : Int))) && (decide ((nth ((nth p.Domains i_7).Channels) k_14) ≤ (nth ((nth p.Domains i_7).Channels) (((k_14 : Int) - 1).toNat)))))))]) (fun z => [.row g4 48 [.int .i64 ((nth p.Domains i_7).Station), (nth (nth cp_0 i_7) 1)], .row g1 29 [vp_0, vp_1, vp_2, vp_3], .fr F1]) (fun z => True) ?_ ?_
                    · refine T.aw (.still 0 (.still 1 (.still 2 (.still 3 (.still 4 (.still 5 (.still 6 (.still 7 (.still 8 (.still 9 (.still 10 (.still 11 (.still 12 (.still 13 (.still 14 (.still 15 (.still 16 (.still 17 (.still 18 (.still 19 (.still 20 (.still 21 (.still 22 (.still 23 (.still 24 (.still 25 (.still 26 (.still 27 (.still 28 (.still 29 (.still 30 (.still 31 .done)))))))))))))))))))))))))))))))) _ (by kernel_rfl) (List.Sublist.refl _) ?_; refine TS.y rfl (Yv.fieldAddr rfl rfl) ?_; refine TS.y rfl (Yv.ab 0 rfl rfl rfl rfl) ?_; refine TS.run 1 rfl ?_; refine TS.y rfl (Yv.az (i := k_14) rfl rfl rfl hd30_1 (List.length_map _) rfl (by omega)) ?_; refine TS.y rfl (Yv.aD 2 (i := k_14) (j := 0) rfl rfl rfl hd30_1 (by omega) rfl rfl) ?_; refine TS.run 2 rfl ?_; refine TS.gs rfl rfl rfl rfl (fun h16 => ?_) (fun h16 => ?_)
                      · have p16 := of_decide_eq_true h16; refine TS.run 25 rfl ?_; refine TS.done ?_; exact K.ak () trivial (.c (.c (.c (.c (.b (zbD (zbD h16)).symm .nil))))) (List.Sublist.refl _)
                      · have p16 := of_decide_eq_false h16; refine TS.y rfl (Yv.fieldAddr rfl rfl) ?_; refine TS.y rfl (Yv.ab 0 rfl rfl rfl rfl) ?_; refine TS.run 1 rfl ?_; refine TS.y rfl (Yv.az (i := k_14) rfl rfl rfl hd30_1 (List.length_map _) rfl (by omega)) ?_; refine TS.y rfl (Yv.aD 2 (i := k_14) (j := 0) rfl rfl rfl hd30_1 (by omega) rfl rfl) ?_; refine TS.run 3 rfl ?_; refine TS.gs rfl rfl rfl rfl (fun h17 => ?_) (fun h17 => ?_)
                        · have p17 := of_decide_eq_true h17; refine TS.run 17 rfl ?_; refine TS.done ?_; exact K.ak () trivial (.c (.c (.c (.c (.b (zbD (zca h16 h17)).symm .nil))))) (List.Sublist.refl _)
                        · have p17 := of_decide_eq_false h17; refine TS.run 3 rfl ?_; refine TS.gs rfl rfl rfl rfl (fun h18 => ?_) (fun h18 => ?_)
                          · have p18 := of_decide_eq_true h18; refine TS.y rfl (Yv.fieldAddr rfl rfl) ?_; refine TS.y rfl (Yv.ab 0 rfl rfl rfl rfl) ?_; refine TS.run 1 rfl ?_; refine TS.y rfl (Yv.aO rfl rfl rfl (by omega)) ?_; refine TS.y rfl (Yv.az (i := ((k_14 : Int) - 1).toNat) rfl rfl rfl hd30_1 (List.length_map _) (by omega) (by omega)) ?_; refine TS.y rfl (Yv.aD 2 (i := ((k_14 : Int) - 1).toNat) (j := 0) rfl rfl rfl hd30_1 (by omega) rfl rfl) ?_; refine TS.y rfl (Yv.fieldAddr rfl rfl) ?_; refine TS.y rfl (Yv.ab 0 rfl rfl rfl rfl) ?_; refine TS.run 1 rfl ?_; refine TS.y rfl (Yv.az (i := k_14) rfl rfl rfl hd30_1 (List.length_map _) rfl (by omega)) ?_; refine TS.y rfl (Yv.aD 2 (i := k_14) (j := 0) rfl rfl rfl hd30_1 (by omega) rfl rfl) ?_; refine TS.run 3 rfl ?_; refine TS.done ?_; exact K.ak () trivial (.c (.c (.c (.c (.b (Eq.trans (ze7 h18) (or_f (zca h16 h17))) .nil))))) (List.Sublist.refl _)
                          · have p18 := of_decide_eq_false h18; refine TS.run 14 rfl ?_; refine TS.done ?_; exact K.ak () trivial (.c (.c (.c (.c (.b (zca (zca h16 h17) (zbh h18)).symm .nil))))) (List.Sublist.refl _)
                    · rintro _ _; refine T.cond rfl (fun h19 => ?_) (fun h19 => ?_)
                      · have p19 := h19; (try simp only [nfB] at p19); replace hk := zab hk h19; refine T.seq (T.region ?_); refine TL.run 1 rfl ?_; refine TL.nil (K.seq (T.ret (K.ah (K.aa (K.aa (K.ah (K.ah (K.aa (K.aa (K.ah (K.aa ?_))))))))))); obtain rfl := Option.some.inj hk; exact K.ag rfl rfl (fun w' hw => ⟨rfl, hw.isBelow⟩)
                      · have p19 := h19; (try simp only [nfB] at p19); replace hk := zaa hk h19; refine T.skip (K.ad (K.seq (T.region ?_))); refine TL.run 1 rfl ?_; refine TL.y (Yv.am rfl rfl rfl (by omega)) ?_; refine TL.run 1 rfl ?_; refine TL.nil ?_; rw [← hn13] at hk; exact K.next (k_14 + 1) hk (by omega) (.c (.c (.c (.c .nil)))) (List.Sublist.refl _)
                  · have p15 := of_decide_eq_false h15; rw [zaC (by omega), ← hkk13] at hk; (try dsimp only at hk); refine T.exit (K.ac (K.ac (K.ae (K.ad (K.seq (T.region ?_)))))); refine TL.run 1 rfl ?_; refine TL.y (Yv.am rfl rfl rfl (by omega)) ?_; refine TL.run 1 rfl ?_; refine TL.nil ?_; rw [← hn6] at hk; refine K.pick [1, 2] rfl (by decide) ?_; exact K.next (i_7 + 1) hk (by omega) (.c (.c .nil)) (List.Sublist.refl _)
          · have p8 := of_decide_eq_false h8; rw [zaC (by omega), ← hkk6] at hk; (try dsimp only at hk); refine T.exit (K.ac (K.ac (K.ae ?_))); exact K.ak () hk (.c .nil) (List.Sublist.refl _)
      · rintro _ hk; rw [← hk5] at hk; (try dsimp only at hk); refine T.seq (T.seq (T.region ?_)); refine TL.run 1 rfl ?_; refine TL.nil (K.seq ?_); have hq := zag hk; clear hk; obtain ⟨k20, hk20, hk⟩ := hq; (try dsimp only at hk); refine T.ao (ι := Unit) (fun z => [(1, .pointer (some ⟨g1, 0, none⟩))]) (fun z => [.row g1 29 [vp_0, vp_1, vp_2, vp_3], .fr F1]) (fun z => k20 () = some r) ?_ ?_
        · have hq := zan hk; clear hk; obtain ⟨f21, kk21, hf21, hkk21, hk⟩ := hq; refine T.block ?_; refine T.loop (ι := Nat) (fun z => [(1, .pointer (some ⟨g1, 0, none⟩)), (6, .int .i64 (z : Int))]) (fun z => [.row g1 29 [vp_0, vp_1, vp_2, vp_3], .fr F1]) (fun z => zah f21 kk21 (p.Rules.Pairs.length - z) z () = some r) (fun z => p.Rules.Pairs.length - z) 0 ?_ ?_ ?_ ?_
          · exact hk
          · exact (.c (.c .nil))
          · exact List.Sublist.refl _
          · rintro i_22 hk; refine T.seq (T.seq (T.region ?_)); refine TL.run 1 rfl ?_; refine TL.y (Yv.fieldAddr rfl rfl) ?_; refine TL.y (Yv.fieldAddr rfl rfl) ?_; refine TL.y (Yv.ab 0 rfl rfl rfl rfl) ?_; refine TL.y (Yv.aA rfl rfl hp_1 (List.length_map _)) ?_; have hm100 : p.Rules.Pairs.length ≤ 9223372036854775807 := (List.length_map _) ▸ hp_1.max; refine TL.run 1 rfl ?_; refine TL.nil (K.seq ?_); refine T.cond rfl (fun h23 => ?_) (fun h23 => ?_)
            · have p23 := of_decide_eq_true h23; rw [zaE (by omega)] at hk; generalize hn21 : zah f21 kk21 (p.Rules.Pairs.length - (i_22 + 1)) (i_22 + 1) = next21 at hk; rw [← hf21] at hk; (try dsimp only at hk); refine T.skip (K.seq (T.seq (T.block (T.seq ?_)))); refine T.ao (ι := Unit) (fun z => [(1, .pointer (some ⟨g1, 0, none⟩)), (6, .int .i64 (i_22 : Int)), (125, .bool ((decide ((zac p ((nth p.Rules.Pairs i_22).A)) < 0)) || (decide ((zac p ((nth p.Rules.Pairs i_22).B)) < 0))))]) (fun z => [.row g1 29 [vp_0, vp_1, vp_2, vp_3], .fr F1]) (fun z => True) ?_ ?_
              · refine T.aw (.still 0 (.still 1 (.still 2 (.still 3 (.still 4 (.still 5 (.still 6 (.still 7 (.eff 8 (.still 9 (.still 10 (.still 11 (.still 12 (.still 13 (.still 14 (.still 15 (.still 16 (.still 17 (.still 18 (.eff 19 (.still 20 (.still 21 .done)))))))))))))))))))))) _ (by kernel_rfl) (List.Sublist.refl _) ?_; refine TS.y rfl (Yv.al 0 rfl rfl rfl rfl) ?_; refine TS.y rfl (Yv.fieldAddr rfl rfl) ?_; refine TS.y rfl (Yv.fieldAddr rfl rfl) ?_; refine TS.y rfl (Yv.ab 0 rfl rfl rfl rfl) ?_; refine TS.run 1 rfl ?_; refine TS.y rfl (Yv.az (i := i_22) rfl rfl rfl hp_1 (List.length_map _) rfl (by omega)) ?_; refine TS.y rfl (Yv.aQ rfl rfl hp_1 (List.length_map _) (by omega)) ?_; refine TS.y rfl (Yv.aD 1 (i := i_22) (j := 0) rfl rfl rfl hp_1 (by omega) rfl rfl) ?_; refine TS.eff ?_; refine TSo.aL rfl (Wt.none rfl) rfl rfl (Ew.af rfl rfl rfl (fun w hw => zbF _ w (hw.fr (i := 1) rfl) p vp_0 cp_0 hp_0 vp_1 hp_1 vp_2 hp_2 vp_3 hp_3 ((nth p.Rules.Pairs i_22).A))) ?_; rintro _ _ ⟨rfl, rfl⟩; refine ⟨(fun w hw => hw.sub (by repeat first | exact S0 | exact S1 | refine S2 ?_ | refine S3 ?_)), ?_⟩; refine TS.run 2 rfl ?_; refine TS.gs rfl rfl rfl rfl (fun h24 => ?_) (fun h24 => ?_)
                · have p24 := of_decide_eq_true h24; refine TS.run 8 rfl ?_; refine TS.eff ?_; refine TSo.off rfl (Wt.not rfl rfl rfl rfl) rfl rfl ?_; refine TS.run 2 rfl ?_; refine TS.done ?_; exact K.ak () trivial (.c (.c (.b (zbD h24).symm .nil))) (List.Sublist.refl _)
                · have p24 := of_decide_eq_false h24; refine TS.y rfl (Yv.al 0 rfl rfl rfl rfl) ?_; refine TS.y rfl (Yv.fieldAddr rfl rfl) ?_; refine TS.y rfl (Yv.fieldAddr rfl rfl) ?_; refine TS.y rfl (Yv.ab 0 rfl rfl rfl rfl) ?_; refine TS.run 1 rfl ?_; refine TS.y rfl (Yv.az (i := i_22) rfl rfl rfl hp_1 (List.length_map _) rfl (by omega)) ?_; refine TS.y rfl (Yv.aQ rfl rfl hp_1 (List.length_map _) (by omega)) ?_; refine TS.y rfl (Yv.aD 1 (i := i_22) (j := 1) rfl rfl rfl hp_1 (by omega) rfl rfl) ?_; refine TS.eff ?_; refine TSo.aL rfl (Wt.some rfl rfl rfl rfl) rfl rfl (Ew.af rfl rfl rfl (fun w hw => zbF _ w (hw.fr (i := 1) rfl) p vp_0 cp_0 hp_0 vp_1 hp_1 vp_2 hp_2 vp_3 hp_3 ((nth p.Rules.Pairs i_22).B))) ?_; rintro _ _ ⟨rfl, rfl⟩; refine ⟨(fun w hw => hw.sub (by repeat first | exact S0 | exact S1 | refine S2 ?_ | refine S3 ?_)), ?_⟩; refine TS.run 2 rfl ?_; refine TS.done ?_; exact K.ak () trivial (.c (.c (.b (or_f h24) .nil))) (List.Sublist.refl _)
              · rintro _ _; refine T.cond rfl (fun h25 => ?_) (fun h25 => ?_)
                · have p25 := h25; (try simp only [nfB] at p25); replace hk := zab hk h25; refine T.seq (T.region ?_); refine TL.run 1 rfl ?_; refine TL.nil (K.seq (T.ret (K.ah (K.aa (K.aa (K.ah (K.aa ?_))))))); obtain rfl := Option.some.inj hk; exact K.ag rfl rfl (fun w' hw => ⟨rfl, hw.isBelow⟩)
                · have p25 := h25; (try simp only [nfB] at p25); replace hk := zaa hk h25; refine T.skip (K.ad (K.seq (T.region ?_))); refine TL.run 1 rfl ?_; refine TL.y (Yv.am rfl rfl rfl (by omega)) ?_; refine TL.run 1 rfl ?_; refine TL.nil ?_; rw [← hn21] at hk; exact K.next (i_22 + 1) hk (by omega) (.c (.c .nil)) (List.Sublist.refl _)
            · have p23 := of_decide_eq_false h23; rw [zaC (by omega), ← hkk21] at hk; (try dsimp only at hk); refine T.exit (K.ac (K.ac (K.ae ?_))); exact K.ak () hk (.c .nil) (List.Sublist.refl _)
        · rintro _ hk; rw [← hk20] at hk; (try dsimp only at hk); refine T.seq (T.seq (T.region ?_)); refine TL.run 1 rfl ?_; refine TL.nil (K.seq ?_); have hq := zag hk; clear hk; obtain ⟨k26, hk26, hk⟩ := hq; (try dsimp only at hk); refine T.ao (ι := Unit) (fun z => [(1, .pointer (some ⟨g1, 0, none⟩))]) (fun z => [.row g1 29 [vp_0, vp_1, vp_2, vp_3], .fr F1]) (fun z => k26 () = some r) ?_ ?_
          · have hq := zan hk; clear hk; obtain ⟨f27, kk27, hf27, hkk27, hk⟩ := hq; refine T.block ?_; refine T.loop (ι := Nat) (fun z => [(1, .pointer (some ⟨g1, 0, none⟩)), (7, .int .i64 (z : Int))]) (fun z => [.row g1 29 [vp_0, vp_1, vp_2, vp_3], .fr F1]) (fun z => zah f27 kk27 (p.Rules.Loads.length - z) z () = some r) (fun z => p.Rules.Loads.length - z) 0 ?_ ?_ ?_ ?_
            · exact hk
            · exact (.c (.c .nil))
            · exact List.Sublist.refl _
            · rintro i_28 hk; refine T.seq (T.seq (T.region ?_)); refine TL.run 1 rfl ?_; refine TL.y (Yv.fieldAddr rfl rfl) ?_; refine TL.y (Yv.fieldAddr rfl rfl) ?_; refine TL.y (Yv.ab 0 rfl rfl rfl rfl) ?_; refine TL.y (Yv.aA rfl rfl hp_2 (List.length_map _)) ?_; have hm130 : p.Rules.Loads.length ≤ 9223372036854775807 := (List.length_map _) ▸ hp_2.max; refine TL.run 1 rfl ?_; refine TL.nil (K.seq ?_); refine T.cond rfl (fun h29 => ?_) (fun h29 => ?_)
              · have p29 := of_decide_eq_true h29; rw [zaE (by omega)] at hk; generalize hn27 : zah f27 kk27 (p.Rules.Loads.length - (i_28 + 1)) (i_28 + 1) = next27 at hk; rw [← hf27] at hk; (try dsimp only at hk); refine T.skip (K.seq (T.seq (T.block (T.seq ?_)))); refine T.ao (ι := Unit) (fun z => [(1, .pointer (some ⟨g1, 0, none⟩)), (7, .int .i64 (i_28 : Int)), (155, .bool ((decide ((zac p ((nth p.Rules.Loads i_28).To)) < 0)) || (decide ((zac p ((nth p.Rules.Loads i_28).From)) < 0))))]) (fun z => [.row g1 29 [vp_0, vp_1, vp_2, vp_3], .fr F1]) (fun z => True) ?_ ?_
                · refine T.aw (.still 0 (.still 1 (.still 2 (.still 3 (.still 4 (.still 5 (.still 6 (.still 7 (.eff 8 (.still 9 (.still 10 (.still 11 (.still 12 (.still 13 (.still 14 (.still 15 (.still 16 (.still 17 (.still 18 (.eff 19 (.still 20 (.still 21 .done)))))))))))))))))))))) _ (by kernel_rfl) (List.Sublist.refl _) ?_; refine TS.y rfl (Yv.al 0 rfl rfl rfl rfl) ?_; refine TS.y rfl (Yv.fieldAddr rfl rfl) ?_; refine TS.y rfl (Yv.fieldAddr rfl rfl) ?_; refine TS.y rfl (Yv.ab 0 rfl rfl rfl rfl) ?_; refine TS.run 1 rfl ?_; refine TS.y rfl (Yv.az (i := i_28) rfl rfl rfl hp_2 (List.length_map _) rfl (by omega)) ?_; refine TS.y rfl (Yv.aQ rfl rfl hp_2 (List.length_map _) (by omega)) ?_; refine TS.y rfl (Yv.aD 1 (i := i_28) (j := 0) rfl rfl rfl hp_2 (by omega) rfl rfl) ?_; refine TS.eff ?_; refine TSo.aL rfl (Wt.none rfl) rfl rfl (Ew.af rfl rfl rfl (fun w hw => zbF _ w (hw.fr (i := 1) rfl) p vp_0 cp_0 hp_0 vp_1 hp_1 vp_2 hp_2 vp_3 hp_3 ((nth p.Rules.Loads i_28).To))) ?_; rintro _ _ ⟨rfl, rfl⟩; refine ⟨(fun w hw => hw.sub (by repeat first | exact S0 | exact S1 | refine S2 ?_ | refine S3 ?_)), ?_⟩; refine TS.run 2 rfl ?_; refine TS.gs rfl rfl rfl rfl (fun h30 => ?_) (fun h30 => ?_)
                  · have p30 := of_decide_eq_true h30; refine TS.run 8 rfl ?_; refine TS.eff ?_; refine TSo.off rfl (Wt.not rfl rfl rfl rfl) rfl rfl ?_; refine TS.run 2 rfl ?_; refine TS.done ?_; exact K.ak () trivial (.c (.c (.b (zbD h30).symm .nil))) (List.Sublist.refl _)
                  · have p30 := of_decide_eq_false h30; refine TS.y rfl (Yv.al 0 rfl rfl rfl rfl) ?_; refine TS.y rfl (Yv.fieldAddr rfl rfl) ?_; refine TS.y rfl (Yv.fieldAddr rfl rfl) ?_; refine TS.y rfl (Yv.ab 0 rfl rfl rfl rfl) ?_; refine TS.run 1 rfl ?_; refine TS.y rfl (Yv.az (i := i_28) rfl rfl rfl hp_2 (List.length_map _) rfl (by omega)) ?_; refine TS.y rfl (Yv.aQ rfl rfl hp_2 (List.length_map _) (by omega)) ?_; refine TS.y rfl (Yv.aD 1 (i := i_28) (j := 1) rfl rfl rfl hp_2 (by omega) rfl rfl) ?_; refine TS.eff ?_; refine TSo.aL rfl (Wt.some rfl rfl rfl rfl) rfl rfl (Ew.af rfl rfl rfl (fun w hw => zbF _ w (hw.fr (i := 1) rfl) p vp_0 cp_0 hp_0 vp_1 hp_1 vp_2 hp_2 vp_3 hp_3 ((nth p.Rules.Loads i_28).From))) ?_; rintro _ _ ⟨rfl, rfl⟩; refine ⟨(fun w hw => hw.sub (by repeat first | exact S0 | exact S1 | refine S2 ?_ | refine S3 ?_)), ?_⟩; refine TS.run 2 rfl ?_; refine TS.done ?_; exact K.ak () trivial (.c (.c (.b (or_f h30) .nil))) (List.Sublist.refl _)
                · rintro _ _; refine T.cond rfl (fun h31 => ?_) (fun h31 => ?_)
                  · have p31 := h31; (try simp only [nfB] at p31); replace hk := zab hk h31; refine T.seq (T.region ?_); refine TL.run 1 rfl ?_; refine TL.nil (K.seq (T.ret (K.ah (K.aa (K.aa (K.ah (K.aa ?_))))))); obtain rfl := Option.some.inj hk; exact K.ag rfl rfl (fun w' hw => ⟨rfl, hw.isBelow⟩)
                  · have p31 := h31; (try simp only [nfB] at p31); replace hk := zaa hk h31; refine T.skip (K.ad (K.seq (T.region ?_))); refine TL.run 1 rfl ?_; refine TL.y (Yv.am rfl rfl rfl (by omega)) ?_; refine TL.run 1 rfl ?_; refine TL.nil ?_; rw [← hn27] at hk; exact K.next (i_28 + 1) hk (by omega) (.c (.c .nil)) (List.Sublist.refl _)
              · have p29 := of_decide_eq_false h29; rw [zaC (by omega), ← hkk27] at hk; (try dsimp only at hk); refine T.exit (K.ac (K.ac (K.ae ?_))); exact K.ak () hk (.c .nil) (List.Sublist.refl _)
          · rintro _ hk; rw [← hk26] at hk; (try dsimp only at hk); refine T.seq (T.seq (T.region ?_)); refine TL.run 1 rfl ?_; refine TL.nil (K.seq ?_); have hq := zag hk; clear hk; obtain ⟨k32, hk32, hk⟩ := hq; (try dsimp only at hk); refine T.ao (ι := Unit) (fun z => []) (fun z => [.fr F1]) (fun z => k32 () = some r) ?_ ?_
            · have hq := zan hk; clear hk; obtain ⟨f33, kk33, hf33, hkk33, hk⟩ := hq; refine T.block ?_; refine T.loop (ι := Nat) (fun z => [(1, .pointer (some ⟨g1, 0, none⟩)), (8, .int .i64 (z : Int))]) (fun z => [.row g1 29 [vp_0, vp_1, vp_2, vp_3], .fr F1]) (fun z => zah f33 kk33 (p.Rules.Caps.length - z) z () = some r) (fun z => p.Rules.Caps.length - z) 0 ?_ ?_ ?_ ?_
              · exact hk
              · exact (.c (.c .nil))
              · exact List.Sublist.refl _
              · rintro i_34 hk; refine T.seq (T.seq (T.region ?_)); refine TL.run 1 rfl ?_; refine TL.y (Yv.fieldAddr rfl rfl) ?_; refine TL.y (Yv.fieldAddr rfl rfl) ?_; refine TL.y (Yv.ab 0 rfl rfl rfl rfl) ?_; refine TL.y (Yv.aA rfl rfl hp_3 (List.length_map _)) ?_; have hm160 : p.Rules.Caps.length ≤ 9223372036854775807 := (List.length_map _) ▸ hp_3.max; refine TL.run 1 rfl ?_; refine TL.nil (K.seq ?_); refine T.cond rfl (fun h35 => ?_) (fun h35 => ?_)
                · have p35 := of_decide_eq_true h35; rw [zaE (by omega)] at hk; generalize hn33 : zah f33 kk33 (p.Rules.Caps.length - (i_34 + 1)) (i_34 + 1) = next33 at hk; rw [← hf33] at hk; (try dsimp only at hk); refine T.skip (K.seq (T.seq (T.block (T.seq ?_)))); refine T.aw (.still 0 (.still 1 (.still 2 (.still 3 (.still 4 (.still 5 (.still 6 (.still 7 (.eff 8 (.still 9 .done)))))))))) _ (by kernel_rfl) (List.Sublist.refl _) ?_; refine TS.y rfl (Yv.al 0 rfl rfl rfl rfl) ?_; refine TS.y rfl (Yv.fieldAddr rfl rfl) ?_; refine TS.y rfl (Yv.fieldAddr rfl rfl) ?_; refine TS.y rfl (Yv.ab 0 rfl rfl rfl rfl) ?_; refine TS.run 1 rfl ?_; refine TS.y rfl (Yv.az (i := i_34) rfl rfl rfl hp_3 (List.length_map _) rfl (by omega)) ?_; refine TS.y rfl (Yv.aQ rfl rfl hp_3 (List.length_map _) (by omega)) ?_; refine TS.y rfl (Yv.aD 1 (i := i_34) (j := 0) rfl rfl rfl hp_3 (by omega) rfl rfl) ?_; refine TS.eff ?_; refine TSo.aL rfl (Wt.none rfl) rfl rfl (Ew.af rfl rfl rfl (fun w hw => zbF _ w (hw.fr (i := 1) rfl) p vp_0 cp_0 hp_0 vp_1 hp_1 vp_2 hp_2 vp_3 hp_3 ((nth p.Rules.Caps i_34).Station))) ?_; rintro _ _ ⟨rfl, rfl⟩; refine ⟨(fun w hw => hw.sub (by repeat first | exact S0 | exact S1 | refine S2 ?_ | refine S3 ?_)), ?_⟩; refine TS.run 1 rfl ?_; refine TS.done ?_; refine K.seq ?_; refine T.cond rfl (fun h36 => ?_) (fun h36 => ?_)
                  · have p36 := of_decide_eq_true h36; replace hk := zab hk h36; refine T.seq (T.region ?_); refine TL.run 1 rfl ?_; refine TL.nil (K.seq (T.ret (K.ah (K.aa (K.aa (K.ah (K.aa ?_))))))); obtain rfl := Option.some.inj hk; exact K.ag rfl rfl (fun w' hw => ⟨rfl, hw.isBelow⟩)
                  · have p36 := of_decide_eq_false h36; replace hk := zaa hk h36; refine T.skip (K.ad (K.seq (T.region ?_))); refine TL.run 1 rfl ?_; refine TL.y (Yv.am rfl rfl rfl (by omega)) ?_; refine TL.run 1 rfl ?_; refine TL.nil ?_; rw [← hn33] at hk; exact K.next (i_34 + 1) hk (by omega) (.c (.c .nil)) (List.Sublist.refl _)
                · have p35 := of_decide_eq_false h35; rw [zaC (by omega), ← hkk33] at hk; (try dsimp only at hk); refine T.exit (K.ac (K.ac (K.ae ?_))); refine K.pick [1] rfl (by decide) ?_; exact K.ak () hk .nil (List.Sublist.refl _)
            · rintro _ hk; rw [← hk32] at hk; (try dsimp only at hk); refine T.seq (T.region ?_); refine TL.run 1 rfl ?_; refine TL.nil (K.seq (T.ret ?_)); obtain rfl := Option.some.inj hk; exact K.ag rfl rfl (fun w' hw => ⟨rfl, hw.isBelow⟩)
end Go.Proofs.YtbpbhbkcahcdiaaGreatDoor
namespace Go.Proofs.YtbpbhbkcahcdiaaGreatDoor
open Go.RowKit
structure GViolation where
  Kind : Int
  At : Int
deriving DecidableEq, Inhabited
abbrev GViolation.enc (x : GViolation) : List Value := [.int .i64 x.Kind, .int .i64 x.At]
theorem GViolation.len (x : GViolation) : (GViolation.enc x).length = 2 := rfl
def zbN (fuel : Nat) (p : GProblem) (domains : Int) (rules : Int) : Option Bool :=
  zaF (fun (_ : Unit) =>
    some ((((decide ((p.Domains.length : Int) ≤ domains)) && (decide ((p.Rules.Pairs.length : Int) ≤ rules))) && (decide ((p.Rules.Loads.length : Int) ≤ rules))) && (decide ((p.Rules.Caps.length : Int) ≤ rules))))
  (fun k1 =>
    zb6 (fun (next3 : Int → Option Bool) (i_2 : Int) =>
      (bif ((decide (i_2 < (p.Domains.length : Int))) && (decide (i_2 < 600))) then
        grd (0 ≤ i_2 ∧ i_2 < (p.Domains.length : Int)) <|
        (bif decide (60 < (((nth p.Domains i_2.toNat).Channels).length : Int)) then
          some false
          else
          next3 (i_2 + 1))
        else
        k1 ())) fuel 0)
theorem zfK (F0 : Frz) (w : World) (hF0 : F0.At w) (p : GProblem) (vp_0 : Value) (cp_0 : List (List Value)) (hp_0 : SlD GDomain.rep F0 vp_0 2 cp_0 p.Domains) (vp_1 : Value) (hp_1 : SlC F0 vp_1 5 (p.Rules.Pairs.map GPair.enc)) (vp_2 : Value) (hp_2 : SlC F0 vp_2 5 (p.Rules.Loads.map GLoad.enc)) (vp_3 : Value) (hp_3 : SlC F0 vp_3 4 (p.Rules.Caps.map GCap.enc)) (domains : Int) (rules : Int) (fuel : Nat) (r : Bool) (hr : zbN fuel p domains rules = some r) : Calls Tryz.prog 26 #[.agg [vp_0, vp_1, vp_2, vp_3].toArray, .int .i64 domains, .int .i64 rules] w fun e w' => e = .returned (.bool r) ∧ Below w.heap.size w w' := by
  have hk := hr; unfold zbN at hk; haveI := hp_0.1.oneC; haveI := hp_1.oneC; haveI := hp_2.oneC; haveI := hp_3.oneC; obtain ⟨S0, F1, rfl, hS0, hp0⟩ := zaq hF0; refine zad (M := fun _ => False) (hs := [.fr F1]) Tryz.func26 rfl rfl rfl hp0 ?_; refine T.seq (T.region ?_); refine TL.e (Ew.aB rfl rfl) ?_; rintro _ _ ⟨g3, rfl, rfl⟩; refine TL.run 1 rfl ?_; refine TL.nil (K.seq (T.seq (T.seq (T.region ?_)))); refine TL.run 1 rfl ?_; refine TL.nil (K.seq ?_); have hq := zag hk; clear hk; obtain ⟨k1, hk1, hk⟩ := hq; (try dsimp only at hk); refine T.ao (ι := Unit) (fun z => [(1, .int .i64 domains), (2, .int .i64 rules), (3, .pointer (some ⟨g3, 0, none⟩))]) (fun z => [.row g3 29 [vp_0, vp_1, vp_2, vp_3], .fr F1]) (fun z => k1 () = some r) ?_ ?_
  · have hq := zeO hk; clear hk; obtain ⟨f3, hf3, hk⟩ := hq; refine T.block ?_; refine T.loop (ι := Nat × Int) (fun z => [(1, .int .i64 domains), (2, .int .i64 rules), (3, .pointer (some ⟨g3, 0, none⟩)), (7, .int .i64 z.2)]) (fun z => [.row g3 29 [vp_0, vp_1, vp_2, vp_3], .fr F1]) (fun z => zb6 f3 z.1 z.2 = some r) (fun z => z.1) (fuel, 0) ?_ ?_ ?_ ?_
    · exact hk
    · exact (.c (.c (.c (.c .nil))))
    · exact List.Sublist.refl _
    · rintro ⟨m_4, i_2⟩ hk; (try dsimp only at *); have hq := zfx hk; clear hk; obtain ⟨m_4', rfl, hk⟩ := hq; generalize hn3 : zb6 f3 m_4' = next3 at hk; rw [← hf3] at hk; (try dsimp only at hk); refine T.seq (T.seq ?_); refine T.ao (ι := Unit) (fun z => [(1, .int .i64 domains), (2, .int .i64 rules), (3, .pointer (some ⟨g3, 0, none⟩)), (7, .int .i64 i_2), (16, .bool ((decide (i_2 < (p.Domains.length : Int))) && (decide (i_2 < 600))))]) (fun z => [.row g3 29 [vp_0, vp_1, vp_2, vp_3], .fr F1]) (fun z => True) ?_ ?_
      · refine T.region ?_; refine TL.run 1 rfl ?_; refine TL.y (Yv.fieldAddr rfl rfl) ?_; refine TL.y (Yv.ab 0 rfl rfl rfl rfl) ?_; refine TL.y (Yv.aA rfl rfl hp_0.1 hp_0.2.1) ?_; have hm11 : p.Domains.length ≤ 9223372036854775807 := hp_0.2.1 ▸ hp_0.1.max; refine TL.run 2 rfl ?_; refine TL.gs rfl rfl rfl (fun h5 => ?_) (fun h5 => ?_)
        · have p5 := of_decide_eq_true h5; refine TL.run 3 rfl ?_; refine TL.nil ?_; exact K.ak () trivial (.c (.c (.c (.c (.b (ze7 h5) .nil))))) (List.Sublist.refl _)
        · have p5 := of_decide_eq_false h5; refine TL.run 3 rfl ?_; refine TL.nil ?_; exact K.ak () trivial (.c (.c (.c (.c (.b (zbh h5).symm .nil))))) (List.Sublist.refl _)
      · rintro _ _; have hm11 : p.Domains.length ≤ 9223372036854775807 := hp_0.2.1 ▸ hp_0.1.max; refine T.cond rfl (fun h6 => ?_) (fun h6 => ?_)
        · have p6 := h6; (try simp only [nfB] at p6); replace hk := zab hk h6; refine T.skip (K.seq (T.seq (T.block (T.seq ?_)))); have hq : (0 ≤ i_2 ∧ i_2 < (p.Domains.length : Int)) ∧ _ := zbi hk; clear hk; obtain ⟨g22, hk⟩ := hq; (try dsimp only at hk); refine T.region ?_; refine TL.y (Yv.fieldAddr rfl rfl) ?_; refine TL.y (Yv.ab 0 rfl rfl rfl rfl) ?_; refine TL.run 1 rfl ?_; refine TL.y (Yv.az (i := i_2.toNat) rfl rfl rfl hp_0.1 hp_0.2.1 (by omega) (by omega)) ?_; refine TL.y (Yv.aQ rfl rfl hp_0.1 hp_0.2.1 (by omega)) ?_; refine TL.y (Yv.loadR 1 (i := i_2.toNat) (j := 1) rfl rfl rfl hp_0.1 hp_0.2.1 (by omega) rfl (GDomain.c1 (hp_0.2.2 i_2.toNat (by omega))).1) ?_; have hd24_1 := (GDomain.c1 (hp_0.2.2 i_2.toNat (by omega))).2; haveI := hd24_1.oneC; refine TL.y (Yv.aA rfl rfl hd24_1 (List.length_map _)) ?_; have hm25 : ((nth p.Domains i_2.toNat).Channels).length ≤ 9223372036854775807 := (List.length_map _) ▸ hd24_1.max; refine TL.run 1 rfl ?_; refine TL.nil (K.seq ?_); refine T.cond rfl (fun h7 => ?_) (fun h7 => ?_)
          · have p7 := of_decide_eq_true h7; replace hk := zab hk h7; refine T.seq (T.region ?_); refine TL.run 1 rfl ?_; refine TL.nil (K.seq (T.ret (K.ah (K.aa (K.aa (K.ah (K.aa ?_))))))); obtain rfl := Option.some.inj hk; exact K.ag rfl rfl (fun w' hw => ⟨rfl, hw.isBelow⟩)
          · have p7 := of_decide_eq_false h7; replace hk := zaa hk h7; refine T.skip (K.ad (K.seq (T.region ?_))); refine TL.run 1 rfl ?_; refine TL.y (Yv.am rfl rfl rfl (by omega)) ?_; refine TL.run 1 rfl ?_; refine TL.nil ?_; rw [← hn3] at hk; exact K.next (m_4', (i_2 + 1)) hk (by dsimp only; omega) (.c (.c (.c (.c .nil)))) (List.Sublist.refl _)
        · have p6 := h6; (try simp only [nfB] at p6); replace hk := zaa hk h6; refine T.exit (K.ac (K.ac (K.ae ?_))); exact K.ak () hk (.c (.c (.c .nil))) (List.Sublist.refl _)
  · rintro _ hk; rw [← hk1] at hk; (try dsimp only at hk); refine T.seq ?_; refine T.ao (ι := Unit) (fun z => [(6, .bool ((((decide ((p.Domains.length : Int) ≤ domains)) && (decide ((p.Rules.Pairs.length : Int) ≤ rules))) && (decide ((p.Rules.Loads.length : Int) ≤ rules))) && (decide ((p.Rules.Caps.length : Int) ≤ rules))))]) (fun z => [.row g3 29 [vp_0, vp_1, vp_2, vp_3], .fr F1]) (fun z => True) ?_ ?_
    · refine T.region ?_; refine TL.y (Yv.fieldAddr rfl rfl) ?_; refine TL.y (Yv.ab 0 rfl rfl rfl rfl) ?_; refine TL.y (Yv.aA rfl rfl hp_0.1 hp_0.2.1) ?_; have hm29 : p.Domains.length ≤ 9223372036854775807 := hp_0.2.1 ▸ hp_0.1.max; refine TL.run 3 rfl ?_; refine TL.gs rfl rfl rfl (fun h8 => ?_) (fun h8 => ?_)
      · have p8 := of_decide_eq_true h8; refine TL.y (Yv.fieldAddr rfl rfl) ?_; refine TL.y (Yv.fieldAddr rfl rfl) ?_; refine TL.y (Yv.ab 0 rfl rfl rfl rfl) ?_; refine TL.y (Yv.aA rfl rfl hp_1 (List.length_map _)) ?_; have hm36 : p.Rules.Pairs.length ≤ 9223372036854775807 := (List.length_map _) ▸ hp_1.max; refine TL.run 4 rfl ?_; refine TL.gs rfl rfl rfl (fun h9 => ?_) (fun h9 => ?_)
        · have p9 := of_decide_eq_true h9; refine TL.y (Yv.fieldAddr rfl rfl) ?_; refine TL.y (Yv.fieldAddr rfl rfl) ?_; refine TL.y (Yv.ab 0 rfl rfl rfl rfl) ?_; refine TL.y (Yv.aA rfl rfl hp_2 (List.length_map _)) ?_; have hm44 : p.Rules.Loads.length ≤ 9223372036854775807 := (List.length_map _) ▸ hp_2.max; refine TL.run 4 rfl ?_; refine TL.gs rfl rfl rfl (fun h10 => ?_) (fun h10 => ?_)
          · have p10 := of_decide_eq_true h10; refine TL.y (Yv.fieldAddr rfl rfl) ?_; refine TL.y (Yv.fieldAddr rfl rfl) ?_; refine TL.y (Yv.ab 0 rfl rfl rfl rfl) ?_; refine TL.y (Yv.aA rfl rfl hp_3 (List.length_map _)) ?_; have hm52 : p.Rules.Caps.length ≤ 9223372036854775807 := (List.length_map _) ▸ hp_3.max; refine TL.run 4 rfl ?_; refine TL.nil ?_; exact K.ak () trivial (.b (ze7 (zbQ (zbQ h8 h9) h10)) .nil) (List.Sublist.refl _)
          · have p10 := of_decide_eq_false h10; refine TL.run 8 rfl ?_; refine TL.nil ?_; exact K.ak () trivial (.b (zbh (zbQ (zbQ h8 h9) h10)).symm .nil) (List.Sublist.refl _)
        · have p9 := of_decide_eq_false h9; refine TL.run 16 rfl ?_; refine TL.nil ?_; exact K.ak () trivial (.b (zbh (zbh (zbQ h8 h9))).symm .nil) (List.Sublist.refl _)
      · have p8 := of_decide_eq_false h8; refine TL.run 24 rfl ?_; refine TL.nil ?_; exact K.ak () trivial (.b (zbh (zbh (zbh h8))).symm .nil) (List.Sublist.refl _)
    · rintro _ _; have hm29 : p.Domains.length ≤ 9223372036854775807 := hp_0.2.1 ▸ hp_0.1.max; have hm36 : p.Rules.Pairs.length ≤ 9223372036854775807 := (List.length_map _) ▸ hp_1.max; have hm44 : p.Rules.Loads.length ≤ 9223372036854775807 := (List.length_map _) ▸ hp_2.max; have hm52 : p.Rules.Caps.length ≤ 9223372036854775807 := (List.length_map _) ▸ hp_3.max; refine T.ret ?_; obtain rfl := Option.some.inj hk; exact K.ag rfl rfl (fun w' hw => ⟨rfl, hw.isBelow⟩)
end Go.Proofs.YtbpbhbkcahcdiaaGreatDoor
namespace Go.Proofs.YtbpbhbkcahcdiaaGreatDoor
open Go.RowKit
theorem zbJ {ρ : Type} {f : Nat → (Unit → ρ) → Unit → ρ} {k : Unit → ρ} {n : Nat} {z : ρ} (q : Nat → Bool) (hf : ∀ i next, i < n → f i next () = bif q i then next () else z) : zah f k n 0 () = bif (List.range n).all q then k () else z := by
  have key : ∀ m i, i + m = n → zah f k m i () = bif (List.range' i m).all q then k () else z := by
    intro m
    induction m with
    | zero => intro i _; rfl
    | succ m ih =>
      intro i e
      show f i (zah f k m (i + 1)) () = _
      rw [hf i _ (by omega), ih (i + 1) (by omega), List.range'_succ, List.all_cons]
      cases q i <;> rfl
  rw [key n 0 (by omega), List.range_eq_range']
theorem zc8 {n : Int} : zal n = inB n 0 511 := rfl
theorem zjd {a b : Int} : zaU a b = rngB a b := by
  unfold zaU rngB; by_cases h1 : 2 ≤ a <;> by_cases h2 : a ≤ b <;> by_cases h3 : b ≤ 51 <;> simp [h1, h2, h3]
theorem ziK {a b : List Int} (h : a.length = b.length) : za2 a b = some (zc6 a b) := by
  unfold za2; simp only [zaF, Nat.sub_zero]
  have key : ∀ m i, i + m = a.length → zah (fun (i : Nat) (next : Unit → Option Bool) (_ : Unit) => grd (0 ≤ (i : Int) ∧ (i : Int) < (b.length : Int)) (bif decide (¬ nth a i = nth b i) then some (decide (nth a i < nth b i)) else next ())) (fun _ => some false) m i () = some (zc6 (a.drop i) (b.drop i)) := by
    intro m
    induction m with
    | zero => intro i e; rw [List.drop_eq_nil_of_le (show a.length ≤ i by omega)]; rfl
    | succ m ih =>
      intro i e; have h2 := ih (i + 1) (by omega)
      show grd _ _ = _
      rw [zbP ⟨by omega, by omega⟩, zik (by omega) (by omega)]; by_cases e2 : nth a i = nth b i
      · rw [if_pos e2, decide_eq_false (fun hn => hn e2), cond_false]; exact h2
      · rw [if_neg e2, decide_eq_true e2, cond_true]
  exact key a.length 0 (by omega)
def hasS (p : GProblem) (s : Int) : Bool := p.Domains.any fun d => decide (d.Station = s)
theorem zkK {p : GProblem} {s : Int} : zac p s < 0 ↔ hasS p s = false := by
  unfold zac hasS; simp only [zaF, Nat.sub_zero]
  have key : ∀ m i, i + m = p.Domains.length → (zah (fun (i : Nat) (next : Unit → Int) (_ : Unit) => bif decide ((nth p.Domains i).Station = s) then (i : Int) else next ()) (fun _ => (-1)) m i () < 0 ↔ ((p.Domains.drop i).any fun d => decide (d.Station = s)) = false) := by
    intro m
    induction m with
    | zero => intro i e; rw [List.drop_eq_nil_of_le (show p.Domains.length ≤ i by omega)]; exact ⟨fun _ => rfl, fun _ => by show (-1 : Int) < 0; omega⟩
    | succ m ih =>
      intro i e; have h2 := ih (i + 1) (by omega); rw [List.drop_eq_getElem_cons (show i < p.Domains.length by omega), List.any_cons, ← zao (show i < p.Domains.length by omega)]
      show (bif decide ((nth p.Domains i).Station = s) then (i : Int) else _) < 0 ↔ _
      cases decide ((nth p.Domains i).Station = s) with
      | true => simp
      | false => rw [cond_false, Bool.false_or]; exact h2
  have := key p.Domains.length 0 (by omega)
  rwa [List.drop_zero] at this
theorem zbW (i : Nat) : ((i : Int) - 1).toNat = i - 1 := by omega
theorem zkW {p : GProblem} {i : Nat} {next : Unit → Option Bool} (hi : i < p.Rules.Pairs.length) :
    (bif !(zal ((nth p.Rules.Pairs i).A)) then (bif true then some false else next ()) else
      (bif !(zal ((nth p.Rules.Pairs i).B)) then (bif true then some false else next ()) else
      (bif decide ((nth p.Rules.Pairs i).B ≤ (nth p.Rules.Pairs i).A) then (bif true then some false else next ()) else
      (bif decide ((nth p.Rules.Pairs i).Offset < (-1)) then (bif true then some false else next ()) else
      (bif decide (1 < (nth p.Rules.Pairs i).Offset) then (bif true then some false else next ()) else
      (bif !(zaU ((nth p.Rules.Pairs i).Low) ((nth p.Rules.Pairs i).High)) then (bif true then some false else next ()) else
      (bif decide (0 < (i : Int)) then (za2 (zat (nth p.Rules.Pairs (((i : Int) - 1).toNat))) (zat (nth p.Rules.Pairs i))).bind fun r => (bif !r then some false else next ()) else (bif false then some false else next ())))))))) = bif zfO (pbG p).ps i then next () else some false := by
  have e1 : nth (pbG p).ps i = (nth p.Rules.Pairs i).b := zaQ hi; have e2 : nth (pbG p).ps (i - 1) = (nth p.Rules.Pairs (i - 1)).b := zaQ (by omega); rw [zbW, ziK (by rfl), Option.bind_some]; simp only [zc8, zjd]
  have hr : zfO (pbG p).ps i = (inB (nth p.Rules.Pairs i).A 0 511 && (inB (nth p.Rules.Pairs i).B 0 511 && (!decide ((nth p.Rules.Pairs i).B ≤ (nth p.Rules.Pairs i).A) && (!decide ((nth p.Rules.Pairs i).Offset < (-1)) && (!decide (1 < (nth p.Rules.Pairs i).Offset) && (rngB (nth p.Rules.Pairs i).Low (nth p.Rules.Pairs i).High && (!decide (0 < (i : Int)) || zc6 (zat (nth p.Rules.Pairs (i - 1))) (zat (nth p.Rules.Pairs i))))))))) := by
    unfold zfO; rw [e1, e2, Bool.eq_iff_iff, decide_eq_true_eq]; simp only [Bool.and_eq_true, Bool.or_eq_true, Bool.not_eq_true', decide_eq_false_iff_not, GPair.b, zat]; constructor
    · rintro ⟨⟨h1, h2, h3, h4, h5, h6⟩, h9⟩; refine ⟨h1, h2, by omega, by omega, by omega, h6, ?_⟩; rcases Nat.eq_zero_or_pos i with h | h
      · exact .inl (by omega)
      · exact .inr (h9 h)
    · rintro ⟨h1, h2, h3, h4, h5, h6, h9⟩; refine ⟨⟨h1, h2, by omega, by omega, by omega, h6⟩, fun h => ?_⟩; rcases h9 with h9 | h9
      · omega
      · exact h9
  rw [hr]
  cases inB (nth p.Rules.Pairs i).A 0 511
  · rfl
  cases inB (nth p.Rules.Pairs i).B 0 511
  · rfl
  cases decide ((nth p.Rules.Pairs i).B ≤ (nth p.Rules.Pairs i).A)
  rotate_left
  · rfl
  cases decide ((nth p.Rules.Pairs i).Offset < (-1))
  rotate_left
  · rfl
  cases decide (1 < (nth p.Rules.Pairs i).Offset)
  rotate_left
  · rfl
  cases rngB (nth p.Rules.Pairs i).Low (nth p.Rules.Pairs i).High
  · rfl
  cases decide (0 < (i : Int))
  · rfl
  cases zc6 (zat (nth p.Rules.Pairs (i - 1))) (zat (nth p.Rules.Pairs i)) <;> rfl
theorem zk5 {p : GProblem} {i : Nat} {next : Unit → Option Bool} (hi : i < p.Rules.Loads.length) :
    (bif !(zal ((nth p.Rules.Loads i).To)) then (bif true then some false else next ()) else
      (bif !(zal ((nth p.Rules.Loads i).From)) then (bif true then some false else next ()) else
      (bif decide ((nth p.Rules.Loads i).To = (nth p.Rules.Loads i).From) then (bif true then some false else next ()) else
      (bif decide ((nth p.Rules.Loads i).Weight < 1) then (bif true then some false else next ()) else
      (bif decide (1073741824 < (nth p.Rules.Loads i).Weight) then (bif true then some false else next ()) else
      (bif !(zaU ((nth p.Rules.Loads i).Low) ((nth p.Rules.Loads i).High)) then (bif true then some false else next ()) else
      (bif decide (0 < (i : Int)) then (za2 (zas (nth p.Rules.Loads (((i : Int) - 1).toNat))) (zas (nth p.Rules.Loads i))).bind fun r => (bif !r then some false else next ()) else (bif false then some false else next ())))))))) = bif zfS (pbG p).ls i then next () else some false := by
  have e1 : nth (pbG p).ls i = (nth p.Rules.Loads i).b := zaQ hi; have e2 : nth (pbG p).ls (i - 1) = (nth p.Rules.Loads (i - 1)).b := zaQ (by omega); rw [zbW, ziK (by rfl), Option.bind_some]; simp only [zc8, zjd]
  have hr : zfS (pbG p).ls i = (inB (nth p.Rules.Loads i).To 0 511 && (inB (nth p.Rules.Loads i).From 0 511 && (!decide ((nth p.Rules.Loads i).To = (nth p.Rules.Loads i).From) && (!decide ((nth p.Rules.Loads i).Weight < 1) && (!decide (1073741824 < (nth p.Rules.Loads i).Weight) && (rngB (nth p.Rules.Loads i).Low (nth p.Rules.Loads i).High && (!decide (0 < (i : Int)) || zc6 (zas (nth p.Rules.Loads (i - 1))) (zas (nth p.Rules.Loads i))))))))) := by
    unfold zfS; rw [e1, e2, Bool.eq_iff_iff, decide_eq_true_eq]; simp only [Bool.and_eq_true, Bool.or_eq_true, Bool.not_eq_true', decide_eq_false_iff_not, GLoad.b, zas]; constructor
    · rintro ⟨⟨h1, h2, h3, h4, h5, h6⟩, h9⟩; refine ⟨h1, h2, by omega, by omega, by omega, h6, ?_⟩; rcases Nat.eq_zero_or_pos i with h | h
      · exact .inl (by omega)
      · exact .inr (h9 h)
    · rintro ⟨h1, h2, h3, h4, h5, h6, h9⟩; refine ⟨⟨h1, h2, by omega, by omega, by omega, h6⟩, fun h => ?_⟩; rcases h9 with h9 | h9
      · omega
      · exact h9
  rw [hr]
  cases inB (nth p.Rules.Loads i).To 0 511
  · rfl
  cases inB (nth p.Rules.Loads i).From 0 511
  · rfl
  cases decide ((nth p.Rules.Loads i).To = (nth p.Rules.Loads i).From)
  rotate_left
  · rfl
  cases decide ((nth p.Rules.Loads i).Weight < 1)
  rotate_left
  · rfl
  cases decide (1073741824 < (nth p.Rules.Loads i).Weight)
  rotate_left
  · rfl
  cases rngB (nth p.Rules.Loads i).Low (nth p.Rules.Loads i).High
  · rfl
  cases decide (0 < (i : Int))
  · rfl
  cases zc6 (zas (nth p.Rules.Loads (i - 1))) (zas (nth p.Rules.Loads i)) <;> rfl
theorem zlq {p : GProblem} {i : Nat} {next : Unit → Option Bool} (hi : i < p.Rules.Caps.length) :
    (bif !(zal ((nth p.Rules.Caps i).Station)) then (bif true then some false else next ()) else
      (bif decide ((nth p.Rules.Caps i).Max < 0) then (bif true then some false else next ()) else
      (bif decide (1099511627776 < (nth p.Rules.Caps i).Max) then (bif true then some false else next ()) else
      (bif !(zaU ((nth p.Rules.Caps i).Low) ((nth p.Rules.Caps i).High)) then (bif true then some false else next ()) else
      (bif decide (0 < (i : Int)) then (za2 (zaD (nth p.Rules.Caps (((i : Int) - 1).toNat))) (zaD (nth p.Rules.Caps i))).bind fun r => (bif !r then some false else next ()) else (bif false then some false else next ())))))) = bif zfQ (pbG p).cs i then next () else some false := by
  have e1 : nth (pbG p).cs i = (nth p.Rules.Caps i).b := zaQ hi; have e2 : nth (pbG p).cs (i - 1) = (nth p.Rules.Caps (i - 1)).b := zaQ (by omega); rw [zbW, ziK (by rfl), Option.bind_some]; simp only [zc8, zjd]
  have hr : zfQ (pbG p).cs i = (inB (nth p.Rules.Caps i).Station 0 511 && (!decide ((nth p.Rules.Caps i).Max < 0) && (!decide (1099511627776 < (nth p.Rules.Caps i).Max) && (rngB (nth p.Rules.Caps i).Low (nth p.Rules.Caps i).High && (!decide (0 < (i : Int)) || zc6 (zaD (nth p.Rules.Caps (i - 1))) (zaD (nth p.Rules.Caps i))))))) := by
    unfold zfQ; rw [e1, e2, Bool.eq_iff_iff, decide_eq_true_eq]; simp only [Bool.and_eq_true, Bool.or_eq_true, Bool.not_eq_true', decide_eq_false_iff_not, GCap.b, zaD]; constructor
    · rintro ⟨⟨h1, h2, h3, h4⟩, h9⟩; refine ⟨h1, by omega, by omega, h4, ?_⟩; rcases Nat.eq_zero_or_pos i with h | h
      · exact .inl (by omega)
      · exact .inr (h9 h)
    · rintro ⟨h1, h2, h3, h4, h9⟩; refine ⟨⟨h1, by omega, by omega, h4⟩, fun h => ?_⟩; rcases h9 with h9 | h9
      · omega
      · exact h9
  rw [hr]
  cases inB (nth p.Rules.Caps i).Station 0 511
  · rfl
  cases decide ((nth p.Rules.Caps i).Max < 0)
  rotate_left
  · rfl
  cases decide (1099511627776 < (nth p.Rules.Caps i).Max)
  rotate_left
  · rfl
  cases rngB (nth p.Rules.Caps i).Low (nth p.Rules.Caps i).High
  · rfl
  cases decide (0 < (i : Int))
  · rfl
  cases zc6 (zaD (nth p.Rules.Caps (i - 1))) (zaD (nth p.Rules.Caps i)) <;> rfl
theorem zgu {p : GProblem} : zbb p.Rules = some (zfz (pbG p)) := by
  unfold zbb; simp only [zaF, Nat.sub_zero]; rw [zbJ (n := p.Rules.Pairs.length) (z := some false) (zfO (pbG p).ps) (fun i next hi => zkW hi), zbJ (n := p.Rules.Loads.length) (z := some false) (zfS (pbG p).ls) (fun i next hi => zk5 hi), zbJ (n := p.Rules.Caps.length) (z := some false) (zfQ (pbG p).cs) (fun i next hi => zlq hi)]; have l1 : (pbG p).ps.length = p.Rules.Pairs.length := List.length_map _; have l2 : (pbG p).ls.length = p.Rules.Loads.length := List.length_map _; have l3 : (pbG p).cs.length = p.Rules.Caps.length := List.length_map _; unfold zfz; rw [l1, l2, l3]; by_cases h : p.Rules.Pairs.length ≤ 4096 ∧ p.Rules.Loads.length ≤ 1024 ∧ p.Rules.Caps.length ≤ 1024
  · rw [decide_eq_true h, decide_eq_false (by omega), decide_eq_false (by omega), decide_eq_false (by omega)]
    cases (List.range p.Rules.Pairs.length).all (zfO (pbG p).ps)
    · rfl
    cases (List.range p.Rules.Loads.length).all (zfS (pbG p).ls)
    · rfl
    cases (List.range p.Rules.Caps.length).all (zfQ (pbG p).cs) <;> rfl
  · rw [decide_eq_false h]; by_cases h1 : (4096 : Int) < p.Rules.Pairs.length
    · rw [decide_eq_true h1]; rfl
    · by_cases h2 : (1024 : Int) < p.Rules.Loads.length
      · rw [decide_eq_true h2, Bool.or_true]; rfl
      · rw [decide_eq_true (show (1024 : Int) < p.Rules.Caps.length by omega), Bool.or_true]; rfl
theorem zhy {p : GProblem} {s : Int} : zac p s < 0 ↔ ¬ 0 ≤ zfF (pbG p).ds s := by
  rw [zkK, zf6]; unfold hasS; rw [List.any_eq_false]; have l : (pbG p).ds.length = p.Domains.length := List.length_map _; constructor
  · rintro h ⟨i, hi, e⟩; rw [l] at hi; have e1 : nth (pbG p).ds i = (nth p.Domains i).b := zaQ hi; rw [e1] at e; exact h _ (zap hi) (decide_eq_true e)
  · intro h x hx hd; obtain ⟨i, hi, rfl⟩ := zaV hx; refine h ⟨i, by rw [l]; exact hi, ?_⟩; have e1 : nth (pbG p).ds i = (nth p.Domains i).b := zaQ hi; rw [e1]; exact of_decide_eq_true hd
theorem zjv {p : GProblem} : zbM p = some (okG p) := by
  have l0 : (pbG p).ds.length = p.Domains.length := List.length_map _; have l1 : (pbG p).ps.length = p.Rules.Pairs.length := List.length_map _; have l2 : (pbG p).ls.length = p.Rules.Loads.length := List.length_map _; have l3 : (pbG p).cs.length = p.Rules.Caps.length := List.length_map _; have n0 : ∀ k, k < p.Domains.length → nth (pbG p).ds k = (nth p.Domains k).b := fun k hk => zaQ hk; have n1 : ∀ k, k < p.Rules.Pairs.length → nth (pbG p).ps k = (nth p.Rules.Pairs k).b := fun k hk => zaQ hk; have n2 : ∀ k, k < p.Rules.Loads.length → nth (pbG p).ls k = (nth p.Rules.Loads k).b := fun k hk => zaQ hk; have n3 : ∀ k, k < p.Rules.Caps.length → nth (pbG p).cs k = (nth p.Rules.Caps k).b := fun k hk => zaQ hk; unfold zbM okG; rw [← zjE]; simp only [zaF, Nat.sub_zero, zgu, Option.bind_some]; rw [zbJ (n := p.Domains.length) (z := some false) (zin (pbG p).ds) (fun i next hi => ?_), zbJ (n := p.Rules.Pairs.length) (z := some false) (zh2 (pbG p)) (fun i next hi => ?_), zbJ (n := p.Rules.Loads.length) (z := some false) (zif (pbG p)) (fun i next hi => ?_), zbJ (n := p.Rules.Caps.length) (z := some false) (zic (pbG p)) (fun i next hi => ?_)]
  · unfold zi5; rw [l0, l1, l2, l3]; by_cases h : p.Domains.length ≤ 512
    · rw [decide_eq_true h, decide_eq_false (by omega)]
      cases zfz (pbG p)
      · rfl
      cases (List.range p.Domains.length).all (zin (pbG p).ds)
      · rfl
      cases (List.range p.Rules.Pairs.length).all (zh2 (pbG p))
      · rfl
      cases (List.range p.Rules.Loads.length).all (zif (pbG p))
      · rfl
      cases (List.range p.Rules.Caps.length).all (zic (pbG p)) <;> rfl
    · rw [decide_eq_false h, decide_eq_true (by omega)]; rfl
  · have hr : zic (pbG p) i = !decide (zac p (nth p.Rules.Caps i).Station < 0) := by
      unfold zic; rw [n3 i hi, Bool.eq_iff_iff, decide_eq_true_eq]; simp only [Bool.not_eq_true', decide_eq_false_iff_not, zhy, Decidable.not_not, GCap.b]
    rw [hr]
    cases decide (zac p (nth p.Rules.Caps i).Station < 0) <;> rfl
  · have hr : zif (pbG p) i = (!decide (zac p (nth p.Rules.Loads i).To < 0) && !decide (zac p (nth p.Rules.Loads i).From < 0)) := by
      unfold zif; rw [n2 i hi, Bool.eq_iff_iff, decide_eq_true_eq]; simp only [Bool.and_eq_true, Bool.not_eq_true', decide_eq_false_iff_not, zhy, Decidable.not_not, GLoad.b]
    rw [hr]
    cases decide (zac p (nth p.Rules.Loads i).To < 0) <;> cases decide (zac p (nth p.Rules.Loads i).From < 0) <;> rfl
  · have hr : zh2 (pbG p) i = (!decide (zac p (nth p.Rules.Pairs i).A < 0) && !decide (zac p (nth p.Rules.Pairs i).B < 0)) := by
      unfold zh2; rw [n1 i hi, Bool.eq_iff_iff, decide_eq_true_eq]; simp only [Bool.and_eq_true, Bool.not_eq_true', decide_eq_false_iff_not, zhy, Decidable.not_not, GPair.b]
    rw [hr]
    cases decide (zac p (nth p.Rules.Pairs i).A < 0) <;> cases decide (zac p (nth p.Rules.Pairs i).B < 0) <;> rfl
  · rw [zbJ (n := (nth p.Domains i).Channels.length) (z := some false) (zgt (nth p.Domains i).Channels) (fun k nx hk => ?_)]
    · have hr : zin (pbG p).ds i = (inB (nth p.Domains i).Station 0 511 && (!(decide (0 < (i : Int)) && decide ((nth p.Domains i).Station ≤ (nth p.Domains (i - 1)).Station)) && (!decide (50 < ((nth p.Domains i).Channels.length : Int)) && (List.range (nth p.Domains i).Channels.length).all (zgt (nth p.Domains i).Channels)))) := by
        unfold zin; rw [n0 i hi, n0 (i - 1) (by omega), Bool.eq_iff_iff, decide_eq_true_eq]; simp only [Bool.and_eq_true, Bool.not_eq_true', Bool.and_eq_false_iff, decide_eq_false_iff_not, GDomain.b]; constructor
        · rintro ⟨⟨h1, h2, h3⟩, h4⟩; exact ⟨h1, by rcases Nat.eq_zero_or_pos i with h | h; exact .inl (by omega); exact .inr (by have := h2 h; omega), by omega, h4⟩
        · rintro ⟨h1, h2, h3, h4⟩; exact ⟨⟨h1, fun h => by omega, by omega⟩, h4⟩
      rw [hr, zbW, zc8]
      cases inB (nth p.Domains i).Station 0 511
      · rfl
      cases (decide (0 < (i : Int)) && decide ((nth p.Domains i).Station ≤ (nth p.Domains (i - 1)).Station))
      rotate_left
      · rfl
      cases decide (50 < ((nth p.Domains i).Channels.length : Int))
      rotate_left
      · rfl
      rfl
    · have hr : zgt (nth p.Domains i).Channels k = (!decide (nth (nth p.Domains i).Channels k < 2) && (!decide (51 < nth (nth p.Domains i).Channels k) && !(decide (0 < (k : Int)) && decide (nth (nth p.Domains i).Channels k ≤ nth (nth p.Domains i).Channels (k - 1))))) := by
        unfold zgt; rw [Bool.eq_iff_iff, decide_eq_true_eq]; simp only [Bool.and_eq_true, Bool.not_eq_true', Bool.and_eq_false_iff, decide_eq_false_iff_not]; omega
      rw [hr, zbW]
      cases decide (nth (nth p.Domains i).Channels k < 2)
      rotate_left
      · rfl
      cases decide (51 < nth (nth p.Domains i).Channels k)
      rotate_left
      · rfl
      cases (decide (0 < (k : Int)) && decide (nth (nth p.Domains i).Channels k ≤ nth (nth p.Domains i).Channels (k - 1))) <;> rfl
end Go.Proofs.YtbpbhbkcahcdiaaGreatDoor
namespace Go.Proofs.YtbpbhbkcahcdiaaGreatDoor
open Go.RowKit
def zb9 (p : GProblem) (s : Int) : Bool := p.Domains.any fun d => decide (d.Station = s)
def ziB (c : GChoice) : Bool := decide (0 ≤ c.Station ∧ c.Station < 512 ∧ 2 ≤ c.Channel ∧ c.Channel ≤ 51)
def zff (fuel : Nat) (p : GProblem) (m : List GDomain × Bool) (keep : Bool) (c : GChoice) : Option ((List GDomain × Bool) × Int) :=
  bif !ziB c then some (m, 2) else
  bif !m.2 then some (m, 8) else
  bif !zb9 p c.Station then some (m, 9) else
  (bif keep then zcr m.1 c.Station c.Channel else zbE m.1 c.Station c.Channel).bind fun d => (zaR fuel p d).bind fun r => some (r, 0)
section
variable {p : GProblem} {m : List GDomain × Bool} {k : SK} {L : Ws} {w : World} {F0 : Frz}
theorem SI.stF (h : SI p m k L) {b : Bool} (hok : (stE k L b).ok w) (htab : Tab w) : StF k.w0 w k.sp k.gl k.tp k.Y L b := by
  obtain ⟨h1, h2⟩ := Ent.bag_ok.1 hok; exact StF.of (Hp.startL h1 h2) h.tb (Ent.fz_ok.1 (h1 _ (by simp))) htab 0 1 rfl rfl h.len
theorem zgM (hs : StateAt w k.sp k.Y L (!m.2)) : Calls Tryz.prog 68 #[.pointer (some ⟨k.sp, 0, none⟩)] w fun e w' => e = .returned (.bool (!m.2)) ∧ Below w.heap.size w w' :=
  zgz k.sp k.Y L (!m.2) w hs
theorem SI.ok (h : SI p m k L) : k.Y.Ok := by obtain ⟨P, _, hok, hY⟩ := h.pb; exact hY.ok (Pb.good hok)
theorem er_pl {xs : List Dx} {Y : Tb} {L : Ws} (h : xs.map Dx.pl = zhh Y L Y.n) : xs.map Dx.er = gd Y L := by
  (have e : xs.map Dx.er = (xs.map Dx.pl).map fun q => (⟨q.1, q.2⟩ : GDomain) := by rw [List.map_map]; rfl); rw [e, h]; unfold zhh gd; rw [List.map_map]; rfl
theorem zht (hF0 : F0.At w) (h : SI p m k L) (hs : StateAt w k.sp k.Y L (!m.2)) : Calls Tryz.prog 48 #[.pointer (some ⟨k.sp, 0, none⟩)] w fun e w' => ∃ (y : Value × List (List Value)) (G : Frz), SlD GDomain.rep G y.1 2 y.2 m.1 ∧ e = .returned y.1 ∧ Fx F0 w G w' := by
  cases hm : m.2 with
  | false =>
    rw [hm] at hs; refine (zhu k.sp k.Y L w hs).mono ?_; rintro e w' ⟨rfl, hb⟩; exact ⟨(.slice none 0 0, []), F0, by rw [h.bad hm]; exact SlD.nil _ _ 2, rfl, Fx.refl hF0 hb⟩
  | true =>
    rw [hm] at hs; refine (zis k.sp k.Y L w hs h.ok).mono ?_; rintro e w' ⟨⟨v, xs⟩, hp, rfl, hw⟩; obtain ⟨G, h1, cs, h2⟩ := zjT hF0 hw; refine ⟨(v, cs), G, ?_, rfl, h1⟩; rw [(h.good hm).2.2, ← er_pl hp]; exact h2
theorem ziQ {ds : List Dx} {j : Nat} : ∀ k, (∀ i, i < k → (nth ds i).st.toNat ≠ j) → ixAt ds k j = 0
  | 0, _ => rfl
  | k + 1, h => by
    unfold ixAt; rw [if_neg (fun e => h k (by omega) e.symm)]; exact ziQ k (fun i hi => h i (by omega))
theorem zjm {P : Pb} {Y : Tb} (hok : P.ok = true) (hY : TbOf P Y) {i : Nat} (hi : i < Y.n) : atF Y (nth Y.st i) = ((i : Int), true) := by
  have hG := Pb.good hok; have h1 := hG.st (nth P.ds i) (zap (by rw [← hY.n]; exact hi)); rw [← hY.nth_st hi] at h1; have h2 := zhb hG hY hi; unfold Pb.ix at h2; unfold atF; rw [hY.ix, if_neg (by omega)]
  congr 1
theorem zlx {P : Pb} {Y : Tb} (hok : P.ok = true) (hY : TbOf P Y) {s : Int} (h : ∀ i, i < Y.n → nth Y.st i ≠ s) : atF Y s = (0, false) := by
  have hG := Pb.good hok; unfold atF; by_cases hs : s < 0 ∨ 512 ≤ s
  · rw [if_pos (by rcases hs with h1 | h1; exact .inl h1; exact .inr (.inl h1))]
  · have h0 : Y.ix s.toNat = 0 := by
      rw [hY.ix]; refine ziQ _ fun i hi e => ?_; (have hi' : i < Y.n := by rw [hY.n]; exact hi); have h1 := hG.st (nth P.ds i) (zap hi); apply h i hi'; rw [hY.nth_st hi']; omega
    rw [if_pos (.inr (.inr h0))]
theorem zcO {P : Pb} {Y : Tb} (hY : TbOf P Y) {s : Int} : zb9 P.er s = true ↔ ∃ i, i < Y.n ∧ nth Y.st i = s := by
  unfold zb9; rw [List.any_eq_true]
  show (∃ x ∈ P.ds.map Dx.er, _) ↔ _
  constructor
  · rintro ⟨x, hx, h⟩; obtain ⟨i, hi, rfl⟩ := zaV hx; rw [List.length_map] at hi; rw [za9 hi] at h; (have hi' : i < Y.n := by rw [hY.n]; exact hi); exact ⟨i, hi', by rw [hY.nth_st hi']; exact of_decide_eq_true h⟩
  · rintro ⟨i, hi, rfl⟩; (have hi' : i < P.ds.length := by rw [← hY.n]; exact hi); exact ⟨Dx.er (nth P.ds i), List.mem_map.2 ⟨_, zap hi', rfl⟩, decide_eq_true (hY.nth_st hi).symm⟩
theorem zkG {Y : Tb} {L : Ws} {i : Nat} {g : BitVec 64} {f : GDomain → GDomain} (hl : L.length = Y.n) (hi : i < Y.n) (h1 : f (nth (gd Y L) i) = ⟨nth Y.st i, (chansN (nth L i &&& ~~~g)).map fun j : Nat => (j : Int)⟩) (h2 : ∀ j, j < Y.n → j ≠ i → f (nth (gd Y L) j) = nth (gd Y L) j) : (gd Y L).map f = gd Y (cutL L i g) := by
  refine zea (by rw [List.length_map, za5, za5]) fun j hj => ?_; rw [List.length_map, za5] at hj; rw [za9 (by rw [za5]; exact hj), zbq (L := cutL L i g) hj]; unfold cutL; rw [zby (by omega)]; by_cases e : j = i
  · subst e; rw [if_pos rfl, h1]
  · rw [if_neg e, h2 j hj e, zbq hj]
theorem zj0 {b : BitVec 64} {c j : Nat} (hc : c < 64) : (b &&& ~~~(~~~(1#64 <<< c))).getLsbD j = (b.getLsbD j && decide (c = j)) := by
  rw [BitVec.not_not, BitVec.getLsbD_and]; by_cases hj : j < 64
  · rw [zg9 hj]
  · rw [BitVec.getLsbD_of_ge b j (by omega)]; simp
theorem zhG {b : BitVec 64} {c j : Nat} (hc : c < 64) : (b &&& ~~~(1#64 <<< c)).getLsbD j = (b.getLsbD j && !decide (c = j)) := by
  rw [BitVec.getLsbD_and]; by_cases hj : j < 64
  · rw [BitVec.getLsbD_not, zg9 hj]; simp [hj]
  · rw [BitVec.getLsbD_of_ge b j (by omega)]; simp
theorem zim {b : BitVec 64} {c : Nat} (hc : c < 64) : chansN (b &&& ~~~(~~~(1#64 <<< c))) = if b.getLsbD c then [c] else [] := by
  have h : ∀ j, j ∈ chansN (b &&& ~~~(~~~(1#64 <<< c))) ↔ j ∈ (if b.getLsbD c then [c] else []) := fun j => by
    rw [chansN_mem, zj0 hc]
    cases hb : b.getLsbD c with
    | false =>
      simp; intro h e; subst e; rw [hb] at h; cases h
    | true =>
      simp; constructor
      · rintro ⟨_, rfl⟩; rfl
      · rintro rfl; exact ⟨hb, rfl⟩
  refine zcn chansN_sub ?_ List.nodup_range' h
  split
  · exact List.singleton_sublist.2 (List.mem_range'_1.2 ⟨by omega, by omega⟩)
  · exact List.nil_sublist _
theorem zjN {Y : Tb} {L : Ws} {i c : Nat} (hl : L.length = Y.n) (hi : i < Y.n) (hinj : ∀ j, j < Y.n → nth Y.st j = nth Y.st i → j = i) (hc : c < 64) : (gd Y L).map (zb8 (nth Y.st i) c) = gd Y (cutL L i (~~~(1#64 <<< c))) := by
  refine zkG hl hi ?_ (fun j hj hne => ?_)
  · rw [zbq hi, zim hc]; unfold zb8; dsimp only; rw [decide_eq_true rfl, cond_true]
    congr 1
    have e : ((chansN (nth L i)).map fun j : Nat => (j : Int)).any (fun k => decide (k = (c : Int))) = (nth L i).getLsbD c := by
      rw [Bool.eq_iff_iff, List.any_eq_true]; constructor
      · rintro ⟨q, hq, h⟩; obtain ⟨j, hj, rfl⟩ := mapI_mem.1 hq; have := of_decide_eq_true h; rw [show c = j by omega]; exact chansN_mem.1 hj
      · intro h; exact ⟨c, mapI_mem.2 ⟨c, chansN_mem.2 h, rfl⟩, by simp⟩
    rw [e]
    cases (nth L i).getLsbD c <;> rfl
  · rw [zbq hj]; unfold zb8; dsimp only; rw [decide_eq_false (fun e => hne (hinj j hj e)), cond_false]
theorem zjW {Y : Tb} {L : Ws} {i c : Nat} (hl : L.length = Y.n) (hi : i < Y.n) (hinj : ∀ j, j < Y.n → nth Y.st j = nth Y.st i → j = i) (hc : c < 64) : (gd Y L).map (zcY (nth Y.st i) c) = gd Y (cutL L i (1#64 <<< c)) := by
  refine zkG hl hi ?_ (fun j hj hne => ?_)
  · rw [zbq hi]; unfold zcY; dsimp only
    congr 1
    rw [zdO (b := nth L i) (c := nth L i &&& ~~~(1#64 <<< c)) (fun j hj => by rw [zhG hc, Bool.and_eq_true] at hj; exact hj.1), List.filter_map]
    congr 1
    apply List.filter_congr; intro j hj; rw [zhG hc, chansN_mem.1 hj]; simp only [Function.comp, Bool.true_and, not_true_eq_false, decide_false, Bool.false_or]; by_cases e : c = j
    · subst e; simp
    · (have : ¬ (j : Int) = (c : Int) := by omega); simp [e, this]
  · rw [zbq hj]; unfold zcY; dsimp only
    congr 1
    rw [List.filter_eq_self]; intro q _; rw [Bool.or_eq_true]; exact .inl (decide_eq_true (fun e => hne (hinj j hj e)))
theorem SI.two (h : SI p m k L) {b : Bool} (hok : (stE k L b).ok w) (htab : Tab w) (hn0 : 0 < k.Y.n) : Hp w (fps [sRow k.sp k.gl k.tp k.Y.n b, zaK k.gl k.Y.n L]) [sRow k.sp k.gl k.tp k.Y.n b, zaK k.gl k.Y.n L] w ∧ (∀ g, fps [sRow k.sp k.gl k.tp k.Y.n b, zaK k.gl k.Y.n L] g → ¬ IsC k.w0 g) ∧ ¬ fps [sRow k.sp k.gl k.tp k.Y.n b, zaK k.gl k.Y.n L] 0 ∧ Fz k.w0 w := by
  obtain ⟨h1, h2⟩ := Ent.bag_ok.1 hok; have h3 : ([sRow k.sp k.gl k.tp k.Y.n b, zaK k.gl k.Y.n L] ++ [Ent.fz k.w0]).Pairwise fun e f => ∀ g, e.fp g → ¬ f.fp g := h2; obtain ⟨a1, a2, a3⟩ := List.pairwise_append.1 h3; refine ⟨Hp.startL (fun e he => h1 e (by simp at he ⊢; rcases he with h | h <;> simp [h])) a1, fun g ⟨e, he, hg⟩ hc => a3 e he _ (by simp) g hg (Ent.fz_fp.2 hc), ?_, Ent.fz_ok.1 (h1 _ (by simp))⟩; rintro ⟨e, he, hg⟩; have hT := htab 0 (by decide); simp at he; rcases he with rfl | rfl
  · have h4 := Ent.row_fp.1 hg; have h5 := Ent.row_ok.1 (h1 (sRow k.sp k.gl k.tp k.Y.n b) (by simp)); rw [← h4] at h5; rw [zaT h5] at hT
    cases hT
  · have h4 := Ent.sl_fp.1 hg; have h5 := Ent.sl_ok.1 (h1 (zaK k.gl k.Y.n L) (by simp)); (have e0 : k.gl.b = 0 := by simpa [sG, Value.ownBlock] using h4); have h9 := World.ownsRow.cellAt (by have := h5; unfold sG at this; exact this) 0 (by omega); rw [e0] at h9; rw [hT] at h9
    cases L with
    | nil => have := h.len; simp at this; omega
    | cons x r => simp [Ws.cells] at h9
theorem ziI (h : SI p m k L) {c : GChoice} : zaN k.Y (!m.2) c.b = bif !ziB c then (0, 2) else bif !m.2 then (0, 8) else bif !zb9 p c.Station then (0, 9) else ((atF k.Y c.Station).1, 0) := by
  obtain ⟨P, rfl, hok, hY⟩ := h.pb; unfold zaN GChoice.b ziB; dsimp only; by_cases h1 : c.Station < 0 ∨ 512 ≤ c.Station ∨ c.Channel < 2 ∨ 51 < c.Channel
  · rw [if_pos h1, decide_eq_false (by omega)]; rfl
  · rw [if_neg h1, decide_eq_true (by omega)]; simp only [Bool.not_true, cond_false]
    cases m.2 with
    | false => rfl
    | true =>
      simp only [Bool.not_true, cond_false, Bool.false_eq_true, if_false]
      cases hh : zb9 P.er c.Station with
      | true =>
        obtain ⟨i, hi, e⟩ := (zcO hY).1 hh; rw [← e, zjm hok hY hi]; rfl
      | false =>
        rw [zlx hok hY (s := c.Station) (fun i hi e => by rw [(zcO hY).2 ⟨i, hi, e⟩] at hh; cases hh)]; rfl
theorem zkI (kp : Bool) (num : FuncId) (h : SI p m k L) (hok : (stE k L (!m.2)).ok w) (htab : Tab w) {fuel : Nat} (hf : 100000 ≤ fuel) (c : GChoice) {r : (List GDomain × Bool) × Int} (hr : zff fuel p m kp c = some r)
    (hE : (zaN k.Y (!m.2) c.b).2 ≠ 0 → Calls Tryz.prog num #[.pointer (some ⟨k.sp, 0, none⟩), .agg (Ch.cells c.b).toArray] w fun e w' => e = .returned (.int .i64 (zaN k.Y (!m.2) c.b).2) ∧ Below w.heap.size w w')
    (hO : m.2 = true → (zaN k.Y false c.b).2 = 0 → Calls Tryz.prog num #[.pointer (some ⟨k.sp, 0, none⟩), .agg (Ch.cells c.b).toArray] w fun e w' => ∃ y : Ws × Bool, SPost k.Y (cutL L (zaN k.Y false c.b).1.toNat (bif kp then ~~~(1#64 <<< c.Channel.toNat) else 1#64 <<< c.Channel.toNat)) y.1 y.2 ∧ e = .returned (.int .i64 0) ∧ Hp w (fps [sRow k.sp k.gl k.tp k.Y.n false, zaK k.gl k.Y.n L]) [sRow k.sp k.gl k.tp k.Y.n y.2, zaK k.gl k.Y.n y.1] w') :
    Calls Tryz.prog num #[.pointer (some ⟨k.sp, 0, none⟩), .agg [.int .i64 c.Station, .int .i64 c.Channel].toArray] w fun e w' => ∃ L', SI p r.1 k L' ∧ e = .returned (.int .i64 r.2) ∧ Hp w (stE k L (!m.2)).fp [stE k L' (!r.1.2)] w' := by
  have hfit := ziI h (c := c)
  have keepE : ∀ {n : Int}, r = (m, n) → (zaN k.Y (!m.2) c.b).2 = n → n ≠ 0 → Calls Tryz.prog num #[.pointer (some ⟨k.sp, 0, none⟩), .agg [.int .i64 c.Station, .int .i64 c.Channel].toArray] w fun e w' => ∃ L', SI p r.1 k L' ∧ e = .returned (.int .i64 r.2) ∧ Hp w (stE k L (!m.2)).fp [stE k L' (!r.1.2)] w' := by
    intro n hr hc hn; subst hr; refine (hE (by rw [hc]; exact hn)).mono ?_; rintro e w' ⟨rfl, hb⟩; exact ⟨L, h, by rw [hc], (Hp.start hok).below hb⟩
  unfold zff at hr
  cases hg : ziB c with
  | false => rw [hg] at hr hfit; exact keepE (Option.some.inj hr).symm (by rw [hfit]; rfl) (by decide)
  | true =>
    rw [hg] at hr hfit; simp only [Bool.not_true, cond_false] at hr hfit
    cases hm : m.2 with
    | false => rw [hm] at hr hfit; rw [← hm]; exact keepE (Option.some.inj hr).symm (by rw [hm]; rw [hfit]; rfl) (by decide)
    | true =>
      rw [hm] at hr hfit; simp only [Bool.not_true, cond_false] at hr hfit
      cases hh : zb9 p c.Station with
      | false => rw [hh] at hr hfit; rw [← hm]; exact keepE (Option.some.inj hr).symm (by rw [hm, Bool.not_true, hfit]; rfl) (by decide)
      | true =>
        rw [hh] at hr hfit; simp only [Bool.not_true, cond_false] at hr hfit; obtain ⟨P, rfl, hok', hY⟩ := h.pb; have hG := Pb.good hok'; obtain ⟨i, hi, e⟩ := (zcO hY).1 hh; rw [← e, zjm hok' hY hi] at hfit; obtain ⟨hC, hb, hd⟩ := h.good hm; (have hch : 2 ≤ c.Channel ∧ c.Channel ≤ 51 := by have := of_decide_eq_true hg; omega); have hn := hY.n; have h512 := hG.n; have hbd : Bd (gd k.Y L) := zlr (by omega); have hinj : ∀ j, j < k.Y.n → nth k.Y.st j = nth k.Y.st i → j = i := fun j hj e' => zd2 hG hY hj hi e'; have hcn : ((c.Channel.toNat : Nat) : Int) = c.Channel := Int.toNat_of_nonneg (by omega)
        -- the domains after the cut
        have hdom : (bif kp then zcr m.1 c.Station c.Channel else zbE m.1 c.Station c.Channel) = some (gd k.Y (cutL L i (bif kp then ~~~(1#64 <<< c.Channel.toNat) else 1#64 <<< c.Channel.toNat))) := by
          rw [hd, ← e]
          cases kp with
          | true => rw [cond_true, cond_true, zlB hbd.len (fun x hx => (hbd.ch x hx).1), ← zjN h.len hi hinj (by omega), hcn]
          | false => rw [cond_false, cond_false, zkv hbd.len (fun x hx => (hbd.ch x hx).1), ← zjW h.len hi hinj (by omega), hcn]
        rw [hdom, Option.bind_some] at hr; obtain ⟨q, hq, hr⟩ := zak hr; obtain rfl := Option.some.inj hr; refine (hO hm (by rw [hfit])).mono ?_; rintro e' w' ⟨⟨L', c'⟩, hp, rfl, hw⟩; rw [hfit] at hp; dsimp only at hp hw ⊢; rw [Int.toNat_natCast] at hp; (have hlen : (cutL L i (bif kp then ~~~(1#64 <<< c.Channel.toNat) else 1#64 <<< c.Channel.toNat)).length = k.Y.n := by unfold cutL; rw [List.length_set, h.len]); obtain ⟨h3, h4⟩ := SI.of hok' hY h.tb hlen (hb.le ziO) (Is.of (hY.ok hG) hlen hp) hf hq; refine ⟨L', h3, rfl, ?_⟩; rw [← h4]; (have hok2 : (Ent.bag ([sRow k.sp k.gl k.tp k.Y.n false, zaK k.gl k.Y.n L] ++ [Ent.fz k.w0])).ok w := by rw [hm] at hok; exact hok); exact zjR hok2 hw
theorem zjj (h : SI p m k L) (hok : (stE k L (!m.2)).ok w) (htab : Tab w) {fuel : Nat} (hf : 100000 ≤ fuel) (c : GChoice) {r : (List GDomain × Bool) × Int} (hr : zff fuel p m true c = some r) :
    Calls Tryz.prog 69 #[.pointer (some ⟨k.sp, 0, none⟩), .agg [.int .i64 c.Station, .int .i64 c.Channel].toArray] w fun e w' => ∃ L', SI p r.1 k L' ∧ e = .returned (.int .i64 r.2) ∧ Hp w (stE k L (!m.2)).fp [stE k L' (!r.1.2)] w' := by
  have hs := (h.stF hok htab).st; obtain ⟨P, hP, hok', hY⟩ := h.pb; have hix := hY.ixn; refine zkI true _ h hok htab hf c hr (fun he => zfu k.sp k.Y L (!m.2) c.b w hs (k.Y.ix512 h.ok hix) he) (fun hm he => ?_); have hok2 := hok; rw [hm] at hok2; (have hn0 : 0 < k.Y.n := by have := zch (Y := k.Y) hix he; omega); obtain ⟨h1, h2, h3, h4⟩ := h.two hok2 htab hn0; exact zjo k.w0 k.sp k.gl k.tp k.Y L w h.tb h.ok h4 htab h1 h2 h3 h.len (h.good hm).1.calm hix c.b he
theorem ziV (h : SI p m k L) (hok : (stE k L (!m.2)).ok w) (htab : Tab w) {fuel : Nat} (hf : 100000 ≤ fuel) (c : GChoice) {r : (List GDomain × Bool) × Int} (hr : zff fuel p m false c = some r) :
    Calls Tryz.prog 72 #[.pointer (some ⟨k.sp, 0, none⟩), .agg [.int .i64 c.Station, .int .i64 c.Channel].toArray] w fun e w' => ∃ L', SI p r.1 k L' ∧ e = .returned (.int .i64 r.2) ∧ Hp w (stE k L (!m.2)).fp [stE k L' (!r.1.2)] w' := by
  have hs := (h.stF hok htab).st; obtain ⟨P, hP, hok', hY⟩ := h.pb; have hix := hY.ixn; refine zkI false _ h hok htab hf c hr (fun he => zfj k.sp k.Y L (!m.2) c.b w hs (k.Y.ix512 h.ok hix) he) (fun hm he => ?_); have hok2 := hok; rw [hm] at hok2; (have hn0 : 0 < k.Y.n := by have := zch (Y := k.Y) hix he; omega); obtain ⟨h1, h2, h3, h4⟩ := h.two hok2 htab hn0; exact zjs k.w0 k.sp k.gl k.tp k.Y L w h.tb h.ok h4 htab h1 h2 h3 h.len (h.good hm).1.calm hix c.b he
end
end Go.Proofs.YtbpbhbkcahcdiaaGreatDoor
namespace Go.Proofs.YtbpbhbkcahcdiaaGreatDoor
open Go.RowKit
theorem zkL {p : GProblem} {a b : Int} {fuel : Nat} (hf : 1000 ≤ fuel) : ∃ r, zbN fuel p a b = some r := by
  unfold zbN; simp only [zaF]; refine zeh (σ := Int) (I := fun i => 0 ≤ i ∧ i ≤ 600) (μ := fun i => (600 - i).toNat) (post := fun o => ∃ r, o = some r) ⟨by omega, by omega⟩ (by omega) ?_; intro i next hi hn; by_cases h1 : i < (p.Domains.length : Int) <;> by_cases h2 : i < 600
  · rw [decide_eq_true h1, decide_eq_true h2, Bool.and_true, cond_true, zbP ⟨hi.1, h1⟩]
    cases decide (60 < ((nth p.Domains i.toNat).Channels.length : Int))
    · exact hn _ ⟨by omega, by omega⟩ (by omega)
    · exact ⟨_, rfl⟩
  · rw [decide_eq_false h2, Bool.and_false, cond_false]; exact ⟨_, rfl⟩
  · rw [decide_eq_false h1, Bool.false_and, cond_false]; exact ⟨_, rfl⟩
  · rw [decide_eq_false h1, Bool.false_and, cond_false]; exact ⟨_, rfl⟩
theorem keepD_mem {s c : Int} {x : GDomain} {q : Int} : q ∈ (zb8 s c x).Channels ↔ q ∈ x.Channels ∧ (x.Station = s → q = c) := by
  unfold zb8; dsimp only; by_cases hs : x.Station = s
  · rw [decide_eq_true hs, cond_true]
    cases ha : x.Channels.any (fun k => decide (k = c)) with
    | true =>
      rw [cond_true]; obtain ⟨k, hk, he⟩ := List.any_eq_true.1 ha; have := of_decide_eq_true he; subst this; simp only [List.mem_singleton]; exact ⟨fun h => by subst h; exact ⟨hk, fun _ => rfl⟩, fun h => h.2 hs⟩
    | false =>
      rw [cond_false]; refine ⟨(fun h => by cases h), fun h => ?_⟩; have := h.2 hs; subst this; have := List.any_eq_false.1 ha q h.1; simp at this
  · rw [decide_eq_false hs, cond_false]; exact ⟨fun h => ⟨h, fun h2 => absurd h2 hs⟩, fun h => h.1⟩
theorem zgF {s c : Int} {x : GDomain} : (zb8 s c x).Channels.Sublist x.Channels := by
  unfold zb8; dsimp only
  cases decide (x.Station = s)
  · exact List.Sublist.refl _
  · cases ha : x.Channels.any (fun k => decide (k = c))
    · exact List.nil_sublist _
    · obtain ⟨k, hk, he⟩ := List.any_eq_true.1 ha; have := of_decide_eq_true he; subst this; exact List.singleton_sublist.2 hk
section
variable {p : GProblem} {a b d : List GDomain}
theorem keep_sub {s c : Int} : SubD (d.map (zb8 s c)) d ∧ OrdD (d.map (zb8 s c)) d := by
  refine ⟨⟨List.length_map _, fun i hi => ?_⟩, fun i hi => ?_⟩
  · rw [za9 hi]; exact ⟨rfl, fun k hk => (keepD_mem.1 hk).1⟩
  · rw [za9 hi]; exact zgF
theorem ziE {s c : Int} (h : SubD a b) : SubD (a.map (zb8 s c)) (b.map (zb8 s c)) := by
  refine ⟨by rw [List.length_map, List.length_map, h.1], fun i hi => ?_⟩; rw [List.length_map] at hi; rw [za9 hi, za9 (by rw [h.1]; exact hi)]; have h2 := h.2 i hi; refine ⟨h2.1, fun k hk => ?_⟩; rw [keepD_mem] at hk ⊢; exact ⟨h2.2 k hk.1, fun e => hk.2 (h2.1.trans e)⟩
theorem OrdD.trans {c : List GDomain} (h : OrdD a b) (k : OrdD b c) (hl : b.length = c.length) : OrdD a c := fun i hi => (h i (by rw [hl]; exact hi)).trans (k i hi)
theorem Bd.ord (hb : Bd b) (hl : a.length = b.length) (h : OrdD a b) : Bd a := by
  refine ⟨by rw [hl]; exact hb.len, fun x hx => ?_⟩; obtain ⟨i, hi, rfl⟩ := zaV hx; (have hi' : i < b.length := by rw [← hl]; exact hi); have h2 := hb.ch _ (zap hi'); exact ⟨Nat.le_trans (h i hi').length_le h2.1, h2.2.sublist (h i hi')⟩
theorem PropD.eq {r r' : List GDomain × Bool} (hb : Bd d) (h : PropD p d r) (h' : PropD p d r') : r = r' := by
  rcases h with ⟨h1, h2, h3, h4⟩ | ⟨h1, h2⟩
  · rcases h' with ⟨g1, g2, g3, g4⟩ | ⟨g1, g2⟩
    · have e1 := h4 _ g2 g3.1; have e2 := g4 _ h2 h3.1
      have : r.1 = r'.1 := by
        refine zea (by rw [e2.1]) fun i hi => ?_; (have hi1 : i < r'.1.length := by rw [← e2.1]; exact hi); (have hid : i < d.length := by rw [← h3.1.1]; exact hi); have a1 := e1.2 i hi; have a2 := e2.2 i hi1; have hch : (nth r.1 i).Channels = (nth r'.1 i).Channels := zcn (h3.2 i hid) (g3.2 i hid) (hb.ch _ (zap hid)).2 (fun x => ⟨a2.2 x, a1.2 x⟩)
        cases hx : nth r.1 i with
        | mk s1 c1 =>
          cases hy : nth r'.1 i with
          | mk s2 c2 =>
            have b1 := a2.1; rw [hx, hy] at b1 hch; simp only at b1 hch; rw [b1, hch]
      exact Prod.ext this (h1.trans g1.symm)
    · exact absurd h3.1 (g2 _ h2)
  · rcases h' with ⟨g1, g2, g3, g4⟩ | ⟨g1, g2⟩
    · exact absurd g3.1 (h2 _ g2)
    · rw [h1, g1]
theorem PropD.keep {m r : List GDomain × Bool} {s c : Int} (h : PropD p d m) (hm : m.2 = true) (hr : PropD p (m.1.map (zb8 s c)) r) : PropD p (d.map (zb8 s c)) r := by
  rcases h with ⟨_, h2, h3, h4⟩ | ⟨h1, _⟩
  · have hsup : ∀ S, ClosedD p S → SubD S (d.map (zb8 s c)) → SubD S (m.1.map (zb8 s c)) := fun S hS hs => by
      have h5 := h4 S hS (hs.trans keep_sub.1); refine ⟨by rw [List.length_map]; exact h5.1, fun i hi => ?_⟩; rw [List.length_map] at hi; (have hid : i < d.length := by rw [← h3.1.1]; exact hi); rw [za9 hi]; have h6 := h5.2 i hi; refine ⟨h6.1, fun k hk => keepD_mem.2 ⟨h6.2 k hk, fun e => ?_⟩⟩; have h7 := (hs.2 i (by rw [List.length_map]; exact hid)).2 k hk; rw [za9 hid] at h7; exact (keepD_mem.1 h7).2 (by rw [← (h3.1.2 i hid).1]; exact e)
    rcases hr with ⟨g1, g2, g3, g4⟩ | ⟨g1, g2⟩
    · refine .inl ⟨g1, g2, ⟨g3.1.trans (ziE h3.1), fun i hi => ?_⟩, fun S hS hs => g4 S hS (hsup S hS hs)⟩; rw [List.length_map] at hi; (have hi' : i < m.1.length := by rw [h3.1.1]; exact hi); have h8 := g3.2 i (by rw [List.length_map]; exact hi'); rw [za9 hi'] at h8; rw [za9 hi]; refine h8.trans ?_; have hst := (h3.1.2 i hi).1; have hsb := h3.2 i hi; unfold zb8; dsimp only; rw [hst]
      cases decide ((nth d i).Station = s)
      · exact hsb
      · cases ha : (nth m.1 i).Channels.any (fun k => decide (k = c))
        · exact List.nil_sublist _
        · obtain ⟨k, hk, he⟩ := List.any_eq_true.1 ha; rw [List.any_eq_true.2 ⟨k, hsb.subset hk, he⟩]; exact List.Sublist.refl _
    · exact .inr ⟨g1, fun S hS hs => g2 S hS (hsup S hS hs)⟩
  · rw [h1] at hm; cases hm
theorem PropD.ord {m : List GDomain × Bool} (h : PropD p d m) (hm : m.2 = true) : m.1.length = d.length ∧ OrdD m.1 d := by
  rcases h with ⟨_, _, h3, _⟩ | ⟨h1, _⟩
  · exact ⟨h3.1.1, h3.2⟩
  · rw [h1] at hm; cases hm
def zet (l : List GChoice) (i : Nat) : Bool := inB (nth l i).Station 0 511 && (inB (nth l i).Channel 2 51 && !(decide (0 < (i : Int)) && decide ((nth l i).Station ≤ (nth l (i - 1)).Station)))
theorem zgl {l : List GChoice} : zaS l = (List.range l.length).all (zet l) := by
  unfold zaS; simp only [zaF, Nat.sub_zero]; rw [zcI (zet l) (fun i next _ => ?_), Bool.and_true]; rw [zbW, zc8]
  have e : zet l i = (inB (nth l i).Station 0 511 && (!decide ((nth l i).Channel < 2) && (!decide (51 < (nth l i).Channel) && !(decide (0 < (i : Int)) && decide ((nth l i).Station ≤ (nth l (i - 1)).Station))))) := by
    unfold zet; rw [← Bool.and_assoc (!decide _)]
    congr 1
    congr 1
    unfold inB; by_cases h1 : 2 ≤ (nth l i).Channel <;> by_cases h2 : (nth l i).Channel ≤ 51 <;> simp [h1, h2, Int.not_lt, Int.not_le] <;> omega
  rw [e]
  cases inB (nth l i).Station 0 511 <;> cases decide ((nth l i).Channel < 2) <;> cases decide (51 < (nth l i).Channel) <;> cases (decide (0 < (i : Int)) && decide ((nth l i).Station ≤ (nth l (i - 1)).Station)) <;> rfl
theorem zlM (p : GProblem) : (pbG p).er = p := by
  unfold pbG Pb.er; dsimp only; rw [zdr (g := Dx.er) (fun _ => rfl), zdr (g := Pr.er) (fun _ => rfl), zdr (g := Ld.er) (fun _ => rfl), zdr (g := Cp.er) (fun _ => rfl)]
theorem zg3 {d : List GDomain} {n : Nat} (h : ∀ x ∈ d, x.Channels.length ≤ n) : totG d ≤ d.length * n := by
  induction d with
  | nil => simp [totG]
  | cons x r ih =>
    have h1 := h x (by simp); have h2 := ih (fun y hy => h y (by simp [hy])); simp only [totG, List.map_cons, List.sum_cons, List.length_cons, Nat.add_mul] at h2 ⊢; omega
theorem zkC (h : okG p = true) : WtP p ∧ Bd p.Domains ∧ totG p.Domains ≤ 30000 ∧ p.Domains.length ≤ 512 := by
  have hG := Pb.good h; have hw := zle h; rw [zlM] at hw; have hl : (pbG p).ds.length = p.Domains.length := List.length_map _; (have hn : p.Domains.length ≤ 512 := by rw [← hl]; exact hG.n)
  have hc : ∀ x ∈ p.Domains, x.Channels.length ≤ 52 ∧ x.Channels.Nodup := fun x hx => by
    obtain ⟨i, hi, rfl⟩ := zaV hx; have e : nth (pbG p).ds i = (nth p.Domains i).b := zaQ hi; have h1 := hG.chs _ (zap (show i < (pbG p).ds.length by rw [hl]; exact hi)); have h2 := zjG h (i := i) (by rw [hl]; exact hi); rw [e] at h1 h2; exact ⟨h1.1, (zdh List.nodup_range').sublist h2⟩
  refine ⟨hw, ⟨by omega, fun x hx => ⟨by have := (hc x hx).1; omega, (hc x hx).2⟩⟩, ?_, hn⟩; have := zg3 (d := p.Domains) (n := 52) (fun x hx => (hc x hx).1); omega
theorem hasSt_find {s : Int} : zac p s < 0 ↔ zb9 p s = false := zkK
end
end Go.Proofs.YtbpbhbkcahcdiaaGreatDoor
namespace Go.Proofs.YtbpbhbkcahcdiaaGreatDoor
open Go.RowKit
structure GG (p : GProblem) : Prop where
  n : p.Domains.length ≤ 512
  st : ∀ x ∈ p.Domains, 0 ≤ x.Station ∧ x.Station ≤ 511
  chs : ∀ x ∈ p.Domains, x.Channels.length ≤ 52 ∧ ∀ c ∈ x.Channels, 2 ≤ c ∧ c ≤ 51
  inc : ∀ i j, i < j → j < p.Domains.length → (nth p.Domains i).Station < (nth p.Domains j).Station
  ps : ∀ x ∈ p.Rules.Pairs, (zb9 p x.A = true ∧ zb9 p x.B = true) ∧ (x.A < x.B ∧ -1 ≤ x.Offset ∧ x.Offset ≤ 1) ∧ 2 ≤ x.Low ∧ x.Low ≤ x.High ∧ x.High ≤ 51
  ls : ∀ x ∈ p.Rules.Loads, (zb9 p x.To = true ∧ zb9 p x.From = true) ∧ (x.To ≠ x.From ∧ 1 ≤ x.Weight ∧ x.Weight ≤ 1073741824) ∧ 2 ≤ x.Low ∧ x.Low ≤ x.High ∧ x.High ≤ 51
  cs : ∀ x ∈ p.Rules.Caps, zb9 p x.Station = true ∧ (0 ≤ x.Max ∧ x.Max ≤ 1099511627776) ∧ 2 ≤ x.Low ∧ x.Low ≤ x.High ∧ x.High ≤ 51
  lls : p.Rules.Loads.length ≤ 1024
  lps : p.Rules.Pairs.length ≤ 4096
  lcs : p.Rules.Caps.length ≤ 1024
theorem hasSt_ex {p : GProblem} {s : Int} : zb9 p s = true ↔ ∃ x ∈ p.Domains, x.Station = s := by
  unfold zb9; rw [List.any_eq_true]; simp only [decide_eq_true_eq]
theorem zkw {p : GProblem} (h : okG p = true) : GG p := by
  have hG := Pb.good h; have hl : (pbG p).ds.length = p.Domains.length := List.length_map _; have hn : ∀ i, i < p.Domains.length → nth (pbG p).ds i = (nth p.Domains i).b := fun i hi => za9 hi
  have hs : ∀ {s : Int}, (∃ i, i < (pbG p).ds.length ∧ s = (nth (pbG p).ds i).st) → zb9 p s = true := fun ⟨i, hi, e⟩ => by
    rw [hl] at hi; rw [hn i hi] at e; exact hasSt_ex.2 ⟨_, zap hi, e.symm⟩
  refine ⟨by rw [← hl]; exact hG.n, fun x hx => hG.st x.b (List.mem_map.2 ⟨x, hx, rfl⟩), fun x hx => hG.chs x.b (List.mem_map.2 ⟨x, hx, rfl⟩), fun i j hij hj => ?_, fun x hx => ?_, fun x hx => ?_, fun x hx => ?_, ?_, ?_, ?_⟩
  · have := hG.inc i j hij (by rw [hl]; exact hj); rw [hn i (by omega), hn j hj] at this; exact this
  · obtain ⟨h1, h2, h3⟩ := hG.ps x.b (List.mem_map.2 ⟨x, hx, rfl⟩); simp only [Pr.ok, rngB, inB, Bool.and_eq_true, decide_eq_true_eq] at h1; exact ⟨⟨hs h2, hs h3⟩, by show x.A < x.B ∧ _; exact ⟨h1.2.2.1, h1.2.2.2.1.1, h1.2.2.2.1.2⟩, h1.2.2.2.2.1, h1.2.2.2.2.2.1, h1.2.2.2.2.2.2⟩
  · obtain ⟨h1, h2, h3⟩ := hG.ls x.b (List.mem_map.2 ⟨x, hx, rfl⟩); simp only [Ld.ok, rngB, inB, Bool.and_eq_true, decide_eq_true_eq] at h1; exact ⟨⟨hs h2, hs h3⟩, ⟨h1.2.2.1, h1.2.2.2.1.1, h1.2.2.2.1.2⟩, h1.2.2.2.2.1, h1.2.2.2.2.2.1, h1.2.2.2.2.2.2⟩
  · obtain ⟨h1, h2⟩ := hG.cs x.b (List.mem_map.2 ⟨x, hx, rfl⟩); simp only [Cp.ok, rngB, inB, Bool.and_eq_true, decide_eq_true_eq] at h1; exact ⟨hs h2, ⟨h1.2.1.1, h1.2.1.2⟩, h1.2.2.1, h1.2.2.2.1, h1.2.2.2.2⟩
  · have := hG.lls; have e : (pbG p).ls.length = p.Rules.Loads.length := List.length_map _; omega
  · have := hG.lps; have e : (pbG p).ps.length = p.Rules.Pairs.length := List.length_map _; omega
  · have := hG.lcs; have e : (pbG p).cs.length = p.Rules.Caps.length := List.length_map _; omega
end Go.Proofs.YtbpbhbkcahcdiaaGreatDoor
namespace Go.Proofs.YtbpbhbkcahcdiaaGreatDoor
open Go.RowKit
structure ValidL (l : List GChoice) : Prop where
  good : ∀ c ∈ l, 0 ≤ c.Station ∧ c.Station ≤ 511 ∧ 2 ≤ c.Channel ∧ c.Channel ≤ 51
  inc : ∀ i j, i < j → j < l.length → (nth l i).Station < (nth l j).Station
theorem validL_iff {l : List GChoice} : (List.range l.length).all (zet l) = true ↔ ValidL l := by
  rw [List.all_eq_true]; simp only [List.mem_range, zet, inB, Bool.and_eq_true, decide_eq_true_eq, Bool.not_eq_true', Bool.and_eq_false_iff, decide_eq_false_iff_not]; constructor
  · intro h; refine ⟨fun c hc => ?_, fun i j hij hj => ?_⟩
    · obtain ⟨i, hi, rfl⟩ := zaV hc; have := h i hi; omega
    · have key : ∀ m, i + m + 1 < l.length → (nth l i).Station < (nth l (i + m + 1)).Station := by
        intro m
        induction m with
        | zero => intro hm; have := (h (i + 1) hm).2.2; rw [show i + 1 - 1 = i by omega] at this; rw [Nat.add_zero]; omega
        | succ m ih => intro hm; have h1 := ih (by omega); have := (h (i + (m + 1) + 1) hm).2.2; rw [show i + (m + 1) + 1 - 1 = i + m + 1 by omega] at this; omega
      have := key (j - i - 1) (by omega)
      rwa [show i + (j - i - 1) + 1 = j by omega] at this
  · intro h i hi; have := h.good _ (zap hi); refine ⟨by omega, by omega, ?_⟩; rcases Nat.eq_zero_or_pos i with h0 | h0
    · subst h0; left; omega
    · right; have := h.inc (i - 1) i (by omega) hi; omega
theorem ValidL.inj {l : List GChoice} (h : ValidL l) {a b : GChoice} (ha : a ∈ l) (hb : b ∈ l) (e : a.Station = b.Station) : a = b := by
  obtain ⟨i, hi, rfl⟩ := zaV ha; obtain ⟨j, hj, rfl⟩ := zaV hb; rcases Nat.lt_trichotomy i j with h1 | h1 | h1
  · have := h.inc i j h1 hj; omega
  · rw [h1]
  · have := h.inc j i h1 hi; omega
def orV (k : Int) (o : Option Nat) (r : GViolation) : GViolation := match o with
  | some i => ⟨k, (i : Int)⟩
  | none => r
section
variable {p : GProblem} {f : Int → Int}
end
end Go.Proofs.YtbpbhbkcahcdiaaGreatDoor
namespace Go.Proofs.YtbpbhbkcahcdiaaGreatDoor
open Go.RowKit
structure FiltD (f : GDomain → GDomain) (φ : Int → Int → Prop) : Prop where
  st : ∀ x, (f x).Station = x.Station
  mem : ∀ x q, q ∈ (f x).Channels ↔ q ∈ x.Channels ∧ φ x.Station q
  sub : ∀ x, (f x).Channels.Sublist x.Channels
  mono : ∀ x y, x.Station = y.Station → x.Channels.Sublist y.Channels → (f x).Channels.Sublist (f y).Channels
theorem FiltD.id : FiltD id (fun _ _ => True) := ⟨fun _ => rfl, fun _ _ => by simp, fun _ => List.Sublist.refl _, fun _ _ _ h => h⟩
theorem FiltD.keep (s c : Int) : FiltD (zb8 s c) (fun t q => t = s → q = c) := by
  refine ⟨fun _ => rfl, fun _ _ => keepD_mem, fun _ => zgF, fun x y hst hsb => ?_⟩; unfold zb8; dsimp only; rw [hst]
  cases decide (y.Station = s)
  · exact hsb
  · cases ha : x.Channels.any (fun k => decide (k = c))
    · exact List.nil_sublist _
    · obtain ⟨k, hk, he⟩ := List.any_eq_true.1 ha; rw [List.any_eq_true.2 ⟨k, hsb.subset hk, he⟩]; exact List.Sublist.refl _
theorem FiltD.drop (s c : Int) : FiltD (zcY s c) (fun t q => ¬ t = s ∨ ¬ q = c) := by
  refine ⟨fun _ => rfl, fun x q => ?_, fun _ => List.filter_sublist, fun x y hst hsb => ?_⟩
  · unfold zcY; simp only [List.mem_filter, Bool.or_eq_true, decide_eq_true_eq]
  · unfold zcY; dsimp only; rw [hst]; exact hsb.filter _
section
variable {p : GProblem} {a b d : List GDomain} {f : GDomain → GDomain} {φ : Int → Int → Prop}
end
end Go.Proofs.YtbpbhbkcahcdiaaGreatDoor
namespace Go.Proofs.YtbpbhbkcahcdiaaGreatDoor
open Go.RowKit
def hv : List Nat → Nat
  | [] => 0
  | d :: r => d + 256 * hv r
end Go.Proofs.YtbpbhbkcahcdiaaGreatDoor
namespace Go.Proofs.YtbpbhbkcahcdiaaGreatDoor
open Go.RowKit
section
variable {B w : World} {M S0 : Nat → Prop} {hs : HS} {F : FzB B M S0} {e : Ent} {i j : Nat}
theorem Hp.newAt (hw : Hp B M hs w) (hi : hs[i]? = some e) {g : Nat} (hg : e.fp g) : M g ∨ B.heap.size ≤ g := hw.new e (List.mem_of_getElem? hi) g hg
theorem Hp.apartF (hw : Hp B M hs w) (hi : hs[i]? = some e) (hj : hs[j]? = some (.fr F)) (hij : i < j) : ∀ g, e.fp g → ¬ F.toFrz.S g := fun g hg hS =>
  hw.ne hij hi hj hg (Ent.fr_fp.2 ⟨hS, hw.newAt hi hg⟩)
end
end Go.Proofs.YtbpbhbkcahcdiaaGreatDoor
