/- Yp Ca Pa Pg Pi Pj Kn Ye: shortened and put together by squeeze.py. -/
import Derived.Test.YtnhdlloidbomdaaGreatQ04
set_option maxRecDepth 100000
set_option maxHeartbeats 4000000
set_option linter.unusedVariables false
set_option linter.unusedSectionVars false
set_option linter.unusedSimpArgs false
namespace Go.Proofs.YtnhdlloidbomdaaGreat
open Go.RowKit
def zao (c : Int) : Bool :=
  (zam c 2 51)
theorem zc9 (F0 : Frz) (w : World) (hF0 : F0.At w) (c : Int) : Calls Tryz.prog 84 #[.int .i64 c] w fun e w' => e = .returned (.bool (zao c)) ∧ Below w.heap.size w w' := by
  obtain ⟨r, hk⟩ : ∃ r, zao c = r := ⟨_, rfl⟩; rw [hk]; unfold zao at hk; obtain ⟨S0, F1, rfl, hS0, hp0⟩ := zak hF0; refine zap Tryz.func84 rfl rfl rfl hp0 ?_; refine T.sr ?_; refine TL.run 1 rfl ?_; refine TL.nx ?_; refine TL.run 1 rfl ?_; refine TL.e (Ew.ah rfl rfl rfl (fun w hw => zbA _ w (hw.fr (i := 0) rfl) c 2 51)) ?_; rintro _ _ ⟨rfl, rfl⟩; refine TL.run 1 rfl ?_; refine TL.ns (T.ret ?_); subst hk; exact K.ai rfl rfl (fun w' hw => ⟨rfl, hw.isBelow⟩)
def zbi (l : List Int) : Bool :=
  zaH (fun (_ : Unit) =>
    true)
  (fun k1 =>
    zai (fun (i_3 : Nat) (next2 : Unit → Bool) (_ : Unit) =>
      (bif !(zao (nth l i_3)) then
        false
        else
        next2 ()))
    (fun (_ : Unit) =>
      k1 ()) (l.length - 0) 0 ())
theorem zcX (F0 : Frz) (w : World) (hF0 : F0.At w) (l : List Int) (vl : Value) (hl : SlC F0 vl 1 (l.map eI)) : Calls Tryz.prog 85 #[vl, .func (.func 84) #[] #[]] w fun e w' => e = .returned (.bool (zbi l)) ∧ Below w.heap.size w w' := by
  obtain ⟨r, hk⟩ : ∃ r, zbi l = r := ⟨_, rfl⟩; rw [hk]; unfold zbi at hk; haveI := hl.oneC; obtain ⟨S0, F1, rfl, hS0, hp0⟩ := zak hF0; refine zap Tryz.func85 rfl rfl rfl hp0 ?_; refine T.sr ?_; refine TL.run 1 rfl ?_; refine TL.ns (T.seq (T.sr ?_)); refine TL.run 1 rfl ?_; refine TL.y (Yv.am rfl rfl hl (List.length_map _)) ?_; have hm8 : l.length ≤ 9223372036854775807 := (List.length_map _) ▸ hl.max; refine TL.run 1 rfl ?_; refine TL.ns ?_; have hq := zae hk; clear hk; obtain ⟨k1, hk1, hk⟩ := hq; (try dsimp only at hk); refine T.ae (ι := Unit) (fun z => []) (fun z => [.fr F1]) (fun z => k1 () = r) ?_ ?_
  · have hq := zaj hk; clear hk; obtain ⟨f2, kk2, hf2, hkk2, hk⟩ := hq; refine T.block ?_; refine T.loop (ι := Nat) (fun z => [(1, .func (.func 84) #[] #[]), (7, vl), (8, .int .i64 (l.length : Int)), (9, .int .i64 (z : Int))]) (fun z => [.fr F1]) (fun z => zai f2 kk2 (l.length - z) z () = r) (fun z => l.length - z) 0 ?_ ?_ ?_ ?_
    · exact hk
    · exact (.c (.c (.c (.c .nil))))
    · exact List.Sublist.refl _
    · rintro i_3 hk; refine T.sr ?_; refine TL.run 1 rfl ?_; refine TL.ns (T.seq ?_); refine T.cond rfl (fun h4 => ?_) (fun h4 => ?_)
      · have p4 := of_decide_eq_true h4; rw [zaq (by omega)] at hk; generalize hn2 : zai f2 kk2 (l.length - (i_3 + 1)) (i_3 + 1) = next2 at hk; rw [← hf2] at hk; (try dsimp only at hk); refine T.skip (K.seq (T.seq (T.block (T.sr ?_)))); refine TL.y (Yv.an (i := i_3) rfl rfl rfl hl (List.length_map _) rfl (by omega)) ?_; refine TL.y (Yv.as 0 (i := i_3) (j := 0) rfl rfl rfl hl (by omega) rfl rfl) ?_; refine TL.run 1 rfl ?_; refine TL.nx ?_; refine TL.run 2 rfl ?_; refine TL.e (Ew.ah rfl rfl rfl (fun w hw => zc9 _ w (hw.fr (i := 0) rfl) (nth l i_3))) ?_; rintro _ _ ⟨rfl, rfl⟩; refine TL.run 1 rfl ?_; refine TL.ns ?_; refine T.cond rfl (fun h5 => ?_) (fun h5 => ?_)
        · replace hk := zaa hk h5; refine T.sr ?_; refine TL.run 1 rfl ?_; refine TL.ns (T.ret (K.ag (K.ab (K.ab (K.ag (K.ab ?_)))))); subst hk; exact K.ai rfl rfl (fun w' hw => ⟨rfl, hw.isBelow⟩)
        · replace hk := zab hk h5; refine T.skip (K.ac (K.seq (T.region ?_))); refine TL.y (Yv.ao rfl rfl rfl (by omega)) ?_; refine TL.run 1 rfl ?_; refine TL.nil ?_; rw [← hn2] at hk; exact K.next (i_3 + 1) hk (by omega) (.c (.c (.c (.c .nil)))) (List.Sublist.refl _)
      · have p4 := of_decide_eq_false h4; rw [zar (by omega), ← hkk2] at hk; (try dsimp only at hk); refine T.exit (K.aa (K.aa (K.ad ?_))); exact K.af () hk .nil (List.Sublist.refl _)
  · rintro _ hk; rw [← hk1] at hk; (try dsimp only at hk); refine T.sr ?_; refine TL.run 1 rfl ?_; refine TL.ns (T.ret ?_); subst hk; exact K.ai rfl rfl (fun w' hw => ⟨rfl, hw.isBelow⟩)
def zbj (l : List Int) : Option Bool :=
  zaH (fun (_ : Unit) =>
    some true)
  (fun k1 =>
    zai (fun (i_3 : Nat) (next2 : Unit → Option Bool) (_ : Unit) =>
      grd (0 ≤ ((i_3 : Int) - 1) ∧ ((i_3 : Int) - 1) < (l.length : Int)) <|
      (bif decide (0 ≤ (zac (nth l (((i_3 : Int) - 1).toNat)) (nth l i_3))) then
        some false
        else
        next2 ()))
    (fun (_ : Unit) =>
      k1 ()) (l.length - 1) 1 ())
theorem zcM (F0 : Frz) (w : World) (hF0 : F0.At w) (l : List Int) (vl : Value) (hl : SlC F0 vl 1 (l.map eI)) (r : Bool) (hr : zbj l = some r) : Calls Tryz.prog 86 #[vl, .func (.func 65) #[] #[]] w fun e w' => e = .returned (.bool r) ∧ Below w.heap.size w w' := by
  have hk := hr; unfold zbj at hk; haveI := hl.oneC; obtain ⟨S0, F1, rfl, hS0, hp0⟩ := zak hF0; refine zap Tryz.func86 rfl rfl rfl hp0 ?_; refine T.sr ?_; refine TL.run 1 rfl ?_; refine TL.ns (T.seq (T.sr ?_)); refine TL.run 1 rfl ?_; refine TL.ns ?_; have hq := zae hk; clear hk; obtain ⟨k1, hk1, hk⟩ := hq; (try dsimp only at hk); refine T.ae (ι := Unit) (fun z => []) (fun z => [.fr F1]) (fun z => k1 () = some r) ?_ ?_
  · have hq := zaj hk; clear hk; obtain ⟨f2, kk2, hf2, hkk2, hk⟩ := hq; refine T.block ?_; refine T.loop (ι := Nat) (fun z => [(0, vl), (1, .func (.func 65) #[] #[]), (5, .int .i64 (z : Int))]) (fun z => [.fr F1]) (fun z => zai f2 kk2 (l.length - z) z () = some r) (fun z => l.length - z) 1 ?_ ?_ ?_ ?_
    · exact hk
    · exact (.c (.c (.c .nil)))
    · exact List.Sublist.refl _
    · rintro i_3 hk; refine T.seq (T.sr ?_); refine TL.run 2 rfl ?_; refine TL.y (Yv.am rfl rfl hl (List.length_map _)) ?_; have hm8 : l.length ≤ 9223372036854775807 := (List.length_map _) ▸ hl.max; refine TL.run 1 rfl ?_; refine TL.ns ?_; refine T.cond rfl (fun h4 => ?_) (fun h4 => ?_)
      · have p4 := of_decide_eq_true h4; rw [zaq (by omega)] at hk; generalize hn2 : zai f2 kk2 (l.length - (i_3 + 1)) (i_3 + 1) = next2 at hk; rw [← hf2] at hk; (try dsimp only at hk); refine T.skip (K.seq (T.seq (T.block (T.seq ?_)))); have hq : (0 ≤ ((i_3 : Int) - 1) ∧ ((i_3 : Int) - 1) < (l.length : Int)) ∧ _ := zan hk; clear hk; obtain ⟨g16, hk⟩ := hq; (try dsimp only at hk); refine T.ax (.still 0 (.still 1 (.still 2 (.still 3 (.still 4 (.still 5 (.still 6 (.still 7 (.still 8 (.still 9 (.eff 10 (.still 11 .done)))))))))))) _ (by kernel_rfl) (List.Sublist.refl _) ?_; refine TS.run 3 rfl ?_; refine TS.y rfl (Yv.aL rfl rfl rfl (by omega)) ?_; refine TS.y rfl (Yv.an (i := ((i_3 : Int) - 1).toNat) rfl rfl rfl hl (List.length_map _) (by omega) (by omega)) ?_; refine TS.y rfl (Yv.as 0 (i := ((i_3 : Int) - 1).toNat) (j := 0) rfl rfl rfl hl (by omega) rfl rfl) ?_; refine TS.run 2 rfl ?_; refine TS.y rfl (Yv.an (i := i_3) rfl rfl rfl hl (List.length_map _) rfl (by omega)) ?_; refine TS.y rfl (Yv.as 0 (i := i_3) (j := 0) rfl rfl rfl hl (by omega) rfl rfl) ?_; refine TS.eff ?_; refine TSo.au rfl (Wt.none rfl) rfl rfl (Ew.ah rfl rfl rfl (fun w hw => zav _ w (hw.fr (i := 0) rfl) (nth l (((i_3 : Int) - 1).toNat)) (nth l i_3))) ?_; rintro _ _ ⟨rfl, rfl⟩; refine ⟨(fun w hw => hw.sub Sx), ?_⟩; refine TS.run 1 rfl ?_; refine TS.done ?_; refine K.seq ?_; refine T.cond rfl (fun h5 => ?_) (fun h5 => ?_)
        · have p5 := of_decide_eq_true h5; replace hk := zaa hk h5; refine T.sr ?_; refine TL.run 1 rfl ?_; refine TL.ns (T.ret (K.ag (K.ab (K.ab (K.ag (K.ab ?_)))))); obtain rfl := Option.some.inj hk; exact K.ai rfl rfl (fun w' hw => ⟨rfl, hw.isBelow⟩)
        · have p5 := of_decide_eq_false h5; replace hk := zab hk h5; refine T.skip (K.ac (K.seq (T.region ?_))); refine TL.run 1 rfl ?_; refine TL.y (Yv.ao rfl rfl rfl (by omega)) ?_; refine TL.run 1 rfl ?_; refine TL.nil ?_; rw [← hn2] at hk; exact K.next (i_3 + 1) hk (by omega) (.c (.c (.c .nil))) (List.Sublist.refl _)
      · have p4 := of_decide_eq_false h4; rw [zar (by omega), ← hkk2] at hk; (try dsimp only at hk); refine T.exit (K.aa (K.aa (K.ad ?_))); exact K.af () hk .nil (List.Sublist.refl _)
  · rintro _ hk; rw [← hk1] at hk; (try dsimp only at hk); refine T.sr ?_; refine TL.run 1 rfl ?_; refine TL.ns (T.ret ?_); obtain rfl := Option.some.inj hk; exact K.ai rfl rfl (fun w' hw => ⟨rfl, hw.isBelow⟩)
def zbw (d : GDomain) : Option Bool :=
  zaH (fun (x_1 : Bool) =>
    some x_1)
  (fun k2 =>
    (bif (zaf d.Station) then
      (bif (zbi d.Channels) then
        (zbj d.Channels).bind fun r16 =>
        k2 r16
        else
        k2 false)
      else
      k2 false))
theorem zdv (F0 : Frz) (w : World) (hF0 : F0.At w) (d : GDomain) (vd_1 : Value) (hd_1 : SlC F0 vd_1 1 (d.Channels.map eI)) (r : Bool) (hr : zbw d = some r) : Calls Tryz.prog 62 #[.agg [.int .i64 d.Station, vd_1].toArray] w fun e w' => e = .returned (.bool r) ∧ Below w.heap.size w w' := by
  have hk := hr; unfold zbw at hk; haveI := hd_1.oneC; obtain ⟨S0, F1, rfl, hS0, hp0⟩ := zak hF0; refine zap Tryz.func62 rfl rfl rfl hp0 ?_; refine T.sr ?_; refine TL.e (Ew.az rfl rfl) ?_; rintro _ _ ⟨g1, rfl, rfl⟩; refine TL.run 1 rfl ?_; refine TL.nx ?_; refine TL.run 1 rfl ?_; refine TL.ns (T.seq ?_); (try dsimp only at hk); have hq := zae hk; clear hk; obtain ⟨k2, hk2, hk⟩ := hq; (try dsimp only at hk); refine T.ae (ι := Bool) (fun z => [(2, .bool z)]) (fun z => [.fr F1]) (fun z => k2 z = some r) ?_ ?_
  · refine T.region ?_; refine TL.y (Yv.fieldAddr rfl rfl) ?_; refine TL.y (Yv.a 0 rfl rfl rfl rfl) ?_; refine TL.e (Ew.ah rfl rfl rfl (fun w hw => zbc _ w (hw.fr (i := 1) rfl) d.Station)) ?_; rintro _ _ ⟨rfl, rfl⟩; refine TL.run 1 rfl ?_; refine TL.gs rfl rfl rfl (fun h3 => ?_) (fun h3 => ?_)
    · replace hk := zaa hk h3; refine TL.y (Yv.fieldAddr rfl rfl) ?_; refine TL.y (Yv.a 0 rfl rfl rfl rfl) ?_; refine TL.run 1 rfl ?_; refine TL.e (Ew.ah rfl rfl rfl (fun w hw => zcX _ w (hw.fr (i := 1) rfl) d.Channels vd_1 hd_1)) ?_; rintro _ _ ⟨rfl, rfl⟩; refine TL.run 2 rfl ?_; refine TL.gs rfl rfl rfl (fun h4 => ?_) (fun h4 => ?_)
      · replace hk := zaa hk h4; refine TL.y (Yv.fieldAddr rfl rfl) ?_; refine TL.y (Yv.a 0 rfl rfl rfl rfl) ?_; have hq := zah hk; clear hk; obtain ⟨r16, hr16, hk⟩ := hq; refine TL.e (Ew.ah rfl rfl rfl (fun w hw => zcM _ w (hw.fr (i := 1) rfl) d.Channels vd_1 hd_1 r16 hr16)) ?_; rintro _ _ ⟨rfl, rfl⟩; refine TL.run 2 rfl ?_; refine TL.nil ?_; refine K.pick [1] rfl (by decide) ?_; exact K.af r16 hk (.c .nil) (List.Sublist.refl _)
      · replace hk := zab hk h4; refine TL.run 5 rfl ?_; refine TL.nil ?_; refine K.pick [1] rfl (by decide) ?_; exact K.af false hk (.c .nil) (List.Sublist.refl _)
    · replace hk := zab hk h3; refine TL.run 11 rfl ?_; refine TL.nil ?_; refine K.pick [1] rfl (by decide) ?_; exact K.af false hk (.c .nil) (List.Sublist.refl _)
  · rintro x_1 hk; rw [← hk2] at hk; (try dsimp only at hk); refine T.ret ?_; obtain rfl := Option.some.inj hk; exact K.ai rfl rfl (fun w' hw => ⟨rfl, hw.isBelow⟩)
def zaz (l : List GPair) : Bool :=
  zaH (fun (_ : Unit) =>
    true)
  (fun k1 =>
    zai (fun (i_3 : Nat) (next2 : Unit → Bool) (_ : Unit) =>
      (bif !(zaJ (nth l i_3)) then
        false
        else
        next2 ()))
    (fun (_ : Unit) =>
      k1 ()) (l.length - 0) 0 ())
theorem zbW (F0 : Frz) (w : World) (hF0 : F0.At w) (l : List GPair) (vl : Value) (hl : SlC F0 vl 5 (l.map GPair.enc)) : Calls Tryz.prog 68 #[vl, .func (.func 87) #[] #[]] w fun e w' => e = .returned (.bool (zaz l)) ∧ Below w.heap.size w w' := by
  obtain ⟨r, hk⟩ : ∃ r, zaz l = r := ⟨_, rfl⟩; rw [hk]; unfold zaz at hk; haveI := hl.oneC; obtain ⟨S0, F1, rfl, hS0, hp0⟩ := zak hF0; refine zap Tryz.func68 rfl rfl rfl hp0 ?_; refine T.sr ?_; refine TL.run 1 rfl ?_; refine TL.ns (T.seq (T.sr ?_)); refine TL.run 1 rfl ?_; refine TL.y (Yv.am rfl rfl hl (List.length_map _)) ?_; have hm8 : l.length ≤ 9223372036854775807 := (List.length_map _) ▸ hl.max; refine TL.run 1 rfl ?_; refine TL.ns ?_; have hq := zae hk; clear hk; obtain ⟨k1, hk1, hk⟩ := hq; (try dsimp only at hk); refine T.ae (ι := Unit) (fun z => []) (fun z => [.fr F1]) (fun z => k1 () = r) ?_ ?_
  · have hq := zaj hk; clear hk; obtain ⟨f2, kk2, hf2, hkk2, hk⟩ := hq; refine T.block ?_; refine T.loop (ι := Nat) (fun z => [(1, .func (.func 87) #[] #[]), (7, vl), (8, .int .i64 (l.length : Int)), (9, .int .i64 (z : Int))]) (fun z => [.fr F1]) (fun z => zai f2 kk2 (l.length - z) z () = r) (fun z => l.length - z) 0 ?_ ?_ ?_ ?_
    · exact hk
    · exact (.c (.c (.c (.c .nil))))
    · exact List.Sublist.refl _
    · rintro i_3 hk; refine T.sr ?_; refine TL.run 1 rfl ?_; refine TL.ns (T.seq ?_); refine T.cond rfl (fun h4 => ?_) (fun h4 => ?_)
      · have p4 := of_decide_eq_true h4; rw [zaq (by omega)] at hk; generalize hn2 : zai f2 kk2 (l.length - (i_3 + 1)) (i_3 + 1) = next2 at hk; rw [← hf2] at hk; (try dsimp only at hk); refine T.skip (K.seq (T.seq (T.block (T.sr ?_)))); refine TL.y (Yv.an (i := i_3) rfl rfl rfl hl (List.length_map _) rfl (by omega)) ?_; refine TL.y (Yv.aq 0 (i := i_3) rfl rfl rfl hl (by omega) rfl rfl rfl) ?_; refine TL.e (Ew.alloc rfl) ?_; rintro _ _ ⟨g6, rfl, rfl⟩; refine TL.e0 (Ew.ak 0 rfl rfl rfl rfl rfl rfl) ?_; rintro _ _ ⟨rfl, rfl⟩; refine TL.nx ?_; refine TL.run 1 rfl ?_; refine TL.y (Yv.al 0 rfl rfl rfl rfl) ?_; refine TL.e (Ew.ah rfl rfl rfl (fun w hw => zdR _ w (hw.fr (i := 1) rfl) (nth l i_3))) ?_; rintro _ _ ⟨rfl, rfl⟩; refine TL.run 1 rfl ?_; refine TL.ns ?_; refine T.cond rfl (fun h5 => ?_) (fun h5 => ?_)
        · replace hk := zaa hk h5; refine T.sr ?_; refine TL.run 1 rfl ?_; refine TL.ns (T.ret (K.ag (K.ab (K.ab (K.ag (K.ab ?_)))))); subst hk; exact K.ai rfl rfl (fun w' hw => ⟨rfl, hw.isBelow⟩)
        · replace hk := zab hk h5; refine T.skip (K.ac (K.seq (T.region ?_))); refine TL.y (Yv.ao rfl rfl rfl (by omega)) ?_; refine TL.run 1 rfl ?_; refine TL.nil ?_; rw [← hn2] at hk; refine K.pick [1] rfl (by decide) ?_; exact K.next (i_3 + 1) hk (by omega) (.c (.c (.c (.c .nil)))) (List.Sublist.refl _)
      · have p4 := of_decide_eq_false h4; rw [zar (by omega), ← hkk2] at hk; (try dsimp only at hk); refine T.exit (K.aa (K.aa (K.ad ?_))); exact K.af () hk .nil (List.Sublist.refl _)
  · rintro _ hk; rw [← hk1] at hk; (try dsimp only at hk); refine T.sr ?_; refine TL.run 1 rfl ?_; refine TL.ns (T.ret ?_); subst hk; exact K.ai rfl rfl (fun w' hw => ⟨rfl, hw.isBelow⟩)
def zax (l : List GPair) : Option Bool :=
  zaH (fun (_ : Unit) =>
    some true)
  (fun k1 =>
    zai (fun (i_3 : Nat) (next2 : Unit → Option Bool) (_ : Unit) =>
      grd (0 ≤ ((i_3 : Int) - 1) ∧ ((i_3 : Int) - 1) < (l.length : Int)) <|
      (bif decide (0 ≤ (za4 (nth l (((i_3 : Int) - 1).toNat)) (nth l i_3))) then
        some false
        else
        next2 ()))
    (fun (_ : Unit) =>
      k1 ()) (l.length - 1) 1 ())
theorem zbx (F0 : Frz) (w : World) (hF0 : F0.At w) (l : List GPair) (vl : Value) (hl : SlC F0 vl 5 (l.map GPair.enc)) (r : Bool) (hr : zax l = some r) : Calls Tryz.prog 88 #[vl, .func (.func 89) #[] #[]] w fun e w' => e = .returned (.bool r) ∧ Below w.heap.size w w' := by
  have hk := hr; unfold zax at hk; haveI := hl.oneC; obtain ⟨S0, F1, rfl, hS0, hp0⟩ := zak hF0; refine zap Tryz.func88 rfl rfl rfl hp0 ?_; refine T.sr ?_; refine TL.run 1 rfl ?_; refine TL.ns (T.seq (T.sr ?_)); refine TL.run 1 rfl ?_; refine TL.ns ?_; have hq := zae hk; clear hk; obtain ⟨k1, hk1, hk⟩ := hq; (try dsimp only at hk); refine T.ae (ι := Unit) (fun z => []) (fun z => [.fr F1]) (fun z => k1 () = some r) ?_ ?_
  · have hq := zaj hk; clear hk; obtain ⟨f2, kk2, hf2, hkk2, hk⟩ := hq; refine T.block ?_; refine T.loop (ι := Nat) (fun z => [(0, vl), (1, .func (.func 89) #[] #[]), (5, .int .i64 (z : Int))]) (fun z => [.fr F1]) (fun z => zai f2 kk2 (l.length - z) z () = some r) (fun z => l.length - z) 1 ?_ ?_ ?_ ?_
    · exact hk
    · exact (.c (.c (.c .nil)))
    · exact List.Sublist.refl _
    · rintro i_3 hk; refine T.seq (T.sr ?_); refine TL.run 2 rfl ?_; refine TL.y (Yv.am rfl rfl hl (List.length_map _)) ?_; have hm8 : l.length ≤ 9223372036854775807 := (List.length_map _) ▸ hl.max; refine TL.run 1 rfl ?_; refine TL.ns ?_; refine T.cond rfl (fun h4 => ?_) (fun h4 => ?_)
      · have p4 := of_decide_eq_true h4; rw [zaq (by omega)] at hk; generalize hn2 : zai f2 kk2 (l.length - (i_3 + 1)) (i_3 + 1) = next2 at hk; rw [← hf2] at hk; (try dsimp only at hk); refine T.skip (K.seq (T.seq (T.block (T.seq ?_)))); have hq : (0 ≤ ((i_3 : Int) - 1) ∧ ((i_3 : Int) - 1) < (l.length : Int)) ∧ _ := zan hk; clear hk; obtain ⟨g16, hk⟩ := hq; (try dsimp only at hk); refine T.ax (.still 0 (.still 1 (.still 2 (.still 3 (.still 4 (.still 5 (.still 6 (.still 7 (.still 8 (.still 9 (.eff 10 (.still 11 .done)))))))))))) _ (by kernel_rfl) (List.Sublist.refl _) ?_; refine TS.run 3 rfl ?_; refine TS.y rfl (Yv.aL rfl rfl rfl (by omega)) ?_; refine TS.y rfl (Yv.an (i := ((i_3 : Int) - 1).toNat) rfl rfl rfl hl (List.length_map _) (by omega) (by omega)) ?_; refine TS.y rfl (Yv.aq 0 (i := ((i_3 : Int) - 1).toNat) rfl rfl rfl hl (by omega) rfl rfl rfl) ?_; refine TS.run 2 rfl ?_; refine TS.y rfl (Yv.an (i := i_3) rfl rfl rfl hl (List.length_map _) rfl (by omega)) ?_; refine TS.y rfl (Yv.aq 0 (i := i_3) rfl rfl rfl hl (by omega) rfl rfl rfl) ?_; refine TS.eff ?_; refine TSo.au rfl (Wt.none rfl) rfl rfl (Ew.ah rfl rfl rfl (fun w hw => zda _ w (hw.fr (i := 0) rfl) (nth l (((i_3 : Int) - 1).toNat)) (nth l i_3))) ?_; rintro _ _ ⟨rfl, rfl⟩; refine ⟨(fun w hw => hw.sub Sx), ?_⟩; refine TS.run 1 rfl ?_; refine TS.done ?_; refine K.seq ?_; refine T.cond rfl (fun h5 => ?_) (fun h5 => ?_)
        · have p5 := of_decide_eq_true h5; replace hk := zaa hk h5; refine T.sr ?_; refine TL.run 1 rfl ?_; refine TL.ns (T.ret (K.ag (K.ab (K.ab (K.ag (K.ab ?_)))))); obtain rfl := Option.some.inj hk; exact K.ai rfl rfl (fun w' hw => ⟨rfl, hw.isBelow⟩)
        · have p5 := of_decide_eq_false h5; replace hk := zab hk h5; refine T.skip (K.ac (K.seq (T.region ?_))); refine TL.run 1 rfl ?_; refine TL.y (Yv.ao rfl rfl rfl (by omega)) ?_; refine TL.run 1 rfl ?_; refine TL.nil ?_; rw [← hn2] at hk; exact K.next (i_3 + 1) hk (by omega) (.c (.c (.c .nil))) (List.Sublist.refl _)
      · have p4 := of_decide_eq_false h4; rw [zar (by omega), ← hkk2] at hk; (try dsimp only at hk); refine T.exit (K.aa (K.aa (K.ad ?_))); exact K.af () hk .nil (List.Sublist.refl _)
  · rintro _ hk; rw [← hk1] at hk; (try dsimp only at hk); refine T.sr ?_; refine TL.run 1 rfl ?_; refine TL.ns (T.ret ?_); obtain rfl := Option.some.inj hk; exact K.ai rfl rfl (fun w' hw => ⟨rfl, hw.isBelow⟩)
def zay (l : List GLoad) : Bool :=
  zaH (fun (_ : Unit) =>
    true)
  (fun k1 =>
    zai (fun (i_3 : Nat) (next2 : Unit → Bool) (_ : Unit) =>
      (bif !(zaK (nth l i_3)) then
        false
        else
        next2 ()))
    (fun (_ : Unit) =>
      k1 ()) (l.length - 0) 0 ())
theorem zbV (F0 : Frz) (w : World) (hF0 : F0.At w) (l : List GLoad) (vl : Value) (hl : SlC F0 vl 5 (l.map GLoad.enc)) : Calls Tryz.prog 71 #[vl, .func (.func 90) #[] #[]] w fun e w' => e = .returned (.bool (zay l)) ∧ Below w.heap.size w w' := by
  obtain ⟨r, hk⟩ : ∃ r, zay l = r := ⟨_, rfl⟩; rw [hk]; unfold zay at hk; haveI := hl.oneC; obtain ⟨S0, F1, rfl, hS0, hp0⟩ := zak hF0; refine zap Tryz.func71 rfl rfl rfl hp0 ?_; refine T.sr ?_; refine TL.run 1 rfl ?_; refine TL.ns (T.seq (T.sr ?_)); refine TL.run 1 rfl ?_; refine TL.y (Yv.am rfl rfl hl (List.length_map _)) ?_; have hm8 : l.length ≤ 9223372036854775807 := (List.length_map _) ▸ hl.max; refine TL.run 1 rfl ?_; refine TL.ns ?_; have hq := zae hk; clear hk; obtain ⟨k1, hk1, hk⟩ := hq; (try dsimp only at hk); refine T.ae (ι := Unit) (fun z => []) (fun z => [.fr F1]) (fun z => k1 () = r) ?_ ?_
  · have hq := zaj hk; clear hk; obtain ⟨f2, kk2, hf2, hkk2, hk⟩ := hq; refine T.block ?_; refine T.loop (ι := Nat) (fun z => [(1, .func (.func 90) #[] #[]), (7, vl), (8, .int .i64 (l.length : Int)), (9, .int .i64 (z : Int))]) (fun z => [.fr F1]) (fun z => zai f2 kk2 (l.length - z) z () = r) (fun z => l.length - z) 0 ?_ ?_ ?_ ?_
    · exact hk
    · exact (.c (.c (.c (.c .nil))))
    · exact List.Sublist.refl _
    · rintro i_3 hk; refine T.sr ?_; refine TL.run 1 rfl ?_; refine TL.ns (T.seq ?_); refine T.cond rfl (fun h4 => ?_) (fun h4 => ?_)
      · have p4 := of_decide_eq_true h4; rw [zaq (by omega)] at hk; generalize hn2 : zai f2 kk2 (l.length - (i_3 + 1)) (i_3 + 1) = next2 at hk; rw [← hf2] at hk; (try dsimp only at hk); refine T.skip (K.seq (T.seq (T.block (T.sr ?_)))); refine TL.y (Yv.an (i := i_3) rfl rfl rfl hl (List.length_map _) rfl (by omega)) ?_; refine TL.y (Yv.aq 0 (i := i_3) rfl rfl rfl hl (by omega) rfl rfl rfl) ?_; refine TL.e (Ew.alloc rfl) ?_; rintro _ _ ⟨g6, rfl, rfl⟩; refine TL.e0 (Ew.ak 0 rfl rfl rfl rfl rfl rfl) ?_; rintro _ _ ⟨rfl, rfl⟩; refine TL.nx ?_; refine TL.run 1 rfl ?_; refine TL.y (Yv.al 0 rfl rfl rfl rfl) ?_; refine TL.e (Ew.ah rfl rfl rfl (fun w hw => zdM _ w (hw.fr (i := 1) rfl) (nth l i_3))) ?_; rintro _ _ ⟨rfl, rfl⟩; refine TL.run 1 rfl ?_; refine TL.ns ?_; refine T.cond rfl (fun h5 => ?_) (fun h5 => ?_)
        · replace hk := zaa hk h5; refine T.sr ?_; refine TL.run 1 rfl ?_; refine TL.ns (T.ret (K.ag (K.ab (K.ab (K.ag (K.ab ?_)))))); subst hk; exact K.ai rfl rfl (fun w' hw => ⟨rfl, hw.isBelow⟩)
        · replace hk := zab hk h5; refine T.skip (K.ac (K.seq (T.region ?_))); refine TL.y (Yv.ao rfl rfl rfl (by omega)) ?_; refine TL.run 1 rfl ?_; refine TL.nil ?_; rw [← hn2] at hk; refine K.pick [1] rfl (by decide) ?_; exact K.next (i_3 + 1) hk (by omega) (.c (.c (.c (.c .nil)))) (List.Sublist.refl _)
      · have p4 := of_decide_eq_false h4; rw [zar (by omega), ← hkk2] at hk; (try dsimp only at hk); refine T.exit (K.aa (K.aa (K.ad ?_))); exact K.af () hk .nil (List.Sublist.refl _)
  · rintro _ hk; rw [← hk1] at hk; (try dsimp only at hk); refine T.sr ?_; refine TL.run 1 rfl ?_; refine TL.ns (T.ret ?_); subst hk; exact K.ai rfl rfl (fun w' hw => ⟨rfl, hw.isBelow⟩)
def zaw (l : List GLoad) : Option Bool :=
  zaH (fun (_ : Unit) =>
    some true)
  (fun k1 =>
    zai (fun (i_3 : Nat) (next2 : Unit → Option Bool) (_ : Unit) =>
      grd (0 ≤ ((i_3 : Int) - 1) ∧ ((i_3 : Int) - 1) < (l.length : Int)) <|
      (bif decide (0 ≤ (za3 (nth l (((i_3 : Int) - 1).toNat)) (nth l i_3))) then
        some false
        else
        next2 ()))
    (fun (_ : Unit) =>
      k1 ()) (l.length - 1) 1 ())
theorem zby (F0 : Frz) (w : World) (hF0 : F0.At w) (l : List GLoad) (vl : Value) (hl : SlC F0 vl 5 (l.map GLoad.enc)) (r : Bool) (hr : zaw l = some r) : Calls Tryz.prog 91 #[vl, .func (.func 92) #[] #[]] w fun e w' => e = .returned (.bool r) ∧ Below w.heap.size w w' := by
  have hk := hr; unfold zaw at hk; haveI := hl.oneC; obtain ⟨S0, F1, rfl, hS0, hp0⟩ := zak hF0; refine zap Tryz.func91 rfl rfl rfl hp0 ?_; refine T.sr ?_; refine TL.run 1 rfl ?_; refine TL.ns (T.seq (T.sr ?_)); refine TL.run 1 rfl ?_; refine TL.ns ?_; have hq := zae hk; clear hk; obtain ⟨k1, hk1, hk⟩ := hq; (try dsimp only at hk); refine T.ae (ι := Unit) (fun z => []) (fun z => [.fr F1]) (fun z => k1 () = some r) ?_ ?_
  · have hq := zaj hk; clear hk; obtain ⟨f2, kk2, hf2, hkk2, hk⟩ := hq; refine T.block ?_; refine T.loop (ι := Nat) (fun z => [(0, vl), (1, .func (.func 92) #[] #[]), (5, .int .i64 (z : Int))]) (fun z => [.fr F1]) (fun z => zai f2 kk2 (l.length - z) z () = some r) (fun z => l.length - z) 1 ?_ ?_ ?_ ?_
    · exact hk
    · exact (.c (.c (.c .nil)))
    · exact List.Sublist.refl _
    · rintro i_3 hk; refine T.seq (T.sr ?_); refine TL.run 2 rfl ?_; refine TL.y (Yv.am rfl rfl hl (List.length_map _)) ?_; have hm8 : l.length ≤ 9223372036854775807 := (List.length_map _) ▸ hl.max; refine TL.run 1 rfl ?_; refine TL.ns ?_; refine T.cond rfl (fun h4 => ?_) (fun h4 => ?_)
      · have p4 := of_decide_eq_true h4; rw [zaq (by omega)] at hk; generalize hn2 : zai f2 kk2 (l.length - (i_3 + 1)) (i_3 + 1) = next2 at hk; rw [← hf2] at hk; (try dsimp only at hk); refine T.skip (K.seq (T.seq (T.block (T.seq ?_)))); have hq : (0 ≤ ((i_3 : Int) - 1) ∧ ((i_3 : Int) - 1) < (l.length : Int)) ∧ _ := zan hk; clear hk; obtain ⟨g16, hk⟩ := hq; (try dsimp only at hk); refine T.ax (.still 0 (.still 1 (.still 2 (.still 3 (.still 4 (.still 5 (.still 6 (.still 7 (.still 8 (.still 9 (.eff 10 (.still 11 .done)))))))))))) _ (by kernel_rfl) (List.Sublist.refl _) ?_; refine TS.run 3 rfl ?_; refine TS.y rfl (Yv.aL rfl rfl rfl (by omega)) ?_; refine TS.y rfl (Yv.an (i := ((i_3 : Int) - 1).toNat) rfl rfl rfl hl (List.length_map _) (by omega) (by omega)) ?_; refine TS.y rfl (Yv.aq 0 (i := ((i_3 : Int) - 1).toNat) rfl rfl rfl hl (by omega) rfl rfl rfl) ?_; refine TS.run 2 rfl ?_; refine TS.y rfl (Yv.an (i := i_3) rfl rfl rfl hl (List.length_map _) rfl (by omega)) ?_; refine TS.y rfl (Yv.aq 0 (i := i_3) rfl rfl rfl hl (by omega) rfl rfl rfl) ?_; refine TS.eff ?_; refine TSo.au rfl (Wt.none rfl) rfl rfl (Ew.ah rfl rfl rfl (fun w hw => zc7 _ w (hw.fr (i := 0) rfl) (nth l (((i_3 : Int) - 1).toNat)) (nth l i_3))) ?_; rintro _ _ ⟨rfl, rfl⟩; refine ⟨(fun w hw => hw.sub Sx), ?_⟩; refine TS.run 1 rfl ?_; refine TS.done ?_; refine K.seq ?_; refine T.cond rfl (fun h5 => ?_) (fun h5 => ?_)
        · have p5 := of_decide_eq_true h5; replace hk := zaa hk h5; refine T.sr ?_; refine TL.run 1 rfl ?_; refine TL.ns (T.ret (K.ag (K.ab (K.ab (K.ag (K.ab ?_)))))); obtain rfl := Option.some.inj hk; exact K.ai rfl rfl (fun w' hw => ⟨rfl, hw.isBelow⟩)
        · have p5 := of_decide_eq_false h5; replace hk := zab hk h5; refine T.skip (K.ac (K.seq (T.region ?_))); refine TL.run 1 rfl ?_; refine TL.y (Yv.ao rfl rfl rfl (by omega)) ?_; refine TL.run 1 rfl ?_; refine TL.nil ?_; rw [← hn2] at hk; exact K.next (i_3 + 1) hk (by omega) (.c (.c (.c .nil))) (List.Sublist.refl _)
      · have p4 := of_decide_eq_false h4; rw [zar (by omega), ← hkk2] at hk; (try dsimp only at hk); refine T.exit (K.aa (K.aa (K.ad ?_))); exact K.af () hk .nil (List.Sublist.refl _)
  · rintro _ hk; rw [← hk1] at hk; (try dsimp only at hk); refine T.sr ?_; refine TL.run 1 rfl ?_; refine TL.ns (T.ret ?_); obtain rfl := Option.some.inj hk; exact K.ai rfl rfl (fun w' hw => ⟨rfl, hw.isBelow⟩)
def zaD (l : List GCap) : Bool :=
  zaH (fun (_ : Unit) =>
    true)
  (fun k1 =>
    zai (fun (i_3 : Nat) (next2 : Unit → Bool) (_ : Unit) =>
      (bif !(zaO (nth l i_3)) then
        false
        else
        next2 ()))
    (fun (_ : Unit) =>
      k1 ()) (l.length - 0) 0 ())
theorem zb1 (F0 : Frz) (w : World) (hF0 : F0.At w) (l : List GCap) (vl : Value) (hl : SlC F0 vl 4 (l.map GCap.enc)) : Calls Tryz.prog 73 #[vl, .func (.func 93) #[] #[]] w fun e w' => e = .returned (.bool (zaD l)) ∧ Below w.heap.size w w' := by
  obtain ⟨r, hk⟩ : ∃ r, zaD l = r := ⟨_, rfl⟩; rw [hk]; unfold zaD at hk; haveI := hl.oneC; obtain ⟨S0, F1, rfl, hS0, hp0⟩ := zak hF0; refine zap Tryz.func73 rfl rfl rfl hp0 ?_; refine T.sr ?_; refine TL.run 1 rfl ?_; refine TL.ns (T.seq (T.sr ?_)); refine TL.run 1 rfl ?_; refine TL.y (Yv.am rfl rfl hl (List.length_map _)) ?_; have hm8 : l.length ≤ 9223372036854775807 := (List.length_map _) ▸ hl.max; refine TL.run 1 rfl ?_; refine TL.ns ?_; have hq := zae hk; clear hk; obtain ⟨k1, hk1, hk⟩ := hq; (try dsimp only at hk); refine T.ae (ι := Unit) (fun z => []) (fun z => [.fr F1]) (fun z => k1 () = r) ?_ ?_
  · have hq := zaj hk; clear hk; obtain ⟨f2, kk2, hf2, hkk2, hk⟩ := hq; refine T.block ?_; refine T.loop (ι := Nat) (fun z => [(1, .func (.func 93) #[] #[]), (7, vl), (8, .int .i64 (l.length : Int)), (9, .int .i64 (z : Int))]) (fun z => [.fr F1]) (fun z => zai f2 kk2 (l.length - z) z () = r) (fun z => l.length - z) 0 ?_ ?_ ?_ ?_
    · exact hk
    · exact (.c (.c (.c (.c .nil))))
    · exact List.Sublist.refl _
    · rintro i_3 hk; refine T.sr ?_; refine TL.run 1 rfl ?_; refine TL.ns (T.seq ?_); refine T.cond rfl (fun h4 => ?_) (fun h4 => ?_)
      · have p4 := of_decide_eq_true h4; rw [zaq (by omega)] at hk; generalize hn2 : zai f2 kk2 (l.length - (i_3 + 1)) (i_3 + 1) = next2 at hk; rw [← hf2] at hk; (try dsimp only at hk); refine T.skip (K.seq (T.seq (T.block (T.sr ?_)))); refine TL.y (Yv.an (i := i_3) rfl rfl rfl hl (List.length_map _) rfl (by omega)) ?_; refine TL.y (Yv.aq 0 (i := i_3) rfl rfl rfl hl (by omega) rfl rfl rfl) ?_; refine TL.e (Ew.alloc rfl) ?_; rintro _ _ ⟨g6, rfl, rfl⟩; refine TL.e0 (Ew.ak 0 rfl rfl rfl rfl rfl rfl) ?_; rintro _ _ ⟨rfl, rfl⟩; refine TL.nx ?_; refine TL.run 1 rfl ?_; refine TL.y (Yv.al 0 rfl rfl rfl rfl) ?_; refine TL.e (Ew.ah rfl rfl rfl (fun w hw => zdX _ w (hw.fr (i := 1) rfl) (nth l i_3))) ?_; rintro _ _ ⟨rfl, rfl⟩; refine TL.run 1 rfl ?_; refine TL.ns ?_; refine T.cond rfl (fun h5 => ?_) (fun h5 => ?_)
        · replace hk := zaa hk h5; refine T.sr ?_; refine TL.run 1 rfl ?_; refine TL.ns (T.ret (K.ag (K.ab (K.ab (K.ag (K.ab ?_)))))); subst hk; exact K.ai rfl rfl (fun w' hw => ⟨rfl, hw.isBelow⟩)
        · replace hk := zab hk h5; refine T.skip (K.ac (K.seq (T.region ?_))); refine TL.y (Yv.ao rfl rfl rfl (by omega)) ?_; refine TL.run 1 rfl ?_; refine TL.nil ?_; rw [← hn2] at hk; refine K.pick [1] rfl (by decide) ?_; exact K.next (i_3 + 1) hk (by omega) (.c (.c (.c (.c .nil)))) (List.Sublist.refl _)
      · have p4 := of_decide_eq_false h4; rw [zar (by omega), ← hkk2] at hk; (try dsimp only at hk); refine T.exit (K.aa (K.aa (K.ad ?_))); exact K.af () hk .nil (List.Sublist.refl _)
  · rintro _ hk; rw [← hk1] at hk; (try dsimp only at hk); refine T.sr ?_; refine TL.run 1 rfl ?_; refine TL.ns (T.ret ?_); subst hk; exact K.ai rfl rfl (fun w' hw => ⟨rfl, hw.isBelow⟩)
def zaA (l : List GCap) : Option Bool :=
  zaH (fun (_ : Unit) =>
    some true)
  (fun k1 =>
    zai (fun (i_3 : Nat) (next2 : Unit → Option Bool) (_ : Unit) =>
      grd (0 ≤ ((i_3 : Int) - 1) ∧ ((i_3 : Int) - 1) < (l.length : Int)) <|
      (bif decide (0 ≤ (zbe (nth l (((i_3 : Int) - 1).toNat)) (nth l i_3))) then
        some false
        else
        next2 ()))
    (fun (_ : Unit) =>
      k1 ()) (l.length - 1) 1 ())
theorem zbD (F0 : Frz) (w : World) (hF0 : F0.At w) (l : List GCap) (vl : Value) (hl : SlC F0 vl 4 (l.map GCap.enc)) (r : Bool) (hr : zaA l = some r) : Calls Tryz.prog 94 #[vl, .func (.func 95) #[] #[]] w fun e w' => e = .returned (.bool r) ∧ Below w.heap.size w w' := by
  have hk := hr; unfold zaA at hk; haveI := hl.oneC; obtain ⟨S0, F1, rfl, hS0, hp0⟩ := zak hF0; refine zap Tryz.func94 rfl rfl rfl hp0 ?_; refine T.sr ?_; refine TL.run 1 rfl ?_; refine TL.ns (T.seq (T.sr ?_)); refine TL.run 1 rfl ?_; refine TL.ns ?_; have hq := zae hk; clear hk; obtain ⟨k1, hk1, hk⟩ := hq; (try dsimp only at hk); refine T.ae (ι := Unit) (fun z => []) (fun z => [.fr F1]) (fun z => k1 () = some r) ?_ ?_
  · have hq := zaj hk; clear hk; obtain ⟨f2, kk2, hf2, hkk2, hk⟩ := hq; refine T.block ?_; refine T.loop (ι := Nat) (fun z => [(0, vl), (1, .func (.func 95) #[] #[]), (5, .int .i64 (z : Int))]) (fun z => [.fr F1]) (fun z => zai f2 kk2 (l.length - z) z () = some r) (fun z => l.length - z) 1 ?_ ?_ ?_ ?_
    · exact hk
    · exact (.c (.c (.c .nil)))
    · exact List.Sublist.refl _
    · rintro i_3 hk; refine T.seq (T.sr ?_); refine TL.run 2 rfl ?_; refine TL.y (Yv.am rfl rfl hl (List.length_map _)) ?_; have hm8 : l.length ≤ 9223372036854775807 := (List.length_map _) ▸ hl.max; refine TL.run 1 rfl ?_; refine TL.ns ?_; refine T.cond rfl (fun h4 => ?_) (fun h4 => ?_)
      · have p4 := of_decide_eq_true h4; rw [zaq (by omega)] at hk; generalize hn2 : zai f2 kk2 (l.length - (i_3 + 1)) (i_3 + 1) = next2 at hk; rw [← hf2] at hk; (try dsimp only at hk); refine T.skip (K.seq (T.seq (T.block (T.seq ?_)))); have hq : (0 ≤ ((i_3 : Int) - 1) ∧ ((i_3 : Int) - 1) < (l.length : Int)) ∧ _ := zan hk; clear hk; obtain ⟨g16, hk⟩ := hq; (try dsimp only at hk); refine T.ax (.still 0 (.still 1 (.still 2 (.still 3 (.still 4 (.still 5 (.still 6 (.still 7 (.still 8 (.still 9 (.eff 10 (.still 11 .done)))))))))))) _ (by kernel_rfl) (List.Sublist.refl _) ?_; refine TS.run 3 rfl ?_; refine TS.y rfl (Yv.aL rfl rfl rfl (by omega)) ?_; refine TS.y rfl (Yv.an (i := ((i_3 : Int) - 1).toNat) rfl rfl rfl hl (List.length_map _) (by omega) (by omega)) ?_; refine TS.y rfl (Yv.aq 0 (i := ((i_3 : Int) - 1).toNat) rfl rfl rfl hl (by omega) rfl rfl rfl) ?_; refine TS.run 2 rfl ?_; refine TS.y rfl (Yv.an (i := i_3) rfl rfl rfl hl (List.length_map _) rfl (by omega)) ?_; refine TS.y rfl (Yv.aq 0 (i := i_3) rfl rfl rfl hl (by omega) rfl rfl rfl) ?_; refine TS.eff ?_; refine TSo.au rfl (Wt.none rfl) rfl rfl (Ew.ah rfl rfl rfl (fun w hw => zdj _ w (hw.fr (i := 0) rfl) (nth l (((i_3 : Int) - 1).toNat)) (nth l i_3))) ?_; rintro _ _ ⟨rfl, rfl⟩; refine ⟨(fun w hw => hw.sub Sx), ?_⟩; refine TS.run 1 rfl ?_; refine TS.done ?_; refine K.seq ?_; refine T.cond rfl (fun h5 => ?_) (fun h5 => ?_)
        · have p5 := of_decide_eq_true h5; replace hk := zaa hk h5; refine T.sr ?_; refine TL.run 1 rfl ?_; refine TL.ns (T.ret (K.ag (K.ab (K.ab (K.ag (K.ab ?_)))))); obtain rfl := Option.some.inj hk; exact K.ai rfl rfl (fun w' hw => ⟨rfl, hw.isBelow⟩)
        · have p5 := of_decide_eq_false h5; replace hk := zab hk h5; refine T.skip (K.ac (K.seq (T.region ?_))); refine TL.run 1 rfl ?_; refine TL.y (Yv.ao rfl rfl rfl (by omega)) ?_; refine TL.run 1 rfl ?_; refine TL.nil ?_; rw [← hn2] at hk; exact K.next (i_3 + 1) hk (by omega) (.c (.c (.c .nil))) (List.Sublist.refl _)
      · have p4 := of_decide_eq_false h4; rw [zar (by omega), ← hkk2] at hk; (try dsimp only at hk); refine T.exit (K.aa (K.aa (K.ad ?_))); exact K.af () hk .nil (List.Sublist.refl _)
  · rintro _ hk; rw [← hk1] at hk; (try dsimp only at hk); refine T.sr ?_; refine TL.run 1 rfl ?_; refine TL.ns (T.ret ?_); obtain rfl := Option.some.inj hk; exact K.ai rfl rfl (fun w' hw => ⟨rfl, hw.isBelow⟩)
def zbv (r_ : GRules) : Option Bool :=
  zaH (fun (x_1 : Bool) =>
    some x_1)
  (fun k2 =>
    (bif decide ((r_.Pairs.length : Int) ≤ 4096) then
      (bif (zaz r_.Pairs) then
        (zax r_.Pairs).bind fun r15 =>
        (bif r15 then
          (bif decide ((r_.Loads.length : Int) ≤ 1024) then
            (bif (zay r_.Loads) then
              (zaw r_.Loads).bind fun r31 =>
              (bif r31 then
                (bif decide ((r_.Caps.length : Int) ≤ 1024) then
                  (bif (zaD r_.Caps) then
                    (zaA r_.Caps).bind fun r47 =>
                    k2 r47
                    else
                    k2 false)
                  else
                  k2 false)
                else
                k2 false)
              else
              k2 false)
            else
            k2 false)
          else
          k2 false)
        else
        k2 false)
      else
      k2 false))
theorem zdw (F0 : Frz) (w : World) (hF0 : F0.At w) (r_ : GRules) (vr__0 : Value) (hr__0 : SlC F0 vr__0 5 (r_.Pairs.map GPair.enc)) (vr__1 : Value) (hr__1 : SlC F0 vr__1 5 (r_.Loads.map GLoad.enc)) (vr__2 : Value) (hr__2 : SlC F0 vr__2 4 (r_.Caps.map GCap.enc)) (r : Bool) (hr : zbv r_ = some r) : Calls Tryz.prog 63 #[.agg [vr__0, vr__1, vr__2].toArray] w fun e w' => e = .returned (.bool r) ∧ Below w.heap.size w w' := by
  have hk := hr; unfold zbv at hk; haveI := hr__0.oneC; haveI := hr__1.oneC; haveI := hr__2.oneC; obtain ⟨S0, F1, rfl, hS0, hp0⟩ := zak hF0; refine zap Tryz.func63 rfl rfl rfl hp0 ?_; refine T.sr ?_; refine TL.e (Ew.az rfl rfl) ?_; rintro _ _ ⟨g1, rfl, rfl⟩; refine TL.run 1 rfl ?_; refine TL.ns (T.seq ?_); (try dsimp only at hk); have hq := zae hk; clear hk; obtain ⟨k2, hk2, hk⟩ := hq; (try dsimp only at hk); refine T.ae (ι := Bool) (fun z => [(2, .bool z)]) (fun z => [.fr F1]) (fun z => k2 z = some r) ?_ ?_
  · refine T.region ?_; refine TL.y (Yv.fieldAddr rfl rfl) ?_; refine TL.y (Yv.a 0 rfl rfl rfl rfl) ?_; refine TL.y (Yv.am rfl rfl hr__0 (List.length_map _)) ?_; have hm5 : r_.Pairs.length ≤ 9223372036854775807 := (List.length_map _) ▸ hr__0.max; refine TL.run 2 rfl ?_; refine TL.gs rfl rfl rfl (fun h3 => ?_) (fun h3 => ?_)
    · have p3 := of_decide_eq_true h3; replace hk := zaa hk h3; refine TL.y (Yv.fieldAddr rfl rfl) ?_; refine TL.y (Yv.a 0 rfl rfl rfl rfl) ?_; refine TL.e (Ew.ah rfl rfl rfl (fun w hw => zbW _ w (hw.fr (i := 1) rfl) r_.Pairs vr__0 hr__0)) ?_; rintro _ _ ⟨rfl, rfl⟩; refine TL.run 2 rfl ?_; refine TL.gs rfl rfl rfl (fun h4 => ?_) (fun h4 => ?_)
      · replace hk := zaa hk h4; refine TL.y (Yv.fieldAddr rfl rfl) ?_; refine TL.y (Yv.a 0 rfl rfl rfl rfl) ?_; have hq := zah hk; clear hk; obtain ⟨r15, hr15, hk⟩ := hq; refine TL.e (Ew.ah rfl rfl rfl (fun w hw => zbx _ w (hw.fr (i := 1) rfl) r_.Pairs vr__0 hr__0 r15 hr15)) ?_; rintro _ _ ⟨rfl, rfl⟩; refine TL.run 2 rfl ?_; refine TL.gs rfl rfl rfl (fun h5 => ?_) (fun h5 => ?_)
        · replace hk := zaa hk h5; refine TL.y (Yv.fieldAddr rfl rfl) ?_; refine TL.y (Yv.a 0 rfl rfl rfl rfl) ?_; refine TL.y (Yv.am rfl rfl hr__1 (List.length_map _)) ?_; have hm20 : r_.Loads.length ≤ 9223372036854775807 := (List.length_map _) ▸ hr__1.max; refine TL.run 3 rfl ?_; refine TL.gs rfl rfl rfl (fun h6 => ?_) (fun h6 => ?_)
          · have p6 := of_decide_eq_true h6; replace hk := zaa hk h6; refine TL.y (Yv.fieldAddr rfl rfl) ?_; refine TL.y (Yv.a 0 rfl rfl rfl rfl) ?_; refine TL.e (Ew.ah rfl rfl rfl (fun w hw => zbV _ w (hw.fr (i := 1) rfl) r_.Loads vr__1 hr__1)) ?_; rintro _ _ ⟨rfl, rfl⟩; refine TL.run 2 rfl ?_; refine TL.gs rfl rfl rfl (fun h7 => ?_) (fun h7 => ?_)
            · replace hk := zaa hk h7; refine TL.y (Yv.fieldAddr rfl rfl) ?_; refine TL.y (Yv.a 0 rfl rfl rfl rfl) ?_; have hq := zah hk; clear hk; obtain ⟨r31, hr31, hk⟩ := hq; refine TL.e (Ew.ah rfl rfl rfl (fun w hw => zby _ w (hw.fr (i := 1) rfl) r_.Loads vr__1 hr__1 r31 hr31)) ?_; rintro _ _ ⟨rfl, rfl⟩; refine TL.run 2 rfl ?_; refine TL.gs rfl rfl rfl (fun h8 => ?_) (fun h8 => ?_)
              · replace hk := zaa hk h8; refine TL.y (Yv.fieldAddr rfl rfl) ?_; refine TL.y (Yv.a 0 rfl rfl rfl rfl) ?_; refine TL.y (Yv.am rfl rfl hr__2 (List.length_map _)) ?_; have hm36 : r_.Caps.length ≤ 9223372036854775807 := (List.length_map _) ▸ hr__2.max; refine TL.run 3 rfl ?_; refine TL.gs rfl rfl rfl (fun h9 => ?_) (fun h9 => ?_)
                · have p9 := of_decide_eq_true h9; replace hk := zaa hk h9; refine TL.y (Yv.fieldAddr rfl rfl) ?_; refine TL.y (Yv.a 0 rfl rfl rfl rfl) ?_; refine TL.e (Ew.ah rfl rfl rfl (fun w hw => zb1 _ w (hw.fr (i := 1) rfl) r_.Caps vr__2 hr__2)) ?_; rintro _ _ ⟨rfl, rfl⟩; refine TL.run 2 rfl ?_; refine TL.gs rfl rfl rfl (fun h10 => ?_) (fun h10 => ?_)
                  · replace hk := zaa hk h10; refine TL.y (Yv.fieldAddr rfl rfl) ?_; refine TL.y (Yv.a 0 rfl rfl rfl rfl) ?_; have hq := zah hk; clear hk; obtain ⟨r47, hr47, hk⟩ := hq; refine TL.e (Ew.ah rfl rfl rfl (fun w hw => zbD _ w (hw.fr (i := 1) rfl) r_.Caps vr__2 hr__2 r47 hr47)) ?_; rintro _ _ ⟨rfl, rfl⟩; refine TL.run 2 rfl ?_; refine TL.nil ?_; refine K.pick [1] rfl (by decide) ?_; exact K.af r47 hk (.c .nil) (List.Sublist.refl _)
                  · replace hk := zab hk h10; refine TL.run 5 rfl ?_; refine TL.nil ?_; refine K.pick [1] rfl (by decide) ?_; exact K.af false hk (.c .nil) (List.Sublist.refl _)
                · have p9 := of_decide_eq_false h9; replace hk := zab hk h9; refine TL.run 10 rfl ?_; refine TL.nil ?_; refine K.pick [1] rfl (by decide) ?_; exact K.af false hk (.c .nil) (List.Sublist.refl _)
              · replace hk := zab hk h8; refine TL.run 16 rfl ?_; refine TL.nil ?_; refine K.pick [1] rfl (by decide) ?_; exact K.af false hk (.c .nil) (List.Sublist.refl _)
            · replace hk := zab hk h7; refine TL.run 21 rfl ?_; refine TL.nil ?_; refine K.pick [1] rfl (by decide) ?_; exact K.af false hk (.c .nil) (List.Sublist.refl _)
          · have p6 := of_decide_eq_false h6; replace hk := zab hk h6; refine TL.run 26 rfl ?_; refine TL.nil ?_; refine K.pick [1] rfl (by decide) ?_; exact K.af false hk (.c .nil) (List.Sublist.refl _)
        · replace hk := zab hk h5; refine TL.run 32 rfl ?_; refine TL.nil ?_; refine K.pick [1] rfl (by decide) ?_; exact K.af false hk (.c .nil) (List.Sublist.refl _)
      · replace hk := zab hk h4; refine TL.run 37 rfl ?_; refine TL.nil ?_; refine K.pick [1] rfl (by decide) ?_; exact K.af false hk (.c .nil) (List.Sublist.refl _)
    · have p3 := of_decide_eq_false h3; replace hk := zab hk h3; refine TL.run 42 rfl ?_; refine TL.nil ?_; refine K.pick [1] rfl (by decide) ?_; exact K.af false hk (.c .nil) (List.Sublist.refl _)
  · rintro x_1 hk; rw [← hk2] at hk; (try dsimp only at hk); refine T.ret ?_; obtain rfl := Option.some.inj hk; exact K.ai rfl rfl (fun w' hw => ⟨rfl, hw.isBelow⟩)
def zbU (a : GDomain) (b : GDomain) : Int :=
  (zac a.Station b.Station)
theorem zd0 (F0 : Frz) (w : World) (hF0 : F0.At w) (a : GDomain) (va_1 : Value) (ha_1 : SlC F0 va_1 1 (a.Channels.map eI)) (b : GDomain) (vb_1 : Value) (hb_1 : SlC F0 vb_1 1 (b.Channels.map eI)) : Calls Tryz.prog 64 #[.agg [.int .i64 a.Station, va_1].toArray, .agg [.int .i64 b.Station, vb_1].toArray] w fun e w' => e = .returned (.int .i64 (zbU a b)) ∧ Below w.heap.size w w' := by
  obtain ⟨r, hk⟩ : ∃ r, zbU a b = r := ⟨_, rfl⟩; rw [hk]; unfold zbU at hk; haveI := ha_1.oneC; haveI := hb_1.oneC; obtain ⟨S0, F1, rfl, hS0, hp0⟩ := zak hF0; refine zap Tryz.func64 rfl rfl rfl hp0 ?_; refine T.sr ?_; refine TL.e (Ew.az rfl rfl) ?_; rintro _ _ ⟨g2, rfl, rfl⟩; refine TL.e (Ew.az rfl rfl) ?_; rintro _ _ ⟨g3, rfl, rfl⟩; refine TL.run 1 rfl ?_; refine TL.nx ?_; refine TL.y (Yv.fieldAddr rfl rfl) ?_; refine TL.y (Yv.a 1 rfl rfl rfl rfl) ?_; refine TL.y (Yv.fieldAddr rfl rfl) ?_; refine TL.y (Yv.a 0 rfl rfl rfl rfl) ?_; refine TL.e (Ew.ah rfl rfl rfl (fun w hw => zav _ w (hw.fr (i := 2) rfl) a.Station b.Station)) ?_; rintro _ _ ⟨rfl, rfl⟩; refine TL.run 1 rfl ?_; refine TL.ns (T.ret ?_); subst hk; exact K.ai rfl rfl (fun w' hw => ⟨rfl, hw.isBelow⟩)
def zbQ (p : GProblem) : Option GSet :=
  grd (room p.Domains.length 8) <|
  zaH (fun (l_1 : List Int) =>
    (zcu l_1).bind fun r28 =>
    some r28.1)
  (fun k2 =>
    zai (fun (i_5 : Nat) (next4 : List Int → Option GSet) (l_3 : List Int) =>
      grd (0 ≤ (i_5 : Int) ∧ (i_5 : Int) < (l_3.length : Int)) <|
      next4 (l_3.set i_5 ((nth p.Domains i_5).Station)))
    (fun (l_3 : List Int) =>
      k2 l_3) (p.Domains.length - 0) 0 (List.replicate p.Domains.length 0))
theorem zdZ (F0 : Frz) (w : World) (hF0 : F0.At w) (p : GProblem) (vp_0 : Value) (cp_0 : List (List Value)) (hp_0 : SlD GDomain.rep F0 vp_0 2 cp_0 p.Domains) (vp_1 : Value) (hp_1 : SlC F0 vp_1 5 (p.Rules.Pairs.map GPair.enc)) (vp_2 : Value) (hp_2 : SlC F0 vp_2 5 (p.Rules.Loads.map GLoad.enc)) (vp_3 : Value) (hp_3 : SlC F0 vp_3 4 (p.Rules.Caps.map GCap.enc)) (r : GSet) (hr : zbQ p = some r) : Calls Tryz.prog 67 #[.agg [vp_0, vp_1, vp_2, vp_3].toArray] w fun e w' => e = .returned (.agg (r.words.1.map U).toArray) ∧ Below w.heap.size w w' := by
  have hk := hr; unfold zbQ at hk; haveI := hp_0.1.oneC; haveI := hp_1.oneC; haveI := hp_2.oneC; haveI := hp_3.oneC; obtain ⟨S0, F1, rfl, hS0, hp0⟩ := zak hF0; refine zap Tryz.func67 rfl rfl rfl hp0 ?_; refine T.sr ?_; refine TL.e (Ew.az rfl rfl) ?_; rintro _ _ ⟨g1, rfl, rfl⟩; refine TL.e (Ew.aP (l := ((Vec.fill 8 (0#64)).1.map U)) rfl (by kernel_rfl)) ?_; rintro _ _ ⟨g2, rfl, rfl⟩; refine TL.ns (T.seq ?_); have hq : (room p.Domains.length 8) ∧ _ := zan hk; clear hk; obtain ⟨g11, hk⟩ := hq; (try dsimp only at hk); refine T.region ?_; refine TL.y (Yv.fieldAddr rfl rfl) ?_; refine TL.y (Yv.a 1 rfl rfl rfl rfl) ?_; refine TL.y (Yv.am rfl rfl hp_0.1 hp_0.2.1) ?_; have hm10 : p.Domains.length ≤ 9223372036854775807 := hp_0.2.1 ▸ hp_0.1.max; refine TL.e (Ew.br (n' := p.Domains.length) (enc := eI) (u := 0) rfl rfl rfl rfl g11 (by decide) (by decide) (fun _ => rfl) rfl) ?_; rintro v11 _ ⟨hv11, rfl⟩; refine TL.aB 0 rfl ?_; intro iv11 hmv11; refine TL.run 1 rfl ?_; refine TL.ns (T.seq (T.sr ?_)); refine TL.y (Yv.fieldAddr rfl rfl) ?_; refine TL.y (Yv.a 2 rfl rfl rfl rfl) ?_; refine TL.y (Yv.am rfl rfl hp_0.1 hp_0.2.1) ?_; refine TL.run 1 rfl ?_; refine TL.ns ?_; have hq := zae hk; clear hk; obtain ⟨k2, hk2, hk⟩ := hq; (try dsimp only at hk); refine T.ae (ι := List Int) (fun z => [(2, .pointer (some ⟨g2, 0, none⟩)), (3, v11)]) (fun z => [.sl v11 3 1 z.length (z.flatMap eI), .row g2 124 ((Vec.fill 8 (0#64)).1.map U), .fr F1]) (fun z => k2 z = some r) ?_ ?_
  · have hq := zaj hk; clear hk; obtain ⟨f4, kk4, hf4, hkk4, hk⟩ := hq; refine T.block ?_; refine T.pick [0, 1, 3] rfl (by decide) ?_; refine T.loop (ι := Nat × List Int) (fun z => [(2, .pointer (some ⟨g2, 0, none⟩)), (3, v11), (13, vp_0), (14, .int .i64 (p.Domains.length : Int)), (15, .int .i64 (z.1 : Int))]) (fun z => [.sl v11 3 1 z.2.length (z.2.flatMap eI), .row g2 124 ((Vec.fill 8 (0#64)).1.map U), .fr F1]) (fun z => zai f4 kk4 (p.Domains.length - z.1) z.1 z.2 = some r) (fun z => p.Domains.length - z.1) (0, (List.replicate p.Domains.length 0)) ?_ ?_ ?_ ?_
    · exact hk
    · exact (.c (.c (.c (.c (.c .nil)))))
    · exact List.Sublist.refl _
    · rintro ⟨i_5, l_3⟩ hk; (try dsimp only at *); refine T.sr ?_; refine TL.run 1 rfl ?_; refine TL.ns (T.seq ?_); refine T.cond rfl (fun h6 => ?_) (fun h6 => ?_)
      · have p6 := of_decide_eq_true h6; rw [zaq (by omega)] at hk; generalize hn4 : zai f4 kk4 (p.Domains.length - (i_5 + 1)) (i_5 + 1) = next4 at hk; rw [← hf4] at hk; (try dsimp only at hk); refine T.skip (K.seq (T.seq (T.block (T.sr ?_)))); refine TL.run 1 rfl ?_; refine TL.y (Yv.an (i := i_5) rfl rfl rfl hp_0.1 hp_0.2.1 rfl (by omega)) ?_; refine TL.y (Yv.aD 2 (i := i_5) (j := 0) rfl rfl rfl hp_0.1 hp_0.2.1 (by omega) rfl (GDomain.form (hp_0.2.2 i_5 (by omega))) rfl) ?_; have hd19_1 := (GDomain.c1 (hp_0.2.2 i_5 (by omega))).2; haveI := hd19_1.oneC; refine TL.e (Ew.alloc rfl) ?_; rintro _ _ ⟨g5, rfl, rfl⟩; refine TL.run 1 rfl ?_; refine TL.e0 (Ew.ak 0 rfl rfl rfl rfl rfl rfl) ?_; rintro _ _ ⟨rfl, rfl⟩; refine TL.ns ?_; have hq : (0 ≤ (i_5 : Int) ∧ (i_5 : Int) < (l_3.length : Int)) ∧ _ := zan hk; clear hk; obtain ⟨g24, hk⟩ := hq; (try dsimp only at hk); refine T.region ?_; refine TL.run 2 rfl ?_; refine TL.y (Yv.fieldAddr rfl rfl) ?_; refine TL.y (Yv.a 0 rfl rfl rfl rfl) ?_; refine TL.y (Yv.aQ 1 (i := i_5) rfl rfl rfl rfl rfl (by omega)) ?_; refine TL.e0 (Ew.aO 1 (k' := (l_3.set i_5 ((nth p.Domains i_5).Station)).length) (l' := (l_3.set i_5 ((nth p.Domains i_5).Station)).flatMap eI) rfl rfl rfl rfl (by omega) (zcU (enc := eI) (xs := l_3) (i := i_5) (j := 0) (size := 1) (fun _ => rfl) (by omega) (by decide) (by omega)) (zde (enc := eI) (xs := l_3) (i := i_5) (j := 0) (size := 1) (x := ((nth p.Domains i_5).Station)) (fun _ => rfl) (by omega) (by decide) (by omega) rfl) (List.length_set ..)) ?_; rintro _ _ ⟨rfl, rfl⟩; refine TL.nil (K.ac (K.seq (T.region ?_))); refine TL.y (Yv.ao rfl rfl rfl (by omega)) ?_; refine TL.run 1 rfl ?_; refine TL.nil ?_; rw [← hn4] at hk; refine K.pick [1, 2, 3] rfl (by decide) ?_; exact K.next ((i_5 + 1), (l_3.set i_5 ((nth p.Domains i_5).Station))) hk (by dsimp only; omega) (.c (.c (.c (.c (.c .nil))))) (List.Sublist.refl _)
      · have p6 := of_decide_eq_false h6; rw [zar (by omega), ← hkk4] at hk; (try dsimp only at hk); refine T.exit (K.aa (K.aa (K.ad ?_))); exact K.af l_3 hk (.c (.c .nil)) (List.Sublist.refl _)
  · rintro l_1 hk; rw [← hk2] at hk; (try dsimp only at hk); refine T.seq ?_; have hq := zah hk; clear hk; obtain ⟨r28, hr28, hk⟩ := hq; (try dsimp only at hk); refine T.region ?_; refine TL.run 1 rfl ?_; refine TL.e (Ew.ah rfl rfl rfl (fun w hw => (hw.bor (i := 2) (j := 0) rfl rfl).elim fun F9 b => have le1_2 := b.1.le; zfg F9 w b.1.at_ l_1 v11 (b.2.toF rfl (fun _ => rfl)) r28 hr28)) ?_; rintro _ _ ⟨rfl, rfl⟩; refine TL.run 3 rfl ?_; refine TL.e (Ew.aP (l := ((Vec.fill 8 (0#64)).1.map U)) rfl (by kernel_rfl)) ?_; rintro _ _ ⟨g6, rfl, rfl⟩; refine TL.e0 (Ew.ak 0 rfl rfl rfl rfl Vec.len (Vec.len.trans Vec.len.symm)) ?_; rintro _ _ ⟨rfl, rfl⟩; refine TL.run 1 rfl ?_; refine TL.nx ?_; refine TL.y (Yv.al 0 rfl rfl rfl Vec.len) ?_; refine TL.e0 (Ew.ak 2 rfl rfl rfl rfl Vec.len (Vec.len.trans Vec.len.symm)) ?_; rintro _ _ ⟨rfl, rfl⟩; refine TL.ns (T.ret ?_); obtain rfl := Option.some.inj hk; exact K.bF 2 rfl rfl rfl Vec.len (fun w' hw => ⟨rfl, hw.isBelow⟩)
def zaF (l : List GDomain) : Option Bool :=
  zaH (fun (_ : Unit) =>
    some true)
  (fun k1 =>
    zai (fun (i_3 : Nat) (next2 : Unit → Option Bool) (_ : Unit) =>
      (zbw (nth l i_3)).bind fun r15 =>
      (bif !r15 then
        some false
        else
        next2 ()))
    (fun (_ : Unit) =>
      k1 ()) (l.length - 0) 0 ())
theorem zbH (F0 : Frz) (w : World) (hF0 : F0.At w) (l : List GDomain) (vl : Value) (cl : List (List Value)) (hl : SlD GDomain.rep F0 vl 2 cl l) (r : Bool) (hr : zaF l = some r) : Calls Tryz.prog 61 #[vl, .func (.func 62) #[] #[]] w fun e w' => e = .returned (.bool r) ∧ Below w.heap.size w w' := by
  have hk := hr; unfold zaF at hk; haveI := hl.1.oneC; obtain ⟨S0, F1, rfl, hS0, hp0⟩ := zak hF0; refine zap Tryz.func61 rfl rfl rfl hp0 ?_; refine T.sr ?_; refine TL.run 1 rfl ?_; refine TL.ns (T.seq (T.sr ?_)); refine TL.run 1 rfl ?_; refine TL.y (Yv.am rfl rfl hl.1 hl.2.1) ?_; have hm8 : l.length ≤ 9223372036854775807 := hl.2.1 ▸ hl.1.max; refine TL.run 1 rfl ?_; refine TL.ns ?_; have hq := zae hk; clear hk; obtain ⟨k1, hk1, hk⟩ := hq; (try dsimp only at hk); refine T.ae (ι := Unit) (fun z => []) (fun z => [.fr F1]) (fun z => k1 () = some r) ?_ ?_
  · have hq := zaj hk; clear hk; obtain ⟨f2, kk2, hf2, hkk2, hk⟩ := hq; refine T.block ?_; refine T.loop (ι := Nat) (fun z => [(1, .func (.func 62) #[] #[]), (7, vl), (8, .int .i64 (l.length : Int)), (9, .int .i64 (z : Int))]) (fun z => [.fr F1]) (fun z => zai f2 kk2 (l.length - z) z () = some r) (fun z => l.length - z) 0 ?_ ?_ ?_ ?_
    · exact hk
    · exact (.c (.c (.c (.c .nil))))
    · exact List.Sublist.refl _
    · rintro i_3 hk; refine T.sr ?_; refine TL.run 1 rfl ?_; refine TL.ns (T.seq ?_); refine T.cond rfl (fun h4 => ?_) (fun h4 => ?_)
      · have p4 := of_decide_eq_true h4; rw [zaq (by omega)] at hk; generalize hn2 : zai f2 kk2 (l.length - (i_3 + 1)) (i_3 + 1) = next2 at hk; rw [← hf2] at hk; (try dsimp only at hk); refine T.skip (K.seq (T.seq (T.block (T.sr ?_)))); refine TL.y (Yv.an (i := i_3) rfl rfl rfl hl.1 hl.2.1 rfl (by omega)) ?_; refine TL.y (Yv.aD 0 (i := i_3) (j := 0) rfl rfl rfl hl.1 hl.2.1 (by omega) rfl (GDomain.form (hl.2.2 i_3 (by omega))) rfl) ?_; have hd12_1 := (GDomain.c1 (hl.2.2 i_3 (by omega))).2; haveI := hd12_1.oneC; refine TL.e (Ew.alloc rfl) ?_; rintro _ _ ⟨g6, rfl, rfl⟩; refine TL.e0 (Ew.ak 0 rfl rfl rfl rfl rfl rfl) ?_; rintro _ _ ⟨rfl, rfl⟩; refine TL.ns (T.seq ?_); have hq := zah hk; clear hk; obtain ⟨r15, hr15, hk⟩ := hq; (try dsimp only at hk); refine T.region ?_; refine TL.run 1 rfl ?_; refine TL.y (Yv.al 0 rfl rfl rfl rfl) ?_; refine TL.e (Ew.ah rfl rfl rfl (fun w hw => zdv _ w (hw.fr (i := 1) rfl) (nth l i_3) (nth (nth cl i_3) 1) hd12_1 r15 hr15)) ?_; rintro _ _ ⟨rfl, rfl⟩; refine TL.run 1 rfl ?_; refine TL.ns ?_; refine T.cond rfl (fun h5 => ?_) (fun h5 => ?_)
        · replace hk := zaa hk h5; refine T.sr ?_; refine TL.run 1 rfl ?_; refine TL.ns (T.ret (K.ag (K.ab (K.ab (K.ag (K.ab ?_)))))); obtain rfl := Option.some.inj hk; exact K.ai rfl rfl (fun w' hw => ⟨rfl, hw.isBelow⟩)
        · replace hk := zab hk h5; refine T.skip (K.ac (K.seq (T.region ?_))); refine TL.y (Yv.ao rfl rfl rfl (by omega)) ?_; refine TL.run 1 rfl ?_; refine TL.nil ?_; rw [← hn2] at hk; refine K.pick [1] rfl (by decide) ?_; exact K.next (i_3 + 1) hk (by omega) (.c (.c (.c (.c .nil)))) (List.Sublist.refl _)
      · have p4 := of_decide_eq_false h4; rw [zar (by omega), ← hkk2] at hk; (try dsimp only at hk); refine T.exit (K.aa (K.aa (K.ad ?_))); exact K.af () hk .nil (List.Sublist.refl _)
  · rintro _ hk; rw [← hk1] at hk; (try dsimp only at hk); refine T.sr ?_; refine TL.run 1 rfl ?_; refine TL.ns (T.ret ?_); obtain rfl := Option.some.inj hk; exact K.ai rfl rfl (fun w' hw => ⟨rfl, hw.isBelow⟩)
def zaI (l : List GDomain) : Option Bool :=
  zaH (fun (_ : Unit) =>
    some true)
  (fun k1 =>
    zai (fun (i_3 : Nat) (next2 : Unit → Option Bool) (_ : Unit) =>
      grd (0 ≤ ((i_3 : Int) - 1) ∧ ((i_3 : Int) - 1) < (l.length : Int)) <|
      (bif decide (0 ≤ (zbU (nth l (((i_3 : Int) - 1).toNat)) (nth l i_3))) then
        some false
        else
        next2 ()))
    (fun (_ : Unit) =>
      k1 ()) (l.length - 1) 1 ())
theorem zbX (F0 : Frz) (w : World) (hF0 : F0.At w) (l : List GDomain) (vl : Value) (cl : List (List Value)) (hl : SlD GDomain.rep F0 vl 2 cl l) (r : Bool) (hr : zaI l = some r) : Calls Tryz.prog 66 #[vl, .func (.func 64) #[] #[]] w fun e w' => e = .returned (.bool r) ∧ Below w.heap.size w w' := by
  have hk := hr; unfold zaI at hk; haveI := hl.1.oneC; obtain ⟨S0, F1, rfl, hS0, hp0⟩ := zak hF0; refine zap Tryz.func66 rfl rfl rfl hp0 ?_; refine T.sr ?_; refine TL.run 1 rfl ?_; refine TL.ns (T.seq (T.sr ?_)); refine TL.run 1 rfl ?_; refine TL.ns ?_; have hq := zae hk; clear hk; obtain ⟨k1, hk1, hk⟩ := hq; (try dsimp only at hk); refine T.ae (ι := Unit) (fun z => []) (fun z => [.fr F1]) (fun z => k1 () = some r) ?_ ?_
  · have hq := zaj hk; clear hk; obtain ⟨f2, kk2, hf2, hkk2, hk⟩ := hq; refine T.block ?_; refine T.loop (ι := Nat) (fun z => [(0, vl), (1, .func (.func 64) #[] #[]), (5, .int .i64 (z : Int))]) (fun z => [.fr F1]) (fun z => zai f2 kk2 (l.length - z) z () = some r) (fun z => l.length - z) 1 ?_ ?_ ?_ ?_
    · exact hk
    · exact (.c (.c (.c .nil)))
    · exact List.Sublist.refl _
    · rintro i_3 hk; refine T.seq (T.sr ?_); refine TL.run 2 rfl ?_; refine TL.y (Yv.am rfl rfl hl.1 hl.2.1) ?_; have hm8 : l.length ≤ 9223372036854775807 := hl.2.1 ▸ hl.1.max; refine TL.run 1 rfl ?_; refine TL.ns ?_; refine T.cond rfl (fun h4 => ?_) (fun h4 => ?_)
      · have p4 := of_decide_eq_true h4; rw [zaq (by omega)] at hk; generalize hn2 : zai f2 kk2 (l.length - (i_3 + 1)) (i_3 + 1) = next2 at hk; rw [← hf2] at hk; (try dsimp only at hk); refine T.skip (K.seq (T.seq (T.block (T.seq ?_)))); have hq : (0 ≤ ((i_3 : Int) - 1) ∧ ((i_3 : Int) - 1) < (l.length : Int)) ∧ _ := zan hk; clear hk; obtain ⟨g16, hk⟩ := hq; (try dsimp only at hk); refine T.ax (.still 0 (.still 1 (.still 2 (.still 3 (.still 4 (.still 5 (.still 6 (.still 7 (.still 8 (.still 9 (.eff 10 (.still 11 .done)))))))))))) _ (by kernel_rfl) (List.Sublist.refl _) ?_; refine TS.run 3 rfl ?_; refine TS.y rfl (Yv.aL rfl rfl rfl (by omega)) ?_; refine TS.y rfl (Yv.an (i := ((i_3 : Int) - 1).toNat) rfl rfl rfl hl.1 hl.2.1 (by omega) (by omega)) ?_; refine TS.y rfl (Yv.aD 0 (i := ((i_3 : Int) - 1).toNat) (j := 0) rfl rfl rfl hl.1 hl.2.1 (by omega) rfl (GDomain.form (hl.2.2 (((i_3 : Int) - 1).toNat) (by omega))) rfl) ?_; have hd17_1 := (GDomain.c1 (hl.2.2 (((i_3 : Int) - 1).toNat) (by omega))).2; haveI := hd17_1.oneC; refine TS.run 2 rfl ?_; refine TS.y rfl (Yv.an (i := i_3) rfl rfl rfl hl.1 hl.2.1 rfl (by omega)) ?_; refine TS.y rfl (Yv.aD 0 (i := i_3) (j := 0) rfl rfl rfl hl.1 hl.2.1 (by omega) rfl (GDomain.form (hl.2.2 i_3 (by omega))) rfl) ?_; have hd21_1 := (GDomain.c1 (hl.2.2 i_3 (by omega))).2; haveI := hd21_1.oneC; refine TS.eff ?_; refine TSo.au rfl (Wt.none rfl) rfl rfl (Ew.ah rfl rfl rfl (fun w hw => zd0 _ w (hw.fr (i := 0) rfl) (nth l (((i_3 : Int) - 1).toNat)) (nth (nth cl (((i_3 : Int) - 1).toNat)) 1) hd17_1 (nth l i_3) (nth (nth cl i_3) 1) hd21_1)) ?_; rintro _ _ ⟨rfl, rfl⟩; refine ⟨(fun w hw => hw.sub Sx), ?_⟩; refine TS.run 1 rfl ?_; refine TS.done ?_; refine K.seq ?_; refine T.cond rfl (fun h5 => ?_) (fun h5 => ?_)
        · have p5 := of_decide_eq_true h5; replace hk := zaa hk h5; refine T.sr ?_; refine TL.run 1 rfl ?_; refine TL.ns (T.ret (K.ag (K.ab (K.ab (K.ag (K.ab ?_)))))); obtain rfl := Option.some.inj hk; exact K.ai rfl rfl (fun w' hw => ⟨rfl, hw.isBelow⟩)
        · have p5 := of_decide_eq_false h5; replace hk := zab hk h5; refine T.skip (K.ac (K.seq (T.region ?_))); refine TL.run 1 rfl ?_; refine TL.y (Yv.ao rfl rfl rfl (by omega)) ?_; refine TL.run 1 rfl ?_; refine TL.nil ?_; rw [← hn2] at hk; exact K.next (i_3 + 1) hk (by omega) (.c (.c (.c .nil))) (List.Sublist.refl _)
      · have p4 := of_decide_eq_false h4; rw [zar (by omega), ← hkk2] at hk; (try dsimp only at hk); refine T.exit (K.aa (K.aa (K.ad ?_))); exact K.af () hk .nil (List.Sublist.refl _)
  · rintro _ hk; rw [← hk1] at hk; (try dsimp only at hk); refine T.sr ?_; refine TL.run 1 rfl ?_; refine TL.ns (T.ret ?_); obtain rfl := Option.some.inj hk; exact K.ai rfl rfl (fun w' hw => ⟨rfl, hw.isBelow⟩)
def zbT (c : GPair) (xf0_ : GSet) : Option Bool :=
  (zaB xf0_ c.A).bind fun r7 =>
  zaH (fun (x_1 : Bool) =>
    some x_1)
  (fun k2 =>
    (bif r7 then
      (zaB xf0_ c.B).bind fun r12 =>
      k2 r12
      else
      k2 false))
theorem zdY (F0 : Frz) (w : World) (hF0 : F0.At w) (c : GPair) (xf0_ : GSet) (gf0_ : Nat) (hO : Hp w (fps [.row gf0_ 124 (xf0_.words.1.map U)]) [.row gf0_ 124 (xf0_.words.1.map U)] w) (hA : ∀ g, fps [.row gf0_ 124 (xf0_.words.1.map U)] g → ¬ F0.S g) (r : Bool) (hr : zbT c xf0_ = some r) : Calls Tryz.prog 69 #[.agg [.int .i64 c.A, .int .i64 c.B, .int .i64 c.Offset, .int .i64 c.Low, .int .i64 c.High].toArray, .pointer (some ⟨gf0_, 0, none⟩)] w fun e w' => ∃ (y : Unit), (True) ∧ e = .returned (.bool r) ∧ FxM F0 w (fps [.row gf0_ 124 (xf0_.words.1.map U)]) F0 [.row gf0_ 124 (xf0_.words.1.map U)] w' := by
  have hk := hr; unfold zbT at hk; obtain ⟨S0, F1, rfl, hS0, hp0⟩ := za8 hF0 hO hA; refine zap (hs := [.row gf0_ 124 (xf0_.words.1.map U), .fr F1]) Tryz.func69 rfl rfl rfl hp0 ?_; refine T.sr ?_; refine TL.e (Ew.az rfl rfl) ?_; rintro _ _ ⟨g2, rfl, rfl⟩; refine TL.run 1 rfl ?_; refine TL.ns (T.seq ?_); have hq := zah hk; clear hk; obtain ⟨r7, hr7, hk⟩ := hq; (try dsimp only at hk); have hq := zae hk; clear hk; obtain ⟨k2, hk2, hk⟩ := hq; (try dsimp only at hk); refine T.ae (ι := Bool) (fun z => [(3, .bool z)]) (fun z => [.row gf0_ 124 (xf0_.words.1.map U), .fr F1]) (fun z => k2 z = some r) ?_ ?_
  · refine T.region ?_; refine TL.y (Yv.al 1 rfl rfl rfl Vec.len) ?_; refine TL.y (Yv.fieldAddr rfl rfl) ?_; refine TL.y (Yv.a 0 rfl rfl rfl rfl) ?_; refine TL.e (Ew.ah rfl rfl rfl (fun w hw => zaY _ w (hw.fr (i := 2) rfl) xf0_ c.A r7 hr7)) ?_; rintro _ _ ⟨rfl, rfl⟩; refine TL.run 1 rfl ?_; refine TL.gs rfl rfl rfl (fun h3 => ?_) (fun h3 => ?_)
    · replace hk := zaa hk h3; refine TL.y (Yv.al 1 rfl rfl rfl Vec.len) ?_; refine TL.y (Yv.fieldAddr rfl rfl) ?_; refine TL.y (Yv.a 0 rfl rfl rfl rfl) ?_; have hq := zah hk; clear hk; obtain ⟨r12, hr12, hk⟩ := hq; refine TL.e (Ew.ah rfl rfl rfl (fun w hw => zaY _ w (hw.fr (i := 2) rfl) xf0_ c.B r12 hr12)) ?_; rintro _ _ ⟨rfl, rfl⟩; refine TL.run 2 rfl ?_; refine TL.nil ?_; refine K.pick [1, 2] rfl (by decide) ?_; exact K.af r12 hk (.c .nil) (List.Sublist.refl _)
    · replace hk := zab hk h3; refine TL.run 6 rfl ?_; refine TL.nil ?_; refine K.pick [1, 2] rfl (by decide) ?_; exact K.af false hk (.c .nil) (List.Sublist.refl _)
  · rintro x_1 hk; rw [← hk2] at hk; (try dsimp only at hk); refine T.ret ?_; obtain rfl := Option.some.inj hk; exact K.ai rfl rfl (fun w' hw => ⟨⟨⟩, trivial, rfl, FxM.of (hw.pick (idx := [0, 1]) rfl (by decide)) hS0 (Frz.Le.refl _)⟩)
def zaR (l : List GPair) (x1c0_ : GSet) : Option Bool :=
  zaH (fun (_ : Unit) =>
    some true)
  (fun k1 =>
    zai (fun (i_3 : Nat) (next2 : Unit → Option Bool) (_ : Unit) =>
      (zbT (nth l i_3) x1c0_).bind fun r15 =>
      (bif !r15 then
        some false
        else
        next2 ()))
    (fun (_ : Unit) =>
      k1 ()) (l.length - 0) 0 ())
theorem zcb (F0 : Frz) (w : World) (hF0 : F0.At w) (l : List GPair) (vl : Value) (hl : SlC F0 vl 5 (l.map GPair.enc)) (x1c0_ : GSet) (g1c0_ : Nat) (hO : Hp w (fps [.row g1c0_ 124 (x1c0_.words.1.map U)]) [.row g1c0_ 124 (x1c0_.words.1.map U)] w) (hA : ∀ g, fps [.row g1c0_ 124 (x1c0_.words.1.map U)] g → ¬ F0.S g) (r : Bool) (hr : zaR l x1c0_ = some r) : Calls Tryz.prog 68 #[vl, .func (.func 69) #[] #[.pointer (some ⟨g1c0_, 0, none⟩)]] w fun e w' => ∃ (y : Unit), (True) ∧ e = .returned (.bool r) ∧ FxM F0 w (fps [.row g1c0_ 124 (x1c0_.words.1.map U)]) F0 [.row g1c0_ 124 (x1c0_.words.1.map U)] w' := by
  have hk := hr; unfold zaR at hk; haveI := hl.oneC; obtain ⟨S0, F1, rfl, hS0, hp0⟩ := za8 hF0 hO hA; refine zap (hs := [.row g1c0_ 124 (x1c0_.words.1.map U), .fr F1]) Tryz.func68 rfl rfl rfl hp0 ?_; refine T.sr ?_; refine TL.run 1 rfl ?_; refine TL.ns (T.seq (T.sr ?_)); refine TL.run 1 rfl ?_; refine TL.y (Yv.am rfl rfl hl (List.length_map _)) ?_; have hm8 : l.length ≤ 9223372036854775807 := (List.length_map _) ▸ hl.max; refine TL.run 1 rfl ?_; refine TL.ns ?_; have hq := zae hk; clear hk; obtain ⟨k1, hk1, hk⟩ := hq; (try dsimp only at hk); refine T.ae (ι := Unit) (fun z => []) (fun z => [.row g1c0_ 124 (x1c0_.words.1.map U), .fr F1]) (fun z => k1 () = some r) ?_ ?_
  · have hq := zaj hk; clear hk; obtain ⟨f2, kk2, hf2, hkk2, hk⟩ := hq; refine T.block ?_; refine T.loop (ι := Nat) (fun z => [(1, .func (.func 69) #[] #[.pointer (some ⟨g1c0_, 0, none⟩)]), (7, vl), (8, .int .i64 (l.length : Int)), (9, .int .i64 (z : Int))]) (fun z => [.row g1c0_ 124 (x1c0_.words.1.map U), .fr F1]) (fun z => zai f2 kk2 (l.length - z) z () = some r) (fun z => l.length - z) 0 ?_ ?_ ?_ ?_
    · exact hk
    · exact (.c (.c (.c (.c .nil))))
    · exact List.Sublist.refl _
    · rintro i_3 hk; refine T.sr ?_; refine TL.run 1 rfl ?_; refine TL.ns (T.seq ?_); refine T.cond rfl (fun h4 => ?_) (fun h4 => ?_)
      · have p4 := of_decide_eq_true h4; rw [zaq (by omega)] at hk; generalize hn2 : zai f2 kk2 (l.length - (i_3 + 1)) (i_3 + 1) = next2 at hk; rw [← hf2] at hk; (try dsimp only at hk); refine T.skip (K.seq (T.seq (T.block (T.sr ?_)))); refine TL.y (Yv.an (i := i_3) rfl rfl rfl hl (List.length_map _) rfl (by omega)) ?_; refine TL.y (Yv.aq 1 (i := i_3) rfl rfl rfl hl (by omega) rfl rfl rfl) ?_; refine TL.e (Ew.alloc rfl) ?_; rintro _ _ ⟨g6, rfl, rfl⟩; refine TL.e0 (Ew.ak 0 rfl rfl rfl rfl rfl rfl) ?_; rintro _ _ ⟨rfl, rfl⟩; refine TL.ns (T.seq ?_); have hq := zah hk; clear hk; obtain ⟨r15, hr15, hk⟩ := hq; (try dsimp only at hk); refine T.region ?_; refine TL.run 1 rfl ?_; refine TL.y (Yv.al 0 rfl rfl rfl rfl) ?_; refine TL.e (Ew.ar [1, 2, 0] [.row g1c0_ 124 (x1c0_.words.1.map U)] [.row g6 72 [.int .i64 ((nth l i_3).A), .int .i64 ((nth l i_3).B), .int .i64 ((nth l i_3).Offset), .int .i64 ((nth l i_3).Low), .int .i64 ((nth l i_3).High)]] rfl rfl rfl rfl (by decide) (fun w hw hw2 hF => zdY _ w hF (nth l i_3) x1c0_ g1c0_ hw2.takes.1 hw2.takes.2 r15 hr15)) ?_; rintro _ _ ⟨⟨⟩, -, rfl, rfl⟩; dsimp only [List.cons_append, List.nil_append]; refine TL.run 1 rfl ?_; refine TL.ns ?_; refine T.cond rfl (fun h5 => ?_) (fun h5 => ?_)
        · replace hk := zaa hk h5; refine T.sr ?_; refine TL.run 1 rfl ?_; refine TL.ns (T.ret (K.ag (K.ab (K.ab (K.ag (K.ab ?_)))))); obtain rfl := Option.some.inj hk; exact K.ai rfl rfl (fun w' hw => ⟨⟨⟩, trivial, rfl, FxM.of (hw.pick (idx := [0, 1]) rfl (by decide)) hS0 (Frz.Le.refl _)⟩)
        · replace hk := zab hk h5; refine T.skip (K.ac (K.seq (T.region ?_))); refine TL.y (Yv.ao rfl rfl rfl (by omega)) ?_; refine TL.run 1 rfl ?_; refine TL.nil ?_; rw [← hn2] at hk; refine K.pick [0, 1] rfl (by decide) ?_; exact K.next (i_3 + 1) hk (by omega) (.c (.c (.c (.c .nil)))) (List.Sublist.refl _)
      · have p4 := of_decide_eq_false h4; rw [zar (by omega), ← hkk2] at hk; (try dsimp only at hk); refine T.exit (K.aa (K.aa (K.ad ?_))); exact K.af () hk .nil (List.Sublist.refl _)
  · rintro _ hk; rw [← hk1] at hk; (try dsimp only at hk); refine T.sr ?_; refine TL.run 1 rfl ?_; refine TL.ns (T.ret ?_); obtain rfl := Option.some.inj hk; exact K.ai rfl rfl (fun w' hw => ⟨⟨⟩, trivial, rfl, FxM.of (hw.pick (idx := [0, 1]) rfl (by decide)) hS0 (Frz.Le.refl _)⟩)
def zbN (c : GLoad) (xf0_ : GSet) : Option Bool :=
  (zaB xf0_ c.To).bind fun r7 =>
  zaH (fun (x_1 : Bool) =>
    some x_1)
  (fun k2 =>
    (bif r7 then
      (zaB xf0_ c.From).bind fun r12 =>
      k2 r12
      else
      k2 false))
theorem zdW (F0 : Frz) (w : World) (hF0 : F0.At w) (c : GLoad) (xf0_ : GSet) (gf0_ : Nat) (hO : Hp w (fps [.row gf0_ 124 (xf0_.words.1.map U)]) [.row gf0_ 124 (xf0_.words.1.map U)] w) (hA : ∀ g, fps [.row gf0_ 124 (xf0_.words.1.map U)] g → ¬ F0.S g) (r : Bool) (hr : zbN c xf0_ = some r) : Calls Tryz.prog 72 #[.agg [.int .i64 c.To, .int .i64 c.From, .int .i64 c.Weight, .int .i64 c.Low, .int .i64 c.High].toArray, .pointer (some ⟨gf0_, 0, none⟩)] w fun e w' => ∃ (y : Unit), (True) ∧ e = .returned (.bool r) ∧ FxM F0 w (fps [.row gf0_ 124 (xf0_.words.1.map U)]) F0 [.row gf0_ 124 (xf0_.words.1.map U)] w' := by
  have hk := hr; unfold zbN at hk; obtain ⟨S0, F1, rfl, hS0, hp0⟩ := za8 hF0 hO hA; refine zap (hs := [.row gf0_ 124 (xf0_.words.1.map U), .fr F1]) Tryz.func72 rfl rfl rfl hp0 ?_; refine T.sr ?_; refine TL.e (Ew.az rfl rfl) ?_; rintro _ _ ⟨g2, rfl, rfl⟩; refine TL.run 1 rfl ?_; refine TL.ns (T.seq ?_); have hq := zah hk; clear hk; obtain ⟨r7, hr7, hk⟩ := hq; (try dsimp only at hk); have hq := zae hk; clear hk; obtain ⟨k2, hk2, hk⟩ := hq; (try dsimp only at hk); refine T.ae (ι := Bool) (fun z => [(3, .bool z)]) (fun z => [.row gf0_ 124 (xf0_.words.1.map U), .fr F1]) (fun z => k2 z = some r) ?_ ?_
  · refine T.region ?_; refine TL.y (Yv.al 1 rfl rfl rfl Vec.len) ?_; refine TL.y (Yv.fieldAddr rfl rfl) ?_; refine TL.y (Yv.a 0 rfl rfl rfl rfl) ?_; refine TL.e (Ew.ah rfl rfl rfl (fun w hw => zaY _ w (hw.fr (i := 2) rfl) xf0_ c.To r7 hr7)) ?_; rintro _ _ ⟨rfl, rfl⟩; refine TL.run 1 rfl ?_; refine TL.gs rfl rfl rfl (fun h3 => ?_) (fun h3 => ?_)
    · replace hk := zaa hk h3; refine TL.y (Yv.al 1 rfl rfl rfl Vec.len) ?_; refine TL.y (Yv.fieldAddr rfl rfl) ?_; refine TL.y (Yv.a 0 rfl rfl rfl rfl) ?_; have hq := zah hk; clear hk; obtain ⟨r12, hr12, hk⟩ := hq; refine TL.e (Ew.ah rfl rfl rfl (fun w hw => zaY _ w (hw.fr (i := 2) rfl) xf0_ c.From r12 hr12)) ?_; rintro _ _ ⟨rfl, rfl⟩; refine TL.run 2 rfl ?_; refine TL.nil ?_; refine K.pick [1, 2] rfl (by decide) ?_; exact K.af r12 hk (.c .nil) (List.Sublist.refl _)
    · replace hk := zab hk h3; refine TL.run 6 rfl ?_; refine TL.nil ?_; refine K.pick [1, 2] rfl (by decide) ?_; exact K.af false hk (.c .nil) (List.Sublist.refl _)
  · rintro x_1 hk; rw [← hk2] at hk; (try dsimp only at hk); refine T.ret ?_; obtain rfl := Option.some.inj hk; exact K.ai rfl rfl (fun w' hw => ⟨⟨⟩, trivial, rfl, FxM.of (hw.pick (idx := [0, 1]) rfl (by decide)) hS0 (Frz.Le.refl _)⟩)
def zaQ (l : List GLoad) (x1c0_ : GSet) : Option Bool :=
  zaH (fun (_ : Unit) =>
    some true)
  (fun k1 =>
    zai (fun (i_3 : Nat) (next2 : Unit → Option Bool) (_ : Unit) =>
      (zbN (nth l i_3) x1c0_).bind fun r15 =>
      (bif !r15 then
        some false
        else
        next2 ()))
    (fun (_ : Unit) =>
      k1 ()) (l.length - 0) 0 ())
theorem zcc (F0 : Frz) (w : World) (hF0 : F0.At w) (l : List GLoad) (vl : Value) (hl : SlC F0 vl 5 (l.map GLoad.enc)) (x1c0_ : GSet) (g1c0_ : Nat) (hO : Hp w (fps [.row g1c0_ 124 (x1c0_.words.1.map U)]) [.row g1c0_ 124 (x1c0_.words.1.map U)] w) (hA : ∀ g, fps [.row g1c0_ 124 (x1c0_.words.1.map U)] g → ¬ F0.S g) (r : Bool) (hr : zaQ l x1c0_ = some r) : Calls Tryz.prog 71 #[vl, .func (.func 72) #[] #[.pointer (some ⟨g1c0_, 0, none⟩)]] w fun e w' => ∃ (y : Unit), (True) ∧ e = .returned (.bool r) ∧ FxM F0 w (fps [.row g1c0_ 124 (x1c0_.words.1.map U)]) F0 [.row g1c0_ 124 (x1c0_.words.1.map U)] w' := by
  have hk := hr; unfold zaQ at hk; haveI := hl.oneC; obtain ⟨S0, F1, rfl, hS0, hp0⟩ := za8 hF0 hO hA; refine zap (hs := [.row g1c0_ 124 (x1c0_.words.1.map U), .fr F1]) Tryz.func71 rfl rfl rfl hp0 ?_; refine T.sr ?_; refine TL.run 1 rfl ?_; refine TL.ns (T.seq (T.sr ?_)); refine TL.run 1 rfl ?_; refine TL.y (Yv.am rfl rfl hl (List.length_map _)) ?_; have hm8 : l.length ≤ 9223372036854775807 := (List.length_map _) ▸ hl.max; refine TL.run 1 rfl ?_; refine TL.ns ?_; have hq := zae hk; clear hk; obtain ⟨k1, hk1, hk⟩ := hq; (try dsimp only at hk); refine T.ae (ι := Unit) (fun z => []) (fun z => [.row g1c0_ 124 (x1c0_.words.1.map U), .fr F1]) (fun z => k1 () = some r) ?_ ?_
  · have hq := zaj hk; clear hk; obtain ⟨f2, kk2, hf2, hkk2, hk⟩ := hq; refine T.block ?_; refine T.loop (ι := Nat) (fun z => [(1, .func (.func 72) #[] #[.pointer (some ⟨g1c0_, 0, none⟩)]), (7, vl), (8, .int .i64 (l.length : Int)), (9, .int .i64 (z : Int))]) (fun z => [.row g1c0_ 124 (x1c0_.words.1.map U), .fr F1]) (fun z => zai f2 kk2 (l.length - z) z () = some r) (fun z => l.length - z) 0 ?_ ?_ ?_ ?_
    · exact hk
    · exact (.c (.c (.c (.c .nil))))
    · exact List.Sublist.refl _
    · rintro i_3 hk; refine T.sr ?_; refine TL.run 1 rfl ?_; refine TL.ns (T.seq ?_); refine T.cond rfl (fun h4 => ?_) (fun h4 => ?_)
      · have p4 := of_decide_eq_true h4; rw [zaq (by omega)] at hk; generalize hn2 : zai f2 kk2 (l.length - (i_3 + 1)) (i_3 + 1) = next2 at hk; rw [← hf2] at hk; (try dsimp only at hk); refine T.skip (K.seq (T.seq (T.block (T.sr ?_)))); refine TL.y (Yv.an (i := i_3) rfl rfl rfl hl (List.length_map _) rfl (by omega)) ?_; refine TL.y (Yv.aq 1 (i := i_3) rfl rfl rfl hl (by omega) rfl rfl rfl) ?_; refine TL.e (Ew.alloc rfl) ?_; rintro _ _ ⟨g6, rfl, rfl⟩; refine TL.e0 (Ew.ak 0 rfl rfl rfl rfl rfl rfl) ?_; rintro _ _ ⟨rfl, rfl⟩; refine TL.ns (T.seq ?_); have hq := zah hk; clear hk; obtain ⟨r15, hr15, hk⟩ := hq; (try dsimp only at hk); refine T.region ?_; refine TL.run 1 rfl ?_; refine TL.y (Yv.al 0 rfl rfl rfl rfl) ?_; refine TL.e (Ew.ar [1, 2, 0] [.row g1c0_ 124 (x1c0_.words.1.map U)] [.row g6 74 [.int .i64 ((nth l i_3).To), .int .i64 ((nth l i_3).From), .int .i64 ((nth l i_3).Weight), .int .i64 ((nth l i_3).Low), .int .i64 ((nth l i_3).High)]] rfl rfl rfl rfl (by decide) (fun w hw hw2 hF => zdW _ w hF (nth l i_3) x1c0_ g1c0_ hw2.takes.1 hw2.takes.2 r15 hr15)) ?_; rintro _ _ ⟨⟨⟩, -, rfl, rfl⟩; dsimp only [List.cons_append, List.nil_append]; refine TL.run 1 rfl ?_; refine TL.ns ?_; refine T.cond rfl (fun h5 => ?_) (fun h5 => ?_)
        · replace hk := zaa hk h5; refine T.sr ?_; refine TL.run 1 rfl ?_; refine TL.ns (T.ret (K.ag (K.ab (K.ab (K.ag (K.ab ?_)))))); obtain rfl := Option.some.inj hk; exact K.ai rfl rfl (fun w' hw => ⟨⟨⟩, trivial, rfl, FxM.of (hw.pick (idx := [0, 1]) rfl (by decide)) hS0 (Frz.Le.refl _)⟩)
        · replace hk := zab hk h5; refine T.skip (K.ac (K.seq (T.region ?_))); refine TL.y (Yv.ao rfl rfl rfl (by omega)) ?_; refine TL.run 1 rfl ?_; refine TL.nil ?_; rw [← hn2] at hk; refine K.pick [0, 1] rfl (by decide) ?_; exact K.next (i_3 + 1) hk (by omega) (.c (.c (.c (.c .nil)))) (List.Sublist.refl _)
      · have p4 := of_decide_eq_false h4; rw [zar (by omega), ← hkk2] at hk; (try dsimp only at hk); refine T.exit (K.aa (K.aa (K.ad ?_))); exact K.af () hk .nil (List.Sublist.refl _)
  · rintro _ hk; rw [← hk1] at hk; (try dsimp only at hk); refine T.sr ?_; refine TL.run 1 rfl ?_; refine TL.ns (T.ret ?_); obtain rfl := Option.some.inj hk; exact K.ai rfl rfl (fun w' hw => ⟨⟨⟩, trivial, rfl, FxM.of (hw.pick (idx := [0, 1]) rfl (by decide)) hS0 (Frz.Le.refl _)⟩)
def zbS (c : GCap) (xf0_ : GSet) : Option Bool :=
  (zaB xf0_ c.Station).bind fun r7 =>
  some r7
theorem zd2 (F0 : Frz) (w : World) (hF0 : F0.At w) (c : GCap) (xf0_ : GSet) (gf0_ : Nat) (hO : Hp w (fps [.row gf0_ 124 (xf0_.words.1.map U)]) [.row gf0_ 124 (xf0_.words.1.map U)] w) (hA : ∀ g, fps [.row gf0_ 124 (xf0_.words.1.map U)] g → ¬ F0.S g) (r : Bool) (hr : zbS c xf0_ = some r) : Calls Tryz.prog 74 #[.agg [.int .i64 c.Station, .int .i64 c.Max, .int .i64 c.Low, .int .i64 c.High].toArray, .pointer (some ⟨gf0_, 0, none⟩)] w fun e w' => ∃ (y : Unit), (True) ∧ e = .returned (.bool r) ∧ FxM F0 w (fps [.row gf0_ 124 (xf0_.words.1.map U)]) F0 [.row gf0_ 124 (xf0_.words.1.map U)] w' := by
  have hk := hr; unfold zbS at hk; obtain ⟨S0, F1, rfl, hS0, hp0⟩ := za8 hF0 hO hA; refine zap (hs := [.row gf0_ 124 (xf0_.words.1.map U), .fr F1]) Tryz.func74 rfl rfl rfl hp0 ?_; refine T.sr ?_; refine TL.e (Ew.az rfl rfl) ?_; rintro _ _ ⟨g2, rfl, rfl⟩; refine TL.run 1 rfl ?_; refine TL.ns (T.seq ?_); have hq := zah hk; clear hk; obtain ⟨r7, hr7, hk⟩ := hq; (try dsimp only at hk); refine T.region ?_; refine TL.y (Yv.al 1 rfl rfl rfl Vec.len) ?_; refine TL.y (Yv.fieldAddr rfl rfl) ?_; refine TL.y (Yv.a 0 rfl rfl rfl rfl) ?_; refine TL.e (Ew.ah rfl rfl rfl (fun w hw => zaY _ w (hw.fr (i := 2) rfl) xf0_ c.Station r7 hr7)) ?_; rintro _ _ ⟨rfl, rfl⟩; refine TL.run 1 rfl ?_; refine TL.ns (T.ret ?_); obtain rfl := Option.some.inj hk; exact K.ai rfl rfl (fun w' hw => ⟨⟨⟩, trivial, rfl, FxM.of (hw.pick (idx := [1, 2]) rfl (by decide)) hS0 (Frz.Le.refl _)⟩)
def zaS (l : List GCap) (x1c0_ : GSet) : Option Bool :=
  zaH (fun (_ : Unit) =>
    some true)
  (fun k1 =>
    zai (fun (i_3 : Nat) (next2 : Unit → Option Bool) (_ : Unit) =>
      (zbS (nth l i_3) x1c0_).bind fun r15 =>
      (bif !r15 then
        some false
        else
        next2 ()))
    (fun (_ : Unit) =>
      k1 ()) (l.length - 0) 0 ())
theorem zch (F0 : Frz) (w : World) (hF0 : F0.At w) (l : List GCap) (vl : Value) (hl : SlC F0 vl 4 (l.map GCap.enc)) (x1c0_ : GSet) (g1c0_ : Nat) (hO : Hp w (fps [.row g1c0_ 124 (x1c0_.words.1.map U)]) [.row g1c0_ 124 (x1c0_.words.1.map U)] w) (hA : ∀ g, fps [.row g1c0_ 124 (x1c0_.words.1.map U)] g → ¬ F0.S g) (r : Bool) (hr : zaS l x1c0_ = some r) : Calls Tryz.prog 73 #[vl, .func (.func 74) #[] #[.pointer (some ⟨g1c0_, 0, none⟩)]] w fun e w' => ∃ (y : Unit), (True) ∧ e = .returned (.bool r) ∧ FxM F0 w (fps [.row g1c0_ 124 (x1c0_.words.1.map U)]) F0 [.row g1c0_ 124 (x1c0_.words.1.map U)] w' := by
  have hk := hr; unfold zaS at hk; haveI := hl.oneC; obtain ⟨S0, F1, rfl, hS0, hp0⟩ := za8 hF0 hO hA; refine zap (hs := [.row g1c0_ 124 (x1c0_.words.1.map U), .fr F1]) Tryz.func73 rfl rfl rfl hp0 ?_; refine T.sr ?_; refine TL.run 1 rfl ?_; refine TL.ns (T.seq (T.sr ?_)); refine TL.run 1 rfl ?_; refine TL.y (Yv.am rfl rfl hl (List.length_map _)) ?_; have hm8 : l.length ≤ 9223372036854775807 := (List.length_map _) ▸ hl.max; refine TL.run 1 rfl ?_; refine TL.ns ?_; have hq := zae hk; clear hk; obtain ⟨k1, hk1, hk⟩ := hq; (try dsimp only at hk); refine T.ae (ι := Unit) (fun z => []) (fun z => [.row g1c0_ 124 (x1c0_.words.1.map U), .fr F1]) (fun z => k1 () = some r) ?_ ?_
  · have hq := zaj hk; clear hk; obtain ⟨f2, kk2, hf2, hkk2, hk⟩ := hq; refine T.block ?_; refine T.loop (ι := Nat) (fun z => [(1, .func (.func 74) #[] #[.pointer (some ⟨g1c0_, 0, none⟩)]), (7, vl), (8, .int .i64 (l.length : Int)), (9, .int .i64 (z : Int))]) (fun z => [.row g1c0_ 124 (x1c0_.words.1.map U), .fr F1]) (fun z => zai f2 kk2 (l.length - z) z () = some r) (fun z => l.length - z) 0 ?_ ?_ ?_ ?_
    · exact hk
    · exact (.c (.c (.c (.c .nil))))
    · exact List.Sublist.refl _
    · rintro i_3 hk; refine T.sr ?_; refine TL.run 1 rfl ?_; refine TL.ns (T.seq ?_); refine T.cond rfl (fun h4 => ?_) (fun h4 => ?_)
      · have p4 := of_decide_eq_true h4; rw [zaq (by omega)] at hk; generalize hn2 : zai f2 kk2 (l.length - (i_3 + 1)) (i_3 + 1) = next2 at hk; rw [← hf2] at hk; (try dsimp only at hk); refine T.skip (K.seq (T.seq (T.block (T.sr ?_)))); refine TL.y (Yv.an (i := i_3) rfl rfl rfl hl (List.length_map _) rfl (by omega)) ?_; refine TL.y (Yv.aq 1 (i := i_3) rfl rfl rfl hl (by omega) rfl rfl rfl) ?_; refine TL.e (Ew.alloc rfl) ?_; rintro _ _ ⟨g6, rfl, rfl⟩; refine TL.e0 (Ew.ak 0 rfl rfl rfl rfl rfl rfl) ?_; rintro _ _ ⟨rfl, rfl⟩; refine TL.ns (T.seq ?_); have hq := zah hk; clear hk; obtain ⟨r15, hr15, hk⟩ := hq; (try dsimp only at hk); refine T.region ?_; refine TL.run 1 rfl ?_; refine TL.y (Yv.al 0 rfl rfl rfl rfl) ?_; refine TL.e (Ew.ar [1, 2, 0] [.row g1c0_ 124 (x1c0_.words.1.map U)] [.row g6 76 [.int .i64 ((nth l i_3).Station), .int .i64 ((nth l i_3).Max), .int .i64 ((nth l i_3).Low), .int .i64 ((nth l i_3).High)]] rfl rfl rfl rfl (by decide) (fun w hw hw2 hF => zd2 _ w hF (nth l i_3) x1c0_ g1c0_ hw2.takes.1 hw2.takes.2 r15 hr15)) ?_; rintro _ _ ⟨⟨⟩, -, rfl, rfl⟩; dsimp only [List.cons_append, List.nil_append]; refine TL.run 1 rfl ?_; refine TL.ns ?_; refine T.cond rfl (fun h5 => ?_) (fun h5 => ?_)
        · replace hk := zaa hk h5; refine T.sr ?_; refine TL.run 1 rfl ?_; refine TL.ns (T.ret (K.ag (K.ab (K.ab (K.ag (K.ab ?_)))))); obtain rfl := Option.some.inj hk; exact K.ai rfl rfl (fun w' hw => ⟨⟨⟩, trivial, rfl, FxM.of (hw.pick (idx := [0, 1]) rfl (by decide)) hS0 (Frz.Le.refl _)⟩)
        · replace hk := zab hk h5; refine T.skip (K.ac (K.seq (T.region ?_))); refine TL.y (Yv.ao rfl rfl rfl (by omega)) ?_; refine TL.run 1 rfl ?_; refine TL.nil ?_; rw [← hn2] at hk; refine K.pick [0, 1] rfl (by decide) ?_; exact K.next (i_3 + 1) hk (by omega) (.c (.c (.c (.c .nil)))) (List.Sublist.refl _)
      · have p4 := of_decide_eq_false h4; rw [zar (by omega), ← hkk2] at hk; (try dsimp only at hk); refine T.exit (K.aa (K.aa (K.ad ?_))); exact K.af () hk .nil (List.Sublist.refl _)
  · rintro _ hk; rw [← hk1] at hk; (try dsimp only at hk); refine T.sr ?_; refine TL.run 1 rfl ?_; refine TL.ns (T.ret ?_); obtain rfl := Option.some.inj hk; exact K.ai rfl rfl (fun w' hw => ⟨⟨⟩, trivial, rfl, FxM.of (hw.pick (idx := [0, 1]) rfl (by decide)) hS0 (Frz.Le.refl _)⟩)
def zbO (p : GProblem) : Option Bool :=
  (zaF p.Domains).bind fun r7 =>
  zaH (fun (x_1 : Bool) =>
    (bif x_1 then
      some false
      else
      (zaI p.Domains).bind fun r18 =>
      (bif !r18 then
        some false
        else
        (zbQ p).bind fun r21 =>
        (zaR p.Rules.Pairs r21).bind fun r26 =>
        zaH (fun (x_6 : Bool) =>
          some x_6)
        (fun k7 =>
          (bif r26 then
            (zaQ p.Rules.Loads r21).bind fun r32 =>
            (bif r32 then
              (zaS p.Rules.Caps r21).bind fun r39 =>
              k7 r39
              else
              k7 false)
            else
            k7 false)))))
  (fun k2 =>
    (bif !r7 then
      k2 true
      else
      (zbv p.Rules).bind fun r12 =>
      k2 (!r12)))
theorem zdg (F0 : Frz) (w : World) (hF0 : F0.At w) (p : GProblem) (vp_0 : Value) (cp_0 : List (List Value)) (hp_0 : SlD GDomain.rep F0 vp_0 2 cp_0 p.Domains) (vp_1 : Value) (hp_1 : SlC F0 vp_1 5 (p.Rules.Pairs.map GPair.enc)) (vp_2 : Value) (hp_2 : SlC F0 vp_2 5 (p.Rules.Loads.map GLoad.enc)) (vp_3 : Value) (hp_3 : SlC F0 vp_3 4 (p.Rules.Caps.map GCap.enc)) (r : Bool) (hr : zbO p = some r) : Calls Tryz.prog 37 #[.agg [vp_0, vp_1, vp_2, vp_3].toArray] w fun e w' => e = .returned (.bool r) ∧ Below w.heap.size w w' := by
  have hk := hr; unfold zbO at hk; haveI := hp_0.1.oneC; haveI := hp_1.oneC; haveI := hp_2.oneC; haveI := hp_3.oneC; obtain ⟨S0, F1, rfl, hS0, hp0⟩ := zak hF0; refine zap Tryz.func37 rfl rfl rfl hp0 ?_; refine T.sr ?_; refine TL.e (Ew.az rfl rfl) ?_; rintro _ _ ⟨g1, rfl, rfl⟩; refine TL.run 1 rfl ?_; refine TL.ns (T.seq (T.seq ?_)); have hq := zah hk; clear hk; obtain ⟨r7, hr7, hk⟩ := hq; (try dsimp only at hk); have hq := zae hk; clear hk; obtain ⟨k2, hk2, hk⟩ := hq; (try dsimp only at hk); refine T.ae (ι := Bool) (fun z => [(1, .pointer (some ⟨g1, 0, none⟩)), (14, .bool z)]) (fun z => [.row g1 29 [vp_0, vp_1, vp_2, vp_3], .fr F1]) (fun z => k2 z = some r) ?_ ?_
  · refine T.region ?_; refine TL.y (Yv.fieldAddr rfl rfl) ?_; refine TL.y (Yv.a 0 rfl rfl rfl rfl) ?_; refine TL.e (Ew.ah rfl rfl rfl (fun w hw => zbH _ w (hw.fr (i := 1) rfl) p.Domains vp_0 cp_0 hp_0 r7 hr7)) ?_; rintro _ _ ⟨rfl, rfl⟩; refine TL.run 2 rfl ?_; refine TL.gs rfl rfl rfl (fun h3 => ?_) (fun h3 => ?_)
    · replace hk := zaa hk h3; refine TL.run 5 rfl ?_; refine TL.nil ?_; exact K.af true hk (.c (.c .nil)) (List.Sublist.refl _)
    · replace hk := zab hk h3; refine TL.y (Yv.fieldAddr rfl rfl) ?_; refine TL.y (Yv.bb 0 (m := [vp_1, vp_2, vp_3]) rfl rfl rfl rfl rfl) ?_; have hq := zah hk; clear hk; obtain ⟨r12, hr12, hk⟩ := hq; refine TL.e (Ew.ah rfl rfl rfl (fun w hw => zdw _ w (hw.fr (i := 1) rfl) p.Rules vp_1 hp_1 vp_2 hp_2 vp_3 hp_3 r12 hr12)) ?_; rintro _ _ ⟨rfl, rfl⟩; refine TL.run 2 rfl ?_; refine TL.nil ?_; exact K.af (!r12) hk (.c (.c .nil)) (List.Sublist.refl _)
  · rintro x_1 hk; rw [← hk2] at hk; (try dsimp only at hk); refine T.cond rfl (fun h4 => ?_) (fun h4 => ?_)
    · replace hk := zaa hk h4; refine T.sr ?_; refine TL.run 1 rfl ?_; refine TL.ns (T.ret (K.ab ?_)); obtain rfl := Option.some.inj hk; exact K.ai rfl rfl (fun w' hw => ⟨rfl, hw.isBelow⟩)
    · replace hk := zab hk h4; refine T.skip (K.seq (T.sr ?_)); refine TL.run 1 rfl ?_; refine TL.ns (T.seq (T.seq ?_)); have hq := zah hk; clear hk; obtain ⟨r18, hr18, hk⟩ := hq; (try dsimp only at hk); refine T.region ?_; refine TL.y (Yv.fieldAddr rfl rfl) ?_; refine TL.y (Yv.a 0 rfl rfl rfl rfl) ?_; refine TL.run 1 rfl ?_; refine TL.e (Ew.ah rfl rfl rfl (fun w hw => zbX _ w (hw.fr (i := 1) rfl) p.Domains vp_0 cp_0 hp_0 r18 hr18)) ?_; rintro _ _ ⟨rfl, rfl⟩; refine TL.run 1 rfl ?_; refine TL.ns ?_; refine T.cond rfl (fun h5 => ?_) (fun h5 => ?_)
      · replace hk := zaa hk h5; refine T.sr ?_; refine TL.run 1 rfl ?_; refine TL.ns (T.ret (K.ab ?_)); obtain rfl := Option.some.inj hk; exact K.ai rfl rfl (fun w' hw => ⟨rfl, hw.isBelow⟩)
      · replace hk := zab hk h5; refine T.skip (K.seq (T.seq ?_)); have hq := zah hk; clear hk; obtain ⟨r21, hr21, hk⟩ := hq; (try dsimp only at hk); refine T.region ?_; refine TL.y (Yv.al 0 rfl rfl rfl rfl) ?_; refine TL.e (Ew.ah rfl rfl rfl (fun w hw => zdZ _ w (hw.fr (i := 1) rfl) p vp_0 cp_0 hp_0 vp_1 hp_1 vp_2 hp_2 vp_3 hp_3 r21 hr21)) ?_; rintro _ _ ⟨rfl, rfl⟩; refine TL.e (Ew.aP (l := ((Vec.fill 8 (0#64)).1.map U)) rfl (by kernel_rfl)) ?_; rintro _ _ ⟨g4, rfl, rfl⟩; refine TL.e0 (Ew.ak 0 rfl rfl rfl rfl Vec.len (Vec.len.trans Vec.len.symm)) ?_; rintro _ _ ⟨rfl, rfl⟩; refine TL.ns (T.seq ?_); have hq := zah hk; clear hk; obtain ⟨r26, hr26, hk⟩ := hq; (try dsimp only at hk); have hq := zae hk; clear hk; obtain ⟨k7, hk7, hk⟩ := hq; (try dsimp only at hk); refine T.ae (ι := Bool) (fun z => [(2, .bool z)]) (fun z => [.fr F1]) (fun z => k7 z = some r) ?_ ?_
        · refine T.region ?_; refine TL.y (Yv.fieldAddr rfl rfl) ?_; refine TL.y (Yv.fieldAddr rfl rfl) ?_; refine TL.y (Yv.a 1 rfl rfl rfl rfl) ?_; refine TL.run 1 rfl ?_; refine TL.e (Ew.ar [0, 2, 1] [.row g4 124 (r21.words.1.map U)] [.row g1 29 [vp_0, vp_1, vp_2, vp_3]] rfl rfl rfl rfl (by decide) (fun w hw hw2 hF => zcb _ w hF p.Rules.Pairs vp_1 hp_1 r21 g4 hw2.takes.1 hw2.takes.2 r26 hr26)) ?_; rintro _ _ ⟨⟨⟩, -, rfl, rfl⟩; dsimp only [List.cons_append, List.nil_append]; refine TL.run 1 rfl ?_; refine TL.gs rfl rfl rfl (fun h8 => ?_) (fun h8 => ?_)
          · replace hk := zaa hk h8; refine TL.y (Yv.fieldAddr rfl rfl) ?_; refine TL.y (Yv.fieldAddr rfl rfl) ?_; refine TL.y (Yv.a 2 rfl rfl rfl rfl) ?_; refine TL.run 1 rfl ?_; have hq := zah hk; clear hk; obtain ⟨r32, hr32, hk⟩ := hq; refine TL.e (Ew.ar [0, 1, 2] [.row g4 124 (r21.words.1.map U)] [.row g1 29 [vp_0, vp_1, vp_2, vp_3]] rfl rfl rfl rfl (by decide) (fun w hw hw2 hF => zcc _ w hF p.Rules.Loads vp_2 hp_2 r21 g4 hw2.takes.1 hw2.takes.2 r32 hr32)) ?_; rintro _ _ ⟨⟨⟩, -, rfl, rfl⟩; dsimp only [List.cons_append, List.nil_append]; refine TL.run 2 rfl ?_; refine TL.gs rfl rfl rfl (fun h9 => ?_) (fun h9 => ?_)
            · replace hk := zaa hk h9; refine TL.y (Yv.fieldAddr rfl rfl) ?_; refine TL.y (Yv.fieldAddr rfl rfl) ?_; refine TL.y (Yv.a 2 rfl rfl rfl rfl) ?_; refine TL.run 1 rfl ?_; have hq := zah hk; clear hk; obtain ⟨r39, hr39, hk⟩ := hq; refine TL.e (Ew.ar [0, 1, 2] [.row g4 124 (r21.words.1.map U)] [.row g1 29 [vp_0, vp_1, vp_2, vp_3]] rfl rfl rfl rfl (by decide) (fun w hw hw2 hF => zch _ w hF p.Rules.Caps vp_3 hp_3 r21 g4 hw2.takes.1 hw2.takes.2 r39 hr39)) ?_; rintro _ _ ⟨⟨⟩, -, rfl, rfl⟩; dsimp only [List.cons_append, List.nil_append]; refine TL.run 2 rfl ?_; refine TL.nil ?_; refine K.pick [1] rfl (by decide) ?_; exact K.af r39 hk (.c .nil) (List.Sublist.refl _)
            · replace hk := zab hk h9; refine TL.run 7 rfl ?_; refine TL.nil ?_; refine K.pick [1] rfl (by decide) ?_; exact K.af false hk (.c .nil) (List.Sublist.refl _)
          · replace hk := zab hk h8; refine TL.run 14 rfl ?_; refine TL.nil ?_; refine K.pick [1] rfl (by decide) ?_; exact K.af false hk (.c .nil) (List.Sublist.refl _)
        · rintro x_6 hk; rw [← hk7] at hk; (try dsimp only at hk); refine T.ret ?_; obtain rfl := Option.some.inj hk; exact K.ai rfl rfl (fun w' hw => ⟨rfl, hw.isBelow⟩)
section
variable {σ ρ α : Type}
theorem zgo {f : Nat → (Unit → Bool) → Unit → Bool} {k : Unit → Bool} {n : Nat} (q : Nat → Bool) (hf : ∀ i next, i < n → f i next () = (q i || next ())) : zai f k n 0 () = ((List.range n).any q || k ()) := by
  have key : ∀ m i, i + m = n → zai f k m i () = ((List.range' i m).any q || k ()) := by
    intro m
    induction m with
    | zero => intro i _; simp [zai]
    | succ m ih =>
      intro i e
      show f i (zai f k m (i + 1)) () = _
      rw [hf i _ (by omega), ih (i + 1) (by omega), List.range'_succ, List.any_cons, Bool.or_assoc]
  rw [key n 0 (by omega), List.range_eq_range']
theorem zeX {f : Nat → (Unit → Bool) → Unit → Bool} {k : Unit → Bool} {n : Nat} (q : Nat → Bool) (hf : ∀ i next, i < n → f i next () = (q i && next ())) : zai f k n 0 () = ((List.range n).all q && k ()) := by
  have key : ∀ m i, i + m = n → zai f k m i () = ((List.range' i m).all q && k ()) := by
    intro m
    induction m with
    | zero => intro i _; simp [zai]
    | succ m ih =>
      intro i e
      show f i (zai f k m (i + 1)) () = _
      rw [hf i _ (by omega), ih (i + 1) (by omega), List.range'_succ, List.all_cons, Bool.and_assoc]
  rw [key n 0 (by omega), List.range_eq_range']
theorem zdB {f : Nat → (σ → ρ) → σ → ρ} {k : σ → ρ} {n : Nat} {s : σ} (I : Nat → σ → Prop) (g : Nat → σ → σ) (h0 : I 0 s) (hI : ∀ i s, i < n → I i s → I (i + 1) (g i s)) (hf : ∀ i next s, i < n → I i s → f i next s = next (g i s)) : zai f k n 0 s = k ((List.range n).foldl (fun s i => g i s) s) ∧ I n ((List.range n).foldl (fun s i => g i s) s) := by
  have key : ∀ m i s, i + m = n → I i s → zai f k m i s = k ((List.range' i m).foldl (fun s i => g i s) s) ∧ I n ((List.range' i m).foldl (fun s i => g i s) s) := by
    intro m
    induction m with
    | zero => intro i s e hs; rw [show i = n by omega] at hs; exact ⟨rfl, hs⟩
    | succ m ih =>
      intro i s e hs; have := ih (i + 1) (g i s) (by omega) (hI i s (by omega) hs); rw [List.range'_succ, List.foldl_cons]; refine ⟨?_, this.2⟩; rw [← this.1]; exact hf i _ s (by omega) hs
  rw [List.range_eq_range']; exact key n 0 s (by omega) h0
theorem zeV {l : List α} [Inhabited α] {q : α → Bool} : ((List.range l.length).any fun i => q (nth l i)) = l.any q := by
  rw [Bool.eq_iff_iff, List.any_eq_true, List.any_eq_true]; constructor
  · rintro ⟨i, hi, h⟩; exact ⟨nth l i, by rw [zaU (List.mem_range.1 hi)]; exact List.getElem_mem _, h⟩
  · rintro ⟨x, hx, h⟩; obtain ⟨i, hi, rfl⟩ := List.mem_iff_getElem.1 hx; exact ⟨i, List.mem_range.2 hi, by rw [zaU hi]; exact h⟩
theorem zcV {l : List α} [Inhabited α] {q : α → Bool} : ((List.range l.length).all fun i => q (nth l i)) = l.all q := by
  have h := zeV (l := l) (q := fun x => !q x); rw [Bool.eq_iff_iff, List.all_eq_true, List.all_eq_true]; constructor
  · intro h x hx; obtain ⟨i, hi, rfl⟩ := List.mem_iff_getElem.1 hx; have := h i (List.mem_range.2 hi)
    rwa [zaU hi] at this
  · intro h i hi; have hi := List.mem_range.1 hi; rw [zaU hi]; exact h _ (List.getElem_mem _)
end
theorem zbC {ρ : Type} {f : Nat → (Unit → ρ) → Unit → ρ} {k : Unit → ρ} {z : ρ} (q : Nat → Bool) {n s : Nat} (hf : ∀ i next, s ≤ i → i < s + n → f i next () = bif q i then next () else z) : zai f k n s () = bif (List.range' s n).all q then k () else z := by
  induction n generalizing s with
  | zero => rfl
  | succ m ih =>
    show f s (zai f k m (s + 1)) () = _
    rw [hf s _ (Nat.le_refl _) (by omega), ih (fun i next h1 h2 => hf i next (by omega) (by omega)), List.range'_succ, List.all_cons]
    cases q s <;> rfl
theorem zgU (n : Nat) (g t : Nat → Bool) : (List.range' 0 n).all (fun i => g i && (bif decide (0 < (i : Int)) then t i else true)) = ((List.range' 0 n).all g && (List.range' 1 (n - 1)).all t) := by
  rw [Bool.eq_iff_iff, Bool.and_eq_true, List.all_eq_true, List.all_eq_true, List.all_eq_true]; constructor
  · intro h; refine ⟨fun i hi => ((Bool.and_eq_true _ _).mp (h i hi)).1, fun i hi => ?_⟩; have hi' := List.mem_range'_1.1 hi; have h2 := ((Bool.and_eq_true _ _).mp (h i (List.mem_range'_1.2 ⟨by omega, by omega⟩))).2
    rwa [decide_eq_true (by omega), cond_true] at h2
  · rintro ⟨h1, h2⟩ i hi; have hi' := List.mem_range'_1.1 hi; rw [Bool.and_eq_true]; refine ⟨h1 i hi, ?_⟩; by_cases h0 : 0 < (i : Int)
    · rw [decide_eq_true h0, cond_true]; exact h2 i (List.mem_range'_1.2 ⟨by omega, by omega⟩)
    · rw [decide_eq_false h0]; rfl
def lexL : List Int → List Int → Bool
  | a :: x, b :: y => bif decide (a = b) then lexL x y else decide (a < b)
  | _, _ => false
theorem zf2 {a b : List Int} {i : Nat} (h1 : i < a.length) (h2 : i < b.length) : lexL (a.drop i) (b.drop i) = bif decide (nth a i = nth b i) then lexL (a.drop (i + 1)) (b.drop (i + 1)) else decide (nth a i < nth b i) := by
  rw [List.drop_eq_getElem_cons h1, List.drop_eq_getElem_cons h2, ← zaU h1, ← zaU h2]; rfl
theorem zgn {a b : List Int} (h : a.length = b.length) : zbJ a b = some (lexL a b) := by
  have key : ∀ m i, i + m = a.length → zai (fun (i : Nat) (next : Unit → Option Bool) (_ : Unit) => grd (0 ≤ (i : Int) ∧ (i : Int) < (b.length : Int)) (bif decide (¬ nth a i = nth b i) then some (decide (nth a i < nth b i)) else next ())) (fun _ => some false) m i () = some (lexL (a.drop i) (b.drop i)) := by
    intro m
    induction m with
    | zero => intro i e; rw [List.drop_eq_nil_of_le (show a.length ≤ i by omega)]; rfl
    | succ m ih =>
      intro i e; have h2 := ih (i + 1) (by omega)
      show grd _ _ = _
      rw [zbP ⟨by omega, by omega⟩, zf2 (by omega) (by omega)]; by_cases e2 : nth a i = nth b i
      · rw [decide_eq_true e2, decide_eq_false (fun hn => hn e2), cond_false]; exact h2
      · rw [decide_eq_false e2, decide_eq_true e2, cond_true]; rfl
  have := key a.length 0 (by omega); rw [List.drop_zero, List.drop_zero] at this; exact this
def cmpc (a b : Int) : Int := bif decide (a < b) then -1 else bif decide (b < a) then 1 else 0
theorem zgB (a b : Int) : zac a b = cmpc a b := by
  unfold zac zbu; rw [decide_eq_false (fun h => h rfl), decide_eq_false (fun h => h rfl)]; rfl
def orL : List Int → Int
  | [] => 0
  | v :: r => bif decide (¬ v = 0) then v else orL r
theorem or_x (l : List Int) : zbZ l = orL l := by
  have key : ∀ m i, i + m = l.length → zai (fun (i : Nat) (next : Unit → Int) (_ : Unit) => bif decide (¬ nth l i = 0) then nth l i else next ()) (fun _ => (0 : Int)) m i () = orL (l.drop i) := by
    intro m
    induction m with
    | zero => intro i e; rw [List.drop_eq_nil_of_le (show l.length ≤ i by omega)]; rfl
    | succ m ih =>
      intro i e; have h2 := ih (i + 1) (by omega); rw [List.drop_eq_getElem_cons (show i < l.length by omega), ← zaU (show i < l.length by omega)]
      show (bif decide (¬ nth l i = 0) then nth l i else _) = bif decide (¬ nth l i = 0) then nth l i else _
      rw [← h2]
  have := key l.length 0 (by omega); rw [List.drop_zero] at this; exact this
theorem zfs : ∀ a b : List Int, decide (0 ≤ orL (List.zipWith cmpc a b)) = !lexL a b
  | [], b => by cases b <;> rfl
  | a :: x, [] => rfl
  | a :: x, b :: y => by
    have ih := zfs x y
    show decide (0 ≤ bif decide (¬ cmpc a b = 0) then cmpc a b else orL (List.zipWith cmpc x y)) = !(bif decide (a = b) then lexL x y else decide (a < b))
    unfold cmpc at *; rcases Int.lt_trichotomy a b with h | h | h
    · rw [decide_eq_true h, decide_eq_false (show ¬ a = b by omega)]; rfl
    · subst h; rw [decide_eq_false (Int.lt_irrefl a), decide_eq_true rfl]; exact ih
    · rw [decide_eq_false (show ¬ a < b by omega), decide_eq_true h, decide_eq_false (show ¬ a = b by omega)]; rfl
def zcD (x : GPair) : List Int := [x.A, x.B, x.Offset, x.Low, x.High]
def zcA (x : GLoad) : List Int := [x.To, x.From, x.Weight, x.Low, x.High]
def capL (x : GCap) : List Int := [x.Station, x.Max, x.Low, x.High]
theorem zgp (a b : GPair) : decide (0 ≤ za4 a b) = !lexL (zcD a) (zcD b) := by
  unfold za4; rw [or_x]; simp only [zgB]; exact zfs (zcD a) (zcD b)
theorem zf0 (a b : GLoad) : decide (0 ≤ za3 a b) = !lexL (zcA a) (zcA b) := by
  unfold za3; rw [or_x]; simp only [zgB]; exact zfs (zcA a) (zcA b)
theorem zgF (a b : GCap) : decide (0 ≤ zbe a b) = !lexL (capL a) (capL b) := by
  unfold zbe; rw [or_x]; simp only [zgB]; exact zfs (capL a) (capL b)
def adjB {α : Type} [Inhabited α] (lt : α → α → Bool) (l : List α) : Bool := (List.range' 1 (l.length - 1)).all fun i => lt (nth l (i - 1)) (nth l i)
theorem zfY {α : Type} [Inhabited α] {l : List α} {cmp : α → α → Int} {lt : α → α → Bool} (hc : ∀ a b, decide (0 ≤ cmp a b) = !lt a b) :
    zai (fun (i : Nat) (next : Unit → Option Bool) (_ : Unit) => grd (0 ≤ ((i : Int) - 1) ∧ ((i : Int) - 1) < (l.length : Int)) (bif decide (0 ≤ cmp (nth l (((i : Int) - 1).toNat)) (nth l i)) then some false else next ())) (fun _ => some true) (l.length - 1) 1 () = some (adjB lt l) := by
  rw [zbC (fun i => lt (nth l (i - 1)) (nth l i)) (z := some false) (fun i next h1 h2 => ?_)]
  · unfold adjB; cases (List.range' 1 (l.length - 1)).all fun i => lt (nth l (i - 1)) (nth l i) <;> rfl
  · rw [zbP ⟨by omega, by omega⟩, hc, show ((i : Int) - 1).toNat = i - 1 by omega]
    cases lt (nth l (i - 1)) (nth l i) <;> rfl
theorem zeB {α : Type} [Inhabited α] {l : List α} {q : α → Bool} : zai (fun (i : Nat) (next : Unit → Bool) (_ : Unit) => bif !(q (nth l i)) then false else next ()) (fun _ => true) (l.length - 0) 0 () = l.all q := by
  rw [Nat.sub_zero, zeX (fun i => q (nth l i)) (fun i next hi => by cases q (nth l i) <;> rfl), zcV, Bool.and_true]
def zc4 (r : GRules) : Bool :=
  decide ((r.Pairs.length : Int) ≤ 4096) && (r.Pairs.all zaJ && (adjB (fun a b => lexL (zcD a) (zcD b)) r.Pairs && (decide ((r.Loads.length : Int) ≤ 1024) && (r.Loads.all zaK && (adjB (fun a b => lexL (zcA a) (zcA b)) r.Loads && (decide ((r.Caps.length : Int) ≤ 1024) && (r.Caps.all zaO && adjB (fun a b => lexL (capL a) (capL b)) r.Caps)))))))
theorem ze8 (r : GRules) : zbv r = some (zc4 r) := by
  have e1 : zaz r.Pairs = r.Pairs.all zaJ := zeB; have e2 : zay r.Loads = r.Loads.all zaK := zeB; have e3 : zaD r.Caps = r.Caps.all zaO := zeB; have i1 : zax r.Pairs = some (adjB (fun a b => lexL (zcD a) (zcD b)) r.Pairs) := zfY zgp; have i2 : zaw r.Loads = some (adjB (fun a b => lexL (zcA a) (zcA b)) r.Loads) := zfY zf0; have i3 : zaA r.Caps = some (adjB (fun a b => lexL (capL a) (capL b)) r.Caps) := zfY zgF; unfold zbv zc4; rw [e1, e2, e3, i1, i2, i3]; simp only [zaH, Option.bind_some]
  cases decide ((r.Pairs.length : Int) ≤ 4096) <;> cases r.Pairs.all zaJ <;> cases adjB (fun a b => lexL (zcD a) (zcD b)) r.Pairs <;> try rfl
  cases decide ((r.Loads.length : Int) ≤ 1024) <;> cases r.Loads.all zaK <;> cases adjB (fun a b => lexL (zcA a) (zcA b)) r.Loads <;> try rfl
  cases decide ((r.Caps.length : Int) ≤ 1024) <;> cases r.Caps.all zaO <;> rfl
theorem zcP (a b : Int) : decide (a < b) = !decide (b ≤ a) := by
  by_cases h : a < b
  · rw [decide_eq_true h, decide_eq_false (by omega)]; rfl
  · rw [decide_eq_false h, decide_eq_true (by omega)]; rfl
theorem zgl (a b : Int) : decide (a ≤ b) = !decide (b < a) := by
  by_cases h : a ≤ b
  · rw [decide_eq_true h, decide_eq_false (by omega)]; rfl
  · rw [decide_eq_false h, decide_eq_true (by omega)]; rfl
theorem zhj (a b : Int) : decide (a = b) = !decide (¬ a = b) := by
  by_cases h : a = b
  · rw [decide_eq_true h, decide_eq_false (by omega)]; rfl
  · rw [decide_eq_false h, decide_eq_true h]; rfl
theorem zhh {ρ : Type} (a b c d e f g t : Bool) (n z : Option ρ) : zaH (fun x => bif x then z else n) (fun (k : Bool → Option ρ) => bif !a then k true else bif !b then k true else bif !c then k true else bif !d then k true else bif !e then k true else bif !f then k true else bif g then (some t).bind fun r => k (!r) else k false) = bif (((((a && b) && c) && (d && e)) && f) && (bif g then t else true)) then n else z := by
  cases a <;> cases b <;> cases c <;> try rfl
  cases d <;> cases e <;> cases f <;> try rfl
  cases g <;> cases t <;> rfl
theorem body4 {ρ : Type} (a d e f g t : Bool) (n z : Option ρ) : zaH (fun x => bif x then z else n) (fun (k : Bool → Option ρ) => bif !a then k true else bif !d then k true else bif !e then k true else bif !f then k true else bif g then (some t).bind fun r => k (!r) else k false) = bif (((a && (d && e)) && f) && (bif g then t else true)) then n else z := by
  cases a <;> cases d <;> cases e <;> cases f <;> try rfl
  cases g <;> cases t <;> rfl
theorem zdP {α : Type} [Inhabited α] (l : List α) (g : α → Bool) (lt : α → α → Bool) : ((List.range' 0 (l.length - 0)).all fun i => g (nth l i) && (bif decide (0 < (i : Int)) then lt (nth l (i - 1)) (nth l i) else true)) = (l.all g && adjB lt l) := by
  rw [Nat.sub_zero, zgU l.length (fun i => g (nth l i)) (fun i => lt (nth l (i - 1)) (nth l i)), ← List.range_eq_range', zcV]; rfl
theorem lessP (x y : GPair) : zbJ (zbl x) (zbl y) = some (lexL (zcD x) (zcD y)) := zgn rfl
theorem lessL (x y : GLoad) : zbJ (zbm x) (zbm y) = some (lexL (zcA x) (zcA y)) := zgn rfl
theorem lessC (x y : GCap) : zbJ (zbz x) (zbz y) = some (lexL (capL x) (capL y)) := zgn rfl
theorem zfK (r : GRules) : zbq r = some (zc4 r) := by
  unfold zbq
  show (bif _ then some false else zai _ (fun _ => zai _ (fun _ => zai _ (fun _ => some true) (r.Caps.length - 0) 0 ()) (r.Loads.length - 0) 0 ()) (r.Pairs.length - 0) 0 ()) = _
  rw [zbC (n := r.Pairs.length - 0) (fun i => zaJ (nth r.Pairs i) && (bif decide (0 < (i : Int)) then lexL (zcD (nth r.Pairs (i - 1))) (zcD (nth r.Pairs i)) else true)) (z := some false) (fun i next h1 h2 => ?_)]; rw [zbC (n := r.Loads.length - 0) (fun i => zaK (nth r.Loads i) && (bif decide (0 < (i : Int)) then lexL (zcA (nth r.Loads (i - 1))) (zcA (nth r.Loads i)) else true)) (z := some false) (fun i next h1 h2 => ?_)]; rw [zbC (n := r.Caps.length - 0) (fun i => zaO (nth r.Caps i) && (bif decide (0 < (i : Int)) then lexL (capL (nth r.Caps (i - 1))) (capL (nth r.Caps i)) else true)) (z := some false) (fun i next h1 h2 => ?_)]
  · rw [zdP r.Pairs zaJ (fun a b => lexL (zcD a) (zcD b)), zdP r.Loads zaK (fun a b => lexL (zcA a) (zcA b)), zdP r.Caps zaO (fun a b => lexL (capL a) (capL b))]; unfold zc4; rw [zcP 4096, zcP 1024, zcP 1024]
    cases decide ((r.Pairs.length : Int) ≤ 4096) <;> cases decide ((r.Loads.length : Int) ≤ 1024) <;> cases decide ((r.Caps.length : Int) ≤ 1024) <;> cases r.Pairs.all zaJ <;> try rfl
    all_goals (cases adjB (fun a b => lexL (zcD a) (zcD b)) r.Pairs <;> cases r.Loads.all zaK <;> cases adjB (fun a b => lexL (zcA a) (zcA b)) r.Loads <;> cases r.Caps.all zaO <;> cases adjB (fun a b => lexL (capL a) (capL b)) r.Caps <;> rfl)
  · skip; rw [show ((i : Int) - 1).toNat = i - 1 by omega, lessC, zcP _ 0, zcP 1099511627776]; exact body4 ..
  · skip; rw [show ((i : Int) - 1).toNat = i - 1 by omega, lessL, zhj (nth r.Loads i).To, zcP _ 1, zcP 1073741824]; exact zhh ..
  · skip; rw [show ((i : Int) - 1).toNat = i - 1 by omega, lessP, zgl (nth r.Pairs i).B, zcP _ (-1), zcP 1]; exact zhh ..
theorem zcY {α : Type} [Inhabited α] {l : List α} {i : Nat} (h : i < l.length) : nth l i ∈ l := by rw [zaU h]; exact List.getElem_mem h
theorem zg5 {c b : Nat} (hc : c < 64) : ((1#64) <<< c).getLsbD b = decide (b = c) := by
  rw [BitVec.getLsbD_shiftLeft]; by_cases h : b = c
  · subst h; simp [hc, BitVec.getLsbD_one]
  · rw [decide_eq_false h]; by_cases h2 : b < c
    · simp [h2]
    · have e : (1#64).getLsbD (b - c) = false := by
        rw [BitVec.getLsbD_one]; simp; omega
      rw [e, Bool.and_false]
theorem zgV {x : BitVec 64} {c : Nat} : decide ((((x >>> c) &&& (1#64)).toNat : Int) = ((1#64).toNat : Int)) = x.getLsbD c := by
  have e : ((x >>> c) &&& (1#64)) = bif x.getLsbD c then 1#64 else 0#64 := by
    refine BitVec.eq_of_getLsbD_eq fun b hb => ?_; rw [BitVec.getLsbD_and, BitVec.getLsbD_ushiftRight, BitVec.getLsbD_one]; by_cases h0 : b = 0
    · subst h0; cases x.getLsbD c <;> simp
    · cases x.getLsbD c <;> simp [h0]
  rw [e]
  cases x.getLsbD c <;> decide
def inS (s : GSet) (i : Int) : Bool := (decide (0 ≤ i) && decide (i < 512)) && (Vec.get s.words (i / 64).toNat).getLsbD (i % 64).toNat
theorem zgc (s : GSet) (i : Int) : zaB s i = some (inS s i) := by
  unfold zaB inS zbb; by_cases h : 0 ≤ i ∧ i < 512
  · simp only [zaH]; rw [decide_eq_true h.1, decide_eq_true h.2]; simp only [Bool.and_self, cond_true]; rw [zbP ⟨h.1, by omega, by omega⟩, zbP ⟨by omega, by omega⟩, zbP ⟨h.1, by omega⟩, zbP ⟨by omega, by omega⟩, zgV, Bool.true_and]
  · have e : (decide (0 ≤ i) && decide (i < 512)) = false := by
      rw [Bool.and_eq_false_iff, decide_eq_false_iff_not, decide_eq_false_iff_not]; omega
    simp only [zaH]; rw [e]; rfl
def wS (v : Vec 8 (BitVec 64)) (n : Nat) : Bool := (Vec.get v (n / 64)).getLsbD (n % 64)
theorem zhi {v : Vec 8 (BitVec 64)} {j n : Nat} (hj : j < 512) : wS (Vec.put v (j / 64) (Vec.get v (j / 64) ||| ((1#64) <<< (j % 64)))) n = (wS v n || decide (n = j)) := by
  unfold wS; rw [Vec.get_put (by omega)]; by_cases h : n / 64 = j / 64
  · rw [if_pos h, BitVec.getLsbD_or, zg5 (by omega), h]
    congr 1
    by_cases h2 : n % 64 = j % 64
    · rw [decide_eq_true h2, decide_eq_true (by omega)]
    · rw [decide_eq_false h2, decide_eq_false (by omega)]
  · rw [if_neg h, decide_eq_false (by omega), Bool.or_false]
theorem zgs {l : List Int} {i : Nat} (hi : i < l.length) (q : Int → Bool) : (l.take (i + 1)).any q = ((l.take i).any q || q (nth l i)) := by
  rw [List.take_add_one, List.getElem?_eq_getElem hi, List.any_append, zaU hi]; simp
theorem of_x {l : List Int} (h : ∀ x ∈ l, 0 ≤ x ∧ x < 512) : ∃ s, zcu l = some (s, 0) ∧ ∀ i : Int, inS s i = ((decide (0 ≤ i) && decide (i < 512)) && l.any fun x => decide (x = i)) := by
  have hn : ∀ i, i < l.length → 0 ≤ nth l i ∧ nth l i < 512 := fun i hi => h _ (zcY hi); unfold zcu
  obtain ⟨h1, h2⟩ := zdB (k := fun s : Vec 8 (BitVec 64) × Vec 8 (BitVec 64) => (some (GSet.mk s.2, 0) : Option (GSet × Int))) (n := l.length) (s := (Vec.fill 8 (0#64), Vec.fill 8 (0#64)))
    (f := fun (i_7 : Nat) (next6 : (Vec 8 (BitVec 64) × Vec 8 (BitVec 64)) → Option (GSet × Int)) (s6 : Vec 8 (BitVec 64) × Vec 8 (BitVec 64)) =>
      (bif !(zbb (nth l i_7)) then
        some ((GSet.mk (Vec.fill 8 (0#64))), 2)
        else
        grd (0 ≤ (nth l i_7) ∧ (nth l i_7) ≤ 9223372036854775807 ∧ 1 ≤ (64 : Int)) <|
        grd (0 ≤ ((nth l i_7) / 64) ∧ ((nth l i_7) / 64) < (8 : Int)) <|
        grd (0 ≤ (nth l i_7) ∧ 1 ≤ (64 : Int)) <|
        grd (0 ≤ ((nth l i_7) % 64) ∧ ((nth l i_7) % 64) < (64 : Int)) <|
        next6 (s6.1, (Vec.put s6.2 (((nth l i_7) / 64).toNat) ((Vec.get s6.2 (((nth l i_7) / 64).toNat)) ||| ((1#64) <<< (((nth l i_7) % 64).toNat)))))))
    (fun i s => ∀ n, n < 512 → wS s.2 n = (l.take i).any fun x => decide (x = (n : Int)))
    (fun i s => (s.1, Vec.put s.2 ((nth l i).toNat / 64) (Vec.get s.2 ((nth l i).toNat / 64) ||| ((1#64) <<< ((nth l i).toNat % 64)))))
    (fun n hn => by
      unfold wS
      rw [Vec.get_fill (by omega)]; simp)
    (fun i s hi hs n hn2 => by
      have := hn i hi; rw [zhi (by omega), hs n hn2, zgs hi]
      congr 1
      by_cases e : nth l i = (n : Int)
      · rw [decide_eq_true e, decide_eq_true (by omega)]
      · rw [decide_eq_false e, decide_eq_false (by omega)])
    (fun i next s hi hs => by
      have := hn i hi
      have e : zbb (nth l i) = true := by
        unfold zbb; rw [decide_eq_true this.1, decide_eq_true this.2]; rfl
      rw [e, Bool.not_true, cond_false, zbP ⟨this.1, by omega, by omega⟩, zbP ⟨by omega, by omega⟩, zbP ⟨this.1, by omega⟩, zbP ⟨by omega, by omega⟩, show (nth l i / 64).toNat = (nth l i).toNat / 64 by omega, show (nth l i % 64).toNat = (nth l i).toNat % 64 by omega])
  refine ⟨_, h1, fun i => ?_⟩; unfold inS; by_cases hi : 0 ≤ i ∧ i < 512
  · rw [decide_eq_true hi.1, decide_eq_true hi.2, Bool.and_self, Bool.true_and, Bool.true_and]; have h3 := h2 i.toNat (by omega); rw [List.take_length] at h3; unfold wS at h3; rw [show (i / 64).toNat = i.toNat / 64 by omega, show (i % 64).toNat = i.toNat % 64 by omega]; refine h3.trans ?_; rw [show ((i.toNat : Nat) : Int) = i by omega]
  · have e : (decide (0 ≤ i) && decide (i < 512)) = false := by
      rw [Bool.and_eq_false_iff, decide_eq_false_iff_not, decide_eq_false_iff_not]; omega
    rw [e]; rfl
theorem zfU {p : GProblem} (hr : room p.Domains.length 8) (h : ∀ d ∈ p.Domains, 0 ≤ d.Station ∧ d.Station < 512) : ∃ s, zbQ p = some s ∧ ∀ i : Int, inS s i = ((decide (0 ≤ i) && decide (i < 512)) && p.Domains.any fun d => decide (d.Station = i)) := by
  obtain ⟨s, h1, h2⟩ := of_x (l := p.Domains.map (·.Station)) (fun x hx => by obtain ⟨d, hd, rfl⟩ := List.mem_map.1 hx; exact h d hd); refine ⟨s, ?_, fun i => by rw [h2 i, List.any_map]; rfl⟩; unfold zbQ; rw [zbP hr]
  have h3 := zdB (k := fun l : List Int => (zcu l).bind fun r28 => some r28.1) (n := p.Domains.length - 0) (s := List.replicate p.Domains.length (0 : Int))
    (f := fun (i_5 : Nat) (next4 : List Int → Option GSet) (l_3 : List Int) => grd (0 ≤ (i_5 : Int) ∧ (i_5 : Int) < (l_3.length : Int)) <| next4 (l_3.set i_5 ((nth p.Domains i_5).Station)))
    (fun i s => s.length = p.Domains.length ∧ ∀ k, k < i → nth s k = (nth p.Domains k).Station)
    (fun i s => s.set i (nth p.Domains i).Station)
    ⟨List.length_replicate .., fun k hk => by omega⟩
    (fun i s hi hs => ⟨by rw [List.length_set]; exact hs.1, fun k hk => by
      (have h4 : k < s.length := by have := hs.1; omega); rw [zaU (show k < (s.set i _).length by rw [List.length_set]; exact h4), List.getElem_set]; by_cases e : i = k
      · rw [if_pos e, e]
      · rw [if_neg e, ← zaU h4]; exact hs.2 k (by omega)⟩)
    (fun i next s hi hs => by rw [zbP ⟨by omega, by have := hs.1; omega⟩])
  refine h3.1.trans ?_
  have e : (List.range (p.Domains.length - 0)).foldl (fun s i => s.set i (nth p.Domains i).Station) (List.replicate p.Domains.length (0 : Int)) = p.Domains.map (·.Station) := by
    refine List.ext_getElem (by rw [h3.2.1, List.length_map]) fun k hk1 hk2 => ?_; (have hk : k < p.Domains.length := by rwa [List.length_map] at hk2); have h5 := h3.2.2 k (by omega); rw [zaU hk1, zaU hk] at h5; rw [h5, List.getElem_map]
  rw [e, h1]; rfl
theorem zgJ (a b : Int) : decide (0 ≤ zac a b) = !decide (a < b) := by
  rw [zgB]; unfold cmpc; rcases Int.lt_trichotomy a b with h | h | h
  · rw [decide_eq_true h]; rfl
  · subst h; rw [decide_eq_false (Int.lt_irrefl a)]; rfl
  · rw [decide_eq_false (show ¬ a < b by omega), decide_eq_true h]; rfl
theorem zee {α : Type} [Inhabited α] {l : List α} {q : α → Option Bool} {p : α → Bool} (h : ∀ x, q x = some (p x)) : zai (fun (i : Nat) (next : Unit → Option Bool) (_ : Unit) => (q (nth l i)).bind fun r => bif !r then some false else next ()) (fun _ => some true) (l.length - 0) 0 () = some (l.all p) := by
  rw [Nat.sub_zero, zbC (fun i => p (nth l i)) (z := some false) (fun i next h1 h2 => by rw [h]; show (bif !p (nth l i) then _ else _) = _; cases p (nth l i) <;> rfl), ← List.range_eq_range', zcV]
  cases l.all p <;> rfl
def okD (d : GDomain) : Bool := zaf d.Station && (d.Channels.all zao && adjB (fun a b => decide (a < b)) d.Channels)
def hasD (p : GProblem) (i : Int) : Bool := (decide (0 ≤ i) && decide (i < 512)) && p.Domains.any fun d => decide (d.Station = i)
def zfA (p : GProblem) : Bool := p.Rules.Pairs.all (fun c => hasD p c.A && hasD p c.B) && (p.Rules.Loads.all (fun c => hasD p c.To && hasD p c.From) && p.Rules.Caps.all (fun c => hasD p c.Station))
def incD (p : GProblem) : Bool := adjB (fun a b : GDomain => decide (a.Station < b.Station)) p.Domains
def okP (p : GProblem) : Bool := p.Domains.all okD && (zc4 p.Rules && (incD p && zfA p))
theorem zeT (d : GDomain) : zbw d = some (okD d) := by
  unfold zbw okD; have e1 : zbi d.Channels = d.Channels.all zao := zeB; have e2 : zbj d.Channels = some (adjB (fun a b => decide (a < b)) d.Channels) := zfY zgJ; rw [e1, e2]; simp only [zaH, Option.bind_some]
  cases zaf d.Station <;> cases d.Channels.all zao <;> rfl
theorem zd1 {n : Int} (h : zaf n = true) : 0 ≤ n ∧ n ≤ 511 := by
  unfold zaf zam at h; rw [Bool.and_eq_true, decide_eq_true_eq, decide_eq_true_eq] at h; exact h
theorem zgg {p : GProblem} (h : p.Domains.all okD = true) {d : GDomain} (hd : d ∈ p.Domains) : 0 ≤ d.Station ∧ d.Station < 512 := by
  have h1 := List.all_eq_true.1 h d hd; unfold okD at h1; have := zd1 ((Bool.and_eq_true _ _).mp h1).1; omega
theorem zge {p : GProblem} (h : p.Domains.all okD = true) (hi : incD p = true) : ∀ k, k < p.Domains.length → (k : Int) ≤ (nth p.Domains k).Station
  | 0, hk => (zgg h (zcY hk)).1
  | k + 1, hk => by
    have h1 := zge h hi k (by omega); have h2 := List.all_eq_true.1 hi (k + 1) (List.mem_range'_1.2 ⟨by omega, by omega⟩); have h3 := of_decide_eq_true h2; rw [show k + 1 - 1 = k from rfl] at h3; omega
theorem zeF {p : GProblem} (h : p.Domains.all okD = true) (hi : incD p = true) : p.Domains.length ≤ 512 := by
  rcases Nat.eq_zero_or_pos p.Domains.length with h0 | h0
  · omega
  · have h1 := zge h hi (p.Domains.length - 1) (by omega); have h2 := zgg h (zcY (show p.Domains.length - 1 < p.Domains.length by omega)); omega
theorem zg6 (p : GProblem) : zbO p = some (okP p) := by
  have e1 : zaF p.Domains = some (p.Domains.all okD) := zee zeT; have e2 : zaI p.Domains = some (incD p) := zfY (cmp := zbU) (fun a b => zgJ a.Station b.Station); unfold zbO okP; rw [e1, e2, ze8]; simp only [zaH, Option.bind_some]
  cases h1 : p.Domains.all okD
  · rfl
  cases zc4 p.Rules
  · rfl
  cases h2 : incD p
  · rfl
  obtain ⟨s, h3, h4⟩ := zfU (p := p) (by have := zeF h1 h2; unfold room; omega) (fun d hd => zgg h1 hd)
  have e3 : zaR p.Rules.Pairs s = some (p.Rules.Pairs.all fun c => hasD p c.A && hasD p c.B) := zee (q := fun c => zbT c s) (fun c => by
    unfold zbT; rw [zgc, zgc, h4, h4]
    show (bif hasD p c.A then some (hasD p c.B) else some false) = _
    cases hasD p c.A <;> rfl)
  have e4 : zaQ p.Rules.Loads s = some (p.Rules.Loads.all fun c => hasD p c.To && hasD p c.From) := zee (q := fun c => zbN c s) (fun c => by
    unfold zbN; rw [zgc, zgc, h4, h4]
    show (bif hasD p c.To then some (hasD p c.From) else some false) = _
    cases hasD p c.To <;> rfl)
  have e5 : zaS p.Rules.Caps s = some (p.Rules.Caps.all fun c => hasD p c.Station) := zee (q := fun c => zbS c s) (fun c => by
    unfold zbS
    rw [zgc, h4]; rfl)
  simp only [cond_false, Bool.not_true, h3, Option.bind_some, e3, e4, e5, Bool.true_and, cond_true]; unfold zfA
  cases p.Rules.Pairs.all fun c => hasD p c.A && hasD p c.B
  · rfl
  cases p.Rules.Loads.all fun c => hasD p c.To && hasD p c.From
  · rfl
  rfl
theorem zed {α : Type} {l : List α} {f g : α → Bool} (h : ∀ x ∈ l, f x = g x) : l.all f = l.all g := by
  induction l with
  | nil => rfl
  | cons x r ih => rw [List.all_cons, List.all_cons, h x (List.mem_cons_self ..), ih fun y hy => h y (List.mem_cons_of_mem _ hy)]
def anyD (p : GProblem) (s : Int) : Bool := p.Domains.any fun d => decide (d.Station = s)
theorem ze7 {p : GProblem} {s : Int} : decide (zbf p s < 0) = !anyD p s := by
  have key : ∀ m i, i + m = p.Domains.length → (decide (zai (fun (i : Nat) (next : Unit → Int) (_ : Unit) => bif decide ((nth p.Domains i).Station = s) then (i : Int) else next ()) (fun _ => (-1)) m i () < 0) = !((p.Domains.drop i).any fun d => decide (d.Station = s))) := by
    intro m
    induction m with
    | zero => intro i e; rw [List.drop_eq_nil_of_le (show p.Domains.length ≤ i by omega)]; rfl
    | succ m ih =>
      intro i e; have h2 := ih (i + 1) (by omega); rw [List.drop_eq_getElem_cons (show i < p.Domains.length by omega), List.any_cons, ← zaU (show i < p.Domains.length by omega)]
      show decide ((bif decide ((nth p.Domains i).Station = s) then (i : Int) else _) < 0) = _
      cases decide ((nth p.Domains i).Station = s) with
      | true => rw [cond_true, decide_eq_false (by omega)]; rfl
      | false => rw [cond_false, Bool.false_or]; exact h2
  have := key p.Domains.length 0 (by omega); rw [List.drop_zero] at this; exact this
def zfd (p : GProblem) : Bool := p.Rules.Pairs.all (fun c => anyD p c.A && anyD p c.B) && (p.Rules.Loads.all (fun c => anyD p c.To && anyD p c.From) && p.Rules.Caps.all (fun c => anyD p c.Station))
theorem zdF {p : GProblem} {s : Int} (h : zaf s = true) : anyD p s = hasD p s := by
  have := zd1 h; unfold anyD hasD; rw [decide_eq_true this.1, decide_eq_true (show s < 512 by omega)]; rfl
theorem zcm {a b : Bool} (h : (a && b) = true) : a = true := ((Bool.and_eq_true _ _).mp h).1
theorem zdu {a b : Bool} (h : (a && b) = true) : b = true := ((Bool.and_eq_true _ _).mp h).2
theorem zel {c : GPair} (h : zaJ c = true) : zaf c.A = true ∧ zaf c.B = true :=
  ⟨zcm (zcm (zcm (zcm h))), zdu (zcm (zcm (zcm h)))⟩
theorem zer {c : GLoad} (h : zaK c = true) : zaf c.To = true ∧ zaf c.From = true :=
  ⟨zcm (zcm (zcm (zcm h))), zdu (zcm (zcm (zcm h)))⟩
theorem zfG {c : GCap} (h : zaO c = true) : zaf c.Station = true := zcm (zcm h)
structure RulesGood (r : GRules) : Prop where
  np : r.Pairs.length ≤ 4096
  nl : r.Loads.length ≤ 1024
  nc : r.Caps.length ≤ 1024
  p : ∀ c ∈ r.Pairs, zaJ c = true
  l : ∀ c ∈ r.Loads, zaK c = true
  c : ∀ c ∈ r.Caps, zaO c = true
theorem zfp {r : GRules} (h : zc4 r = true) : RulesGood r := by
  unfold zc4 at h; have h1 := zdu h; have h2 := zdu h1; have h3 := zdu h2; have h4 := zdu h3; have h5 := zdu h4; have h6 := zdu h5; have h7 := zdu h6; have a1 := of_decide_eq_true (zcm h); have a2 := of_decide_eq_true (zcm h3); have a3 := of_decide_eq_true (zcm h6); exact ⟨by omega, by omega, by omega, List.all_eq_true.1 (zcm h1), List.all_eq_true.1 (zcm h4), List.all_eq_true.1 (zcm h7)⟩
theorem zgq {p : GProblem} (h : zc4 p.Rules = true) : zfd p = zfA p := by
  have hg := zfp h; (have e1 : (p.Rules.Pairs.all fun c => anyD p c.A && anyD p c.B) = p.Rules.Pairs.all fun c => hasD p c.A && hasD p c.B := zed fun c hc => by rw [zdF (zel (hg.p c hc)).1, zdF (zel (hg.p c hc)).2]); (have e2 : (p.Rules.Loads.all fun c => anyD p c.To && anyD p c.From) = p.Rules.Loads.all fun c => hasD p c.To && hasD p c.From := zed fun c hc => by rw [zdF (zer (hg.l c hc)).1, zdF (zer (hg.l c hc)).2]); have e3 : (p.Rules.Caps.all fun c => anyD p c.Station) = p.Rules.Caps.all fun c => hasD p c.Station := zed fun c hc => zdF (zfG (hg.c c hc)); unfold zfd zfA; rw [e1, e2, e3]
def okD2 (d : GDomain) : Bool := zaf d.Station && (decide ((d.Channels.length : Int) ≤ 50) && (d.Channels.all zao && adjB (fun a b => decide (a < b)) d.Channels))
theorem zg4 {n : Int} (h : zao n = true) : 2 ≤ n ∧ n ≤ 51 := by
  unfold zao zam at h; rw [Bool.and_eq_true, decide_eq_true_eq, decide_eq_true_eq] at h; exact h
theorem zgN {l : List Int} (h : l.all zao = true) (hi : adjB (fun a b => decide (a < b)) l = true) : ∀ k, k < l.length → (k : Int) + 2 ≤ nth l k
  | 0, hk => by have := zg4 (List.all_eq_true.1 h _ (zcY hk)); omega
  | k + 1, hk => by
    have h1 := zgN h hi k (by omega); have h2 := List.all_eq_true.1 hi (k + 1) (List.mem_range'_1.2 ⟨by omega, by omega⟩); have h3 := of_decide_eq_true h2; rw [show k + 1 - 1 = k from rfl] at h3; omega
theorem zgY (d : GDomain) : okD2 d = okD d := by
  unfold okD2 okD
  cases h1 : d.Channels.all zao
  · rw [Bool.false_and, Bool.and_false]
  cases h2 : adjB (fun a b => decide (a < b)) d.Channels
  · rw [Bool.and_false, Bool.and_false]
  have : d.Channels.length ≤ 50 := by
    rcases Nat.eq_zero_or_pos d.Channels.length with h0 | h0
    · omega
    · have a := zgN h1 h2 (d.Channels.length - 1) (by omega); have b := zg4 (List.all_eq_true.1 h1 _ (zcY (show d.Channels.length - 1 < d.Channels.length by omega))); omega
  rw [decide_eq_true (by omega)]; rfl
theorem chs_x {ρ : Type} {l : List Int} {n z : ρ} : zai (fun (k : Nat) (next : Unit → ρ) (_ : Unit) => bif (((decide (nth l k < 2)) || (decide (51 < nth l k))) || ((decide (0 < (k : Int))) && (decide (nth l k ≤ nth l (((k : Int) - 1).toNat))))) then z else next ()) (fun _ => n) (l.length - 0) 0 () = bif l.all zao && adjB (fun a b => decide (a < b)) l then n else z := by
  rw [zbC (fun k => zao (nth l k) && (bif decide (0 < (k : Int)) then decide (nth l (k - 1) < nth l k) else true)) (z := z) (fun i next h1 h2 => ?_), zdP l zao (fun a b => decide (a < b))]; rw [show ((i : Int) - 1).toNat = i - 1 by omega, zcP _ 2, zgl (nth l i) (nth l (i - 1)), zcP 51]; unfold zao zam
  cases decide (2 ≤ nth l i) <;> cases decide (nth l i ≤ 51) <;> cases decide (0 < (i : Int)) <;> cases decide (nth l (i - 1) < nth l i) <;> rfl
theorem zfJ (p : GProblem) : zcs p = some (okP p) := by
  unfold zcs
  show (bif decide (512 < (p.Domains.length : Int)) then some false else (zbq p.Rules).bind fun r => bif !r then some false else zai _ (fun _ => zai _ (fun _ => zai _ (fun _ => zai _ (fun _ => some true) (p.Rules.Caps.length - 0) 0 ()) (p.Rules.Loads.length - 0) 0 ()) (p.Rules.Pairs.length - 0) 0 ()) (p.Domains.length - 0) 0 ()) = _
  rw [zfK, Option.bind_some]; rw [zbC (n := p.Domains.length - 0) (fun i => okD2 (nth p.Domains i) && (bif decide (0 < (i : Int)) then decide ((nth p.Domains (i - 1)).Station < (nth p.Domains i).Station) else true)) (z := some false) (fun i next h1 h2 => ?_)]; rw [zbC (n := p.Rules.Pairs.length - 0) (fun i => anyD p (nth p.Rules.Pairs i).A && anyD p (nth p.Rules.Pairs i).B) (z := some false) (fun i next h1 h2 => ?_)]; rw [zbC (n := p.Rules.Loads.length - 0) (fun i => anyD p (nth p.Rules.Loads i).To && anyD p (nth p.Rules.Loads i).From) (z := some false) (fun i next h1 h2 => ?_)]; rw [zbC (n := p.Rules.Caps.length - 0) (fun i => anyD p (nth p.Rules.Caps i).Station) (z := some false) (fun i next h1 h2 => ?_)]
  · rw [zdP p.Domains okD2 (fun a b => decide (a.Station < b.Station)), Nat.sub_zero, Nat.sub_zero, Nat.sub_zero, ← List.range_eq_range', ← List.range_eq_range', ← List.range_eq_range',
      zcV (q := fun c : GPair => anyD p c.A && anyD p c.B), zcV (q := fun c : GLoad => anyD p c.To && anyD p c.From), zcV (q := fun c : GCap => anyD p c.Station), zed (fun d _ => zgY d)]
    have hl : ∀ x : Option Bool, (bif p.Rules.Pairs.all (fun c => anyD p c.A && anyD p c.B) then bif p.Rules.Loads.all (fun c => anyD p c.To && anyD p c.From) then bif p.Rules.Caps.all (fun c => anyD p c.Station) then some true else some false else some false else some false) = some (zfd p) := fun _ => by
      unfold zfd
      cases p.Rules.Pairs.all (fun c => anyD p c.A && anyD p c.B) <;> cases p.Rules.Loads.all (fun c => anyD p c.To && anyD p c.From) <;> cases p.Rules.Caps.all (fun c => anyD p c.Station) <;> rfl
    rw [hl none]; unfold okP
    show (bif decide (512 < (p.Domains.length : Int)) then some false else bif !zc4 p.Rules then some false else bif p.Domains.all okD && incD p then some (zfd p) else some false) = _
    cases h1 : zc4 p.Rules
    · cases p.Domains.all okD <;> cases decide (512 < (p.Domains.length : Int)) <;> rfl
    cases h2 : p.Domains.all okD
    · cases decide (512 < (p.Domains.length : Int)) <;> rfl
    cases h3 : incD p
    · cases decide (512 < (p.Domains.length : Int)) <;> rfl
    have := zeF h2 h3; rw [decide_eq_false (show ¬ 512 < (p.Domains.length : Int) by omega), zgq h1]; rfl
  · rw [ze7]; cases anyD p (nth p.Rules.Caps i).Station <;> rfl
  · rw [ze7, ze7]; cases anyD p (nth p.Rules.Loads i).To <;> cases anyD p (nth p.Rules.Loads i).From <;> rfl
  · rw [ze7, ze7]; cases anyD p (nth p.Rules.Pairs i).A <;> cases anyD p (nth p.Rules.Pairs i).B <;> rfl
  · rw [chs_x, show ((i : Int) - 1).toNat = i - 1 by omega, zcP 50, zgl (nth p.Domains i).Station]; unfold okD2
    show (bif ((!zaf (nth p.Domains i).Station || _) || _) then _ else _) = _
    cases zaf (nth p.Domains i).Station <;> cases decide (0 < (i : Int)) <;> cases decide ((nth p.Domains (i - 1)).Station < (nth p.Domains i).Station) <;> cases decide (((nth p.Domains i).Channels.length : Int) ≤ 50) <;> cases ((nth p.Domains i).Channels.all zao && adjB (fun a b => decide (a < b)) (nth p.Domains i).Channels) <;> rfl
section
variable {P : Program} {n : Nat} {B D : World} {M : Nat → Prop} {fs : SFs} {hs : HS} {o : Oper} {v : Value}
theorem K.slNil {Q : Exit → Act → World → Prop} {e : Exit} (t : TypeId) (size : Nat) (h : K n B D M Q e fs (.sl (.slice none 0 0) t size 0 [] :: hs)) : K n B D M Q e fs hs := ⟨fun a w ha hw hm => h.out a w ha (hw.slNil t size) hm⟩
theorem Yv.bt {x y : Operand} {t u : TypeId} {a b : BitVec 64} (ho : o.op = .binOp .xor t x y u) (hx : ev fs x = some (U a)) (hy : ev fs y = some (U b)) : Yv P n B M fs hs o (U (a ^^^ b)) := Yv.aZ (.inr (.inr (.inl ⟨rfl, rfl⟩))) ho hx hy
theorem Yv.bJ {x y : Operand} {t u : TypeId} {a b : BitVec 64} (ho : o.op = .binOp .rem t x y u) (hx : ev fs x = some (U a)) (hy : ev fs y = some (U b)) (hb : ¬ b = 0#64) : Yv P n B M fs hs o (U (a % b)) :=
  (Yv.remK (k := .u64) (a := (a.toNat : Int)) (b := (b.toNat : Int)) ho hx hy (fun h => hb (BitVec.eq_of_toNat_eq (Int.ofNat.inj h)))).eq (by
    show Value.int .u64 ((a.toNat : Int).tmod (b.toNat : Int)) = .int .u64 (((a % b).toNat : Nat) : Int)
    rw [Int.tmod_eq_emod_of_nonneg (Int.natCast_nonneg _), BitVec.toNat_umod]; rfl)
theorem zeU {fn : Func} {t u v x : Tmp} (h : fn.results = #[.tmp t, .tmp u, .tmp v, .tmp x]) (tmps : Array Value) (P : Program) (w : World) :
    (results fn tmps).run P w = .ok (.tuple #[tmps.getD t undef, tmps.getD u undef, tmps.getD v undef, tmps.getD x undef]) w := by
  simp [results, h]
theorem K.aW {D : World} {fn : Func} {R : Ending → World → Prop} {t u s q : Nat} {v x y z : Value} (hr : fn.results = #[.tmp t, .tmp u, .tmp s, .tmp q]) (hv : look fs t = some v) (hx : look fs u = some x) (hy : look fs s = some y) (hz : look fs q = some z) (h : ∀ w, Hp B M hs w → R (.returned (.tuple #[v, x, y, z])) w) : K n B D M (zea P fn R) .ret fs hs :=
  (K.aR (fun a w ha _ => by rw [zeU hr]; simp only [Array.getD_eq_getD_getElem?, ha.get t v hv, ha.get u x hx, ha.get s y hy, ha.get q z hz]; rfl) h).1
def zgO (v : Value) : Prop := ∃ A m c, v = .slice (some A) m c
theorem zgL {t e : TypeId} {w : World} {A : Option Addr} {m c : Nat} (hU : P.underlying t = some (.slice e)) : (Op.equal t (.slice A m c) (.slice none 0 0)).run P w = .ok A.isNone w := by
  unfold Op.equal; rw [show Op.maxDepth = Nat.succ 9999 from rfl]; unfold Op.equalIn
  cases A <;> simp [underlying, hU]
theorem Yv.bZ {x y : Operand} {t u e : TypeId} (hU : P.underlying t = some (.slice e)) (ho : o.op = .binOp .eql t x y u) (hx : ev fs x = some v) (hy : ev fs y = some (.slice none 0 0)) (hN : zgO v) : Yv P n B M fs hs o (.bool false) := fun f w ha _ => by
  obtain ⟨A, m, c, rfl⟩ := hN; unfold execOp; simp [ho, ha.ev hx, ha.ev hy, eqGuard, binOp, zgL hU]
theorem Yv.ca {x y : Operand} {t u e : TypeId} (hU : P.underlying t = some (.slice e)) (ho : o.op = .binOp .eql t x y u) (hx : ev fs x = some (.slice none 0 0)) (hy : ev fs y = some (.slice none 0 0)) : Yv P n B M fs hs o (.bool true) := fun f w ha _ => by
  unfold execOp; simp [ho, ha.ev hx, ha.ev hy, eqGuard, binOp, zgL hU]
theorem zbs (x : Ent) (a b : List Ent) : (x :: a) ++ b = x :: (a ++ b) := rfl
theorem zb2 (a : List Ent) : [] ++ a = a := rfl
def NilI {α : Type} (v : Value) (l : List α) : Prop := (l = [] ∧ v = .slice none 0 0) ∨ (l ≠ [] ∧ zgO v)
theorem NilI.nil {α : Type} : NilI (.slice none 0 0) ([] : List α) := .inl ⟨rfl, rfl⟩
theorem Yv.cc {α : Type} {l : List α} {x y : Operand} {t u e : TypeId} (hU : P.underlying t = some (.slice e)) (ho : o.op = .binOp .eql t x y u) (hx : ev fs x = some v) (hy : ev fs y = some (.slice none 0 0)) (hN : NilI v l) : Yv P n B M fs hs o (.bool l.isEmpty) := by
  rcases hN with ⟨rfl, rfl⟩ | ⟨h1, h2⟩
  · exact Yv.ca hU ho hx hy
  · have : l.isEmpty = false := by cases l with
      | nil => exact absurd rfl h1
      | cons a r => rfl
    rw [this]; exact Yv.bZ hU ho hx hy h2
theorem Hp.nilI {α : Type} {l : List α} {w : World} {sv : Value} {t : TypeId} {size k : Nat} {ls : List Value} (hw : Hp B M hs w) (i : Nat) (hi : hs[i]? = some (.sl sv t size k ls)) (hl : l ≠ []) (hk : 0 < k) : NilI sv l := by
  rcases (Ent.sl_ok.1 (hw.get hi)).2 with ⟨_, h0⟩ | ⟨g, cap, cur, rfl, _⟩
  · omega
  · exact .inr ⟨hl, _, _, _, rfl⟩
theorem K.nilI {D : World} {Q : Exit → Act → World → Prop} {e : Exit} {α : Type} {l : List α} {sv : Value} {t : TypeId} {size k : Nat} {ls : List Value} (i : Nat) (hi : hs[i]? = some (.sl sv t size k ls)) (hl : l ≠ []) (hk : 0 < k) (h : NilI sv l → K n B D M Q e fs hs) : K n B D M Q e fs hs := ⟨fun a w ha hw hm => (h (hw.nilI i hi hl hk)).out a w ha hw hm⟩
theorem T.nilI {F : Fence} {D : World} {Q : Exit → Act → World → Prop} {c : Code} {α : Type} {l : List α} {sv : Value} {t : TypeId} {size k : Nat} {ls : List Value} (i : Nat) (hi : hs[i]? = some (.sl sv t size k ls)) (hl : l ≠ []) (hk : 0 < k) (h : NilI sv l → T F P n B D M c Q fs hs) : T F P n B D M c Q fs hs := ⟨fun a w ha hw hm => (h (hw.nilI i hi hl hk)).out a w ha hw hm⟩
theorem Ew.ba {sv : Value} (j : Nat) {t e : TypeId} {q : Nat} [hT : TyA P t q] {x y : Operand} {p k k' size : Nat} {l m l' : List Value} {hs' : HS} [hv : OneCs m] (ho : o.op = .store t x y) (hx : ev fs x = some (zdk sv p)) (hy : ev fs y = some (.agg m.toArray))
    (hj : hs[j]? = some (.sl sv e size k l)) (hk : 0 < k) (hq : m.length = q) (hp : p + m.length ≤ l.length) (hl : l.take p ++ m ++ l.drop (p + m.length) = l') (hkk : k' = k) [hH : SetAt hs j (.sl sv e size k' l') hs'] : Ew P n B M fs hs o (fun v hs'' => v = undef ∧ hs'' = hs') := by
  subst hkk; exact Ew.bj j ho hx hy hj hk hq hp hl
end
def zcq (p : GProblem) (hints : List GChoice) : Option (List GChoice × Bool) :=
  zaH (fun (out_1 : List GChoice) =>
    some (out_1, true))
  (fun k2 =>
    zai (fun (i_5 : Nat) (next4 : List GChoice → Option (List GChoice × Bool)) (out_3 : List GChoice) =>
      (bif decide ((((nth p.Domains i_5).Channels).length : Int) = 0) then
        some ([], false)
        else
        zaH (fun (c_8 : Int) =>
          grd (room (out_3 ++ [(GChoice.mk ((nth p.Domains i_5).Station) c_8)]).length 16) <|
          next4 (out_3 ++ [(GChoice.mk ((nth p.Domains i_5).Station) c_8)]))
        (fun k9 =>
          (bif !(zbK ((nth p.Domains i_5).Channels) (zco hints ((nth p.Domains i_5).Station))) then
            grd (0 ≤ 0 ∧ 0 < (((nth p.Domains i_5).Channels).length : Int)) <|
            k9 (nth ((nth p.Domains i_5).Channels) 0)
            else
            k9 (zco hints ((nth p.Domains i_5).Station))))))
    (fun (out_3 : List GChoice) =>
      k2 out_3) (p.Domains.length - 0) 0 [])
theorem zeC (F0 : Frz) (w : World) (hF0 : F0.At w) (p : GProblem) (vp_0 : Value) (cp_0 : List (List Value)) (hp_0 : SlD GDomain.rep F0 vp_0 2 cp_0 p.Domains) (vp_1 : Value) (hp_1 : SlC F0 vp_1 5 (p.Rules.Pairs.map GPair.enc)) (vp_2 : Value) (hp_2 : SlC F0 vp_2 5 (p.Rules.Loads.map GLoad.enc)) (vp_3 : Value) (hp_3 : SlC F0 vp_3 4 (p.Rules.Caps.map GCap.enc)) (hints : List GChoice) (vhints : Value) (hhints : SlC F0 vhints 2 (hints.map GChoice.enc)) (r : List GChoice × Bool) (hr : zcq p hints = some r) : Calls Tryz.prog 18 #[.agg [vp_0, vp_1, vp_2, vp_3].toArray, vhints] w fun e w' => ∃ (y : Value) (G : Frz), (SlC G y 2 (r.1.map GChoice.enc)) ∧ e = .returned (.tuple #[y, .bool r.2]) ∧ Fx F0 w G w' := by
  have hk := hr; unfold zcq at hk; haveI := hp_0.1.oneC; haveI := hp_1.oneC; haveI := hp_2.oneC; haveI := hp_3.oneC; haveI := hhints.oneC; obtain ⟨S0, F1, rfl, hS0, hp0⟩ := zak hF0; refine zap Tryz.func18 rfl rfl rfl hp0 ?_; refine T.sr ?_; refine TL.e (Ew.az rfl rfl) ?_; rintro _ _ ⟨g2, rfl, rfl⟩; refine TL.run 2 rfl ?_; refine TL.nx ?_; refine TL.run 1 rfl ?_; refine TL.slNil 60 2 ?_; refine TL.ns (T.seq (T.sr ?_)); refine TL.run 1 rfl ?_; refine TL.ns ?_; have hq := zae hk; clear hk; obtain ⟨k2, hk2, hk⟩ := hq; (try dsimp only at hk); refine T.ae (ι := List GChoice × Value) (fun z => [(6, z.2)]) (fun z => [.sl z.2 60 2 z.1.length (z.1.flatMap GChoice.enc), .fr F1]) (fun z => k2 z.1 = some r ∧ OneC z.2) ?_ ?_
  · have hq := zaj hk; clear hk; obtain ⟨f4, kk4, hf4, hkk4, hk⟩ := hq; refine T.block ?_; refine T.loop (ι := Nat × List GChoice × Value) (fun z => [(1, vhints), (2, .pointer (some ⟨g2, 0, none⟩)), (6, z.2.2), (7, .int .i64 (z.1 : Int))]) (fun z => [.sl z.2.2 60 2 z.2.1.length (z.2.1.flatMap GChoice.enc), .row g2 29 [vp_0, vp_1, vp_2, vp_3], .fr F1]) (fun z => zai f4 kk4 (p.Domains.length - z.1) z.1 z.2.1 = some r ∧ OneC z.2.2) (fun z => p.Domains.length - z.1) (0, [], (.slice none 0 0)) ?_ ?_ ?_ ?_
    · exact ⟨hk, inferInstance⟩
    · exact (.c (.c (.c (.c .nil))))
    · exact List.Sublist.refl _
    · rintro ⟨i_5, out_3, vout_3⟩ ⟨hk, oout_3⟩; (try dsimp only at *); refine T.seq (T.sr ?_); refine TL.run 1 rfl ?_; refine TL.y (Yv.fieldAddr rfl rfl) ?_; refine TL.y (Yv.a 1 rfl rfl rfl rfl) ?_; refine TL.y (Yv.am rfl rfl hp_0.1 hp_0.2.1) ?_; have hm13 : p.Domains.length ≤ 9223372036854775807 := hp_0.2.1 ▸ hp_0.1.max; refine TL.run 1 rfl ?_; refine TL.ns ?_; refine T.cond rfl (fun h6 => ?_) (fun h6 => ?_)
      · have p6 := of_decide_eq_true h6; rw [zaq (by omega)] at hk; generalize hn4 : zai f4 kk4 (p.Domains.length - (i_5 + 1)) (i_5 + 1) = next4 at hk; rw [← hf4] at hk; (try dsimp only at hk); refine T.skip (K.seq (T.seq (T.block (T.sr ?_)))); refine TL.y (Yv.fieldAddr rfl rfl) ?_; refine TL.y (Yv.a 1 rfl rfl rfl rfl) ?_; refine TL.run 1 rfl ?_; refine TL.y (Yv.an (i := i_5) rfl rfl rfl hp_0.1 hp_0.2.1 rfl (by omega)) ?_; refine TL.y (Yv.aD 2 (i := i_5) (j := 0) rfl rfl rfl hp_0.1 hp_0.2.1 (by omega) rfl (GDomain.form (hp_0.2.2 i_5 (by omega))) rfl) ?_; have hd21_1 := (GDomain.c1 (hp_0.2.2 i_5 (by omega))).2; haveI := hd21_1.oneC; refine TL.e (Ew.alloc rfl) ?_; rintro _ _ ⟨g8, rfl, rfl⟩; refine TL.e0 (Ew.ak 0 rfl rfl rfl rfl rfl rfl) ?_; rintro _ _ ⟨rfl, rfl⟩; refine TL.ns (T.seq (T.sr ?_)); refine TL.y (Yv.fieldAddr rfl rfl) ?_; refine TL.y (Yv.a 0 rfl rfl rfl rfl) ?_; refine TL.y (Yv.am rfl rfl hd21_1 (List.length_map _)) ?_; have hm24 : ((nth p.Domains i_5).Channels).length ≤ 9223372036854775807 := (List.length_map _) ▸ hd21_1.max; refine TL.run 1 rfl ?_; refine TL.ns ?_; refine T.cond rfl (fun h7 => ?_) (fun h7 => ?_)
        · have p7 := of_decide_eq_true h7; replace hk := zaa hk h7; refine T.sr ?_; refine TL.run 2 rfl ?_; refine TL.ns (T.ret (K.ab (K.ag (K.ab (K.ab (K.ag (K.ab ?_))))))); obtain rfl := Option.some.inj hk; exact K.aE rfl rfl rfl (fun w' hw => ⟨(.slice none 0 0), F1.toFrz, (SlC.nil _ 2), rfl, Fx.of hw (i := 3) rfl hS0 (Frz.Le.refl _)⟩)
        · have p7 := of_decide_eq_false h7; replace hk := zab hk h7; refine T.skip (K.seq (T.sr ?_)); refine TL.run 1 rfl ?_; refine TL.y (Yv.fieldAddr rfl rfl) ?_; refine TL.y (Yv.a 0 rfl rfl rfl rfl) ?_; refine TL.e (Ew.ah rfl rfl rfl (fun w hw => zfI _ w (hw.fr (i := 3) rfl) hints vhints hhints ((nth p.Domains i_5).Station))) ?_; rintro _ _ ⟨rfl, rfl⟩; refine TL.run 1 rfl ?_; refine TL.ns (T.seq (T.sr ?_)); refine TL.y (Yv.fieldAddr rfl rfl) ?_; refine TL.y (Yv.a 0 rfl rfl rfl rfl) ?_; refine TL.run 1 rfl ?_; refine TL.e (Ew.ah rfl rfl rfl (fun w hw => zfk _ w (hw.fr (i := 3) rfl) ((nth p.Domains i_5).Channels) (nth (nth cp_0 i_5) 1) hd21_1 (zco hints ((nth p.Domains i_5).Station)))) ?_; rintro _ _ ⟨rfl, rfl⟩; refine TL.run 1 rfl ?_; refine TL.ns ?_; have hq := zae hk; clear hk; obtain ⟨k9, hk9, hk⟩ := hq; (try dsimp only at hk); refine T.ae (ι := Int) (fun z => [(1, vhints), (2, .pointer (some ⟨g2, 0, none⟩)), (6, vout_3), (7, .int .i64 (i_5 : Int)), (8, .pointer (some ⟨g8, 0, none⟩)), (9, .int .i64 z)]) (fun z => [.row g8 68 [.int .i64 ((nth p.Domains i_5).Station), (nth (nth cp_0 i_5) 1)], .sl vout_3 60 2 out_3.length (out_3.flatMap GChoice.enc), .row g2 29 [vp_0, vp_1, vp_2, vp_3], .fr F1]) (fun z => k9 z = some r) ?_ ?_
          · refine T.cond rfl (fun h10 => ?_) (fun h10 => ?_)
            · replace hk := zaa hk h10; have hq : (0 ≤ 0 ∧ 0 < (((nth p.Domains i_5).Channels).length : Int)) ∧ _ := zan hk; clear hk; obtain ⟨g37, hk⟩ := hq; (try dsimp only at hk); refine T.region ?_; refine TL.y (Yv.fieldAddr rfl rfl) ?_; refine TL.y (Yv.a 0 rfl rfl rfl rfl) ?_; refine TL.y (Yv.an (i := 0) rfl rfl rfl hd21_1 (List.length_map _) (show (0 : Int) = ((0 : Nat) : Int) from rfl) (by omega)) ?_; refine TL.y (Yv.as 3 (i := 0) (j := 0) rfl rfl rfl hd21_1 (by omega) rfl rfl) ?_; refine TL.run 1 rfl ?_; refine TL.nil ?_; exact K.af (nth ((nth p.Domains i_5).Channels) 0) hk (.c (.c (.c (.c (.c (.c .nil)))))) (List.Sublist.refl _)
            · replace hk := zab hk h10; refine T.skip ?_; exact K.af (zco hints ((nth p.Domains i_5).Station)) hk (.c (.c (.c (.c (.c (.c .nil)))))) (List.Sublist.refl _)
          · rintro c_8 hk; rw [← hk9] at hk; (try dsimp only at hk); have hq : (room (out_3 ++ [(GChoice.mk ((nth p.Domains i_5).Station) c_8)]).length 16) ∧ _ := zan hk; clear hk; obtain ⟨g45, hk⟩ := hq; (try dsimp only at hk); refine T.region ?_; refine TL.run 1 rfl ?_; refine TL.y (Yv.fieldAddr rfl rfl) ?_; refine TL.y (Yv.a 0 rfl rfl rfl rfl) ?_; refine TL.run 1 rfl ?_; refine TL.y (Yv.build rfl rfl) ?_; refine TL.e (Ew.buildSlice rfl rfl rfl (by decide)) ?_; rintro _ _ ⟨g44, rfl, rfl⟩; refine TL.e (Ew.aw 2 0 rfl rfl rfl rfl rfl rfl (zbr (ys := [(GChoice.mk ((nth p.Domains i_5).Station) c_8)]) rfl) (zba (enc := GChoice.enc) (xs := out_3) (ys := [(GChoice.mk ((nth p.Domains i_5).Station) c_8)])) g45 (by decide)) ?_; rintro v45 _ ⟨hv45, rfl⟩; refine TL.run 1 rfl ?_; refine TL.nil (K.ac (K.seq (T.region ?_))); refine TL.run 1 rfl ?_; refine TL.y (Yv.ao rfl rfl rfl (by omega)) ?_; refine TL.run 1 rfl ?_; refine TL.nil ?_; rw [← hn4] at hk; refine K.pick [2, 3, 4] rfl (by decide) ?_; exact K.next ((i_5 + 1), (out_3 ++ [(GChoice.mk ((nth p.Domains i_5).Station) c_8)]), v45) ⟨hk, inferInstance⟩ (by dsimp only; omega) (.c (.c (.c (.c .nil)))) (List.Sublist.refl _)
      · have p6 := of_decide_eq_false h6; rw [zar (by omega), ← hkk4] at hk; (try dsimp only at hk); refine T.exit (K.aa (K.aa (K.ad ?_))); refine K.pick [0, 2] rfl (by decide) ?_; exact K.af (out_3, vout_3) ⟨hk, inferInstance⟩ (.c .nil) (List.Sublist.refl _)
  · rintro ⟨out_1, vout_1⟩ ⟨hk, oout_1⟩; (try dsimp only at *); rw [← hk2] at hk; (try dsimp only at hk); refine T.sr ?_; refine TL.run 3 rfl ?_; refine TL.ns (T.ret ?_); refine K.av (fun w hw => hw.freezeS (i := 1) (j := 0) (by decide) rfl rfl) ?_; rintro F2 ⟨le1_2, hz2⟩; dsimp only [List.set, List.eraseIdx]; have hf2 := hz2.toF rfl GChoice.len; haveI := hf2.oneC; obtain rfl := Option.some.inj hk; exact K.aE rfl rfl rfl (fun w' hw => ⟨vout_1, F2.toFrz, hf2, rfl, Fx.of hw (i := 0) rfl hS0 le1_2⟩)
end Go.Proofs.YtnhdlloidbomdaaGreat
