/- Yp Ca Pa Pg Pi Pj Kn Ye Sh: shortened and put together by squeeze.py. -/
import Derived.Test.YtnhdlloidbomdaaGreatQ04
import Derived.Shelf.Small.Bits
import Derived.Shelf.Small.Wraps
import Derived.Shelf.Sort.Plain
import Derived.Ground.Names2Prog
import Derived.Shelf.Slices.CompactI
import Derived.Shelf.Slices.In.SortNone
import Derived.Test.YtnhdlloidbomdaaGreatProg
set_option maxRecDepth 100000
set_option maxHeartbeats 4000000
set_option linter.unusedVariables false
set_option linter.unusedSectionVars false
set_option linter.unusedSimpArgs false
namespace Go.Proofs.YtnhdlloidbomdaaGreat
open Go.RowKit
def zar (c : Int) : Bool :=
  (zan c 2 51)
theorem zdK (F0 : Frz) (w : World) (hF0 : F0.At w) (c : Int) : Calls Tryz.prog 84 #[.int .i64 c] w fun e w' => e = .returned (.bool (zar c)) ∧ Below w.heap.size w w' := by
  obtain ⟨r, hk⟩ : ∃ r, zar c = r := ⟨_, rfl⟩; rw [hk]; unfold zar at hk; obtain ⟨S0, F1, rfl, hS0, hp0⟩ := zam hF0; refine zap Tryz.func84 rfl rfl rfl hp0 ?_; refine T.sr ?_; refine TL.run 1 rfl ?_; refine TL.nx ?_; refine TL.run 1 rfl ?_; refine TL.e (Ew.ag rfl rfl rfl (fun w hw => zbQ _ w (hw.fr (i := 0) rfl) c 2 51)) ?_; rintro _ _ ⟨rfl, rfl⟩; refine TL.run 1 rfl ?_; refine TL.ns (T.ret ?_); subst hk; exact K.ai rfl rfl (fun w' hw => ⟨rfl, hw.isBelow⟩)
def zbw (l : List Int) : Bool :=
  zaI (fun (_ : Unit) =>
    true)
  (fun k1 =>
    zai (fun (i_3 : Nat) (next2 : Unit → Bool) (_ : Unit) =>
      (bif !(zar (nth l i_3)) then
        false
        else
        next2 ()))
    (fun (_ : Unit) =>
      k1 ()) (l.length - 0) 0 ())
theorem zdz (F0 : Frz) (w : World) (hF0 : F0.At w) (l : List Int) (vl : Value) (hl : SlC F0 vl 1 (l.map eI)) : Calls Tryz.prog 85 #[vl, .func (.func 84) #[] #[]] w fun e w' => e = .returned (.bool (zbw l)) ∧ Below w.heap.size w w' := by
  obtain ⟨r, hk⟩ : ∃ r, zbw l = r := ⟨_, rfl⟩; rw [hk]; unfold zbw at hk; haveI := hl.oneC; obtain ⟨S0, F1, rfl, hS0, hp0⟩ := zam hF0; refine zap Tryz.func85 rfl rfl rfl hp0 ?_; refine T.sr ?_; refine TL.run 1 rfl ?_; refine TL.ns (T.seq (T.sr ?_)); refine TL.run 1 rfl ?_; refine TL.y (Yv.an rfl rfl hl (List.length_map _)) ?_; have hm8 : l.length ≤ 9223372036854775807 := (List.length_map _) ▸ hl.max; refine TL.run 1 rfl ?_; refine TL.ns ?_; have hq := zag hk; clear hk; obtain ⟨k1, hk1, hk⟩ := hq; (try dsimp only at hk); refine T.af (ι := Unit) (fun z => []) (fun z => [.fr F1]) (fun z => k1 () = r) ?_ ?_
  · have hq := zak hk; clear hk; obtain ⟨f2, kk2, hf2, hkk2, hk⟩ := hq; refine T.block ?_; refine T.loop (ι := Nat) (fun z => [(1, .func (.func 84) #[] #[]), (7, vl), (8, .int .i64 (l.length : Int)), (9, .int .i64 (z : Int))]) (fun z => [.fr F1]) (fun z => zai f2 kk2 (l.length - z) z () = r) (fun z => l.length - z) 0 ?_ ?_ ?_ ?_
    · exact hk
    · exact (.c (.c (.c (.c .nil))))
    · exact List.Sublist.refl _
    · rintro i_3 hk; refine T.sr ?_; refine TL.run 1 rfl ?_; refine TL.ns (T.seq ?_); refine T.cond rfl (fun h4 => ?_) (fun h4 => ?_)
      · have p4 := of_decide_eq_true h4; rw [zat (by omega)] at hk; generalize hn2 : zai f2 kk2 (l.length - (i_3 + 1)) (i_3 + 1) = next2 at hk; rw [← hf2] at hk; (try dsimp only at hk); refine T.skip (K.seq (T.seq (T.block (T.sr ?_)))); refine TL.y (Yv.am (i := i_3) rfl rfl rfl hl (List.length_map _) rfl (by omega)) ?_; refine TL.y (Yv.as 0 (i := i_3) (j := 0) rfl rfl rfl hl (by omega) rfl rfl) ?_; refine TL.run 1 rfl ?_; refine TL.nx ?_; refine TL.run 2 rfl ?_; refine TL.e (Ew.ag rfl rfl rfl (fun w hw => zdK _ w (hw.fr (i := 0) rfl) (nth l i_3))) ?_; rintro _ _ ⟨rfl, rfl⟩; refine TL.run 1 rfl ?_; refine TL.ns ?_; refine T.cond rfl (fun h5 => ?_) (fun h5 => ?_)
        · replace hk := zaa hk h5; refine T.sr ?_; refine TL.run 1 rfl ?_; refine TL.ns (T.ret (K.ah (K.ab (K.ab (K.ah (K.ab ?_)))))); subst hk; exact K.ai rfl rfl (fun w' hw => ⟨rfl, hw.isBelow⟩)
        · replace hk := zab hk h5; refine T.skip (K.ac (K.seq (T.region ?_))); refine TL.y (Yv.ao rfl rfl rfl (by omega)) ?_; refine TL.run 1 rfl ?_; refine TL.nil ?_; rw [← hn2] at hk; exact K.next (i_3 + 1) hk (by omega) (.c (.c (.c (.c .nil)))) (List.Sublist.refl _)
      · have p4 := of_decide_eq_false h4; rw [zas (by omega), ← hkk2] at hk; (try dsimp only at hk); refine T.exit (K.aa (K.aa (K.ad ?_))); exact K.ae () hk .nil (List.Sublist.refl _)
  · rintro _ hk; rw [← hk1] at hk; (try dsimp only at hk); refine T.sr ?_; refine TL.run 1 rfl ?_; refine TL.ns (T.ret ?_); subst hk; exact K.ai rfl rfl (fun w' hw => ⟨rfl, hw.isBelow⟩)
def zbv (l : List Int) : Option Bool :=
  zaI (fun (_ : Unit) =>
    some true)
  (fun k1 =>
    zai (fun (i_3 : Nat) (next2 : Unit → Option Bool) (_ : Unit) =>
      grd (0 ≤ ((i_3 : Int) - 1) ∧ ((i_3 : Int) - 1) < (l.length : Int)) <|
      (bif decide (0 ≤ (zac (nth l (((i_3 : Int) - 1).toNat)) (nth l i_3))) then
        some false
        else
        next2 ()))
    (fun (_ : Unit) =>
      k1 ()) (l.length - 1) 1 ())
theorem zc9 (F0 : Frz) (w : World) (hF0 : F0.At w) (l : List Int) (vl : Value) (hl : SlC F0 vl 1 (l.map eI)) (r : Bool) (hr : zbv l = some r) : Calls Tryz.prog 86 #[vl, .func (.func 65) #[] #[]] w fun e w' => e = .returned (.bool r) ∧ Below w.heap.size w w' := by
  have hk := hr; unfold zbv at hk; haveI := hl.oneC; obtain ⟨S0, F1, rfl, hS0, hp0⟩ := zam hF0; refine zap Tryz.func86 rfl rfl rfl hp0 ?_; refine T.sr ?_; refine TL.run 1 rfl ?_; refine TL.ns (T.seq (T.sr ?_)); refine TL.run 1 rfl ?_; refine TL.ns ?_; have hq := zag hk; clear hk; obtain ⟨k1, hk1, hk⟩ := hq; (try dsimp only at hk); refine T.af (ι := Unit) (fun z => []) (fun z => [.fr F1]) (fun z => k1 () = some r) ?_ ?_
  · have hq := zak hk; clear hk; obtain ⟨f2, kk2, hf2, hkk2, hk⟩ := hq; refine T.block ?_; refine T.loop (ι := Nat) (fun z => [(0, vl), (1, .func (.func 65) #[] #[]), (5, .int .i64 (z : Int))]) (fun z => [.fr F1]) (fun z => zai f2 kk2 (l.length - z) z () = some r) (fun z => l.length - z) 1 ?_ ?_ ?_ ?_
    · exact hk
    · exact (.c (.c (.c .nil)))
    · exact List.Sublist.refl _
    · rintro i_3 hk; refine T.seq (T.sr ?_); refine TL.run 2 rfl ?_; refine TL.y (Yv.an rfl rfl hl (List.length_map _)) ?_; have hm8 : l.length ≤ 9223372036854775807 := (List.length_map _) ▸ hl.max; refine TL.run 1 rfl ?_; refine TL.ns ?_; refine T.cond rfl (fun h4 => ?_) (fun h4 => ?_)
      · have p4 := of_decide_eq_true h4; rw [zat (by omega)] at hk; generalize hn2 : zai f2 kk2 (l.length - (i_3 + 1)) (i_3 + 1) = next2 at hk; rw [← hf2] at hk; (try dsimp only at hk); refine T.skip (K.seq (T.seq (T.block (T.seq ?_)))); have hq : (0 ≤ ((i_3 : Int) - 1) ∧ ((i_3 : Int) - 1) < (l.length : Int)) ∧ _ := zaq hk; clear hk; obtain ⟨g16, hk⟩ := hq; (try dsimp only at hk); refine T.aw (.still 0 (.still 1 (.still 2 (.still 3 (.still 4 (.still 5 (.still 6 (.still 7 (.still 8 (.still 9 (.eff 10 (.still 11 .done)))))))))))) _ (by kernel_rfl) (List.Sublist.refl _) ?_; refine TS.run 3 rfl ?_; refine TS.y rfl (Yv.aL rfl rfl rfl (by omega)) ?_; refine TS.y rfl (Yv.am (i := ((i_3 : Int) - 1).toNat) rfl rfl rfl hl (List.length_map _) (by omega) (by omega)) ?_; refine TS.y rfl (Yv.as 0 (i := ((i_3 : Int) - 1).toNat) (j := 0) rfl rfl rfl hl (by omega) rfl rfl) ?_; refine TS.run 2 rfl ?_; refine TS.y rfl (Yv.am (i := i_3) rfl rfl rfl hl (List.length_map _) rfl (by omega)) ?_; refine TS.y rfl (Yv.as 0 (i := i_3) (j := 0) rfl rfl rfl hl (by omega) rfl rfl) ?_; refine TS.eff ?_; refine TSo.ar rfl (Wt.none rfl) rfl rfl (Ew.ag rfl rfl rfl (fun w hw => zaB _ w (hw.fr (i := 0) rfl) (nth l (((i_3 : Int) - 1).toNat)) (nth l i_3))) ?_; rintro _ _ ⟨rfl, rfl⟩; refine ⟨(fun w hw => hw.sub Sx), ?_⟩; refine TS.run 1 rfl ?_; refine TS.done ?_; refine K.seq ?_; refine T.cond rfl (fun h5 => ?_) (fun h5 => ?_)
        · have p5 := of_decide_eq_true h5; replace hk := zaa hk h5; refine T.sr ?_; refine TL.run 1 rfl ?_; refine TL.ns (T.ret (K.ah (K.ab (K.ab (K.ah (K.ab ?_)))))); obtain rfl := Option.some.inj hk; exact K.ai rfl rfl (fun w' hw => ⟨rfl, hw.isBelow⟩)
        · have p5 := of_decide_eq_false h5; replace hk := zab hk h5; refine T.skip (K.ac (K.seq (T.region ?_))); refine TL.run 1 rfl ?_; refine TL.y (Yv.ao rfl rfl rfl (by omega)) ?_; refine TL.run 1 rfl ?_; refine TL.nil ?_; rw [← hn2] at hk; exact K.next (i_3 + 1) hk (by omega) (.c (.c (.c .nil))) (List.Sublist.refl _)
      · have p4 := of_decide_eq_false h4; rw [zas (by omega), ← hkk2] at hk; (try dsimp only at hk); refine T.exit (K.aa (K.aa (K.ad ?_))); exact K.ae () hk .nil (List.Sublist.refl _)
  · rintro _ hk; rw [← hk1] at hk; (try dsimp only at hk); refine T.sr ?_; refine TL.run 1 rfl ?_; refine TL.ns (T.ret ?_); obtain rfl := Option.some.inj hk; exact K.ai rfl rfl (fun w' hw => ⟨rfl, hw.isBelow⟩)
def zbL (d : GDomain) : Option Bool :=
  zaI (fun (x_1 : Bool) =>
    some x_1)
  (fun k2 =>
    (bif (zah d.Station) then
      (bif (zbw d.Channels) then
        (zbv d.Channels).bind fun r16 =>
        k2 r16
        else
        k2 false)
      else
      k2 false))
theorem zea (F0 : Frz) (w : World) (hF0 : F0.At w) (d : GDomain) (vd_1 : Value) (hd_1 : SlC F0 vd_1 1 (d.Channels.map eI)) (r : Bool) (hr : zbL d = some r) : Calls Tryz.prog 62 #[.agg [.int .i64 d.Station, vd_1].toArray] w fun e w' => e = .returned (.bool r) ∧ Below w.heap.size w w' := by
  have hk := hr; unfold zbL at hk; haveI := hd_1.oneC; obtain ⟨S0, F1, rfl, hS0, hp0⟩ := zam hF0; refine zap Tryz.func62 rfl rfl rfl hp0 ?_; refine T.sr ?_; refine TL.e (Ew.az rfl rfl) ?_; rintro _ _ ⟨g1, rfl, rfl⟩; refine TL.run 1 rfl ?_; refine TL.nx ?_; refine TL.run 1 rfl ?_; refine TL.ns (T.seq ?_); (try dsimp only at hk); have hq := zag hk; clear hk; obtain ⟨k2, hk2, hk⟩ := hq; (try dsimp only at hk); refine T.af (ι := Bool) (fun z => [(2, .bool z)]) (fun z => [.fr F1]) (fun z => k2 z = some r) ?_ ?_
  · refine T.region ?_; refine TL.y (Yv.fieldAddr rfl rfl) ?_; refine TL.y (Yv.a 0 rfl rfl rfl rfl) ?_; refine TL.e (Ew.ag rfl rfl rfl (fun w hw => zbo _ w (hw.fr (i := 1) rfl) d.Station)) ?_; rintro _ _ ⟨rfl, rfl⟩; refine TL.run 1 rfl ?_; refine TL.gs rfl rfl rfl (fun h3 => ?_) (fun h3 => ?_)
    · replace hk := zaa hk h3; refine TL.y (Yv.fieldAddr rfl rfl) ?_; refine TL.y (Yv.a 0 rfl rfl rfl rfl) ?_; refine TL.run 1 rfl ?_; refine TL.e (Ew.ag rfl rfl rfl (fun w hw => zdz _ w (hw.fr (i := 1) rfl) d.Channels vd_1 hd_1)) ?_; rintro _ _ ⟨rfl, rfl⟩; refine TL.run 2 rfl ?_; refine TL.gs rfl rfl rfl (fun h4 => ?_) (fun h4 => ?_)
      · replace hk := zaa hk h4; refine TL.y (Yv.fieldAddr rfl rfl) ?_; refine TL.y (Yv.a 0 rfl rfl rfl rfl) ?_; have hq := zal hk; clear hk; obtain ⟨r16, hr16, hk⟩ := hq; refine TL.e (Ew.ag rfl rfl rfl (fun w hw => zc9 _ w (hw.fr (i := 1) rfl) d.Channels vd_1 hd_1 r16 hr16)) ?_; rintro _ _ ⟨rfl, rfl⟩; refine TL.run 2 rfl ?_; refine TL.nil ?_; refine K.pick [1] rfl (by decide) ?_; exact K.ae r16 hk (.c .nil) (List.Sublist.refl _)
      · replace hk := zab hk h4; refine TL.run 5 rfl ?_; refine TL.nil ?_; refine K.pick [1] rfl (by decide) ?_; exact K.ae false hk (.c .nil) (List.Sublist.refl _)
    · replace hk := zab hk h3; refine TL.run 11 rfl ?_; refine TL.nil ?_; refine K.pick [1] rfl (by decide) ?_; exact K.ae false hk (.c .nil) (List.Sublist.refl _)
  · rintro x_1 hk; rw [← hk2] at hk; (try dsimp only at hk); refine T.ret ?_; obtain rfl := Option.some.inj hk; exact K.ai rfl rfl (fun w' hw => ⟨rfl, hw.isBelow⟩)
def zaG (l : List GPair) : Bool :=
  zaI (fun (_ : Unit) =>
    true)
  (fun k1 =>
    zai (fun (i_3 : Nat) (next2 : Unit → Bool) (_ : Unit) =>
      (bif !(za3 (nth l i_3)) then
        false
        else
        next2 ()))
    (fun (_ : Unit) =>
      k1 ()) (l.length - 0) 0 ())
theorem zcg (F0 : Frz) (w : World) (hF0 : F0.At w) (l : List GPair) (vl : Value) (hl : SlC F0 vl 5 (l.map GPair.enc)) : Calls Tryz.prog 68 #[vl, .func (.func 87) #[] #[]] w fun e w' => e = .returned (.bool (zaG l)) ∧ Below w.heap.size w w' := by
  obtain ⟨r, hk⟩ : ∃ r, zaG l = r := ⟨_, rfl⟩; rw [hk]; unfold zaG at hk; haveI := hl.oneC; obtain ⟨S0, F1, rfl, hS0, hp0⟩ := zam hF0; refine zap Tryz.func68 rfl rfl rfl hp0 ?_; refine T.sr ?_; refine TL.run 1 rfl ?_; refine TL.ns (T.seq (T.sr ?_)); refine TL.run 1 rfl ?_; refine TL.y (Yv.an rfl rfl hl (List.length_map _)) ?_; have hm8 : l.length ≤ 9223372036854775807 := (List.length_map _) ▸ hl.max; refine TL.run 1 rfl ?_; refine TL.ns ?_; have hq := zag hk; clear hk; obtain ⟨k1, hk1, hk⟩ := hq; (try dsimp only at hk); refine T.af (ι := Unit) (fun z => []) (fun z => [.fr F1]) (fun z => k1 () = r) ?_ ?_
  · have hq := zak hk; clear hk; obtain ⟨f2, kk2, hf2, hkk2, hk⟩ := hq; refine T.block ?_; refine T.loop (ι := Nat) (fun z => [(1, .func (.func 87) #[] #[]), (7, vl), (8, .int .i64 (l.length : Int)), (9, .int .i64 (z : Int))]) (fun z => [.fr F1]) (fun z => zai f2 kk2 (l.length - z) z () = r) (fun z => l.length - z) 0 ?_ ?_ ?_ ?_
    · exact hk
    · exact (.c (.c (.c (.c .nil))))
    · exact List.Sublist.refl _
    · rintro i_3 hk; refine T.sr ?_; refine TL.run 1 rfl ?_; refine TL.ns (T.seq ?_); refine T.cond rfl (fun h4 => ?_) (fun h4 => ?_)
      · have p4 := of_decide_eq_true h4; rw [zat (by omega)] at hk; generalize hn2 : zai f2 kk2 (l.length - (i_3 + 1)) (i_3 + 1) = next2 at hk; rw [← hf2] at hk; (try dsimp only at hk); refine T.skip (K.seq (T.seq (T.block (T.sr ?_)))); refine TL.y (Yv.am (i := i_3) rfl rfl rfl hl (List.length_map _) rfl (by omega)) ?_; refine TL.y (Yv.aq 0 (i := i_3) rfl rfl rfl hl (by omega) rfl rfl rfl) ?_; refine TL.e (Ew.alloc rfl) ?_; rintro _ _ ⟨g6, rfl, rfl⟩; refine TL.e0 (Ew.ak 0 rfl rfl rfl rfl rfl rfl) ?_; rintro _ _ ⟨rfl, rfl⟩; refine TL.nx ?_; refine TL.run 1 rfl ?_; refine TL.y (Yv.aj 0 rfl rfl rfl rfl) ?_; refine TL.e (Ew.ag rfl rfl rfl (fun w hw => zeu _ w (hw.fr (i := 1) rfl) (nth l i_3))) ?_; rintro _ _ ⟨rfl, rfl⟩; refine TL.run 1 rfl ?_; refine TL.ns ?_; refine T.cond rfl (fun h5 => ?_) (fun h5 => ?_)
        · replace hk := zaa hk h5; refine T.sr ?_; refine TL.run 1 rfl ?_; refine TL.ns (T.ret (K.ah (K.ab (K.ab (K.ah (K.ab ?_)))))); subst hk; exact K.ai rfl rfl (fun w' hw => ⟨rfl, hw.isBelow⟩)
        · replace hk := zab hk h5; refine T.skip (K.ac (K.seq (T.region ?_))); refine TL.y (Yv.ao rfl rfl rfl (by omega)) ?_; refine TL.run 1 rfl ?_; refine TL.nil ?_; rw [← hn2] at hk; refine K.pick [1] rfl (by decide) ?_; exact K.next (i_3 + 1) hk (by omega) (.c (.c (.c (.c .nil)))) (List.Sublist.refl _)
      · have p4 := of_decide_eq_false h4; rw [zas (by omega), ← hkk2] at hk; (try dsimp only at hk); refine T.exit (K.aa (K.aa (K.ad ?_))); exact K.ae () hk .nil (List.Sublist.refl _)
  · rintro _ hk; rw [← hk1] at hk; (try dsimp only at hk); refine T.sr ?_; refine TL.run 1 rfl ?_; refine TL.ns (T.ret ?_); subst hk; exact K.ai rfl rfl (fun w' hw => ⟨rfl, hw.isBelow⟩)
def zaE (l : List GPair) : Option Bool :=
  zaI (fun (_ : Unit) =>
    some true)
  (fun k1 =>
    zai (fun (i_3 : Nat) (next2 : Unit → Option Bool) (_ : Unit) =>
      grd (0 ≤ ((i_3 : Int) - 1) ∧ ((i_3 : Int) - 1) < (l.length : Int)) <|
      (bif decide (0 ≤ (zbj (nth l (((i_3 : Int) - 1).toNat)) (nth l i_3))) then
        some false
        else
        next2 ()))
    (fun (_ : Unit) =>
      k1 ()) (l.length - 1) 1 ())
theorem zbO (F0 : Frz) (w : World) (hF0 : F0.At w) (l : List GPair) (vl : Value) (hl : SlC F0 vl 5 (l.map GPair.enc)) (r : Bool) (hr : zaE l = some r) : Calls Tryz.prog 88 #[vl, .func (.func 89) #[] #[]] w fun e w' => e = .returned (.bool r) ∧ Below w.heap.size w w' := by
  have hk := hr; unfold zaE at hk; haveI := hl.oneC; obtain ⟨S0, F1, rfl, hS0, hp0⟩ := zam hF0; refine zap Tryz.func88 rfl rfl rfl hp0 ?_; refine T.sr ?_; refine TL.run 1 rfl ?_; refine TL.ns (T.seq (T.sr ?_)); refine TL.run 1 rfl ?_; refine TL.ns ?_; have hq := zag hk; clear hk; obtain ⟨k1, hk1, hk⟩ := hq; (try dsimp only at hk); refine T.af (ι := Unit) (fun z => []) (fun z => [.fr F1]) (fun z => k1 () = some r) ?_ ?_
  · have hq := zak hk; clear hk; obtain ⟨f2, kk2, hf2, hkk2, hk⟩ := hq; refine T.block ?_; refine T.loop (ι := Nat) (fun z => [(0, vl), (1, .func (.func 89) #[] #[]), (5, .int .i64 (z : Int))]) (fun z => [.fr F1]) (fun z => zai f2 kk2 (l.length - z) z () = some r) (fun z => l.length - z) 1 ?_ ?_ ?_ ?_
    · exact hk
    · exact (.c (.c (.c .nil)))
    · exact List.Sublist.refl _
    · rintro i_3 hk; refine T.seq (T.sr ?_); refine TL.run 2 rfl ?_; refine TL.y (Yv.an rfl rfl hl (List.length_map _)) ?_; have hm8 : l.length ≤ 9223372036854775807 := (List.length_map _) ▸ hl.max; refine TL.run 1 rfl ?_; refine TL.ns ?_; refine T.cond rfl (fun h4 => ?_) (fun h4 => ?_)
      · have p4 := of_decide_eq_true h4; rw [zat (by omega)] at hk; generalize hn2 : zai f2 kk2 (l.length - (i_3 + 1)) (i_3 + 1) = next2 at hk; rw [← hf2] at hk; (try dsimp only at hk); refine T.skip (K.seq (T.seq (T.block (T.seq ?_)))); have hq : (0 ≤ ((i_3 : Int) - 1) ∧ ((i_3 : Int) - 1) < (l.length : Int)) ∧ _ := zaq hk; clear hk; obtain ⟨g16, hk⟩ := hq; (try dsimp only at hk); refine T.aw (.still 0 (.still 1 (.still 2 (.still 3 (.still 4 (.still 5 (.still 6 (.still 7 (.still 8 (.still 9 (.eff 10 (.still 11 .done)))))))))))) _ (by kernel_rfl) (List.Sublist.refl _) ?_; refine TS.run 3 rfl ?_; refine TS.y rfl (Yv.aL rfl rfl rfl (by omega)) ?_; refine TS.y rfl (Yv.am (i := ((i_3 : Int) - 1).toNat) rfl rfl rfl hl (List.length_map _) (by omega) (by omega)) ?_; refine TS.y rfl (Yv.aq 0 (i := ((i_3 : Int) - 1).toNat) rfl rfl rfl hl (by omega) rfl rfl rfl) ?_; refine TS.run 2 rfl ?_; refine TS.y rfl (Yv.am (i := i_3) rfl rfl rfl hl (List.length_map _) rfl (by omega)) ?_; refine TS.y rfl (Yv.aq 0 (i := i_3) rfl rfl rfl hl (by omega) rfl rfl rfl) ?_; refine TS.eff ?_; refine TSo.ar rfl (Wt.none rfl) rfl rfl (Ew.ag rfl rfl rfl (fun w hw => zdL _ w (hw.fr (i := 0) rfl) (nth l (((i_3 : Int) - 1).toNat)) (nth l i_3))) ?_; rintro _ _ ⟨rfl, rfl⟩; refine ⟨(fun w hw => hw.sub Sx), ?_⟩; refine TS.run 1 rfl ?_; refine TS.done ?_; refine K.seq ?_; refine T.cond rfl (fun h5 => ?_) (fun h5 => ?_)
        · have p5 := of_decide_eq_true h5; replace hk := zaa hk h5; refine T.sr ?_; refine TL.run 1 rfl ?_; refine TL.ns (T.ret (K.ah (K.ab (K.ab (K.ah (K.ab ?_)))))); obtain rfl := Option.some.inj hk; exact K.ai rfl rfl (fun w' hw => ⟨rfl, hw.isBelow⟩)
        · have p5 := of_decide_eq_false h5; replace hk := zab hk h5; refine T.skip (K.ac (K.seq (T.region ?_))); refine TL.run 1 rfl ?_; refine TL.y (Yv.ao rfl rfl rfl (by omega)) ?_; refine TL.run 1 rfl ?_; refine TL.nil ?_; rw [← hn2] at hk; exact K.next (i_3 + 1) hk (by omega) (.c (.c (.c .nil))) (List.Sublist.refl _)
      · have p4 := of_decide_eq_false h4; rw [zas (by omega), ← hkk2] at hk; (try dsimp only at hk); refine T.exit (K.aa (K.aa (K.ad ?_))); exact K.ae () hk .nil (List.Sublist.refl _)
  · rintro _ hk; rw [← hk1] at hk; (try dsimp only at hk); refine T.sr ?_; refine TL.run 1 rfl ?_; refine TL.ns (T.ret ?_); obtain rfl := Option.some.inj hk; exact K.ai rfl rfl (fun w' hw => ⟨rfl, hw.isBelow⟩)
def zaH (l : List GLoad) : Bool :=
  zaI (fun (_ : Unit) =>
    true)
  (fun k1 =>
    zai (fun (i_3 : Nat) (next2 : Unit → Bool) (_ : Unit) =>
      (bif !(za4 (nth l i_3)) then
        false
        else
        next2 ()))
    (fun (_ : Unit) =>
      k1 ()) (l.length - 0) 0 ())
theorem zch (F0 : Frz) (w : World) (hF0 : F0.At w) (l : List GLoad) (vl : Value) (hl : SlC F0 vl 5 (l.map GLoad.enc)) : Calls Tryz.prog 71 #[vl, .func (.func 90) #[] #[]] w fun e w' => e = .returned (.bool (zaH l)) ∧ Below w.heap.size w w' := by
  obtain ⟨r, hk⟩ : ∃ r, zaH l = r := ⟨_, rfl⟩; rw [hk]; unfold zaH at hk; haveI := hl.oneC; obtain ⟨S0, F1, rfl, hS0, hp0⟩ := zam hF0; refine zap Tryz.func71 rfl rfl rfl hp0 ?_; refine T.sr ?_; refine TL.run 1 rfl ?_; refine TL.ns (T.seq (T.sr ?_)); refine TL.run 1 rfl ?_; refine TL.y (Yv.an rfl rfl hl (List.length_map _)) ?_; have hm8 : l.length ≤ 9223372036854775807 := (List.length_map _) ▸ hl.max; refine TL.run 1 rfl ?_; refine TL.ns ?_; have hq := zag hk; clear hk; obtain ⟨k1, hk1, hk⟩ := hq; (try dsimp only at hk); refine T.af (ι := Unit) (fun z => []) (fun z => [.fr F1]) (fun z => k1 () = r) ?_ ?_
  · have hq := zak hk; clear hk; obtain ⟨f2, kk2, hf2, hkk2, hk⟩ := hq; refine T.block ?_; refine T.loop (ι := Nat) (fun z => [(1, .func (.func 90) #[] #[]), (7, vl), (8, .int .i64 (l.length : Int)), (9, .int .i64 (z : Int))]) (fun z => [.fr F1]) (fun z => zai f2 kk2 (l.length - z) z () = r) (fun z => l.length - z) 0 ?_ ?_ ?_ ?_
    · exact hk
    · exact (.c (.c (.c (.c .nil))))
    · exact List.Sublist.refl _
    · rintro i_3 hk; refine T.sr ?_; refine TL.run 1 rfl ?_; refine TL.ns (T.seq ?_); refine T.cond rfl (fun h4 => ?_) (fun h4 => ?_)
      · have p4 := of_decide_eq_true h4; rw [zat (by omega)] at hk; generalize hn2 : zai f2 kk2 (l.length - (i_3 + 1)) (i_3 + 1) = next2 at hk; rw [← hf2] at hk; (try dsimp only at hk); refine T.skip (K.seq (T.seq (T.block (T.sr ?_)))); refine TL.y (Yv.am (i := i_3) rfl rfl rfl hl (List.length_map _) rfl (by omega)) ?_; refine TL.y (Yv.aq 0 (i := i_3) rfl rfl rfl hl (by omega) rfl rfl rfl) ?_; refine TL.e (Ew.alloc rfl) ?_; rintro _ _ ⟨g6, rfl, rfl⟩; refine TL.e0 (Ew.ak 0 rfl rfl rfl rfl rfl rfl) ?_; rintro _ _ ⟨rfl, rfl⟩; refine TL.nx ?_; refine TL.run 1 rfl ?_; refine TL.y (Yv.aj 0 rfl rfl rfl rfl) ?_; refine TL.e (Ew.ag rfl rfl rfl (fun w hw => zez _ w (hw.fr (i := 1) rfl) (nth l i_3))) ?_; rintro _ _ ⟨rfl, rfl⟩; refine TL.run 1 rfl ?_; refine TL.ns ?_; refine T.cond rfl (fun h5 => ?_) (fun h5 => ?_)
        · replace hk := zaa hk h5; refine T.sr ?_; refine TL.run 1 rfl ?_; refine TL.ns (T.ret (K.ah (K.ab (K.ab (K.ah (K.ab ?_)))))); subst hk; exact K.ai rfl rfl (fun w' hw => ⟨rfl, hw.isBelow⟩)
        · replace hk := zab hk h5; refine T.skip (K.ac (K.seq (T.region ?_))); refine TL.y (Yv.ao rfl rfl rfl (by omega)) ?_; refine TL.run 1 rfl ?_; refine TL.nil ?_; rw [← hn2] at hk; refine K.pick [1] rfl (by decide) ?_; exact K.next (i_3 + 1) hk (by omega) (.c (.c (.c (.c .nil)))) (List.Sublist.refl _)
      · have p4 := of_decide_eq_false h4; rw [zas (by omega), ← hkk2] at hk; (try dsimp only at hk); refine T.exit (K.aa (K.aa (K.ad ?_))); exact K.ae () hk .nil (List.Sublist.refl _)
  · rintro _ hk; rw [← hk1] at hk; (try dsimp only at hk); refine T.sr ?_; refine TL.run 1 rfl ?_; refine TL.ns (T.ret ?_); subst hk; exact K.ai rfl rfl (fun w' hw => ⟨rfl, hw.isBelow⟩)
def zaD (l : List GLoad) : Option Bool :=
  zaI (fun (_ : Unit) =>
    some true)
  (fun k1 =>
    zai (fun (i_3 : Nat) (next2 : Unit → Option Bool) (_ : Unit) =>
      grd (0 ≤ ((i_3 : Int) - 1) ∧ ((i_3 : Int) - 1) < (l.length : Int)) <|
      (bif decide (0 ≤ (zbk (nth l (((i_3 : Int) - 1).toNat)) (nth l i_3))) then
        some false
        else
        next2 ()))
    (fun (_ : Unit) =>
      k1 ()) (l.length - 1) 1 ())
theorem zbN (F0 : Frz) (w : World) (hF0 : F0.At w) (l : List GLoad) (vl : Value) (hl : SlC F0 vl 5 (l.map GLoad.enc)) (r : Bool) (hr : zaD l = some r) : Calls Tryz.prog 91 #[vl, .func (.func 92) #[] #[]] w fun e w' => e = .returned (.bool r) ∧ Below w.heap.size w w' := by
  have hk := hr; unfold zaD at hk; haveI := hl.oneC; obtain ⟨S0, F1, rfl, hS0, hp0⟩ := zam hF0; refine zap Tryz.func91 rfl rfl rfl hp0 ?_; refine T.sr ?_; refine TL.run 1 rfl ?_; refine TL.ns (T.seq (T.sr ?_)); refine TL.run 1 rfl ?_; refine TL.ns ?_; have hq := zag hk; clear hk; obtain ⟨k1, hk1, hk⟩ := hq; (try dsimp only at hk); refine T.af (ι := Unit) (fun z => []) (fun z => [.fr F1]) (fun z => k1 () = some r) ?_ ?_
  · have hq := zak hk; clear hk; obtain ⟨f2, kk2, hf2, hkk2, hk⟩ := hq; refine T.block ?_; refine T.loop (ι := Nat) (fun z => [(0, vl), (1, .func (.func 92) #[] #[]), (5, .int .i64 (z : Int))]) (fun z => [.fr F1]) (fun z => zai f2 kk2 (l.length - z) z () = some r) (fun z => l.length - z) 1 ?_ ?_ ?_ ?_
    · exact hk
    · exact (.c (.c (.c .nil)))
    · exact List.Sublist.refl _
    · rintro i_3 hk; refine T.seq (T.sr ?_); refine TL.run 2 rfl ?_; refine TL.y (Yv.an rfl rfl hl (List.length_map _)) ?_; have hm8 : l.length ≤ 9223372036854775807 := (List.length_map _) ▸ hl.max; refine TL.run 1 rfl ?_; refine TL.ns ?_; refine T.cond rfl (fun h4 => ?_) (fun h4 => ?_)
      · have p4 := of_decide_eq_true h4; rw [zat (by omega)] at hk; generalize hn2 : zai f2 kk2 (l.length - (i_3 + 1)) (i_3 + 1) = next2 at hk; rw [← hf2] at hk; (try dsimp only at hk); refine T.skip (K.seq (T.seq (T.block (T.seq ?_)))); have hq : (0 ≤ ((i_3 : Int) - 1) ∧ ((i_3 : Int) - 1) < (l.length : Int)) ∧ _ := zaq hk; clear hk; obtain ⟨g16, hk⟩ := hq; (try dsimp only at hk); refine T.aw (.still 0 (.still 1 (.still 2 (.still 3 (.still 4 (.still 5 (.still 6 (.still 7 (.still 8 (.still 9 (.eff 10 (.still 11 .done)))))))))))) _ (by kernel_rfl) (List.Sublist.refl _) ?_; refine TS.run 3 rfl ?_; refine TS.y rfl (Yv.aL rfl rfl rfl (by omega)) ?_; refine TS.y rfl (Yv.am (i := ((i_3 : Int) - 1).toNat) rfl rfl rfl hl (List.length_map _) (by omega) (by omega)) ?_; refine TS.y rfl (Yv.aq 0 (i := ((i_3 : Int) - 1).toNat) rfl rfl rfl hl (by omega) rfl rfl rfl) ?_; refine TS.run 2 rfl ?_; refine TS.y rfl (Yv.am (i := i_3) rfl rfl rfl hl (List.length_map _) rfl (by omega)) ?_; refine TS.y rfl (Yv.aq 0 (i := i_3) rfl rfl rfl hl (by omega) rfl rfl rfl) ?_; refine TS.eff ?_; refine TSo.ar rfl (Wt.none rfl) rfl rfl (Ew.ag rfl rfl rfl (fun w hw => zdJ _ w (hw.fr (i := 0) rfl) (nth l (((i_3 : Int) - 1).toNat)) (nth l i_3))) ?_; rintro _ _ ⟨rfl, rfl⟩; refine ⟨(fun w hw => hw.sub Sx), ?_⟩; refine TS.run 1 rfl ?_; refine TS.done ?_; refine K.seq ?_; refine T.cond rfl (fun h5 => ?_) (fun h5 => ?_)
        · have p5 := of_decide_eq_true h5; replace hk := zaa hk h5; refine T.sr ?_; refine TL.run 1 rfl ?_; refine TL.ns (T.ret (K.ah (K.ab (K.ab (K.ah (K.ab ?_)))))); obtain rfl := Option.some.inj hk; exact K.ai rfl rfl (fun w' hw => ⟨rfl, hw.isBelow⟩)
        · have p5 := of_decide_eq_false h5; replace hk := zab hk h5; refine T.skip (K.ac (K.seq (T.region ?_))); refine TL.run 1 rfl ?_; refine TL.y (Yv.ao rfl rfl rfl (by omega)) ?_; refine TL.run 1 rfl ?_; refine TL.nil ?_; rw [← hn2] at hk; exact K.next (i_3 + 1) hk (by omega) (.c (.c (.c .nil))) (List.Sublist.refl _)
      · have p4 := of_decide_eq_false h4; rw [zas (by omega), ← hkk2] at hk; (try dsimp only at hk); refine T.exit (K.aa (K.aa (K.ad ?_))); exact K.ae () hk .nil (List.Sublist.refl _)
  · rintro _ hk; rw [← hk1] at hk; (try dsimp only at hk); refine T.sr ?_; refine TL.run 1 rfl ?_; refine TL.ns (T.ret ?_); obtain rfl := Option.some.inj hk; exact K.ai rfl rfl (fun w' hw => ⟨rfl, hw.isBelow⟩)
def zaM (l : List GCap) : Bool :=
  zaI (fun (_ : Unit) =>
    true)
  (fun k1 =>
    zai (fun (i_3 : Nat) (next2 : Unit → Bool) (_ : Unit) =>
      (bif !(za2 (nth l i_3)) then
        false
        else
        next2 ()))
    (fun (_ : Unit) =>
      k1 ()) (l.length - 0) 0 ())
theorem zcl (F0 : Frz) (w : World) (hF0 : F0.At w) (l : List GCap) (vl : Value) (hl : SlC F0 vl 4 (l.map GCap.enc)) : Calls Tryz.prog 73 #[vl, .func (.func 93) #[] #[]] w fun e w' => e = .returned (.bool (zaM l)) ∧ Below w.heap.size w w' := by
  obtain ⟨r, hk⟩ : ∃ r, zaM l = r := ⟨_, rfl⟩; rw [hk]; unfold zaM at hk; haveI := hl.oneC; obtain ⟨S0, F1, rfl, hS0, hp0⟩ := zam hF0; refine zap Tryz.func73 rfl rfl rfl hp0 ?_; refine T.sr ?_; refine TL.run 1 rfl ?_; refine TL.ns (T.seq (T.sr ?_)); refine TL.run 1 rfl ?_; refine TL.y (Yv.an rfl rfl hl (List.length_map _)) ?_; have hm8 : l.length ≤ 9223372036854775807 := (List.length_map _) ▸ hl.max; refine TL.run 1 rfl ?_; refine TL.ns ?_; have hq := zag hk; clear hk; obtain ⟨k1, hk1, hk⟩ := hq; (try dsimp only at hk); refine T.af (ι := Unit) (fun z => []) (fun z => [.fr F1]) (fun z => k1 () = r) ?_ ?_
  · have hq := zak hk; clear hk; obtain ⟨f2, kk2, hf2, hkk2, hk⟩ := hq; refine T.block ?_; refine T.loop (ι := Nat) (fun z => [(1, .func (.func 93) #[] #[]), (7, vl), (8, .int .i64 (l.length : Int)), (9, .int .i64 (z : Int))]) (fun z => [.fr F1]) (fun z => zai f2 kk2 (l.length - z) z () = r) (fun z => l.length - z) 0 ?_ ?_ ?_ ?_
    · exact hk
    · exact (.c (.c (.c (.c .nil))))
    · exact List.Sublist.refl _
    · rintro i_3 hk; refine T.sr ?_; refine TL.run 1 rfl ?_; refine TL.ns (T.seq ?_); refine T.cond rfl (fun h4 => ?_) (fun h4 => ?_)
      · have p4 := of_decide_eq_true h4; rw [zat (by omega)] at hk; generalize hn2 : zai f2 kk2 (l.length - (i_3 + 1)) (i_3 + 1) = next2 at hk; rw [← hf2] at hk; (try dsimp only at hk); refine T.skip (K.seq (T.seq (T.block (T.sr ?_)))); refine TL.y (Yv.am (i := i_3) rfl rfl rfl hl (List.length_map _) rfl (by omega)) ?_; refine TL.y (Yv.aq 0 (i := i_3) rfl rfl rfl hl (by omega) rfl rfl rfl) ?_; refine TL.e (Ew.alloc rfl) ?_; rintro _ _ ⟨g6, rfl, rfl⟩; refine TL.e0 (Ew.ak 0 rfl rfl rfl rfl rfl rfl) ?_; rintro _ _ ⟨rfl, rfl⟩; refine TL.nx ?_; refine TL.run 1 rfl ?_; refine TL.y (Yv.aj 0 rfl rfl rfl rfl) ?_; refine TL.e (Ew.ag rfl rfl rfl (fun w hw => zeT _ w (hw.fr (i := 1) rfl) (nth l i_3))) ?_; rintro _ _ ⟨rfl, rfl⟩; refine TL.run 1 rfl ?_; refine TL.ns ?_; refine T.cond rfl (fun h5 => ?_) (fun h5 => ?_)
        · replace hk := zaa hk h5; refine T.sr ?_; refine TL.run 1 rfl ?_; refine TL.ns (T.ret (K.ah (K.ab (K.ab (K.ah (K.ab ?_)))))); subst hk; exact K.ai rfl rfl (fun w' hw => ⟨rfl, hw.isBelow⟩)
        · replace hk := zab hk h5; refine T.skip (K.ac (K.seq (T.region ?_))); refine TL.y (Yv.ao rfl rfl rfl (by omega)) ?_; refine TL.run 1 rfl ?_; refine TL.nil ?_; rw [← hn2] at hk; refine K.pick [1] rfl (by decide) ?_; exact K.next (i_3 + 1) hk (by omega) (.c (.c (.c (.c .nil)))) (List.Sublist.refl _)
      · have p4 := of_decide_eq_false h4; rw [zas (by omega), ← hkk2] at hk; (try dsimp only at hk); refine T.exit (K.aa (K.aa (K.ad ?_))); exact K.ae () hk .nil (List.Sublist.refl _)
  · rintro _ hk; rw [← hk1] at hk; (try dsimp only at hk); refine T.sr ?_; refine TL.run 1 rfl ?_; refine TL.ns (T.ret ?_); subst hk; exact K.ai rfl rfl (fun w' hw => ⟨rfl, hw.isBelow⟩)
def zaK (l : List GCap) : Option Bool :=
  zaI (fun (_ : Unit) =>
    some true)
  (fun k1 =>
    zai (fun (i_3 : Nat) (next2 : Unit → Option Bool) (_ : Unit) =>
      grd (0 ≤ ((i_3 : Int) - 1) ∧ ((i_3 : Int) - 1) < (l.length : Int)) <|
      (bif decide (0 ≤ (zbq (nth l (((i_3 : Int) - 1).toNat)) (nth l i_3))) then
        some false
        else
        next2 ()))
    (fun (_ : Unit) =>
      k1 ()) (l.length - 1) 1 ())
theorem zbV (F0 : Frz) (w : World) (hF0 : F0.At w) (l : List GCap) (vl : Value) (hl : SlC F0 vl 4 (l.map GCap.enc)) (r : Bool) (hr : zaK l = some r) : Calls Tryz.prog 94 #[vl, .func (.func 95) #[] #[]] w fun e w' => e = .returned (.bool r) ∧ Below w.heap.size w w' := by
  have hk := hr; unfold zaK at hk; haveI := hl.oneC; obtain ⟨S0, F1, rfl, hS0, hp0⟩ := zam hF0; refine zap Tryz.func94 rfl rfl rfl hp0 ?_; refine T.sr ?_; refine TL.run 1 rfl ?_; refine TL.ns (T.seq (T.sr ?_)); refine TL.run 1 rfl ?_; refine TL.ns ?_; have hq := zag hk; clear hk; obtain ⟨k1, hk1, hk⟩ := hq; (try dsimp only at hk); refine T.af (ι := Unit) (fun z => []) (fun z => [.fr F1]) (fun z => k1 () = some r) ?_ ?_
  · have hq := zak hk; clear hk; obtain ⟨f2, kk2, hf2, hkk2, hk⟩ := hq; refine T.block ?_; refine T.loop (ι := Nat) (fun z => [(0, vl), (1, .func (.func 95) #[] #[]), (5, .int .i64 (z : Int))]) (fun z => [.fr F1]) (fun z => zai f2 kk2 (l.length - z) z () = some r) (fun z => l.length - z) 1 ?_ ?_ ?_ ?_
    · exact hk
    · exact (.c (.c (.c .nil)))
    · exact List.Sublist.refl _
    · rintro i_3 hk; refine T.seq (T.sr ?_); refine TL.run 2 rfl ?_; refine TL.y (Yv.an rfl rfl hl (List.length_map _)) ?_; have hm8 : l.length ≤ 9223372036854775807 := (List.length_map _) ▸ hl.max; refine TL.run 1 rfl ?_; refine TL.ns ?_; refine T.cond rfl (fun h4 => ?_) (fun h4 => ?_)
      · have p4 := of_decide_eq_true h4; rw [zat (by omega)] at hk; generalize hn2 : zai f2 kk2 (l.length - (i_3 + 1)) (i_3 + 1) = next2 at hk; rw [← hf2] at hk; (try dsimp only at hk); refine T.skip (K.seq (T.seq (T.block (T.seq ?_)))); have hq : (0 ≤ ((i_3 : Int) - 1) ∧ ((i_3 : Int) - 1) < (l.length : Int)) ∧ _ := zaq hk; clear hk; obtain ⟨g16, hk⟩ := hq; (try dsimp only at hk); refine T.aw (.still 0 (.still 1 (.still 2 (.still 3 (.still 4 (.still 5 (.still 6 (.still 7 (.still 8 (.still 9 (.eff 10 (.still 11 .done)))))))))))) _ (by kernel_rfl) (List.Sublist.refl _) ?_; refine TS.run 3 rfl ?_; refine TS.y rfl (Yv.aL rfl rfl rfl (by omega)) ?_; refine TS.y rfl (Yv.am (i := ((i_3 : Int) - 1).toNat) rfl rfl rfl hl (List.length_map _) (by omega) (by omega)) ?_; refine TS.y rfl (Yv.aq 0 (i := ((i_3 : Int) - 1).toNat) rfl rfl rfl hl (by omega) rfl rfl rfl) ?_; refine TS.run 2 rfl ?_; refine TS.y rfl (Yv.am (i := i_3) rfl rfl rfl hl (List.length_map _) rfl (by omega)) ?_; refine TS.y rfl (Yv.aq 0 (i := i_3) rfl rfl rfl hl (by omega) rfl rfl rfl) ?_; refine TS.eff ?_; refine TSo.ar rfl (Wt.none rfl) rfl rfl (Ew.ag rfl rfl rfl (fun w hw => zdQ _ w (hw.fr (i := 0) rfl) (nth l (((i_3 : Int) - 1).toNat)) (nth l i_3))) ?_; rintro _ _ ⟨rfl, rfl⟩; refine ⟨(fun w hw => hw.sub Sx), ?_⟩; refine TS.run 1 rfl ?_; refine TS.done ?_; refine K.seq ?_; refine T.cond rfl (fun h5 => ?_) (fun h5 => ?_)
        · have p5 := of_decide_eq_true h5; replace hk := zaa hk h5; refine T.sr ?_; refine TL.run 1 rfl ?_; refine TL.ns (T.ret (K.ah (K.ab (K.ab (K.ah (K.ab ?_)))))); obtain rfl := Option.some.inj hk; exact K.ai rfl rfl (fun w' hw => ⟨rfl, hw.isBelow⟩)
        · have p5 := of_decide_eq_false h5; replace hk := zab hk h5; refine T.skip (K.ac (K.seq (T.region ?_))); refine TL.run 1 rfl ?_; refine TL.y (Yv.ao rfl rfl rfl (by omega)) ?_; refine TL.run 1 rfl ?_; refine TL.nil ?_; rw [← hn2] at hk; exact K.next (i_3 + 1) hk (by omega) (.c (.c (.c .nil))) (List.Sublist.refl _)
      · have p4 := of_decide_eq_false h4; rw [zas (by omega), ← hkk2] at hk; (try dsimp only at hk); refine T.exit (K.aa (K.aa (K.ad ?_))); exact K.ae () hk .nil (List.Sublist.refl _)
  · rintro _ hk; rw [← hk1] at hk; (try dsimp only at hk); refine T.sr ?_; refine TL.run 1 rfl ?_; refine TL.ns (T.ret ?_); obtain rfl := Option.some.inj hk; exact K.ai rfl rfl (fun w' hw => ⟨rfl, hw.isBelow⟩)
def zbK (r_ : GRules) : Option Bool :=
  zaI (fun (x_1 : Bool) =>
    some x_1)
  (fun k2 =>
    (bif decide ((r_.Pairs.length : Int) ≤ 4096) then
      (bif (zaG r_.Pairs) then
        (zaE r_.Pairs).bind fun r15 =>
        (bif r15 then
          (bif decide ((r_.Loads.length : Int) ≤ 1024) then
            (bif (zaH r_.Loads) then
              (zaD r_.Loads).bind fun r31 =>
              (bif r31 then
                (bif decide ((r_.Caps.length : Int) ≤ 1024) then
                  (bif (zaM r_.Caps) then
                    (zaK r_.Caps).bind fun r47 =>
                    k2 r47
                    else
                    k2 false)
                  else
                  k2 false)
                else
                k2 false)
              else
              k2 false)
            else
            k2 false)
          else
          k2 false)
        else
        k2 false)
      else
      k2 false))
theorem zeb (F0 : Frz) (w : World) (hF0 : F0.At w) (r_ : GRules) (vr__0 : Value) (hr__0 : SlC F0 vr__0 5 (r_.Pairs.map GPair.enc)) (vr__1 : Value) (hr__1 : SlC F0 vr__1 5 (r_.Loads.map GLoad.enc)) (vr__2 : Value) (hr__2 : SlC F0 vr__2 4 (r_.Caps.map GCap.enc)) (r : Bool) (hr : zbK r_ = some r) : Calls Tryz.prog 63 #[.agg [vr__0, vr__1, vr__2].toArray] w fun e w' => e = .returned (.bool r) ∧ Below w.heap.size w w' := by
  have hk := hr; unfold zbK at hk; haveI := hr__0.oneC; haveI := hr__1.oneC; haveI := hr__2.oneC; obtain ⟨S0, F1, rfl, hS0, hp0⟩ := zam hF0; refine zap Tryz.func63 rfl rfl rfl hp0 ?_; refine T.sr ?_; refine TL.e (Ew.az rfl rfl) ?_; rintro _ _ ⟨g1, rfl, rfl⟩; refine TL.run 1 rfl ?_; refine TL.ns (T.seq ?_); (try dsimp only at hk); have hq := zag hk; clear hk; obtain ⟨k2, hk2, hk⟩ := hq; (try dsimp only at hk); refine T.af (ι := Bool) (fun z => [(2, .bool z)]) (fun z => [.fr F1]) (fun z => k2 z = some r) ?_ ?_
  · refine T.region ?_; refine TL.y (Yv.fieldAddr rfl rfl) ?_; refine TL.y (Yv.a 0 rfl rfl rfl rfl) ?_; refine TL.y (Yv.an rfl rfl hr__0 (List.length_map _)) ?_; have hm5 : r_.Pairs.length ≤ 9223372036854775807 := (List.length_map _) ▸ hr__0.max; refine TL.run 2 rfl ?_; refine TL.gs rfl rfl rfl (fun h3 => ?_) (fun h3 => ?_)
    · have p3 := of_decide_eq_true h3; replace hk := zaa hk h3; refine TL.y (Yv.fieldAddr rfl rfl) ?_; refine TL.y (Yv.a 0 rfl rfl rfl rfl) ?_; refine TL.e (Ew.ag rfl rfl rfl (fun w hw => zcg _ w (hw.fr (i := 1) rfl) r_.Pairs vr__0 hr__0)) ?_; rintro _ _ ⟨rfl, rfl⟩; refine TL.run 2 rfl ?_; refine TL.gs rfl rfl rfl (fun h4 => ?_) (fun h4 => ?_)
      · replace hk := zaa hk h4; refine TL.y (Yv.fieldAddr rfl rfl) ?_; refine TL.y (Yv.a 0 rfl rfl rfl rfl) ?_; have hq := zal hk; clear hk; obtain ⟨r15, hr15, hk⟩ := hq; refine TL.e (Ew.ag rfl rfl rfl (fun w hw => zbO _ w (hw.fr (i := 1) rfl) r_.Pairs vr__0 hr__0 r15 hr15)) ?_; rintro _ _ ⟨rfl, rfl⟩; refine TL.run 2 rfl ?_; refine TL.gs rfl rfl rfl (fun h5 => ?_) (fun h5 => ?_)
        · replace hk := zaa hk h5; refine TL.y (Yv.fieldAddr rfl rfl) ?_; refine TL.y (Yv.a 0 rfl rfl rfl rfl) ?_; refine TL.y (Yv.an rfl rfl hr__1 (List.length_map _)) ?_; have hm20 : r_.Loads.length ≤ 9223372036854775807 := (List.length_map _) ▸ hr__1.max; refine TL.run 3 rfl ?_; refine TL.gs rfl rfl rfl (fun h6 => ?_) (fun h6 => ?_)
          · have p6 := of_decide_eq_true h6; replace hk := zaa hk h6; refine TL.y (Yv.fieldAddr rfl rfl) ?_; refine TL.y (Yv.a 0 rfl rfl rfl rfl) ?_; refine TL.e (Ew.ag rfl rfl rfl (fun w hw => zch _ w (hw.fr (i := 1) rfl) r_.Loads vr__1 hr__1)) ?_; rintro _ _ ⟨rfl, rfl⟩; refine TL.run 2 rfl ?_; refine TL.gs rfl rfl rfl (fun h7 => ?_) (fun h7 => ?_)
            · replace hk := zaa hk h7; refine TL.y (Yv.fieldAddr rfl rfl) ?_; refine TL.y (Yv.a 0 rfl rfl rfl rfl) ?_; have hq := zal hk; clear hk; obtain ⟨r31, hr31, hk⟩ := hq; refine TL.e (Ew.ag rfl rfl rfl (fun w hw => zbN _ w (hw.fr (i := 1) rfl) r_.Loads vr__1 hr__1 r31 hr31)) ?_; rintro _ _ ⟨rfl, rfl⟩; refine TL.run 2 rfl ?_; refine TL.gs rfl rfl rfl (fun h8 => ?_) (fun h8 => ?_)
              · replace hk := zaa hk h8; refine TL.y (Yv.fieldAddr rfl rfl) ?_; refine TL.y (Yv.a 0 rfl rfl rfl rfl) ?_; refine TL.y (Yv.an rfl rfl hr__2 (List.length_map _)) ?_; have hm36 : r_.Caps.length ≤ 9223372036854775807 := (List.length_map _) ▸ hr__2.max; refine TL.run 3 rfl ?_; refine TL.gs rfl rfl rfl (fun h9 => ?_) (fun h9 => ?_)
                · have p9 := of_decide_eq_true h9; replace hk := zaa hk h9; refine TL.y (Yv.fieldAddr rfl rfl) ?_; refine TL.y (Yv.a 0 rfl rfl rfl rfl) ?_; refine TL.e (Ew.ag rfl rfl rfl (fun w hw => zcl _ w (hw.fr (i := 1) rfl) r_.Caps vr__2 hr__2)) ?_; rintro _ _ ⟨rfl, rfl⟩; refine TL.run 2 rfl ?_; refine TL.gs rfl rfl rfl (fun h10 => ?_) (fun h10 => ?_)
                  · replace hk := zaa hk h10; refine TL.y (Yv.fieldAddr rfl rfl) ?_; refine TL.y (Yv.a 0 rfl rfl rfl rfl) ?_; have hq := zal hk; clear hk; obtain ⟨r47, hr47, hk⟩ := hq; refine TL.e (Ew.ag rfl rfl rfl (fun w hw => zbV _ w (hw.fr (i := 1) rfl) r_.Caps vr__2 hr__2 r47 hr47)) ?_; rintro _ _ ⟨rfl, rfl⟩; refine TL.run 2 rfl ?_; refine TL.nil ?_; refine K.pick [1] rfl (by decide) ?_; exact K.ae r47 hk (.c .nil) (List.Sublist.refl _)
                  · replace hk := zab hk h10; refine TL.run 5 rfl ?_; refine TL.nil ?_; refine K.pick [1] rfl (by decide) ?_; exact K.ae false hk (.c .nil) (List.Sublist.refl _)
                · have p9 := of_decide_eq_false h9; replace hk := zab hk h9; refine TL.run 10 rfl ?_; refine TL.nil ?_; refine K.pick [1] rfl (by decide) ?_; exact K.ae false hk (.c .nil) (List.Sublist.refl _)
              · replace hk := zab hk h8; refine TL.run 16 rfl ?_; refine TL.nil ?_; refine K.pick [1] rfl (by decide) ?_; exact K.ae false hk (.c .nil) (List.Sublist.refl _)
            · replace hk := zab hk h7; refine TL.run 21 rfl ?_; refine TL.nil ?_; refine K.pick [1] rfl (by decide) ?_; exact K.ae false hk (.c .nil) (List.Sublist.refl _)
          · have p6 := of_decide_eq_false h6; replace hk := zab hk h6; refine TL.run 26 rfl ?_; refine TL.nil ?_; refine K.pick [1] rfl (by decide) ?_; exact K.ae false hk (.c .nil) (List.Sublist.refl _)
        · replace hk := zab hk h5; refine TL.run 32 rfl ?_; refine TL.nil ?_; refine K.pick [1] rfl (by decide) ?_; exact K.ae false hk (.c .nil) (List.Sublist.refl _)
      · replace hk := zab hk h4; refine TL.run 37 rfl ?_; refine TL.nil ?_; refine K.pick [1] rfl (by decide) ?_; exact K.ae false hk (.c .nil) (List.Sublist.refl _)
    · have p3 := of_decide_eq_false h3; replace hk := zab hk h3; refine TL.run 42 rfl ?_; refine TL.nil ?_; refine K.pick [1] rfl (by decide) ?_; exact K.ae false hk (.c .nil) (List.Sublist.refl _)
  · rintro x_1 hk; rw [← hk2] at hk; (try dsimp only at hk); refine T.ret ?_; obtain rfl := Option.some.inj hk; exact K.ai rfl rfl (fun w' hw => ⟨rfl, hw.isBelow⟩)
def zca (a : GDomain) (b : GDomain) : Int :=
  (zac a.Station b.Station)
theorem zeK (F0 : Frz) (w : World) (hF0 : F0.At w) (a : GDomain) (va_1 : Value) (ha_1 : SlC F0 va_1 1 (a.Channels.map eI)) (b : GDomain) (vb_1 : Value) (hb_1 : SlC F0 vb_1 1 (b.Channels.map eI)) : Calls Tryz.prog 64 #[.agg [.int .i64 a.Station, va_1].toArray, .agg [.int .i64 b.Station, vb_1].toArray] w fun e w' => e = .returned (.int .i64 (zca a b)) ∧ Below w.heap.size w w' := by
  obtain ⟨r, hk⟩ : ∃ r, zca a b = r := ⟨_, rfl⟩; rw [hk]; unfold zca at hk; haveI := ha_1.oneC; haveI := hb_1.oneC; obtain ⟨S0, F1, rfl, hS0, hp0⟩ := zam hF0; refine zap Tryz.func64 rfl rfl rfl hp0 ?_; refine T.sr ?_; refine TL.e (Ew.az rfl rfl) ?_; rintro _ _ ⟨g2, rfl, rfl⟩; refine TL.e (Ew.az rfl rfl) ?_; rintro _ _ ⟨g3, rfl, rfl⟩; refine TL.run 1 rfl ?_; refine TL.nx ?_; refine TL.y (Yv.fieldAddr rfl rfl) ?_; refine TL.y (Yv.a 1 rfl rfl rfl rfl) ?_; refine TL.y (Yv.fieldAddr rfl rfl) ?_; refine TL.y (Yv.a 0 rfl rfl rfl rfl) ?_; refine TL.e (Ew.ag rfl rfl rfl (fun w hw => zaB _ w (hw.fr (i := 2) rfl) a.Station b.Station)) ?_; rintro _ _ ⟨rfl, rfl⟩; refine TL.run 1 rfl ?_; refine TL.ns (T.ret ?_); subst hk; exact K.ai rfl rfl (fun w' hw => ⟨rfl, hw.isBelow⟩)
def zcc (p : GProblem) : Option GSet :=
  grd (room p.Domains.length 8) <|
  zaI (fun (l_1 : List Int) =>
    (zcV l_1).bind fun r28 =>
    some r28.1)
  (fun k2 =>
    zai (fun (i_5 : Nat) (next4 : List Int → Option GSet) (l_3 : List Int) =>
      grd (0 ≤ (i_5 : Int) ∧ (i_5 : Int) < (l_3.length : Int)) <|
      next4 (l_3.set i_5 ((nth p.Domains i_5).Station)))
    (fun (l_3 : List Int) =>
      k2 l_3) (p.Domains.length - 0) 0 (List.replicate p.Domains.length 0))
theorem zeI (F0 : Frz) (w : World) (hF0 : F0.At w) (p : GProblem) (vp_0 : Value) (cp_0 : List (List Value)) (hp_0 : SlD GDomain.rep F0 vp_0 2 cp_0 p.Domains) (vp_1 : Value) (hp_1 : SlC F0 vp_1 5 (p.Rules.Pairs.map GPair.enc)) (vp_2 : Value) (hp_2 : SlC F0 vp_2 5 (p.Rules.Loads.map GLoad.enc)) (vp_3 : Value) (hp_3 : SlC F0 vp_3 4 (p.Rules.Caps.map GCap.enc)) (r : GSet) (hr : zcc p = some r) : Calls Tryz.prog 67 #[.agg [vp_0, vp_1, vp_2, vp_3].toArray] w fun e w' => e = .returned (.agg (r.words.1.map U).toArray) ∧ Below w.heap.size w w' := by
  have hk := hr; unfold zcc at hk; haveI := hp_0.1.oneC; haveI := hp_1.oneC; haveI := hp_2.oneC; haveI := hp_3.oneC; obtain ⟨S0, F1, rfl, hS0, hp0⟩ := zam hF0; refine zap Tryz.func67 rfl rfl rfl hp0 ?_; refine T.sr ?_; refine TL.e (Ew.az rfl rfl) ?_; rintro _ _ ⟨g1, rfl, rfl⟩; refine TL.e (Ew.aQ (l := ((Vec.fill 8 (0#64)).1.map U)) rfl (by kernel_rfl)) ?_; rintro _ _ ⟨g2, rfl, rfl⟩; refine TL.ns (T.seq ?_); have hq : (room p.Domains.length 8) ∧ _ := zaq hk; clear hk; obtain ⟨g11, hk⟩ := hq; (try dsimp only at hk); refine T.region ?_; refine TL.y (Yv.fieldAddr rfl rfl) ?_; refine TL.y (Yv.a 1 rfl rfl rfl rfl) ?_; refine TL.y (Yv.an rfl rfl hp_0.1 hp_0.2.1) ?_; have hm10 : p.Domains.length ≤ 9223372036854775807 := hp_0.2.1 ▸ hp_0.1.max; refine TL.e (Ew.bs (n' := p.Domains.length) (enc := eI) (u := 0) rfl rfl rfl rfl g11 (by decide) (by decide) (fun _ => rfl) rfl) ?_; rintro v11 _ ⟨hv11, rfl⟩; refine TL.aC 0 rfl ?_; intro iv11 hmv11; refine TL.run 1 rfl ?_; refine TL.ns (T.seq (T.sr ?_)); refine TL.y (Yv.fieldAddr rfl rfl) ?_; refine TL.y (Yv.a 2 rfl rfl rfl rfl) ?_; refine TL.y (Yv.an rfl rfl hp_0.1 hp_0.2.1) ?_; refine TL.run 1 rfl ?_; refine TL.ns ?_; have hq := zag hk; clear hk; obtain ⟨k2, hk2, hk⟩ := hq; (try dsimp only at hk); refine T.af (ι := List Int) (fun z => [(2, .pointer (some ⟨g2, 0, none⟩)), (3, v11)]) (fun z => [.sl v11 3 1 z.length (z.flatMap eI), .row g2 124 ((Vec.fill 8 (0#64)).1.map U), .fr F1]) (fun z => k2 z = some r) ?_ ?_
  · have hq := zak hk; clear hk; obtain ⟨f4, kk4, hf4, hkk4, hk⟩ := hq; refine T.block ?_; refine T.pick [0, 1, 3] rfl (by decide) ?_; refine T.loop (ι := Nat × List Int) (fun z => [(2, .pointer (some ⟨g2, 0, none⟩)), (3, v11), (13, vp_0), (14, .int .i64 (p.Domains.length : Int)), (15, .int .i64 (z.1 : Int))]) (fun z => [.sl v11 3 1 z.2.length (z.2.flatMap eI), .row g2 124 ((Vec.fill 8 (0#64)).1.map U), .fr F1]) (fun z => zai f4 kk4 (p.Domains.length - z.1) z.1 z.2 = some r) (fun z => p.Domains.length - z.1) (0, (List.replicate p.Domains.length 0)) ?_ ?_ ?_ ?_
    · exact hk
    · exact (.c (.c (.c (.c (.c .nil)))))
    · exact List.Sublist.refl _
    · rintro ⟨i_5, l_3⟩ hk; (try dsimp only at *); refine T.sr ?_; refine TL.run 1 rfl ?_; refine TL.ns (T.seq ?_); refine T.cond rfl (fun h6 => ?_) (fun h6 => ?_)
      · have p6 := of_decide_eq_true h6; rw [zat (by omega)] at hk; generalize hn4 : zai f4 kk4 (p.Domains.length - (i_5 + 1)) (i_5 + 1) = next4 at hk; rw [← hf4] at hk; (try dsimp only at hk); refine T.skip (K.seq (T.seq (T.block (T.sr ?_)))); refine TL.run 1 rfl ?_; refine TL.y (Yv.am (i := i_5) rfl rfl rfl hp_0.1 hp_0.2.1 rfl (by omega)) ?_; refine TL.y (Yv.aD 2 (i := i_5) (j := 0) rfl rfl rfl hp_0.1 hp_0.2.1 (by omega) rfl (GDomain.form (hp_0.2.2 i_5 (by omega))) rfl) ?_; have hd19_1 := (GDomain.c1 (hp_0.2.2 i_5 (by omega))).2; haveI := hd19_1.oneC; refine TL.e (Ew.alloc rfl) ?_; rintro _ _ ⟨g5, rfl, rfl⟩; refine TL.run 1 rfl ?_; refine TL.e0 (Ew.ak 0 rfl rfl rfl rfl rfl rfl) ?_; rintro _ _ ⟨rfl, rfl⟩; refine TL.ns ?_; have hq : (0 ≤ (i_5 : Int) ∧ (i_5 : Int) < (l_3.length : Int)) ∧ _ := zaq hk; clear hk; obtain ⟨g24, hk⟩ := hq; (try dsimp only at hk); refine T.region ?_; refine TL.run 2 rfl ?_; refine TL.y (Yv.fieldAddr rfl rfl) ?_; refine TL.y (Yv.a 0 rfl rfl rfl rfl) ?_; refine TL.y (Yv.aR 1 (i := i_5) rfl rfl rfl rfl rfl (by omega)) ?_; refine TL.e0 (Ew.aO 1 (k' := (l_3.set i_5 ((nth p.Domains i_5).Station)).length) (l' := (l_3.set i_5 ((nth p.Domains i_5).Station)).flatMap eI) rfl rfl rfl rfl (by omega) (zdo (enc := eI) (xs := l_3) (i := i_5) (j := 0) (size := 1) (fun _ => rfl) (by omega) (by decide) (by omega)) (zd1 (enc := eI) (xs := l_3) (i := i_5) (j := 0) (size := 1) (x := ((nth p.Domains i_5).Station)) (fun _ => rfl) (by omega) (by decide) (by omega) rfl) (List.length_set ..)) ?_; rintro _ _ ⟨rfl, rfl⟩; refine TL.nil (K.ac (K.seq (T.region ?_))); refine TL.y (Yv.ao rfl rfl rfl (by omega)) ?_; refine TL.run 1 rfl ?_; refine TL.nil ?_; rw [← hn4] at hk; refine K.pick [1, 2, 3] rfl (by decide) ?_; exact K.next ((i_5 + 1), (l_3.set i_5 ((nth p.Domains i_5).Station))) hk (by dsimp only; omega) (.c (.c (.c (.c (.c .nil))))) (List.Sublist.refl _)
      · have p6 := of_decide_eq_false h6; rw [zas (by omega), ← hkk4] at hk; (try dsimp only at hk); refine T.exit (K.aa (K.aa (K.ad ?_))); exact K.ae l_3 hk (.c (.c .nil)) (List.Sublist.refl _)
  · rintro l_1 hk; rw [← hk2] at hk; (try dsimp only at hk); refine T.seq ?_; have hq := zal hk; clear hk; obtain ⟨r28, hr28, hk⟩ := hq; (try dsimp only at hk); refine T.region ?_; refine TL.run 1 rfl ?_; refine TL.e (Ew.ag rfl rfl rfl (fun w hw => (hw.bor (i := 2) (j := 0) rfl rfl).elim fun F9 b => have le1_2 := b.1.le; zgL F9 w b.1.at_ l_1 v11 (b.2.toF rfl (fun _ => rfl)) r28 hr28)) ?_; rintro _ _ ⟨rfl, rfl⟩; refine TL.run 3 rfl ?_; refine TL.e (Ew.aQ (l := ((Vec.fill 8 (0#64)).1.map U)) rfl (by kernel_rfl)) ?_; rintro _ _ ⟨g6, rfl, rfl⟩; refine TL.e0 (Ew.ak 0 rfl rfl rfl rfl Vec.len (Vec.len.trans Vec.len.symm)) ?_; rintro _ _ ⟨rfl, rfl⟩; refine TL.run 1 rfl ?_; refine TL.nx ?_; refine TL.y (Yv.aj 0 rfl rfl rfl Vec.len) ?_; refine TL.e0 (Ew.ak 2 rfl rfl rfl rfl Vec.len (Vec.len.trans Vec.len.symm)) ?_; rintro _ _ ⟨rfl, rfl⟩; refine TL.ns (T.ret ?_); obtain rfl := Option.some.inj hk; exact K.aT 2 rfl rfl rfl Vec.len (fun w' hw => ⟨rfl, hw.isBelow⟩)
def zaO (l : List GDomain) : Option Bool :=
  zaI (fun (_ : Unit) =>
    some true)
  (fun k1 =>
    zai (fun (i_3 : Nat) (next2 : Unit → Option Bool) (_ : Unit) =>
      (zbL (nth l i_3)).bind fun r15 =>
      (bif !r15 then
        some false
        else
        next2 ()))
    (fun (_ : Unit) =>
      k1 ()) (l.length - 0) 0 ())
theorem zb0 (F0 : Frz) (w : World) (hF0 : F0.At w) (l : List GDomain) (vl : Value) (cl : List (List Value)) (hl : SlD GDomain.rep F0 vl 2 cl l) (r : Bool) (hr : zaO l = some r) : Calls Tryz.prog 61 #[vl, .func (.func 62) #[] #[]] w fun e w' => e = .returned (.bool r) ∧ Below w.heap.size w w' := by
  have hk := hr; unfold zaO at hk; haveI := hl.1.oneC; obtain ⟨S0, F1, rfl, hS0, hp0⟩ := zam hF0; refine zap Tryz.func61 rfl rfl rfl hp0 ?_; refine T.sr ?_; refine TL.run 1 rfl ?_; refine TL.ns (T.seq (T.sr ?_)); refine TL.run 1 rfl ?_; refine TL.y (Yv.an rfl rfl hl.1 hl.2.1) ?_; have hm8 : l.length ≤ 9223372036854775807 := hl.2.1 ▸ hl.1.max; refine TL.run 1 rfl ?_; refine TL.ns ?_; have hq := zag hk; clear hk; obtain ⟨k1, hk1, hk⟩ := hq; (try dsimp only at hk); refine T.af (ι := Unit) (fun z => []) (fun z => [.fr F1]) (fun z => k1 () = some r) ?_ ?_
  · have hq := zak hk; clear hk; obtain ⟨f2, kk2, hf2, hkk2, hk⟩ := hq; refine T.block ?_; refine T.loop (ι := Nat) (fun z => [(1, .func (.func 62) #[] #[]), (7, vl), (8, .int .i64 (l.length : Int)), (9, .int .i64 (z : Int))]) (fun z => [.fr F1]) (fun z => zai f2 kk2 (l.length - z) z () = some r) (fun z => l.length - z) 0 ?_ ?_ ?_ ?_
    · exact hk
    · exact (.c (.c (.c (.c .nil))))
    · exact List.Sublist.refl _
    · rintro i_3 hk; refine T.sr ?_; refine TL.run 1 rfl ?_; refine TL.ns (T.seq ?_); refine T.cond rfl (fun h4 => ?_) (fun h4 => ?_)
      · have p4 := of_decide_eq_true h4; rw [zat (by omega)] at hk; generalize hn2 : zai f2 kk2 (l.length - (i_3 + 1)) (i_3 + 1) = next2 at hk; rw [← hf2] at hk; (try dsimp only at hk); refine T.skip (K.seq (T.seq (T.block (T.sr ?_)))); refine TL.y (Yv.am (i := i_3) rfl rfl rfl hl.1 hl.2.1 rfl (by omega)) ?_; refine TL.y (Yv.aD 0 (i := i_3) (j := 0) rfl rfl rfl hl.1 hl.2.1 (by omega) rfl (GDomain.form (hl.2.2 i_3 (by omega))) rfl) ?_; have hd12_1 := (GDomain.c1 (hl.2.2 i_3 (by omega))).2; haveI := hd12_1.oneC; refine TL.e (Ew.alloc rfl) ?_; rintro _ _ ⟨g6, rfl, rfl⟩; refine TL.e0 (Ew.ak 0 rfl rfl rfl rfl rfl rfl) ?_; rintro _ _ ⟨rfl, rfl⟩; refine TL.ns (T.seq ?_); have hq := zal hk; clear hk; obtain ⟨r15, hr15, hk⟩ := hq; (try dsimp only at hk); refine T.region ?_; refine TL.run 1 rfl ?_; refine TL.y (Yv.aj 0 rfl rfl rfl rfl) ?_; refine TL.e (Ew.ag rfl rfl rfl (fun w hw => zea _ w (hw.fr (i := 1) rfl) (nth l i_3) (nth (nth cl i_3) 1) hd12_1 r15 hr15)) ?_; rintro _ _ ⟨rfl, rfl⟩; refine TL.run 1 rfl ?_; refine TL.ns ?_; refine T.cond rfl (fun h5 => ?_) (fun h5 => ?_)
        · replace hk := zaa hk h5; refine T.sr ?_; refine TL.run 1 rfl ?_; refine TL.ns (T.ret (K.ah (K.ab (K.ab (K.ah (K.ab ?_)))))); obtain rfl := Option.some.inj hk; exact K.ai rfl rfl (fun w' hw => ⟨rfl, hw.isBelow⟩)
        · replace hk := zab hk h5; refine T.skip (K.ac (K.seq (T.region ?_))); refine TL.y (Yv.ao rfl rfl rfl (by omega)) ?_; refine TL.run 1 rfl ?_; refine TL.nil ?_; rw [← hn2] at hk; refine K.pick [1] rfl (by decide) ?_; exact K.next (i_3 + 1) hk (by omega) (.c (.c (.c (.c .nil)))) (List.Sublist.refl _)
      · have p4 := of_decide_eq_false h4; rw [zas (by omega), ← hkk2] at hk; (try dsimp only at hk); refine T.exit (K.aa (K.aa (K.ad ?_))); exact K.ae () hk .nil (List.Sublist.refl _)
  · rintro _ hk; rw [← hk1] at hk; (try dsimp only at hk); refine T.sr ?_; refine TL.run 1 rfl ?_; refine TL.ns (T.ret ?_); obtain rfl := Option.some.inj hk; exact K.ai rfl rfl (fun w' hw => ⟨rfl, hw.isBelow⟩)
def zaV (l : List GDomain) : Option Bool :=
  zaI (fun (_ : Unit) =>
    some true)
  (fun k1 =>
    zai (fun (i_3 : Nat) (next2 : Unit → Option Bool) (_ : Unit) =>
      grd (0 ≤ ((i_3 : Int) - 1) ∧ ((i_3 : Int) - 1) < (l.length : Int)) <|
      (bif decide (0 ≤ (zca (nth l (((i_3 : Int) - 1).toNat)) (nth l i_3))) then
        some false
        else
        next2 ()))
    (fun (_ : Unit) =>
      k1 ()) (l.length - 1) 1 ())
theorem zcf (F0 : Frz) (w : World) (hF0 : F0.At w) (l : List GDomain) (vl : Value) (cl : List (List Value)) (hl : SlD GDomain.rep F0 vl 2 cl l) (r : Bool) (hr : zaV l = some r) : Calls Tryz.prog 66 #[vl, .func (.func 64) #[] #[]] w fun e w' => e = .returned (.bool r) ∧ Below w.heap.size w w' := by
  have hk := hr; unfold zaV at hk; haveI := hl.1.oneC; obtain ⟨S0, F1, rfl, hS0, hp0⟩ := zam hF0; refine zap Tryz.func66 rfl rfl rfl hp0 ?_; refine T.sr ?_; refine TL.run 1 rfl ?_; refine TL.ns (T.seq (T.sr ?_)); refine TL.run 1 rfl ?_; refine TL.ns ?_; have hq := zag hk; clear hk; obtain ⟨k1, hk1, hk⟩ := hq; (try dsimp only at hk); refine T.af (ι := Unit) (fun z => []) (fun z => [.fr F1]) (fun z => k1 () = some r) ?_ ?_
  · have hq := zak hk; clear hk; obtain ⟨f2, kk2, hf2, hkk2, hk⟩ := hq; refine T.block ?_; refine T.loop (ι := Nat) (fun z => [(0, vl), (1, .func (.func 64) #[] #[]), (5, .int .i64 (z : Int))]) (fun z => [.fr F1]) (fun z => zai f2 kk2 (l.length - z) z () = some r) (fun z => l.length - z) 1 ?_ ?_ ?_ ?_
    · exact hk
    · exact (.c (.c (.c .nil)))
    · exact List.Sublist.refl _
    · rintro i_3 hk; refine T.seq (T.sr ?_); refine TL.run 2 rfl ?_; refine TL.y (Yv.an rfl rfl hl.1 hl.2.1) ?_; have hm8 : l.length ≤ 9223372036854775807 := hl.2.1 ▸ hl.1.max; refine TL.run 1 rfl ?_; refine TL.ns ?_; refine T.cond rfl (fun h4 => ?_) (fun h4 => ?_)
      · have p4 := of_decide_eq_true h4; rw [zat (by omega)] at hk; generalize hn2 : zai f2 kk2 (l.length - (i_3 + 1)) (i_3 + 1) = next2 at hk; rw [← hf2] at hk; (try dsimp only at hk); refine T.skip (K.seq (T.seq (T.block (T.seq ?_)))); have hq : (0 ≤ ((i_3 : Int) - 1) ∧ ((i_3 : Int) - 1) < (l.length : Int)) ∧ _ := zaq hk; clear hk; obtain ⟨g16, hk⟩ := hq; (try dsimp only at hk); refine T.aw (.still 0 (.still 1 (.still 2 (.still 3 (.still 4 (.still 5 (.still 6 (.still 7 (.still 8 (.still 9 (.eff 10 (.still 11 .done)))))))))))) _ (by kernel_rfl) (List.Sublist.refl _) ?_; refine TS.run 3 rfl ?_; refine TS.y rfl (Yv.aL rfl rfl rfl (by omega)) ?_; refine TS.y rfl (Yv.am (i := ((i_3 : Int) - 1).toNat) rfl rfl rfl hl.1 hl.2.1 (by omega) (by omega)) ?_; refine TS.y rfl (Yv.aD 0 (i := ((i_3 : Int) - 1).toNat) (j := 0) rfl rfl rfl hl.1 hl.2.1 (by omega) rfl (GDomain.form (hl.2.2 (((i_3 : Int) - 1).toNat) (by omega))) rfl) ?_; have hd17_1 := (GDomain.c1 (hl.2.2 (((i_3 : Int) - 1).toNat) (by omega))).2; haveI := hd17_1.oneC; refine TS.run 2 rfl ?_; refine TS.y rfl (Yv.am (i := i_3) rfl rfl rfl hl.1 hl.2.1 rfl (by omega)) ?_; refine TS.y rfl (Yv.aD 0 (i := i_3) (j := 0) rfl rfl rfl hl.1 hl.2.1 (by omega) rfl (GDomain.form (hl.2.2 i_3 (by omega))) rfl) ?_; have hd21_1 := (GDomain.c1 (hl.2.2 i_3 (by omega))).2; haveI := hd21_1.oneC; refine TS.eff ?_; refine TSo.ar rfl (Wt.none rfl) rfl rfl (Ew.ag rfl rfl rfl (fun w hw => zeK _ w (hw.fr (i := 0) rfl) (nth l (((i_3 : Int) - 1).toNat)) (nth (nth cl (((i_3 : Int) - 1).toNat)) 1) hd17_1 (nth l i_3) (nth (nth cl i_3) 1) hd21_1)) ?_; rintro _ _ ⟨rfl, rfl⟩; refine ⟨(fun w hw => hw.sub Sx), ?_⟩; refine TS.run 1 rfl ?_; refine TS.done ?_; refine K.seq ?_; refine T.cond rfl (fun h5 => ?_) (fun h5 => ?_)
        · have p5 := of_decide_eq_true h5; replace hk := zaa hk h5; refine T.sr ?_; refine TL.run 1 rfl ?_; refine TL.ns (T.ret (K.ah (K.ab (K.ab (K.ah (K.ab ?_)))))); obtain rfl := Option.some.inj hk; exact K.ai rfl rfl (fun w' hw => ⟨rfl, hw.isBelow⟩)
        · have p5 := of_decide_eq_false h5; replace hk := zab hk h5; refine T.skip (K.ac (K.seq (T.region ?_))); refine TL.run 1 rfl ?_; refine TL.y (Yv.ao rfl rfl rfl (by omega)) ?_; refine TL.run 1 rfl ?_; refine TL.nil ?_; rw [← hn2] at hk; exact K.next (i_3 + 1) hk (by omega) (.c (.c (.c .nil))) (List.Sublist.refl _)
      · have p4 := of_decide_eq_false h4; rw [zas (by omega), ← hkk2] at hk; (try dsimp only at hk); refine T.exit (K.aa (K.aa (K.ad ?_))); exact K.ae () hk .nil (List.Sublist.refl _)
  · rintro _ hk; rw [← hk1] at hk; (try dsimp only at hk); refine T.sr ?_; refine TL.run 1 rfl ?_; refine TL.ns (T.ret ?_); obtain rfl := Option.some.inj hk; exact K.ai rfl rfl (fun w' hw => ⟨rfl, hw.isBelow⟩)
def zb6 (c : GPair) (xf0_ : GSet) : Option Bool :=
  (zaL xf0_ c.A).bind fun r7 =>
  zaI (fun (x_1 : Bool) =>
    some x_1)
  (fun k2 =>
    (bif r7 then
      (zaL xf0_ c.B).bind fun r12 =>
      k2 r12
      else
      k2 false))
theorem zeL (F0 : Frz) (w : World) (hF0 : F0.At w) (c : GPair) (xf0_ : GSet) (gf0_ : Nat) (hO : Hp w (fps [.row gf0_ 124 (xf0_.words.1.map U)]) [.row gf0_ 124 (xf0_.words.1.map U)] w) (hA : ∀ g, fps [.row gf0_ 124 (xf0_.words.1.map U)] g → ¬ F0.S g) (r : Bool) (hr : zb6 c xf0_ = some r) : Calls Tryz.prog 69 #[.agg [.int .i64 c.A, .int .i64 c.B, .int .i64 c.Offset, .int .i64 c.Low, .int .i64 c.High].toArray, .pointer (some ⟨gf0_, 0, none⟩)] w fun e w' => ∃ (y : Unit), (True) ∧ e = .returned (.bool r) ∧ FxM F0 w (fps [.row gf0_ 124 (xf0_.words.1.map U)]) F0 [.row gf0_ 124 (xf0_.words.1.map U)] w' := by
  have hk := hr; unfold zb6 at hk; obtain ⟨S0, F1, rfl, hS0, hp0⟩ := zbl hF0 hO hA; refine zap (hs := [.row gf0_ 124 (xf0_.words.1.map U), .fr F1]) Tryz.func69 rfl rfl rfl hp0 ?_; refine T.sr ?_; refine TL.e (Ew.az rfl rfl) ?_; rintro _ _ ⟨g2, rfl, rfl⟩; refine TL.run 1 rfl ?_; refine TL.ns (T.seq ?_); have hq := zal hk; clear hk; obtain ⟨r7, hr7, hk⟩ := hq; (try dsimp only at hk); have hq := zag hk; clear hk; obtain ⟨k2, hk2, hk⟩ := hq; (try dsimp only at hk); refine T.af (ι := Bool) (fun z => [(3, .bool z)]) (fun z => [.row gf0_ 124 (xf0_.words.1.map U), .fr F1]) (fun z => k2 z = some r) ?_ ?_
  · refine T.region ?_; refine TL.y (Yv.aj 1 rfl rfl rfl Vec.len) ?_; refine TL.y (Yv.fieldAddr rfl rfl) ?_; refine TL.y (Yv.a 0 rfl rfl rfl rfl) ?_; refine TL.e (Ew.ag rfl rfl rfl (fun w hw => zbg _ w (hw.fr (i := 2) rfl) xf0_ c.A r7 hr7)) ?_; rintro _ _ ⟨rfl, rfl⟩; refine TL.run 1 rfl ?_; refine TL.gs rfl rfl rfl (fun h3 => ?_) (fun h3 => ?_)
    · replace hk := zaa hk h3; refine TL.y (Yv.aj 1 rfl rfl rfl Vec.len) ?_; refine TL.y (Yv.fieldAddr rfl rfl) ?_; refine TL.y (Yv.a 0 rfl rfl rfl rfl) ?_; have hq := zal hk; clear hk; obtain ⟨r12, hr12, hk⟩ := hq; refine TL.e (Ew.ag rfl rfl rfl (fun w hw => zbg _ w (hw.fr (i := 2) rfl) xf0_ c.B r12 hr12)) ?_; rintro _ _ ⟨rfl, rfl⟩; refine TL.run 2 rfl ?_; refine TL.nil ?_; refine K.pick [1, 2] rfl (by decide) ?_; exact K.ae r12 hk (.c .nil) (List.Sublist.refl _)
    · replace hk := zab hk h3; refine TL.run 6 rfl ?_; refine TL.nil ?_; refine K.pick [1, 2] rfl (by decide) ?_; exact K.ae false hk (.c .nil) (List.Sublist.refl _)
  · rintro x_1 hk; rw [← hk2] at hk; (try dsimp only at hk); refine T.ret ?_; obtain rfl := Option.some.inj hk; exact K.ai rfl rfl (fun w' hw => ⟨⟨⟩, trivial, rfl, FxM.of (hw.pick (idx := [0, 1]) rfl (by decide)) hS0 (Frz.Le.refl _)⟩)
def za8 (l : List GPair) (x1c0_ : GSet) : Option Bool :=
  zaI (fun (_ : Unit) =>
    some true)
  (fun k1 =>
    zai (fun (i_3 : Nat) (next2 : Unit → Option Bool) (_ : Unit) =>
      (zb6 (nth l i_3) x1c0_).bind fun r15 =>
      (bif !r15 then
        some false
        else
        next2 ()))
    (fun (_ : Unit) =>
      k1 ()) (l.length - 0) 0 ())
theorem zcx (F0 : Frz) (w : World) (hF0 : F0.At w) (l : List GPair) (vl : Value) (hl : SlC F0 vl 5 (l.map GPair.enc)) (x1c0_ : GSet) (g1c0_ : Nat) (hO : Hp w (fps [.row g1c0_ 124 (x1c0_.words.1.map U)]) [.row g1c0_ 124 (x1c0_.words.1.map U)] w) (hA : ∀ g, fps [.row g1c0_ 124 (x1c0_.words.1.map U)] g → ¬ F0.S g) (r : Bool) (hr : za8 l x1c0_ = some r) : Calls Tryz.prog 68 #[vl, .func (.func 69) #[] #[.pointer (some ⟨g1c0_, 0, none⟩)]] w fun e w' => ∃ (y : Unit), (True) ∧ e = .returned (.bool r) ∧ FxM F0 w (fps [.row g1c0_ 124 (x1c0_.words.1.map U)]) F0 [.row g1c0_ 124 (x1c0_.words.1.map U)] w' := by
  have hk := hr; unfold za8 at hk; haveI := hl.oneC; obtain ⟨S0, F1, rfl, hS0, hp0⟩ := zbl hF0 hO hA; refine zap (hs := [.row g1c0_ 124 (x1c0_.words.1.map U), .fr F1]) Tryz.func68 rfl rfl rfl hp0 ?_; refine T.sr ?_; refine TL.run 1 rfl ?_; refine TL.ns (T.seq (T.sr ?_)); refine TL.run 1 rfl ?_; refine TL.y (Yv.an rfl rfl hl (List.length_map _)) ?_; have hm8 : l.length ≤ 9223372036854775807 := (List.length_map _) ▸ hl.max; refine TL.run 1 rfl ?_; refine TL.ns ?_; have hq := zag hk; clear hk; obtain ⟨k1, hk1, hk⟩ := hq; (try dsimp only at hk); refine T.af (ι := Unit) (fun z => []) (fun z => [.row g1c0_ 124 (x1c0_.words.1.map U), .fr F1]) (fun z => k1 () = some r) ?_ ?_
  · have hq := zak hk; clear hk; obtain ⟨f2, kk2, hf2, hkk2, hk⟩ := hq; refine T.block ?_; refine T.loop (ι := Nat) (fun z => [(1, .func (.func 69) #[] #[.pointer (some ⟨g1c0_, 0, none⟩)]), (7, vl), (8, .int .i64 (l.length : Int)), (9, .int .i64 (z : Int))]) (fun z => [.row g1c0_ 124 (x1c0_.words.1.map U), .fr F1]) (fun z => zai f2 kk2 (l.length - z) z () = some r) (fun z => l.length - z) 0 ?_ ?_ ?_ ?_
    · exact hk
    · exact (.c (.c (.c (.c .nil))))
    · exact List.Sublist.refl _
    · rintro i_3 hk; refine T.sr ?_; refine TL.run 1 rfl ?_; refine TL.ns (T.seq ?_); refine T.cond rfl (fun h4 => ?_) (fun h4 => ?_)
      · have p4 := of_decide_eq_true h4; rw [zat (by omega)] at hk; generalize hn2 : zai f2 kk2 (l.length - (i_3 + 1)) (i_3 + 1) = next2 at hk; rw [← hf2] at hk; (try dsimp only at hk); refine T.skip (K.seq (T.seq (T.block (T.sr ?_)))); refine TL.y (Yv.am (i := i_3) rfl rfl rfl hl (List.length_map _) rfl (by omega)) ?_; refine TL.y (Yv.aq 1 (i := i_3) rfl rfl rfl hl (by omega) rfl rfl rfl) ?_; refine TL.e (Ew.alloc rfl) ?_; rintro _ _ ⟨g6, rfl, rfl⟩; refine TL.e0 (Ew.ak 0 rfl rfl rfl rfl rfl rfl) ?_; rintro _ _ ⟨rfl, rfl⟩; refine TL.ns (T.seq ?_); have hq := zal hk; clear hk; obtain ⟨r15, hr15, hk⟩ := hq; (try dsimp only at hk); refine T.region ?_; refine TL.run 1 rfl ?_; refine TL.y (Yv.aj 0 rfl rfl rfl rfl) ?_; refine TL.e (Ew.au [1, 2, 0] [.row g1c0_ 124 (x1c0_.words.1.map U)] [.row g6 72 [.int .i64 ((nth l i_3).A), .int .i64 ((nth l i_3).B), .int .i64 ((nth l i_3).Offset), .int .i64 ((nth l i_3).Low), .int .i64 ((nth l i_3).High)]] rfl rfl rfl rfl (by decide) (fun w hw hw2 hF => zeL _ w hF (nth l i_3) x1c0_ g1c0_ hw2.takes.1 hw2.takes.2 r15 hr15)) ?_; rintro _ _ ⟨⟨⟩, -, rfl, rfl⟩; dsimp only [List.cons_append, List.nil_append]; refine TL.run 1 rfl ?_; refine TL.ns ?_; refine T.cond rfl (fun h5 => ?_) (fun h5 => ?_)
        · replace hk := zaa hk h5; refine T.sr ?_; refine TL.run 1 rfl ?_; refine TL.ns (T.ret (K.ah (K.ab (K.ab (K.ah (K.ab ?_)))))); obtain rfl := Option.some.inj hk; exact K.ai rfl rfl (fun w' hw => ⟨⟨⟩, trivial, rfl, FxM.of (hw.pick (idx := [0, 1]) rfl (by decide)) hS0 (Frz.Le.refl _)⟩)
        · replace hk := zab hk h5; refine T.skip (K.ac (K.seq (T.region ?_))); refine TL.y (Yv.ao rfl rfl rfl (by omega)) ?_; refine TL.run 1 rfl ?_; refine TL.nil ?_; rw [← hn2] at hk; refine K.pick [0, 1] rfl (by decide) ?_; exact K.next (i_3 + 1) hk (by omega) (.c (.c (.c (.c .nil)))) (List.Sublist.refl _)
      · have p4 := of_decide_eq_false h4; rw [zas (by omega), ← hkk2] at hk; (try dsimp only at hk); refine T.exit (K.aa (K.aa (K.ad ?_))); exact K.ae () hk .nil (List.Sublist.refl _)
  · rintro _ hk; rw [← hk1] at hk; (try dsimp only at hk); refine T.sr ?_; refine TL.run 1 rfl ?_; refine TL.ns (T.ret ?_); obtain rfl := Option.some.inj hk; exact K.ai rfl rfl (fun w' hw => ⟨⟨⟩, trivial, rfl, FxM.of (hw.pick (idx := [0, 1]) rfl (by decide)) hS0 (Frz.Le.refl _)⟩)
def zb7 (c : GLoad) (xf0_ : GSet) : Option Bool :=
  (zaL xf0_ c.To).bind fun r7 =>
  zaI (fun (x_1 : Bool) =>
    some x_1)
  (fun k2 =>
    (bif r7 then
      (zaL xf0_ c.From).bind fun r12 =>
      k2 r12
      else
      k2 false))
theorem zeS (F0 : Frz) (w : World) (hF0 : F0.At w) (c : GLoad) (xf0_ : GSet) (gf0_ : Nat) (hO : Hp w (fps [.row gf0_ 124 (xf0_.words.1.map U)]) [.row gf0_ 124 (xf0_.words.1.map U)] w) (hA : ∀ g, fps [.row gf0_ 124 (xf0_.words.1.map U)] g → ¬ F0.S g) (r : Bool) (hr : zb7 c xf0_ = some r) : Calls Tryz.prog 72 #[.agg [.int .i64 c.To, .int .i64 c.From, .int .i64 c.Weight, .int .i64 c.Low, .int .i64 c.High].toArray, .pointer (some ⟨gf0_, 0, none⟩)] w fun e w' => ∃ (y : Unit), (True) ∧ e = .returned (.bool r) ∧ FxM F0 w (fps [.row gf0_ 124 (xf0_.words.1.map U)]) F0 [.row gf0_ 124 (xf0_.words.1.map U)] w' := by
  have hk := hr; unfold zb7 at hk; obtain ⟨S0, F1, rfl, hS0, hp0⟩ := zbl hF0 hO hA; refine zap (hs := [.row gf0_ 124 (xf0_.words.1.map U), .fr F1]) Tryz.func72 rfl rfl rfl hp0 ?_; refine T.sr ?_; refine TL.e (Ew.az rfl rfl) ?_; rintro _ _ ⟨g2, rfl, rfl⟩; refine TL.run 1 rfl ?_; refine TL.ns (T.seq ?_); have hq := zal hk; clear hk; obtain ⟨r7, hr7, hk⟩ := hq; (try dsimp only at hk); have hq := zag hk; clear hk; obtain ⟨k2, hk2, hk⟩ := hq; (try dsimp only at hk); refine T.af (ι := Bool) (fun z => [(3, .bool z)]) (fun z => [.row gf0_ 124 (xf0_.words.1.map U), .fr F1]) (fun z => k2 z = some r) ?_ ?_
  · refine T.region ?_; refine TL.y (Yv.aj 1 rfl rfl rfl Vec.len) ?_; refine TL.y (Yv.fieldAddr rfl rfl) ?_; refine TL.y (Yv.a 0 rfl rfl rfl rfl) ?_; refine TL.e (Ew.ag rfl rfl rfl (fun w hw => zbg _ w (hw.fr (i := 2) rfl) xf0_ c.To r7 hr7)) ?_; rintro _ _ ⟨rfl, rfl⟩; refine TL.run 1 rfl ?_; refine TL.gs rfl rfl rfl (fun h3 => ?_) (fun h3 => ?_)
    · replace hk := zaa hk h3; refine TL.y (Yv.aj 1 rfl rfl rfl Vec.len) ?_; refine TL.y (Yv.fieldAddr rfl rfl) ?_; refine TL.y (Yv.a 0 rfl rfl rfl rfl) ?_; have hq := zal hk; clear hk; obtain ⟨r12, hr12, hk⟩ := hq; refine TL.e (Ew.ag rfl rfl rfl (fun w hw => zbg _ w (hw.fr (i := 2) rfl) xf0_ c.From r12 hr12)) ?_; rintro _ _ ⟨rfl, rfl⟩; refine TL.run 2 rfl ?_; refine TL.nil ?_; refine K.pick [1, 2] rfl (by decide) ?_; exact K.ae r12 hk (.c .nil) (List.Sublist.refl _)
    · replace hk := zab hk h3; refine TL.run 6 rfl ?_; refine TL.nil ?_; refine K.pick [1, 2] rfl (by decide) ?_; exact K.ae false hk (.c .nil) (List.Sublist.refl _)
  · rintro x_1 hk; rw [← hk2] at hk; (try dsimp only at hk); refine T.ret ?_; obtain rfl := Option.some.inj hk; exact K.ai rfl rfl (fun w' hw => ⟨⟨⟩, trivial, rfl, FxM.of (hw.pick (idx := [0, 1]) rfl (by decide)) hS0 (Frz.Le.refl _)⟩)
def za9 (l : List GLoad) (x1c0_ : GSet) : Option Bool :=
  zaI (fun (_ : Unit) =>
    some true)
  (fun k1 =>
    zai (fun (i_3 : Nat) (next2 : Unit → Option Bool) (_ : Unit) =>
      (zb7 (nth l i_3) x1c0_).bind fun r15 =>
      (bif !r15 then
        some false
        else
        next2 ()))
    (fun (_ : Unit) =>
      k1 ()) (l.length - 0) 0 ())
theorem zcy (F0 : Frz) (w : World) (hF0 : F0.At w) (l : List GLoad) (vl : Value) (hl : SlC F0 vl 5 (l.map GLoad.enc)) (x1c0_ : GSet) (g1c0_ : Nat) (hO : Hp w (fps [.row g1c0_ 124 (x1c0_.words.1.map U)]) [.row g1c0_ 124 (x1c0_.words.1.map U)] w) (hA : ∀ g, fps [.row g1c0_ 124 (x1c0_.words.1.map U)] g → ¬ F0.S g) (r : Bool) (hr : za9 l x1c0_ = some r) : Calls Tryz.prog 71 #[vl, .func (.func 72) #[] #[.pointer (some ⟨g1c0_, 0, none⟩)]] w fun e w' => ∃ (y : Unit), (True) ∧ e = .returned (.bool r) ∧ FxM F0 w (fps [.row g1c0_ 124 (x1c0_.words.1.map U)]) F0 [.row g1c0_ 124 (x1c0_.words.1.map U)] w' := by
  have hk := hr; unfold za9 at hk; haveI := hl.oneC; obtain ⟨S0, F1, rfl, hS0, hp0⟩ := zbl hF0 hO hA; refine zap (hs := [.row g1c0_ 124 (x1c0_.words.1.map U), .fr F1]) Tryz.func71 rfl rfl rfl hp0 ?_; refine T.sr ?_; refine TL.run 1 rfl ?_; refine TL.ns (T.seq (T.sr ?_)); refine TL.run 1 rfl ?_; refine TL.y (Yv.an rfl rfl hl (List.length_map _)) ?_; have hm8 : l.length ≤ 9223372036854775807 := (List.length_map _) ▸ hl.max; refine TL.run 1 rfl ?_; refine TL.ns ?_; have hq := zag hk; clear hk; obtain ⟨k1, hk1, hk⟩ := hq; (try dsimp only at hk); refine T.af (ι := Unit) (fun z => []) (fun z => [.row g1c0_ 124 (x1c0_.words.1.map U), .fr F1]) (fun z => k1 () = some r) ?_ ?_
  · have hq := zak hk; clear hk; obtain ⟨f2, kk2, hf2, hkk2, hk⟩ := hq; refine T.block ?_; refine T.loop (ι := Nat) (fun z => [(1, .func (.func 72) #[] #[.pointer (some ⟨g1c0_, 0, none⟩)]), (7, vl), (8, .int .i64 (l.length : Int)), (9, .int .i64 (z : Int))]) (fun z => [.row g1c0_ 124 (x1c0_.words.1.map U), .fr F1]) (fun z => zai f2 kk2 (l.length - z) z () = some r) (fun z => l.length - z) 0 ?_ ?_ ?_ ?_
    · exact hk
    · exact (.c (.c (.c (.c .nil))))
    · exact List.Sublist.refl _
    · rintro i_3 hk; refine T.sr ?_; refine TL.run 1 rfl ?_; refine TL.ns (T.seq ?_); refine T.cond rfl (fun h4 => ?_) (fun h4 => ?_)
      · have p4 := of_decide_eq_true h4; rw [zat (by omega)] at hk; generalize hn2 : zai f2 kk2 (l.length - (i_3 + 1)) (i_3 + 1) = next2 at hk; rw [← hf2] at hk; (try dsimp only at hk); refine T.skip (K.seq (T.seq (T.block (T.sr ?_)))); refine TL.y (Yv.am (i := i_3) rfl rfl rfl hl (List.length_map _) rfl (by omega)) ?_; refine TL.y (Yv.aq 1 (i := i_3) rfl rfl rfl hl (by omega) rfl rfl rfl) ?_; refine TL.e (Ew.alloc rfl) ?_; rintro _ _ ⟨g6, rfl, rfl⟩; refine TL.e0 (Ew.ak 0 rfl rfl rfl rfl rfl rfl) ?_; rintro _ _ ⟨rfl, rfl⟩; refine TL.ns (T.seq ?_); have hq := zal hk; clear hk; obtain ⟨r15, hr15, hk⟩ := hq; (try dsimp only at hk); refine T.region ?_; refine TL.run 1 rfl ?_; refine TL.y (Yv.aj 0 rfl rfl rfl rfl) ?_; refine TL.e (Ew.au [1, 2, 0] [.row g1c0_ 124 (x1c0_.words.1.map U)] [.row g6 74 [.int .i64 ((nth l i_3).To), .int .i64 ((nth l i_3).From), .int .i64 ((nth l i_3).Weight), .int .i64 ((nth l i_3).Low), .int .i64 ((nth l i_3).High)]] rfl rfl rfl rfl (by decide) (fun w hw hw2 hF => zeS _ w hF (nth l i_3) x1c0_ g1c0_ hw2.takes.1 hw2.takes.2 r15 hr15)) ?_; rintro _ _ ⟨⟨⟩, -, rfl, rfl⟩; dsimp only [List.cons_append, List.nil_append]; refine TL.run 1 rfl ?_; refine TL.ns ?_; refine T.cond rfl (fun h5 => ?_) (fun h5 => ?_)
        · replace hk := zaa hk h5; refine T.sr ?_; refine TL.run 1 rfl ?_; refine TL.ns (T.ret (K.ah (K.ab (K.ab (K.ah (K.ab ?_)))))); obtain rfl := Option.some.inj hk; exact K.ai rfl rfl (fun w' hw => ⟨⟨⟩, trivial, rfl, FxM.of (hw.pick (idx := [0, 1]) rfl (by decide)) hS0 (Frz.Le.refl _)⟩)
        · replace hk := zab hk h5; refine T.skip (K.ac (K.seq (T.region ?_))); refine TL.y (Yv.ao rfl rfl rfl (by omega)) ?_; refine TL.run 1 rfl ?_; refine TL.nil ?_; rw [← hn2] at hk; refine K.pick [0, 1] rfl (by decide) ?_; exact K.next (i_3 + 1) hk (by omega) (.c (.c (.c (.c .nil)))) (List.Sublist.refl _)
      · have p4 := of_decide_eq_false h4; rw [zas (by omega), ← hkk2] at hk; (try dsimp only at hk); refine T.exit (K.aa (K.aa (K.ad ?_))); exact K.ae () hk .nil (List.Sublist.refl _)
  · rintro _ hk; rw [← hk1] at hk; (try dsimp only at hk); refine T.sr ?_; refine TL.run 1 rfl ?_; refine TL.ns (T.ret ?_); obtain rfl := Option.some.inj hk; exact K.ai rfl rfl (fun w' hw => ⟨⟨⟩, trivial, rfl, FxM.of (hw.pick (idx := [0, 1]) rfl (by decide)) hS0 (Frz.Le.refl _)⟩)
def zb8 (c : GCap) (xf0_ : GSet) : Option Bool :=
  (zaL xf0_ c.Station).bind fun r7 =>
  some r7
theorem zeJ (F0 : Frz) (w : World) (hF0 : F0.At w) (c : GCap) (xf0_ : GSet) (gf0_ : Nat) (hO : Hp w (fps [.row gf0_ 124 (xf0_.words.1.map U)]) [.row gf0_ 124 (xf0_.words.1.map U)] w) (hA : ∀ g, fps [.row gf0_ 124 (xf0_.words.1.map U)] g → ¬ F0.S g) (r : Bool) (hr : zb8 c xf0_ = some r) : Calls Tryz.prog 74 #[.agg [.int .i64 c.Station, .int .i64 c.Max, .int .i64 c.Low, .int .i64 c.High].toArray, .pointer (some ⟨gf0_, 0, none⟩)] w fun e w' => ∃ (y : Unit), (True) ∧ e = .returned (.bool r) ∧ FxM F0 w (fps [.row gf0_ 124 (xf0_.words.1.map U)]) F0 [.row gf0_ 124 (xf0_.words.1.map U)] w' := by
  have hk := hr; unfold zb8 at hk; obtain ⟨S0, F1, rfl, hS0, hp0⟩ := zbl hF0 hO hA; refine zap (hs := [.row gf0_ 124 (xf0_.words.1.map U), .fr F1]) Tryz.func74 rfl rfl rfl hp0 ?_; refine T.sr ?_; refine TL.e (Ew.az rfl rfl) ?_; rintro _ _ ⟨g2, rfl, rfl⟩; refine TL.run 1 rfl ?_; refine TL.ns (T.seq ?_); have hq := zal hk; clear hk; obtain ⟨r7, hr7, hk⟩ := hq; (try dsimp only at hk); refine T.region ?_; refine TL.y (Yv.aj 1 rfl rfl rfl Vec.len) ?_; refine TL.y (Yv.fieldAddr rfl rfl) ?_; refine TL.y (Yv.a 0 rfl rfl rfl rfl) ?_; refine TL.e (Ew.ag rfl rfl rfl (fun w hw => zbg _ w (hw.fr (i := 2) rfl) xf0_ c.Station r7 hr7)) ?_; rintro _ _ ⟨rfl, rfl⟩; refine TL.run 1 rfl ?_; refine TL.ns (T.ret ?_); obtain rfl := Option.some.inj hk; exact K.ai rfl rfl (fun w' hw => ⟨⟨⟩, trivial, rfl, FxM.of (hw.pick (idx := [1, 2]) rfl (by decide)) hS0 (Frz.Le.refl _)⟩)
def zba (l : List GCap) (x1c0_ : GSet) : Option Bool :=
  zaI (fun (_ : Unit) =>
    some true)
  (fun k1 =>
    zai (fun (i_3 : Nat) (next2 : Unit → Option Bool) (_ : Unit) =>
      (zb8 (nth l i_3) x1c0_).bind fun r15 =>
      (bif !r15 then
        some false
        else
        next2 ()))
    (fun (_ : Unit) =>
      k1 ()) (l.length - 0) 0 ())
theorem zcE (F0 : Frz) (w : World) (hF0 : F0.At w) (l : List GCap) (vl : Value) (hl : SlC F0 vl 4 (l.map GCap.enc)) (x1c0_ : GSet) (g1c0_ : Nat) (hO : Hp w (fps [.row g1c0_ 124 (x1c0_.words.1.map U)]) [.row g1c0_ 124 (x1c0_.words.1.map U)] w) (hA : ∀ g, fps [.row g1c0_ 124 (x1c0_.words.1.map U)] g → ¬ F0.S g) (r : Bool) (hr : zba l x1c0_ = some r) : Calls Tryz.prog 73 #[vl, .func (.func 74) #[] #[.pointer (some ⟨g1c0_, 0, none⟩)]] w fun e w' => ∃ (y : Unit), (True) ∧ e = .returned (.bool r) ∧ FxM F0 w (fps [.row g1c0_ 124 (x1c0_.words.1.map U)]) F0 [.row g1c0_ 124 (x1c0_.words.1.map U)] w' := by
  have hk := hr; unfold zba at hk; haveI := hl.oneC; obtain ⟨S0, F1, rfl, hS0, hp0⟩ := zbl hF0 hO hA; refine zap (hs := [.row g1c0_ 124 (x1c0_.words.1.map U), .fr F1]) Tryz.func73 rfl rfl rfl hp0 ?_; refine T.sr ?_; refine TL.run 1 rfl ?_; refine TL.ns (T.seq (T.sr ?_)); refine TL.run 1 rfl ?_; refine TL.y (Yv.an rfl rfl hl (List.length_map _)) ?_; have hm8 : l.length ≤ 9223372036854775807 := (List.length_map _) ▸ hl.max; refine TL.run 1 rfl ?_; refine TL.ns ?_; have hq := zag hk; clear hk; obtain ⟨k1, hk1, hk⟩ := hq; (try dsimp only at hk); refine T.af (ι := Unit) (fun z => []) (fun z => [.row g1c0_ 124 (x1c0_.words.1.map U), .fr F1]) (fun z => k1 () = some r) ?_ ?_
  · have hq := zak hk; clear hk; obtain ⟨f2, kk2, hf2, hkk2, hk⟩ := hq; refine T.block ?_; refine T.loop (ι := Nat) (fun z => [(1, .func (.func 74) #[] #[.pointer (some ⟨g1c0_, 0, none⟩)]), (7, vl), (8, .int .i64 (l.length : Int)), (9, .int .i64 (z : Int))]) (fun z => [.row g1c0_ 124 (x1c0_.words.1.map U), .fr F1]) (fun z => zai f2 kk2 (l.length - z) z () = some r) (fun z => l.length - z) 0 ?_ ?_ ?_ ?_
    · exact hk
    · exact (.c (.c (.c (.c .nil))))
    · exact List.Sublist.refl _
    · rintro i_3 hk; refine T.sr ?_; refine TL.run 1 rfl ?_; refine TL.ns (T.seq ?_); refine T.cond rfl (fun h4 => ?_) (fun h4 => ?_)
      · have p4 := of_decide_eq_true h4; rw [zat (by omega)] at hk; generalize hn2 : zai f2 kk2 (l.length - (i_3 + 1)) (i_3 + 1) = next2 at hk; rw [← hf2] at hk; (try dsimp only at hk); refine T.skip (K.seq (T.seq (T.block (T.sr ?_)))); refine TL.y (Yv.am (i := i_3) rfl rfl rfl hl (List.length_map _) rfl (by omega)) ?_; refine TL.y (Yv.aq 1 (i := i_3) rfl rfl rfl hl (by omega) rfl rfl rfl) ?_; refine TL.e (Ew.alloc rfl) ?_; rintro _ _ ⟨g6, rfl, rfl⟩; refine TL.e0 (Ew.ak 0 rfl rfl rfl rfl rfl rfl) ?_; rintro _ _ ⟨rfl, rfl⟩; refine TL.ns (T.seq ?_); have hq := zal hk; clear hk; obtain ⟨r15, hr15, hk⟩ := hq; (try dsimp only at hk); refine T.region ?_; refine TL.run 1 rfl ?_; refine TL.y (Yv.aj 0 rfl rfl rfl rfl) ?_; refine TL.e (Ew.au [1, 2, 0] [.row g1c0_ 124 (x1c0_.words.1.map U)] [.row g6 76 [.int .i64 ((nth l i_3).Station), .int .i64 ((nth l i_3).Max), .int .i64 ((nth l i_3).Low), .int .i64 ((nth l i_3).High)]] rfl rfl rfl rfl (by decide) (fun w hw hw2 hF => zeJ _ w hF (nth l i_3) x1c0_ g1c0_ hw2.takes.1 hw2.takes.2 r15 hr15)) ?_; rintro _ _ ⟨⟨⟩, -, rfl, rfl⟩; dsimp only [List.cons_append, List.nil_append]; refine TL.run 1 rfl ?_; refine TL.ns ?_; refine T.cond rfl (fun h5 => ?_) (fun h5 => ?_)
        · replace hk := zaa hk h5; refine T.sr ?_; refine TL.run 1 rfl ?_; refine TL.ns (T.ret (K.ah (K.ab (K.ab (K.ah (K.ab ?_)))))); obtain rfl := Option.some.inj hk; exact K.ai rfl rfl (fun w' hw => ⟨⟨⟩, trivial, rfl, FxM.of (hw.pick (idx := [0, 1]) rfl (by decide)) hS0 (Frz.Le.refl _)⟩)
        · replace hk := zab hk h5; refine T.skip (K.ac (K.seq (T.region ?_))); refine TL.y (Yv.ao rfl rfl rfl (by omega)) ?_; refine TL.run 1 rfl ?_; refine TL.nil ?_; rw [← hn2] at hk; refine K.pick [0, 1] rfl (by decide) ?_; exact K.next (i_3 + 1) hk (by omega) (.c (.c (.c (.c .nil)))) (List.Sublist.refl _)
      · have p4 := of_decide_eq_false h4; rw [zas (by omega), ← hkk2] at hk; (try dsimp only at hk); refine T.exit (K.aa (K.aa (K.ad ?_))); exact K.ae () hk .nil (List.Sublist.refl _)
  · rintro _ hk; rw [← hk1] at hk; (try dsimp only at hk); refine T.sr ?_; refine TL.run 1 rfl ?_; refine TL.ns (T.ret ?_); obtain rfl := Option.some.inj hk; exact K.ai rfl rfl (fun w' hw => ⟨⟨⟩, trivial, rfl, FxM.of (hw.pick (idx := [0, 1]) rfl (by decide)) hS0 (Frz.Le.refl _)⟩)
def zb5 (p : GProblem) : Option Bool :=
  (zaO p.Domains).bind fun r7 =>
  zaI (fun (x_1 : Bool) =>
    (bif x_1 then
      some false
      else
      (zaV p.Domains).bind fun r18 =>
      (bif !r18 then
        some false
        else
        (zcc p).bind fun r21 =>
        (za8 p.Rules.Pairs r21).bind fun r26 =>
        zaI (fun (x_6 : Bool) =>
          some x_6)
        (fun k7 =>
          (bif r26 then
            (za9 p.Rules.Loads r21).bind fun r32 =>
            (bif r32 then
              (zba p.Rules.Caps r21).bind fun r39 =>
              k7 r39
              else
              k7 false)
            else
            k7 false)))))
  (fun k2 =>
    (bif !r7 then
      k2 true
      else
      (zbK p.Rules).bind fun r12 =>
      k2 (!r12)))
theorem zdM (F0 : Frz) (w : World) (hF0 : F0.At w) (p : GProblem) (vp_0 : Value) (cp_0 : List (List Value)) (hp_0 : SlD GDomain.rep F0 vp_0 2 cp_0 p.Domains) (vp_1 : Value) (hp_1 : SlC F0 vp_1 5 (p.Rules.Pairs.map GPair.enc)) (vp_2 : Value) (hp_2 : SlC F0 vp_2 5 (p.Rules.Loads.map GLoad.enc)) (vp_3 : Value) (hp_3 : SlC F0 vp_3 4 (p.Rules.Caps.map GCap.enc)) (r : Bool) (hr : zb5 p = some r) : Calls Tryz.prog 37 #[.agg [vp_0, vp_1, vp_2, vp_3].toArray] w fun e w' => e = .returned (.bool r) ∧ Below w.heap.size w w' := by
  have hk := hr; unfold zb5 at hk; haveI := hp_0.1.oneC; haveI := hp_1.oneC; haveI := hp_2.oneC; haveI := hp_3.oneC; obtain ⟨S0, F1, rfl, hS0, hp0⟩ := zam hF0; refine zap Tryz.func37 rfl rfl rfl hp0 ?_; refine T.sr ?_; refine TL.e (Ew.az rfl rfl) ?_; rintro _ _ ⟨g1, rfl, rfl⟩; refine TL.run 1 rfl ?_; refine TL.ns (T.seq (T.seq ?_)); have hq := zal hk; clear hk; obtain ⟨r7, hr7, hk⟩ := hq; (try dsimp only at hk); have hq := zag hk; clear hk; obtain ⟨k2, hk2, hk⟩ := hq; (try dsimp only at hk); refine T.af (ι := Bool) (fun z => [(1, .pointer (some ⟨g1, 0, none⟩)), (14, .bool z)]) (fun z => [.row g1 29 [vp_0, vp_1, vp_2, vp_3], .fr F1]) (fun z => k2 z = some r) ?_ ?_
  · refine T.region ?_; refine TL.y (Yv.fieldAddr rfl rfl) ?_; refine TL.y (Yv.a 0 rfl rfl rfl rfl) ?_; refine TL.e (Ew.ag rfl rfl rfl (fun w hw => zb0 _ w (hw.fr (i := 1) rfl) p.Domains vp_0 cp_0 hp_0 r7 hr7)) ?_; rintro _ _ ⟨rfl, rfl⟩; refine TL.run 2 rfl ?_; refine TL.gs rfl rfl rfl (fun h3 => ?_) (fun h3 => ?_)
    · replace hk := zaa hk h3; refine TL.run 5 rfl ?_; refine TL.nil ?_; exact K.ae true hk (.c (.c .nil)) (List.Sublist.refl _)
    · replace hk := zab hk h3; refine TL.y (Yv.fieldAddr rfl rfl) ?_; refine TL.y (Yv.bc 0 (m := [vp_1, vp_2, vp_3]) rfl rfl rfl rfl rfl) ?_; have hq := zal hk; clear hk; obtain ⟨r12, hr12, hk⟩ := hq; refine TL.e (Ew.ag rfl rfl rfl (fun w hw => zeb _ w (hw.fr (i := 1) rfl) p.Rules vp_1 hp_1 vp_2 hp_2 vp_3 hp_3 r12 hr12)) ?_; rintro _ _ ⟨rfl, rfl⟩; refine TL.run 2 rfl ?_; refine TL.nil ?_; exact K.ae (!r12) hk (.c (.c .nil)) (List.Sublist.refl _)
  · rintro x_1 hk; rw [← hk2] at hk; (try dsimp only at hk); refine T.cond rfl (fun h4 => ?_) (fun h4 => ?_)
    · replace hk := zaa hk h4; refine T.sr ?_; refine TL.run 1 rfl ?_; refine TL.ns (T.ret (K.ab ?_)); obtain rfl := Option.some.inj hk; exact K.ai rfl rfl (fun w' hw => ⟨rfl, hw.isBelow⟩)
    · replace hk := zab hk h4; refine T.skip (K.seq (T.sr ?_)); refine TL.run 1 rfl ?_; refine TL.ns (T.seq (T.seq ?_)); have hq := zal hk; clear hk; obtain ⟨r18, hr18, hk⟩ := hq; (try dsimp only at hk); refine T.region ?_; refine TL.y (Yv.fieldAddr rfl rfl) ?_; refine TL.y (Yv.a 0 rfl rfl rfl rfl) ?_; refine TL.run 1 rfl ?_; refine TL.e (Ew.ag rfl rfl rfl (fun w hw => zcf _ w (hw.fr (i := 1) rfl) p.Domains vp_0 cp_0 hp_0 r18 hr18)) ?_; rintro _ _ ⟨rfl, rfl⟩; refine TL.run 1 rfl ?_; refine TL.ns ?_; refine T.cond rfl (fun h5 => ?_) (fun h5 => ?_)
      · replace hk := zaa hk h5; refine T.sr ?_; refine TL.run 1 rfl ?_; refine TL.ns (T.ret (K.ab ?_)); obtain rfl := Option.some.inj hk; exact K.ai rfl rfl (fun w' hw => ⟨rfl, hw.isBelow⟩)
      · replace hk := zab hk h5; refine T.skip (K.seq (T.seq ?_)); have hq := zal hk; clear hk; obtain ⟨r21, hr21, hk⟩ := hq; (try dsimp only at hk); refine T.region ?_; refine TL.y (Yv.aj 0 rfl rfl rfl rfl) ?_; refine TL.e (Ew.ag rfl rfl rfl (fun w hw => zeI _ w (hw.fr (i := 1) rfl) p vp_0 cp_0 hp_0 vp_1 hp_1 vp_2 hp_2 vp_3 hp_3 r21 hr21)) ?_; rintro _ _ ⟨rfl, rfl⟩; refine TL.e (Ew.aQ (l := ((Vec.fill 8 (0#64)).1.map U)) rfl (by kernel_rfl)) ?_; rintro _ _ ⟨g4, rfl, rfl⟩; refine TL.e0 (Ew.ak 0 rfl rfl rfl rfl Vec.len (Vec.len.trans Vec.len.symm)) ?_; rintro _ _ ⟨rfl, rfl⟩; refine TL.ns (T.seq ?_); have hq := zal hk; clear hk; obtain ⟨r26, hr26, hk⟩ := hq; (try dsimp only at hk); have hq := zag hk; clear hk; obtain ⟨k7, hk7, hk⟩ := hq; (try dsimp only at hk); refine T.af (ι := Bool) (fun z => [(2, .bool z)]) (fun z => [.fr F1]) (fun z => k7 z = some r) ?_ ?_
        · refine T.region ?_; refine TL.y (Yv.fieldAddr rfl rfl) ?_; refine TL.y (Yv.fieldAddr rfl rfl) ?_; refine TL.y (Yv.a 1 rfl rfl rfl rfl) ?_; refine TL.run 1 rfl ?_; refine TL.e (Ew.au [0, 2, 1] [.row g4 124 (r21.words.1.map U)] [.row g1 29 [vp_0, vp_1, vp_2, vp_3]] rfl rfl rfl rfl (by decide) (fun w hw hw2 hF => zcx _ w hF p.Rules.Pairs vp_1 hp_1 r21 g4 hw2.takes.1 hw2.takes.2 r26 hr26)) ?_; rintro _ _ ⟨⟨⟩, -, rfl, rfl⟩; dsimp only [List.cons_append, List.nil_append]; refine TL.run 1 rfl ?_; refine TL.gs rfl rfl rfl (fun h8 => ?_) (fun h8 => ?_)
          · replace hk := zaa hk h8; refine TL.y (Yv.fieldAddr rfl rfl) ?_; refine TL.y (Yv.fieldAddr rfl rfl) ?_; refine TL.y (Yv.a 2 rfl rfl rfl rfl) ?_; refine TL.run 1 rfl ?_; have hq := zal hk; clear hk; obtain ⟨r32, hr32, hk⟩ := hq; refine TL.e (Ew.au [0, 1, 2] [.row g4 124 (r21.words.1.map U)] [.row g1 29 [vp_0, vp_1, vp_2, vp_3]] rfl rfl rfl rfl (by decide) (fun w hw hw2 hF => zcy _ w hF p.Rules.Loads vp_2 hp_2 r21 g4 hw2.takes.1 hw2.takes.2 r32 hr32)) ?_; rintro _ _ ⟨⟨⟩, -, rfl, rfl⟩; dsimp only [List.cons_append, List.nil_append]; refine TL.run 2 rfl ?_; refine TL.gs rfl rfl rfl (fun h9 => ?_) (fun h9 => ?_)
            · replace hk := zaa hk h9; refine TL.y (Yv.fieldAddr rfl rfl) ?_; refine TL.y (Yv.fieldAddr rfl rfl) ?_; refine TL.y (Yv.a 2 rfl rfl rfl rfl) ?_; refine TL.run 1 rfl ?_; have hq := zal hk; clear hk; obtain ⟨r39, hr39, hk⟩ := hq; refine TL.e (Ew.au [0, 1, 2] [.row g4 124 (r21.words.1.map U)] [.row g1 29 [vp_0, vp_1, vp_2, vp_3]] rfl rfl rfl rfl (by decide) (fun w hw hw2 hF => zcE _ w hF p.Rules.Caps vp_3 hp_3 r21 g4 hw2.takes.1 hw2.takes.2 r39 hr39)) ?_; rintro _ _ ⟨⟨⟩, -, rfl, rfl⟩; dsimp only [List.cons_append, List.nil_append]; refine TL.run 2 rfl ?_; refine TL.nil ?_; refine K.pick [1] rfl (by decide) ?_; exact K.ae r39 hk (.c .nil) (List.Sublist.refl _)
            · replace hk := zab hk h9; refine TL.run 7 rfl ?_; refine TL.nil ?_; refine K.pick [1] rfl (by decide) ?_; exact K.ae false hk (.c .nil) (List.Sublist.refl _)
          · replace hk := zab hk h8; refine TL.run 14 rfl ?_; refine TL.nil ?_; refine K.pick [1] rfl (by decide) ?_; exact K.ae false hk (.c .nil) (List.Sublist.refl _)
        · rintro x_6 hk; rw [← hk7] at hk; (try dsimp only at hk); refine T.ret ?_; obtain rfl := Option.some.inj hk; exact K.ai rfl rfl (fun w' hw => ⟨rfl, hw.isBelow⟩)
section
variable {σ ρ α : Type}
theorem zh3 {f : Nat → (Unit → Bool) → Unit → Bool} {k : Unit → Bool} {n : Nat} (q : Nat → Bool) (hf : ∀ i next, i < n → f i next () = (q i || next ())) : zai f k n 0 () = ((List.range n).any q || k ()) := by
  have key : ∀ m i, i + m = n → zai f k m i () = ((List.range' i m).any q || k ()) := by
    intro m
    induction m with
    | zero => intro i _; simp [zai]
    | succ m ih =>
      intro i e
      show f i (zai f k m (i + 1)) () = _
      rw [hf i _ (by omega), ih (i + 1) (by omega), List.range'_succ, List.any_cons, Bool.or_assoc]
  rw [key n 0 (by omega), List.range_eq_range']
theorem zf1 {f : Nat → (Unit → Bool) → Unit → Bool} {k : Unit → Bool} {n : Nat} (q : Nat → Bool) (hf : ∀ i next, i < n → f i next () = (q i && next ())) : zai f k n 0 () = ((List.range n).all q && k ()) := by
  have key : ∀ m i, i + m = n → zai f k m i () = ((List.range' i m).all q && k ()) := by
    intro m
    induction m with
    | zero => intro i _; simp [zai]
    | succ m ih =>
      intro i e
      show f i (zai f k m (i + 1)) () = _
      rw [hf i _ (by omega), ih (i + 1) (by omega), List.range'_succ, List.all_cons, Bool.and_assoc]
  rw [key n 0 (by omega), List.range_eq_range']
theorem zcT {f : Nat → (σ → ρ) → σ → ρ} {k : σ → ρ} {n : Nat} {s : σ} (g : Nat → σ → σ) (hf : ∀ i next s, i < n → f i next s = next (g i s)) : zai f k n 0 s = k ((List.range n).foldl (fun s i => g i s) s) := by
  have key : ∀ m i s, i + m = n → zai f k m i s = k ((List.range' i m).foldl (fun s i => g i s) s) := by
    intro m
    induction m with
    | zero => intro i s _; rfl
    | succ m ih =>
      intro i s e
      show f i (zai f k m (i + 1)) s = _
      rw [hf i _ _ (by omega), ih (i + 1) _ (by omega), List.range'_succ, List.foldl_cons]
  rw [key n 0 s (by omega), List.range_eq_range']
theorem zck {f : Nat → (σ → ρ) → σ → ρ} {k : σ → ρ} {n : Nat} {s : σ} (I : Nat → σ → Prop) (g : Nat → σ → σ) (h0 : I 0 s) (hI : ∀ i s, i < n → I i s → I (i + 1) (g i s)) (hf : ∀ i next s, i < n → I i s → f i next s = next (g i s)) : zai f k n 0 s = k ((List.range n).foldl (fun s i => g i s) s) ∧ I n ((List.range n).foldl (fun s i => g i s) s) := by
  have key : ∀ m i s, i + m = n → I i s → zai f k m i s = k ((List.range' i m).foldl (fun s i => g i s) s) ∧ I n ((List.range' i m).foldl (fun s i => g i s) s) := by
    intro m
    induction m with
    | zero => intro i s e hs; rw [show i = n by omega] at hs; exact ⟨rfl, hs⟩
    | succ m ih =>
      intro i s e hs; have := ih (i + 1) (g i s) (by omega) (hI i s (by omega) hs); rw [List.range'_succ, List.foldl_cons]; refine ⟨?_, this.2⟩; rw [← this.1]; exact hf i _ s (by omega) hs
  rw [List.range_eq_range']; exact key n 0 s (by omega) h0
theorem zf5 {l : List α} [Inhabited α] {q : α → Bool} : ((List.range l.length).any fun i => q (nth l i)) = l.any q := by
  rw [Bool.eq_iff_iff, List.any_eq_true, List.any_eq_true]; constructor
  · rintro ⟨i, hi, h⟩; exact ⟨nth l i, by rw [zaP (List.mem_range.1 hi)]; exact List.getElem_mem _, h⟩
  · rintro ⟨x, hx, h⟩; obtain ⟨i, hi, rfl⟩ := List.mem_iff_getElem.1 hx; exact ⟨i, List.mem_range.2 hi, by rw [zaP hi]; exact h⟩
theorem zds {l : List α} [Inhabited α] {q : α → Bool} : ((List.range l.length).all fun i => q (nth l i)) = l.all q := by
  have h := zf5 (l := l) (q := fun x => !q x); rw [Bool.eq_iff_iff, List.all_eq_true, List.all_eq_true]; constructor
  · intro h x hx; obtain ⟨i, hi, rfl⟩ := List.mem_iff_getElem.1 hx; have := h i (List.mem_range.2 hi)
    rwa [zaP hi] at this
  · intro h i hi; have hi := List.mem_range.1 hi; rw [zaP hi]; exact h _ (List.getElem_mem _)
theorem zcr {l : List α} [Inhabited α] {g : σ → α → σ} {s : σ} : (List.range l.length).foldl (fun s i => g s (nth l i)) s = l.foldl g s := by
  have e : l = (List.range l.length).map (nth l) := by
    apply List.ext_getElem
    · simp
    · intro i h1 h2; simp [zaP h1]
  conv => rhs; rw [e, List.foldl_map]
theorem zfZ {x : Int} (h : -9223372036854775808 ≤ x ∧ x ≤ 9223372036854775807) : wI x = x := IntWalk.i64_in _ h
end
theorem zbS {ρ : Type} {f : Nat → (Unit → ρ) → Unit → ρ} {k : Unit → ρ} {z : ρ} (q : Nat → Bool) {n s : Nat} (hf : ∀ i next, s ≤ i → i < s + n → f i next () = bif q i then next () else z) : zai f k n s () = bif (List.range' s n).all q then k () else z := by
  induction n generalizing s with
  | zero => rfl
  | succ m ih =>
    show f s (zai f k m (s + 1)) () = _
    rw [hf s _ (Nat.le_refl _) (by omega), ih (fun i next h1 h2 => hf i next (by omega) (by omega)), List.range'_succ, List.all_cons]
    cases q s <;> rfl
theorem zi8 (n : Nat) (g t : Nat → Bool) : (List.range' 0 n).all (fun i => g i && (bif decide (0 < (i : Int)) then t i else true)) = ((List.range' 0 n).all g && (List.range' 1 (n - 1)).all t) := by
  rw [Bool.eq_iff_iff, Bool.and_eq_true, List.all_eq_true, List.all_eq_true, List.all_eq_true]; constructor
  · intro h; refine ⟨fun i hi => ((Bool.and_eq_true _ _).mp (h i hi)).1, fun i hi => ?_⟩; have hi' := List.mem_range'_1.1 hi; have h2 := ((Bool.and_eq_true _ _).mp (h i (List.mem_range'_1.2 ⟨by omega, by omega⟩))).2
    rwa [decide_eq_true (by omega), cond_true] at h2
  · rintro ⟨h1, h2⟩ i hi; have hi' := List.mem_range'_1.1 hi; rw [Bool.and_eq_true]; refine ⟨h1 i hi, ?_⟩; by_cases h0 : 0 < (i : Int)
    · rw [decide_eq_true h0, cond_true]; exact h2 i (List.mem_range'_1.2 ⟨by omega, by omega⟩)
    · rw [decide_eq_false h0]; rfl
def lexL : List Int → List Int → Bool
  | a :: x, b :: y => bif decide (a = b) then lexL x y else decide (a < b)
  | _, _ => false
theorem zhP {a b : List Int} {i : Nat} (h1 : i < a.length) (h2 : i < b.length) : lexL (a.drop i) (b.drop i) = bif decide (nth a i = nth b i) then lexL (a.drop (i + 1)) (b.drop (i + 1)) else decide (nth a i < nth b i) := by
  rw [List.drop_eq_getElem_cons h1, List.drop_eq_getElem_cons h2, ← zaP h1, ← zaP h2]; rfl
theorem zh5 {a b : List Int} (h : a.length = b.length) : zbZ a b = some (lexL a b) := by
  have key : ∀ m i, i + m = a.length → zai (fun (i : Nat) (next : Unit → Option Bool) (_ : Unit) => grd (0 ≤ (i : Int) ∧ (i : Int) < (b.length : Int)) (bif decide (¬ nth a i = nth b i) then some (decide (nth a i < nth b i)) else next ())) (fun _ => some false) m i () = some (lexL (a.drop i) (b.drop i)) := by
    intro m
    induction m with
    | zero => intro i e; rw [List.drop_eq_nil_of_le (show a.length ≤ i by omega)]; rfl
    | succ m ih =>
      intro i e; have h2 := ih (i + 1) (by omega)
      show grd _ _ = _
      rw [zaT ⟨by omega, by omega⟩, zhP (by omega) (by omega)]; by_cases e2 : nth a i = nth b i
      · rw [decide_eq_true e2, decide_eq_false (fun hn => hn e2), cond_false]; exact h2
      · rw [decide_eq_false e2, decide_eq_true e2, cond_true]; rfl
  have := key a.length 0 (by omega); rw [List.drop_zero, List.drop_zero] at this; exact this
def cmpc (a b : Int) : Int := bif decide (a < b) then -1 else bif decide (b < a) then 1 else 0
theorem ziJ (a b : Int) : zac a b = cmpc a b := by
  unfold zac zbF; rw [decide_eq_false (fun h => h rfl), decide_eq_false (fun h => h rfl)]; rfl
def orL : List Int → Int
  | [] => 0
  | v :: r => bif decide (¬ v = 0) then v else orL r
theorem or_x (l : List Int) : zcj l = orL l := by
  have key : ∀ m i, i + m = l.length → zai (fun (i : Nat) (next : Unit → Int) (_ : Unit) => bif decide (¬ nth l i = 0) then nth l i else next ()) (fun _ => (0 : Int)) m i () = orL (l.drop i) := by
    intro m
    induction m with
    | zero => intro i e; rw [List.drop_eq_nil_of_le (show l.length ≤ i by omega)]; rfl
    | succ m ih =>
      intro i e; have h2 := ih (i + 1) (by omega); rw [List.drop_eq_getElem_cons (show i < l.length by omega), ← zaP (show i < l.length by omega)]
      show (bif decide (¬ nth l i = 0) then nth l i else _) = bif decide (¬ nth l i = 0) then nth l i else _
      rw [← h2]
  have := key l.length 0 (by omega); rw [List.drop_zero] at this; exact this
theorem zgY : ∀ a b : List Int, decide (0 ≤ orL (List.zipWith cmpc a b)) = !lexL a b
  | [], b => by cases b <;> rfl
  | a :: x, [] => rfl
  | a :: x, b :: y => by
    have ih := zgY x y
    show decide (0 ≤ bif decide (¬ cmpc a b = 0) then cmpc a b else orL (List.zipWith cmpc x y)) = !(bif decide (a = b) then lexL x y else decide (a < b))
    unfold cmpc at *; rcases Int.lt_trichotomy a b with h | h | h
    · rw [decide_eq_true h, decide_eq_false (show ¬ a = b by omega)]; rfl
    · subst h; rw [decide_eq_false (Int.lt_irrefl a), decide_eq_true rfl]; exact ih
    · rw [decide_eq_false (show ¬ a < b by omega), decide_eq_true h, decide_eq_false (show ¬ a = b by omega)]; rfl
def zcY (x : GPair) : List Int := [x.A, x.B, x.Offset, x.Low, x.High]
def zcR (x : GLoad) : List Int := [x.To, x.From, x.Weight, x.Low, x.High]
def capL (x : GCap) : List Int := [x.Station, x.Max, x.Low, x.High]
theorem zhv (a b : GPair) : decide (0 ≤ zbj a b) = !lexL (zcY a) (zcY b) := by
  unfold zbj; rw [or_x]; simp only [ziJ]; exact zgY (zcY a) (zcY b)
theorem zhW (a b : GLoad) : decide (0 ≤ zbk a b) = !lexL (zcR a) (zcR b) := by
  unfold zbk; rw [or_x]; simp only [ziJ]; exact zgY (zcR a) (zcR b)
theorem ziM (a b : GCap) : decide (0 ≤ zbq a b) = !lexL (capL a) (capL b) := by
  unfold zbq; rw [or_x]; simp only [ziJ]; exact zgY (capL a) (capL b)
def adjB {α : Type} [Inhabited α] (lt : α → α → Bool) (l : List α) : Bool := (List.range' 1 (l.length - 1)).all fun i => lt (nth l (i - 1)) (nth l i)
theorem zhw {α : Type} [Inhabited α] {l : List α} {cmp : α → α → Int} {lt : α → α → Bool} (hc : ∀ a b, decide (0 ≤ cmp a b) = !lt a b) :
    zai (fun (i : Nat) (next : Unit → Option Bool) (_ : Unit) => grd (0 ≤ ((i : Int) - 1) ∧ ((i : Int) - 1) < (l.length : Int)) (bif decide (0 ≤ cmp (nth l (((i : Int) - 1).toNat)) (nth l i)) then some false else next ())) (fun _ => some true) (l.length - 1) 1 () = some (adjB lt l) := by
  rw [zbS (fun i => lt (nth l (i - 1)) (nth l i)) (z := some false) (fun i next h1 h2 => ?_)]
  · unfold adjB; cases (List.range' 1 (l.length - 1)).all fun i => lt (nth l (i - 1)) (nth l i) <;> rfl
  · rw [zaT ⟨by omega, by omega⟩, hc, show ((i : Int) - 1).toNat = i - 1 by omega]
    cases lt (nth l (i - 1)) (nth l i) <;> rfl
theorem zfO {α : Type} [Inhabited α] {l : List α} {q : α → Bool} : zai (fun (i : Nat) (next : Unit → Bool) (_ : Unit) => bif !(q (nth l i)) then false else next ()) (fun _ => true) (l.length - 0) 0 () = l.all q := by
  rw [Nat.sub_zero, zf1 (fun i => q (nth l i)) (fun i next hi => by cases q (nth l i) <;> rfl), zds, Bool.and_true]
def zdb (r : GRules) : Bool :=
  decide ((r.Pairs.length : Int) ≤ 4096) && (r.Pairs.all za3 && (adjB (fun a b => lexL (zcY a) (zcY b)) r.Pairs && (decide ((r.Loads.length : Int) ≤ 1024) && (r.Loads.all za4 && (adjB (fun a b => lexL (zcR a) (zcR b)) r.Loads && (decide ((r.Caps.length : Int) ≤ 1024) && (r.Caps.all za2 && adjB (fun a b => lexL (capL a) (capL b)) r.Caps)))))))
theorem zf3 (r : GRules) : zbK r = some (zdb r) := by
  have e1 : zaG r.Pairs = r.Pairs.all za3 := zfO; have e2 : zaH r.Loads = r.Loads.all za4 := zfO; have e3 : zaM r.Caps = r.Caps.all za2 := zfO; have i1 : zaE r.Pairs = some (adjB (fun a b => lexL (zcY a) (zcY b)) r.Pairs) := zhw zhv; have i2 : zaD r.Loads = some (adjB (fun a b => lexL (zcR a) (zcR b)) r.Loads) := zhw zhW; have i3 : zaK r.Caps = some (adjB (fun a b => lexL (capL a) (capL b)) r.Caps) := zhw ziM; unfold zbK zdb; rw [e1, e2, e3, i1, i2, i3]; simp only [zaI, Option.bind_some]
  cases decide ((r.Pairs.length : Int) ≤ 4096) <;> cases r.Pairs.all za3 <;> cases adjB (fun a b => lexL (zcY a) (zcY b)) r.Pairs <;> try rfl
  cases decide ((r.Loads.length : Int) ≤ 1024) <;> cases r.Loads.all za4 <;> cases adjB (fun a b => lexL (zcR a) (zcR b)) r.Loads <;> try rfl
  cases decide ((r.Caps.length : Int) ≤ 1024) <;> cases r.Caps.all za2 <;> rfl
theorem zde (a b : Int) : decide (a < b) = !decide (b ≤ a) := by
  by_cases h : a < b
  · rw [decide_eq_true h, decide_eq_false (by omega)]; rfl
  · rw [decide_eq_false h, decide_eq_true (by omega)]; rfl
theorem zhT (a b : Int) : decide (a ≤ b) = !decide (b < a) := by
  by_cases h : a ≤ b
  · rw [decide_eq_true h, decide_eq_false (by omega)]; rfl
  · rw [decide_eq_false h, decide_eq_true (by omega)]; rfl
theorem zjD (a b : Int) : decide (a = b) = !decide (¬ a = b) := by
  by_cases h : a = b
  · rw [decide_eq_true h, decide_eq_false (by omega)]; rfl
  · rw [decide_eq_false h, decide_eq_true h]; rfl
theorem zjq {ρ : Type} (a b c d e f g t : Bool) (n z : Option ρ) : zaI (fun x => bif x then z else n) (fun (k : Bool → Option ρ) => bif !a then k true else bif !b then k true else bif !c then k true else bif !d then k true else bif !e then k true else bif !f then k true else bif g then (some t).bind fun r => k (!r) else k false) = bif (((((a && b) && c) && (d && e)) && f) && (bif g then t else true)) then n else z := by
  cases a <;> cases b <;> cases c <;> try rfl
  cases d <;> cases e <;> cases f <;> try rfl
  cases g <;> cases t <;> rfl
theorem body4 {ρ : Type} (a d e f g t : Bool) (n z : Option ρ) : zaI (fun x => bif x then z else n) (fun (k : Bool → Option ρ) => bif !a then k true else bif !d then k true else bif !e then k true else bif !f then k true else bif g then (some t).bind fun r => k (!r) else k false) = bif (((a && (d && e)) && f) && (bif g then t else true)) then n else z := by
  cases a <;> cases d <;> cases e <;> cases f <;> try rfl
  cases g <;> cases t <;> rfl
theorem zem {α : Type} [Inhabited α] (l : List α) (g : α → Bool) (lt : α → α → Bool) : ((List.range' 0 (l.length - 0)).all fun i => g (nth l i) && (bif decide (0 < (i : Int)) then lt (nth l (i - 1)) (nth l i) else true)) = (l.all g && adjB lt l) := by
  rw [Nat.sub_zero, zi8 l.length (fun i => g (nth l i)) (fun i => lt (nth l (i - 1)) (nth l i)), ← List.range_eq_range', zds]; rfl
theorem lessP (x y : GPair) : zbZ (zbD x) (zbD y) = some (lexL (zcY x) (zcY y)) := zh5 rfl
theorem lessL (x y : GLoad) : zbZ (zbC x) (zbC y) = some (lexL (zcR x) (zcR y)) := zh5 rfl
theorem lessC (x y : GCap) : zbZ (zbP x) (zbP y) = some (lexL (capL x) (capL y)) := zh5 rfl
theorem zhd (r : GRules) : zbE r = some (zdb r) := by
  unfold zbE
  show (bif _ then some false else zai _ (fun _ => zai _ (fun _ => zai _ (fun _ => some true) (r.Caps.length - 0) 0 ()) (r.Loads.length - 0) 0 ()) (r.Pairs.length - 0) 0 ()) = _
  rw [zbS (n := r.Pairs.length - 0) (fun i => za3 (nth r.Pairs i) && (bif decide (0 < (i : Int)) then lexL (zcY (nth r.Pairs (i - 1))) (zcY (nth r.Pairs i)) else true)) (z := some false) (fun i next h1 h2 => ?_)]; rw [zbS (n := r.Loads.length - 0) (fun i => za4 (nth r.Loads i) && (bif decide (0 < (i : Int)) then lexL (zcR (nth r.Loads (i - 1))) (zcR (nth r.Loads i)) else true)) (z := some false) (fun i next h1 h2 => ?_)]; rw [zbS (n := r.Caps.length - 0) (fun i => za2 (nth r.Caps i) && (bif decide (0 < (i : Int)) then lexL (capL (nth r.Caps (i - 1))) (capL (nth r.Caps i)) else true)) (z := some false) (fun i next h1 h2 => ?_)]
  · rw [zem r.Pairs za3 (fun a b => lexL (zcY a) (zcY b)), zem r.Loads za4 (fun a b => lexL (zcR a) (zcR b)), zem r.Caps za2 (fun a b => lexL (capL a) (capL b))]; unfold zdb; rw [zde 4096, zde 1024, zde 1024]
    cases decide ((r.Pairs.length : Int) ≤ 4096) <;> cases decide ((r.Loads.length : Int) ≤ 1024) <;> cases decide ((r.Caps.length : Int) ≤ 1024) <;> cases r.Pairs.all za3 <;> try rfl
    all_goals (cases adjB (fun a b => lexL (zcY a) (zcY b)) r.Pairs <;> cases r.Loads.all za4 <;> cases adjB (fun a b => lexL (zcR a) (zcR b)) r.Loads <;> cases r.Caps.all za2 <;> cases adjB (fun a b => lexL (capL a) (capL b)) r.Caps <;> rfl)
  · skip; rw [show ((i : Int) - 1).toNat = i - 1 by omega, lessC, zde _ 0, zde 1099511627776]; exact body4 ..
  · skip; rw [show ((i : Int) - 1).toNat = i - 1 by omega, lessL, zjD (nth r.Loads i).To, zde _ 1, zde 1073741824]; exact zjq ..
  · skip; rw [show ((i : Int) - 1).toNat = i - 1 by omega, lessP, zhT (nth r.Pairs i).B, zde _ (-1), zde 1]; exact zjq ..
theorem zaz {α : Type} [Inhabited α] {l : List α} {i : Nat} (h : i < l.length) : nth l i ∈ l := by rw [zaP h]; exact List.getElem_mem h
theorem zjd {c b : Nat} (hc : c < 64) : ((1#64) <<< c).getLsbD b = decide (b = c) := by
  rw [BitVec.getLsbD_shiftLeft]; by_cases h : b = c
  · subst h; simp [hc, BitVec.getLsbD_one]
  · rw [decide_eq_false h]; by_cases h2 : b < c
    · simp [h2]
    · have e : (1#64).getLsbD (b - c) = false := by
        rw [BitVec.getLsbD_one]; simp; omega
      rw [e, Bool.and_false]
theorem zjl {x : BitVec 64} {c : Nat} : decide ((((x >>> c) &&& (1#64)).toNat : Int) = ((1#64).toNat : Int)) = x.getLsbD c := by
  have e : ((x >>> c) &&& (1#64)) = bif x.getLsbD c then 1#64 else 0#64 := by
    refine BitVec.eq_of_getLsbD_eq fun b hb => ?_; rw [BitVec.getLsbD_and, BitVec.getLsbD_ushiftRight, BitVec.getLsbD_one]; by_cases h0 : b = 0
    · subst h0; cases x.getLsbD c <;> simp
    · cases x.getLsbD c <;> simp [h0]
  rw [e]
  cases x.getLsbD c <;> decide
def inS (s : GSet) (i : Int) : Bool := (decide (0 ≤ i) && decide (i < 512)) && (Vec.get s.words (i / 64).toNat).getLsbD (i % 64).toNat
theorem zid (s : GSet) (i : Int) : zaL s i = some (inS s i) := by
  unfold zaL inS zbn; by_cases h : 0 ≤ i ∧ i < 512
  · simp only [zaI]; rw [decide_eq_true h.1, decide_eq_true h.2]; simp only [Bool.and_self, cond_true]; rw [zaT ⟨h.1, by omega, by omega⟩, zaT ⟨by omega, by omega⟩, zaT ⟨h.1, by omega⟩, zaT ⟨by omega, by omega⟩, zjl, Bool.true_and]
  · have e : (decide (0 ≤ i) && decide (i < 512)) = false := by
      rw [Bool.and_eq_false_iff, decide_eq_false_iff_not, decide_eq_false_iff_not]; omega
    simp only [zaI]; rw [e]; rfl
def wS (v : Vec 8 (BitVec 64)) (n : Nat) : Bool := (Vec.get v (n / 64)).getLsbD (n % 64)
theorem zjs {v : Vec 8 (BitVec 64)} {j n : Nat} (hj : j < 512) : wS (Vec.put v (j / 64) (Vec.get v (j / 64) ||| ((1#64) <<< (j % 64)))) n = (wS v n || decide (n = j)) := by
  unfold wS; rw [Vec.get_put (by omega)]; by_cases h : n / 64 = j / 64
  · rw [if_pos h, BitVec.getLsbD_or, zjd (by omega), h]
    congr 1
    by_cases h2 : n % 64 = j % 64
    · rw [decide_eq_true h2, decide_eq_true (by omega)]
    · rw [decide_eq_false h2, decide_eq_false (by omega)]
  · rw [if_neg h, decide_eq_false (by omega), Bool.or_false]
theorem ziR {l : List Int} {i : Nat} (hi : i < l.length) (q : Int → Bool) : (l.take (i + 1)).any q = ((l.take i).any q || q (nth l i)) := by
  rw [List.take_add_one, List.getElem?_eq_getElem hi, List.any_append, zaP hi]; simp
theorem of_x {l : List Int} (h : ∀ x ∈ l, 0 ≤ x ∧ x < 512) : ∃ s, zcV l = some (s, 0) ∧ ∀ i : Int, inS s i = ((decide (0 ≤ i) && decide (i < 512)) && l.any fun x => decide (x = i)) := by
  have hn : ∀ i, i < l.length → 0 ≤ nth l i ∧ nth l i < 512 := fun i hi => h _ (zaz hi); unfold zcV
  obtain ⟨h1, h2⟩ := zck (k := fun s : Vec 8 (BitVec 64) × Vec 8 (BitVec 64) => (some (GSet.mk s.2, 0) : Option (GSet × Int))) (n := l.length) (s := (Vec.fill 8 (0#64), Vec.fill 8 (0#64)))
    (f := fun (i_7 : Nat) (next6 : (Vec 8 (BitVec 64) × Vec 8 (BitVec 64)) → Option (GSet × Int)) (s6 : Vec 8 (BitVec 64) × Vec 8 (BitVec 64)) =>
      (bif !(zbn (nth l i_7)) then
        some ((GSet.mk (Vec.fill 8 (0#64))), 2)
        else
        grd (0 ≤ (nth l i_7) ∧ (nth l i_7) ≤ 9223372036854775807 ∧ 1 ≤ (64 : Int)) <|
        grd (0 ≤ ((nth l i_7) / 64) ∧ ((nth l i_7) / 64) < (8 : Int)) <|
        grd (0 ≤ (nth l i_7) ∧ 1 ≤ (64 : Int)) <|
        grd (0 ≤ ((nth l i_7) % 64) ∧ ((nth l i_7) % 64) < (64 : Int)) <|
        next6 (s6.1, (Vec.put s6.2 (((nth l i_7) / 64).toNat) ((Vec.get s6.2 (((nth l i_7) / 64).toNat)) ||| ((1#64) <<< (((nth l i_7) % 64).toNat)))))))
    (fun i s => ∀ n, n < 512 → wS s.2 n = (l.take i).any fun x => decide (x = (n : Int)))
    (fun i s => (s.1, Vec.put s.2 ((nth l i).toNat / 64) (Vec.get s.2 ((nth l i).toNat / 64) ||| ((1#64) <<< ((nth l i).toNat % 64)))))
    (fun n hn => by
      unfold wS
      rw [Vec.get_fill (by omega)]; simp)
    (fun i s hi hs n hn2 => by
      have := hn i hi; rw [zjs (by omega), hs n hn2, ziR hi]
      congr 1
      by_cases e : nth l i = (n : Int)
      · rw [decide_eq_true e, decide_eq_true (by omega)]
      · rw [decide_eq_false e, decide_eq_false (by omega)])
    (fun i next s hi hs => by
      have := hn i hi
      have e : zbn (nth l i) = true := by
        unfold zbn; rw [decide_eq_true this.1, decide_eq_true this.2]; rfl
      rw [e, Bool.not_true, cond_false, zaT ⟨this.1, by omega, by omega⟩, zaT ⟨by omega, by omega⟩, zaT ⟨this.1, by omega⟩, zaT ⟨by omega, by omega⟩, show (nth l i / 64).toNat = (nth l i).toNat / 64 by omega, show (nth l i % 64).toNat = (nth l i).toNat % 64 by omega])
  refine ⟨_, h1, fun i => ?_⟩; unfold inS; by_cases hi : 0 ≤ i ∧ i < 512
  · rw [decide_eq_true hi.1, decide_eq_true hi.2, Bool.and_self, Bool.true_and, Bool.true_and]; have h3 := h2 i.toNat (by omega); rw [List.take_length] at h3; unfold wS at h3; rw [show (i / 64).toNat = i.toNat / 64 by omega, show (i % 64).toNat = i.toNat % 64 by omega]; refine h3.trans ?_; rw [show ((i.toNat : Nat) : Int) = i by omega]
  · have e : (decide (0 ≤ i) && decide (i < 512)) = false := by
      rw [Bool.and_eq_false_iff, decide_eq_false_iff_not, decide_eq_false_iff_not]; omega
    rw [e]; rfl
theorem zil {p : GProblem} (hr : room p.Domains.length 8) (h : ∀ d ∈ p.Domains, 0 ≤ d.Station ∧ d.Station < 512) : ∃ s, zcc p = some s ∧ ∀ i : Int, inS s i = ((decide (0 ≤ i) && decide (i < 512)) && p.Domains.any fun d => decide (d.Station = i)) := by
  obtain ⟨s, h1, h2⟩ := of_x (l := p.Domains.map (·.Station)) (fun x hx => by obtain ⟨d, hd, rfl⟩ := List.mem_map.1 hx; exact h d hd); refine ⟨s, ?_, fun i => by rw [h2 i, List.any_map]; rfl⟩; unfold zcc; rw [zaT hr]
  have h3 := zck (k := fun l : List Int => (zcV l).bind fun r28 => some r28.1) (n := p.Domains.length - 0) (s := List.replicate p.Domains.length (0 : Int))
    (f := fun (i_5 : Nat) (next4 : List Int → Option GSet) (l_3 : List Int) => grd (0 ≤ (i_5 : Int) ∧ (i_5 : Int) < (l_3.length : Int)) <| next4 (l_3.set i_5 ((nth p.Domains i_5).Station)))
    (fun i s => s.length = p.Domains.length ∧ ∀ k, k < i → nth s k = (nth p.Domains k).Station)
    (fun i s => s.set i (nth p.Domains i).Station)
    ⟨List.length_replicate .., fun k hk => by omega⟩
    (fun i s hi hs => ⟨by rw [List.length_set]; exact hs.1, fun k hk => by
      (have h4 : k < s.length := by have := hs.1; omega); rw [zaP (show k < (s.set i _).length by rw [List.length_set]; exact h4), List.getElem_set]; by_cases e : i = k
      · rw [if_pos e, e]
      · rw [if_neg e, ← zaP h4]; exact hs.2 k (by omega)⟩)
    (fun i next s hi hs => by rw [zaT ⟨by omega, by have := hs.1; omega⟩])
  refine h3.1.trans ?_
  have e : (List.range (p.Domains.length - 0)).foldl (fun s i => s.set i (nth p.Domains i).Station) (List.replicate p.Domains.length (0 : Int)) = p.Domains.map (·.Station) := by
    refine List.ext_getElem (by rw [h3.2.1, List.length_map]) fun k hk1 hk2 => ?_; (have hk : k < p.Domains.length := by rwa [List.length_map] at hk2); have h5 := h3.2.2 k (by omega); rw [zaP hk1, zaP hk] at h5; rw [h5, List.getElem_map]
  rw [e, h1]; rfl
theorem ziY (a b : Int) : decide (0 ≤ zac a b) = !decide (a < b) := by
  rw [ziJ]; unfold cmpc; rcases Int.lt_trichotomy a b with h | h | h
  · rw [decide_eq_true h]; rfl
  · subst h; rw [decide_eq_false (Int.lt_irrefl a)]; rfl
  · rw [decide_eq_false (show ¬ a < b by omega), decide_eq_true h]; rfl
theorem ze5 {α : Type} [Inhabited α] {l : List α} {q : α → Option Bool} {p : α → Bool} (h : ∀ x, q x = some (p x)) : zai (fun (i : Nat) (next : Unit → Option Bool) (_ : Unit) => (q (nth l i)).bind fun r => bif !r then some false else next ()) (fun _ => some true) (l.length - 0) 0 () = some (l.all p) := by
  rw [Nat.sub_zero, zbS (fun i => p (nth l i)) (z := some false) (fun i next h1 h2 => by rw [h]; show (bif !p (nth l i) then _ else _) = _; cases p (nth l i) <;> rfl), ← List.range_eq_range', zds]
  cases l.all p <;> rfl
def okD (d : GDomain) : Bool := zah d.Station && (d.Channels.all zar && adjB (fun a b => decide (a < b)) d.Channels)
def hasD (p : GProblem) (i : Int) : Bool := (decide (0 ≤ i) && decide (i < 512)) && p.Domains.any fun d => decide (d.Station = i)
def zgk (p : GProblem) : Bool := p.Rules.Pairs.all (fun c => hasD p c.A && hasD p c.B) && (p.Rules.Loads.all (fun c => hasD p c.To && hasD p c.From) && p.Rules.Caps.all (fun c => hasD p c.Station))
def incD (p : GProblem) : Bool := adjB (fun a b : GDomain => decide (a.Station < b.Station)) p.Domains
def okP (p : GProblem) : Bool := p.Domains.all okD && (zdb p.Rules && (incD p && zgk p))
theorem zgt (d : GDomain) : zbL d = some (okD d) := by
  unfold zbL okD; have e1 : zbw d.Channels = d.Channels.all zar := zfO; have e2 : zbv d.Channels = some (adjB (fun a b => decide (a < b)) d.Channels) := zhw ziY; rw [e1, e2]; simp only [zaI, Option.bind_some]
  cases zah d.Station <;> cases d.Channels.all zar <;> rfl
theorem zby {n : Int} (h : zah n = true) : 0 ≤ n ∧ n ≤ 511 := by
  unfold zah zan at h; rw [Bool.and_eq_true, decide_eq_true_eq, decide_eq_true_eq] at h; exact h
theorem zdn {p : GProblem} (h : p.Domains.all okD = true) {d : GDomain} (hd : d ∈ p.Domains) : 0 ≤ d.Station ∧ d.Station < 512 := by
  have h1 := List.all_eq_true.1 h d hd; unfold okD at h1; have := zby ((Bool.and_eq_true _ _).mp h1).1; omega
theorem zhR {p : GProblem} (h : p.Domains.all okD = true) (hi : incD p = true) : ∀ k, k < p.Domains.length → (k : Int) ≤ (nth p.Domains k).Station
  | 0, hk => (zdn h (zaz hk)).1
  | k + 1, hk => by
    have h1 := zhR h hi k (by omega); have h2 := List.all_eq_true.1 hi (k + 1) (List.mem_range'_1.2 ⟨by omega, by omega⟩); have h3 := of_decide_eq_true h2; rw [show k + 1 - 1 = k from rfl] at h3; omega
theorem zfV {p : GProblem} (h : p.Domains.all okD = true) (hi : incD p = true) : p.Domains.length ≤ 512 := by
  rcases Nat.eq_zero_or_pos p.Domains.length with h0 | h0
  · omega
  · have h1 := zhR h hi (p.Domains.length - 1) (by omega); have h2 := zdn h (zaz (show p.Domains.length - 1 < p.Domains.length by omega)); omega
theorem zji (p : GProblem) : zb5 p = some (okP p) := by
  have e1 : zaO p.Domains = some (p.Domains.all okD) := ze5 zgt; have e2 : zaV p.Domains = some (incD p) := zhw (cmp := zca) (fun a b => ziY a.Station b.Station); unfold zb5 okP; rw [e1, e2, zf3]; simp only [zaI, Option.bind_some]
  cases h1 : p.Domains.all okD
  · rfl
  cases zdb p.Rules
  · rfl
  cases h2 : incD p
  · rfl
  obtain ⟨s, h3, h4⟩ := zil (p := p) (by have := zfV h1 h2; unfold room; omega) (fun d hd => zdn h1 hd)
  have e3 : za8 p.Rules.Pairs s = some (p.Rules.Pairs.all fun c => hasD p c.A && hasD p c.B) := ze5 (q := fun c => zb6 c s) (fun c => by
    unfold zb6; rw [zid, zid, h4, h4]
    show (bif hasD p c.A then some (hasD p c.B) else some false) = _
    cases hasD p c.A <;> rfl)
  have e4 : za9 p.Rules.Loads s = some (p.Rules.Loads.all fun c => hasD p c.To && hasD p c.From) := ze5 (q := fun c => zb7 c s) (fun c => by
    unfold zb7; rw [zid, zid, h4, h4]
    show (bif hasD p c.To then some (hasD p c.From) else some false) = _
    cases hasD p c.To <;> rfl)
  have e5 : zba p.Rules.Caps s = some (p.Rules.Caps.all fun c => hasD p c.Station) := ze5 (q := fun c => zb8 c s) (fun c => by
    unfold zb8
    rw [zid, h4]; rfl)
  simp only [cond_false, Bool.not_true, h3, Option.bind_some, e3, e4, e5, Bool.true_and, cond_true]; unfold zgk
  cases p.Rules.Pairs.all fun c => hasD p c.A && hasD p c.B
  · rfl
  cases p.Rules.Loads.all fun c => hasD p c.To && hasD p c.From
  · rfl
  rfl
theorem ze6 {α : Type} {l : List α} {f g : α → Bool} (h : ∀ x ∈ l, f x = g x) : l.all f = l.all g := by
  induction l with
  | nil => rfl
  | cons x r ih => rw [List.all_cons, List.all_cons, h x (List.mem_cons_self ..), ih fun y hy => h y (List.mem_cons_of_mem _ hy)]
def anyD (p : GProblem) (s : Int) : Bool := p.Domains.any fun d => decide (d.Station = s)
theorem ze8 {p : GProblem} {s : Int} : decide (zbb p s < 0) = !anyD p s := by
  have key : ∀ m i, i + m = p.Domains.length → (decide (zai (fun (i : Nat) (next : Unit → Int) (_ : Unit) => bif decide ((nth p.Domains i).Station = s) then (i : Int) else next ()) (fun _ => (-1)) m i () < 0) = !((p.Domains.drop i).any fun d => decide (d.Station = s))) := by
    intro m
    induction m with
    | zero => intro i e; rw [List.drop_eq_nil_of_le (show p.Domains.length ≤ i by omega)]; rfl
    | succ m ih =>
      intro i e; have h2 := ih (i + 1) (by omega); rw [List.drop_eq_getElem_cons (show i < p.Domains.length by omega), List.any_cons, ← zaP (show i < p.Domains.length by omega)]
      show decide ((bif decide ((nth p.Domains i).Station = s) then (i : Int) else _) < 0) = _
      cases decide ((nth p.Domains i).Station = s) with
      | true => rw [cond_true, decide_eq_false (by omega)]; rfl
      | false => rw [cond_false, Bool.false_or]; exact h2
  have := key p.Domains.length 0 (by omega); rw [List.drop_zero] at this; exact this
def zgq (p : GProblem) : Bool := p.Rules.Pairs.all (fun c => anyD p c.A && anyD p c.B) && (p.Rules.Loads.all (fun c => anyD p c.To && anyD p c.From) && p.Rules.Caps.all (fun c => anyD p c.Station))
theorem zeB {p : GProblem} {s : Int} (h : zah s = true) : anyD p s = hasD p s := by
  have := zby h; unfold anyD hasD; rw [decide_eq_true this.1, decide_eq_true (show s < 512 by omega)]; rfl
theorem zbA {a b : Bool} (h : (a && b) = true) : a = true := ((Bool.and_eq_true _ _).mp h).1
theorem zbR {a b : Bool} (h : (a && b) = true) : b = true := ((Bool.and_eq_true _ _).mp h).2
theorem zdD {c : GPair} (h : za3 c = true) : zah c.A = true ∧ zah c.B = true :=
  ⟨zbA (zbA (zbA (zbA h))), zbR (zbA (zbA (zbA h)))⟩
theorem zcU {c : GLoad} (h : za4 c = true) : zah c.To = true ∧ zah c.From = true :=
  ⟨zbA (zbA (zbA (zbA h))), zbR (zbA (zbA (zbA h)))⟩
theorem zeR {c : GCap} (h : za2 c = true) : zah c.Station = true := zbA (zbA h)
structure RulesGood (r : GRules) : Prop where
  np : r.Pairs.length ≤ 4096
  nl : r.Loads.length ≤ 1024
  nc : r.Caps.length ≤ 1024
  p : ∀ c ∈ r.Pairs, za3 c = true
  l : ∀ c ∈ r.Loads, za4 c = true
  c : ∀ c ∈ r.Caps, za2 c = true
theorem zbH {r : GRules} (h : zdb r = true) : RulesGood r := by
  unfold zdb at h; have h1 := zbR h; have h2 := zbR h1; have h3 := zbR h2; have h4 := zbR h3; have h5 := zbR h4; have h6 := zbR h5; have h7 := zbR h6; have a1 := of_decide_eq_true (zbA h); have a2 := of_decide_eq_true (zbA h3); have a3 := of_decide_eq_true (zbA h6); exact ⟨by omega, by omega, by omega, List.all_eq_true.1 (zbA h1), List.all_eq_true.1 (zbA h4), List.all_eq_true.1 (zbA h7)⟩
theorem ziL {p : GProblem} (h : zdb p.Rules = true) : zgq p = zgk p := by
  have hg := zbH h; (have e1 : (p.Rules.Pairs.all fun c => anyD p c.A && anyD p c.B) = p.Rules.Pairs.all fun c => hasD p c.A && hasD p c.B := ze6 fun c hc => by rw [zeB (zdD (hg.p c hc)).1, zeB (zdD (hg.p c hc)).2]); (have e2 : (p.Rules.Loads.all fun c => anyD p c.To && anyD p c.From) = p.Rules.Loads.all fun c => hasD p c.To && hasD p c.From := ze6 fun c hc => by rw [zeB (zcU (hg.l c hc)).1, zeB (zcU (hg.l c hc)).2]); have e3 : (p.Rules.Caps.all fun c => anyD p c.Station) = p.Rules.Caps.all fun c => hasD p c.Station := ze6 fun c hc => zeB (zeR (hg.c c hc)); unfold zgq zgk; rw [e1, e2, e3]
def okD2 (d : GDomain) : Bool := zah d.Station && (decide ((d.Channels.length : Int) ≤ 50) && (d.Channels.all zar && adjB (fun a b => decide (a < b)) d.Channels))
theorem zhg {n : Int} (h : zar n = true) : 2 ≤ n ∧ n ≤ 51 := by
  unfold zar zan at h; rw [Bool.and_eq_true, decide_eq_true_eq, decide_eq_true_eq] at h; exact h
theorem ziU {l : List Int} (h : l.all zar = true) (hi : adjB (fun a b => decide (a < b)) l = true) : ∀ k, k < l.length → (k : Int) + 2 ≤ nth l k
  | 0, hk => by have := zhg (List.all_eq_true.1 h _ (zaz hk)); omega
  | k + 1, hk => by
    have h1 := ziU h hi k (by omega); have h2 := List.all_eq_true.1 hi (k + 1) (List.mem_range'_1.2 ⟨by omega, by omega⟩); have h3 := of_decide_eq_true h2; rw [show k + 1 - 1 = k from rfl] at h3; omega
theorem zgF (d : GDomain) : okD2 d = okD d := by
  unfold okD2 okD
  cases h1 : d.Channels.all zar
  · rw [Bool.false_and, Bool.and_false]
  cases h2 : adjB (fun a b => decide (a < b)) d.Channels
  · rw [Bool.and_false, Bool.and_false]
  have : d.Channels.length ≤ 50 := by
    rcases Nat.eq_zero_or_pos d.Channels.length with h0 | h0
    · omega
    · have a := ziU h1 h2 (d.Channels.length - 1) (by omega); have b := zhg (List.all_eq_true.1 h1 _ (zaz (show d.Channels.length - 1 < d.Channels.length by omega))); omega
  rw [decide_eq_true (by omega)]; rfl
theorem chs_x {ρ : Type} {l : List Int} {n z : ρ} : zai (fun (k : Nat) (next : Unit → ρ) (_ : Unit) => bif (((decide (nth l k < 2)) || (decide (51 < nth l k))) || ((decide (0 < (k : Int))) && (decide (nth l k ≤ nth l (((k : Int) - 1).toNat))))) then z else next ()) (fun _ => n) (l.length - 0) 0 () = bif l.all zar && adjB (fun a b => decide (a < b)) l then n else z := by
  rw [zbS (fun k => zar (nth l k) && (bif decide (0 < (k : Int)) then decide (nth l (k - 1) < nth l k) else true)) (z := z) (fun i next h1 h2 => ?_), zem l zar (fun a b => decide (a < b))]; rw [show ((i : Int) - 1).toNat = i - 1 by omega, zde _ 2, zhT (nth l i) (nth l (i - 1)), zde 51]; unfold zar zan
  cases decide (2 ≤ nth l i) <;> cases decide (nth l i ≤ 51) <;> cases decide (0 < (i : Int)) <;> cases decide (nth l (i - 1) < nth l i) <;> rfl
theorem zhl (p : GProblem) : zcN p = some (okP p) := by
  unfold zcN
  show (bif decide (512 < (p.Domains.length : Int)) then some false else (zbE p.Rules).bind fun r => bif !r then some false else zai _ (fun _ => zai _ (fun _ => zai _ (fun _ => zai _ (fun _ => some true) (p.Rules.Caps.length - 0) 0 ()) (p.Rules.Loads.length - 0) 0 ()) (p.Rules.Pairs.length - 0) 0 ()) (p.Domains.length - 0) 0 ()) = _
  rw [zhd, Option.bind_some]; rw [zbS (n := p.Domains.length - 0) (fun i => okD2 (nth p.Domains i) && (bif decide (0 < (i : Int)) then decide ((nth p.Domains (i - 1)).Station < (nth p.Domains i).Station) else true)) (z := some false) (fun i next h1 h2 => ?_)]; rw [zbS (n := p.Rules.Pairs.length - 0) (fun i => anyD p (nth p.Rules.Pairs i).A && anyD p (nth p.Rules.Pairs i).B) (z := some false) (fun i next h1 h2 => ?_)]; rw [zbS (n := p.Rules.Loads.length - 0) (fun i => anyD p (nth p.Rules.Loads i).To && anyD p (nth p.Rules.Loads i).From) (z := some false) (fun i next h1 h2 => ?_)]; rw [zbS (n := p.Rules.Caps.length - 0) (fun i => anyD p (nth p.Rules.Caps i).Station) (z := some false) (fun i next h1 h2 => ?_)]
  · rw [zem p.Domains okD2 (fun a b => decide (a.Station < b.Station)), Nat.sub_zero, Nat.sub_zero, Nat.sub_zero, ← List.range_eq_range', ← List.range_eq_range', ← List.range_eq_range',
      zds (q := fun c : GPair => anyD p c.A && anyD p c.B), zds (q := fun c : GLoad => anyD p c.To && anyD p c.From), zds (q := fun c : GCap => anyD p c.Station), ze6 (fun d _ => zgF d)]
    have hl : ∀ x : Option Bool, (bif p.Rules.Pairs.all (fun c => anyD p c.A && anyD p c.B) then bif p.Rules.Loads.all (fun c => anyD p c.To && anyD p c.From) then bif p.Rules.Caps.all (fun c => anyD p c.Station) then some true else some false else some false else some false) = some (zgq p) := fun _ => by
      unfold zgq
      cases p.Rules.Pairs.all (fun c => anyD p c.A && anyD p c.B) <;> cases p.Rules.Loads.all (fun c => anyD p c.To && anyD p c.From) <;> cases p.Rules.Caps.all (fun c => anyD p c.Station) <;> rfl
    rw [hl none]; unfold okP
    show (bif decide (512 < (p.Domains.length : Int)) then some false else bif !zdb p.Rules then some false else bif p.Domains.all okD && incD p then some (zgq p) else some false) = _
    cases h1 : zdb p.Rules
    · cases p.Domains.all okD <;> cases decide (512 < (p.Domains.length : Int)) <;> rfl
    cases h2 : p.Domains.all okD
    · cases decide (512 < (p.Domains.length : Int)) <;> rfl
    cases h3 : incD p
    · cases decide (512 < (p.Domains.length : Int)) <;> rfl
    have := zfV h2 h3; rw [decide_eq_false (show ¬ 512 < (p.Domains.length : Int) by omega), ziL h1]; rfl
  · rw [ze8]; cases anyD p (nth p.Rules.Caps i).Station <;> rfl
  · rw [ze8, ze8]; cases anyD p (nth p.Rules.Loads i).To <;> cases anyD p (nth p.Rules.Loads i).From <;> rfl
  · rw [ze8, ze8]; cases anyD p (nth p.Rules.Pairs i).A <;> cases anyD p (nth p.Rules.Pairs i).B <;> rfl
  · rw [chs_x, show ((i : Int) - 1).toNat = i - 1 by omega, zde 50, zhT (nth p.Domains i).Station]; unfold okD2
    show (bif ((!zah (nth p.Domains i).Station || _) || _) then _ else _) = _
    cases zah (nth p.Domains i).Station <;> cases decide (0 < (i : Int)) <;> cases decide ((nth p.Domains (i - 1)).Station < (nth p.Domains i).Station) <;> cases decide (((nth p.Domains i).Channels.length : Int) ≤ 50) <;> cases ((nth p.Domains i).Channels.all zar && adjB (fun a b => decide (a < b)) (nth p.Domains i).Channels) <;> rfl
section
variable {P : Program} {n : Nat} {B D : World} {M : Nat → Prop} {fs : SFs} {hs : HS} {o : Oper} {v : Value}
theorem K.slNil {Q : Exit → Act → World → Prop} {e : Exit} (t : TypeId) (size : Nat) (h : K n B D M Q e fs (.sl (.slice none 0 0) t size 0 [] :: hs)) : K n B D M Q e fs hs := ⟨fun a w ha hw hm => h.out a w ha (hw.slNil t size) hm⟩
theorem Yv.bu {x y : Operand} {t u : TypeId} {a b : BitVec 64} (ho : o.op = .binOp .xor t x y u) (hx : ev fs x = some (U a)) (hy : ev fs y = some (U b)) : Yv P n B M fs hs o (U (a ^^^ b)) := Yv.ba (.inr (.inr (.inl ⟨rfl, rfl⟩))) ho hx hy
theorem Yv.bJ {x y : Operand} {t u : TypeId} {a b : BitVec 64} (ho : o.op = .binOp .rem t x y u) (hx : ev fs x = some (U a)) (hy : ev fs y = some (U b)) (hb : ¬ b = 0#64) : Yv P n B M fs hs o (U (a % b)) :=
  (Yv.remK (k := .u64) (a := (a.toNat : Int)) (b := (b.toNat : Int)) ho hx hy (fun h => hb (BitVec.eq_of_toNat_eq (Int.ofNat.inj h)))).eq (by
    show Value.int .u64 ((a.toNat : Int).tmod (b.toNat : Int)) = .int .u64 (((a % b).toNat : Nat) : Int)
    rw [Int.tmod_eq_emod_of_nonneg (Int.natCast_nonneg _), BitVec.toNat_umod]; rfl)
theorem zgj {fn : Func} {t u v x : Tmp} (h : fn.results = #[.tmp t, .tmp u, .tmp v, .tmp x]) (tmps : Array Value) (P : Program) (w : World) :
    (results fn tmps).run P w = .ok (.tuple #[tmps.getD t undef, tmps.getD u undef, tmps.getD v undef, tmps.getD x undef]) w := by
  simp [results, h]
theorem K.aW {D : World} {fn : Func} {R : Ending → World → Prop} {t u s q : Nat} {v x y z : Value} (hr : fn.results = #[.tmp t, .tmp u, .tmp s, .tmp q]) (hv : look fs t = some v) (hx : look fs u = some x) (hy : look fs s = some y) (hz : look fs q = some z) (h : ∀ w, Hp B M hs w → R (.returned (.tuple #[v, x, y, z])) w) : K n B D M (ze1 P fn R) .ret fs hs :=
  (K.aS (fun a w ha _ => by rw [zgj hr]; simp only [Array.getD_eq_getD_getElem?, ha.get t v hv, ha.get u x hx, ha.get s y hy, ha.get q z hz]; rfl) h).1
def zi2 (v : Value) : Prop := ∃ A m c, v = .slice (some A) m c
theorem ziS {t e : TypeId} {w : World} {A : Option Addr} {m c : Nat} (hU : P.underlying t = some (.slice e)) : (Op.equal t (.slice A m c) (.slice none 0 0)).run P w = .ok A.isNone w := by
  unfold Op.equal; rw [show Op.maxDepth = Nat.succ 9999 from rfl]; unfold Op.equalIn
  cases A <;> simp [underlying, hU]
theorem Yv.ca {x y : Operand} {t u e : TypeId} (hU : P.underlying t = some (.slice e)) (ho : o.op = .binOp .eql t x y u) (hx : ev fs x = some v) (hy : ev fs y = some (.slice none 0 0)) (hN : zi2 v) : Yv P n B M fs hs o (.bool false) := fun f w ha _ => by
  obtain ⟨A, m, c, rfl⟩ := hN; unfold execOp; simp [ho, ha.ev hx, ha.ev hy, eqGuard, binOp, ziS hU]
theorem Yv.cc {x y : Operand} {t u e : TypeId} (hU : P.underlying t = some (.slice e)) (ho : o.op = .binOp .eql t x y u) (hx : ev fs x = some (.slice none 0 0)) (hy : ev fs y = some (.slice none 0 0)) : Yv P n B M fs hs o (.bool true) := fun f w ha _ => by
  unfold execOp; simp [ho, ha.ev hx, ha.ev hy, eqGuard, binOp, ziS hU]
theorem zbI (x : Ent) (a b : List Ent) : (x :: a) ++ b = x :: (a ++ b) := rfl
theorem zcm (a : List Ent) : [] ++ a = a := rfl
def NilI {α : Type} (v : Value) (l : List α) : Prop := (l = [] ∧ v = .slice none 0 0) ∨ (l ≠ [] ∧ zi2 v)
theorem NilI.nil {α : Type} : NilI (.slice none 0 0) ([] : List α) := .inl ⟨rfl, rfl⟩
theorem Yv.cd {α : Type} {l : List α} {x y : Operand} {t u e : TypeId} (hU : P.underlying t = some (.slice e)) (ho : o.op = .binOp .eql t x y u) (hx : ev fs x = some v) (hy : ev fs y = some (.slice none 0 0)) (hN : NilI v l) : Yv P n B M fs hs o (.bool l.isEmpty) := by
  rcases hN with ⟨rfl, rfl⟩ | ⟨h1, h2⟩
  · exact Yv.cc hU ho hx hy
  · have : l.isEmpty = false := by cases l with
      | nil => exact absurd rfl h1
      | cons a r => rfl
    rw [this]; exact Yv.ca hU ho hx hy h2
theorem Hp.nilI {α : Type} {l : List α} {w : World} {sv : Value} {t : TypeId} {size k : Nat} {ls : List Value} (hw : Hp B M hs w) (i : Nat) (hi : hs[i]? = some (.sl sv t size k ls)) (hl : l ≠ []) (hk : 0 < k) : NilI sv l := by
  rcases (Ent.sl_ok.1 (hw.get hi)).2 with ⟨_, h0⟩ | ⟨g, cap, cur, rfl, _⟩
  · omega
  · exact .inr ⟨hl, _, _, _, rfl⟩
theorem K.nilI {D : World} {Q : Exit → Act → World → Prop} {e : Exit} {α : Type} {l : List α} {sv : Value} {t : TypeId} {size k : Nat} {ls : List Value} (i : Nat) (hi : hs[i]? = some (.sl sv t size k ls)) (hl : l ≠ []) (hk : 0 < k) (h : NilI sv l → K n B D M Q e fs hs) : K n B D M Q e fs hs := ⟨fun a w ha hw hm => (h (hw.nilI i hi hl hk)).out a w ha hw hm⟩
theorem T.nilI {F : Fence} {D : World} {Q : Exit → Act → World → Prop} {c : Code} {α : Type} {l : List α} {sv : Value} {t : TypeId} {size k : Nat} {ls : List Value} (i : Nat) (hi : hs[i]? = some (.sl sv t size k ls)) (hl : l ≠ []) (hk : 0 < k) (h : NilI sv l → T F P n B D M c Q fs hs) : T F P n B D M c Q fs hs := ⟨fun a w ha hw hm => (h (hw.nilI i hi hl hk)).out a w ha hw hm⟩
theorem Ew.bb {sv : Value} (j : Nat) {t e : TypeId} {q : Nat} [hT : TyA P t q] {x y : Operand} {p k k' size : Nat} {l m l' : List Value} {hs' : HS} [hv : OneCs m] (ho : o.op = .store t x y) (hx : ev fs x = some (zdV sv p)) (hy : ev fs y = some (.agg m.toArray))
    (hj : hs[j]? = some (.sl sv e size k l)) (hk : 0 < k) (hq : m.length = q) (hp : p + m.length ≤ l.length) (hl : l.take p ++ m ++ l.drop (p + m.length) = l') (hkk : k' = k) [hH : SetAt hs j (.sl sv e size k' l') hs'] : Ew P n B M fs hs o (fun v hs'' => v = undef ∧ hs'' = hs') := by
  subst hkk; exact Ew.bk j ho hx hy hj hk hq hp hl
end
def zeW (state : BitVec 64) : BitVec 64 × BitVec 64 :=
  ((state + (11400714819323198485#64)), ((((((state + (11400714819323198485#64)) ^^^ ((state + (11400714819323198485#64)) >>> 30)) * (13787848793156543929#64)) ^^^ ((((state + (11400714819323198485#64)) ^^^ ((state + (11400714819323198485#64)) >>> 30)) * (13787848793156543929#64)) >>> 27)) * (10723151780598845931#64)) ^^^ ((((((state + (11400714819323198485#64)) ^^^ ((state + (11400714819323198485#64)) >>> 30)) * (13787848793156543929#64)) ^^^ ((((state + (11400714819323198485#64)) ^^^ ((state + (11400714819323198485#64)) >>> 30)) * (13787848793156543929#64)) >>> 27)) * (10723151780598845931#64)) >>> 31)))
def zbG (p : GProblem) (l : List GChoice) : Bool :=
  ((decide (¬ (za5 p l true).Kind = 1)) && (decide (¬ (za5 p l true).Kind = 2)))
theorem zdH (F0 : Frz) (w : World) (hF0 : F0.At w) (p : GProblem) (vp_0 : Value) (cp_0 : List (List Value)) (hp_0 : SlD GDomain.rep F0 vp_0 2 cp_0 p.Domains) (vp_1 : Value) (hp_1 : SlC F0 vp_1 5 (p.Rules.Pairs.map GPair.enc)) (vp_2 : Value) (hp_2 : SlC F0 vp_2 5 (p.Rules.Loads.map GLoad.enc)) (vp_3 : Value) (hp_3 : SlC F0 vp_3 4 (p.Rules.Caps.map GCap.enc)) (l : List GChoice) (vl : Value) (hl : SlC F0 vl 2 (l.map GChoice.enc)) : Calls Tryz.prog 13 #[.agg [vp_0, vp_1, vp_2, vp_3].toArray, vl] w fun e w' => e = .returned (.bool (zbG p l)) ∧ Below w.heap.size w w' := by
  obtain ⟨r, hk⟩ : ∃ r, zbG p l = r := ⟨_, rfl⟩; rw [hk]; unfold zbG at hk; haveI := hp_0.1.oneC; haveI := hp_1.oneC; haveI := hp_2.oneC; haveI := hp_3.oneC; haveI := hl.oneC; obtain ⟨S0, F1, rfl, hS0, hp0⟩ := zam hF0; refine zap Tryz.func13 rfl rfl rfl hp0 ?_; refine T.sr ?_; refine TL.e (Ew.az rfl rfl) ?_; rintro _ _ ⟨g2, rfl, rfl⟩; refine TL.run 1 rfl ?_; refine TL.nx ?_; refine TL.y (Yv.aj 0 rfl rfl rfl rfl) ?_; refine TL.run 1 rfl ?_; refine TL.e (Ew.ag rfl rfl rfl (fun w hw => zeo _ w (hw.fr (i := 1) rfl) p vp_0 cp_0 hp_0 vp_1 hp_1 vp_2 hp_2 vp_3 hp_3 l vl hl true)) ?_; rintro _ _ ⟨rfl, rfl⟩; refine TL.y (Yv.field rfl rfl rfl) ?_; refine TL.run 1 rfl ?_; refine TL.ns (T.seq ?_); refine T.af (ι := Unit) (fun z => [(4, .bool ((decide (¬ (za5 p l true).Kind = 1)) && (decide (¬ (za5 p l true).Kind = 2))))]) (fun z => [.row g2 29 [vp_0, vp_1, vp_2, vp_3], .fr F1]) (fun z => True) ?_ ?_
  · refine T.region ?_; refine TL.run 3 rfl ?_; refine TL.gs rfl rfl rfl (fun h1 => ?_) (fun h1 => ?_)
    · have p1 := of_decide_eq_true h1; refine TL.run 4 rfl ?_; refine TL.nil ?_; exact K.ae () trivial (.b (zcQ h1) .nil) (List.Sublist.refl _)
    · have p1 := of_decide_eq_false h1; refine TL.run 4 rfl ?_; refine TL.nil ?_; exact K.ae () trivial (.b (zaA h1).symm .nil) (List.Sublist.refl _)
  · rintro _ _; refine T.ret ?_; subst hk; exact K.ai rfl rfl (fun w' hw => ⟨rfl, hw.isBelow⟩)
end Go.Proofs.YtnhdlloidbomdaaGreat
namespace Go.Proofs.YtnhdlloidbomdaaGreat
open Go.Shelf
open Go.RowKit in
open Go.RowKit in
def zgJ : Go.Shelf.Ren := ⟨fun | 189 => 53 | 125 => 83 | 257 => 82 | 128 => 111 | 129 => 112 | 294 => 102 | 295 => 103 | 296 => 104 | 297 => 105 | 298 => 106 | 299 => 107 | 216 => 108 | 300 => 109 | 301 => 110 | 328 => 115 | 329 => 116 | 330 => 117 | 331 => 118 | 332 => 119 | 215 => 96 | 343 => 120 | n => n, fun | 28 => 36 | 3 => 3 | 46 => 141 | 0 => 0 | 51 => 160 | 53 => 102 | 4 => 4 | 183 => 154 | 182 => 153 | 131 => 86 | 5 => 5 | 9 => 9 | 218 => 163 | 222 => 166 | 228 => 168 | 229 => 169 | n => n, fun | n => n⟩
theorem zh2 : Go.Proofs.Lays.n189 Tryz.prog zgJ := {
  mixed := by kernel_rfl
  f125 := Tryz.func83.trans (congrArg some (by kernel_rfl))
  f128 := Tryz.func111.trans (congrArg some (by kernel_rfl))
  f129 := Tryz.func112.trans (congrArg some (by kernel_rfl))
  f189 := Tryz.func53.trans (congrArg some (by kernel_rfl))
  f215 := Tryz.func96.trans (congrArg some (by kernel_rfl))
  f216 := Tryz.func108.trans (congrArg some (by kernel_rfl))
  f257 := Tryz.func82.trans (congrArg some (by kernel_rfl))
  f294 := Tryz.func102.trans (congrArg some (by kernel_rfl))
  f295 := Tryz.func103.trans (congrArg some (by kernel_rfl))
  f296 := Tryz.func104.trans (congrArg some (by kernel_rfl))
  f297 := Tryz.func105.trans (congrArg some (by kernel_rfl))
  f298 := Tryz.func106.trans (congrArg some (by kernel_rfl))
  f299 := Tryz.func107.trans (congrArg some (by kernel_rfl))
  f300 := Tryz.func109.trans (congrArg some (by kernel_rfl))
  f301 := Tryz.func110.trans (congrArg some (by kernel_rfl))
  f328 := Tryz.func115.trans (congrArg some (by kernel_rfl))
  f329 := Tryz.func116.trans (congrArg some (by kernel_rfl))
  f330 := Tryz.func117.trans (congrArg some (by kernel_rfl))
  f331 := Tryz.func118.trans (congrArg some (by kernel_rfl))
  f332 := Tryz.func119.trans (congrArg some (by kernel_rfl))
  f343 := Tryz.func120.trans (congrArg some (by kernel_rfl))
  t0 := Tryz.underlying0
  a0 := Tryz.isAgg0
  z0 := Tryz.sizeOf0
  v0 := Tryz.zeroValue0
  t3 := Tryz.underlying3
  a3 := Tryz.isAgg3
  z3 := Tryz.sizeOf3
  v3 := Tryz.zeroValue3
  t4 := Tryz.underlying4
  a4 := Tryz.isAgg4
  z4 := Tryz.sizeOf4
  v4 := Tryz.zeroValue4
  t5 := Tryz.underlying5
  a5 := Tryz.isAgg5
  z5 := Tryz.sizeOf5
  v5 := Tryz.zeroValue5
  t9 := Tryz.underlying9
  a9 := Tryz.isAgg9
  z9 := Tryz.sizeOf9
  v9 := Tryz.zeroValue9
  t28 := Tryz.underlying36
  a28 := Tryz.isAgg36
  z28 := Tryz.sizeOf36
  v28 := Tryz.zeroValue36
  t46 := Tryz.underlying141
  a46 := Tryz.isAgg141
  z46 := Tryz.sizeOf141
  v46 := Tryz.zeroValue141
  t51 := Tryz.underlying160
  a51 := Tryz.isAgg160
  z51 := Tryz.sizeOf160
  v51 := Tryz.zeroValue160
  t53 := Tryz.underlying102
  a53 := Tryz.isAgg102
  z53 := Tryz.sizeOf102
  v53 := Tryz.zeroValue102
  t131 := Tryz.underlying86
  a131 := Tryz.isAgg86
  z131 := Tryz.sizeOf86
  v131 := Tryz.zeroValue86
  t182 := Tryz.underlying153
  a182 := Tryz.isAgg153
  z182 := Tryz.sizeOf153
  v182 := Tryz.zeroValue153
  t183 := Tryz.underlying154
  a183 := Tryz.isAgg154
  z183 := Tryz.sizeOf154
  v183 := Tryz.zeroValue154
  t218 := Tryz.underlying163
  a218 := Tryz.isAgg163
  z218 := Tryz.sizeOf163
  v218 := Tryz.zeroValue163
  t222 := Tryz.underlying166
  a222 := Tryz.isAgg166
  z222 := Tryz.sizeOf166
  v222 := Tryz.zeroValue166
  t228 := Tryz.underlying168
  a228 := Tryz.isAgg168
  z228 := Tryz.sizeOf168
  v228 := Tryz.zeroValue168
  t229 := Tryz.underlying169
  a229 := Tryz.isAgg169
  z229 := Tryz.sizeOf169
  v229 := Tryz.zeroValue169 }
open Go.Sort Go.RowKit in
theorem slices_Sort_int (blk off cap : Nat) (zs : List Int) (w : World) (hH : Holds (Value.int .i64) w blk off zs.toArray) (hblk : blk < w.heap.size) (hsz : zs.length < 4611686018427387904) :
    Calls Tryz.prog 53 #[.slice (some ⟨blk, off, none⟩) zs.length cap] w fun e w' =>
      e = .returned (.tuple #[]) ∧ ∃ n os, w' = grow (putRow (Value.int .i64) (Sort.ahead w n) blk off (zs.mergeSort fun x y => decide (x ≤ y)).toArray) os := Any.slices_Sort_int zh2 blk off cap zs w hH hblk hsz
def zfX : Go.Shelf.Ren := ⟨fun | 20 => 54 | n => n, fun | 22 => 36 | 3 => 3 | 4 => 4 | 0 => 0 | n => n, fun | n => n⟩
theorem zgm : Go.Proofs.Lays2.n20 Tryz.prog zfX := {
  mixed := by kernel_rfl
  f20 := Tryz.func54.trans (congrArg some (by kernel_rfl))
  t0 := Tryz.underlying0
  a0 := Tryz.isAgg0
  z0 := Tryz.sizeOf0
  v0 := Tryz.zeroValue0
  t3 := Tryz.underlying3
  a3 := Tryz.isAgg3
  z3 := Tryz.sizeOf3
  v3 := Tryz.zeroValue3
  t4 := Tryz.underlying4
  a4 := Tryz.isAgg4
  z4 := Tryz.sizeOf4
  v4 := Tryz.zeroValue4
  t22 := Tryz.underlying36
  a22 := Tryz.isAgg36
  z22 := Tryz.sizeOf36
  v22 := Tryz.zeroValue36
  i3 := by kernel_rfl }
open Go.RowKit Go.Lib Go.Sort in
open Go.RowKit Go.Lib Go.Sort in
theorem slices_Compact_int (blk off cap : Nat) (zs : List Int) (w : World) (hH : Holds (Value.int .i64) w blk off zs.toArray) (hsz : zs.length ≤ 9223372036854775807) (hcap : zs.length ≤ cap) :
    Calls Tryz.prog 54 #[.slice (some ⟨blk, off, none⟩) zs.length cap] w fun e w' => e = .returned (.slice (some ⟨blk, off, none⟩) (Lib.compact zs).length cap) ∧ ∃ q, w' = putRow (Value.int .i64) (Sort.ahead w q) blk off (Lib.compact zs ++ List.replicate (zs.length - (Lib.compact zs).length) 0).toArray := Any.slices_Compact_int zgm blk off cap zs w hH hsz hcap
open Go.RowKit Go.Lib Go.Sort in
theorem slices_Compact_int_empty (a : Option Addr) (cap : Nat) (w : World) :
    Calls Tryz.prog 54 #[.slice a 0 cap] w fun e w' => e = .returned (.slice a 0 cap) ∧ w' = w := Any.slices_Compact_int_empty zgm a cap w
open Go.RowKit Go.Sort in
theorem slices_Sort_int_none (p : Option Addr) (cap : Nat) (w : World) :
    Calls Tryz.prog 53 #[.slice p 0 cap] w fun e w' => e = .returned (.tuple #[]) ∧ w' = w := Any.slices_Sort_int_none zh2 p cap w
end Go.Proofs.YtnhdlloidbomdaaGreat
