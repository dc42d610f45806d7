/- Yp Ca Pa Pg Pi Pj Sh Ks: shortened and put together by squeeze.py. -/
import Derived.Test.YtnhdlloidbomdaaQ04
import Derived.Shelf.Small.Bits
import Derived.Shelf.Small.Wraps
import Derived.Shelf.Sort.Plain
import Derived.Ground.Names2Prog
import Derived.Shelf.Slices.CompactI
import Derived.Shelf.Slices.In.SortNone
import Derived.Test.YtnhdlloidbomdaaProg
import Derived.Sort.OwnSortedInts
import Derived.Lib.SlicesCompact
set_option maxRecDepth 100000
set_option maxHeartbeats 4000000
set_option linter.unusedVariables false
set_option linter.unusedSectionVars false
set_option linter.unusedSimpArgs false
namespace Go.Proofs.Ytnhdlloidbomdaa
open Go.RowKit
def zaq (c : Int) : Bool :=
  (zan c 2 51)
theorem zdB (F0 : Frz) (w : World) (hF0 : F0.At w) (c : Int) : Calls Try.prog 68 #[.int .i64 c] w fun e w' => e = .returned (.bool (zaq c)) ∧ Below w.heap.size w w' := by
  obtain ⟨r, hk⟩ : ∃ r, zaq c = r := ⟨_, rfl⟩; rw [hk]; unfold zaq at hk; obtain ⟨S0, F1, rfl, hS0, hp0⟩ := zao hF0; refine zar Try.func68 rfl rfl rfl hp0 ?_; refine T.sr ?_; refine TL.run 1 rfl ?_; refine TL.nx ?_; refine TL.run 1 rfl ?_; refine TL.e (Ew.ag rfl rfl rfl (fun w hw => zbL _ w (hw.fr (i := 0) rfl) c 2 51)) ?_; rintro _ _ ⟨rfl, rfl⟩; refine TL.run 1 rfl ?_; refine TL.ns (T.ret ?_); subst hk; exact K.ai rfl rfl (fun w' hw => ⟨rfl, hw.isBelow⟩)
def zbt (l : List Int) : Bool :=
  zaK (fun (_ : Unit) =>
    true)
  (fun k1 =>
    zaj (fun (i_3 : Nat) (next2 : Unit → Bool) (_ : Unit) =>
      (bif !(zaq (nth l i_3)) then
        false
        else
        next2 ()))
    (fun (_ : Unit) =>
      k1 ()) (l.length - 0) 0 ())
theorem zdq (F0 : Frz) (w : World) (hF0 : F0.At w) (l : List Int) (vl : Value) (hl : SlC F0 vl 1 (l.map eI)) : Calls Try.prog 69 #[vl, .func (.func 68) #[] #[]] w fun e w' => e = .returned (.bool (zbt l)) ∧ Below w.heap.size w w' := by
  obtain ⟨r, hk⟩ : ∃ r, zbt l = r := ⟨_, rfl⟩; rw [hk]; unfold zbt at hk; haveI := hl.oneC; obtain ⟨S0, F1, rfl, hS0, hp0⟩ := zao hF0; refine zar Try.func69 rfl rfl rfl hp0 ?_; refine T.sr ?_; refine TL.run 1 rfl ?_; refine TL.ns (T.seq (T.sr ?_)); refine TL.run 1 rfl ?_; refine TL.y (Yv.an rfl rfl hl (List.length_map _)) ?_; have hm8 : l.length ≤ 9223372036854775807 := (List.length_map _) ▸ hl.max; refine TL.run 1 rfl ?_; refine TL.ns ?_; have hq := zae hk; clear hk; obtain ⟨k1, hk1, hk⟩ := hq; (try dsimp only at hk); refine T.ae (ι := Unit) (fun z => []) (fun z => [.fr F1]) (fun z => k1 () = r) ?_ ?_
  · have hq := zal hk; clear hk; obtain ⟨f2, kk2, hf2, hkk2, hk⟩ := hq; refine T.block ?_; refine T.loop (ι := Nat) (fun z => [(1, .func (.func 68) #[] #[]), (7, vl), (8, .int .i64 (l.length : Int)), (9, .int .i64 (z : Int))]) (fun z => [.fr F1]) (fun z => zaj f2 kk2 (l.length - z) z () = r) (fun z => l.length - z) 0 ?_ ?_ ?_ ?_
    · exact hk
    · exact (.c (.c (.c (.c .nil))))
    · exact List.Sublist.refl _
    · rintro i_3 hk; refine T.sr ?_; refine TL.run 1 rfl ?_; refine TL.ns (T.seq ?_); refine T.cond rfl (fun h4 => ?_) (fun h4 => ?_)
      · have p4 := of_decide_eq_true h4; rw [zat (by omega)] at hk; generalize hn2 : zaj f2 kk2 (l.length - (i_3 + 1)) (i_3 + 1) = next2 at hk; rw [← hf2] at hk; (try dsimp only at hk); refine T.skip (K.seq (T.seq (T.block (T.sr ?_)))); refine TL.y (Yv.am (i := i_3) rfl rfl rfl hl (List.length_map _) rfl (by omega)) ?_; refine TL.y (Yv.au 0 (i := i_3) (j := 0) rfl rfl rfl hl (by omega) rfl rfl) ?_; refine TL.run 1 rfl ?_; refine TL.nx ?_; refine TL.run 2 rfl ?_; refine TL.e (Ew.ag rfl rfl rfl (fun w hw => zdB _ w (hw.fr (i := 0) rfl) (nth l i_3))) ?_; rintro _ _ ⟨rfl, rfl⟩; refine TL.run 1 rfl ?_; refine TL.ns ?_; refine T.cond rfl (fun h5 => ?_) (fun h5 => ?_)
        · replace hk := zab hk h5; refine T.sr ?_; refine TL.run 1 rfl ?_; refine TL.ns (T.ret (K.ah (K.ab (K.ab (K.ah (K.ab ?_)))))); subst hk; exact K.ai rfl rfl (fun w' hw => ⟨rfl, hw.isBelow⟩)
        · replace hk := zaa hk h5; refine T.skip (K.ac (K.seq (T.region ?_))); refine TL.y (Yv.ao rfl rfl rfl (by omega)) ?_; refine TL.run 1 rfl ?_; refine TL.nil ?_; rw [← hn2] at hk; exact K.next (i_3 + 1) hk (by omega) (.c (.c (.c (.c .nil)))) (List.Sublist.refl _)
      · have p4 := of_decide_eq_false h4; rw [zau (by omega), ← hkk2] at hk; (try dsimp only at hk); refine T.exit (K.aa (K.aa (K.ad ?_))); exact K.af () hk .nil (List.Sublist.refl _)
  · rintro _ hk; rw [← hk1] at hk; (try dsimp only at hk); refine T.sr ?_; refine TL.run 1 rfl ?_; refine TL.ns (T.ret ?_); subst hk; exact K.ai rfl rfl (fun w' hw => ⟨rfl, hw.isBelow⟩)
def zbs (l : List Int) : Option Bool :=
  zaK (fun (_ : Unit) =>
    some true)
  (fun k1 =>
    zaj (fun (i_3 : Nat) (next2 : Unit → Option Bool) (_ : Unit) =>
      grd (0 ≤ ((i_3 : Int) - 1) ∧ ((i_3 : Int) - 1) < (l.length : Int)) <|
      (bif decide (0 ≤ (zac (nth l (((i_3 : Int) - 1).toNat)) (nth l i_3))) then
        some false
        else
        next2 ()))
    (fun (_ : Unit) =>
      k1 ()) (l.length - 1) 1 ())
theorem zc4 (F0 : Frz) (w : World) (hF0 : F0.At w) (l : List Int) (vl : Value) (hl : SlC F0 vl 1 (l.map eI)) (r : Bool) (hr : zbs l = some r) : Calls Try.prog 70 #[vl, .func (.func 50) #[] #[]] w fun e w' => e = .returned (.bool r) ∧ Below w.heap.size w w' := by
  have hk := hr; unfold zbs at hk; haveI := hl.oneC; obtain ⟨S0, F1, rfl, hS0, hp0⟩ := zao hF0; refine zar Try.func70 rfl rfl rfl hp0 ?_; refine T.sr ?_; refine TL.run 1 rfl ?_; refine TL.ns (T.seq (T.sr ?_)); refine TL.run 1 rfl ?_; refine TL.ns ?_; have hq := zae hk; clear hk; obtain ⟨k1, hk1, hk⟩ := hq; (try dsimp only at hk); refine T.ae (ι := Unit) (fun z => []) (fun z => [.fr F1]) (fun z => k1 () = some r) ?_ ?_
  · have hq := zal hk; clear hk; obtain ⟨f2, kk2, hf2, hkk2, hk⟩ := hq; refine T.block ?_; refine T.loop (ι := Nat) (fun z => [(0, vl), (1, .func (.func 50) #[] #[]), (5, .int .i64 (z : Int))]) (fun z => [.fr F1]) (fun z => zaj f2 kk2 (l.length - z) z () = some r) (fun z => l.length - z) 1 ?_ ?_ ?_ ?_
    · exact hk
    · exact (.c (.c (.c .nil)))
    · exact List.Sublist.refl _
    · rintro i_3 hk; refine T.seq (T.sr ?_); refine TL.run 2 rfl ?_; refine TL.y (Yv.an rfl rfl hl (List.length_map _)) ?_; have hm8 : l.length ≤ 9223372036854775807 := (List.length_map _) ▸ hl.max; refine TL.run 1 rfl ?_; refine TL.ns ?_; refine T.cond rfl (fun h4 => ?_) (fun h4 => ?_)
      · have p4 := of_decide_eq_true h4; rw [zat (by omega)] at hk; generalize hn2 : zaj f2 kk2 (l.length - (i_3 + 1)) (i_3 + 1) = next2 at hk; rw [← hf2] at hk; (try dsimp only at hk); refine T.skip (K.seq (T.seq (T.block (T.seq ?_)))); have hq : (0 ≤ ((i_3 : Int) - 1) ∧ ((i_3 : Int) - 1) < (l.length : Int)) ∧ _ := zap hk; clear hk; obtain ⟨g16, hk⟩ := hq; (try dsimp only at hk); refine T.ax (.still 0 (.still 1 (.still 2 (.still 3 (.still 4 (.still 5 (.still 6 (.still 7 (.still 8 (.still 9 (.eff 10 (.still 11 .done)))))))))))) _ (by kernel_rfl) (List.Sublist.refl _) ?_; refine TS.run 3 rfl ?_; refine TS.y rfl (Yv.aL rfl rfl rfl (by omega)) ?_; refine TS.y rfl (Yv.am (i := ((i_3 : Int) - 1).toNat) rfl rfl rfl hl (List.length_map _) (by omega) (by omega)) ?_; refine TS.y rfl (Yv.au 0 (i := ((i_3 : Int) - 1).toNat) (j := 0) rfl rfl rfl hl (by omega) rfl rfl) ?_; refine TS.run 2 rfl ?_; refine TS.y rfl (Yv.am (i := i_3) rfl rfl rfl hl (List.length_map _) rfl (by omega)) ?_; refine TS.y rfl (Yv.au 0 (i := i_3) (j := 0) rfl rfl rfl hl (by omega) rfl rfl) ?_; refine TS.eff ?_; refine TSo.ar rfl (Wt.none rfl) rfl rfl (Ew.ag rfl rfl rfl (fun w hw => zaA _ w (hw.fr (i := 0) rfl) (nth l (((i_3 : Int) - 1).toNat)) (nth l i_3))) ?_; rintro _ _ ⟨rfl, rfl⟩; refine ⟨(fun w hw => hw.sub Sx), ?_⟩; refine TS.run 1 rfl ?_; refine TS.done ?_; refine K.seq ?_; refine T.cond rfl (fun h5 => ?_) (fun h5 => ?_)
        · have p5 := of_decide_eq_true h5; replace hk := zab hk h5; refine T.sr ?_; refine TL.run 1 rfl ?_; refine TL.ns (T.ret (K.ah (K.ab (K.ab (K.ah (K.ab ?_)))))); obtain rfl := Option.some.inj hk; exact K.ai rfl rfl (fun w' hw => ⟨rfl, hw.isBelow⟩)
        · have p5 := of_decide_eq_false h5; replace hk := zaa hk h5; refine T.skip (K.ac (K.seq (T.region ?_))); refine TL.run 1 rfl ?_; refine TL.y (Yv.ao rfl rfl rfl (by omega)) ?_; refine TL.run 1 rfl ?_; refine TL.nil ?_; rw [← hn2] at hk; exact K.next (i_3 + 1) hk (by omega) (.c (.c (.c .nil))) (List.Sublist.refl _)
      · have p4 := of_decide_eq_false h4; rw [zau (by omega), ← hkk2] at hk; (try dsimp only at hk); refine T.exit (K.aa (K.aa (K.ad ?_))); exact K.af () hk .nil (List.Sublist.refl _)
  · rintro _ hk; rw [← hk1] at hk; (try dsimp only at hk); refine T.sr ?_; refine TL.run 1 rfl ?_; refine TL.ns (T.ret ?_); obtain rfl := Option.some.inj hk; exact K.ai rfl rfl (fun w' hw => ⟨rfl, hw.isBelow⟩)
def zbF (d : GDomain) : Option Bool :=
  zaK (fun (x_1 : Bool) =>
    some x_1)
  (fun k2 =>
    (bif (zag d.Station) then
      (bif (zbt d.Channels) then
        (zbs d.Channels).bind fun r16 =>
        k2 r16
        else
        k2 false)
      else
      k2 false))
theorem zdY (F0 : Frz) (w : World) (hF0 : F0.At w) (d : GDomain) (vd_1 : Value) (hd_1 : SlC F0 vd_1 1 (d.Channels.map eI)) (r : Bool) (hr : zbF d = some r) : Calls Try.prog 47 #[.agg [.int .i64 d.Station, vd_1].toArray] w fun e w' => e = .returned (.bool r) ∧ Below w.heap.size w w' := by
  have hk := hr; unfold zbF at hk; haveI := hd_1.oneC; obtain ⟨S0, F1, rfl, hS0, hp0⟩ := zao hF0; refine zar Try.func47 rfl rfl rfl hp0 ?_; refine T.sr ?_; refine TL.e (Ew.az rfl rfl) ?_; rintro _ _ ⟨g1, rfl, rfl⟩; refine TL.run 1 rfl ?_; refine TL.nx ?_; refine TL.run 1 rfl ?_; refine TL.ns (T.seq ?_); (try dsimp only at hk); have hq := zae hk; clear hk; obtain ⟨k2, hk2, hk⟩ := hq; (try dsimp only at hk); refine T.ae (ι := Bool) (fun z => [(2, .bool z)]) (fun z => [.fr F1]) (fun z => k2 z = some r) ?_ ?_
  · refine T.region ?_; refine TL.y (Yv.fieldAddr rfl rfl) ?_; refine TL.y (Yv.a 0 rfl rfl rfl rfl) ?_; refine TL.e (Ew.ag rfl rfl rfl (fun w hw => zbm _ w (hw.fr (i := 1) rfl) d.Station)) ?_; rintro _ _ ⟨rfl, rfl⟩; refine TL.run 1 rfl ?_; refine TL.gs rfl rfl rfl (fun h3 => ?_) (fun h3 => ?_)
    · replace hk := zab hk h3; refine TL.y (Yv.fieldAddr rfl rfl) ?_; refine TL.y (Yv.a 0 rfl rfl rfl rfl) ?_; refine TL.run 1 rfl ?_; refine TL.e (Ew.ag rfl rfl rfl (fun w hw => zdq _ w (hw.fr (i := 1) rfl) d.Channels vd_1 hd_1)) ?_; rintro _ _ ⟨rfl, rfl⟩; refine TL.run 2 rfl ?_; refine TL.gs rfl rfl rfl (fun h4 => ?_) (fun h4 => ?_)
      · replace hk := zab hk h4; refine TL.y (Yv.fieldAddr rfl rfl) ?_; refine TL.y (Yv.a 0 rfl rfl rfl rfl) ?_; have hq := zak hk; clear hk; obtain ⟨r16, hr16, hk⟩ := hq; refine TL.e (Ew.ag rfl rfl rfl (fun w hw => zc4 _ w (hw.fr (i := 1) rfl) d.Channels vd_1 hd_1 r16 hr16)) ?_; rintro _ _ ⟨rfl, rfl⟩; refine TL.run 2 rfl ?_; refine TL.nil ?_; refine K.pick [1] rfl (by decide) ?_; exact K.af r16 hk (.c .nil) (List.Sublist.refl _)
      · replace hk := zaa hk h4; refine TL.run 5 rfl ?_; refine TL.nil ?_; refine K.pick [1] rfl (by decide) ?_; exact K.af false hk (.c .nil) (List.Sublist.refl _)
    · replace hk := zaa hk h3; refine TL.run 11 rfl ?_; refine TL.nil ?_; refine K.pick [1] rfl (by decide) ?_; exact K.af false hk (.c .nil) (List.Sublist.refl _)
  · rintro x_1 hk; rw [← hk2] at hk; (try dsimp only at hk); refine T.ret ?_; obtain rfl := Option.some.inj hk; exact K.ai rfl rfl (fun w' hw => ⟨rfl, hw.isBelow⟩)
def zaG (l : List GPair) : Bool :=
  zaK (fun (_ : Unit) =>
    true)
  (fun k1 =>
    zaj (fun (i_3 : Nat) (next2 : Unit → Bool) (_ : Unit) =>
      (bif !(za0 (nth l i_3)) then
        false
        else
        next2 ()))
    (fun (_ : Unit) =>
      k1 ()) (l.length - 0) 0 ())
theorem zca (F0 : Frz) (w : World) (hF0 : F0.At w) (l : List GPair) (vl : Value) (hl : SlC F0 vl 5 (l.map GPair.enc)) : Calls Try.prog 53 #[vl, .func (.func 71) #[] #[]] w fun e w' => e = .returned (.bool (zaG l)) ∧ Below w.heap.size w w' := by
  obtain ⟨r, hk⟩ : ∃ r, zaG l = r := ⟨_, rfl⟩; rw [hk]; unfold zaG at hk; haveI := hl.oneC; obtain ⟨S0, F1, rfl, hS0, hp0⟩ := zao hF0; refine zar Try.func53 rfl rfl rfl hp0 ?_; refine T.sr ?_; refine TL.run 1 rfl ?_; refine TL.ns (T.seq (T.sr ?_)); refine TL.run 1 rfl ?_; refine TL.y (Yv.an rfl rfl hl (List.length_map _)) ?_; have hm8 : l.length ≤ 9223372036854775807 := (List.length_map _) ▸ hl.max; refine TL.run 1 rfl ?_; refine TL.ns ?_; have hq := zae hk; clear hk; obtain ⟨k1, hk1, hk⟩ := hq; (try dsimp only at hk); refine T.ae (ι := Unit) (fun z => []) (fun z => [.fr F1]) (fun z => k1 () = r) ?_ ?_
  · have hq := zal hk; clear hk; obtain ⟨f2, kk2, hf2, hkk2, hk⟩ := hq; refine T.block ?_; refine T.loop (ι := Nat) (fun z => [(1, .func (.func 71) #[] #[]), (7, vl), (8, .int .i64 (l.length : Int)), (9, .int .i64 (z : Int))]) (fun z => [.fr F1]) (fun z => zaj f2 kk2 (l.length - z) z () = r) (fun z => l.length - z) 0 ?_ ?_ ?_ ?_
    · exact hk
    · exact (.c (.c (.c (.c .nil))))
    · exact List.Sublist.refl _
    · rintro i_3 hk; refine T.sr ?_; refine TL.run 1 rfl ?_; refine TL.ns (T.seq ?_); refine T.cond rfl (fun h4 => ?_) (fun h4 => ?_)
      · have p4 := of_decide_eq_true h4; rw [zat (by omega)] at hk; generalize hn2 : zaj f2 kk2 (l.length - (i_3 + 1)) (i_3 + 1) = next2 at hk; rw [← hf2] at hk; (try dsimp only at hk); refine T.skip (K.seq (T.seq (T.block (T.sr ?_)))); refine TL.y (Yv.am (i := i_3) rfl rfl rfl hl (List.length_map _) rfl (by omega)) ?_; refine TL.y (Yv.aq 0 (i := i_3) rfl rfl rfl hl (by omega) rfl rfl rfl) ?_; refine TL.e (Ew.alloc rfl) ?_; rintro _ _ ⟨g6, rfl, rfl⟩; refine TL.e0 (Ew.al 0 rfl rfl rfl rfl rfl rfl) ?_; rintro _ _ ⟨rfl, rfl⟩; refine TL.nx ?_; refine TL.run 1 rfl ?_; refine TL.y (Yv.ak 0 rfl rfl rfl rfl) ?_; refine TL.e (Ew.ag rfl rfl rfl (fun w hw => zej _ w (hw.fr (i := 1) rfl) (nth l i_3))) ?_; rintro _ _ ⟨rfl, rfl⟩; refine TL.run 1 rfl ?_; refine TL.ns ?_; refine T.cond rfl (fun h5 => ?_) (fun h5 => ?_)
        · replace hk := zab hk h5; refine T.sr ?_; refine TL.run 1 rfl ?_; refine TL.ns (T.ret (K.ah (K.ab (K.ab (K.ah (K.ab ?_)))))); subst hk; exact K.ai rfl rfl (fun w' hw => ⟨rfl, hw.isBelow⟩)
        · replace hk := zaa hk h5; refine T.skip (K.ac (K.seq (T.region ?_))); refine TL.y (Yv.ao rfl rfl rfl (by omega)) ?_; refine TL.run 1 rfl ?_; refine TL.nil ?_; rw [← hn2] at hk; refine K.pick [1] rfl (by decide) ?_; exact K.next (i_3 + 1) hk (by omega) (.c (.c (.c (.c .nil)))) (List.Sublist.refl _)
      · have p4 := of_decide_eq_false h4; rw [zau (by omega), ← hkk2] at hk; (try dsimp only at hk); refine T.exit (K.aa (K.aa (K.ad ?_))); exact K.af () hk .nil (List.Sublist.refl _)
  · rintro _ hk; rw [← hk1] at hk; (try dsimp only at hk); refine T.sr ?_; refine TL.run 1 rfl ?_; refine TL.ns (T.ret ?_); subst hk; exact K.ai rfl rfl (fun w' hw => ⟨rfl, hw.isBelow⟩)
def zaD (l : List GPair) : Option Bool :=
  zaK (fun (_ : Unit) =>
    some true)
  (fun k1 =>
    zaj (fun (i_3 : Nat) (next2 : Unit → Option Bool) (_ : Unit) =>
      grd (0 ≤ ((i_3 : Int) - 1) ∧ ((i_3 : Int) - 1) < (l.length : Int)) <|
      (bif decide (0 ≤ (zbh (nth l (((i_3 : Int) - 1).toNat)) (nth l i_3))) then
        some false
        else
        next2 ()))
    (fun (_ : Unit) =>
      k1 ()) (l.length - 1) 1 ())
theorem zbI (F0 : Frz) (w : World) (hF0 : F0.At w) (l : List GPair) (vl : Value) (hl : SlC F0 vl 5 (l.map GPair.enc)) (r : Bool) (hr : zaD l = some r) : Calls Try.prog 72 #[vl, .func (.func 73) #[] #[]] w fun e w' => e = .returned (.bool r) ∧ Below w.heap.size w w' := by
  have hk := hr; unfold zaD at hk; haveI := hl.oneC; obtain ⟨S0, F1, rfl, hS0, hp0⟩ := zao hF0; refine zar Try.func72 rfl rfl rfl hp0 ?_; refine T.sr ?_; refine TL.run 1 rfl ?_; refine TL.ns (T.seq (T.sr ?_)); refine TL.run 1 rfl ?_; refine TL.ns ?_; have hq := zae hk; clear hk; obtain ⟨k1, hk1, hk⟩ := hq; (try dsimp only at hk); refine T.ae (ι := Unit) (fun z => []) (fun z => [.fr F1]) (fun z => k1 () = some r) ?_ ?_
  · have hq := zal hk; clear hk; obtain ⟨f2, kk2, hf2, hkk2, hk⟩ := hq; refine T.block ?_; refine T.loop (ι := Nat) (fun z => [(0, vl), (1, .func (.func 73) #[] #[]), (5, .int .i64 (z : Int))]) (fun z => [.fr F1]) (fun z => zaj f2 kk2 (l.length - z) z () = some r) (fun z => l.length - z) 1 ?_ ?_ ?_ ?_
    · exact hk
    · exact (.c (.c (.c .nil)))
    · exact List.Sublist.refl _
    · rintro i_3 hk; refine T.seq (T.sr ?_); refine TL.run 2 rfl ?_; refine TL.y (Yv.an rfl rfl hl (List.length_map _)) ?_; have hm8 : l.length ≤ 9223372036854775807 := (List.length_map _) ▸ hl.max; refine TL.run 1 rfl ?_; refine TL.ns ?_; refine T.cond rfl (fun h4 => ?_) (fun h4 => ?_)
      · have p4 := of_decide_eq_true h4; rw [zat (by omega)] at hk; generalize hn2 : zaj f2 kk2 (l.length - (i_3 + 1)) (i_3 + 1) = next2 at hk; rw [← hf2] at hk; (try dsimp only at hk); refine T.skip (K.seq (T.seq (T.block (T.seq ?_)))); have hq : (0 ≤ ((i_3 : Int) - 1) ∧ ((i_3 : Int) - 1) < (l.length : Int)) ∧ _ := zap hk; clear hk; obtain ⟨g16, hk⟩ := hq; (try dsimp only at hk); refine T.ax (.still 0 (.still 1 (.still 2 (.still 3 (.still 4 (.still 5 (.still 6 (.still 7 (.still 8 (.still 9 (.eff 10 (.still 11 .done)))))))))))) _ (by kernel_rfl) (List.Sublist.refl _) ?_; refine TS.run 3 rfl ?_; refine TS.y rfl (Yv.aL rfl rfl rfl (by omega)) ?_; refine TS.y rfl (Yv.am (i := ((i_3 : Int) - 1).toNat) rfl rfl rfl hl (List.length_map _) (by omega) (by omega)) ?_; refine TS.y rfl (Yv.aq 0 (i := ((i_3 : Int) - 1).toNat) rfl rfl rfl hl (by omega) rfl rfl rfl) ?_; refine TS.run 2 rfl ?_; refine TS.y rfl (Yv.am (i := i_3) rfl rfl rfl hl (List.length_map _) rfl (by omega)) ?_; refine TS.y rfl (Yv.aq 0 (i := i_3) rfl rfl rfl hl (by omega) rfl rfl rfl) ?_; refine TS.eff ?_; refine TSo.ar rfl (Wt.none rfl) rfl rfl (Ew.ag rfl rfl rfl (fun w hw => zdA _ w (hw.fr (i := 0) rfl) (nth l (((i_3 : Int) - 1).toNat)) (nth l i_3))) ?_; rintro _ _ ⟨rfl, rfl⟩; refine ⟨(fun w hw => hw.sub Sx), ?_⟩; refine TS.run 1 rfl ?_; refine TS.done ?_; refine K.seq ?_; refine T.cond rfl (fun h5 => ?_) (fun h5 => ?_)
        · have p5 := of_decide_eq_true h5; replace hk := zab hk h5; refine T.sr ?_; refine TL.run 1 rfl ?_; refine TL.ns (T.ret (K.ah (K.ab (K.ab (K.ah (K.ab ?_)))))); obtain rfl := Option.some.inj hk; exact K.ai rfl rfl (fun w' hw => ⟨rfl, hw.isBelow⟩)
        · have p5 := of_decide_eq_false h5; replace hk := zaa hk h5; refine T.skip (K.ac (K.seq (T.region ?_))); refine TL.run 1 rfl ?_; refine TL.y (Yv.ao rfl rfl rfl (by omega)) ?_; refine TL.run 1 rfl ?_; refine TL.nil ?_; rw [← hn2] at hk; exact K.next (i_3 + 1) hk (by omega) (.c (.c (.c .nil))) (List.Sublist.refl _)
      · have p4 := of_decide_eq_false h4; rw [zau (by omega), ← hkk2] at hk; (try dsimp only at hk); refine T.exit (K.aa (K.aa (K.ad ?_))); exact K.af () hk .nil (List.Sublist.refl _)
  · rintro _ hk; rw [← hk1] at hk; (try dsimp only at hk); refine T.sr ?_; refine TL.run 1 rfl ?_; refine TL.ns (T.ret ?_); obtain rfl := Option.some.inj hk; exact K.ai rfl rfl (fun w' hw => ⟨rfl, hw.isBelow⟩)
def zaF (l : List GLoad) : Bool :=
  zaK (fun (_ : Unit) =>
    true)
  (fun k1 =>
    zaj (fun (i_3 : Nat) (next2 : Unit → Bool) (_ : Unit) =>
      (bif !(za1 (nth l i_3)) then
        false
        else
        next2 ()))
    (fun (_ : Unit) =>
      k1 ()) (l.length - 0) 0 ())
theorem zb9 (F0 : Frz) (w : World) (hF0 : F0.At w) (l : List GLoad) (vl : Value) (hl : SlC F0 vl 5 (l.map GLoad.enc)) : Calls Try.prog 56 #[vl, .func (.func 74) #[] #[]] w fun e w' => e = .returned (.bool (zaF l)) ∧ Below w.heap.size w w' := by
  obtain ⟨r, hk⟩ : ∃ r, zaF l = r := ⟨_, rfl⟩; rw [hk]; unfold zaF at hk; haveI := hl.oneC; obtain ⟨S0, F1, rfl, hS0, hp0⟩ := zao hF0; refine zar Try.func56 rfl rfl rfl hp0 ?_; refine T.sr ?_; refine TL.run 1 rfl ?_; refine TL.ns (T.seq (T.sr ?_)); refine TL.run 1 rfl ?_; refine TL.y (Yv.an rfl rfl hl (List.length_map _)) ?_; have hm8 : l.length ≤ 9223372036854775807 := (List.length_map _) ▸ hl.max; refine TL.run 1 rfl ?_; refine TL.ns ?_; have hq := zae hk; clear hk; obtain ⟨k1, hk1, hk⟩ := hq; (try dsimp only at hk); refine T.ae (ι := Unit) (fun z => []) (fun z => [.fr F1]) (fun z => k1 () = r) ?_ ?_
  · have hq := zal hk; clear hk; obtain ⟨f2, kk2, hf2, hkk2, hk⟩ := hq; refine T.block ?_; refine T.loop (ι := Nat) (fun z => [(1, .func (.func 74) #[] #[]), (7, vl), (8, .int .i64 (l.length : Int)), (9, .int .i64 (z : Int))]) (fun z => [.fr F1]) (fun z => zaj f2 kk2 (l.length - z) z () = r) (fun z => l.length - z) 0 ?_ ?_ ?_ ?_
    · exact hk
    · exact (.c (.c (.c (.c .nil))))
    · exact List.Sublist.refl _
    · rintro i_3 hk; refine T.sr ?_; refine TL.run 1 rfl ?_; refine TL.ns (T.seq ?_); refine T.cond rfl (fun h4 => ?_) (fun h4 => ?_)
      · have p4 := of_decide_eq_true h4; rw [zat (by omega)] at hk; generalize hn2 : zaj f2 kk2 (l.length - (i_3 + 1)) (i_3 + 1) = next2 at hk; rw [← hf2] at hk; (try dsimp only at hk); refine T.skip (K.seq (T.seq (T.block (T.sr ?_)))); refine TL.y (Yv.am (i := i_3) rfl rfl rfl hl (List.length_map _) rfl (by omega)) ?_; refine TL.y (Yv.aq 0 (i := i_3) rfl rfl rfl hl (by omega) rfl rfl rfl) ?_; refine TL.e (Ew.alloc rfl) ?_; rintro _ _ ⟨g6, rfl, rfl⟩; refine TL.e0 (Ew.al 0 rfl rfl rfl rfl rfl rfl) ?_; rintro _ _ ⟨rfl, rfl⟩; refine TL.nx ?_; refine TL.run 1 rfl ?_; refine TL.y (Yv.ak 0 rfl rfl rfl rfl) ?_; refine TL.e (Ew.ag rfl rfl rfl (fun w hw => zec _ w (hw.fr (i := 1) rfl) (nth l i_3))) ?_; rintro _ _ ⟨rfl, rfl⟩; refine TL.run 1 rfl ?_; refine TL.ns ?_; refine T.cond rfl (fun h5 => ?_) (fun h5 => ?_)
        · replace hk := zab hk h5; refine T.sr ?_; refine TL.run 1 rfl ?_; refine TL.ns (T.ret (K.ah (K.ab (K.ab (K.ah (K.ab ?_)))))); subst hk; exact K.ai rfl rfl (fun w' hw => ⟨rfl, hw.isBelow⟩)
        · replace hk := zaa hk h5; refine T.skip (K.ac (K.seq (T.region ?_))); refine TL.y (Yv.ao rfl rfl rfl (by omega)) ?_; refine TL.run 1 rfl ?_; refine TL.nil ?_; rw [← hn2] at hk; refine K.pick [1] rfl (by decide) ?_; exact K.next (i_3 + 1) hk (by omega) (.c (.c (.c (.c .nil)))) (List.Sublist.refl _)
      · have p4 := of_decide_eq_false h4; rw [zau (by omega), ← hkk2] at hk; (try dsimp only at hk); refine T.exit (K.aa (K.aa (K.ad ?_))); exact K.af () hk .nil (List.Sublist.refl _)
  · rintro _ hk; rw [← hk1] at hk; (try dsimp only at hk); refine T.sr ?_; refine TL.run 1 rfl ?_; refine TL.ns (T.ret ?_); subst hk; exact K.ai rfl rfl (fun w' hw => ⟨rfl, hw.isBelow⟩)
def zaC (l : List GLoad) : Option Bool :=
  zaK (fun (_ : Unit) =>
    some true)
  (fun k1 =>
    zaj (fun (i_3 : Nat) (next2 : Unit → Option Bool) (_ : Unit) =>
      grd (0 ≤ ((i_3 : Int) - 1) ∧ ((i_3 : Int) - 1) < (l.length : Int)) <|
      (bif decide (0 ≤ (zbg (nth l (((i_3 : Int) - 1).toNat)) (nth l i_3))) then
        some false
        else
        next2 ()))
    (fun (_ : Unit) =>
      k1 ()) (l.length - 1) 1 ())
theorem zbJ (F0 : Frz) (w : World) (hF0 : F0.At w) (l : List GLoad) (vl : Value) (hl : SlC F0 vl 5 (l.map GLoad.enc)) (r : Bool) (hr : zaC l = some r) : Calls Try.prog 75 #[vl, .func (.func 76) #[] #[]] w fun e w' => e = .returned (.bool r) ∧ Below w.heap.size w w' := by
  have hk := hr; unfold zaC at hk; haveI := hl.oneC; obtain ⟨S0, F1, rfl, hS0, hp0⟩ := zao hF0; refine zar Try.func75 rfl rfl rfl hp0 ?_; refine T.sr ?_; refine TL.run 1 rfl ?_; refine TL.ns (T.seq (T.sr ?_)); refine TL.run 1 rfl ?_; refine TL.ns ?_; have hq := zae hk; clear hk; obtain ⟨k1, hk1, hk⟩ := hq; (try dsimp only at hk); refine T.ae (ι := Unit) (fun z => []) (fun z => [.fr F1]) (fun z => k1 () = some r) ?_ ?_
  · have hq := zal hk; clear hk; obtain ⟨f2, kk2, hf2, hkk2, hk⟩ := hq; refine T.block ?_; refine T.loop (ι := Nat) (fun z => [(0, vl), (1, .func (.func 76) #[] #[]), (5, .int .i64 (z : Int))]) (fun z => [.fr F1]) (fun z => zaj f2 kk2 (l.length - z) z () = some r) (fun z => l.length - z) 1 ?_ ?_ ?_ ?_
    · exact hk
    · exact (.c (.c (.c .nil)))
    · exact List.Sublist.refl _
    · rintro i_3 hk; refine T.seq (T.sr ?_); refine TL.run 2 rfl ?_; refine TL.y (Yv.an rfl rfl hl (List.length_map _)) ?_; have hm8 : l.length ≤ 9223372036854775807 := (List.length_map _) ▸ hl.max; refine TL.run 1 rfl ?_; refine TL.ns ?_; refine T.cond rfl (fun h4 => ?_) (fun h4 => ?_)
      · have p4 := of_decide_eq_true h4; rw [zat (by omega)] at hk; generalize hn2 : zaj f2 kk2 (l.length - (i_3 + 1)) (i_3 + 1) = next2 at hk; rw [← hf2] at hk; (try dsimp only at hk); refine T.skip (K.seq (T.seq (T.block (T.seq ?_)))); have hq : (0 ≤ ((i_3 : Int) - 1) ∧ ((i_3 : Int) - 1) < (l.length : Int)) ∧ _ := zap hk; clear hk; obtain ⟨g16, hk⟩ := hq; (try dsimp only at hk); refine T.ax (.still 0 (.still 1 (.still 2 (.still 3 (.still 4 (.still 5 (.still 6 (.still 7 (.still 8 (.still 9 (.eff 10 (.still 11 .done)))))))))))) _ (by kernel_rfl) (List.Sublist.refl _) ?_; refine TS.run 3 rfl ?_; refine TS.y rfl (Yv.aL rfl rfl rfl (by omega)) ?_; refine TS.y rfl (Yv.am (i := ((i_3 : Int) - 1).toNat) rfl rfl rfl hl (List.length_map _) (by omega) (by omega)) ?_; refine TS.y rfl (Yv.aq 0 (i := ((i_3 : Int) - 1).toNat) rfl rfl rfl hl (by omega) rfl rfl rfl) ?_; refine TS.run 2 rfl ?_; refine TS.y rfl (Yv.am (i := i_3) rfl rfl rfl hl (List.length_map _) rfl (by omega)) ?_; refine TS.y rfl (Yv.aq 0 (i := i_3) rfl rfl rfl hl (by omega) rfl rfl rfl) ?_; refine TS.eff ?_; refine TSo.ar rfl (Wt.none rfl) rfl rfl (Ew.ag rfl rfl rfl (fun w hw => zdz _ w (hw.fr (i := 0) rfl) (nth l (((i_3 : Int) - 1).toNat)) (nth l i_3))) ?_; rintro _ _ ⟨rfl, rfl⟩; refine ⟨(fun w hw => hw.sub Sx), ?_⟩; refine TS.run 1 rfl ?_; refine TS.done ?_; refine K.seq ?_; refine T.cond rfl (fun h5 => ?_) (fun h5 => ?_)
        · have p5 := of_decide_eq_true h5; replace hk := zab hk h5; refine T.sr ?_; refine TL.run 1 rfl ?_; refine TL.ns (T.ret (K.ah (K.ab (K.ab (K.ah (K.ab ?_)))))); obtain rfl := Option.some.inj hk; exact K.ai rfl rfl (fun w' hw => ⟨rfl, hw.isBelow⟩)
        · have p5 := of_decide_eq_false h5; replace hk := zaa hk h5; refine T.skip (K.ac (K.seq (T.region ?_))); refine TL.run 1 rfl ?_; refine TL.y (Yv.ao rfl rfl rfl (by omega)) ?_; refine TL.run 1 rfl ?_; refine TL.nil ?_; rw [← hn2] at hk; exact K.next (i_3 + 1) hk (by omega) (.c (.c (.c .nil))) (List.Sublist.refl _)
      · have p4 := of_decide_eq_false h4; rw [zau (by omega), ← hkk2] at hk; (try dsimp only at hk); refine T.exit (K.aa (K.aa (K.ad ?_))); exact K.af () hk .nil (List.Sublist.refl _)
  · rintro _ hk; rw [← hk1] at hk; (try dsimp only at hk); refine T.sr ?_; refine TL.run 1 rfl ?_; refine TL.ns (T.ret ?_); obtain rfl := Option.some.inj hk; exact K.ai rfl rfl (fun w' hw => ⟨rfl, hw.isBelow⟩)
def zaL (l : List GCap) : Bool :=
  zaK (fun (_ : Unit) =>
    true)
  (fun k1 =>
    zaj (fun (i_3 : Nat) (next2 : Unit → Bool) (_ : Unit) =>
      (bif !(zaY (nth l i_3)) then
        false
        else
        next2 ()))
    (fun (_ : Unit) =>
      k1 ()) (l.length - 0) 0 ())
theorem zcf (F0 : Frz) (w : World) (hF0 : F0.At w) (l : List GCap) (vl : Value) (hl : SlC F0 vl 4 (l.map GCap.enc)) : Calls Try.prog 58 #[vl, .func (.func 77) #[] #[]] w fun e w' => e = .returned (.bool (zaL l)) ∧ Below w.heap.size w w' := by
  obtain ⟨r, hk⟩ : ∃ r, zaL l = r := ⟨_, rfl⟩; rw [hk]; unfold zaL at hk; haveI := hl.oneC; obtain ⟨S0, F1, rfl, hS0, hp0⟩ := zao hF0; refine zar Try.func58 rfl rfl rfl hp0 ?_; refine T.sr ?_; refine TL.run 1 rfl ?_; refine TL.ns (T.seq (T.sr ?_)); refine TL.run 1 rfl ?_; refine TL.y (Yv.an rfl rfl hl (List.length_map _)) ?_; have hm8 : l.length ≤ 9223372036854775807 := (List.length_map _) ▸ hl.max; refine TL.run 1 rfl ?_; refine TL.ns ?_; have hq := zae hk; clear hk; obtain ⟨k1, hk1, hk⟩ := hq; (try dsimp only at hk); refine T.ae (ι := Unit) (fun z => []) (fun z => [.fr F1]) (fun z => k1 () = r) ?_ ?_
  · have hq := zal hk; clear hk; obtain ⟨f2, kk2, hf2, hkk2, hk⟩ := hq; refine T.block ?_; refine T.loop (ι := Nat) (fun z => [(1, .func (.func 77) #[] #[]), (7, vl), (8, .int .i64 (l.length : Int)), (9, .int .i64 (z : Int))]) (fun z => [.fr F1]) (fun z => zaj f2 kk2 (l.length - z) z () = r) (fun z => l.length - z) 0 ?_ ?_ ?_ ?_
    · exact hk
    · exact (.c (.c (.c (.c .nil))))
    · exact List.Sublist.refl _
    · rintro i_3 hk; refine T.sr ?_; refine TL.run 1 rfl ?_; refine TL.ns (T.seq ?_); refine T.cond rfl (fun h4 => ?_) (fun h4 => ?_)
      · have p4 := of_decide_eq_true h4; rw [zat (by omega)] at hk; generalize hn2 : zaj f2 kk2 (l.length - (i_3 + 1)) (i_3 + 1) = next2 at hk; rw [← hf2] at hk; (try dsimp only at hk); refine T.skip (K.seq (T.seq (T.block (T.sr ?_)))); refine TL.y (Yv.am (i := i_3) rfl rfl rfl hl (List.length_map _) rfl (by omega)) ?_; refine TL.y (Yv.aq 0 (i := i_3) rfl rfl rfl hl (by omega) rfl rfl rfl) ?_; refine TL.e (Ew.alloc rfl) ?_; rintro _ _ ⟨g6, rfl, rfl⟩; refine TL.e0 (Ew.al 0 rfl rfl rfl rfl rfl rfl) ?_; rintro _ _ ⟨rfl, rfl⟩; refine TL.nx ?_; refine TL.run 1 rfl ?_; refine TL.y (Yv.ak 0 rfl rfl rfl rfl) ?_; refine TL.e (Ew.ag rfl rfl rfl (fun w hw => zes _ w (hw.fr (i := 1) rfl) (nth l i_3))) ?_; rintro _ _ ⟨rfl, rfl⟩; refine TL.run 1 rfl ?_; refine TL.ns ?_; refine T.cond rfl (fun h5 => ?_) (fun h5 => ?_)
        · replace hk := zab hk h5; refine T.sr ?_; refine TL.run 1 rfl ?_; refine TL.ns (T.ret (K.ah (K.ab (K.ab (K.ah (K.ab ?_)))))); subst hk; exact K.ai rfl rfl (fun w' hw => ⟨rfl, hw.isBelow⟩)
        · replace hk := zaa hk h5; refine T.skip (K.ac (K.seq (T.region ?_))); refine TL.y (Yv.ao rfl rfl rfl (by omega)) ?_; refine TL.run 1 rfl ?_; refine TL.nil ?_; rw [← hn2] at hk; refine K.pick [1] rfl (by decide) ?_; exact K.next (i_3 + 1) hk (by omega) (.c (.c (.c (.c .nil)))) (List.Sublist.refl _)
      · have p4 := of_decide_eq_false h4; rw [zau (by omega), ← hkk2] at hk; (try dsimp only at hk); refine T.exit (K.aa (K.aa (K.ad ?_))); exact K.af () hk .nil (List.Sublist.refl _)
  · rintro _ hk; rw [← hk1] at hk; (try dsimp only at hk); refine T.sr ?_; refine TL.run 1 rfl ?_; refine TL.ns (T.ret ?_); subst hk; exact K.ai rfl rfl (fun w' hw => ⟨rfl, hw.isBelow⟩)
def zaJ (l : List GCap) : Option Bool :=
  zaK (fun (_ : Unit) =>
    some true)
  (fun k1 =>
    zaj (fun (i_3 : Nat) (next2 : Unit → Option Bool) (_ : Unit) =>
      grd (0 ≤ ((i_3 : Int) - 1) ∧ ((i_3 : Int) - 1) < (l.length : Int)) <|
      (bif decide (0 ≤ (zbn (nth l (((i_3 : Int) - 1).toNat)) (nth l i_3))) then
        some false
        else
        next2 ()))
    (fun (_ : Unit) =>
      k1 ()) (l.length - 1) 1 ())
theorem zbQ (F0 : Frz) (w : World) (hF0 : F0.At w) (l : List GCap) (vl : Value) (hl : SlC F0 vl 4 (l.map GCap.enc)) (r : Bool) (hr : zaJ l = some r) : Calls Try.prog 78 #[vl, .func (.func 79) #[] #[]] w fun e w' => e = .returned (.bool r) ∧ Below w.heap.size w w' := by
  have hk := hr; unfold zaJ at hk; haveI := hl.oneC; obtain ⟨S0, F1, rfl, hS0, hp0⟩ := zao hF0; refine zar Try.func78 rfl rfl rfl hp0 ?_; refine T.sr ?_; refine TL.run 1 rfl ?_; refine TL.ns (T.seq (T.sr ?_)); refine TL.run 1 rfl ?_; refine TL.ns ?_; have hq := zae hk; clear hk; obtain ⟨k1, hk1, hk⟩ := hq; (try dsimp only at hk); refine T.ae (ι := Unit) (fun z => []) (fun z => [.fr F1]) (fun z => k1 () = some r) ?_ ?_
  · have hq := zal hk; clear hk; obtain ⟨f2, kk2, hf2, hkk2, hk⟩ := hq; refine T.block ?_; refine T.loop (ι := Nat) (fun z => [(0, vl), (1, .func (.func 79) #[] #[]), (5, .int .i64 (z : Int))]) (fun z => [.fr F1]) (fun z => zaj f2 kk2 (l.length - z) z () = some r) (fun z => l.length - z) 1 ?_ ?_ ?_ ?_
    · exact hk
    · exact (.c (.c (.c .nil)))
    · exact List.Sublist.refl _
    · rintro i_3 hk; refine T.seq (T.sr ?_); refine TL.run 2 rfl ?_; refine TL.y (Yv.an rfl rfl hl (List.length_map _)) ?_; have hm8 : l.length ≤ 9223372036854775807 := (List.length_map _) ▸ hl.max; refine TL.run 1 rfl ?_; refine TL.ns ?_; refine T.cond rfl (fun h4 => ?_) (fun h4 => ?_)
      · have p4 := of_decide_eq_true h4; rw [zat (by omega)] at hk; generalize hn2 : zaj f2 kk2 (l.length - (i_3 + 1)) (i_3 + 1) = next2 at hk; rw [← hf2] at hk; (try dsimp only at hk); refine T.skip (K.seq (T.seq (T.block (T.seq ?_)))); have hq : (0 ≤ ((i_3 : Int) - 1) ∧ ((i_3 : Int) - 1) < (l.length : Int)) ∧ _ := zap hk; clear hk; obtain ⟨g16, hk⟩ := hq; (try dsimp only at hk); refine T.ax (.still 0 (.still 1 (.still 2 (.still 3 (.still 4 (.still 5 (.still 6 (.still 7 (.still 8 (.still 9 (.eff 10 (.still 11 .done)))))))))))) _ (by kernel_rfl) (List.Sublist.refl _) ?_; refine TS.run 3 rfl ?_; refine TS.y rfl (Yv.aL rfl rfl rfl (by omega)) ?_; refine TS.y rfl (Yv.am (i := ((i_3 : Int) - 1).toNat) rfl rfl rfl hl (List.length_map _) (by omega) (by omega)) ?_; refine TS.y rfl (Yv.aq 0 (i := ((i_3 : Int) - 1).toNat) rfl rfl rfl hl (by omega) rfl rfl rfl) ?_; refine TS.run 2 rfl ?_; refine TS.y rfl (Yv.am (i := i_3) rfl rfl rfl hl (List.length_map _) rfl (by omega)) ?_; refine TS.y rfl (Yv.aq 0 (i := i_3) rfl rfl rfl hl (by omega) rfl rfl rfl) ?_; refine TS.eff ?_; refine TSo.ar rfl (Wt.none rfl) rfl rfl (Ew.ag rfl rfl rfl (fun w hw => zdK _ w (hw.fr (i := 0) rfl) (nth l (((i_3 : Int) - 1).toNat)) (nth l i_3))) ?_; rintro _ _ ⟨rfl, rfl⟩; refine ⟨(fun w hw => hw.sub Sx), ?_⟩; refine TS.run 1 rfl ?_; refine TS.done ?_; refine K.seq ?_; refine T.cond rfl (fun h5 => ?_) (fun h5 => ?_)
        · have p5 := of_decide_eq_true h5; replace hk := zab hk h5; refine T.sr ?_; refine TL.run 1 rfl ?_; refine TL.ns (T.ret (K.ah (K.ab (K.ab (K.ah (K.ab ?_)))))); obtain rfl := Option.some.inj hk; exact K.ai rfl rfl (fun w' hw => ⟨rfl, hw.isBelow⟩)
        · have p5 := of_decide_eq_false h5; replace hk := zaa hk h5; refine T.skip (K.ac (K.seq (T.region ?_))); refine TL.run 1 rfl ?_; refine TL.y (Yv.ao rfl rfl rfl (by omega)) ?_; refine TL.run 1 rfl ?_; refine TL.nil ?_; rw [← hn2] at hk; exact K.next (i_3 + 1) hk (by omega) (.c (.c (.c .nil))) (List.Sublist.refl _)
      · have p4 := of_decide_eq_false h4; rw [zau (by omega), ← hkk2] at hk; (try dsimp only at hk); refine T.exit (K.aa (K.aa (K.ad ?_))); exact K.af () hk .nil (List.Sublist.refl _)
  · rintro _ hk; rw [← hk1] at hk; (try dsimp only at hk); refine T.sr ?_; refine TL.run 1 rfl ?_; refine TL.ns (T.ret ?_); obtain rfl := Option.some.inj hk; exact K.ai rfl rfl (fun w' hw => ⟨rfl, hw.isBelow⟩)
def zbG (r_ : GRules) : Option Bool :=
  zaK (fun (x_1 : Bool) =>
    some x_1)
  (fun k2 =>
    (bif decide ((r_.Pairs.length : Int) ≤ 4096) then
      (bif (zaG r_.Pairs) then
        (zaD r_.Pairs).bind fun r15 =>
        (bif r15 then
          (bif decide ((r_.Loads.length : Int) ≤ 1024) then
            (bif (zaF r_.Loads) then
              (zaC r_.Loads).bind fun r31 =>
              (bif r31 then
                (bif decide ((r_.Caps.length : Int) ≤ 1024) then
                  (bif (zaL r_.Caps) then
                    (zaJ r_.Caps).bind fun r47 =>
                    k2 r47
                    else
                    k2 false)
                  else
                  k2 false)
                else
                k2 false)
              else
              k2 false)
            else
            k2 false)
          else
          k2 false)
        else
        k2 false)
      else
      k2 false))
theorem zdZ (F0 : Frz) (w : World) (hF0 : F0.At w) (r_ : GRules) (vr__0 : Value) (hr__0 : SlC F0 vr__0 5 (r_.Pairs.map GPair.enc)) (vr__1 : Value) (hr__1 : SlC F0 vr__1 5 (r_.Loads.map GLoad.enc)) (vr__2 : Value) (hr__2 : SlC F0 vr__2 4 (r_.Caps.map GCap.enc)) (r : Bool) (hr : zbG r_ = some r) : Calls Try.prog 48 #[.agg [vr__0, vr__1, vr__2].toArray] w fun e w' => e = .returned (.bool r) ∧ Below w.heap.size w w' := by
  have hk := hr; unfold zbG at hk; haveI := hr__0.oneC; haveI := hr__1.oneC; haveI := hr__2.oneC; obtain ⟨S0, F1, rfl, hS0, hp0⟩ := zao hF0; refine zar Try.func48 rfl rfl rfl hp0 ?_; refine T.sr ?_; refine TL.e (Ew.az rfl rfl) ?_; rintro _ _ ⟨g1, rfl, rfl⟩; refine TL.run 1 rfl ?_; refine TL.ns (T.seq ?_); (try dsimp only at hk); have hq := zae hk; clear hk; obtain ⟨k2, hk2, hk⟩ := hq; (try dsimp only at hk); refine T.ae (ι := Bool) (fun z => [(2, .bool z)]) (fun z => [.fr F1]) (fun z => k2 z = some r) ?_ ?_
  · refine T.region ?_; refine TL.y (Yv.fieldAddr rfl rfl) ?_; refine TL.y (Yv.a 0 rfl rfl rfl rfl) ?_; refine TL.y (Yv.an rfl rfl hr__0 (List.length_map _)) ?_; have hm5 : r_.Pairs.length ≤ 9223372036854775807 := (List.length_map _) ▸ hr__0.max; refine TL.run 2 rfl ?_; refine TL.gs rfl rfl rfl (fun h3 => ?_) (fun h3 => ?_)
    · have p3 := of_decide_eq_true h3; replace hk := zab hk h3; refine TL.y (Yv.fieldAddr rfl rfl) ?_; refine TL.y (Yv.a 0 rfl rfl rfl rfl) ?_; refine TL.e (Ew.ag rfl rfl rfl (fun w hw => zca _ w (hw.fr (i := 1) rfl) r_.Pairs vr__0 hr__0)) ?_; rintro _ _ ⟨rfl, rfl⟩; refine TL.run 2 rfl ?_; refine TL.gs rfl rfl rfl (fun h4 => ?_) (fun h4 => ?_)
      · replace hk := zab hk h4; refine TL.y (Yv.fieldAddr rfl rfl) ?_; refine TL.y (Yv.a 0 rfl rfl rfl rfl) ?_; have hq := zak hk; clear hk; obtain ⟨r15, hr15, hk⟩ := hq; refine TL.e (Ew.ag rfl rfl rfl (fun w hw => zbI _ w (hw.fr (i := 1) rfl) r_.Pairs vr__0 hr__0 r15 hr15)) ?_; rintro _ _ ⟨rfl, rfl⟩; refine TL.run 2 rfl ?_; refine TL.gs rfl rfl rfl (fun h5 => ?_) (fun h5 => ?_)
        · replace hk := zab hk h5; refine TL.y (Yv.fieldAddr rfl rfl) ?_; refine TL.y (Yv.a 0 rfl rfl rfl rfl) ?_; refine TL.y (Yv.an rfl rfl hr__1 (List.length_map _)) ?_; have hm20 : r_.Loads.length ≤ 9223372036854775807 := (List.length_map _) ▸ hr__1.max; refine TL.run 3 rfl ?_; refine TL.gs rfl rfl rfl (fun h6 => ?_) (fun h6 => ?_)
          · have p6 := of_decide_eq_true h6; replace hk := zab hk h6; refine TL.y (Yv.fieldAddr rfl rfl) ?_; refine TL.y (Yv.a 0 rfl rfl rfl rfl) ?_; refine TL.e (Ew.ag rfl rfl rfl (fun w hw => zb9 _ w (hw.fr (i := 1) rfl) r_.Loads vr__1 hr__1)) ?_; rintro _ _ ⟨rfl, rfl⟩; refine TL.run 2 rfl ?_; refine TL.gs rfl rfl rfl (fun h7 => ?_) (fun h7 => ?_)
            · replace hk := zab hk h7; refine TL.y (Yv.fieldAddr rfl rfl) ?_; refine TL.y (Yv.a 0 rfl rfl rfl rfl) ?_; have hq := zak hk; clear hk; obtain ⟨r31, hr31, hk⟩ := hq; refine TL.e (Ew.ag rfl rfl rfl (fun w hw => zbJ _ w (hw.fr (i := 1) rfl) r_.Loads vr__1 hr__1 r31 hr31)) ?_; rintro _ _ ⟨rfl, rfl⟩; refine TL.run 2 rfl ?_; refine TL.gs rfl rfl rfl (fun h8 => ?_) (fun h8 => ?_)
              · replace hk := zab hk h8; refine TL.y (Yv.fieldAddr rfl rfl) ?_; refine TL.y (Yv.a 0 rfl rfl rfl rfl) ?_; refine TL.y (Yv.an rfl rfl hr__2 (List.length_map _)) ?_; have hm36 : r_.Caps.length ≤ 9223372036854775807 := (List.length_map _) ▸ hr__2.max; refine TL.run 3 rfl ?_; refine TL.gs rfl rfl rfl (fun h9 => ?_) (fun h9 => ?_)
                · have p9 := of_decide_eq_true h9; replace hk := zab hk h9; refine TL.y (Yv.fieldAddr rfl rfl) ?_; refine TL.y (Yv.a 0 rfl rfl rfl rfl) ?_; refine TL.e (Ew.ag rfl rfl rfl (fun w hw => zcf _ w (hw.fr (i := 1) rfl) r_.Caps vr__2 hr__2)) ?_; rintro _ _ ⟨rfl, rfl⟩; refine TL.run 2 rfl ?_; refine TL.gs rfl rfl rfl (fun h10 => ?_) (fun h10 => ?_)
                  · replace hk := zab hk h10; refine TL.y (Yv.fieldAddr rfl rfl) ?_; refine TL.y (Yv.a 0 rfl rfl rfl rfl) ?_; have hq := zak hk; clear hk; obtain ⟨r47, hr47, hk⟩ := hq; refine TL.e (Ew.ag rfl rfl rfl (fun w hw => zbQ _ w (hw.fr (i := 1) rfl) r_.Caps vr__2 hr__2 r47 hr47)) ?_; rintro _ _ ⟨rfl, rfl⟩; refine TL.run 2 rfl ?_; refine TL.nil ?_; refine K.pick [1] rfl (by decide) ?_; exact K.af r47 hk (.c .nil) (List.Sublist.refl _)
                  · replace hk := zaa hk h10; refine TL.run 5 rfl ?_; refine TL.nil ?_; refine K.pick [1] rfl (by decide) ?_; exact K.af false hk (.c .nil) (List.Sublist.refl _)
                · have p9 := of_decide_eq_false h9; replace hk := zaa hk h9; refine TL.run 10 rfl ?_; refine TL.nil ?_; refine K.pick [1] rfl (by decide) ?_; exact K.af false hk (.c .nil) (List.Sublist.refl _)
              · replace hk := zaa hk h8; refine TL.run 16 rfl ?_; refine TL.nil ?_; refine K.pick [1] rfl (by decide) ?_; exact K.af false hk (.c .nil) (List.Sublist.refl _)
            · replace hk := zaa hk h7; refine TL.run 21 rfl ?_; refine TL.nil ?_; refine K.pick [1] rfl (by decide) ?_; exact K.af false hk (.c .nil) (List.Sublist.refl _)
          · have p6 := of_decide_eq_false h6; replace hk := zaa hk h6; refine TL.run 26 rfl ?_; refine TL.nil ?_; refine K.pick [1] rfl (by decide) ?_; exact K.af false hk (.c .nil) (List.Sublist.refl _)
        · replace hk := zaa hk h5; refine TL.run 32 rfl ?_; refine TL.nil ?_; refine K.pick [1] rfl (by decide) ?_; exact K.af false hk (.c .nil) (List.Sublist.refl _)
      · replace hk := zaa hk h4; refine TL.run 37 rfl ?_; refine TL.nil ?_; refine K.pick [1] rfl (by decide) ?_; exact K.af false hk (.c .nil) (List.Sublist.refl _)
    · have p3 := of_decide_eq_false h3; replace hk := zaa hk h3; refine TL.run 42 rfl ?_; refine TL.nil ?_; refine K.pick [1] rfl (by decide) ?_; exact K.af false hk (.c .nil) (List.Sublist.refl _)
  · rintro x_1 hk; rw [← hk2] at hk; (try dsimp only at hk); refine T.ret ?_; obtain rfl := Option.some.inj hk; exact K.ai rfl rfl (fun w' hw => ⟨rfl, hw.isBelow⟩)
def zb6 (a : GDomain) (b : GDomain) : Int :=
  (zac a.Station b.Station)
theorem zer (F0 : Frz) (w : World) (hF0 : F0.At w) (a : GDomain) (va_1 : Value) (ha_1 : SlC F0 va_1 1 (a.Channels.map eI)) (b : GDomain) (vb_1 : Value) (hb_1 : SlC F0 vb_1 1 (b.Channels.map eI)) : Calls Try.prog 49 #[.agg [.int .i64 a.Station, va_1].toArray, .agg [.int .i64 b.Station, vb_1].toArray] w fun e w' => e = .returned (.int .i64 (zb6 a b)) ∧ Below w.heap.size w w' := by
  obtain ⟨r, hk⟩ : ∃ r, zb6 a b = r := ⟨_, rfl⟩; rw [hk]; unfold zb6 at hk; haveI := ha_1.oneC; haveI := hb_1.oneC; obtain ⟨S0, F1, rfl, hS0, hp0⟩ := zao hF0; refine zar Try.func49 rfl rfl rfl hp0 ?_; refine T.sr ?_; refine TL.e (Ew.az rfl rfl) ?_; rintro _ _ ⟨g2, rfl, rfl⟩; refine TL.e (Ew.az rfl rfl) ?_; rintro _ _ ⟨g3, rfl, rfl⟩; refine TL.run 1 rfl ?_; refine TL.nx ?_; refine TL.y (Yv.fieldAddr rfl rfl) ?_; refine TL.y (Yv.a 1 rfl rfl rfl rfl) ?_; refine TL.y (Yv.fieldAddr rfl rfl) ?_; refine TL.y (Yv.a 0 rfl rfl rfl rfl) ?_; refine TL.e (Ew.ag rfl rfl rfl (fun w hw => zaA _ w (hw.fr (i := 2) rfl) a.Station b.Station)) ?_; rintro _ _ ⟨rfl, rfl⟩; refine TL.run 1 rfl ?_; refine TL.ns (T.ret ?_); subst hk; exact K.ai rfl rfl (fun w' hw => ⟨rfl, hw.isBelow⟩)
def zb3 (p : GProblem) : Option GSet :=
  grd (room p.Domains.length 8) <|
  zaK (fun (l_1 : List Int) =>
    (zcQ l_1).bind fun r28 =>
    some r28.1)
  (fun k2 =>
    zaj (fun (i_5 : Nat) (next4 : List Int → Option GSet) (l_3 : List Int) =>
      grd (0 ≤ (i_5 : Int) ∧ (i_5 : Int) < (l_3.length : Int)) <|
      next4 (l_3.set i_5 ((nth p.Domains i_5).Station)))
    (fun (l_3 : List Int) =>
      k2 l_3) (p.Domains.length - 0) 0 (List.replicate p.Domains.length 0))
theorem zex (F0 : Frz) (w : World) (hF0 : F0.At w) (p : GProblem) (vp_0 : Value) (cp_0 : List (List Value)) (hp_0 : SlD GDomain.rep F0 vp_0 2 cp_0 p.Domains) (vp_1 : Value) (hp_1 : SlC F0 vp_1 5 (p.Rules.Pairs.map GPair.enc)) (vp_2 : Value) (hp_2 : SlC F0 vp_2 5 (p.Rules.Loads.map GLoad.enc)) (vp_3 : Value) (hp_3 : SlC F0 vp_3 4 (p.Rules.Caps.map GCap.enc)) (r : GSet) (hr : zb3 p = some r) : Calls Try.prog 52 #[.agg [vp_0, vp_1, vp_2, vp_3].toArray] w fun e w' => e = .returned (.agg (r.words.1.map U).toArray) ∧ Below w.heap.size w w' := by
  have hk := hr; unfold zb3 at hk; haveI := hp_0.1.oneC; haveI := hp_1.oneC; haveI := hp_2.oneC; haveI := hp_3.oneC; obtain ⟨S0, F1, rfl, hS0, hp0⟩ := zao hF0; refine zar Try.func52 rfl rfl rfl hp0 ?_; refine T.sr ?_; refine TL.e (Ew.az rfl rfl) ?_; rintro _ _ ⟨g1, rfl, rfl⟩; refine TL.e (Ew.aP (l := ((Vec.fill 8 (0#64)).1.map U)) rfl (by kernel_rfl)) ?_; rintro _ _ ⟨g2, rfl, rfl⟩; refine TL.ns (T.seq ?_); have hq : (room p.Domains.length 8) ∧ _ := zap hk; clear hk; obtain ⟨g11, hk⟩ := hq; (try dsimp only at hk); refine T.region ?_; refine TL.y (Yv.fieldAddr rfl rfl) ?_; refine TL.y (Yv.a 1 rfl rfl rfl rfl) ?_; refine TL.y (Yv.an rfl rfl hp_0.1 hp_0.2.1) ?_; have hm10 : p.Domains.length ≤ 9223372036854775807 := hp_0.2.1 ▸ hp_0.1.max; refine TL.e (Ew.br (n' := p.Domains.length) (enc := eI) (u := 0) rfl rfl rfl rfl g11 (by decide) (by decide) (fun _ => rfl) rfl) ?_; rintro v11 _ ⟨hv11, rfl⟩; refine TL.aC 0 rfl ?_; intro iv11 hmv11; refine TL.run 1 rfl ?_; refine TL.ns (T.seq (T.sr ?_)); refine TL.y (Yv.fieldAddr rfl rfl) ?_; refine TL.y (Yv.a 2 rfl rfl rfl rfl) ?_; refine TL.y (Yv.an rfl rfl hp_0.1 hp_0.2.1) ?_; refine TL.run 1 rfl ?_; refine TL.ns ?_; have hq := zae hk; clear hk; obtain ⟨k2, hk2, hk⟩ := hq; (try dsimp only at hk); refine T.ae (ι := List Int) (fun z => [(2, .pointer (some ⟨g2, 0, none⟩)), (3, v11)]) (fun z => [.sl v11 3 1 z.length (z.flatMap eI), .row g2 108 ((Vec.fill 8 (0#64)).1.map U), .fr F1]) (fun z => k2 z = some r) ?_ ?_
  · have hq := zal hk; clear hk; obtain ⟨f4, kk4, hf4, hkk4, hk⟩ := hq; refine T.block ?_; refine T.pick [0, 1, 3] rfl (by decide) ?_; refine T.loop (ι := Nat × List Int) (fun z => [(2, .pointer (some ⟨g2, 0, none⟩)), (3, v11), (13, vp_0), (14, .int .i64 (p.Domains.length : Int)), (15, .int .i64 (z.1 : Int))]) (fun z => [.sl v11 3 1 z.2.length (z.2.flatMap eI), .row g2 108 ((Vec.fill 8 (0#64)).1.map U), .fr F1]) (fun z => zaj f4 kk4 (p.Domains.length - z.1) z.1 z.2 = some r) (fun z => p.Domains.length - z.1) (0, (List.replicate p.Domains.length 0)) ?_ ?_ ?_ ?_
    · exact hk
    · exact (.c (.c (.c (.c (.c .nil)))))
    · exact List.Sublist.refl _
    · rintro ⟨i_5, l_3⟩ hk; (try dsimp only at *); refine T.sr ?_; refine TL.run 1 rfl ?_; refine TL.ns (T.seq ?_); refine T.cond rfl (fun h6 => ?_) (fun h6 => ?_)
      · have p6 := of_decide_eq_true h6; rw [zat (by omega)] at hk; generalize hn4 : zaj f4 kk4 (p.Domains.length - (i_5 + 1)) (i_5 + 1) = next4 at hk; rw [← hf4] at hk; (try dsimp only at hk); refine T.skip (K.seq (T.seq (T.block (T.sr ?_)))); refine TL.run 1 rfl ?_; refine TL.y (Yv.am (i := i_5) rfl rfl rfl hp_0.1 hp_0.2.1 rfl (by omega)) ?_; refine TL.y (Yv.aD 2 (i := i_5) (j := 0) rfl rfl rfl hp_0.1 hp_0.2.1 (by omega) rfl (GDomain.form (hp_0.2.2 i_5 (by omega))) rfl) ?_; have hd19_1 := (GDomain.c1 (hp_0.2.2 i_5 (by omega))).2; haveI := hd19_1.oneC; refine TL.e (Ew.alloc rfl) ?_; rintro _ _ ⟨g5, rfl, rfl⟩; refine TL.run 1 rfl ?_; refine TL.e0 (Ew.al 0 rfl rfl rfl rfl rfl rfl) ?_; rintro _ _ ⟨rfl, rfl⟩; refine TL.ns ?_; have hq : (0 ≤ (i_5 : Int) ∧ (i_5 : Int) < (l_3.length : Int)) ∧ _ := zap hk; clear hk; obtain ⟨g24, hk⟩ := hq; (try dsimp only at hk); refine T.region ?_; refine TL.run 2 rfl ?_; refine TL.y (Yv.fieldAddr rfl rfl) ?_; refine TL.y (Yv.a 0 rfl rfl rfl rfl) ?_; refine TL.y (Yv.aQ 1 (i := i_5) rfl rfl rfl rfl rfl (by omega)) ?_; refine TL.e0 (Ew.aO 1 (k' := (l_3.set i_5 ((nth p.Domains i_5).Station)).length) (l' := (l_3.set i_5 ((nth p.Domains i_5).Station)).flatMap eI) rfl rfl rfl rfl (by omega) (zdf (enc := eI) (xs := l_3) (i := i_5) (j := 0) (size := 1) (fun _ => rfl) (by omega) (by decide) (by omega)) (zdH (enc := eI) (xs := l_3) (i := i_5) (j := 0) (size := 1) (x := ((nth p.Domains i_5).Station)) (fun _ => rfl) (by omega) (by decide) (by omega) rfl) (List.length_set ..)) ?_; rintro _ _ ⟨rfl, rfl⟩; refine TL.nil (K.ac (K.seq (T.region ?_))); refine TL.y (Yv.ao rfl rfl rfl (by omega)) ?_; refine TL.run 1 rfl ?_; refine TL.nil ?_; rw [← hn4] at hk; refine K.pick [1, 2, 3] rfl (by decide) ?_; exact K.next ((i_5 + 1), (l_3.set i_5 ((nth p.Domains i_5).Station))) hk (by dsimp only; omega) (.c (.c (.c (.c (.c .nil))))) (List.Sublist.refl _)
      · have p6 := of_decide_eq_false h6; rw [zau (by omega), ← hkk4] at hk; (try dsimp only at hk); refine T.exit (K.aa (K.aa (K.ad ?_))); exact K.af l_3 hk (.c (.c .nil)) (List.Sublist.refl _)
  · rintro l_1 hk; rw [← hk2] at hk; (try dsimp only at hk); refine T.seq ?_; have hq := zak hk; clear hk; obtain ⟨r28, hr28, hk⟩ := hq; (try dsimp only at hk); refine T.region ?_; refine TL.run 1 rfl ?_; refine TL.e (Ew.ag rfl rfl rfl (fun w hw => (hw.bor (i := 2) (j := 0) rfl rfl).elim fun F9 b => have le1_2 := b.1.le; zgo F9 w b.1.at_ l_1 v11 (b.2.toF rfl (fun _ => rfl)) r28 hr28)) ?_; rintro _ _ ⟨rfl, rfl⟩; refine TL.run 3 rfl ?_; refine TL.e (Ew.aP (l := ((Vec.fill 8 (0#64)).1.map U)) rfl (by kernel_rfl)) ?_; rintro _ _ ⟨g6, rfl, rfl⟩; refine TL.e0 (Ew.al 0 rfl rfl rfl rfl Vec.len (Vec.len.trans Vec.len.symm)) ?_; rintro _ _ ⟨rfl, rfl⟩; refine TL.run 1 rfl ?_; refine TL.nx ?_; refine TL.y (Yv.ak 0 rfl rfl rfl Vec.len) ?_; refine TL.e0 (Ew.al 2 rfl rfl rfl rfl Vec.len (Vec.len.trans Vec.len.symm)) ?_; rintro _ _ ⟨rfl, rfl⟩; refine TL.ns (T.ret ?_); obtain rfl := Option.some.inj hk; exact K.bF 2 rfl rfl rfl Vec.len (fun w' hw => ⟨rfl, hw.isBelow⟩)
def zaO (l : List GDomain) : Option Bool :=
  zaK (fun (_ : Unit) =>
    some true)
  (fun k1 =>
    zaj (fun (i_3 : Nat) (next2 : Unit → Option Bool) (_ : Unit) =>
      (zbF (nth l i_3)).bind fun r15 =>
      (bif !r15 then
        some false
        else
        next2 ()))
    (fun (_ : Unit) =>
      k1 ()) (l.length - 0) 0 ())
theorem zbU (F0 : Frz) (w : World) (hF0 : F0.At w) (l : List GDomain) (vl : Value) (cl : List (List Value)) (hl : SlD GDomain.rep F0 vl 2 cl l) (r : Bool) (hr : zaO l = some r) : Calls Try.prog 46 #[vl, .func (.func 47) #[] #[]] w fun e w' => e = .returned (.bool r) ∧ Below w.heap.size w w' := by
  have hk := hr; unfold zaO at hk; haveI := hl.1.oneC; obtain ⟨S0, F1, rfl, hS0, hp0⟩ := zao hF0; refine zar Try.func46 rfl rfl rfl hp0 ?_; refine T.sr ?_; refine TL.run 1 rfl ?_; refine TL.ns (T.seq (T.sr ?_)); refine TL.run 1 rfl ?_; refine TL.y (Yv.an rfl rfl hl.1 hl.2.1) ?_; have hm8 : l.length ≤ 9223372036854775807 := hl.2.1 ▸ hl.1.max; refine TL.run 1 rfl ?_; refine TL.ns ?_; have hq := zae hk; clear hk; obtain ⟨k1, hk1, hk⟩ := hq; (try dsimp only at hk); refine T.ae (ι := Unit) (fun z => []) (fun z => [.fr F1]) (fun z => k1 () = some r) ?_ ?_
  · have hq := zal hk; clear hk; obtain ⟨f2, kk2, hf2, hkk2, hk⟩ := hq; refine T.block ?_; refine T.loop (ι := Nat) (fun z => [(1, .func (.func 47) #[] #[]), (7, vl), (8, .int .i64 (l.length : Int)), (9, .int .i64 (z : Int))]) (fun z => [.fr F1]) (fun z => zaj f2 kk2 (l.length - z) z () = some r) (fun z => l.length - z) 0 ?_ ?_ ?_ ?_
    · exact hk
    · exact (.c (.c (.c (.c .nil))))
    · exact List.Sublist.refl _
    · rintro i_3 hk; refine T.sr ?_; refine TL.run 1 rfl ?_; refine TL.ns (T.seq ?_); refine T.cond rfl (fun h4 => ?_) (fun h4 => ?_)
      · have p4 := of_decide_eq_true h4; rw [zat (by omega)] at hk; generalize hn2 : zaj f2 kk2 (l.length - (i_3 + 1)) (i_3 + 1) = next2 at hk; rw [← hf2] at hk; (try dsimp only at hk); refine T.skip (K.seq (T.seq (T.block (T.sr ?_)))); refine TL.y (Yv.am (i := i_3) rfl rfl rfl hl.1 hl.2.1 rfl (by omega)) ?_; refine TL.y (Yv.aD 0 (i := i_3) (j := 0) rfl rfl rfl hl.1 hl.2.1 (by omega) rfl (GDomain.form (hl.2.2 i_3 (by omega))) rfl) ?_; have hd12_1 := (GDomain.c1 (hl.2.2 i_3 (by omega))).2; haveI := hd12_1.oneC; refine TL.e (Ew.alloc rfl) ?_; rintro _ _ ⟨g6, rfl, rfl⟩; refine TL.e0 (Ew.al 0 rfl rfl rfl rfl rfl rfl) ?_; rintro _ _ ⟨rfl, rfl⟩; refine TL.ns (T.seq ?_); have hq := zak hk; clear hk; obtain ⟨r15, hr15, hk⟩ := hq; (try dsimp only at hk); refine T.region ?_; refine TL.run 1 rfl ?_; refine TL.y (Yv.ak 0 rfl rfl rfl rfl) ?_; refine TL.e (Ew.ag rfl rfl rfl (fun w hw => zdY _ w (hw.fr (i := 1) rfl) (nth l i_3) (nth (nth cl i_3) 1) hd12_1 r15 hr15)) ?_; rintro _ _ ⟨rfl, rfl⟩; refine TL.run 1 rfl ?_; refine TL.ns ?_; refine T.cond rfl (fun h5 => ?_) (fun h5 => ?_)
        · replace hk := zab hk h5; refine T.sr ?_; refine TL.run 1 rfl ?_; refine TL.ns (T.ret (K.ah (K.ab (K.ab (K.ah (K.ab ?_)))))); obtain rfl := Option.some.inj hk; exact K.ai rfl rfl (fun w' hw => ⟨rfl, hw.isBelow⟩)
        · replace hk := zaa hk h5; refine T.skip (K.ac (K.seq (T.region ?_))); refine TL.y (Yv.ao rfl rfl rfl (by omega)) ?_; refine TL.run 1 rfl ?_; refine TL.nil ?_; rw [← hn2] at hk; refine K.pick [1] rfl (by decide) ?_; exact K.next (i_3 + 1) hk (by omega) (.c (.c (.c (.c .nil)))) (List.Sublist.refl _)
      · have p4 := of_decide_eq_false h4; rw [zau (by omega), ← hkk2] at hk; (try dsimp only at hk); refine T.exit (K.aa (K.aa (K.ad ?_))); exact K.af () hk .nil (List.Sublist.refl _)
  · rintro _ hk; rw [← hk1] at hk; (try dsimp only at hk); refine T.sr ?_; refine TL.run 1 rfl ?_; refine TL.ns (T.ret ?_); obtain rfl := Option.some.inj hk; exact K.ai rfl rfl (fun w' hw => ⟨rfl, hw.isBelow⟩)
def zaT (l : List GDomain) : Option Bool :=
  zaK (fun (_ : Unit) =>
    some true)
  (fun k1 =>
    zaj (fun (i_3 : Nat) (next2 : Unit → Option Bool) (_ : Unit) =>
      grd (0 ≤ ((i_3 : Int) - 1) ∧ ((i_3 : Int) - 1) < (l.length : Int)) <|
      (bif decide (0 ≤ (zb6 (nth l (((i_3 : Int) - 1).toNat)) (nth l i_3))) then
        some false
        else
        next2 ()))
    (fun (_ : Unit) =>
      k1 ()) (l.length - 1) 1 ())
theorem zb8 (F0 : Frz) (w : World) (hF0 : F0.At w) (l : List GDomain) (vl : Value) (cl : List (List Value)) (hl : SlD GDomain.rep F0 vl 2 cl l) (r : Bool) (hr : zaT l = some r) : Calls Try.prog 51 #[vl, .func (.func 49) #[] #[]] w fun e w' => e = .returned (.bool r) ∧ Below w.heap.size w w' := by
  have hk := hr; unfold zaT at hk; haveI := hl.1.oneC; obtain ⟨S0, F1, rfl, hS0, hp0⟩ := zao hF0; refine zar Try.func51 rfl rfl rfl hp0 ?_; refine T.sr ?_; refine TL.run 1 rfl ?_; refine TL.ns (T.seq (T.sr ?_)); refine TL.run 1 rfl ?_; refine TL.ns ?_; have hq := zae hk; clear hk; obtain ⟨k1, hk1, hk⟩ := hq; (try dsimp only at hk); refine T.ae (ι := Unit) (fun z => []) (fun z => [.fr F1]) (fun z => k1 () = some r) ?_ ?_
  · have hq := zal hk; clear hk; obtain ⟨f2, kk2, hf2, hkk2, hk⟩ := hq; refine T.block ?_; refine T.loop (ι := Nat) (fun z => [(0, vl), (1, .func (.func 49) #[] #[]), (5, .int .i64 (z : Int))]) (fun z => [.fr F1]) (fun z => zaj f2 kk2 (l.length - z) z () = some r) (fun z => l.length - z) 1 ?_ ?_ ?_ ?_
    · exact hk
    · exact (.c (.c (.c .nil)))
    · exact List.Sublist.refl _
    · rintro i_3 hk; refine T.seq (T.sr ?_); refine TL.run 2 rfl ?_; refine TL.y (Yv.an rfl rfl hl.1 hl.2.1) ?_; have hm8 : l.length ≤ 9223372036854775807 := hl.2.1 ▸ hl.1.max; refine TL.run 1 rfl ?_; refine TL.ns ?_; refine T.cond rfl (fun h4 => ?_) (fun h4 => ?_)
      · have p4 := of_decide_eq_true h4; rw [zat (by omega)] at hk; generalize hn2 : zaj f2 kk2 (l.length - (i_3 + 1)) (i_3 + 1) = next2 at hk; rw [← hf2] at hk; (try dsimp only at hk); refine T.skip (K.seq (T.seq (T.block (T.seq ?_)))); have hq : (0 ≤ ((i_3 : Int) - 1) ∧ ((i_3 : Int) - 1) < (l.length : Int)) ∧ _ := zap hk; clear hk; obtain ⟨g16, hk⟩ := hq; (try dsimp only at hk); refine T.ax (.still 0 (.still 1 (.still 2 (.still 3 (.still 4 (.still 5 (.still 6 (.still 7 (.still 8 (.still 9 (.eff 10 (.still 11 .done)))))))))))) _ (by kernel_rfl) (List.Sublist.refl _) ?_; refine TS.run 3 rfl ?_; refine TS.y rfl (Yv.aL rfl rfl rfl (by omega)) ?_; refine TS.y rfl (Yv.am (i := ((i_3 : Int) - 1).toNat) rfl rfl rfl hl.1 hl.2.1 (by omega) (by omega)) ?_; refine TS.y rfl (Yv.aD 0 (i := ((i_3 : Int) - 1).toNat) (j := 0) rfl rfl rfl hl.1 hl.2.1 (by omega) rfl (GDomain.form (hl.2.2 (((i_3 : Int) - 1).toNat) (by omega))) rfl) ?_; have hd17_1 := (GDomain.c1 (hl.2.2 (((i_3 : Int) - 1).toNat) (by omega))).2; haveI := hd17_1.oneC; refine TS.run 2 rfl ?_; refine TS.y rfl (Yv.am (i := i_3) rfl rfl rfl hl.1 hl.2.1 rfl (by omega)) ?_; refine TS.y rfl (Yv.aD 0 (i := i_3) (j := 0) rfl rfl rfl hl.1 hl.2.1 (by omega) rfl (GDomain.form (hl.2.2 i_3 (by omega))) rfl) ?_; have hd21_1 := (GDomain.c1 (hl.2.2 i_3 (by omega))).2; haveI := hd21_1.oneC; refine TS.eff ?_; refine TSo.ar rfl (Wt.none rfl) rfl rfl (Ew.ag rfl rfl rfl (fun w hw => zer _ w (hw.fr (i := 0) rfl) (nth l (((i_3 : Int) - 1).toNat)) (nth (nth cl (((i_3 : Int) - 1).toNat)) 1) hd17_1 (nth l i_3) (nth (nth cl i_3) 1) hd21_1)) ?_; rintro _ _ ⟨rfl, rfl⟩; refine ⟨(fun w hw => hw.sub Sx), ?_⟩; refine TS.run 1 rfl ?_; refine TS.done ?_; refine K.seq ?_; refine T.cond rfl (fun h5 => ?_) (fun h5 => ?_)
        · have p5 := of_decide_eq_true h5; replace hk := zab hk h5; refine T.sr ?_; refine TL.run 1 rfl ?_; refine TL.ns (T.ret (K.ah (K.ab (K.ab (K.ah (K.ab ?_)))))); obtain rfl := Option.some.inj hk; exact K.ai rfl rfl (fun w' hw => ⟨rfl, hw.isBelow⟩)
        · have p5 := of_decide_eq_false h5; replace hk := zaa hk h5; refine T.skip (K.ac (K.seq (T.region ?_))); refine TL.run 1 rfl ?_; refine TL.y (Yv.ao rfl rfl rfl (by omega)) ?_; refine TL.run 1 rfl ?_; refine TL.nil ?_; rw [← hn2] at hk; exact K.next (i_3 + 1) hk (by omega) (.c (.c (.c .nil))) (List.Sublist.refl _)
      · have p4 := of_decide_eq_false h4; rw [zau (by omega), ← hkk2] at hk; (try dsimp only at hk); refine T.exit (K.aa (K.aa (K.ad ?_))); exact K.af () hk .nil (List.Sublist.refl _)
  · rintro _ hk; rw [← hk1] at hk; (try dsimp only at hk); refine T.sr ?_; refine TL.run 1 rfl ?_; refine TL.ns (T.ret ?_); obtain rfl := Option.some.inj hk; exact K.ai rfl rfl (fun w' hw => ⟨rfl, hw.isBelow⟩)
def zbZ (c : GPair) (xf0_ : GSet) : Option Bool :=
  (zaI xf0_ c.A).bind fun r7 =>
  zaK (fun (x_1 : Bool) =>
    some x_1)
  (fun k2 =>
    (bif r7 then
      (zaI xf0_ c.B).bind fun r12 =>
      k2 r12
      else
      k2 false))
theorem zet (F0 : Frz) (w : World) (hF0 : F0.At w) (c : GPair) (xf0_ : GSet) (gf0_ : Nat) (hO : Hp w (fps [.row gf0_ 108 (xf0_.words.1.map U)]) [.row gf0_ 108 (xf0_.words.1.map U)] w) (hA : ∀ g, fps [.row gf0_ 108 (xf0_.words.1.map U)] g → ¬ F0.S g) (r : Bool) (hr : zbZ c xf0_ = some r) : Calls Try.prog 54 #[.agg [.int .i64 c.A, .int .i64 c.B, .int .i64 c.Offset, .int .i64 c.Low, .int .i64 c.High].toArray, .pointer (some ⟨gf0_, 0, none⟩)] w fun e w' => ∃ (y : Unit), (True) ∧ e = .returned (.bool r) ∧ FxM F0 w (fps [.row gf0_ 108 (xf0_.words.1.map U)]) F0 [.row gf0_ 108 (xf0_.words.1.map U)] w' := by
  have hk := hr; unfold zbZ at hk; obtain ⟨S0, F1, rfl, hS0, hp0⟩ := zbj hF0 hO hA; refine zar (hs := [.row gf0_ 108 (xf0_.words.1.map U), .fr F1]) Try.func54 rfl rfl rfl hp0 ?_; refine T.sr ?_; refine TL.e (Ew.az rfl rfl) ?_; rintro _ _ ⟨g2, rfl, rfl⟩; refine TL.run 1 rfl ?_; refine TL.ns (T.seq ?_); have hq := zak hk; clear hk; obtain ⟨r7, hr7, hk⟩ := hq; (try dsimp only at hk); have hq := zae hk; clear hk; obtain ⟨k2, hk2, hk⟩ := hq; (try dsimp only at hk); refine T.ae (ι := Bool) (fun z => [(3, .bool z)]) (fun z => [.row gf0_ 108 (xf0_.words.1.map U), .fr F1]) (fun z => k2 z = some r) ?_ ?_
  · refine T.region ?_; refine TL.y (Yv.ak 1 rfl rfl rfl Vec.len) ?_; refine TL.y (Yv.fieldAddr rfl rfl) ?_; refine TL.y (Yv.a 0 rfl rfl rfl rfl) ?_; refine TL.e (Ew.ag rfl rfl rfl (fun w hw => zbc _ w (hw.fr (i := 2) rfl) xf0_ c.A r7 hr7)) ?_; rintro _ _ ⟨rfl, rfl⟩; refine TL.run 1 rfl ?_; refine TL.gs rfl rfl rfl (fun h3 => ?_) (fun h3 => ?_)
    · replace hk := zab hk h3; refine TL.y (Yv.ak 1 rfl rfl rfl Vec.len) ?_; refine TL.y (Yv.fieldAddr rfl rfl) ?_; refine TL.y (Yv.a 0 rfl rfl rfl rfl) ?_; have hq := zak hk; clear hk; obtain ⟨r12, hr12, hk⟩ := hq; refine TL.e (Ew.ag rfl rfl rfl (fun w hw => zbc _ w (hw.fr (i := 2) rfl) xf0_ c.B r12 hr12)) ?_; rintro _ _ ⟨rfl, rfl⟩; refine TL.run 2 rfl ?_; refine TL.nil ?_; refine K.pick [1, 2] rfl (by decide) ?_; exact K.af r12 hk (.c .nil) (List.Sublist.refl _)
    · replace hk := zaa hk h3; refine TL.run 6 rfl ?_; refine TL.nil ?_; refine K.pick [1, 2] rfl (by decide) ?_; exact K.af false hk (.c .nil) (List.Sublist.refl _)
  · rintro x_1 hk; rw [← hk2] at hk; (try dsimp only at hk); refine T.ret ?_; obtain rfl := Option.some.inj hk; exact K.ai rfl rfl (fun w' hw => ⟨⟨⟩, trivial, rfl, FxM.of (hw.pick (idx := [0, 1]) rfl (by decide)) hS0 (Frz.Le.refl _)⟩)
def za3 (l : List GPair) (x1c0_ : GSet) : Option Bool :=
  zaK (fun (_ : Unit) =>
    some true)
  (fun k1 =>
    zaj (fun (i_3 : Nat) (next2 : Unit → Option Bool) (_ : Unit) =>
      (zbZ (nth l i_3) x1c0_).bind fun r15 =>
      (bif !r15 then
        some false
        else
        next2 ()))
    (fun (_ : Unit) =>
      k1 ()) (l.length - 0) 0 ())
theorem zcr (F0 : Frz) (w : World) (hF0 : F0.At w) (l : List GPair) (vl : Value) (hl : SlC F0 vl 5 (l.map GPair.enc)) (x1c0_ : GSet) (g1c0_ : Nat) (hO : Hp w (fps [.row g1c0_ 108 (x1c0_.words.1.map U)]) [.row g1c0_ 108 (x1c0_.words.1.map U)] w) (hA : ∀ g, fps [.row g1c0_ 108 (x1c0_.words.1.map U)] g → ¬ F0.S g) (r : Bool) (hr : za3 l x1c0_ = some r) : Calls Try.prog 53 #[vl, .func (.func 54) #[] #[.pointer (some ⟨g1c0_, 0, none⟩)]] w fun e w' => ∃ (y : Unit), (True) ∧ e = .returned (.bool r) ∧ FxM F0 w (fps [.row g1c0_ 108 (x1c0_.words.1.map U)]) F0 [.row g1c0_ 108 (x1c0_.words.1.map U)] w' := by
  have hk := hr; unfold za3 at hk; haveI := hl.oneC; obtain ⟨S0, F1, rfl, hS0, hp0⟩ := zbj hF0 hO hA; refine zar (hs := [.row g1c0_ 108 (x1c0_.words.1.map U), .fr F1]) Try.func53 rfl rfl rfl hp0 ?_; refine T.sr ?_; refine TL.run 1 rfl ?_; refine TL.ns (T.seq (T.sr ?_)); refine TL.run 1 rfl ?_; refine TL.y (Yv.an rfl rfl hl (List.length_map _)) ?_; have hm8 : l.length ≤ 9223372036854775807 := (List.length_map _) ▸ hl.max; refine TL.run 1 rfl ?_; refine TL.ns ?_; have hq := zae hk; clear hk; obtain ⟨k1, hk1, hk⟩ := hq; (try dsimp only at hk); refine T.ae (ι := Unit) (fun z => []) (fun z => [.row g1c0_ 108 (x1c0_.words.1.map U), .fr F1]) (fun z => k1 () = some r) ?_ ?_
  · have hq := zal hk; clear hk; obtain ⟨f2, kk2, hf2, hkk2, hk⟩ := hq; refine T.block ?_; refine T.loop (ι := Nat) (fun z => [(1, .func (.func 54) #[] #[.pointer (some ⟨g1c0_, 0, none⟩)]), (7, vl), (8, .int .i64 (l.length : Int)), (9, .int .i64 (z : Int))]) (fun z => [.row g1c0_ 108 (x1c0_.words.1.map U), .fr F1]) (fun z => zaj f2 kk2 (l.length - z) z () = some r) (fun z => l.length - z) 0 ?_ ?_ ?_ ?_
    · exact hk
    · exact (.c (.c (.c (.c .nil))))
    · exact List.Sublist.refl _
    · rintro i_3 hk; refine T.sr ?_; refine TL.run 1 rfl ?_; refine TL.ns (T.seq ?_); refine T.cond rfl (fun h4 => ?_) (fun h4 => ?_)
      · have p4 := of_decide_eq_true h4; rw [zat (by omega)] at hk; generalize hn2 : zaj f2 kk2 (l.length - (i_3 + 1)) (i_3 + 1) = next2 at hk; rw [← hf2] at hk; (try dsimp only at hk); refine T.skip (K.seq (T.seq (T.block (T.sr ?_)))); refine TL.y (Yv.am (i := i_3) rfl rfl rfl hl (List.length_map _) rfl (by omega)) ?_; refine TL.y (Yv.aq 1 (i := i_3) rfl rfl rfl hl (by omega) rfl rfl rfl) ?_; refine TL.e (Ew.alloc rfl) ?_; rintro _ _ ⟨g6, rfl, rfl⟩; refine TL.e0 (Ew.al 0 rfl rfl rfl rfl rfl rfl) ?_; rintro _ _ ⟨rfl, rfl⟩; refine TL.ns (T.seq ?_); have hq := zak hk; clear hk; obtain ⟨r15, hr15, hk⟩ := hq; (try dsimp only at hk); refine T.region ?_; refine TL.run 1 rfl ?_; refine TL.y (Yv.ak 0 rfl rfl rfl rfl) ?_; refine TL.e (Ew.as [1, 2, 0] [.row g1c0_ 108 (x1c0_.words.1.map U)] [.row g6 50 [.int .i64 ((nth l i_3).A), .int .i64 ((nth l i_3).B), .int .i64 ((nth l i_3).Offset), .int .i64 ((nth l i_3).Low), .int .i64 ((nth l i_3).High)]] rfl rfl rfl rfl (by decide) (fun w hw hw2 hF => zet _ w hF (nth l i_3) x1c0_ g1c0_ hw2.takes.1 hw2.takes.2 r15 hr15)) ?_; rintro _ _ ⟨⟨⟩, -, rfl, rfl⟩; dsimp only [List.cons_append, List.nil_append]; refine TL.run 1 rfl ?_; refine TL.ns ?_; refine T.cond rfl (fun h5 => ?_) (fun h5 => ?_)
        · replace hk := zab hk h5; refine T.sr ?_; refine TL.run 1 rfl ?_; refine TL.ns (T.ret (K.ah (K.ab (K.ab (K.ah (K.ab ?_)))))); obtain rfl := Option.some.inj hk; exact K.ai rfl rfl (fun w' hw => ⟨⟨⟩, trivial, rfl, FxM.of (hw.pick (idx := [0, 1]) rfl (by decide)) hS0 (Frz.Le.refl _)⟩)
        · replace hk := zaa hk h5; refine T.skip (K.ac (K.seq (T.region ?_))); refine TL.y (Yv.ao rfl rfl rfl (by omega)) ?_; refine TL.run 1 rfl ?_; refine TL.nil ?_; rw [← hn2] at hk; refine K.pick [0, 1] rfl (by decide) ?_; exact K.next (i_3 + 1) hk (by omega) (.c (.c (.c (.c .nil)))) (List.Sublist.refl _)
      · have p4 := of_decide_eq_false h4; rw [zau (by omega), ← hkk2] at hk; (try dsimp only at hk); refine T.exit (K.aa (K.aa (K.ad ?_))); exact K.af () hk .nil (List.Sublist.refl _)
  · rintro _ hk; rw [← hk1] at hk; (try dsimp only at hk); refine T.sr ?_; refine TL.run 1 rfl ?_; refine TL.ns (T.ret ?_); obtain rfl := Option.some.inj hk; exact K.ai rfl rfl (fun w' hw => ⟨⟨⟩, trivial, rfl, FxM.of (hw.pick (idx := [0, 1]) rfl (by decide)) hS0 (Frz.Le.refl _)⟩)
def zb4 (c : GLoad) (xf0_ : GSet) : Option Bool :=
  (zaI xf0_ c.To).bind fun r7 =>
  zaK (fun (x_1 : Bool) =>
    some x_1)
  (fun k2 =>
    (bif r7 then
      (zaI xf0_ c.From).bind fun r12 =>
      k2 r12
      else
      k2 false))
theorem zeA (F0 : Frz) (w : World) (hF0 : F0.At w) (c : GLoad) (xf0_ : GSet) (gf0_ : Nat) (hO : Hp w (fps [.row gf0_ 108 (xf0_.words.1.map U)]) [.row gf0_ 108 (xf0_.words.1.map U)] w) (hA : ∀ g, fps [.row gf0_ 108 (xf0_.words.1.map U)] g → ¬ F0.S g) (r : Bool) (hr : zb4 c xf0_ = some r) : Calls Try.prog 57 #[.agg [.int .i64 c.To, .int .i64 c.From, .int .i64 c.Weight, .int .i64 c.Low, .int .i64 c.High].toArray, .pointer (some ⟨gf0_, 0, none⟩)] w fun e w' => ∃ (y : Unit), (True) ∧ e = .returned (.bool r) ∧ FxM F0 w (fps [.row gf0_ 108 (xf0_.words.1.map U)]) F0 [.row gf0_ 108 (xf0_.words.1.map U)] w' := by
  have hk := hr; unfold zb4 at hk; obtain ⟨S0, F1, rfl, hS0, hp0⟩ := zbj hF0 hO hA; refine zar (hs := [.row gf0_ 108 (xf0_.words.1.map U), .fr F1]) Try.func57 rfl rfl rfl hp0 ?_; refine T.sr ?_; refine TL.e (Ew.az rfl rfl) ?_; rintro _ _ ⟨g2, rfl, rfl⟩; refine TL.run 1 rfl ?_; refine TL.ns (T.seq ?_); have hq := zak hk; clear hk; obtain ⟨r7, hr7, hk⟩ := hq; (try dsimp only at hk); have hq := zae hk; clear hk; obtain ⟨k2, hk2, hk⟩ := hq; (try dsimp only at hk); refine T.ae (ι := Bool) (fun z => [(3, .bool z)]) (fun z => [.row gf0_ 108 (xf0_.words.1.map U), .fr F1]) (fun z => k2 z = some r) ?_ ?_
  · refine T.region ?_; refine TL.y (Yv.ak 1 rfl rfl rfl Vec.len) ?_; refine TL.y (Yv.fieldAddr rfl rfl) ?_; refine TL.y (Yv.a 0 rfl rfl rfl rfl) ?_; refine TL.e (Ew.ag rfl rfl rfl (fun w hw => zbc _ w (hw.fr (i := 2) rfl) xf0_ c.To r7 hr7)) ?_; rintro _ _ ⟨rfl, rfl⟩; refine TL.run 1 rfl ?_; refine TL.gs rfl rfl rfl (fun h3 => ?_) (fun h3 => ?_)
    · replace hk := zab hk h3; refine TL.y (Yv.ak 1 rfl rfl rfl Vec.len) ?_; refine TL.y (Yv.fieldAddr rfl rfl) ?_; refine TL.y (Yv.a 0 rfl rfl rfl rfl) ?_; have hq := zak hk; clear hk; obtain ⟨r12, hr12, hk⟩ := hq; refine TL.e (Ew.ag rfl rfl rfl (fun w hw => zbc _ w (hw.fr (i := 2) rfl) xf0_ c.From r12 hr12)) ?_; rintro _ _ ⟨rfl, rfl⟩; refine TL.run 2 rfl ?_; refine TL.nil ?_; refine K.pick [1, 2] rfl (by decide) ?_; exact K.af r12 hk (.c .nil) (List.Sublist.refl _)
    · replace hk := zaa hk h3; refine TL.run 6 rfl ?_; refine TL.nil ?_; refine K.pick [1, 2] rfl (by decide) ?_; exact K.af false hk (.c .nil) (List.Sublist.refl _)
  · rintro x_1 hk; rw [← hk2] at hk; (try dsimp only at hk); refine T.ret ?_; obtain rfl := Option.some.inj hk; exact K.ai rfl rfl (fun w' hw => ⟨⟨⟩, trivial, rfl, FxM.of (hw.pick (idx := [0, 1]) rfl (by decide)) hS0 (Frz.Le.refl _)⟩)
def za4 (l : List GLoad) (x1c0_ : GSet) : Option Bool :=
  zaK (fun (_ : Unit) =>
    some true)
  (fun k1 =>
    zaj (fun (i_3 : Nat) (next2 : Unit → Option Bool) (_ : Unit) =>
      (zb4 (nth l i_3) x1c0_).bind fun r15 =>
      (bif !r15 then
        some false
        else
        next2 ()))
    (fun (_ : Unit) =>
      k1 ()) (l.length - 0) 0 ())
theorem zcs (F0 : Frz) (w : World) (hF0 : F0.At w) (l : List GLoad) (vl : Value) (hl : SlC F0 vl 5 (l.map GLoad.enc)) (x1c0_ : GSet) (g1c0_ : Nat) (hO : Hp w (fps [.row g1c0_ 108 (x1c0_.words.1.map U)]) [.row g1c0_ 108 (x1c0_.words.1.map U)] w) (hA : ∀ g, fps [.row g1c0_ 108 (x1c0_.words.1.map U)] g → ¬ F0.S g) (r : Bool) (hr : za4 l x1c0_ = some r) : Calls Try.prog 56 #[vl, .func (.func 57) #[] #[.pointer (some ⟨g1c0_, 0, none⟩)]] w fun e w' => ∃ (y : Unit), (True) ∧ e = .returned (.bool r) ∧ FxM F0 w (fps [.row g1c0_ 108 (x1c0_.words.1.map U)]) F0 [.row g1c0_ 108 (x1c0_.words.1.map U)] w' := by
  have hk := hr; unfold za4 at hk; haveI := hl.oneC; obtain ⟨S0, F1, rfl, hS0, hp0⟩ := zbj hF0 hO hA; refine zar (hs := [.row g1c0_ 108 (x1c0_.words.1.map U), .fr F1]) Try.func56 rfl rfl rfl hp0 ?_; refine T.sr ?_; refine TL.run 1 rfl ?_; refine TL.ns (T.seq (T.sr ?_)); refine TL.run 1 rfl ?_; refine TL.y (Yv.an rfl rfl hl (List.length_map _)) ?_; have hm8 : l.length ≤ 9223372036854775807 := (List.length_map _) ▸ hl.max; refine TL.run 1 rfl ?_; refine TL.ns ?_; have hq := zae hk; clear hk; obtain ⟨k1, hk1, hk⟩ := hq; (try dsimp only at hk); refine T.ae (ι := Unit) (fun z => []) (fun z => [.row g1c0_ 108 (x1c0_.words.1.map U), .fr F1]) (fun z => k1 () = some r) ?_ ?_
  · have hq := zal hk; clear hk; obtain ⟨f2, kk2, hf2, hkk2, hk⟩ := hq; refine T.block ?_; refine T.loop (ι := Nat) (fun z => [(1, .func (.func 57) #[] #[.pointer (some ⟨g1c0_, 0, none⟩)]), (7, vl), (8, .int .i64 (l.length : Int)), (9, .int .i64 (z : Int))]) (fun z => [.row g1c0_ 108 (x1c0_.words.1.map U), .fr F1]) (fun z => zaj f2 kk2 (l.length - z) z () = some r) (fun z => l.length - z) 0 ?_ ?_ ?_ ?_
    · exact hk
    · exact (.c (.c (.c (.c .nil))))
    · exact List.Sublist.refl _
    · rintro i_3 hk; refine T.sr ?_; refine TL.run 1 rfl ?_; refine TL.ns (T.seq ?_); refine T.cond rfl (fun h4 => ?_) (fun h4 => ?_)
      · have p4 := of_decide_eq_true h4; rw [zat (by omega)] at hk; generalize hn2 : zaj f2 kk2 (l.length - (i_3 + 1)) (i_3 + 1) = next2 at hk; rw [← hf2] at hk; (try dsimp only at hk); refine T.skip (K.seq (T.seq (T.block (T.sr ?_)))); refine TL.y (Yv.am (i := i_3) rfl rfl rfl hl (List.length_map _) rfl (by omega)) ?_; refine TL.y (Yv.aq 1 (i := i_3) rfl rfl rfl hl (by omega) rfl rfl rfl) ?_; refine TL.e (Ew.alloc rfl) ?_; rintro _ _ ⟨g6, rfl, rfl⟩; refine TL.e0 (Ew.al 0 rfl rfl rfl rfl rfl rfl) ?_; rintro _ _ ⟨rfl, rfl⟩; refine TL.ns (T.seq ?_); have hq := zak hk; clear hk; obtain ⟨r15, hr15, hk⟩ := hq; (try dsimp only at hk); refine T.region ?_; refine TL.run 1 rfl ?_; refine TL.y (Yv.ak 0 rfl rfl rfl rfl) ?_; refine TL.e (Ew.as [1, 2, 0] [.row g1c0_ 108 (x1c0_.words.1.map U)] [.row g6 52 [.int .i64 ((nth l i_3).To), .int .i64 ((nth l i_3).From), .int .i64 ((nth l i_3).Weight), .int .i64 ((nth l i_3).Low), .int .i64 ((nth l i_3).High)]] rfl rfl rfl rfl (by decide) (fun w hw hw2 hF => zeA _ w hF (nth l i_3) x1c0_ g1c0_ hw2.takes.1 hw2.takes.2 r15 hr15)) ?_; rintro _ _ ⟨⟨⟩, -, rfl, rfl⟩; dsimp only [List.cons_append, List.nil_append]; refine TL.run 1 rfl ?_; refine TL.ns ?_; refine T.cond rfl (fun h5 => ?_) (fun h5 => ?_)
        · replace hk := zab hk h5; refine T.sr ?_; refine TL.run 1 rfl ?_; refine TL.ns (T.ret (K.ah (K.ab (K.ab (K.ah (K.ab ?_)))))); obtain rfl := Option.some.inj hk; exact K.ai rfl rfl (fun w' hw => ⟨⟨⟩, trivial, rfl, FxM.of (hw.pick (idx := [0, 1]) rfl (by decide)) hS0 (Frz.Le.refl _)⟩)
        · replace hk := zaa hk h5; refine T.skip (K.ac (K.seq (T.region ?_))); refine TL.y (Yv.ao rfl rfl rfl (by omega)) ?_; refine TL.run 1 rfl ?_; refine TL.nil ?_; rw [← hn2] at hk; refine K.pick [0, 1] rfl (by decide) ?_; exact K.next (i_3 + 1) hk (by omega) (.c (.c (.c (.c .nil)))) (List.Sublist.refl _)
      · have p4 := of_decide_eq_false h4; rw [zau (by omega), ← hkk2] at hk; (try dsimp only at hk); refine T.exit (K.aa (K.aa (K.ad ?_))); exact K.af () hk .nil (List.Sublist.refl _)
  · rintro _ hk; rw [← hk1] at hk; (try dsimp only at hk); refine T.sr ?_; refine TL.run 1 rfl ?_; refine TL.ns (T.ret ?_); obtain rfl := Option.some.inj hk; exact K.ai rfl rfl (fun w' hw => ⟨⟨⟩, trivial, rfl, FxM.of (hw.pick (idx := [0, 1]) rfl (by decide)) hS0 (Frz.Le.refl _)⟩)
def zb2 (c : GCap) (xf0_ : GSet) : Option Bool :=
  (zaI xf0_ c.Station).bind fun r7 =>
  some r7
theorem zeE (F0 : Frz) (w : World) (hF0 : F0.At w) (c : GCap) (xf0_ : GSet) (gf0_ : Nat) (hO : Hp w (fps [.row gf0_ 108 (xf0_.words.1.map U)]) [.row gf0_ 108 (xf0_.words.1.map U)] w) (hA : ∀ g, fps [.row gf0_ 108 (xf0_.words.1.map U)] g → ¬ F0.S g) (r : Bool) (hr : zb2 c xf0_ = some r) : Calls Try.prog 59 #[.agg [.int .i64 c.Station, .int .i64 c.Max, .int .i64 c.Low, .int .i64 c.High].toArray, .pointer (some ⟨gf0_, 0, none⟩)] w fun e w' => ∃ (y : Unit), (True) ∧ e = .returned (.bool r) ∧ FxM F0 w (fps [.row gf0_ 108 (xf0_.words.1.map U)]) F0 [.row gf0_ 108 (xf0_.words.1.map U)] w' := by
  have hk := hr; unfold zb2 at hk; obtain ⟨S0, F1, rfl, hS0, hp0⟩ := zbj hF0 hO hA; refine zar (hs := [.row gf0_ 108 (xf0_.words.1.map U), .fr F1]) Try.func59 rfl rfl rfl hp0 ?_; refine T.sr ?_; refine TL.e (Ew.az rfl rfl) ?_; rintro _ _ ⟨g2, rfl, rfl⟩; refine TL.run 1 rfl ?_; refine TL.ns (T.seq ?_); have hq := zak hk; clear hk; obtain ⟨r7, hr7, hk⟩ := hq; (try dsimp only at hk); refine T.region ?_; refine TL.y (Yv.ak 1 rfl rfl rfl Vec.len) ?_; refine TL.y (Yv.fieldAddr rfl rfl) ?_; refine TL.y (Yv.a 0 rfl rfl rfl rfl) ?_; refine TL.e (Ew.ag rfl rfl rfl (fun w hw => zbc _ w (hw.fr (i := 2) rfl) xf0_ c.Station r7 hr7)) ?_; rintro _ _ ⟨rfl, rfl⟩; refine TL.run 1 rfl ?_; refine TL.ns (T.ret ?_); obtain rfl := Option.some.inj hk; exact K.ai rfl rfl (fun w' hw => ⟨⟨⟩, trivial, rfl, FxM.of (hw.pick (idx := [1, 2]) rfl (by decide)) hS0 (Frz.Le.refl _)⟩)
def za6 (l : List GCap) (x1c0_ : GSet) : Option Bool :=
  zaK (fun (_ : Unit) =>
    some true)
  (fun k1 =>
    zaj (fun (i_3 : Nat) (next2 : Unit → Option Bool) (_ : Unit) =>
      (zb2 (nth l i_3) x1c0_).bind fun r15 =>
      (bif !r15 then
        some false
        else
        next2 ()))
    (fun (_ : Unit) =>
      k1 ()) (l.length - 0) 0 ())
theorem zcu (F0 : Frz) (w : World) (hF0 : F0.At w) (l : List GCap) (vl : Value) (hl : SlC F0 vl 4 (l.map GCap.enc)) (x1c0_ : GSet) (g1c0_ : Nat) (hO : Hp w (fps [.row g1c0_ 108 (x1c0_.words.1.map U)]) [.row g1c0_ 108 (x1c0_.words.1.map U)] w) (hA : ∀ g, fps [.row g1c0_ 108 (x1c0_.words.1.map U)] g → ¬ F0.S g) (r : Bool) (hr : za6 l x1c0_ = some r) : Calls Try.prog 58 #[vl, .func (.func 59) #[] #[.pointer (some ⟨g1c0_, 0, none⟩)]] w fun e w' => ∃ (y : Unit), (True) ∧ e = .returned (.bool r) ∧ FxM F0 w (fps [.row g1c0_ 108 (x1c0_.words.1.map U)]) F0 [.row g1c0_ 108 (x1c0_.words.1.map U)] w' := by
  have hk := hr; unfold za6 at hk; haveI := hl.oneC; obtain ⟨S0, F1, rfl, hS0, hp0⟩ := zbj hF0 hO hA; refine zar (hs := [.row g1c0_ 108 (x1c0_.words.1.map U), .fr F1]) Try.func58 rfl rfl rfl hp0 ?_; refine T.sr ?_; refine TL.run 1 rfl ?_; refine TL.ns (T.seq (T.sr ?_)); refine TL.run 1 rfl ?_; refine TL.y (Yv.an rfl rfl hl (List.length_map _)) ?_; have hm8 : l.length ≤ 9223372036854775807 := (List.length_map _) ▸ hl.max; refine TL.run 1 rfl ?_; refine TL.ns ?_; have hq := zae hk; clear hk; obtain ⟨k1, hk1, hk⟩ := hq; (try dsimp only at hk); refine T.ae (ι := Unit) (fun z => []) (fun z => [.row g1c0_ 108 (x1c0_.words.1.map U), .fr F1]) (fun z => k1 () = some r) ?_ ?_
  · have hq := zal hk; clear hk; obtain ⟨f2, kk2, hf2, hkk2, hk⟩ := hq; refine T.block ?_; refine T.loop (ι := Nat) (fun z => [(1, .func (.func 59) #[] #[.pointer (some ⟨g1c0_, 0, none⟩)]), (7, vl), (8, .int .i64 (l.length : Int)), (9, .int .i64 (z : Int))]) (fun z => [.row g1c0_ 108 (x1c0_.words.1.map U), .fr F1]) (fun z => zaj f2 kk2 (l.length - z) z () = some r) (fun z => l.length - z) 0 ?_ ?_ ?_ ?_
    · exact hk
    · exact (.c (.c (.c (.c .nil))))
    · exact List.Sublist.refl _
    · rintro i_3 hk; refine T.sr ?_; refine TL.run 1 rfl ?_; refine TL.ns (T.seq ?_); refine T.cond rfl (fun h4 => ?_) (fun h4 => ?_)
      · have p4 := of_decide_eq_true h4; rw [zat (by omega)] at hk; generalize hn2 : zaj f2 kk2 (l.length - (i_3 + 1)) (i_3 + 1) = next2 at hk; rw [← hf2] at hk; (try dsimp only at hk); refine T.skip (K.seq (T.seq (T.block (T.sr ?_)))); refine TL.y (Yv.am (i := i_3) rfl rfl rfl hl (List.length_map _) rfl (by omega)) ?_; refine TL.y (Yv.aq 1 (i := i_3) rfl rfl rfl hl (by omega) rfl rfl rfl) ?_; refine TL.e (Ew.alloc rfl) ?_; rintro _ _ ⟨g6, rfl, rfl⟩; refine TL.e0 (Ew.al 0 rfl rfl rfl rfl rfl rfl) ?_; rintro _ _ ⟨rfl, rfl⟩; refine TL.ns (T.seq ?_); have hq := zak hk; clear hk; obtain ⟨r15, hr15, hk⟩ := hq; (try dsimp only at hk); refine T.region ?_; refine TL.run 1 rfl ?_; refine TL.y (Yv.ak 0 rfl rfl rfl rfl) ?_; refine TL.e (Ew.as [1, 2, 0] [.row g1c0_ 108 (x1c0_.words.1.map U)] [.row g6 54 [.int .i64 ((nth l i_3).Station), .int .i64 ((nth l i_3).Max), .int .i64 ((nth l i_3).Low), .int .i64 ((nth l i_3).High)]] rfl rfl rfl rfl (by decide) (fun w hw hw2 hF => zeE _ w hF (nth l i_3) x1c0_ g1c0_ hw2.takes.1 hw2.takes.2 r15 hr15)) ?_; rintro _ _ ⟨⟨⟩, -, rfl, rfl⟩; dsimp only [List.cons_append, List.nil_append]; refine TL.run 1 rfl ?_; refine TL.ns ?_; refine T.cond rfl (fun h5 => ?_) (fun h5 => ?_)
        · replace hk := zab hk h5; refine T.sr ?_; refine TL.run 1 rfl ?_; refine TL.ns (T.ret (K.ah (K.ab (K.ab (K.ah (K.ab ?_)))))); obtain rfl := Option.some.inj hk; exact K.ai rfl rfl (fun w' hw => ⟨⟨⟩, trivial, rfl, FxM.of (hw.pick (idx := [0, 1]) rfl (by decide)) hS0 (Frz.Le.refl _)⟩)
        · replace hk := zaa hk h5; refine T.skip (K.ac (K.seq (T.region ?_))); refine TL.y (Yv.ao rfl rfl rfl (by omega)) ?_; refine TL.run 1 rfl ?_; refine TL.nil ?_; rw [← hn2] at hk; refine K.pick [0, 1] rfl (by decide) ?_; exact K.next (i_3 + 1) hk (by omega) (.c (.c (.c (.c .nil)))) (List.Sublist.refl _)
      · have p4 := of_decide_eq_false h4; rw [zau (by omega), ← hkk2] at hk; (try dsimp only at hk); refine T.exit (K.aa (K.aa (K.ad ?_))); exact K.af () hk .nil (List.Sublist.refl _)
  · rintro _ hk; rw [← hk1] at hk; (try dsimp only at hk); refine T.sr ?_; refine TL.run 1 rfl ?_; refine TL.ns (T.ret ?_); obtain rfl := Option.some.inj hk; exact K.ai rfl rfl (fun w' hw => ⟨⟨⟩, trivial, rfl, FxM.of (hw.pick (idx := [0, 1]) rfl (by decide)) hS0 (Frz.Le.refl _)⟩)
def zb5 (p : GProblem) : Option Bool :=
  (zaO p.Domains).bind fun r7 =>
  zaK (fun (x_1 : Bool) =>
    (bif x_1 then
      some false
      else
      (zaT p.Domains).bind fun r18 =>
      (bif !r18 then
        some false
        else
        (zb3 p).bind fun r21 =>
        (za3 p.Rules.Pairs r21).bind fun r26 =>
        zaK (fun (x_6 : Bool) =>
          some x_6)
        (fun k7 =>
          (bif r26 then
            (za4 p.Rules.Loads r21).bind fun r32 =>
            (bif r32 then
              (za6 p.Rules.Caps r21).bind fun r39 =>
              k7 r39
              else
              k7 false)
            else
            k7 false)))))
  (fun k2 =>
    (bif !r7 then
      k2 true
      else
      (zbG p.Rules).bind fun r12 =>
      k2 (!r12)))
theorem zdQ (F0 : Frz) (w : World) (hF0 : F0.At w) (p : GProblem) (vp_0 : Value) (cp_0 : List (List Value)) (hp_0 : SlD GDomain.rep F0 vp_0 2 cp_0 p.Domains) (vp_1 : Value) (hp_1 : SlC F0 vp_1 5 (p.Rules.Pairs.map GPair.enc)) (vp_2 : Value) (hp_2 : SlC F0 vp_2 5 (p.Rules.Loads.map GLoad.enc)) (vp_3 : Value) (hp_3 : SlC F0 vp_3 4 (p.Rules.Caps.map GCap.enc)) (r : Bool) (hr : zb5 p = some r) : Calls Try.prog 33 #[.agg [vp_0, vp_1, vp_2, vp_3].toArray] w fun e w' => e = .returned (.bool r) ∧ Below w.heap.size w w' := by
  have hk := hr; unfold zb5 at hk; haveI := hp_0.1.oneC; haveI := hp_1.oneC; haveI := hp_2.oneC; haveI := hp_3.oneC; obtain ⟨S0, F1, rfl, hS0, hp0⟩ := zao hF0; refine zar Try.func33 rfl rfl rfl hp0 ?_; refine T.sr ?_; refine TL.e (Ew.az rfl rfl) ?_; rintro _ _ ⟨g1, rfl, rfl⟩; refine TL.run 1 rfl ?_; refine TL.ns (T.seq (T.seq ?_)); have hq := zak hk; clear hk; obtain ⟨r7, hr7, hk⟩ := hq; (try dsimp only at hk); have hq := zae hk; clear hk; obtain ⟨k2, hk2, hk⟩ := hq; (try dsimp only at hk); refine T.ae (ι := Bool) (fun z => [(1, .pointer (some ⟨g1, 0, none⟩)), (14, .bool z)]) (fun z => [.row g1 29 [vp_0, vp_1, vp_2, vp_3], .fr F1]) (fun z => k2 z = some r) ?_ ?_
  · refine T.region ?_; refine TL.y (Yv.fieldAddr rfl rfl) ?_; refine TL.y (Yv.a 0 rfl rfl rfl rfl) ?_; refine TL.e (Ew.ag rfl rfl rfl (fun w hw => zbU _ w (hw.fr (i := 1) rfl) p.Domains vp_0 cp_0 hp_0 r7 hr7)) ?_; rintro _ _ ⟨rfl, rfl⟩; refine TL.run 2 rfl ?_; refine TL.gs rfl rfl rfl (fun h3 => ?_) (fun h3 => ?_)
    · replace hk := zab hk h3; refine TL.run 5 rfl ?_; refine TL.nil ?_; exact K.af true hk (.c (.c .nil)) (List.Sublist.refl _)
    · replace hk := zaa hk h3; refine TL.y (Yv.fieldAddr rfl rfl) ?_; refine TL.y (Yv.bb 0 (m := [vp_1, vp_2, vp_3]) rfl rfl rfl rfl rfl) ?_; have hq := zak hk; clear hk; obtain ⟨r12, hr12, hk⟩ := hq; refine TL.e (Ew.ag rfl rfl rfl (fun w hw => zdZ _ w (hw.fr (i := 1) rfl) p.Rules vp_1 hp_1 vp_2 hp_2 vp_3 hp_3 r12 hr12)) ?_; rintro _ _ ⟨rfl, rfl⟩; refine TL.run 2 rfl ?_; refine TL.nil ?_; exact K.af (!r12) hk (.c (.c .nil)) (List.Sublist.refl _)
  · rintro x_1 hk; rw [← hk2] at hk; (try dsimp only at hk); refine T.cond rfl (fun h4 => ?_) (fun h4 => ?_)
    · replace hk := zab hk h4; refine T.sr ?_; refine TL.run 1 rfl ?_; refine TL.ns (T.ret (K.ab ?_)); obtain rfl := Option.some.inj hk; exact K.ai rfl rfl (fun w' hw => ⟨rfl, hw.isBelow⟩)
    · replace hk := zaa hk h4; refine T.skip (K.seq (T.sr ?_)); refine TL.run 1 rfl ?_; refine TL.ns (T.seq (T.seq ?_)); have hq := zak hk; clear hk; obtain ⟨r18, hr18, hk⟩ := hq; (try dsimp only at hk); refine T.region ?_; refine TL.y (Yv.fieldAddr rfl rfl) ?_; refine TL.y (Yv.a 0 rfl rfl rfl rfl) ?_; refine TL.run 1 rfl ?_; refine TL.e (Ew.ag rfl rfl rfl (fun w hw => zb8 _ w (hw.fr (i := 1) rfl) p.Domains vp_0 cp_0 hp_0 r18 hr18)) ?_; rintro _ _ ⟨rfl, rfl⟩; refine TL.run 1 rfl ?_; refine TL.ns ?_; refine T.cond rfl (fun h5 => ?_) (fun h5 => ?_)
      · replace hk := zab hk h5; refine T.sr ?_; refine TL.run 1 rfl ?_; refine TL.ns (T.ret (K.ab ?_)); obtain rfl := Option.some.inj hk; exact K.ai rfl rfl (fun w' hw => ⟨rfl, hw.isBelow⟩)
      · replace hk := zaa hk h5; refine T.skip (K.seq (T.seq ?_)); have hq := zak hk; clear hk; obtain ⟨r21, hr21, hk⟩ := hq; (try dsimp only at hk); refine T.region ?_; refine TL.y (Yv.ak 0 rfl rfl rfl rfl) ?_; refine TL.e (Ew.ag rfl rfl rfl (fun w hw => zex _ w (hw.fr (i := 1) rfl) p vp_0 cp_0 hp_0 vp_1 hp_1 vp_2 hp_2 vp_3 hp_3 r21 hr21)) ?_; rintro _ _ ⟨rfl, rfl⟩; refine TL.e (Ew.aP (l := ((Vec.fill 8 (0#64)).1.map U)) rfl (by kernel_rfl)) ?_; rintro _ _ ⟨g4, rfl, rfl⟩; refine TL.e0 (Ew.al 0 rfl rfl rfl rfl Vec.len (Vec.len.trans Vec.len.symm)) ?_; rintro _ _ ⟨rfl, rfl⟩; refine TL.ns (T.seq ?_); have hq := zak hk; clear hk; obtain ⟨r26, hr26, hk⟩ := hq; (try dsimp only at hk); have hq := zae hk; clear hk; obtain ⟨k7, hk7, hk⟩ := hq; (try dsimp only at hk); refine T.ae (ι := Bool) (fun z => [(2, .bool z)]) (fun z => [.fr F1]) (fun z => k7 z = some r) ?_ ?_
        · refine T.region ?_; refine TL.y (Yv.fieldAddr rfl rfl) ?_; refine TL.y (Yv.fieldAddr rfl rfl) ?_; refine TL.y (Yv.a 1 rfl rfl rfl rfl) ?_; refine TL.run 1 rfl ?_; refine TL.e (Ew.as [0, 2, 1] [.row g4 108 (r21.words.1.map U)] [.row g1 29 [vp_0, vp_1, vp_2, vp_3]] rfl rfl rfl rfl (by decide) (fun w hw hw2 hF => zcr _ w hF p.Rules.Pairs vp_1 hp_1 r21 g4 hw2.takes.1 hw2.takes.2 r26 hr26)) ?_; rintro _ _ ⟨⟨⟩, -, rfl, rfl⟩; dsimp only [List.cons_append, List.nil_append]; refine TL.run 1 rfl ?_; refine TL.gs rfl rfl rfl (fun h8 => ?_) (fun h8 => ?_)
          · replace hk := zab hk h8; refine TL.y (Yv.fieldAddr rfl rfl) ?_; refine TL.y (Yv.fieldAddr rfl rfl) ?_; refine TL.y (Yv.a 2 rfl rfl rfl rfl) ?_; refine TL.run 1 rfl ?_; have hq := zak hk; clear hk; obtain ⟨r32, hr32, hk⟩ := hq; refine TL.e (Ew.as [0, 1, 2] [.row g4 108 (r21.words.1.map U)] [.row g1 29 [vp_0, vp_1, vp_2, vp_3]] rfl rfl rfl rfl (by decide) (fun w hw hw2 hF => zcs _ w hF p.Rules.Loads vp_2 hp_2 r21 g4 hw2.takes.1 hw2.takes.2 r32 hr32)) ?_; rintro _ _ ⟨⟨⟩, -, rfl, rfl⟩; dsimp only [List.cons_append, List.nil_append]; refine TL.run 2 rfl ?_; refine TL.gs rfl rfl rfl (fun h9 => ?_) (fun h9 => ?_)
            · replace hk := zab hk h9; refine TL.y (Yv.fieldAddr rfl rfl) ?_; refine TL.y (Yv.fieldAddr rfl rfl) ?_; refine TL.y (Yv.a 2 rfl rfl rfl rfl) ?_; refine TL.run 1 rfl ?_; have hq := zak hk; clear hk; obtain ⟨r39, hr39, hk⟩ := hq; refine TL.e (Ew.as [0, 1, 2] [.row g4 108 (r21.words.1.map U)] [.row g1 29 [vp_0, vp_1, vp_2, vp_3]] rfl rfl rfl rfl (by decide) (fun w hw hw2 hF => zcu _ w hF p.Rules.Caps vp_3 hp_3 r21 g4 hw2.takes.1 hw2.takes.2 r39 hr39)) ?_; rintro _ _ ⟨⟨⟩, -, rfl, rfl⟩; dsimp only [List.cons_append, List.nil_append]; refine TL.run 2 rfl ?_; refine TL.nil ?_; refine K.pick [1] rfl (by decide) ?_; exact K.af r39 hk (.c .nil) (List.Sublist.refl _)
            · replace hk := zaa hk h9; refine TL.run 7 rfl ?_; refine TL.nil ?_; refine K.pick [1] rfl (by decide) ?_; exact K.af false hk (.c .nil) (List.Sublist.refl _)
          · replace hk := zaa hk h8; refine TL.run 14 rfl ?_; refine TL.nil ?_; refine K.pick [1] rfl (by decide) ?_; exact K.af false hk (.c .nil) (List.Sublist.refl _)
        · rintro x_6 hk; rw [← hk7] at hk; (try dsimp only at hk); refine T.ret ?_; obtain rfl := Option.some.inj hk; exact K.ai rfl rfl (fun w' hw => ⟨rfl, hw.isBelow⟩)
section
variable {σ ρ α : Type}
theorem zhJ {f : Nat → (Unit → Bool) → Unit → Bool} {k : Unit → Bool} {n : Nat} (q : Nat → Bool) (hf : ∀ i next, i < n → f i next () = (q i || next ())) : zaj f k n 0 () = ((List.range n).any q || k ()) := by
  have key : ∀ m i, i + m = n → zaj f k m i () = ((List.range' i m).any q || k ()) := by
    intro m
    induction m with
    | zero => intro i _; simp [zaj]
    | succ m ih =>
      intro i e
      show f i (zaj f k m (i + 1)) () = _
      rw [hf i _ (by omega), ih (i + 1) (by omega), List.range'_succ, List.any_cons, Bool.or_assoc]
  rw [key n 0 (by omega), List.range_eq_range']
theorem zfU {f : Nat → (Unit → Bool) → Unit → Bool} {k : Unit → Bool} {n : Nat} (q : Nat → Bool) (hf : ∀ i next, i < n → f i next () = (q i && next ())) : zaj f k n 0 () = ((List.range n).all q && k ()) := by
  have key : ∀ m i, i + m = n → zaj f k m i () = ((List.range' i m).all q && k ()) := by
    intro m
    induction m with
    | zero => intro i _; simp [zaj]
    | succ m ih =>
      intro i e
      show f i (zaj f k m (i + 1)) () = _
      rw [hf i _ (by omega), ih (i + 1) (by omega), List.range'_succ, List.all_cons, Bool.and_assoc]
  rw [key n 0 (by omega), List.range_eq_range']
theorem zcR {f : Nat → (σ → ρ) → σ → ρ} {k : σ → ρ} {n : Nat} {s : σ} (g : Nat → σ → σ) (hf : ∀ i next s, i < n → f i next s = next (g i s)) : zaj f k n 0 s = k ((List.range n).foldl (fun s i => g i s) s) := by
  have key : ∀ m i s, i + m = n → zaj f k m i s = k ((List.range' i m).foldl (fun s i => g i s) s) := by
    intro m
    induction m with
    | zero => intro i s _; rfl
    | succ m ih =>
      intro i s e
      show f i (zaj f k m (i + 1)) s = _
      rw [hf i _ _ (by omega), ih (i + 1) _ (by omega), List.range'_succ, List.foldl_cons]
  rw [key n 0 s (by omega), List.range_eq_range']
theorem zcc {f : Nat → (σ → ρ) → σ → ρ} {k : σ → ρ} {n : Nat} {s : σ} (I : Nat → σ → Prop) (g : Nat → σ → σ) (h0 : I 0 s) (hI : ∀ i s, i < n → I i s → I (i + 1) (g i s)) (hf : ∀ i next s, i < n → I i s → f i next s = next (g i s)) : zaj f k n 0 s = k ((List.range n).foldl (fun s i => g i s) s) ∧ I n ((List.range n).foldl (fun s i => g i s) s) := by
  have key : ∀ m i s, i + m = n → I i s → zaj f k m i s = k ((List.range' i m).foldl (fun s i => g i s) s) ∧ I n ((List.range' i m).foldl (fun s i => g i s) s) := by
    intro m
    induction m with
    | zero => intro i s e hs; rw [show i = n by omega] at hs; exact ⟨rfl, hs⟩
    | succ m ih =>
      intro i s e hs; have := ih (i + 1) (g i s) (by omega) (hI i s (by omega) hs); rw [List.range'_succ, List.foldl_cons]; refine ⟨?_, this.2⟩; rw [← this.1]; exact hf i _ s (by omega) hs
  rw [List.range_eq_range']; exact key n 0 s (by omega) h0
theorem zfJ {l : List α} [Inhabited α] {q : α → Bool} : ((List.range l.length).any fun i => q (nth l i)) = l.any q := by
  rw [Bool.eq_iff_iff, List.any_eq_true, List.any_eq_true]; constructor
  · rintro ⟨i, hi, h⟩; exact ⟨nth l i, by rw [zaN (List.mem_range.1 hi)]; exact List.getElem_mem _, h⟩
  · rintro ⟨x, hx, h⟩; obtain ⟨i, hi, rfl⟩ := List.mem_iff_getElem.1 hx; exact ⟨i, List.mem_range.2 hi, by rw [zaN hi]; exact h⟩
theorem zde {l : List α} [Inhabited α] {q : α → Bool} : ((List.range l.length).all fun i => q (nth l i)) = l.all q := by
  have h := zfJ (l := l) (q := fun x => !q x); rw [Bool.eq_iff_iff, List.all_eq_true, List.all_eq_true]; constructor
  · intro h x hx; obtain ⟨i, hi, rfl⟩ := List.mem_iff_getElem.1 hx; have := h i (List.mem_range.2 hi)
    rwa [zaN hi] at this
  · intro h i hi; have hi := List.mem_range.1 hi; rw [zaN hi]; exact h _ (List.getElem_mem _)
theorem zck {l : List α} [Inhabited α] {g : σ → α → σ} {s : σ} : (List.range l.length).foldl (fun s i => g s (nth l i)) s = l.foldl g s := by
  have e : l = (List.range l.length).map (nth l) := by
    apply List.ext_getElem
    · simp
    · intro i h1 h2; simp [zaN h1]
  conv => rhs; rw [e, List.foldl_map]
theorem zfN {x : Int} (h : -9223372036854775808 ≤ x ∧ x ≤ 9223372036854775807) : wI x = x := IntWalk.i64_in _ h
end
theorem zbM {ρ : Type} {f : Nat → (Unit → ρ) → Unit → ρ} {k : Unit → ρ} {z : ρ} (q : Nat → Bool) {n s : Nat} (hf : ∀ i next, s ≤ i → i < s + n → f i next () = bif q i then next () else z) : zaj f k n s () = bif (List.range' s n).all q then k () else z := by
  induction n generalizing s with
  | zero => rfl
  | succ m ih =>
    show f s (zaj f k m (s + 1)) () = _
    rw [hf s _ (Nat.le_refl _) (by omega), ih (fun i next h1 h2 => hf i next (by omega) (by omega)), List.range'_succ, List.all_cons]
    cases q s <;> rfl
theorem ziN (n : Nat) (g t : Nat → Bool) : (List.range' 0 n).all (fun i => g i && (bif decide (0 < (i : Int)) then t i else true)) = ((List.range' 0 n).all g && (List.range' 1 (n - 1)).all t) := by
  rw [Bool.eq_iff_iff, Bool.and_eq_true, List.all_eq_true, List.all_eq_true, List.all_eq_true]; constructor
  · intro h; refine ⟨fun i hi => ((Bool.and_eq_true _ _).mp (h i hi)).1, fun i hi => ?_⟩; have hi' := List.mem_range'_1.1 hi; have h2 := ((Bool.and_eq_true _ _).mp (h i (List.mem_range'_1.2 ⟨by omega, by omega⟩))).2
    rwa [decide_eq_true (by omega), cond_true] at h2
  · rintro ⟨h1, h2⟩ i hi; have hi' := List.mem_range'_1.1 hi; rw [Bool.and_eq_true]; refine ⟨h1 i hi, ?_⟩; by_cases h0 : 0 < (i : Int)
    · rw [decide_eq_true h0, cond_true]; exact h2 i (List.mem_range'_1.2 ⟨by omega, by omega⟩)
    · rw [decide_eq_false h0]; rfl
def lexL : List Int → List Int → Bool
  | a :: x, b :: y => bif decide (a = b) then lexL x y else decide (a < b)
  | _, _ => false
theorem zhO {a b : List Int} {i : Nat} (h1 : i < a.length) (h2 : i < b.length) : lexL (a.drop i) (b.drop i) = bif decide (nth a i = nth b i) then lexL (a.drop (i + 1)) (b.drop (i + 1)) else decide (nth a i < nth b i) := by
  rw [List.drop_eq_getElem_cons h1, List.drop_eq_getElem_cons h2, ← zaN h1, ← zaN h2]; rfl
theorem zhc {a b : List Int} (h : a.length = b.length) : zbT a b = some (lexL a b) := by
  have key : ∀ m i, i + m = a.length → zaj (fun (i : Nat) (next : Unit → Option Bool) (_ : Unit) => grd (0 ≤ (i : Int) ∧ (i : Int) < (b.length : Int)) (bif decide (¬ nth a i = nth b i) then some (decide (nth a i < nth b i)) else next ())) (fun _ => some false) m i () = some (lexL (a.drop i) (b.drop i)) := by
    intro m
    induction m with
    | zero => intro i e; rw [List.drop_eq_nil_of_le (show a.length ≤ i by omega)]; rfl
    | succ m ih =>
      intro i e; have h2 := ih (i + 1) (by omega)
      show grd _ _ = _
      rw [zaR ⟨by omega, by omega⟩, zhO (by omega) (by omega)]; by_cases e2 : nth a i = nth b i
      · rw [decide_eq_true e2, decide_eq_false (fun hn => hn e2), cond_false]; exact h2
      · rw [decide_eq_false e2, decide_eq_true e2, cond_true]; rfl
  have := key a.length 0 (by omega); rw [List.drop_zero, List.drop_zero] at this; exact this
def cmpc (a b : Int) : Int := bif decide (a < b) then -1 else bif decide (b < a) then 1 else 0
theorem ziu (a b : Int) : zac a b = cmpc a b := by
  unfold zac zbC; rw [decide_eq_false (fun h => h rfl), decide_eq_false (fun h => h rfl)]; rfl
def orL : List Int → Int
  | [] => 0
  | v :: r => bif decide (¬ v = 0) then v else orL r
theorem or_x (l : List Int) : zcb l = orL l := by
  have key : ∀ m i, i + m = l.length → zaj (fun (i : Nat) (next : Unit → Int) (_ : Unit) => bif decide (¬ nth l i = 0) then nth l i else next ()) (fun _ => (0 : Int)) m i () = orL (l.drop i) := by
    intro m
    induction m with
    | zero => intro i e; rw [List.drop_eq_nil_of_le (show l.length ≤ i by omega)]; rfl
    | succ m ih =>
      intro i e; have h2 := ih (i + 1) (by omega); rw [List.drop_eq_getElem_cons (show i < l.length by omega), ← zaN (show i < l.length by omega)]
      show (bif decide (¬ nth l i = 0) then nth l i else _) = bif decide (¬ nth l i = 0) then nth l i else _
      rw [← h2]
  have := key l.length 0 (by omega); rw [List.drop_zero] at this; exact this
theorem zgG : ∀ a b : List Int, decide (0 ≤ orL (List.zipWith cmpc a b)) = !lexL a b
  | [], b => by cases b <;> rfl
  | a :: x, [] => rfl
  | a :: x, b :: y => by
    have ih := zgG x y
    show decide (0 ≤ bif decide (¬ cmpc a b = 0) then cmpc a b else orL (List.zipWith cmpc x y)) = !(bif decide (a = b) then lexL x y else decide (a < b))
    unfold cmpc at *; rcases Int.lt_trichotomy a b with h | h | h
    · rw [decide_eq_true h, decide_eq_false (show ¬ a = b by omega)]; rfl
    · subst h; rw [decide_eq_false (Int.lt_irrefl a), decide_eq_true rfl]; exact ih
    · rw [decide_eq_false (show ¬ a < b by omega), decide_eq_true h, decide_eq_false (show ¬ a = b by omega)]; rfl
def zcT (x : GPair) : List Int := [x.A, x.B, x.Offset, x.Low, x.High]
def zcP (x : GLoad) : List Int := [x.To, x.From, x.Weight, x.Low, x.High]
def capL (x : GCap) : List Int := [x.Station, x.Max, x.Low, x.High]
theorem zhu (a b : GPair) : decide (0 ≤ zbh a b) = !lexL (zcT a) (zcT b) := by
  unfold zbh; rw [or_x]; simp only [ziu]; exact zgG (zcT a) (zcT b)
theorem zhz (a b : GLoad) : decide (0 ≤ zbg a b) = !lexL (zcP a) (zcP b) := by
  unfold zbg; rw [or_x]; simp only [ziu]; exact zgG (zcP a) (zcP b)
theorem zh7 (a b : GCap) : decide (0 ≤ zbn a b) = !lexL (capL a) (capL b) := by
  unfold zbn; rw [or_x]; simp only [ziu]; exact zgG (capL a) (capL b)
def adjB {α : Type} [Inhabited α] (lt : α → α → Bool) (l : List α) : Bool := (List.range' 1 (l.length - 1)).all fun i => lt (nth l (i - 1)) (nth l i)
theorem zhR {α : Type} [Inhabited α] {l : List α} {cmp : α → α → Int} {lt : α → α → Bool} (hc : ∀ a b, decide (0 ≤ cmp a b) = !lt a b) :
    zaj (fun (i : Nat) (next : Unit → Option Bool) (_ : Unit) => grd (0 ≤ ((i : Int) - 1) ∧ ((i : Int) - 1) < (l.length : Int)) (bif decide (0 ≤ cmp (nth l (((i : Int) - 1).toNat)) (nth l i)) then some false else next ())) (fun _ => some true) (l.length - 1) 1 () = some (adjB lt l) := by
  rw [zbM (fun i => lt (nth l (i - 1)) (nth l i)) (z := some false) (fun i next h1 h2 => ?_)]
  · unfold adjB; cases (List.range' 1 (l.length - 1)).all fun i => lt (nth l (i - 1)) (nth l i) <;> rfl
  · rw [zaR ⟨by omega, by omega⟩, hc, show ((i : Int) - 1).toNat = i - 1 by omega]
    cases lt (nth l (i - 1)) (nth l i) <;> rfl
theorem zfC {α : Type} [Inhabited α] {l : List α} {q : α → Bool} : zaj (fun (i : Nat) (next : Unit → Bool) (_ : Unit) => bif !(q (nth l i)) then false else next ()) (fun _ => true) (l.length - 0) 0 () = l.all q := by
  rw [Nat.sub_zero, zfU (fun i => q (nth l i)) (fun i next hi => by cases q (nth l i) <;> rfl), zde, Bool.and_true]
def zc2 (r : GRules) : Bool :=
  decide ((r.Pairs.length : Int) ≤ 4096) && (r.Pairs.all za0 && (adjB (fun a b => lexL (zcT a) (zcT b)) r.Pairs && (decide ((r.Loads.length : Int) ≤ 1024) && (r.Loads.all za1 && (adjB (fun a b => lexL (zcP a) (zcP b)) r.Loads && (decide ((r.Caps.length : Int) ≤ 1024) && (r.Caps.all zaY && adjB (fun a b => lexL (capL a) (capL b)) r.Caps)))))))
theorem zf4 (r : GRules) : zbG r = some (zc2 r) := by
  have e1 : zaG r.Pairs = r.Pairs.all za0 := zfC; have e2 : zaF r.Loads = r.Loads.all za1 := zfC; have e3 : zaL r.Caps = r.Caps.all zaY := zfC; have i1 : zaD r.Pairs = some (adjB (fun a b => lexL (zcT a) (zcT b)) r.Pairs) := zhR zhu; have i2 : zaC r.Loads = some (adjB (fun a b => lexL (zcP a) (zcP b)) r.Loads) := zhR zhz; have i3 : zaJ r.Caps = some (adjB (fun a b => lexL (capL a) (capL b)) r.Caps) := zhR zh7; unfold zbG zc2; rw [e1, e2, e3, i1, i2, i3]; simp only [zaK, Option.bind_some]
  cases decide ((r.Pairs.length : Int) ≤ 4096) <;> cases r.Pairs.all za0 <;> cases adjB (fun a b => lexL (zcT a) (zcT b)) r.Pairs <;> try rfl
  cases decide ((r.Loads.length : Int) ≤ 1024) <;> cases r.Loads.all za1 <;> cases adjB (fun a b => lexL (zcP a) (zcP b)) r.Loads <;> try rfl
  cases decide ((r.Caps.length : Int) ≤ 1024) <;> cases r.Caps.all zaY <;> rfl
theorem zc9 (a b : Int) : decide (a < b) = !decide (b ≤ a) := by
  by_cases h : a < b
  · rw [decide_eq_true h, decide_eq_false (by omega)]; rfl
  · rw [decide_eq_false h, decide_eq_true (by omega)]; rfl
theorem zhG (a b : Int) : decide (a ≤ b) = !decide (b < a) := by
  by_cases h : a ≤ b
  · rw [decide_eq_true h, decide_eq_false (by omega)]; rfl
  · rw [decide_eq_false h, decide_eq_true (by omega)]; rfl
theorem zi5 (a b : Int) : decide (a = b) = !decide (¬ a = b) := by
  by_cases h : a = b
  · rw [decide_eq_true h, decide_eq_false (by omega)]; rfl
  · rw [decide_eq_false h, decide_eq_true h]; rfl
theorem zjg {ρ : Type} (a b c d e f g t : Bool) (n z : Option ρ) : zaK (fun x => bif x then z else n) (fun (k : Bool → Option ρ) => bif !a then k true else bif !b then k true else bif !c then k true else bif !d then k true else bif !e then k true else bif !f then k true else bif g then (some t).bind fun r => k (!r) else k false) = bif (((((a && b) && c) && (d && e)) && f) && (bif g then t else true)) then n else z := by
  cases a <;> cases b <;> cases c <;> try rfl
  cases d <;> cases e <;> cases f <;> try rfl
  cases g <;> cases t <;> rfl
theorem body4 {ρ : Type} (a d e f g t : Bool) (n z : Option ρ) : zaK (fun x => bif x then z else n) (fun (k : Bool → Option ρ) => bif !a then k true else bif !d then k true else bif !e then k true else bif !f then k true else bif g then (some t).bind fun r => k (!r) else k false) = bif (((a && (d && e)) && f) && (bif g then t else true)) then n else z := by
  cases a <;> cases d <;> cases e <;> cases f <;> try rfl
  cases g <;> cases t <;> rfl
theorem zef {α : Type} [Inhabited α] (l : List α) (g : α → Bool) (lt : α → α → Bool) : ((List.range' 0 (l.length - 0)).all fun i => g (nth l i) && (bif decide (0 < (i : Int)) then lt (nth l (i - 1)) (nth l i) else true)) = (l.all g && adjB lt l) := by
  rw [Nat.sub_zero, ziN l.length (fun i => g (nth l i)) (fun i => lt (nth l (i - 1)) (nth l i)), ← List.range_eq_range', zde]; rfl
theorem lessP (x y : GPair) : zbT (zbx x) (zbx y) = some (lexL (zcT x) (zcT y)) := zhc rfl
theorem lessL (x y : GLoad) : zbT (zbw x) (zbw y) = some (lexL (zcP x) (zcP y)) := zhc rfl
theorem lessC (x y : GCap) : zbT (zbK x) (zbK y) = some (lexL (capL x) (capL y)) := zhc rfl
theorem zgR (r : GRules) : zbz r = some (zc2 r) := by
  unfold zbz
  show (bif _ then some false else zaj _ (fun _ => zaj _ (fun _ => zaj _ (fun _ => some true) (r.Caps.length - 0) 0 ()) (r.Loads.length - 0) 0 ()) (r.Pairs.length - 0) 0 ()) = _
  rw [zbM (n := r.Pairs.length - 0) (fun i => za0 (nth r.Pairs i) && (bif decide (0 < (i : Int)) then lexL (zcT (nth r.Pairs (i - 1))) (zcT (nth r.Pairs i)) else true)) (z := some false) (fun i next h1 h2 => ?_)]; rw [zbM (n := r.Loads.length - 0) (fun i => za1 (nth r.Loads i) && (bif decide (0 < (i : Int)) then lexL (zcP (nth r.Loads (i - 1))) (zcP (nth r.Loads i)) else true)) (z := some false) (fun i next h1 h2 => ?_)]; rw [zbM (n := r.Caps.length - 0) (fun i => zaY (nth r.Caps i) && (bif decide (0 < (i : Int)) then lexL (capL (nth r.Caps (i - 1))) (capL (nth r.Caps i)) else true)) (z := some false) (fun i next h1 h2 => ?_)]
  · rw [zef r.Pairs za0 (fun a b => lexL (zcT a) (zcT b)), zef r.Loads za1 (fun a b => lexL (zcP a) (zcP b)), zef r.Caps zaY (fun a b => lexL (capL a) (capL b))]; unfold zc2; rw [zc9 4096, zc9 1024, zc9 1024]
    cases decide ((r.Pairs.length : Int) ≤ 4096) <;> cases decide ((r.Loads.length : Int) ≤ 1024) <;> cases decide ((r.Caps.length : Int) ≤ 1024) <;> cases r.Pairs.all za0 <;> try rfl
    all_goals (cases adjB (fun a b => lexL (zcT a) (zcT b)) r.Pairs <;> cases r.Loads.all za1 <;> cases adjB (fun a b => lexL (zcP a) (zcP b)) r.Loads <;> cases r.Caps.all zaY <;> cases adjB (fun a b => lexL (capL a) (capL b)) r.Caps <;> rfl)
  · skip; rw [show ((i : Int) - 1).toNat = i - 1 by omega, lessC, zc9 _ 0, zc9 1099511627776]; exact body4 ..
  · skip; rw [show ((i : Int) - 1).toNat = i - 1 by omega, lessL, zi5 (nth r.Loads i).To, zc9 _ 1, zc9 1073741824]; exact zjg ..
  · skip; rw [show ((i : Int) - 1).toNat = i - 1 by omega, lessP, zhG (nth r.Pairs i).B, zc9 _ (-1), zc9 1]; exact zjg ..
theorem zaB {α : Type} [Inhabited α] {l : List α} {i : Nat} (h : i < l.length) : nth l i ∈ l := by rw [zaN h]; exact List.getElem_mem h
theorem zi0 {c b : Nat} (hc : c < 64) : ((1#64) <<< c).getLsbD b = decide (b = c) := by
  rw [BitVec.getLsbD_shiftLeft]; by_cases h : b = c
  · subst h; simp [hc, BitVec.getLsbD_one]
  · rw [decide_eq_false h]; by_cases h2 : b < c
    · simp [h2]
    · have e : (1#64).getLsbD (b - c) = false := by
        rw [BitVec.getLsbD_one]; simp; omega
      rw [e, Bool.and_false]
theorem ziW {x : BitVec 64} {c : Nat} : decide ((((x >>> c) &&& (1#64)).toNat : Int) = ((1#64).toNat : Int)) = x.getLsbD c := by
  have e : ((x >>> c) &&& (1#64)) = bif x.getLsbD c then 1#64 else 0#64 := by
    refine BitVec.eq_of_getLsbD_eq fun b hb => ?_; rw [BitVec.getLsbD_and, BitVec.getLsbD_ushiftRight, BitVec.getLsbD_one]; by_cases h0 : b = 0
    · subst h0; cases x.getLsbD c <;> simp
    · cases x.getLsbD c <;> simp [h0]
  rw [e]
  cases x.getLsbD c <;> decide
def inS (s : GSet) (i : Int) : Bool := (decide (0 ≤ i) && decide (i < 512)) && (Vec.get s.words (i / 64).toNat).getLsbD (i % 64).toNat
theorem zhf (s : GSet) (i : Int) : zaI s i = some (inS s i) := by
  unfold zaI inS zbl; by_cases h : 0 ≤ i ∧ i < 512
  · simp only [zaK]; rw [decide_eq_true h.1, decide_eq_true h.2]; simp only [Bool.and_self, cond_true]; rw [zaR ⟨h.1, by omega, by omega⟩, zaR ⟨by omega, by omega⟩, zaR ⟨h.1, by omega⟩, zaR ⟨by omega, by omega⟩, ziW, Bool.true_and]
  · have e : (decide (0 ≤ i) && decide (i < 512)) = false := by
      rw [Bool.and_eq_false_iff, decide_eq_false_iff_not, decide_eq_false_iff_not]; omega
    simp only [zaK]; rw [e]; rfl
def wS (v : Vec 8 (BitVec 64)) (n : Nat) : Bool := (Vec.get v (n / 64)).getLsbD (n % 64)
theorem zjj {v : Vec 8 (BitVec 64)} {j n : Nat} (hj : j < 512) : wS (Vec.put v (j / 64) (Vec.get v (j / 64) ||| ((1#64) <<< (j % 64)))) n = (wS v n || decide (n = j)) := by
  unfold wS; rw [Vec.get_put (by omega)]; by_cases h : n / 64 = j / 64
  · rw [if_pos h, BitVec.getLsbD_or, zi0 (by omega), h]
    congr 1
    by_cases h2 : n % 64 = j % 64
    · rw [decide_eq_true h2, decide_eq_true (by omega)]
    · rw [decide_eq_false h2, decide_eq_false (by omega)]
  · rw [if_neg h, decide_eq_false (by omega), Bool.or_false]
theorem zh4 {l : List Int} {i : Nat} (hi : i < l.length) (q : Int → Bool) : (l.take (i + 1)).any q = ((l.take i).any q || q (nth l i)) := by
  rw [List.take_add_one, List.getElem?_eq_getElem hi, List.any_append, zaN hi]; simp
theorem of_x {l : List Int} (h : ∀ x ∈ l, 0 ≤ x ∧ x < 512) : ∃ s, zcQ l = some (s, 0) ∧ ∀ i : Int, inS s i = ((decide (0 ≤ i) && decide (i < 512)) && l.any fun x => decide (x = i)) := by
  have hn : ∀ i, i < l.length → 0 ≤ nth l i ∧ nth l i < 512 := fun i hi => h _ (zaB hi); unfold zcQ
  obtain ⟨h1, h2⟩ := zcc (k := fun s : Vec 8 (BitVec 64) × Vec 8 (BitVec 64) => (some (GSet.mk s.2, 0) : Option (GSet × Int))) (n := l.length) (s := (Vec.fill 8 (0#64), Vec.fill 8 (0#64)))
    (f := fun (i_7 : Nat) (next6 : (Vec 8 (BitVec 64) × Vec 8 (BitVec 64)) → Option (GSet × Int)) (s6 : Vec 8 (BitVec 64) × Vec 8 (BitVec 64)) =>
      (bif !(zbl (nth l i_7)) then
        some ((GSet.mk (Vec.fill 8 (0#64))), 2)
        else
        grd (0 ≤ (nth l i_7) ∧ (nth l i_7) ≤ 9223372036854775807 ∧ 1 ≤ (64 : Int)) <|
        grd (0 ≤ ((nth l i_7) / 64) ∧ ((nth l i_7) / 64) < (8 : Int)) <|
        grd (0 ≤ (nth l i_7) ∧ 1 ≤ (64 : Int)) <|
        grd (0 ≤ ((nth l i_7) % 64) ∧ ((nth l i_7) % 64) < (64 : Int)) <|
        next6 (s6.1, (Vec.put s6.2 (((nth l i_7) / 64).toNat) ((Vec.get s6.2 (((nth l i_7) / 64).toNat)) ||| ((1#64) <<< (((nth l i_7) % 64).toNat)))))))
    (fun i s => ∀ n, n < 512 → wS s.2 n = (l.take i).any fun x => decide (x = (n : Int)))
    (fun i s => (s.1, Vec.put s.2 ((nth l i).toNat / 64) (Vec.get s.2 ((nth l i).toNat / 64) ||| ((1#64) <<< ((nth l i).toNat % 64)))))
    (fun n hn => by
      unfold wS
      rw [Vec.get_fill (by omega)]; simp)
    (fun i s hi hs n hn2 => by
      have := hn i hi; rw [zjj (by omega), hs n hn2, zh4 hi]
      congr 1
      by_cases e : nth l i = (n : Int)
      · rw [decide_eq_true e, decide_eq_true (by omega)]
      · rw [decide_eq_false e, decide_eq_false (by omega)])
    (fun i next s hi hs => by
      have := hn i hi
      have e : zbl (nth l i) = true := by
        unfold zbl; rw [decide_eq_true this.1, decide_eq_true this.2]; rfl
      rw [e, Bool.not_true, cond_false, zaR ⟨this.1, by omega, by omega⟩, zaR ⟨by omega, by omega⟩, zaR ⟨this.1, by omega⟩, zaR ⟨by omega, by omega⟩, show (nth l i / 64).toNat = (nth l i).toNat / 64 by omega, show (nth l i % 64).toNat = (nth l i).toNat % 64 by omega])
  refine ⟨_, h1, fun i => ?_⟩; unfold inS; by_cases hi : 0 ≤ i ∧ i < 512
  · rw [decide_eq_true hi.1, decide_eq_true hi.2, Bool.and_self, Bool.true_and, Bool.true_and]; have h3 := h2 i.toNat (by omega); rw [List.take_length] at h3; unfold wS at h3; rw [show (i / 64).toNat = i.toNat / 64 by omega, show (i % 64).toNat = i.toNat % 64 by omega]; refine h3.trans ?_; rw [show ((i.toNat : Nat) : Int) = i by omega]
  · have e : (decide (0 ≤ i) && decide (i < 512)) = false := by
      rw [Bool.and_eq_false_iff, decide_eq_false_iff_not, decide_eq_false_iff_not]; omega
    rw [e]; rfl
theorem zhD {p : GProblem} (hr : room p.Domains.length 8) (h : ∀ d ∈ p.Domains, 0 ≤ d.Station ∧ d.Station < 512) : ∃ s, zb3 p = some s ∧ ∀ i : Int, inS s i = ((decide (0 ≤ i) && decide (i < 512)) && p.Domains.any fun d => decide (d.Station = i)) := by
  obtain ⟨s, h1, h2⟩ := of_x (l := p.Domains.map (·.Station)) (fun x hx => by obtain ⟨d, hd, rfl⟩ := List.mem_map.1 hx; exact h d hd); refine ⟨s, ?_, fun i => by rw [h2 i, List.any_map]; rfl⟩; unfold zb3; rw [zaR hr]
  have h3 := zcc (k := fun l : List Int => (zcQ l).bind fun r28 => some r28.1) (n := p.Domains.length - 0) (s := List.replicate p.Domains.length (0 : Int))
    (f := fun (i_5 : Nat) (next4 : List Int → Option GSet) (l_3 : List Int) => grd (0 ≤ (i_5 : Int) ∧ (i_5 : Int) < (l_3.length : Int)) <| next4 (l_3.set i_5 ((nth p.Domains i_5).Station)))
    (fun i s => s.length = p.Domains.length ∧ ∀ k, k < i → nth s k = (nth p.Domains k).Station)
    (fun i s => s.set i (nth p.Domains i).Station)
    ⟨List.length_replicate .., fun k hk => by omega⟩
    (fun i s hi hs => ⟨by rw [List.length_set]; exact hs.1, fun k hk => by
      (have h4 : k < s.length := by have := hs.1; omega); rw [zaN (show k < (s.set i _).length by rw [List.length_set]; exact h4), List.getElem_set]; by_cases e : i = k
      · rw [if_pos e, e]
      · rw [if_neg e, ← zaN h4]; exact hs.2 k (by omega)⟩)
    (fun i next s hi hs => by rw [zaR ⟨by omega, by have := hs.1; omega⟩])
  refine h3.1.trans ?_
  have e : (List.range (p.Domains.length - 0)).foldl (fun s i => s.set i (nth p.Domains i).Station) (List.replicate p.Domains.length (0 : Int)) = p.Domains.map (·.Station) := by
    refine List.ext_getElem (by rw [h3.2.1, List.length_map]) fun k hk1 hk2 => ?_; (have hk : k < p.Domains.length := by rwa [List.length_map] at hk2); have h5 := h3.2.2 k (by omega); rw [zaN hk1, zaN hk] at h5; rw [h5, List.getElem_map]
  rw [e, h1]; rfl
theorem ziC (a b : Int) : decide (0 ≤ zac a b) = !decide (a < b) := by
  rw [ziu]; unfold cmpc; rcases Int.lt_trichotomy a b with h | h | h
  · rw [decide_eq_true h]; rfl
  · subst h; rw [decide_eq_false (Int.lt_irrefl a)]; rfl
  · rw [decide_eq_false (show ¬ a < b by omega), decide_eq_true h]; rfl
theorem zeR {α : Type} [Inhabited α] {l : List α} {q : α → Option Bool} {p : α → Bool} (h : ∀ x, q x = some (p x)) : zaj (fun (i : Nat) (next : Unit → Option Bool) (_ : Unit) => (q (nth l i)).bind fun r => bif !r then some false else next ()) (fun _ => some true) (l.length - 0) 0 () = some (l.all p) := by
  rw [Nat.sub_zero, zbM (fun i => p (nth l i)) (z := some false) (fun i next h1 h2 => by rw [h]; show (bif !p (nth l i) then _ else _) = _; cases p (nth l i) <;> rfl), ← List.range_eq_range', zde]
  cases l.all p <;> rfl
def okD (d : GDomain) : Bool := zag d.Station && (d.Channels.all zaq && adjB (fun a b => decide (a < b)) d.Channels)
def hasD (p : GProblem) (i : Int) : Bool := (decide (0 ≤ i) && decide (i < 512)) && p.Domains.any fun d => decide (d.Station = i)
def zfW (p : GProblem) : Bool := p.Rules.Pairs.all (fun c => hasD p c.A && hasD p c.B) && (p.Rules.Loads.all (fun c => hasD p c.To && hasD p c.From) && p.Rules.Caps.all (fun c => hasD p c.Station))
def incD (p : GProblem) : Bool := adjB (fun a b : GDomain => decide (a.Station < b.Station)) p.Domains
def okP (p : GProblem) : Bool := p.Domains.all okD && (zc2 p.Rules && (incD p && zfW p))
theorem zfZ (d : GDomain) : zbF d = some (okD d) := by
  unfold zbF okD; have e1 : zbt d.Channels = d.Channels.all zaq := zfC; have e2 : zbs d.Channels = some (adjB (fun a b => decide (a < b)) d.Channels) := zhR ziC; rw [e1, e2]; simp only [zaK, Option.bind_some]
  cases zag d.Station <;> cases d.Channels.all zaq <;> rfl
theorem zbu {n : Int} (h : zag n = true) : 0 ≤ n ∧ n ≤ 511 := by
  unfold zag zan at h; rw [Bool.and_eq_true, decide_eq_true_eq, decide_eq_true_eq] at h; exact h
theorem zdg {p : GProblem} (h : p.Domains.all okD = true) {d : GDomain} (hd : d ∈ p.Domains) : 0 ≤ d.Station ∧ d.Station < 512 := by
  have h1 := List.all_eq_true.1 h d hd; unfold okD at h1; have := zbu ((Bool.and_eq_true _ _).mp h1).1; omega
theorem zhw {p : GProblem} (h : p.Domains.all okD = true) (hi : incD p = true) : ∀ k, k < p.Domains.length → (k : Int) ≤ (nth p.Domains k).Station
  | 0, hk => (zdg h (zaB hk)).1
  | k + 1, hk => by
    have h1 := zhw h hi k (by omega); have h2 := List.all_eq_true.1 hi (k + 1) (List.mem_range'_1.2 ⟨by omega, by omega⟩); have h3 := of_decide_eq_true h2; rw [show k + 1 - 1 = k from rfl] at h3; omega
theorem zfG {p : GProblem} (h : p.Domains.all okD = true) (hi : incD p = true) : p.Domains.length ≤ 512 := by
  rcases Nat.eq_zero_or_pos p.Domains.length with h0 | h0
  · omega
  · have h1 := zhw h hi (p.Domains.length - 1) (by omega); have h2 := zdg h (zaB (show p.Domains.length - 1 < p.Domains.length by omega)); omega
theorem ziT (p : GProblem) : zb5 p = some (okP p) := by
  have e1 : zaO p.Domains = some (p.Domains.all okD) := zeR zfZ; have e2 : zaT p.Domains = some (incD p) := zhR (cmp := zb6) (fun a b => ziC a.Station b.Station); unfold zb5 okP; rw [e1, e2, zf4]; simp only [zaK, Option.bind_some]
  cases h1 : p.Domains.all okD
  · rfl
  cases zc2 p.Rules
  · rfl
  cases h2 : incD p
  · rfl
  obtain ⟨s, h3, h4⟩ := zhD (p := p) (by have := zfG h1 h2; unfold room; omega) (fun d hd => zdg h1 hd)
  have e3 : za3 p.Rules.Pairs s = some (p.Rules.Pairs.all fun c => hasD p c.A && hasD p c.B) := zeR (q := fun c => zbZ c s) (fun c => by
    unfold zbZ; rw [zhf, zhf, h4, h4]
    show (bif hasD p c.A then some (hasD p c.B) else some false) = _
    cases hasD p c.A <;> rfl)
  have e4 : za4 p.Rules.Loads s = some (p.Rules.Loads.all fun c => hasD p c.To && hasD p c.From) := zeR (q := fun c => zb4 c s) (fun c => by
    unfold zb4; rw [zhf, zhf, h4, h4]
    show (bif hasD p c.To then some (hasD p c.From) else some false) = _
    cases hasD p c.To <;> rfl)
  have e5 : za6 p.Rules.Caps s = some (p.Rules.Caps.all fun c => hasD p c.Station) := zeR (q := fun c => zb2 c s) (fun c => by
    unfold zb2
    rw [zhf, h4]; rfl)
  simp only [cond_false, Bool.not_true, h3, Option.bind_some, e3, e4, e5, Bool.true_and, cond_true]; unfold zfW
  cases p.Rules.Pairs.all fun c => hasD p c.A && hasD p c.B
  · rfl
  cases p.Rules.Loads.all fun c => hasD p c.To && hasD p c.From
  · rfl
  rfl
theorem zeU {α : Type} {l : List α} {f g : α → Bool} (h : ∀ x ∈ l, f x = g x) : l.all f = l.all g := by
  induction l with
  | nil => rfl
  | cons x r ih => rw [List.all_cons, List.all_cons, h x (List.mem_cons_self ..), ih fun y hy => h y (List.mem_cons_of_mem _ hy)]
def anyD (p : GProblem) (s : Int) : Bool := p.Domains.any fun d => decide (d.Station = s)
theorem zfg {p : GProblem} {s : Int} : decide (zas p s < 0) = !anyD p s := by
  have key : ∀ m i, i + m = p.Domains.length → (decide (zaj (fun (i : Nat) (next : Unit → Int) (_ : Unit) => bif decide ((nth p.Domains i).Station = s) then (i : Int) else next ()) (fun _ => (-1)) m i () < 0) = !((p.Domains.drop i).any fun d => decide (d.Station = s))) := by
    intro m
    induction m with
    | zero => intro i e; rw [List.drop_eq_nil_of_le (show p.Domains.length ≤ i by omega)]; rfl
    | succ m ih =>
      intro i e; have h2 := ih (i + 1) (by omega); rw [List.drop_eq_getElem_cons (show i < p.Domains.length by omega), List.any_cons, ← zaN (show i < p.Domains.length by omega)]
      show decide ((bif decide ((nth p.Domains i).Station = s) then (i : Int) else _) < 0) = _
      cases decide ((nth p.Domains i).Station = s) with
      | true => rw [cond_true, decide_eq_false (by omega)]; rfl
      | false => rw [cond_false, Bool.false_or]; exact h2
  have := key p.Domains.length 0 (by omega); rw [List.drop_zero] at this; exact this
def zf3 (p : GProblem) : Bool := p.Rules.Pairs.all (fun c => anyD p c.A && anyD p c.B) && (p.Rules.Loads.all (fun c => anyD p c.To && anyD p c.From) && p.Rules.Caps.all (fun c => anyD p c.Station))
theorem zeq {p : GProblem} {s : Int} (h : zag s = true) : anyD p s = hasD p s := by
  have := zbu h; unfold anyD hasD; rw [decide_eq_true this.1, decide_eq_true (show s < 512 by omega)]; rfl
theorem zbv {a b : Bool} (h : (a && b) = true) : a = true := ((Bool.and_eq_true _ _).mp h).1
theorem zbH {a b : Bool} (h : (a && b) = true) : b = true := ((Bool.and_eq_true _ _).mp h).2
theorem zdt {c : GPair} (h : za0 c = true) : zag c.A = true ∧ zag c.B = true :=
  ⟨zbv (zbv (zbv (zbv h))), zbH (zbv (zbv (zbv h)))⟩
theorem zcS {c : GLoad} (h : za1 c = true) : zag c.To = true ∧ zag c.From = true :=
  ⟨zbv (zbv (zbv (zbv h))), zbH (zbv (zbv (zbv h)))⟩
theorem zeB {c : GCap} (h : zaY c = true) : zag c.Station = true := zbv (zbv h)
structure RulesGood (r : GRules) : Prop where
  np : r.Pairs.length ≤ 4096
  nl : r.Loads.length ≤ 1024
  nc : r.Caps.length ≤ 1024
  p : ∀ c ∈ r.Pairs, za0 c = true
  l : ∀ c ∈ r.Loads, za1 c = true
  c : ∀ c ∈ r.Caps, zaY c = true
theorem zbD {r : GRules} (h : zc2 r = true) : RulesGood r := by
  unfold zc2 at h; have h1 := zbH h; have h2 := zbH h1; have h3 := zbH h2; have h4 := zbH h3; have h5 := zbH h4; have h6 := zbH h5; have h7 := zbH h6; have a1 := of_decide_eq_true (zbv h); have a2 := of_decide_eq_true (zbv h3); have a3 := of_decide_eq_true (zbv h6); exact ⟨by omega, by omega, by omega, List.all_eq_true.1 (zbv h1), List.all_eq_true.1 (zbv h4), List.all_eq_true.1 (zbv h7)⟩
theorem zia {p : GProblem} (h : zc2 p.Rules = true) : zf3 p = zfW p := by
  have hg := zbD h; (have e1 : (p.Rules.Pairs.all fun c => anyD p c.A && anyD p c.B) = p.Rules.Pairs.all fun c => hasD p c.A && hasD p c.B := zeU fun c hc => by rw [zeq (zdt (hg.p c hc)).1, zeq (zdt (hg.p c hc)).2]); (have e2 : (p.Rules.Loads.all fun c => anyD p c.To && anyD p c.From) = p.Rules.Loads.all fun c => hasD p c.To && hasD p c.From := zeU fun c hc => by rw [zeq (zcS (hg.l c hc)).1, zeq (zcS (hg.l c hc)).2]); have e3 : (p.Rules.Caps.all fun c => anyD p c.Station) = p.Rules.Caps.all fun c => hasD p c.Station := zeU fun c hc => zeq (zeB (hg.c c hc)); unfold zf3 zfW; rw [e1, e2, e3]
def okD2 (d : GDomain) : Bool := zag d.Station && (decide ((d.Channels.length : Int) ≤ 50) && (d.Channels.all zaq && adjB (fun a b => decide (a < b)) d.Channels))
theorem zgr {n : Int} (h : zaq n = true) : 2 ≤ n ∧ n ≤ 51 := by
  unfold zaq zan at h; rw [Bool.and_eq_true, decide_eq_true_eq, decide_eq_true_eq] at h; exact h
theorem ziz {l : List Int} (h : l.all zaq = true) (hi : adjB (fun a b => decide (a < b)) l = true) : ∀ k, k < l.length → (k : Int) + 2 ≤ nth l k
  | 0, hk => by have := zgr (List.all_eq_true.1 h _ (zaB hk)); omega
  | k + 1, hk => by
    have h1 := ziz h hi k (by omega); have h2 := List.all_eq_true.1 hi (k + 1) (List.mem_range'_1.2 ⟨by omega, by omega⟩); have h3 := of_decide_eq_true h2; rw [show k + 1 - 1 = k from rfl] at h3; omega
theorem zgu (d : GDomain) : okD2 d = okD d := by
  unfold okD2 okD
  cases h1 : d.Channels.all zaq
  · rw [Bool.false_and, Bool.and_false]
  cases h2 : adjB (fun a b => decide (a < b)) d.Channels
  · rw [Bool.and_false, Bool.and_false]
  have : d.Channels.length ≤ 50 := by
    rcases Nat.eq_zero_or_pos d.Channels.length with h0 | h0
    · omega
    · have a := ziz h1 h2 (d.Channels.length - 1) (by omega); have b := zgr (List.all_eq_true.1 h1 _ (zaB (show d.Channels.length - 1 < d.Channels.length by omega))); omega
  rw [decide_eq_true (by omega)]; rfl
theorem chs_x {ρ : Type} {l : List Int} {n z : ρ} : zaj (fun (k : Nat) (next : Unit → ρ) (_ : Unit) => bif (((decide (nth l k < 2)) || (decide (51 < nth l k))) || ((decide (0 < (k : Int))) && (decide (nth l k ≤ nth l (((k : Int) - 1).toNat))))) then z else next ()) (fun _ => n) (l.length - 0) 0 () = bif l.all zaq && adjB (fun a b => decide (a < b)) l then n else z := by
  rw [zbM (fun k => zaq (nth l k) && (bif decide (0 < (k : Int)) then decide (nth l (k - 1) < nth l k) else true)) (z := z) (fun i next h1 h2 => ?_), zef l zaq (fun a b => decide (a < b))]; rw [show ((i : Int) - 1).toNat = i - 1 by omega, zc9 _ 2, zhG (nth l i) (nth l (i - 1)), zc9 51]; unfold zaq zan
  cases decide (2 ≤ nth l i) <;> cases decide (nth l i ≤ 51) <;> cases decide (0 < (i : Int)) <;> cases decide (nth l (i - 1) < nth l i) <;> rfl
theorem zg4 (p : GProblem) : zcJ p = some (okP p) := by
  unfold zcJ
  show (bif decide (512 < (p.Domains.length : Int)) then some false else (zbz p.Rules).bind fun r => bif !r then some false else zaj _ (fun _ => zaj _ (fun _ => zaj _ (fun _ => zaj _ (fun _ => some true) (p.Rules.Caps.length - 0) 0 ()) (p.Rules.Loads.length - 0) 0 ()) (p.Rules.Pairs.length - 0) 0 ()) (p.Domains.length - 0) 0 ()) = _
  rw [zgR, Option.bind_some]; rw [zbM (n := p.Domains.length - 0) (fun i => okD2 (nth p.Domains i) && (bif decide (0 < (i : Int)) then decide ((nth p.Domains (i - 1)).Station < (nth p.Domains i).Station) else true)) (z := some false) (fun i next h1 h2 => ?_)]; rw [zbM (n := p.Rules.Pairs.length - 0) (fun i => anyD p (nth p.Rules.Pairs i).A && anyD p (nth p.Rules.Pairs i).B) (z := some false) (fun i next h1 h2 => ?_)]; rw [zbM (n := p.Rules.Loads.length - 0) (fun i => anyD p (nth p.Rules.Loads i).To && anyD p (nth p.Rules.Loads i).From) (z := some false) (fun i next h1 h2 => ?_)]; rw [zbM (n := p.Rules.Caps.length - 0) (fun i => anyD p (nth p.Rules.Caps i).Station) (z := some false) (fun i next h1 h2 => ?_)]
  · rw [zef p.Domains okD2 (fun a b => decide (a.Station < b.Station)), Nat.sub_zero, Nat.sub_zero, Nat.sub_zero, ← List.range_eq_range', ← List.range_eq_range', ← List.range_eq_range',
      zde (q := fun c : GPair => anyD p c.A && anyD p c.B), zde (q := fun c : GLoad => anyD p c.To && anyD p c.From), zde (q := fun c : GCap => anyD p c.Station), zeU (fun d _ => zgu d)]
    have hl : ∀ x : Option Bool, (bif p.Rules.Pairs.all (fun c => anyD p c.A && anyD p c.B) then bif p.Rules.Loads.all (fun c => anyD p c.To && anyD p c.From) then bif p.Rules.Caps.all (fun c => anyD p c.Station) then some true else some false else some false else some false) = some (zf3 p) := fun _ => by
      unfold zf3
      cases p.Rules.Pairs.all (fun c => anyD p c.A && anyD p c.B) <;> cases p.Rules.Loads.all (fun c => anyD p c.To && anyD p c.From) <;> cases p.Rules.Caps.all (fun c => anyD p c.Station) <;> rfl
    rw [hl none]; unfold okP
    show (bif decide (512 < (p.Domains.length : Int)) then some false else bif !zc2 p.Rules then some false else bif p.Domains.all okD && incD p then some (zf3 p) else some false) = _
    cases h1 : zc2 p.Rules
    · cases p.Domains.all okD <;> cases decide (512 < (p.Domains.length : Int)) <;> rfl
    cases h2 : p.Domains.all okD
    · cases decide (512 < (p.Domains.length : Int)) <;> rfl
    cases h3 : incD p
    · cases decide (512 < (p.Domains.length : Int)) <;> rfl
    have := zfG h2 h3; rw [decide_eq_false (show ¬ 512 < (p.Domains.length : Int) by omega), zia h1]; rfl
  · rw [zfg]; cases anyD p (nth p.Rules.Caps i).Station <;> rfl
  · rw [zfg, zfg]; cases anyD p (nth p.Rules.Loads i).To <;> cases anyD p (nth p.Rules.Loads i).From <;> rfl
  · rw [zfg, zfg]; cases anyD p (nth p.Rules.Pairs i).A <;> cases anyD p (nth p.Rules.Pairs i).B <;> rfl
  · rw [chs_x, show ((i : Int) - 1).toNat = i - 1 by omega, zc9 50, zhG (nth p.Domains i).Station]; unfold okD2
    show (bif ((!zag (nth p.Domains i).Station || _) || _) then _ else _) = _
    cases zag (nth p.Domains i).Station <;> cases decide (0 < (i : Int)) <;> cases decide ((nth p.Domains (i - 1)).Station < (nth p.Domains i).Station) <;> cases decide (((nth p.Domains i).Channels.length : Int) ≤ 50) <;> cases ((nth p.Domains i).Channels.all zaq && adjB (fun a b => decide (a < b)) (nth p.Domains i).Channels) <;> rfl
end Go.Proofs.Ytnhdlloidbomdaa
namespace Go.Proofs.Ytnhdlloidbomdaa
open Go.Shelf
open Go.RowKit in
open Go.RowKit in
def zgh : Go.Shelf.Ren := ⟨fun | 189 => 41 | 125 => 64 | 257 => 63 | 128 => 92 | 129 => 93 | 294 => 83 | 295 => 84 | 296 => 85 | 297 => 86 | 298 => 87 | 299 => 88 | 216 => 89 | 300 => 90 | 301 => 91 | 328 => 96 | 329 => 97 | 330 => 98 | 331 => 99 | 332 => 100 | 215 => 80 | 343 => 101 | n => n, fun | 28 => 38 | 3 => 3 | 46 => 118 | 0 => 0 | 51 => 137 | 53 => 90 | 4 => 4 | 183 => 131 | 182 => 130 | 131 => 68 | 5 => 5 | 9 => 9 | 218 => 140 | 222 => 143 | 228 => 145 | 229 => 146 | n => n, fun | n => n⟩
theorem zg9 : Go.Proofs.Lays.n189 Try.prog zgh := {
  mixed := by kernel_rfl
  f125 := Try.func64.trans (congrArg some (by kernel_rfl))
  f128 := Try.func92.trans (congrArg some (by kernel_rfl))
  f129 := Try.func93.trans (congrArg some (by kernel_rfl))
  f189 := Try.func41.trans (congrArg some (by kernel_rfl))
  f215 := Try.func80.trans (congrArg some (by kernel_rfl))
  f216 := Try.func89.trans (congrArg some (by kernel_rfl))
  f257 := Try.func63.trans (congrArg some (by kernel_rfl))
  f294 := Try.func83.trans (congrArg some (by kernel_rfl))
  f295 := Try.func84.trans (congrArg some (by kernel_rfl))
  f296 := Try.func85.trans (congrArg some (by kernel_rfl))
  f297 := Try.func86.trans (congrArg some (by kernel_rfl))
  f298 := Try.func87.trans (congrArg some (by kernel_rfl))
  f299 := Try.func88.trans (congrArg some (by kernel_rfl))
  f300 := Try.func90.trans (congrArg some (by kernel_rfl))
  f301 := Try.func91.trans (congrArg some (by kernel_rfl))
  f328 := Try.func96.trans (congrArg some (by kernel_rfl))
  f329 := Try.func97.trans (congrArg some (by kernel_rfl))
  f330 := Try.func98.trans (congrArg some (by kernel_rfl))
  f331 := Try.func99.trans (congrArg some (by kernel_rfl))
  f332 := Try.func100.trans (congrArg some (by kernel_rfl))
  f343 := Try.func101.trans (congrArg some (by kernel_rfl))
  t0 := Try.underlying0
  a0 := Try.isAgg0
  z0 := Try.sizeOf0
  v0 := Try.zeroValue0
  t3 := Try.underlying3
  a3 := Try.isAgg3
  z3 := Try.sizeOf3
  v3 := Try.zeroValue3
  t4 := Try.underlying4
  a4 := Try.isAgg4
  z4 := Try.sizeOf4
  v4 := Try.zeroValue4
  t5 := Try.underlying5
  a5 := Try.isAgg5
  z5 := Try.sizeOf5
  v5 := Try.zeroValue5
  t9 := Try.underlying9
  a9 := Try.isAgg9
  z9 := Try.sizeOf9
  v9 := Try.zeroValue9
  t28 := Try.underlying38
  a28 := Try.isAgg38
  z28 := Try.sizeOf38
  v28 := Try.zeroValue38
  t46 := Try.underlying118
  a46 := Try.isAgg118
  z46 := Try.sizeOf118
  v46 := Try.zeroValue118
  t51 := Try.underlying137
  a51 := Try.isAgg137
  z51 := Try.sizeOf137
  v51 := Try.zeroValue137
  t53 := Try.underlying90
  a53 := Try.isAgg90
  z53 := Try.sizeOf90
  v53 := Try.zeroValue90
  t131 := Try.underlying68
  a131 := Try.isAgg68
  z131 := Try.sizeOf68
  v131 := Try.zeroValue68
  t182 := Try.underlying130
  a182 := Try.isAgg130
  z182 := Try.sizeOf130
  v182 := Try.zeroValue130
  t183 := Try.underlying131
  a183 := Try.isAgg131
  z183 := Try.sizeOf131
  v183 := Try.zeroValue131
  t218 := Try.underlying140
  a218 := Try.isAgg140
  z218 := Try.sizeOf140
  v218 := Try.zeroValue140
  t222 := Try.underlying143
  a222 := Try.isAgg143
  z222 := Try.sizeOf143
  v222 := Try.zeroValue143
  t228 := Try.underlying145
  a228 := Try.isAgg145
  z228 := Try.sizeOf145
  v228 := Try.zeroValue145
  t229 := Try.underlying146
  a229 := Try.isAgg146
  z229 := Try.sizeOf146
  v229 := Try.zeroValue146 }
open Go.Sort Go.RowKit in
theorem slices_Sort_int (blk off cap : Nat) (zs : List Int) (w : World) (hH : Holds (Value.int .i64) w blk off zs.toArray) (hblk : blk < w.heap.size) (hsz : zs.length < 4611686018427387904) :
    Calls Try.prog 41 #[.slice (some ⟨blk, off, none⟩) zs.length cap] w fun e w' =>
      e = .returned (.tuple #[]) ∧ ∃ n os, w' = grow (putRow (Value.int .i64) (Sort.ahead w n) blk off (zs.mergeSort fun x y => decide (x ≤ y)).toArray) os := Any.slices_Sort_int zg9 blk off cap zs w hH hblk hsz
def zfy : Go.Shelf.Ren := ⟨fun | 20 => 42 | n => n, fun | 22 => 38 | 3 => 3 | 4 => 4 | 0 => 0 | n => n, fun | n => n⟩
theorem zgd : Go.Proofs.Lays2.n20 Try.prog zfy := {
  mixed := by kernel_rfl
  f20 := Try.func42.trans (congrArg some (by kernel_rfl))
  t0 := Try.underlying0
  a0 := Try.isAgg0
  z0 := Try.sizeOf0
  v0 := Try.zeroValue0
  t3 := Try.underlying3
  a3 := Try.isAgg3
  z3 := Try.sizeOf3
  v3 := Try.zeroValue3
  t4 := Try.underlying4
  a4 := Try.isAgg4
  z4 := Try.sizeOf4
  v4 := Try.zeroValue4
  t22 := Try.underlying38
  a22 := Try.isAgg38
  z22 := Try.sizeOf38
  v22 := Try.zeroValue38
  i3 := by kernel_rfl }
open Go.RowKit Go.Lib Go.Sort in
open Go.RowKit Go.Lib Go.Sort in
theorem slices_Compact_int (blk off cap : Nat) (zs : List Int) (w : World) (hH : Holds (Value.int .i64) w blk off zs.toArray) (hsz : zs.length ≤ 9223372036854775807) (hcap : zs.length ≤ cap) :
    Calls Try.prog 42 #[.slice (some ⟨blk, off, none⟩) zs.length cap] w fun e w' => e = .returned (.slice (some ⟨blk, off, none⟩) (Lib.compact zs).length cap) ∧ ∃ q, w' = putRow (Value.int .i64) (Sort.ahead w q) blk off (Lib.compact zs ++ List.replicate (zs.length - (Lib.compact zs).length) 0).toArray := Any.slices_Compact_int zgd blk off cap zs w hH hsz hcap
open Go.RowKit Go.Lib Go.Sort in
theorem slices_Compact_int_empty (a : Option Addr) (cap : Nat) (w : World) :
    Calls Try.prog 42 #[.slice a 0 cap] w fun e w' => e = .returned (.slice a 0 cap) ∧ w' = w := Any.slices_Compact_int_empty zgd a cap w
open Go.RowKit Go.Sort in
theorem slices_Sort_int_none (p : Option Addr) (cap : Nat) (w : World) :
    Calls Try.prog 41 #[.slice p 0 cap] w fun e w' => e = .returned (.tuple #[]) ∧ w' = w := Any.slices_Sort_int_none zg9 p cap w
end Go.Proofs.Ytnhdlloidbomdaa
namespace Go.Proofs.Ytnhdlloidbomdaa
open Go.RowKit Go.Sort
section
variable {P : Program} {n : Nat} {B D : World} {M S0 : Nat → Prop} {fs : SFs} {hs : HS} {o : Oper} {v : Value}
end
def ins (x : Int) : List Int → List Int
  | [] => [x]
  | y :: r => bif decide (x ≤ y) then x :: y :: r else y :: ins x r
def isort (l : List Int) : List Int := l.foldr ins []
theorem zfA (x : Int) : ∀ l, (ins x l).Perm (x :: l)
  | [] => .refl _
  | y :: r => by
    unfold ins
    cases decide (x ≤ y)
    · exact ((zfA x r).cons y).trans (.swap ..)
    · exact .refl _
theorem zdV : ∀ l, (isort l).Perm l
  | [] => .refl _
  | x :: l => (zfA x _).trans ((zdV l).cons x)
theorem zfo (x : Int) : ∀ l : List Int, l.Pairwise (· ≤ ·) → (ins x l).Pairwise (· ≤ ·)
  | [], _ => by simp [ins]
  | y :: r, h => by
    have h2 := List.pairwise_cons.1 h; unfold ins; by_cases hxy : x ≤ y
    · rw [decide_eq_true hxy]; refine List.pairwise_cons.2 ⟨fun z hz => ?_, h⟩; rcases List.mem_cons.1 hz with rfl | hz
      · exact hxy
      · exact Int.le_trans hxy (h2.1 z hz)
    · rw [decide_eq_false hxy]; refine List.pairwise_cons.2 ⟨fun z hz => ?_, zfo x r h2.2⟩; rcases List.mem_cons.1 ((zfA x r).mem_iff.1 hz) with rfl | hz
      · omega
      · exact h2.1 z hz
theorem zdC : ∀ l, (isort l).Pairwise (· ≤ ·)
  | [] => .nil
  | x :: l => zfo x _ (zdC l)
theorem ze7 : ∀ {a b : List Int}, a.Perm b → a.Pairwise (· ≤ ·) → b.Pairwise (· ≤ ·) → a = b
  | [], b, h, _, _ => (List.Perm.nil_eq h)
  | x :: a, [], h, _, _ => by cases h.symm.nil_eq
  | x :: a, y :: b, h, ha, hb => by
    have h1 := List.pairwise_cons.1 ha; have h2 := List.pairwise_cons.1 hb; have hx : x ∈ y :: b := h.mem_iff.1 (List.mem_cons_self ..); have hy : y ∈ x :: a := h.mem_iff.2 (List.mem_cons_self ..)
    have e : x = y := by
      rcases List.mem_cons.1 hx with e | hx
      · exact e
      · rcases List.mem_cons.1 hy with e | hy
        · exact e.symm
        · have := h1.1 y hy; have := h2.1 x hx; omega
    subst e; rw [ze7 (List.perm_cons x |>.1 h) h1.2 h2.2]
theorem ze0 (l : List Int) : (l.mergeSort fun x y => decide (x ≤ y)) = isort l :=
  ze7 ((List.mergeSort_perm l _).trans (zdV l).symm)
    ((List.pairwise_mergeSort (le := fun x y : Int => decide (x ≤ y)) (fun a b c h1 h2 => decide_eq_true (Int.le_trans (of_decide_eq_true h1) (of_decide_eq_true h2))) (fun a b => by
      rcases Int.le_total a b with h | h
      · simp [h]
      · simp [h]) l).imp fun h => of_decide_eq_true h) (zdC l)
theorem ze5 (l : List Int) : l.flatMap eI = l.map (Value.int .i64) := by
  induction l with
  | nil => rfl
  | cons x l ih => rw [List.flatMap_cons, ih]; rfl
theorem FxM.one {F0 : Frz} {w w' : World} {E E' : Ent} (hF0 : F0.At w) (hO : Hp w (fps [E]) [E] w) (hA : ∀ g, fps [E] g → ¬ F0.S g) (ho : Only E.fp w w') (hok : E'.ok w') (hfp : ∀ g, E'.fp g → E.fp g ∨ w.heap.size ≤ g) : FxM F0 w (fps [E]) F0 [E'] w' := by
  obtain ⟨S0, G, rfl, hS, h⟩ := zbj hF0 hO hA; refine FxM.of (es := [E']) (Hp.go (es := [E]) (es' := [E']) (hs := [.fr G]) h ho (fun g _ hg => ⟨E, by simp, hg⟩) (fun e he => ?_) (fun e he g hg => ?_) (List.pairwise_singleton _ _)) hS (Frz.Le.refl _)
  · obtain rfl := List.mem_singleton.1 he; exact hok
  · obtain rfl := List.mem_singleton.1 he; exact (hfp g hg).imp (fun h => ⟨E, by simp, h⟩) id
def zgk (l : List Int) : Option (List Int) := grd (l.length < 4611686018427387904) <| some (isort l)
theorem Only.of_grownBy {w w' : World} {v : Value} {e : TypeId} {size k : Nat} {l : List Value} {g : Nat} (h : w.grownBy w' (some g)) (hv : v.ownBlock = some g) : Only (Ent.sl v e size k l).fp w w' :=
  ⟨h.os, h.tape, h.output, h.size, fun k hk hn => h.block k hk fun e => hn (Ent.sl_fp.2 (by rw [hv, e]))⟩
theorem zi1 (F0 : Frz) (w : World) (hF0 : F0.At w) (l0_ : List Int) (v0_ : Value) (hO : Hp w (fps [.sl v0_ 3 1 l0_.length (l0_.flatMap eI)]) [.sl v0_ 3 1 l0_.length (l0_.flatMap eI)] w) (hA : ∀ g, fps [.sl v0_ 3 1 l0_.length (l0_.flatMap eI)] g → ¬ F0.S g) (r : List Int) (hr : zgk l0_ = some r) :
    Calls Try.prog 41 #[v0_] w fun e w' => ∃ (y : Unit), (True) ∧ e = .returned (.tuple #[]) ∧ FxM F0 w (fps [.sl v0_ 3 1 l0_.length (l0_.flatMap eI)]) F0 [.sl v0_ 3 1 r.length (r.flatMap eI)] w' := by
  obtain ⟨hsz, hr⟩ := zap hr; obtain rfl := Option.some.inj hr; have hk := hO.own _ (List.mem_cons_self ..); have ho := Ent.sl_ok.1 hk; have hl : (isort l0_).length = l0_.length := (zdV l0_).length_eq; rcases ho.2 with ⟨rfl, h0⟩ | ⟨g, cap, cur, rfl, hb, hg, h1, h2, h3, h4⟩
  · obtain rfl := List.eq_nil_of_length_eq_zero h0; refine (slices_Sort_int_none none 0 w).mono ?_; rintro e w' ⟨rfl, rfl⟩; exact ⟨⟨⟩, trivial, rfl, FxM.one hF0 hO hA (Only.refl _ _) hk fun g h => .inl h⟩
  · rw [Nat.mul_one] at h3 h4; rw [ze5] at h4; refine (slices_Sort_int g 0 cap l0_ w (holds_of_blockI hg h4) (Array.getElem?_eq_some_iff.1 hg).1 hsz).mono ?_; rintro e w' ⟨rfl, n, os, rfl⟩; rw [ze0]; refine ⟨⟨⟩, trivial, rfl, FxM.one hF0 hO hA (Only.of_grownBy (grownBy_sortedI _) rfl) (Ent.sl_ok.2 ?_) fun k h => .inl (Ent.sl_fp.2 (show some g = some k from Ent.sl_fp.1 h))⟩; rw [ze5, hl]; exact ownsRow_sortedI hl (Nat.zero_le _) hg h1 h2 (by omega)
def zfx (l : List Int) : List Int := Lib.compact l
theorem zgZ (l : List Int) : (Lib.compact l).length ≤ l.length := by
  unfold Lib.compact Lib.compactUpTo; simpa using List.length_filter_le (Lib.keeps l.toArray) (List.range l.length)
theorem ziY (F0 : Frz) (w : World) (hF0 : F0.At w) (l0_ : List Int) (v0_ : Value) (hO : Hp w (fps [.sl v0_ 3 1 l0_.length (l0_.flatMap eI)]) [.sl v0_ 3 1 l0_.length (l0_.flatMap eI)] w) (hA : ∀ g, fps [.sl v0_ 3 1 l0_.length (l0_.flatMap eI)] g → ¬ F0.S g) :
    Calls Try.prog 42 #[v0_] w fun e w' => ∃ (y : Value), (True) ∧ e = .returned y ∧ FxM F0 w (fps [.sl v0_ 3 1 l0_.length (l0_.flatMap eI)]) F0 [.sl y 3 1 (zfx l0_).length ((zfx l0_).flatMap eI)] w' := by
  have hk := hO.own _ (List.mem_cons_self ..); have ho := Ent.sl_ok.1 hk; rcases ho.2 with ⟨rfl, h0⟩ | ⟨g, cap, cur, rfl, hb, hg, h1, h2, h3, h4⟩
  · obtain rfl := List.eq_nil_of_length_eq_zero h0; refine (slices_Compact_int_empty none 0 w).mono ?_; rintro e w' ⟨rfl, rfl⟩; exact ⟨_, trivial, rfl, FxM.one hF0 hO hA (Only.refl _ _) hk fun g h => .inl h⟩
  · rw [Nat.mul_one] at h3 h4; rw [ze5] at h4; refine (slices_Compact_int g 0 cap l0_ w (holds_of_blockI hg h4) (by unfold maxLen at h2; omega) h1).mono ?_; rintro e w' ⟨rfl, q, rfl⟩; rw [← Sort.grow_empty (putRow _ _ _ _ _)]; have hc := zgZ l0_; refine ⟨_, trivial, rfl, FxM.one hF0 hO hA (Only.of_grownBy (grownBy_sortedI _) rfl) (Ent.sl_ok.2 ⟨?_, .inr ⟨g, cap, _, rfl, Nat.zero_le _, heap_sortedI _ hg, by unfold zfx; omega, h2, ?_, ?_⟩⟩) fun k h => .inl (Ent.sl_fp.2 (show some g = some k from Ent.sl_fp.1 h))⟩
    · rw [ze5, List.length_map, Nat.mul_one]
    · simp [putCells, h3]
    · have ht := take_putCellsI cur (Lib.compact l0_ ++ List.replicate (l0_.length - (Lib.compact l0_).length) 0) (by simp; omega); rw [ze5, Nat.mul_one]; have h5 := congrArg (List.take (Lib.compact l0_).length) ht; rw [List.take_take, List.map_append, List.take_left' (by rw [List.length_map]), Nat.min_eq_left (by simp)] at h5; exact h5
end Go.Proofs.Ytnhdlloidbomdaa
