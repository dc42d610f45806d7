/- Yo Yb Yc Si: shortened and put together by squeeze.py. -/
import Derived.Test.YtipomhejoajjdaaGreatQ02
set_option maxRecDepth 100000
set_option maxHeartbeats 4000000
set_option linter.unusedVariables false
set_option linter.unusedSectionVars false
set_option linter.unusedSimpArgs false
namespace Go.Proofs.YtipomhejoajjdaaGreat
open Go.RowKit
structure GSet where
  words : Vec 8 (BitVec 64)
deriving DecidableEq, Inhabited
abbrev GSet.enc (x : GSet) : List Value := (x.words.1.map U)
theorem GSet.len (x : GSet) : (GSet.enc x).length = 8 := Vec.len
def zbG (i : Int) : Bool :=
  ((decide (0 ≤ i)) && (decide (i < 512)))
theorem zdF (F0 : Frz) (w : World) (hF0 : F0.At w) (i : Int) : Calls Tryz.prog 113 #[.int .i64 i] w fun e w' => e = .returned (.bool (zbG i)) ∧ Below w.heap.size w w' := by
  obtain ⟨r, hk⟩ : ∃ r, zbG i = r := ⟨_, rfl⟩; rw [hk]; unfold zbG at hk; obtain ⟨S0, F1, rfl, hS0, hp0⟩ := zap hF0; refine zao Tryz.func113 rfl rfl rfl hp0 ?_; refine T.sr ?_; refine TL.run 1 rfl ?_; refine TL.ns (T.seq ?_); refine T.ah (ι := Unit) (fun z => [(2, .bool ((decide (0 ≤ i)) && (decide (i < 512))))]) (fun z => [.fr F1]) (fun z => True) ?_ ?_
  · refine T.region ?_; refine TL.run 3 rfl ?_; refine TL.gs rfl rfl rfl (fun h1 => ?_) (fun h1 => ?_)
    · have p1 := of_decide_eq_true h1; refine TL.run 4 rfl ?_; refine TL.nil ?_; exact K.ai () trivial (.b (zdw h1) .nil) (List.Sublist.refl _)
    · have p1 := of_decide_eq_false h1; refine TL.run 4 rfl ?_; refine TL.nil ?_; exact K.ai () trivial (.b (zaC h1).symm .nil) (List.Sublist.refl _)
  · rintro _ _; refine T.ret ?_; subst hk; exact K.aj rfl rfl (fun w' hw => ⟨rfl, hw.isBelow⟩)
def zcx (l : List Int) : Option (GSet × Int) :=
  zaW (fun (s3 : Vec 8 (BitVec 64) × Vec 8 (BitVec 64)) =>
    some ((GSet.mk s3.2), 0))
  (fun k3 =>
    zal (fun (i_7 : Nat) (next6 : (Vec 8 (BitVec 64) × Vec 8 (BitVec 64)) → Option (GSet × Int)) (s6 : Vec 8 (BitVec 64) × Vec 8 (BitVec 64)) =>
      (bif !(zbG (nth l i_7)) then
        some ((GSet.mk (Vec.fill 8 (0#64))), 2)
        else
        grd (0 ≤ (nth l i_7) ∧ (nth l i_7) ≤ 9223372036854775807 ∧ 1 ≤ (64 : Int)) <|
        grd (0 ≤ ((nth l i_7) / 64) ∧ ((nth l i_7) / 64) < (8 : Int)) <|
        grd (0 ≤ (nth l i_7) ∧ 1 ≤ (64 : Int)) <|
        grd (0 ≤ ((nth l i_7) % 64) ∧ ((nth l i_7) % 64) < (64 : Int)) <|
        next6 (s6.1, (Vec.put s6.2 (((nth l i_7) / 64).toNat) ((Vec.get s6.2 (((nth l i_7) / 64).toNat)) ||| ((1#64) <<< (((nth l i_7) % 64).toNat)))))))
    (fun (s6 : Vec 8 (BitVec 64) × Vec 8 (BitVec 64)) =>
      k3 (s6.1, s6.2)) (l.length - 0) 0 ((Vec.fill 8 (0#64)), (Vec.fill 8 (0#64))))
theorem zeh (F0 : Frz) (w : World) (hF0 : F0.At w) (l : List Int) (vl : Value) (hl : SlC F0 vl 1 (l.map eI)) (r : GSet × Int) (hr : zcx l = some r) : Calls Tryz.prog 46 #[vl] w fun e w' => e = .returned (.tuple #[.agg (r.1.words.1.map U).toArray, .int .i64 r.2]) ∧ Below w.heap.size w w' := by
  have hk := hr; unfold zcx at hk; haveI := hl.oneC; obtain ⟨S0, F1, rfl, hS0, hp0⟩ := zap hF0; refine zao Tryz.func46 rfl rfl rfl hp0 ?_; refine T.sr ?_; refine TL.e (Ew.aC (l := ((Vec.fill 8 (0#64)).1.map U)) rfl (by kernel_rfl)) ?_; rintro _ _ ⟨g2, rfl, rfl⟩; refine TL.run 1 rfl ?_; refine TL.nx ?_; refine TL.e (Ew.aC (l := ((Vec.fill 8 (0#64)).1.map U)) rfl (by kernel_rfl)) ?_; rintro _ _ ⟨g4, rfl, rfl⟩; refine TL.ns (T.seq (T.sr ?_)); refine TL.run 1 rfl ?_; refine TL.y (Yv.am rfl rfl hl (List.length_map _)) ?_; have hm8 : l.length ≤ 9223372036854775807 := (List.length_map _) ▸ hl.max; refine TL.run 1 rfl ?_; refine TL.ns ?_; have hq := zag hk; clear hk; obtain ⟨k3, hk3, hk⟩ := hq; (try dsimp only at hk); refine T.ah (ι := Vec 8 (BitVec 64) × Vec 8 (BitVec 64)) (fun z => [(2, .pointer (some ⟨g2, 0, none⟩)), (4, .pointer (some ⟨g4, 0, none⟩))]) (fun z => [.row g2 91 (z.1.1.map U), .row g4 91 (z.2.1.map U), .fr F1]) (fun z => k3 (z.1, z.2) = some r) ?_ ?_
  · have hq := zaq hk; clear hk; obtain ⟨f6, kk6, hf6, hkk6, hk⟩ := hq; refine T.block ?_; refine T.pick [1, 0, 2] rfl (by decide) ?_; refine T.loop (ι := Nat × Vec 8 (BitVec 64) × Vec 8 (BitVec 64)) (fun z => [(2, .pointer (some ⟨g2, 0, none⟩)), (4, .pointer (some ⟨g4, 0, none⟩)), (7, vl), (8, .int .i64 (l.length : Int)), (9, .int .i64 (z.1 : Int))]) (fun z => [.row g2 91 (z.2.1.1.map U), .row g4 91 (z.2.2.1.map U), .fr F1]) (fun z => zal f6 kk6 (l.length - z.1) z.1 (z.2.1, z.2.2) = some r) (fun z => l.length - z.1) (0, (Vec.fill 8 (0#64)), (Vec.fill 8 (0#64))) ?_ ?_ ?_ ?_
    · exact hk
    · exact (.c (.c (.c (.c (.c .nil)))))
    · exact List.Sublist.refl _
    · rintro ⟨i_7, c_4, c_5⟩ hk; (try dsimp only at *); refine T.sr ?_; refine TL.run 1 rfl ?_; refine TL.ns (T.seq ?_); refine T.cond rfl (fun h8 => ?_) (fun h8 => ?_)
      · have p8 := of_decide_eq_true h8; rw [zaD (by omega)] at hk; generalize hn6 : zal f6 kk6 (l.length - (i_7 + 1)) (i_7 + 1) = next6 at hk; rw [← hf6] at hk; (try dsimp only at hk); refine T.skip (K.seq (T.seq (T.block (T.sr ?_)))); refine TL.y (Yv.ar (i := i_7) rfl rfl rfl hl (List.length_map _) rfl (by omega)) ?_; refine TL.y (Yv.aA 2 (i := i_7) (j := 0) rfl rfl rfl hl (by omega) rfl rfl) ?_; refine TL.run 1 rfl ?_; refine TL.ns (T.seq (T.sr ?_)); refine TL.run 1 rfl ?_; refine TL.e (Ew.af rfl rfl rfl (fun w hw => zdF _ w (hw.fr (i := 2) rfl) (nth l i_7))) ?_; rintro _ _ ⟨rfl, rfl⟩; refine TL.run 1 rfl ?_; refine TL.ns ?_; refine T.cond rfl (fun h9 => ?_) (fun h9 => ?_)
        · replace hk := zaa hk h9; refine T.sr ?_; refine TL.y ((Yv.build rfl rfl).eq (v := .agg ((Vec.fill 8 (0#64)).1.map U).toArray) (by kernel_rfl)) ?_; refine TL.e0 (Ew.ae 0 rfl rfl rfl rfl Vec.len (Vec.len.trans Vec.len.symm)) ?_; rintro _ _ ⟨rfl, rfl⟩; refine TL.run 1 rfl ?_; refine TL.ns (T.ret (K.then_ret (K.ag (K.then_ret (K.then_ret (K.ag (K.then_ret ?_))))))); obtain rfl := Option.some.inj hk; exact K.aG 0 rfl rfl rfl rfl Vec.len (fun w' hw => ⟨rfl, hw.isBelow⟩)
        · replace hk := zab hk h9; refine T.skip (K.seq ?_); have hq : (0 ≤ (nth l i_7) ∧ (nth l i_7) ≤ 9223372036854775807 ∧ 1 ≤ (64 : Int)) ∧ _ := zaB hk; clear hk; obtain ⟨g18, hk⟩ := hq; have hq : (0 ≤ ((nth l i_7) / 64) ∧ ((nth l i_7) / 64) < (8 : Int)) ∧ _ := zaB hk; clear hk; obtain ⟨g20, hk⟩ := hq; have hq : (0 ≤ (nth l i_7) ∧ 1 ≤ (64 : Int)) ∧ _ := zaB hk; clear hk; obtain ⟨g23, hk⟩ := hq; have hq : (0 ≤ ((nth l i_7) % 64) ∧ ((nth l i_7) % 64) < (64 : Int)) ∧ _ := zaB hk; clear hk; obtain ⟨g24, hk⟩ := hq; (try dsimp only at hk); refine T.ay (.still 0 (.still 1 (.still 2 (.still 3 (.still 5 (.still 6 (.still 7 (.still 9 (.eff 4 (.still 8 (.still 10 (.eff 11 .done)))))))))))) [.row g2 91 (c_4.1.map U), .fr F1] (by kernel_rfl) Sx ?_; refine TS.run 1 rfl ?_; refine TS.y rfl (Yv.bD rfl rfl rfl g18) ?_; refine TS.y rfl (Yv.fieldAddr rfl rfl) ?_; refine TS.y rfl (Yv.ax (i := ((nth l i_7) / 64).toNat) rfl rfl rfl (by omega) (by omega)) ?_; refine TS.run 1 rfl ?_; refine TS.y rfl (Yv.bE rfl rfl rfl g23) ?_; refine TS.y rfl (Yv.be (a := 1#64) (((nth l i_7) % 64).toNat) rfl rfl rfl (by omega) (by omega)) ?_; refine TS.y rfl (Yv.fieldAddr rfl rfl) ?_; refine TS.eff ?_; refine TSo.aV rfl (Wt.none rfl) rfl rfl (Yv.aa 1 rfl rfl rfl (zdG (by omega) (Vec.cell (i := ((nth l i_7) / 64).toNat) (by omega)))) (fun w hw => hw.sub Sx) ?_; refine TS.y rfl (Yv.bQ (a := (Vec.get c_5 (((nth l i_7) / 64).toNat))) (b := ((1#64) <<< (((nth l i_7) % 64).toNat))) rfl rfl rfl) ?_; refine TS.y rfl (Yv.ax (i := ((nth l i_7) / 64).toNat) rfl rfl rfl (by omega) (by omega)) ?_; refine TS.eff ?_; refine TSo.aO rfl (Wt.none rfl) rfl (Ew.aU 1 ((Vec.put c_5 (((nth l i_7) / 64).toNat) ((Vec.get c_5 (((nth l i_7) / 64).toNat)) ||| ((1#64) <<< (((nth l i_7) % 64).toNat)))).1.map U) rfl rfl rfl rfl (by rw [Vec.len]; first | omega | (simp only [List.length_cons, List.length_nil]; omega)) (ziW (by omega) (Vec.upd (x := c_5) (f := U) (i := ((nth l i_7) / 64).toNat) (v := ((Vec.get c_5 (((nth l i_7) / 64).toNat)) ||| ((1#64) <<< (((nth l i_7) % 64).toNat)))) (by omega)))) ?_; rintro _ _ ⟨rfl, rfl⟩; refine ⟨(fun w hw => hw.sub Sx), ?_⟩; refine TS.done ?_; refine K.ac (K.seq (T.region ?_)); refine TL.y (Yv.aq rfl rfl rfl (by omega)) ?_; refine TL.run 1 rfl ?_; refine TL.nil ?_; rw [← hn6] at hk; exact K.next ((i_7 + 1), c_4, (Vec.put c_5 (((nth l i_7) / 64).toNat) ((Vec.get c_5 (((nth l i_7) / 64).toNat)) ||| ((1#64) <<< (((nth l i_7) % 64).toNat))))) hk (by dsimp only; omega) (.c (.c (.c (.c (.c .nil))))) (List.Sublist.refl _)
      · have p8 := of_decide_eq_false h8; rw [zaE (by omega), ← hkk6] at hk; (try dsimp only at hk); refine T.exit (K.ab (K.ab (K.ad ?_))); exact K.ai (c_4, c_5) hk (.c (.c .nil)) (List.Sublist.refl _)
  · rintro ⟨c_1, c_2⟩ hk; (try dsimp only at *); rw [← hk3] at hk; (try dsimp only at hk); refine T.sr ?_; refine TL.y (Yv.ak 1 rfl rfl rfl Vec.len) ?_; refine TL.e0 (Ew.ae 0 rfl rfl rfl rfl Vec.len (Vec.len.trans Vec.len.symm)) ?_; rintro _ _ ⟨rfl, rfl⟩; refine TL.run 1 rfl ?_; refine TL.ns (T.ret ?_); obtain rfl := Option.some.inj hk; exact K.aG 0 rfl rfl rfl rfl Vec.len (fun w' hw => ⟨rfl, hw.isBelow⟩)
def zay (s : GSet) (o : GSet) : Bool :=
  zaW (fun (_ : Unit) =>
    true)
  (fun k1 =>
    zal (fun (i_3 : Nat) (next2 : Unit → Bool) (_ : Unit) =>
      (bif decide (¬ (((Vec.get s.words i_3) &&& ~~~(Vec.get o.words i_3)).toNat : Int) = ((0#64).toNat : Int)) then
        false
        else
        next2 ()))
    (fun (_ : Unit) =>
      k1 ()) (8 - 0) 0 ())
theorem zc3 (F0 : Frz) (w : World) (hF0 : F0.At w) (s : GSet) (o : GSet) : Calls Tryz.prog 47 #[.agg (s.words.1.map U).toArray, .agg (o.words.1.map U).toArray] w fun e w' => e = .returned (.bool (zay s o)) ∧ Below w.heap.size w w' := by
  obtain ⟨r, hk⟩ : ∃ r, zay s o = r := ⟨_, rfl⟩; rw [hk]; unfold zay at hk; obtain ⟨S0, F1, rfl, hS0, hp0⟩ := zap hF0; refine zao Tryz.func47 rfl rfl rfl hp0 ?_; refine T.sr ?_; refine TL.e (Ew.au rfl rfl) ?_; rintro _ _ ⟨g2, rfl, rfl⟩; refine TL.e (Ew.au rfl rfl) ?_; rintro _ _ ⟨g3, rfl, rfl⟩; refine TL.run 1 rfl ?_; refine TL.ns (T.seq (T.sr ?_)); refine TL.y (Yv.fieldAddr rfl rfl) ?_; refine TL.y (Yv.ak 1 rfl rfl rfl Vec.len) ?_; refine TL.run 1 rfl ?_; refine TL.ns ?_; have hq := zag hk; clear hk; obtain ⟨k1, hk1, hk⟩ := hq; (try dsimp only at hk); refine T.ah (ι := Unit) (fun z => []) (fun z => [.fr F1]) (fun z => k1 () = r) ?_ ?_
  · have hq := zaq hk; clear hk; obtain ⟨f2, kk2, hf2, hkk2, hk⟩ := hq; refine T.block ?_; refine T.pick [0, 2] rfl (by decide) ?_; refine T.loop (ι := Nat) (fun z => [(3, .pointer (some ⟨g3, 0, none⟩)), (8, .agg (s.words.1.map U).toArray), (9, .int .i64 (z : Int))]) (fun z => [.row g3 91 (o.words.1.map U), .fr F1]) (fun z => zal f2 kk2 (8 - z) z () = r) (fun z => 8 - z) 0 ?_ ?_ ?_ ?_
    · exact hk
    · exact (.c (.c (.c .nil)))
    · exact List.Sublist.refl _
    · rintro i_3 hk; refine T.sr ?_; refine TL.run 1 rfl ?_; refine TL.ns (T.seq ?_); refine T.cond rfl (fun h4 => ?_) (fun h4 => ?_)
      · have p4 := of_decide_eq_true h4; rw [zaD (by omega)] at hk; generalize hn2 : zal f2 kk2 (8 - (i_3 + 1)) (i_3 + 1) = next2 at hk; rw [← hf2] at hk; (try dsimp only at hk); refine T.skip (K.seq (T.seq (T.block (T.sr ?_)))); refine TL.run 1 rfl ?_; refine TL.y (Yv.bz (i := i_3) rfl rfl rfl rfl (by omega) (Vec.cell (by omega))) ?_; refine TL.run 2 rfl ?_; refine TL.nx ?_; refine TL.run 2 rfl ?_; refine TL.y (Yv.fieldAddr rfl rfl) ?_; refine TL.y (Yv.ax (i := i_3) rfl rfl rfl rfl (by omega)) ?_; refine TL.y (Yv.aa 0 rfl rfl rfl (zdG (by omega) (Vec.cell (i := i_3) (by omega)))) ?_; refine TL.y (Yv.bo rfl rfl rfl) ?_; refine TL.run 1 rfl ?_; refine TL.ns ?_; refine T.cond rfl (fun h5 => ?_) (fun h5 => ?_)
        · replace hk := zaa hk h5; refine T.sr ?_; refine TL.run 1 rfl ?_; refine TL.ns (T.ret (K.ag (K.then_ret (K.then_ret (K.ag (K.then_ret ?_)))))); subst hk; exact K.aj rfl rfl (fun w' hw => ⟨rfl, hw.isBelow⟩)
        · replace hk := zab hk h5; refine T.skip (K.ac (K.seq (T.region ?_))); refine TL.y (Yv.aq rfl rfl rfl (by omega)) ?_; refine TL.run 1 rfl ?_; refine TL.nil ?_; rw [← hn2] at hk; exact K.next (i_3 + 1) hk (by omega) (.c (.c (.c .nil))) (List.Sublist.refl _)
      · have p4 := of_decide_eq_false h4; rw [zaE (by omega), ← hkk2] at hk; (try dsimp only at hk); refine T.exit (K.ab (K.ab (K.ad ?_))); refine K.pick [1] rfl (by decide) ?_; exact K.ai () hk .nil (List.Sublist.refl _)
  · rintro _ hk; rw [← hk1] at hk; (try dsimp only at hk); refine T.sr ?_; refine TL.run 1 rfl ?_; refine TL.ns (T.ret ?_); subst hk; exact K.aj rfl rfl (fun w' hw => ⟨rfl, hw.isBelow⟩)
def zaj (s : GSet) (i : Int) : Option Bool :=
  zaW (fun (x_1 : Bool) =>
    some x_1)
  (fun k2 =>
    (bif (zbG i) then
      grd (0 ≤ i ∧ i ≤ 9223372036854775807 ∧ 1 ≤ (64 : Int)) <|
      grd (0 ≤ (i / 64) ∧ (i / 64) < (8 : Int)) <|
      grd (0 ≤ i ∧ 1 ≤ (64 : Int)) <|
      grd (0 ≤ (i % 64) ∧ (i % 64) < (64 : Int)) <|
      k2 (decide (((((Vec.get s.words ((i / 64).toNat)) >>> ((i % 64).toNat)) &&& (1#64)).toNat : Int) = ((1#64).toNat : Int)))
      else
      k2 false))
theorem zar (F0 : Frz) (w : World) (hF0 : F0.At w) (s : GSet) (i : Int) (r : Bool) (hr : zaj s i = some r) : Calls Tryz.prog 49 #[.agg (s.words.1.map U).toArray, .int .i64 i] w fun e w' => e = .returned (.bool r) ∧ Below w.heap.size w w' := by
  have hk := hr; unfold zaj at hk; obtain ⟨S0, F1, rfl, hS0, hp0⟩ := zap hF0; refine zao Tryz.func49 rfl rfl rfl hp0 ?_; refine T.sr ?_; refine TL.e (Ew.au rfl rfl) ?_; rintro _ _ ⟨g2, rfl, rfl⟩; refine TL.run 1 rfl ?_; refine TL.ns (T.seq ?_); (try dsimp only at hk); have hq := zag hk; clear hk; obtain ⟨k2, hk2, hk⟩ := hq; (try dsimp only at hk); refine T.ah (ι := Bool) (fun z => [(4, .bool z)]) (fun z => [.fr F1]) (fun z => k2 z = some r) ?_ ?_
  · refine T.region ?_; refine TL.run 1 rfl ?_; refine TL.e (Ew.af rfl rfl rfl (fun w hw => zdF _ w (hw.fr (i := 1) rfl) i)) ?_; rintro _ _ ⟨rfl, rfl⟩; refine TL.run 1 rfl ?_; refine TL.gs rfl rfl rfl (fun h3 => ?_) (fun h3 => ?_)
    · replace hk := zaa hk h3; refine TL.run 1 rfl ?_; have hq : (0 ≤ i ∧ i ≤ 9223372036854775807 ∧ 1 ≤ (64 : Int)) ∧ _ := zaB hk; clear hk; obtain ⟨g9, hk⟩ := hq; refine TL.y (Yv.bD rfl rfl rfl g9) ?_; refine TL.y (Yv.fieldAddr rfl rfl) ?_; have hq : (0 ≤ (i / 64) ∧ (i / 64) < (8 : Int)) ∧ _ := zaB hk; clear hk; obtain ⟨g11, hk⟩ := hq; refine TL.y (Yv.ax (i := (i / 64).toNat) rfl rfl rfl (by omega) (by omega)) ?_; refine TL.y (Yv.aa 0 rfl rfl rfl (zdG (by omega) (Vec.cell (i := (i / 64).toNat) (by omega)))) ?_; refine TL.run 1 rfl ?_; have hq : (0 ≤ i ∧ 1 ≤ (64 : Int)) ∧ _ := zaB hk; clear hk; obtain ⟨g14, hk⟩ := hq; refine TL.y (Yv.bE rfl rfl rfl g14) ?_; have hq : (0 ≤ (i % 64) ∧ (i % 64) < (64 : Int)) ∧ _ := zaB hk; clear hk; obtain ⟨g15, hk⟩ := hq; refine TL.y (Yv.bp (a := (Vec.get s.words ((i / 64).toNat))) ((i % 64).toNat) rfl rfl rfl (by omega) (by omega)) ?_; refine TL.y (Yv.bF (a := ((Vec.get s.words ((i / 64).toNat)) >>> ((i % 64).toNat))) (b := 1#64) rfl rfl rfl) ?_; refine TL.run 3 rfl ?_; refine TL.nil ?_; refine K.pick [1] rfl (by decide) ?_; exact K.ai (decide (((((Vec.get s.words ((i / 64).toNat)) >>> ((i % 64).toNat)) &&& (1#64)).toNat : Int) = ((1#64).toNat : Int))) hk (.c .nil) (List.Sublist.refl _)
    · replace hk := zab hk h3; refine TL.run 12 rfl ?_; refine TL.nil ?_; refine K.pick [1] rfl (by decide) ?_; exact K.ai false hk (.c .nil) (List.Sublist.refl _)
  · rintro x_1 hk; rw [← hk2] at hk; (try dsimp only at hk); refine T.ret ?_; obtain rfl := Option.some.inj hk; exact K.aj rfl rfl (fun w' hw => ⟨rfl, hw.isBelow⟩)
def zbP (x_ : Int) : Bool :=
  (decide (¬ x_ = x_))
theorem zdI (F0 : Frz) (w : World) (hF0 : F0.At w) (x_ : Int) : Calls Tryz.prog 117 #[.int .i64 x_] w fun e w' => e = .returned (.bool (zbP x_)) ∧ Below w.heap.size w w' := by
  obtain ⟨r, hk⟩ : ∃ r, zbP x_ = r := ⟨_, rfl⟩; rw [hk]; unfold zbP at hk; obtain ⟨S0, F1, rfl, hS0, hp0⟩ := zap hF0; refine zao Tryz.func117 rfl rfl rfl hp0 ?_; refine T.sr ?_; refine TL.run 1 rfl ?_; refine TL.nx ?_; refine TL.run 4 rfl ?_; refine TL.ns (T.ret ?_); subst hk; exact K.aj rfl rfl (fun w' hw => ⟨rfl, hw.isBelow⟩)
def zac (x_ : Int) (y : Int) : Int :=
  (bif (zbP x_) then
    (bif (zbP y) then
      0
      else
      (-1))
    else
    (bif (zbP y) then
      1
      else
      (bif decide (x_ < y) then
        (-1)
        else
        (bif decide (y < x_) then
          1
          else
          0))))
theorem zaH (F0 : Frz) (w : World) (hF0 : F0.At w) (x_ : Int) (y : Int) : Calls Tryz.prog 75 #[.int .i64 x_, .int .i64 y] w fun e w' => e = .returned (.int .i64 (zac x_ y)) ∧ Below w.heap.size w w' := by
  obtain ⟨r, hk⟩ : ∃ r, zac x_ y = r := ⟨_, rfl⟩; rw [hk]; unfold zac at hk; obtain ⟨S0, F1, rfl, hS0, hp0⟩ := zap hF0; refine zao Tryz.func75 rfl rfl rfl hp0 ?_; refine T.sr ?_; refine TL.run 1 rfl ?_; refine TL.nx ?_; refine TL.run 1 rfl ?_; refine TL.e (Ew.af rfl rfl rfl (fun w hw => zdI _ w (hw.fr (i := 0) rfl) x_)) ?_; rintro _ _ ⟨rfl, rfl⟩; refine TL.run 1 rfl ?_; refine TL.nx ?_; refine TL.run 1 rfl ?_; refine TL.e (Ew.af rfl rfl rfl (fun w hw => zdI _ w (hw.fr (i := 0) rfl) y)) ?_; rintro _ _ ⟨rfl, rfl⟩; refine TL.run 1 rfl ?_; refine TL.ns (T.seq (T.sr ?_)); refine TL.run 1 rfl ?_; refine TL.ns ?_; refine T.cond rfl (fun h1 => ?_) (fun h1 => ?_)
  · replace hk := zaa hk h1; refine T.seq (T.sr ?_); refine TL.run 1 rfl ?_; refine TL.ns ?_; refine T.cond rfl (fun h2 => ?_) (fun h2 => ?_)
    · replace hk := zaa hk h2; refine T.sr ?_; refine TL.run 1 rfl ?_; refine TL.ns (T.ret (K.then_ret (K.then_ret ?_))); subst hk; exact K.aj rfl rfl (fun w' hw => ⟨rfl, hw.isBelow⟩)
    · replace hk := zab hk h2; refine T.skip (K.seq (T.sr ?_)); refine TL.run 1 rfl ?_; refine TL.ns (T.ret (K.then_ret ?_)); subst hk; exact K.aj rfl rfl (fun w' hw => ⟨rfl, hw.isBelow⟩)
  · replace hk := zab hk h1; refine T.skip (K.seq (T.seq (T.sr ?_))); refine TL.run 1 rfl ?_; refine TL.ns ?_; refine T.cond rfl (fun h3 => ?_) (fun h3 => ?_)
    · replace hk := zaa hk h3; refine T.sr ?_; refine TL.run 1 rfl ?_; refine TL.ns (T.ret (K.then_ret ?_)); subst hk; exact K.aj rfl rfl (fun w' hw => ⟨rfl, hw.isBelow⟩)
    · replace hk := zab hk h3; refine T.skip (K.seq (T.seq (T.sr ?_))); refine TL.run 3 rfl ?_; refine TL.ns ?_; refine T.cond rfl (fun h4 => ?_) (fun h4 => ?_)
      · have p4 := of_decide_eq_true h4; replace hk := zaa hk h4; refine T.sr ?_; refine TL.run 1 rfl ?_; refine TL.ns (T.ret (K.then_ret ?_)); subst hk; exact K.aj rfl rfl (fun w' hw => ⟨rfl, hw.isBelow⟩)
      · have p4 := of_decide_eq_false h4; replace hk := zab hk h4; refine T.skip (K.seq (T.seq (T.sr ?_))); refine TL.run 3 rfl ?_; refine TL.ns ?_; refine T.cond rfl (fun h5 => ?_) (fun h5 => ?_)
        · have p5 := of_decide_eq_true h5; replace hk := zaa hk h5; refine T.sr ?_; refine TL.run 1 rfl ?_; refine TL.ns (T.ret (K.then_ret ?_)); subst hk; exact K.aj rfl rfl (fun w' hw => ⟨rfl, hw.isBelow⟩)
        · have p5 := of_decide_eq_false h5; replace hk := zab hk h5; refine T.skip (K.seq (T.sr ?_)); refine TL.run 1 rfl ?_; refine TL.ns (T.ret ?_); subst hk; exact K.aj rfl rfl (fun w' hw => ⟨rfl, hw.isBelow⟩)
def zcA (vals : List Int) : Int :=
  zaW (fun (_ : Unit) =>
    0)
  (fun k1 =>
    zal (fun (i_3 : Nat) (next2 : Unit → Int) (_ : Unit) =>
      (bif decide (¬ (nth vals i_3) = 0) then
        (nth vals i_3)
        else
        next2 ()))
    (fun (_ : Unit) =>
      k1 ()) (vals.length - 0) 0 ())
theorem zdE (F0 : Frz) (w : World) (hF0 : F0.At w) (vals : List Int) (vvals : Value) (hvals : SlC F0 vvals 1 (vals.map eI)) : Calls Tryz.prog 115 #[vvals] w fun e w' => e = .returned (.int .i64 (zcA vals)) ∧ Below w.heap.size w w' := by
  obtain ⟨r, hk⟩ : ∃ r, zcA vals = r := ⟨_, rfl⟩; rw [hk]; unfold zcA at hk; haveI := hvals.oneC; obtain ⟨S0, F1, rfl, hS0, hp0⟩ := zap hF0; refine zao Tryz.func115 rfl rfl rfl hp0 ?_; refine T.sr ?_; refine TL.run 1 rfl ?_; refine TL.nx ?_; refine TL.run 1 rfl ?_; refine TL.ns (T.seq (T.sr ?_)); refine TL.run 1 rfl ?_; refine TL.y (Yv.am rfl rfl hvals (List.length_map _)) ?_; have hm7 : vals.length ≤ 9223372036854775807 := (List.length_map _) ▸ hvals.max; refine TL.run 1 rfl ?_; refine TL.ns ?_; have hq := zag hk; clear hk; obtain ⟨k1, hk1, hk⟩ := hq; (try dsimp only at hk); refine T.ah (ι := Unit) (fun z => [(3, .int .i64 0)]) (fun z => [.fr F1]) (fun z => k1 () = r) ?_ ?_
  · have hq := zaq hk; clear hk; obtain ⟨f2, kk2, hf2, hkk2, hk⟩ := hq; refine T.block ?_; refine T.loop (ι := Nat) (fun z => [(3, .int .i64 0), (6, vvals), (7, .int .i64 (vals.length : Int)), (8, .int .i64 (z : Int))]) (fun z => [.fr F1]) (fun z => zal f2 kk2 (vals.length - z) z () = r) (fun z => vals.length - z) 0 ?_ ?_ ?_ ?_
    · exact hk
    · exact (.c (.c (.c (.c .nil))))
    · exact List.Sublist.refl _
    · rintro i_3 hk; refine T.sr ?_; refine TL.run 1 rfl ?_; refine TL.ns (T.seq ?_); refine T.cond rfl (fun h4 => ?_) (fun h4 => ?_)
      · have p4 := of_decide_eq_true h4; rw [zaD (by omega)] at hk; generalize hn2 : zal f2 kk2 (vals.length - (i_3 + 1)) (i_3 + 1) = next2 at hk; rw [← hf2] at hk; (try dsimp only at hk); refine T.skip (K.seq (T.seq (T.block (T.sr ?_)))); refine TL.y (Yv.ar (i := i_3) rfl rfl rfl hvals (List.length_map _) rfl (by omega)) ?_; refine TL.y (Yv.aA 0 (i := i_3) (j := 0) rfl rfl rfl hvals (by omega) rfl rfl) ?_; refine TL.run 1 rfl ?_; refine TL.nx ?_; refine TL.run 3 rfl ?_; refine TL.ns ?_; refine T.cond rfl (fun h5 => ?_) (fun h5 => ?_)
        · have p5 := of_decide_eq_true h5; replace hk := zaa hk h5; refine T.sr ?_; refine TL.run 2 rfl ?_; refine TL.ns (T.ret (K.ag (K.then_ret (K.then_ret (K.ag (K.then_ret ?_)))))); subst hk; exact K.aj rfl rfl (fun w' hw => ⟨rfl, hw.isBelow⟩)
        · have p5 := of_decide_eq_false h5; replace hk := zab hk h5; refine T.skip (K.ac (K.seq (T.region ?_))); refine TL.y (Yv.aq rfl rfl rfl (by omega)) ?_; refine TL.run 1 rfl ?_; refine TL.nil ?_; rw [← hn2] at hk; exact K.next (i_3 + 1) hk (by omega) (.c (.c (.c (.c .nil)))) (List.Sublist.refl _)
      · have p4 := of_decide_eq_false h4; rw [zaE (by omega), ← hkk2] at hk; (try dsimp only at hk); refine T.exit (K.ab (K.ab (K.ad ?_))); exact K.ai () hk (.c .nil) (List.Sublist.refl _)
  · rintro _ hk; rw [← hk1] at hk; (try dsimp only at hk); refine T.sr ?_; refine TL.run 2 rfl ?_; refine TL.ns (T.ret ?_); subst hk; exact K.aj rfl rfl (fun w' hw => ⟨rfl, hw.isBelow⟩)
def zai (n : Int) (low : Int) (high : Int) : Bool :=
  ((decide (low ≤ n)) && (decide (n ≤ high)))
theorem zbx (F0 : Frz) (w : World) (hF0 : F0.At w) (n : Int) (low : Int) (high : Int) : Calls Tryz.prog 54 #[.int .i64 n, .int .i64 low, .int .i64 high] w fun e w' => e = .returned (.bool (zai n low high)) ∧ Below w.heap.size w w' := by
  obtain ⟨r, hk⟩ : ∃ r, zai n low high = r := ⟨_, rfl⟩; rw [hk]; unfold zai at hk; obtain ⟨S0, F1, rfl, hS0, hp0⟩ := zap hF0; refine zao Tryz.func54 rfl rfl rfl hp0 ?_; refine T.sr ?_; refine TL.run 1 rfl ?_; refine TL.ns (T.seq ?_); refine T.ah (ι := Unit) (fun z => [(6, .bool ((decide (low ≤ n)) && (decide (n ≤ high))))]) (fun z => [.fr F1]) (fun z => True) ?_ ?_
  · refine T.region ?_; refine TL.run 4 rfl ?_; refine TL.gs rfl rfl rfl (fun h1 => ?_) (fun h1 => ?_)
    · have p1 := of_decide_eq_true h1; refine TL.run 5 rfl ?_; refine TL.nil ?_; exact K.ai () trivial (.b (zdw h1) .nil) (List.Sublist.refl _)
    · have p1 := of_decide_eq_false h1; refine TL.run 5 rfl ?_; refine TL.nil ?_; exact K.ai () trivial (.b (zaC h1).symm .nil) (List.Sublist.refl _)
  · rintro _ _; refine T.ret ?_; subst hk; exact K.aj rfl rfl (fun w' hw => ⟨rfl, hw.isBelow⟩)
def zah (n : Int) : Bool :=
  (zai n 0 511)
theorem zbu (F0 : Frz) (w : World) (hF0 : F0.At w) (n : Int) : Calls Tryz.prog 53 #[.int .i64 n] w fun e w' => e = .returned (.bool (zah n)) ∧ Below w.heap.size w w' := by
  obtain ⟨r, hk⟩ : ∃ r, zah n = r := ⟨_, rfl⟩; rw [hk]; unfold zah at hk; obtain ⟨S0, F1, rfl, hS0, hp0⟩ := zap hF0; refine zao Tryz.func53 rfl rfl rfl hp0 ?_; refine T.sr ?_; refine TL.run 1 rfl ?_; refine TL.nx ?_; refine TL.run 1 rfl ?_; refine TL.e (Ew.af rfl rfl rfl (fun w hw => zbx _ w (hw.fr (i := 0) rfl) n 0 511)) ?_; rintro _ _ ⟨rfl, rfl⟩; refine TL.run 1 rfl ?_; refine TL.ns (T.ret ?_); subst hk; exact K.aj rfl rfl (fun w' hw => ⟨rfl, hw.isBelow⟩)
def zax (l : List GChoice) : Bool :=
  zaW (fun (_ : Unit) =>
    true)
  (fun k1 =>
    zal (fun (i_3 : Nat) (next2 : Unit → Bool) (_ : Unit) =>
      (bif ((!(zah ((nth l i_3).Station))) || (!(zai ((nth l i_3).Channel) 2 51))) then
        false
        else
        (bif ((decide (0 < (i_3 : Int))) && (decide ((nth l i_3).Station ≤ (nth l (((i_3 : Int) - 1).toNat)).Station))) then
          false
          else
          next2 ())))
    (fun (_ : Unit) =>
      k1 ()) (l.length - 0) 0 ())
theorem zcX (F0 : Frz) (w : World) (hF0 : F0.At w) (l : List GChoice) (vl : Value) (hl : SlC F0 vl 2 (l.map GChoice.enc)) : Calls Tryz.prog 24 #[vl] w fun e w' => e = .returned (.bool (zax l)) ∧ Below w.heap.size w w' := by
  obtain ⟨r, hk⟩ : ∃ r, zax l = r := ⟨_, rfl⟩; rw [hk]; unfold zax at hk; haveI := hl.oneC; obtain ⟨S0, F1, rfl, hS0, hp0⟩ := zap hF0; refine zao Tryz.func24 rfl rfl rfl hp0 ?_; refine T.sr ?_; refine TL.run 1 rfl ?_; refine TL.ns (T.seq (T.sr ?_)); refine TL.run 1 rfl ?_; refine TL.y (Yv.am rfl rfl hl (List.length_map _)) ?_; have hm6 : l.length ≤ 9223372036854775807 := (List.length_map _) ▸ hl.max; refine TL.run 1 rfl ?_; refine TL.ns ?_; have hq := zag hk; clear hk; obtain ⟨k1, hk1, hk⟩ := hq; (try dsimp only at hk); refine T.ah (ι := Unit) (fun z => []) (fun z => [.fr F1]) (fun z => k1 () = r) ?_ ?_
  · have hq := zaq hk; clear hk; obtain ⟨f2, kk2, hf2, hkk2, hk⟩ := hq; refine T.block ?_; refine T.loop (ι := Nat) (fun z => [(0, vl), (5, vl), (6, .int .i64 (l.length : Int)), (7, .int .i64 (z : Int))]) (fun z => [.fr F1]) (fun z => zal f2 kk2 (l.length - z) z () = r) (fun z => l.length - z) 0 ?_ ?_ ?_ ?_
    · exact hk
    · exact (.c (.c (.c (.c .nil))))
    · exact List.Sublist.refl _
    · rintro i_3 hk; refine T.sr ?_; refine TL.run 1 rfl ?_; refine TL.ns (T.seq ?_); refine T.cond rfl (fun h4 => ?_) (fun h4 => ?_)
      · have p4 := of_decide_eq_true h4; rw [zaD (by omega)] at hk; generalize hn2 : zal f2 kk2 (l.length - (i_3 + 1)) (i_3 + 1) = next2 at hk; rw [← hf2] at hk; (try dsimp only at hk); refine T.skip (K.seq (T.seq (T.block (T.sr ?_)))); refine TL.run 1 rfl ?_; refine TL.y (Yv.ar (i := i_3) rfl rfl rfl hl (List.length_map _) rfl (by omega)) ?_; refine TL.y (Yv.ao 0 (i := i_3) rfl rfl rfl hl (by omega) rfl rfl rfl) ?_; refine TL.e (Ew.alloc rfl) ?_; rintro _ _ ⟨g4, rfl, rfl⟩; refine TL.run 1 rfl ?_; refine TL.e0 (Ew.ae 0 rfl rfl rfl rfl rfl rfl) ?_; rintro _ _ ⟨rfl, rfl⟩; refine TL.ns (T.seq (T.seq ?_)); refine T.ah (ι := Unit) (fun z => [(0, vl), (3, .int .i64 (i_3 : Int)), (4, .pointer (some ⟨g4, 0, none⟩)), (5, vl), (6, .int .i64 (l.length : Int)), (7, .int .i64 (i_3 : Int)), (21, .bool ((!(zah ((nth l i_3).Station))) || (!(zai ((nth l i_3).Channel) 2 51))))]) (fun z => [.row g4 79 [.int .i64 ((nth l i_3).Station), .int .i64 ((nth l i_3).Channel)], .fr F1]) (fun z => True) ?_ ?_
        · refine T.region ?_; refine TL.y (Yv.fieldAddr rfl rfl) ?_; refine TL.y (Yv.aa 0 rfl rfl rfl rfl) ?_; refine TL.e (Ew.af rfl rfl rfl (fun w hw => zbu _ w (hw.fr (i := 1) rfl) ((nth l i_3).Station))) ?_; rintro _ _ ⟨rfl, rfl⟩; refine TL.run 2 rfl ?_; refine TL.gs rfl rfl rfl (fun h5 => ?_) (fun h5 => ?_)
          · refine TL.run 5 rfl ?_; refine TL.nil ?_; exact K.ai () trivial (.c (.c (.c (.c (.c (.c (.b (zcp h5).symm .nil))))))) (List.Sublist.refl _)
          · refine TL.y (Yv.fieldAddr rfl rfl) ?_; refine TL.y (Yv.aa 0 rfl rfl rfl rfl) ?_; refine TL.e (Ew.af rfl rfl rfl (fun w hw => zbx _ w (hw.fr (i := 1) rfl) ((nth l i_3).Channel) 2 51)) ?_; rintro _ _ ⟨rfl, rfl⟩; refine TL.run 2 rfl ?_; refine TL.nil ?_; exact K.ai () trivial (.c (.c (.c (.c (.c (.c (.b (or_f h5) .nil))))))) (List.Sublist.refl _)
        · rintro _ _; refine T.cond rfl (fun h6 => ?_) (fun h6 => ?_)
          · replace hk := zaa hk h6; refine T.sr ?_; refine TL.run 1 rfl ?_; refine TL.ns (T.ret (K.then_ret (K.ag (K.then_ret (K.then_ret (K.ag (K.then_ret ?_))))))); subst hk; exact K.aj rfl rfl (fun w' hw => ⟨rfl, hw.isBelow⟩)
          · replace hk := zab hk h6; refine T.skip (K.seq (T.seq ?_)); refine T.ah (ι := Unit) (fun z => [(0, vl), (5, vl), (6, .int .i64 (l.length : Int)), (7, .int .i64 (i_3 : Int)), (34, .bool ((decide (0 < (i_3 : Int))) && (decide ((nth l i_3).Station ≤ (nth l (((i_3 : Int) - 1).toNat)).Station))))]) (fun z => [.row g4 79 [.int .i64 ((nth l i_3).Station), .int .i64 ((nth l i_3).Channel)], .fr F1]) (fun z => True) ?_ ?_
            · refine T.ay (.still 0 (.still 1 (.still 2 (.still 3 (.still 4 (.still 5 (.still 6 (.still 7 (.still 8 (.still 9 (.still 10 (.still 11 (.still 12 .done))))))))))))) _ (by kernel_rfl) (List.Sublist.refl _) ?_; refine TS.run 3 rfl ?_; refine TS.gs rfl rfl rfl rfl (fun h7 => ?_) (fun h7 => ?_)
              · have p7 := of_decide_eq_true h7; refine TS.run 2 rfl ?_; refine TS.y rfl (Yv.aT rfl rfl rfl (by omega)) ?_; refine TS.y rfl (Yv.ar (i := ((i_3 : Int) - 1).toNat) rfl rfl rfl hl (List.length_map _) (by omega) (by omega)) ?_; refine TS.y rfl (Yv.br rfl rfl hl (List.length_map _) (by omega)) ?_; refine TS.y rfl (Yv.aA 1 (i := ((i_3 : Int) - 1).toNat) (j := 0) rfl rfl rfl hl (by omega) rfl rfl) ?_; refine TS.y rfl (Yv.fieldAddr rfl rfl) ?_; refine TS.y rfl (Yv.aa 0 rfl rfl rfl rfl) ?_; refine TS.run 2 rfl ?_; refine TS.done ?_; exact K.ai () trivial (.c (.c (.c (.c (.b (zdw h7) .nil))))) (List.Sublist.refl _)
              · have p7 := of_decide_eq_false h7; refine TS.run 10 rfl ?_; refine TS.done ?_; exact K.ai () trivial (.c (.c (.c (.c (.b (zaC h7).symm .nil))))) (List.Sublist.refl _)
            · rintro _ _; refine T.cond rfl (fun h8 => ?_) (fun h8 => ?_)
              · have p8 := h8; (try simp only [nfB] at p8); replace hk := zaa hk h8; refine T.sr ?_; refine TL.run 1 rfl ?_; refine TL.ns (T.ret (K.ag (K.then_ret (K.then_ret (K.ag (K.then_ret ?_)))))); subst hk; exact K.aj rfl rfl (fun w' hw => ⟨rfl, hw.isBelow⟩)
              · replace hk := zab hk h8; refine T.skip (K.ac (K.seq (T.region ?_))); refine TL.y (Yv.aq rfl rfl rfl (by omega)) ?_; refine TL.run 1 rfl ?_; refine TL.nil ?_; rw [← hn2] at hk; refine K.pick [1] rfl (by decide) ?_; exact K.next (i_3 + 1) hk (by omega) (.c (.c (.c (.c .nil)))) (List.Sublist.refl _)
      · have p4 := of_decide_eq_false h4; rw [zaE (by omega), ← hkk2] at hk; (try dsimp only at hk); refine T.exit (K.ab (K.ab (K.ad ?_))); exact K.ai () hk .nil (List.Sublist.refl _)
  · rintro _ hk; rw [← hk1] at hk; (try dsimp only at hk); refine T.sr ?_; refine TL.run 1 rfl ?_; refine TL.ns (T.ret ?_); subst hk; exact K.aj rfl rfl (fun w' hw => ⟨rfl, hw.isBelow⟩)
def zbr (low : Int) (high : Int) : Bool :=
  (((decide (2 ≤ low)) && (decide (low ≤ high))) && (decide (high ≤ 51)))
theorem zc5 (F0 : Frz) (w : World) (hF0 : F0.At w) (low : Int) (high : Int) : Calls Tryz.prog 114 #[.int .i64 low, .int .i64 high] w fun e w' => e = .returned (.bool (zbr low high)) ∧ Below w.heap.size w w' := by
  obtain ⟨r, hk⟩ : ∃ r, zbr low high = r := ⟨_, rfl⟩; rw [hk]; unfold zbr at hk; obtain ⟨S0, F1, rfl, hS0, hp0⟩ := zap hF0; refine zao Tryz.func114 rfl rfl rfl hp0 ?_; refine T.sr ?_; refine TL.run 1 rfl ?_; refine TL.ns (T.seq ?_); refine T.ah (ι := Unit) (fun z => [(4, .bool (((decide (2 ≤ low)) && (decide (low ≤ high))) && (decide (high ≤ 51))))]) (fun z => [.fr F1]) (fun z => True) ?_ ?_
  · refine T.region ?_; refine TL.run 3 rfl ?_; refine TL.gs rfl rfl rfl (fun h1 => ?_) (fun h1 => ?_)
    · have p1 := of_decide_eq_true h1; refine TL.run 5 rfl ?_; refine TL.gs rfl rfl rfl (fun h2 => ?_) (fun h2 => ?_)
      · have p2 := of_decide_eq_true h2; refine TL.run 4 rfl ?_; refine TL.nil ?_; exact K.ai () trivial (.b (zdw (za0 h1 h2)) .nil) (List.Sublist.refl _)
      · have p2 := of_decide_eq_false h2; refine TL.run 4 rfl ?_; refine TL.nil ?_; exact K.ai () trivial (.b (zaC (za0 h1 h2)).symm .nil) (List.Sublist.refl _)
    · have p1 := of_decide_eq_false h1; refine TL.run 9 rfl ?_; refine TL.nil ?_; exact K.ai () trivial (.b (zaC (zaC h1)).symm .nil) (List.Sublist.refl _)
  · rintro _ _; refine T.ret ?_; subst hk; exact K.aj rfl rfl (fun w' hw => ⟨rfl, hw.isBelow⟩)
def zbk (c : GPair) : Bool :=
  (((((zah c.A) && (zah c.B)) && (decide (c.A < c.B))) && (zai c.Offset (-1) 1)) && (zbr c.Low c.High))
theorem zeu (F0 : Frz) (w : World) (hF0 : F0.At w) (c : GPair) : Calls Tryz.prog 56 #[.agg [.int .i64 c.A, .int .i64 c.B, .int .i64 c.Offset, .int .i64 c.Low, .int .i64 c.High].toArray] w fun e w' => e = .returned (.bool (zbk c)) ∧ Below w.heap.size w w' := by
  obtain ⟨r, hk⟩ : ∃ r, zbk c = r := ⟨_, rfl⟩; rw [hk]; unfold zbk at hk; obtain ⟨S0, F1, rfl, hS0, hp0⟩ := zap hF0; refine zao Tryz.func56 rfl rfl rfl hp0 ?_; refine T.sr ?_; refine TL.e (Ew.au rfl rfl) ?_; rintro _ _ ⟨g1, rfl, rfl⟩; refine TL.run 1 rfl ?_; refine TL.ns (T.seq ?_); refine T.ah (ι := Unit) (fun z => [(2, .bool (((((zah c.A) && (zah c.B)) && (decide (c.A < c.B))) && (zai c.Offset (-1) 1)) && (zbr c.Low c.High)))]) (fun z => [.row g1 68 [.int .i64 c.A, .int .i64 c.B, .int .i64 c.Offset, .int .i64 c.Low, .int .i64 c.High], .fr F1]) (fun z => True) ?_ ?_
  · refine T.region ?_; refine TL.y (Yv.fieldAddr rfl rfl) ?_; refine TL.y (Yv.aa 0 rfl rfl rfl rfl) ?_; refine TL.e (Ew.af rfl rfl rfl (fun w hw => zbu _ w (hw.fr (i := 1) rfl) c.A)) ?_; rintro _ _ ⟨rfl, rfl⟩; refine TL.run 1 rfl ?_; refine TL.gs rfl rfl rfl (fun h1 => ?_) (fun h1 => ?_)
    · refine TL.y (Yv.fieldAddr rfl rfl) ?_; refine TL.y (Yv.aa 0 rfl rfl rfl rfl) ?_; refine TL.e (Ew.af rfl rfl rfl (fun w hw => zbu _ w (hw.fr (i := 1) rfl) c.B)) ?_; rintro _ _ ⟨rfl, rfl⟩; refine TL.run 2 rfl ?_; refine TL.gs rfl rfl rfl (fun h2 => ?_) (fun h2 => ?_)
      · refine TL.y (Yv.fieldAddr rfl rfl) ?_; refine TL.y (Yv.aa 0 rfl rfl rfl rfl) ?_; refine TL.y (Yv.fieldAddr rfl rfl) ?_; refine TL.y (Yv.aa 0 rfl rfl rfl rfl) ?_; refine TL.run 3 rfl ?_; refine TL.gs rfl rfl rfl (fun h3 => ?_) (fun h3 => ?_)
        · have p3 := of_decide_eq_true h3; refine TL.y (Yv.fieldAddr rfl rfl) ?_; refine TL.y (Yv.aa 0 rfl rfl rfl rfl) ?_; refine TL.e (Ew.af rfl rfl rfl (fun w hw => zbx _ w (hw.fr (i := 1) rfl) c.Offset (-1) 1)) ?_; rintro _ _ ⟨rfl, rfl⟩; refine TL.run 2 rfl ?_; refine TL.gs rfl rfl rfl (fun h4 => ?_) (fun h4 => ?_)
          · refine TL.y (Yv.fieldAddr rfl rfl) ?_; refine TL.y (Yv.aa 0 rfl rfl rfl rfl) ?_; refine TL.y (Yv.fieldAddr rfl rfl) ?_; refine TL.y (Yv.aa 0 rfl rfl rfl rfl) ?_; refine TL.e (Ew.af rfl rfl rfl (fun w hw => zc5 _ w (hw.fr (i := 1) rfl) c.Low c.High)) ?_; rintro _ _ ⟨rfl, rfl⟩; refine TL.run 2 rfl ?_; refine TL.nil ?_; exact K.ai () trivial (.b (zdw (za0 (za0 (za0 h1 h2) h3) h4)) .nil) (List.Sublist.refl _)
          · refine TL.run 7 rfl ?_; refine TL.nil ?_; exact K.ai () trivial (.b (zaC (za0 (za0 (za0 h1 h2) h3) h4)).symm .nil) (List.Sublist.refl _)
        · have p3 := of_decide_eq_false h3; refine TL.run 12 rfl ?_; refine TL.nil ?_; exact K.ai () trivial (.b (zaC (zaC (za0 (za0 h1 h2) h3))).symm .nil) (List.Sublist.refl _)
      · refine TL.run 19 rfl ?_; refine TL.nil ?_; exact K.ai () trivial (.b (zaC (zaC (zaC (za0 h1 h2)))).symm .nil) (List.Sublist.refl _)
    · refine TL.run 24 rfl ?_; refine TL.nil ?_; exact K.ai () trivial (.b (zaC (zaC (zaC (zaC h1)))).symm .nil) (List.Sublist.refl _)
  · rintro _ _; refine T.ret ?_; subst hk; exact K.aj rfl rfl (fun w' hw => ⟨rfl, hw.isBelow⟩)
def zbB (a : GPair) (b : GPair) : Int :=
  (zcA [(zac a.A b.A), (zac a.B b.B), (zac a.Offset b.Offset), (zac a.Low b.Low), (zac a.High b.High)])
theorem zdN (F0 : Frz) (w : World) (hF0 : F0.At w) (a : GPair) (b : GPair) : Calls Tryz.prog 58 #[.agg [.int .i64 a.A, .int .i64 a.B, .int .i64 a.Offset, .int .i64 a.Low, .int .i64 a.High].toArray, .agg [.int .i64 b.A, .int .i64 b.B, .int .i64 b.Offset, .int .i64 b.Low, .int .i64 b.High].toArray] w fun e w' => e = .returned (.int .i64 (zbB a b)) ∧ Below w.heap.size w w' := by
  obtain ⟨r, hk⟩ : ∃ r, zbB a b = r := ⟨_, rfl⟩; rw [hk]; unfold zbB at hk; obtain ⟨S0, F1, rfl, hS0, hp0⟩ := zap hF0; refine zao Tryz.func58 rfl rfl rfl hp0 ?_; refine T.sr ?_; refine TL.e (Ew.au rfl rfl) ?_; rintro _ _ ⟨g2, rfl, rfl⟩; refine TL.e (Ew.au rfl rfl) ?_; rintro _ _ ⟨g3, rfl, rfl⟩; refine TL.run 1 rfl ?_; refine TL.ns (T.seq ?_); refine T.ay (.still 0 (.still 1 (.still 2 (.still 3 (.still 5 (.still 6 (.still 7 (.still 8 (.still 10 (.still 11 (.still 12 (.still 13 (.still 15 (.still 16 (.still 17 (.still 18 (.still 20 (.still 21 (.still 22 (.still 23 (.eff 4 (.eff 9 (.eff 14 (.eff 19 (.eff 24 (.eff 25 (.eff 26 (.still 27 .done)))))))))))))))))))))))))))) _ (by kernel_rfl) (List.Sublist.refl _) ?_; refine TS.y rfl (Yv.fieldAddr rfl rfl) ?_; refine TS.y rfl (Yv.aa 1 rfl rfl rfl rfl) ?_; refine TS.y rfl (Yv.fieldAddr rfl rfl) ?_; refine TS.y rfl (Yv.aa 0 rfl rfl rfl rfl) ?_; refine TS.y rfl (Yv.fieldAddr rfl rfl) ?_; refine TS.y rfl (Yv.aa 1 rfl rfl rfl rfl) ?_; refine TS.y rfl (Yv.fieldAddr rfl rfl) ?_; refine TS.y rfl (Yv.aa 0 rfl rfl rfl rfl) ?_; refine TS.y rfl (Yv.fieldAddr rfl rfl) ?_; refine TS.y rfl (Yv.aa 1 rfl rfl rfl rfl) ?_; refine TS.y rfl (Yv.fieldAddr rfl rfl) ?_; refine TS.y rfl (Yv.aa 0 rfl rfl rfl rfl) ?_; refine TS.y rfl (Yv.fieldAddr rfl rfl) ?_; refine TS.y rfl (Yv.aa 1 rfl rfl rfl rfl) ?_; refine TS.y rfl (Yv.fieldAddr rfl rfl) ?_; refine TS.y rfl (Yv.aa 0 rfl rfl rfl rfl) ?_; refine TS.y rfl (Yv.fieldAddr rfl rfl) ?_; refine TS.y rfl (Yv.aa 1 rfl rfl rfl rfl) ?_; refine TS.y rfl (Yv.fieldAddr rfl rfl) ?_; refine TS.y rfl (Yv.aa 0 rfl rfl rfl rfl) ?_; refine TS.eff ?_; refine TSo.av rfl (Wt.none rfl) rfl rfl (Ew.af rfl rfl rfl (fun w hw => zaH _ w (hw.fr (i := 2) rfl) a.A b.A)) ?_; rintro _ _ ⟨rfl, rfl⟩; refine ⟨(fun w hw => hw.sub Sx), ?_⟩; refine TS.eff ?_; refine TSo.av rfl (Wt.none rfl) rfl rfl (Ew.af rfl rfl rfl (fun w hw => zaH _ w (hw.fr (i := 2) rfl) a.B b.B)) ?_; rintro _ _ ⟨rfl, rfl⟩; refine ⟨(fun w hw => hw.sub Sx), ?_⟩; refine TS.eff ?_; refine TSo.av rfl (Wt.none rfl) rfl rfl (Ew.af rfl rfl rfl (fun w hw => zaH _ w (hw.fr (i := 2) rfl) a.Offset b.Offset)) ?_; rintro _ _ ⟨rfl, rfl⟩; refine ⟨(fun w hw => hw.sub Sx), ?_⟩; refine TS.eff ?_; refine TSo.av rfl (Wt.none rfl) rfl rfl (Ew.af rfl rfl rfl (fun w hw => zaH _ w (hw.fr (i := 2) rfl) a.Low b.Low)) ?_; rintro _ _ ⟨rfl, rfl⟩; refine ⟨(fun w hw => hw.sub Sx), ?_⟩; refine TS.eff ?_; refine TSo.av rfl (Wt.none rfl) rfl rfl (Ew.af rfl rfl rfl (fun w hw => zaH _ w (hw.fr (i := 2) rfl) a.High b.High)) ?_; rintro _ _ ⟨rfl, rfl⟩; refine ⟨(fun w hw => hw.sub Sx), ?_⟩; refine TS.eff ?_; refine TSo.av rfl (Wt.none rfl) rfl rfl (Ew.buildSlice rfl rfl rfl (by decide)) ?_; rintro _ _ ⟨g30, rfl, rfl⟩; refine ⟨(fun w hw => hw.sub Sx), ?_⟩; refine TS.aw (fun w hw => hw.freezeR (i := 3) (j := 0) (by decide) rfl rfl) ?_; rintro F2 ⟨le1_2, hz2⟩; dsimp only [List.set, List.eraseIdx]; have hf2 : SlC F2.toFrz (.slice (some ⟨g30, 0, none⟩) 5 5) 1 ([(zac a.A b.A), (zac a.B b.B), (zac a.Offset b.Offset), (zac a.Low b.Low), (zac a.High b.High)].map eI) := (SlK.lit hz2 rfl (Nat.le_refl _) (by decide)).toF (xs := [(zac a.A b.A), (zac a.B b.B), (zac a.Offset b.Offset), (zac a.Low b.Low), (zac a.High b.High)]) rfl (fun _ => rfl); refine TS.eff ?_; refine TSo.av rfl (Wt.none rfl) rfl rfl (Ew.af rfl rfl rfl (fun w hw => zdE _ w (hw.fr (i := 2) rfl) [(zac a.A b.A), (zac a.B b.B), (zac a.Offset b.Offset), (zac a.Low b.Low), (zac a.High b.High)] (.slice (some ⟨g30, 0, none⟩) 5 5) hf2)) ?_; rintro _ _ ⟨rfl, rfl⟩; refine ⟨(fun w hw => (hw.frLe (i := 2) rfl le1_2).sub Sx), ?_⟩; refine TS.run 1 rfl ?_; refine TS.done ?_; refine K.seq (T.ret ?_); subst hk; exact K.aj rfl rfl (fun w' hw => ⟨rfl, hw.isBelow⟩)
def zbc (c : GLoad) : Bool :=
  (((((zah c.To) && (zah c.From)) && (decide (¬ c.To = c.From))) && (zai c.Weight 1 1073741824)) && (zbr c.Low c.High))
theorem zel (F0 : Frz) (w : World) (hF0 : F0.At w) (c : GLoad) : Calls Tryz.prog 60 #[.agg [.int .i64 c.To, .int .i64 c.From, .int .i64 c.Weight, .int .i64 c.Low, .int .i64 c.High].toArray] w fun e w' => e = .returned (.bool (zbc c)) ∧ Below w.heap.size w w' := by
  obtain ⟨r, hk⟩ : ∃ r, zbc c = r := ⟨_, rfl⟩; rw [hk]; unfold zbc at hk; obtain ⟨S0, F1, rfl, hS0, hp0⟩ := zap hF0; refine zao Tryz.func60 rfl rfl rfl hp0 ?_; refine T.sr ?_; refine TL.e (Ew.au rfl rfl) ?_; rintro _ _ ⟨g1, rfl, rfl⟩; refine TL.run 1 rfl ?_; refine TL.ns (T.seq ?_); refine T.ah (ι := Unit) (fun z => [(2, .bool (((((zah c.To) && (zah c.From)) && (decide (¬ c.To = c.From))) && (zai c.Weight 1 1073741824)) && (zbr c.Low c.High)))]) (fun z => [.row g1 70 [.int .i64 c.To, .int .i64 c.From, .int .i64 c.Weight, .int .i64 c.Low, .int .i64 c.High], .fr F1]) (fun z => True) ?_ ?_
  · refine T.region ?_; refine TL.y (Yv.fieldAddr rfl rfl) ?_; refine TL.y (Yv.aa 0 rfl rfl rfl rfl) ?_; refine TL.e (Ew.af rfl rfl rfl (fun w hw => zbu _ w (hw.fr (i := 1) rfl) c.To)) ?_; rintro _ _ ⟨rfl, rfl⟩; refine TL.run 1 rfl ?_; refine TL.gs rfl rfl rfl (fun h1 => ?_) (fun h1 => ?_)
    · refine TL.y (Yv.fieldAddr rfl rfl) ?_; refine TL.y (Yv.aa 0 rfl rfl rfl rfl) ?_; refine TL.e (Ew.af rfl rfl rfl (fun w hw => zbu _ w (hw.fr (i := 1) rfl) c.From)) ?_; rintro _ _ ⟨rfl, rfl⟩; refine TL.run 2 rfl ?_; refine TL.gs rfl rfl rfl (fun h2 => ?_) (fun h2 => ?_)
      · refine TL.y (Yv.fieldAddr rfl rfl) ?_; refine TL.y (Yv.aa 0 rfl rfl rfl rfl) ?_; refine TL.y (Yv.fieldAddr rfl rfl) ?_; refine TL.y (Yv.aa 0 rfl rfl rfl rfl) ?_; refine TL.run 3 rfl ?_; refine TL.gs rfl rfl rfl (fun h3 => ?_) (fun h3 => ?_)
        · have p3 := of_decide_eq_true h3; refine TL.y (Yv.fieldAddr rfl rfl) ?_; refine TL.y (Yv.aa 0 rfl rfl rfl rfl) ?_; refine TL.e (Ew.af rfl rfl rfl (fun w hw => zbx _ w (hw.fr (i := 1) rfl) c.Weight 1 1073741824)) ?_; rintro _ _ ⟨rfl, rfl⟩; refine TL.run 2 rfl ?_; refine TL.gs rfl rfl rfl (fun h4 => ?_) (fun h4 => ?_)
          · refine TL.y (Yv.fieldAddr rfl rfl) ?_; refine TL.y (Yv.aa 0 rfl rfl rfl rfl) ?_; refine TL.y (Yv.fieldAddr rfl rfl) ?_; refine TL.y (Yv.aa 0 rfl rfl rfl rfl) ?_; refine TL.e (Ew.af rfl rfl rfl (fun w hw => zc5 _ w (hw.fr (i := 1) rfl) c.Low c.High)) ?_; rintro _ _ ⟨rfl, rfl⟩; refine TL.run 2 rfl ?_; refine TL.nil ?_; exact K.ai () trivial (.b (zdw (za0 (za0 (za0 h1 h2) h3) h4)) .nil) (List.Sublist.refl _)
          · refine TL.run 7 rfl ?_; refine TL.nil ?_; exact K.ai () trivial (.b (zaC (za0 (za0 (za0 h1 h2) h3) h4)).symm .nil) (List.Sublist.refl _)
        · have p3 := of_decide_eq_false h3; refine TL.run 12 rfl ?_; refine TL.nil ?_; exact K.ai () trivial (.b (zaC (zaC (za0 (za0 h1 h2) h3))).symm .nil) (List.Sublist.refl _)
      · refine TL.run 19 rfl ?_; refine TL.nil ?_; exact K.ai () trivial (.b (zaC (zaC (zaC (za0 h1 h2)))).symm .nil) (List.Sublist.refl _)
    · refine TL.run 24 rfl ?_; refine TL.nil ?_; exact K.ai () trivial (.b (zaC (zaC (zaC (zaC h1)))).symm .nil) (List.Sublist.refl _)
  · rintro _ _; refine T.ret ?_; subst hk; exact K.aj rfl rfl (fun w' hw => ⟨rfl, hw.isBelow⟩)
def zbC (a : GLoad) (b : GLoad) : Int :=
  (zcA [(zac a.To b.To), (zac a.From b.From), (zac a.Weight b.Weight), (zac a.Low b.Low), (zac a.High b.High)])
theorem zdJ (F0 : Frz) (w : World) (hF0 : F0.At w) (a : GLoad) (b : GLoad) : Calls Tryz.prog 62 #[.agg [.int .i64 a.To, .int .i64 a.From, .int .i64 a.Weight, .int .i64 a.Low, .int .i64 a.High].toArray, .agg [.int .i64 b.To, .int .i64 b.From, .int .i64 b.Weight, .int .i64 b.Low, .int .i64 b.High].toArray] w fun e w' => e = .returned (.int .i64 (zbC a b)) ∧ Below w.heap.size w w' := by
  obtain ⟨r, hk⟩ : ∃ r, zbC a b = r := ⟨_, rfl⟩; rw [hk]; unfold zbC at hk; obtain ⟨S0, F1, rfl, hS0, hp0⟩ := zap hF0; refine zao Tryz.func62 rfl rfl rfl hp0 ?_; refine T.sr ?_; refine TL.e (Ew.au rfl rfl) ?_; rintro _ _ ⟨g2, rfl, rfl⟩; refine TL.e (Ew.au rfl rfl) ?_; rintro _ _ ⟨g3, rfl, rfl⟩; refine TL.run 1 rfl ?_; refine TL.ns (T.seq ?_); refine T.ay (.still 0 (.still 1 (.still 2 (.still 3 (.still 5 (.still 6 (.still 7 (.still 8 (.still 10 (.still 11 (.still 12 (.still 13 (.still 15 (.still 16 (.still 17 (.still 18 (.still 20 (.still 21 (.still 22 (.still 23 (.eff 4 (.eff 9 (.eff 14 (.eff 19 (.eff 24 (.eff 25 (.eff 26 (.still 27 .done)))))))))))))))))))))))))))) _ (by kernel_rfl) (List.Sublist.refl _) ?_; refine TS.y rfl (Yv.fieldAddr rfl rfl) ?_; refine TS.y rfl (Yv.aa 1 rfl rfl rfl rfl) ?_; refine TS.y rfl (Yv.fieldAddr rfl rfl) ?_; refine TS.y rfl (Yv.aa 0 rfl rfl rfl rfl) ?_; refine TS.y rfl (Yv.fieldAddr rfl rfl) ?_; refine TS.y rfl (Yv.aa 1 rfl rfl rfl rfl) ?_; refine TS.y rfl (Yv.fieldAddr rfl rfl) ?_; refine TS.y rfl (Yv.aa 0 rfl rfl rfl rfl) ?_; refine TS.y rfl (Yv.fieldAddr rfl rfl) ?_; refine TS.y rfl (Yv.aa 1 rfl rfl rfl rfl) ?_; refine TS.y rfl (Yv.fieldAddr rfl rfl) ?_; refine TS.y rfl (Yv.aa 0 rfl rfl rfl rfl) ?_; refine TS.y rfl (Yv.fieldAddr rfl rfl) ?_; refine TS.y rfl (Yv.aa 1 rfl rfl rfl rfl) ?_; refine TS.y rfl (Yv.fieldAddr rfl rfl) ?_; refine TS.y rfl (Yv.aa 0 rfl rfl rfl rfl) ?_; refine TS.y rfl (Yv.fieldAddr rfl rfl) ?_; refine TS.y rfl (Yv.aa 1 rfl rfl rfl rfl) ?_; refine TS.y rfl (Yv.fieldAddr rfl rfl) ?_; refine TS.y rfl (Yv.aa 0 rfl rfl rfl rfl) ?_; refine TS.eff ?_; refine TSo.av rfl (Wt.none rfl) rfl rfl (Ew.af rfl rfl rfl (fun w hw => zaH _ w (hw.fr (i := 2) rfl) a.To b.To)) ?_; rintro _ _ ⟨rfl, rfl⟩; refine ⟨(fun w hw => hw.sub Sx), ?_⟩; refine TS.eff ?_; refine TSo.av rfl (Wt.none rfl) rfl rfl (Ew.af rfl rfl rfl (fun w hw => zaH _ w (hw.fr (i := 2) rfl) a.From b.From)) ?_; rintro _ _ ⟨rfl, rfl⟩; refine ⟨(fun w hw => hw.sub Sx), ?_⟩; refine TS.eff ?_; refine TSo.av rfl (Wt.none rfl) rfl rfl (Ew.af rfl rfl rfl (fun w hw => zaH _ w (hw.fr (i := 2) rfl) a.Weight b.Weight)) ?_; rintro _ _ ⟨rfl, rfl⟩; refine ⟨(fun w hw => hw.sub Sx), ?_⟩; refine TS.eff ?_; refine TSo.av rfl (Wt.none rfl) rfl rfl (Ew.af rfl rfl rfl (fun w hw => zaH _ w (hw.fr (i := 2) rfl) a.Low b.Low)) ?_; rintro _ _ ⟨rfl, rfl⟩; refine ⟨(fun w hw => hw.sub Sx), ?_⟩; refine TS.eff ?_; refine TSo.av rfl (Wt.none rfl) rfl rfl (Ew.af rfl rfl rfl (fun w hw => zaH _ w (hw.fr (i := 2) rfl) a.High b.High)) ?_; rintro _ _ ⟨rfl, rfl⟩; refine ⟨(fun w hw => hw.sub Sx), ?_⟩; refine TS.eff ?_; refine TSo.av rfl (Wt.none rfl) rfl rfl (Ew.buildSlice rfl rfl rfl (by decide)) ?_; rintro _ _ ⟨g30, rfl, rfl⟩; refine ⟨(fun w hw => hw.sub Sx), ?_⟩; refine TS.aw (fun w hw => hw.freezeR (i := 3) (j := 0) (by decide) rfl rfl) ?_; rintro F2 ⟨le1_2, hz2⟩; dsimp only [List.set, List.eraseIdx]; have hf2 : SlC F2.toFrz (.slice (some ⟨g30, 0, none⟩) 5 5) 1 ([(zac a.To b.To), (zac a.From b.From), (zac a.Weight b.Weight), (zac a.Low b.Low), (zac a.High b.High)].map eI) := (SlK.lit hz2 rfl (Nat.le_refl _) (by decide)).toF (xs := [(zac a.To b.To), (zac a.From b.From), (zac a.Weight b.Weight), (zac a.Low b.Low), (zac a.High b.High)]) rfl (fun _ => rfl); refine TS.eff ?_; refine TSo.av rfl (Wt.none rfl) rfl rfl (Ew.af rfl rfl rfl (fun w hw => zdE _ w (hw.fr (i := 2) rfl) [(zac a.To b.To), (zac a.From b.From), (zac a.Weight b.Weight), (zac a.Low b.Low), (zac a.High b.High)] (.slice (some ⟨g30, 0, none⟩) 5 5) hf2)) ?_; rintro _ _ ⟨rfl, rfl⟩; refine ⟨(fun w hw => (hw.frLe (i := 2) rfl le1_2).sub Sx), ?_⟩; refine TS.run 1 rfl ?_; refine TS.done ?_; refine K.seq (T.ret ?_); subst hk; exact K.aj rfl rfl (fun w' hw => ⟨rfl, hw.isBelow⟩)
def za8 (c : GCap) : Bool :=
  (((zah c.Station) && (zai c.Max 0 1099511627776)) && (zbr c.Low c.High))
theorem zeK (F0 : Frz) (w : World) (hF0 : F0.At w) (c : GCap) : Calls Tryz.prog 64 #[.agg [.int .i64 c.Station, .int .i64 c.Max, .int .i64 c.Low, .int .i64 c.High].toArray] w fun e w' => e = .returned (.bool (za8 c)) ∧ Below w.heap.size w w' := by
  obtain ⟨r, hk⟩ : ∃ r, za8 c = r := ⟨_, rfl⟩; rw [hk]; unfold za8 at hk; obtain ⟨S0, F1, rfl, hS0, hp0⟩ := zap hF0; refine zao Tryz.func64 rfl rfl rfl hp0 ?_; refine T.sr ?_; refine TL.e (Ew.au rfl rfl) ?_; rintro _ _ ⟨g1, rfl, rfl⟩; refine TL.run 1 rfl ?_; refine TL.ns (T.seq ?_); refine T.ah (ι := Unit) (fun z => [(2, .bool (((zah c.Station) && (zai c.Max 0 1099511627776)) && (zbr c.Low c.High)))]) (fun z => [.row g1 72 [.int .i64 c.Station, .int .i64 c.Max, .int .i64 c.Low, .int .i64 c.High], .fr F1]) (fun z => True) ?_ ?_
  · refine T.region ?_; refine TL.y (Yv.fieldAddr rfl rfl) ?_; refine TL.y (Yv.aa 0 rfl rfl rfl rfl) ?_; refine TL.e (Ew.af rfl rfl rfl (fun w hw => zbu _ w (hw.fr (i := 1) rfl) c.Station)) ?_; rintro _ _ ⟨rfl, rfl⟩; refine TL.run 1 rfl ?_; refine TL.gs rfl rfl rfl (fun h1 => ?_) (fun h1 => ?_)
    · refine TL.y (Yv.fieldAddr rfl rfl) ?_; refine TL.y (Yv.aa 0 rfl rfl rfl rfl) ?_; refine TL.e (Ew.af rfl rfl rfl (fun w hw => zbx _ w (hw.fr (i := 1) rfl) c.Max 0 1099511627776)) ?_; rintro _ _ ⟨rfl, rfl⟩; refine TL.run 2 rfl ?_; refine TL.gs rfl rfl rfl (fun h2 => ?_) (fun h2 => ?_)
      · refine TL.y (Yv.fieldAddr rfl rfl) ?_; refine TL.y (Yv.aa 0 rfl rfl rfl rfl) ?_; refine TL.y (Yv.fieldAddr rfl rfl) ?_; refine TL.y (Yv.aa 0 rfl rfl rfl rfl) ?_; refine TL.e (Ew.af rfl rfl rfl (fun w hw => zc5 _ w (hw.fr (i := 1) rfl) c.Low c.High)) ?_; rintro _ _ ⟨rfl, rfl⟩; refine TL.run 2 rfl ?_; refine TL.nil ?_; exact K.ai () trivial (.b (zdw (za0 h1 h2)) .nil) (List.Sublist.refl _)
      · refine TL.run 7 rfl ?_; refine TL.nil ?_; exact K.ai () trivial (.b (zaC (za0 h1 h2)).symm .nil) (List.Sublist.refl _)
    · refine TL.run 12 rfl ?_; refine TL.nil ?_; exact K.ai () trivial (.b (zaC (zaC h1)).symm .nil) (List.Sublist.refl _)
  · rintro _ _; refine T.ret ?_; subst hk; exact K.aj rfl rfl (fun w' hw => ⟨rfl, hw.isBelow⟩)
def zbJ (a : GCap) (b : GCap) : Int :=
  (zcA [(zac a.Station b.Station), (zac a.Max b.Max), (zac a.Low b.Low), (zac a.High b.High)])
theorem zdO (F0 : Frz) (w : World) (hF0 : F0.At w) (a : GCap) (b : GCap) : Calls Tryz.prog 66 #[.agg [.int .i64 a.Station, .int .i64 a.Max, .int .i64 a.Low, .int .i64 a.High].toArray, .agg [.int .i64 b.Station, .int .i64 b.Max, .int .i64 b.Low, .int .i64 b.High].toArray] w fun e w' => e = .returned (.int .i64 (zbJ a b)) ∧ Below w.heap.size w w' := by
  obtain ⟨r, hk⟩ : ∃ r, zbJ a b = r := ⟨_, rfl⟩; rw [hk]; unfold zbJ at hk; obtain ⟨S0, F1, rfl, hS0, hp0⟩ := zap hF0; refine zao Tryz.func66 rfl rfl rfl hp0 ?_; refine T.sr ?_; refine TL.e (Ew.au rfl rfl) ?_; rintro _ _ ⟨g2, rfl, rfl⟩; refine TL.e (Ew.au rfl rfl) ?_; rintro _ _ ⟨g3, rfl, rfl⟩; refine TL.run 1 rfl ?_; refine TL.ns (T.seq ?_); refine T.ay (.still 0 (.still 1 (.still 2 (.still 3 (.still 5 (.still 6 (.still 7 (.still 8 (.still 10 (.still 11 (.still 12 (.still 13 (.still 15 (.still 16 (.still 17 (.still 18 (.eff 4 (.eff 9 (.eff 14 (.eff 19 (.eff 20 (.eff 21 (.still 22 .done))))))))))))))))))))))) _ (by kernel_rfl) (List.Sublist.refl _) ?_; refine TS.y rfl (Yv.fieldAddr rfl rfl) ?_; refine TS.y rfl (Yv.aa 1 rfl rfl rfl rfl) ?_; refine TS.y rfl (Yv.fieldAddr rfl rfl) ?_; refine TS.y rfl (Yv.aa 0 rfl rfl rfl rfl) ?_; refine TS.y rfl (Yv.fieldAddr rfl rfl) ?_; refine TS.y rfl (Yv.aa 1 rfl rfl rfl rfl) ?_; refine TS.y rfl (Yv.fieldAddr rfl rfl) ?_; refine TS.y rfl (Yv.aa 0 rfl rfl rfl rfl) ?_; refine TS.y rfl (Yv.fieldAddr rfl rfl) ?_; refine TS.y rfl (Yv.aa 1 rfl rfl rfl rfl) ?_; refine TS.y rfl (Yv.fieldAddr rfl rfl) ?_; refine TS.y rfl (Yv.aa 0 rfl rfl rfl rfl) ?_; refine TS.y rfl (Yv.fieldAddr rfl rfl) ?_; refine TS.y rfl (Yv.aa 1 rfl rfl rfl rfl) ?_; refine TS.y rfl (Yv.fieldAddr rfl rfl) ?_; refine TS.y rfl (Yv.aa 0 rfl rfl rfl rfl) ?_; refine TS.eff ?_; refine TSo.av rfl (Wt.none rfl) rfl rfl (Ew.af rfl rfl rfl (fun w hw => zaH _ w (hw.fr (i := 2) rfl) a.Station b.Station)) ?_; rintro _ _ ⟨rfl, rfl⟩; refine ⟨(fun w hw => hw.sub Sx), ?_⟩; refine TS.eff ?_; refine TSo.av rfl (Wt.none rfl) rfl rfl (Ew.af rfl rfl rfl (fun w hw => zaH _ w (hw.fr (i := 2) rfl) a.Max b.Max)) ?_; rintro _ _ ⟨rfl, rfl⟩; refine ⟨(fun w hw => hw.sub Sx), ?_⟩; refine TS.eff ?_; refine TSo.av rfl (Wt.none rfl) rfl rfl (Ew.af rfl rfl rfl (fun w hw => zaH _ w (hw.fr (i := 2) rfl) a.Low b.Low)) ?_; rintro _ _ ⟨rfl, rfl⟩; refine ⟨(fun w hw => hw.sub Sx), ?_⟩; refine TS.eff ?_; refine TSo.av rfl (Wt.none rfl) rfl rfl (Ew.af rfl rfl rfl (fun w hw => zaH _ w (hw.fr (i := 2) rfl) a.High b.High)) ?_; rintro _ _ ⟨rfl, rfl⟩; refine ⟨(fun w hw => hw.sub Sx), ?_⟩; refine TS.eff ?_; refine TSo.av rfl (Wt.none rfl) rfl rfl (Ew.buildSlice rfl rfl rfl (by decide)) ?_; rintro _ _ ⟨g25, rfl, rfl⟩; refine ⟨(fun w hw => hw.sub Sx), ?_⟩; refine TS.aw (fun w hw => hw.freezeR (i := 3) (j := 0) (by decide) rfl rfl) ?_; rintro F2 ⟨le1_2, hz2⟩; dsimp only [List.set, List.eraseIdx]; have hf2 : SlC F2.toFrz (.slice (some ⟨g25, 0, none⟩) 4 4) 1 ([(zac a.Station b.Station), (zac a.Max b.Max), (zac a.Low b.Low), (zac a.High b.High)].map eI) := (SlK.lit hz2 rfl (Nat.le_refl _) (by decide)).toF (xs := [(zac a.Station b.Station), (zac a.Max b.Max), (zac a.Low b.Low), (zac a.High b.High)]) rfl (fun _ => rfl); refine TS.eff ?_; refine TSo.av rfl (Wt.none rfl) rfl rfl (Ew.af rfl rfl rfl (fun w hw => zdE _ w (hw.fr (i := 2) rfl) [(zac a.Station b.Station), (zac a.Max b.Max), (zac a.Low b.Low), (zac a.High b.High)] (.slice (some ⟨g25, 0, none⟩) 4 4) hf2)) ?_; rintro _ _ ⟨rfl, rfl⟩; refine ⟨(fun w hw => (hw.frLe (i := 2) rfl le1_2).sub Sx), ?_⟩; refine TS.run 1 rfl ?_; refine TS.done ?_; refine K.seq (T.ret ?_); subst hk; exact K.aj rfl rfl (fun w' hw => ⟨rfl, hw.isBelow⟩)
def zbp (s1 : List Int) (s2 : List Int) : Bool :=
  (bif decide (¬ (s1.length : Int) = (s2.length : Int)) then
    false
    else
    zaW (fun (_ : Unit) =>
      true)
    (fun k2 =>
      zal (fun (i_4 : Nat) (next3 : Unit → Bool) (_ : Unit) =>
        (bif decide (¬ (nth s1 i_4) = (nth s2 i_4)) then
          false
          else
          next3 ()))
      (fun (_ : Unit) =>
        k2 ()) (s1.length - 0) 0 ()))
theorem zds (F0 : Frz) (w : World) (hF0 : F0.At w) (s1 : List Int) (vs1 : Value) (hs1 : SlC F0 vs1 1 (s1.map eI)) (s2 : List Int) (vs2 : Value) (hs2 : SlC F0 vs2 1 (s2.map eI)) : Calls Tryz.prog 81 #[vs1, vs2] w fun e w' => e = .returned (.bool (zbp s1 s2)) ∧ Below w.heap.size w w' := by
  obtain ⟨r, hk⟩ : ∃ r, zbp s1 s2 = r := ⟨_, rfl⟩; rw [hk]; unfold zbp at hk; haveI := hs1.oneC; haveI := hs2.oneC; obtain ⟨S0, F1, rfl, hS0, hp0⟩ := zap hF0; refine zao Tryz.func81 rfl rfl rfl hp0 ?_; refine T.sr ?_; refine TL.run 1 rfl ?_; refine TL.ns (T.seq (T.sr ?_)); refine TL.run 1 rfl ?_; refine TL.y (Yv.am rfl rfl hs1 (List.length_map _)) ?_; have hm7 : s1.length ≤ 9223372036854775807 := (List.length_map _) ▸ hs1.max; refine TL.run 1 rfl ?_; refine TL.y (Yv.am rfl rfl hs2 (List.length_map _)) ?_; have hm9 : s2.length ≤ 9223372036854775807 := (List.length_map _) ▸ hs2.max; refine TL.run 1 rfl ?_; refine TL.ns ?_; refine T.cond rfl (fun h1 => ?_) (fun h1 => ?_)
  · have p1 := of_decide_eq_true h1; replace hk := zaa hk h1; refine T.sr ?_; refine TL.run 1 rfl ?_; refine TL.ns (T.ret (K.then_ret ?_)); subst hk; exact K.aj rfl rfl (fun w' hw => ⟨rfl, hw.isBelow⟩)
  · have p1 := of_decide_eq_false h1; replace hk := zab hk h1; refine T.skip (K.seq (T.seq (T.sr ?_))); refine TL.run 1 rfl ?_; refine TL.y (Yv.am rfl rfl hs1 (List.length_map _)) ?_; refine TL.run 1 rfl ?_; refine TL.ns ?_; have hq := zag hk; clear hk; obtain ⟨k2, hk2, hk⟩ := hq; (try dsimp only at hk); refine T.ah (ι := Unit) (fun z => []) (fun z => [.fr F1]) (fun z => k2 () = r) ?_ ?_
    · have hq := zaq hk; clear hk; obtain ⟨f3, kk3, hf3, hkk3, hk⟩ := hq; refine T.block ?_; refine T.loop (ι := Nat) (fun z => [(0, vs1), (1, vs2), (12, .int .i64 (s1.length : Int)), (13, .int .i64 (z : Int))]) (fun z => [.fr F1]) (fun z => zal f3 kk3 (s1.length - z) z () = r) (fun z => s1.length - z) 0 ?_ ?_ ?_ ?_
      · exact hk
      · exact (.c (.c (.c (.c .nil))))
      · exact List.Sublist.refl _
      · rintro i_4 hk; refine T.sr ?_; refine TL.run 1 rfl ?_; refine TL.ns (T.seq ?_); refine T.cond rfl (fun h5 => ?_) (fun h5 => ?_)
        · have p5 := of_decide_eq_true h5; rw [zaD (by omega)] at hk; generalize hn3 : zal f3 kk3 (s1.length - (i_4 + 1)) (i_4 + 1) = next3 at hk; rw [← hf3] at hk; (try dsimp only at hk); refine T.skip (K.seq (T.seq (T.block (T.sr ?_)))); refine TL.run 2 rfl ?_; refine TL.ns (T.seq ?_); refine T.ay (.still 0 (.still 1 (.still 2 (.still 3 (.still 4 (.still 5 (.still 6 (.still 7 (.still 8 .done))))))))) _ (by kernel_rfl) (List.Sublist.refl _) ?_; refine TS.run 2 rfl ?_; refine TS.y rfl (Yv.ar (i := i_4) rfl rfl rfl hs1 (List.length_map _) rfl (by omega)) ?_; refine TS.y rfl (Yv.aA 0 (i := i_4) (j := 0) rfl rfl rfl hs1 (by omega) rfl rfl) ?_; refine TS.run 2 rfl ?_; refine TS.y rfl (Yv.ar (i := i_4) rfl rfl rfl hs2 (List.length_map _) rfl (by omega)) ?_; refine TS.y rfl (Yv.aA 0 (i := i_4) (j := 0) rfl rfl rfl hs2 (by omega) rfl rfl) ?_; refine TS.run 1 rfl ?_; refine TS.done ?_; refine K.seq ?_; refine T.cond rfl (fun h6 => ?_) (fun h6 => ?_)
          · have p6 := of_decide_eq_true h6; replace hk := zaa hk h6; refine T.sr ?_; refine TL.run 1 rfl ?_; refine TL.ns (T.ret (K.ag (K.then_ret (K.then_ret (K.ag (K.then_ret ?_)))))); subst hk; exact K.aj rfl rfl (fun w' hw => ⟨rfl, hw.isBelow⟩)
          · have p6 := of_decide_eq_false h6; replace hk := zab hk h6; refine T.skip (K.ac (K.seq (T.region ?_))); refine TL.y (Yv.aq rfl rfl rfl (by omega)) ?_; refine TL.run 1 rfl ?_; refine TL.nil ?_; rw [← hn3] at hk; exact K.next (i_4 + 1) hk (by omega) (.c (.c (.c (.c .nil)))) (List.Sublist.refl _)
        · have p5 := of_decide_eq_false h5; rw [zaE (by omega), ← hkk3] at hk; (try dsimp only at hk); refine T.exit (K.ab (K.ab (K.ad ?_))); exact K.ai () hk .nil (List.Sublist.refl _)
    · rintro _ hk; rw [← hk2] at hk; (try dsimp only at hk); refine T.sr ?_; refine TL.run 1 rfl ?_; refine TL.ns (T.ret ?_); subst hk; exact K.aj rfl rfl (fun w' hw => ⟨rfl, hw.isBelow⟩)
def zas (s1 : List GPair) (s2 : List GPair) : Bool :=
  (bif decide (¬ (s1.length : Int) = (s2.length : Int)) then
    false
    else
    zaW (fun (_ : Unit) =>
      true)
    (fun k2 =>
      zal (fun (i_4 : Nat) (next3 : Unit → Bool) (_ : Unit) =>
        (bif !(decide ((nth s1 i_4).A = (nth s2 i_4).A) && decide ((nth s1 i_4).B = (nth s2 i_4).B) && decide ((nth s1 i_4).Offset = (nth s2 i_4).Offset) && decide ((nth s1 i_4).Low = (nth s2 i_4).Low) && decide ((nth s1 i_4).High = (nth s2 i_4).High)) then
          false
          else
          next3 ()))
      (fun (_ : Unit) =>
        k2 ()) (s1.length - 0) 0 ()))
theorem zbU (F0 : Frz) (w : World) (hF0 : F0.At w) (s1 : List GPair) (vs1 : Value) (hs1 : SlC F0 vs1 5 (s1.map GPair.enc)) (s2 : List GPair) (vs2 : Value) (hs2 : SlC F0 vs2 5 (s2.map GPair.enc)) : Calls Tryz.prog 83 #[vs1, vs2] w fun e w' => e = .returned (.bool (zas s1 s2)) ∧ Below w.heap.size w w' := by
  obtain ⟨r, hk⟩ : ∃ r, zas s1 s2 = r := ⟨_, rfl⟩; rw [hk]; unfold zas at hk; haveI := hs1.oneC; haveI := hs2.oneC; obtain ⟨S0, F1, rfl, hS0, hp0⟩ := zap hF0; refine zao Tryz.func83 rfl rfl rfl hp0 ?_; refine T.sr ?_; refine TL.run 1 rfl ?_; refine TL.ns (T.seq (T.sr ?_)); refine TL.run 1 rfl ?_; refine TL.y (Yv.am rfl rfl hs1 (List.length_map _)) ?_; have hm7 : s1.length ≤ 9223372036854775807 := (List.length_map _) ▸ hs1.max; refine TL.run 1 rfl ?_; refine TL.y (Yv.am rfl rfl hs2 (List.length_map _)) ?_; have hm9 : s2.length ≤ 9223372036854775807 := (List.length_map _) ▸ hs2.max; refine TL.run 1 rfl ?_; refine TL.ns ?_; refine T.cond rfl (fun h1 => ?_) (fun h1 => ?_)
  · have p1 := of_decide_eq_true h1; replace hk := zaa hk h1; refine T.sr ?_; refine TL.run 1 rfl ?_; refine TL.ns (T.ret (K.then_ret ?_)); subst hk; exact K.aj rfl rfl (fun w' hw => ⟨rfl, hw.isBelow⟩)
  · have p1 := of_decide_eq_false h1; replace hk := zab hk h1; refine T.skip (K.seq (T.seq (T.sr ?_))); refine TL.run 1 rfl ?_; refine TL.y (Yv.am rfl rfl hs1 (List.length_map _)) ?_; refine TL.run 1 rfl ?_; refine TL.ns ?_; have hq := zag hk; clear hk; obtain ⟨k2, hk2, hk⟩ := hq; (try dsimp only at hk); refine T.ah (ι := Unit) (fun z => []) (fun z => [.fr F1]) (fun z => k2 () = r) ?_ ?_
    · have hq := zaq hk; clear hk; obtain ⟨f3, kk3, hf3, hkk3, hk⟩ := hq; refine T.block ?_; refine T.loop (ι := Nat) (fun z => [(0, vs1), (1, vs2), (12, .int .i64 (s1.length : Int)), (13, .int .i64 (z : Int))]) (fun z => [.fr F1]) (fun z => zal f3 kk3 (s1.length - z) z () = r) (fun z => s1.length - z) 0 ?_ ?_ ?_ ?_
      · exact hk
      · exact (.c (.c (.c (.c .nil))))
      · exact List.Sublist.refl _
      · rintro i_4 hk; refine T.sr ?_; refine TL.run 1 rfl ?_; refine TL.ns (T.seq ?_); refine T.cond rfl (fun h5 => ?_) (fun h5 => ?_)
        · have p5 := of_decide_eq_true h5; rw [zaD (by omega)] at hk; generalize hn3 : zal f3 kk3 (s1.length - (i_4 + 1)) (i_4 + 1) = next3 at hk; rw [← hf3] at hk; (try dsimp only at hk); refine T.skip (K.seq (T.seq (T.block (T.sr ?_)))); refine TL.run 2 rfl ?_; refine TL.ns (T.seq ?_); refine T.ay (.still 0 (.still 1 (.still 2 (.still 3 (.still 4 (.still 5 (.still 6 (.still 7 (.still 8 .done))))))))) _ (by kernel_rfl) (List.Sublist.refl _) ?_; refine TS.run 2 rfl ?_; refine TS.y rfl (Yv.ar (i := i_4) rfl rfl rfl hs1 (List.length_map _) rfl (by omega)) ?_; refine TS.y rfl (Yv.ao 0 (i := i_4) rfl rfl rfl hs1 (by omega) rfl rfl rfl) ?_; refine TS.run 2 rfl ?_; refine TS.y rfl (Yv.ar (i := i_4) rfl rfl rfl hs2 (List.length_map _) rfl (by omega)) ?_; refine TS.y rfl (Yv.ao 0 (i := i_4) rfl rfl rfl hs2 (by omega) rfl rfl rfl) ?_; refine TS.y rfl (Yv.bH (by kernel_rfl) rfl rfl rfl) ?_; refine TS.done ?_; refine K.seq ?_; refine T.cond rfl (fun h6 => ?_) (fun h6 => ?_)
          · replace hk := zaa hk h6; refine T.sr ?_; refine TL.run 1 rfl ?_; refine TL.ns (T.ret (K.ag (K.then_ret (K.then_ret (K.ag (K.then_ret ?_)))))); subst hk; exact K.aj rfl rfl (fun w' hw => ⟨rfl, hw.isBelow⟩)
          · have p6 := h6; (try simp only [nfB] at p6); replace hk := zab hk h6; refine T.skip (K.ac (K.seq (T.region ?_))); refine TL.y (Yv.aq rfl rfl rfl (by omega)) ?_; refine TL.run 1 rfl ?_; refine TL.nil ?_; rw [← hn3] at hk; exact K.next (i_4 + 1) hk (by omega) (.c (.c (.c (.c .nil)))) (List.Sublist.refl _)
        · have p5 := of_decide_eq_false h5; rw [zaE (by omega), ← hkk3] at hk; (try dsimp only at hk); refine T.exit (K.ab (K.ab (K.ad ?_))); exact K.ai () hk .nil (List.Sublist.refl _)
    · rintro _ hk; rw [← hk2] at hk; (try dsimp only at hk); refine T.sr ?_; refine TL.run 1 rfl ?_; refine TL.ns (T.ret ?_); subst hk; exact K.aj rfl rfl (fun w' hw => ⟨rfl, hw.isBelow⟩)
def zat (s1 : List GLoad) (s2 : List GLoad) : Bool :=
  (bif decide (¬ (s1.length : Int) = (s2.length : Int)) then
    false
    else
    zaW (fun (_ : Unit) =>
      true)
    (fun k2 =>
      zal (fun (i_4 : Nat) (next3 : Unit → Bool) (_ : Unit) =>
        (bif !(decide ((nth s1 i_4).To = (nth s2 i_4).To) && decide ((nth s1 i_4).From = (nth s2 i_4).From) && decide ((nth s1 i_4).Weight = (nth s2 i_4).Weight) && decide ((nth s1 i_4).Low = (nth s2 i_4).Low) && decide ((nth s1 i_4).High = (nth s2 i_4).High)) then
          false
          else
          next3 ()))
      (fun (_ : Unit) =>
        k2 ()) (s1.length - 0) 0 ()))
theorem zbV (F0 : Frz) (w : World) (hF0 : F0.At w) (s1 : List GLoad) (vs1 : Value) (hs1 : SlC F0 vs1 5 (s1.map GLoad.enc)) (s2 : List GLoad) (vs2 : Value) (hs2 : SlC F0 vs2 5 (s2.map GLoad.enc)) : Calls Tryz.prog 84 #[vs1, vs2] w fun e w' => e = .returned (.bool (zat s1 s2)) ∧ Below w.heap.size w w' := by
  obtain ⟨r, hk⟩ : ∃ r, zat s1 s2 = r := ⟨_, rfl⟩; rw [hk]; unfold zat at hk; haveI := hs1.oneC; haveI := hs2.oneC; obtain ⟨S0, F1, rfl, hS0, hp0⟩ := zap hF0; refine zao Tryz.func84 rfl rfl rfl hp0 ?_; refine T.sr ?_; refine TL.run 1 rfl ?_; refine TL.ns (T.seq (T.sr ?_)); refine TL.run 1 rfl ?_; refine TL.y (Yv.am rfl rfl hs1 (List.length_map _)) ?_; have hm7 : s1.length ≤ 9223372036854775807 := (List.length_map _) ▸ hs1.max; refine TL.run 1 rfl ?_; refine TL.y (Yv.am rfl rfl hs2 (List.length_map _)) ?_; have hm9 : s2.length ≤ 9223372036854775807 := (List.length_map _) ▸ hs2.max; refine TL.run 1 rfl ?_; refine TL.ns ?_; refine T.cond rfl (fun h1 => ?_) (fun h1 => ?_)
  · have p1 := of_decide_eq_true h1; replace hk := zaa hk h1; refine T.sr ?_; refine TL.run 1 rfl ?_; refine TL.ns (T.ret (K.then_ret ?_)); subst hk; exact K.aj rfl rfl (fun w' hw => ⟨rfl, hw.isBelow⟩)
  · have p1 := of_decide_eq_false h1; replace hk := zab hk h1; refine T.skip (K.seq (T.seq (T.sr ?_))); refine TL.run 1 rfl ?_; refine TL.y (Yv.am rfl rfl hs1 (List.length_map _)) ?_; refine TL.run 1 rfl ?_; refine TL.ns ?_; have hq := zag hk; clear hk; obtain ⟨k2, hk2, hk⟩ := hq; (try dsimp only at hk); refine T.ah (ι := Unit) (fun z => []) (fun z => [.fr F1]) (fun z => k2 () = r) ?_ ?_
    · have hq := zaq hk; clear hk; obtain ⟨f3, kk3, hf3, hkk3, hk⟩ := hq; refine T.block ?_; refine T.loop (ι := Nat) (fun z => [(0, vs1), (1, vs2), (12, .int .i64 (s1.length : Int)), (13, .int .i64 (z : Int))]) (fun z => [.fr F1]) (fun z => zal f3 kk3 (s1.length - z) z () = r) (fun z => s1.length - z) 0 ?_ ?_ ?_ ?_
      · exact hk
      · exact (.c (.c (.c (.c .nil))))
      · exact List.Sublist.refl _
      · rintro i_4 hk; refine T.sr ?_; refine TL.run 1 rfl ?_; refine TL.ns (T.seq ?_); refine T.cond rfl (fun h5 => ?_) (fun h5 => ?_)
        · have p5 := of_decide_eq_true h5; rw [zaD (by omega)] at hk; generalize hn3 : zal f3 kk3 (s1.length - (i_4 + 1)) (i_4 + 1) = next3 at hk; rw [← hf3] at hk; (try dsimp only at hk); refine T.skip (K.seq (T.seq (T.block (T.sr ?_)))); refine TL.run 2 rfl ?_; refine TL.ns (T.seq ?_); refine T.ay (.still 0 (.still 1 (.still 2 (.still 3 (.still 4 (.still 5 (.still 6 (.still 7 (.still 8 .done))))))))) _ (by kernel_rfl) (List.Sublist.refl _) ?_; refine TS.run 2 rfl ?_; refine TS.y rfl (Yv.ar (i := i_4) rfl rfl rfl hs1 (List.length_map _) rfl (by omega)) ?_; refine TS.y rfl (Yv.ao 0 (i := i_4) rfl rfl rfl hs1 (by omega) rfl rfl rfl) ?_; refine TS.run 2 rfl ?_; refine TS.y rfl (Yv.ar (i := i_4) rfl rfl rfl hs2 (List.length_map _) rfl (by omega)) ?_; refine TS.y rfl (Yv.ao 0 (i := i_4) rfl rfl rfl hs2 (by omega) rfl rfl rfl) ?_; refine TS.y rfl (Yv.bH (by kernel_rfl) rfl rfl rfl) ?_; refine TS.done ?_; refine K.seq ?_; refine T.cond rfl (fun h6 => ?_) (fun h6 => ?_)
          · replace hk := zaa hk h6; refine T.sr ?_; refine TL.run 1 rfl ?_; refine TL.ns (T.ret (K.ag (K.then_ret (K.then_ret (K.ag (K.then_ret ?_)))))); subst hk; exact K.aj rfl rfl (fun w' hw => ⟨rfl, hw.isBelow⟩)
          · have p6 := h6; (try simp only [nfB] at p6); replace hk := zab hk h6; refine T.skip (K.ac (K.seq (T.region ?_))); refine TL.y (Yv.aq rfl rfl rfl (by omega)) ?_; refine TL.run 1 rfl ?_; refine TL.nil ?_; rw [← hn3] at hk; exact K.next (i_4 + 1) hk (by omega) (.c (.c (.c (.c .nil)))) (List.Sublist.refl _)
        · have p5 := of_decide_eq_false h5; rw [zaE (by omega), ← hkk3] at hk; (try dsimp only at hk); refine T.exit (K.ab (K.ab (K.ad ?_))); exact K.ai () hk .nil (List.Sublist.refl _)
    · rintro _ hk; rw [← hk2] at hk; (try dsimp only at hk); refine T.sr ?_; refine TL.run 1 rfl ?_; refine TL.ns (T.ret ?_); subst hk; exact K.aj rfl rfl (fun w' hw => ⟨rfl, hw.isBelow⟩)
def zav (s1 : List GCap) (s2 : List GCap) : Bool :=
  (bif decide (¬ (s1.length : Int) = (s2.length : Int)) then
    false
    else
    zaW (fun (_ : Unit) =>
      true)
    (fun k2 =>
      zal (fun (i_4 : Nat) (next3 : Unit → Bool) (_ : Unit) =>
        (bif !(decide ((nth s1 i_4).Station = (nth s2 i_4).Station) && decide ((nth s1 i_4).Max = (nth s2 i_4).Max) && decide ((nth s1 i_4).Low = (nth s2 i_4).Low) && decide ((nth s1 i_4).High = (nth s2 i_4).High)) then
          false
          else
          next3 ()))
      (fun (_ : Unit) =>
        k2 ()) (s1.length - 0) 0 ()))
theorem zbZ (F0 : Frz) (w : World) (hF0 : F0.At w) (s1 : List GCap) (vs1 : Value) (hs1 : SlC F0 vs1 4 (s1.map GCap.enc)) (s2 : List GCap) (vs2 : Value) (hs2 : SlC F0 vs2 4 (s2.map GCap.enc)) : Calls Tryz.prog 85 #[vs1, vs2] w fun e w' => e = .returned (.bool (zav s1 s2)) ∧ Below w.heap.size w w' := by
  obtain ⟨r, hk⟩ : ∃ r, zav s1 s2 = r := ⟨_, rfl⟩; rw [hk]; unfold zav at hk; haveI := hs1.oneC; haveI := hs2.oneC; obtain ⟨S0, F1, rfl, hS0, hp0⟩ := zap hF0; refine zao Tryz.func85 rfl rfl rfl hp0 ?_; refine T.sr ?_; refine TL.run 1 rfl ?_; refine TL.ns (T.seq (T.sr ?_)); refine TL.run 1 rfl ?_; refine TL.y (Yv.am rfl rfl hs1 (List.length_map _)) ?_; have hm7 : s1.length ≤ 9223372036854775807 := (List.length_map _) ▸ hs1.max; refine TL.run 1 rfl ?_; refine TL.y (Yv.am rfl rfl hs2 (List.length_map _)) ?_; have hm9 : s2.length ≤ 9223372036854775807 := (List.length_map _) ▸ hs2.max; refine TL.run 1 rfl ?_; refine TL.ns ?_; refine T.cond rfl (fun h1 => ?_) (fun h1 => ?_)
  · have p1 := of_decide_eq_true h1; replace hk := zaa hk h1; refine T.sr ?_; refine TL.run 1 rfl ?_; refine TL.ns (T.ret (K.then_ret ?_)); subst hk; exact K.aj rfl rfl (fun w' hw => ⟨rfl, hw.isBelow⟩)
  · have p1 := of_decide_eq_false h1; replace hk := zab hk h1; refine T.skip (K.seq (T.seq (T.sr ?_))); refine TL.run 1 rfl ?_; refine TL.y (Yv.am rfl rfl hs1 (List.length_map _)) ?_; refine TL.run 1 rfl ?_; refine TL.ns ?_; have hq := zag hk; clear hk; obtain ⟨k2, hk2, hk⟩ := hq; (try dsimp only at hk); refine T.ah (ι := Unit) (fun z => []) (fun z => [.fr F1]) (fun z => k2 () = r) ?_ ?_
    · have hq := zaq hk; clear hk; obtain ⟨f3, kk3, hf3, hkk3, hk⟩ := hq; refine T.block ?_; refine T.loop (ι := Nat) (fun z => [(0, vs1), (1, vs2), (12, .int .i64 (s1.length : Int)), (13, .int .i64 (z : Int))]) (fun z => [.fr F1]) (fun z => zal f3 kk3 (s1.length - z) z () = r) (fun z => s1.length - z) 0 ?_ ?_ ?_ ?_
      · exact hk
      · exact (.c (.c (.c (.c .nil))))
      · exact List.Sublist.refl _
      · rintro i_4 hk; refine T.sr ?_; refine TL.run 1 rfl ?_; refine TL.ns (T.seq ?_); refine T.cond rfl (fun h5 => ?_) (fun h5 => ?_)
        · have p5 := of_decide_eq_true h5; rw [zaD (by omega)] at hk; generalize hn3 : zal f3 kk3 (s1.length - (i_4 + 1)) (i_4 + 1) = next3 at hk; rw [← hf3] at hk; (try dsimp only at hk); refine T.skip (K.seq (T.seq (T.block (T.sr ?_)))); refine TL.run 2 rfl ?_; refine TL.ns (T.seq ?_); refine T.ay (.still 0 (.still 1 (.still 2 (.still 3 (.still 4 (.still 5 (.still 6 (.still 7 (.still 8 .done))))))))) _ (by kernel_rfl) (List.Sublist.refl _) ?_; refine TS.run 2 rfl ?_; refine TS.y rfl (Yv.ar (i := i_4) rfl rfl rfl hs1 (List.length_map _) rfl (by omega)) ?_; refine TS.y rfl (Yv.ao 0 (i := i_4) rfl rfl rfl hs1 (by omega) rfl rfl rfl) ?_; refine TS.run 2 rfl ?_; refine TS.y rfl (Yv.ar (i := i_4) rfl rfl rfl hs2 (List.length_map _) rfl (by omega)) ?_; refine TS.y rfl (Yv.ao 0 (i := i_4) rfl rfl rfl hs2 (by omega) rfl rfl rfl) ?_; refine TS.y rfl (Yv.bY (by kernel_rfl) rfl rfl rfl) ?_; refine TS.done ?_; refine K.seq ?_; refine T.cond rfl (fun h6 => ?_) (fun h6 => ?_)
          · replace hk := zaa hk h6; refine T.sr ?_; refine TL.run 1 rfl ?_; refine TL.ns (T.ret (K.ag (K.then_ret (K.then_ret (K.ag (K.then_ret ?_)))))); subst hk; exact K.aj rfl rfl (fun w' hw => ⟨rfl, hw.isBelow⟩)
          · have p6 := h6; (try simp only [nfB] at p6); replace hk := zab hk h6; refine T.skip (K.ac (K.seq (T.region ?_))); refine TL.y (Yv.aq rfl rfl rfl (by omega)) ?_; refine TL.run 1 rfl ?_; refine TL.nil ?_; rw [← hn3] at hk; exact K.next (i_4 + 1) hk (by omega) (.c (.c (.c (.c .nil)))) (List.Sublist.refl _)
        · have p5 := of_decide_eq_false h5; rw [zaE (by omega), ← hkk3] at hk; (try dsimp only at hk); refine T.exit (K.ab (K.ab (K.ad ?_))); exact K.ai () hk .nil (List.Sublist.refl _)
    · rintro _ hk; rw [← hk2] at hk; (try dsimp only at hk); refine T.sr ?_; refine TL.run 1 rfl ?_; refine TL.ns (T.ret ?_); subst hk; exact K.aj rfl rfl (fun w' hw => ⟨rfl, hw.isBelow⟩)
def zbD (s : List Int) (v_ : Int) : Int :=
  zaW (fun (_ : Unit) =>
    (-1))
  (fun k1 =>
    zal (fun (i_3 : Nat) (next2 : Unit → Int) (_ : Unit) =>
      (bif decide (v_ = (nth s i_3)) then
        (i_3 : Int)
        else
        next2 ()))
    (fun (_ : Unit) =>
      k1 ()) (s.length - 0) 0 ())
theorem zdq (F0 : Frz) (w : World) (hF0 : F0.At w) (s : List Int) (vs : Value) (hs : SlC F0 vs 1 (s.map eI)) (v_ : Int) : Calls Tryz.prog 133 #[vs, .int .i64 v_] w fun e w' => e = .returned (.int .i64 (zbD s v_)) ∧ Below w.heap.size w w' := by
  obtain ⟨r, hk⟩ : ∃ r, zbD s v_ = r := ⟨_, rfl⟩; rw [hk]; unfold zbD at hk; haveI := hs.oneC; obtain ⟨S0, F1, rfl, hS0, hp0⟩ := zap hF0; refine zao Tryz.func133 rfl rfl rfl hp0 ?_; refine T.sr ?_; refine TL.run 1 rfl ?_; refine TL.ns (T.seq (T.sr ?_)); refine TL.run 1 rfl ?_; refine TL.y (Yv.am rfl rfl hs (List.length_map _)) ?_; have hm7 : s.length ≤ 9223372036854775807 := (List.length_map _) ▸ hs.max; refine TL.run 1 rfl ?_; refine TL.ns ?_; have hq := zag hk; clear hk; obtain ⟨k1, hk1, hk⟩ := hq; (try dsimp only at hk); refine T.ah (ι := Unit) (fun z => []) (fun z => [.fr F1]) (fun z => k1 () = r) ?_ ?_
  · have hq := zaq hk; clear hk; obtain ⟨f2, kk2, hf2, hkk2, hk⟩ := hq; refine T.block ?_; refine T.loop (ι := Nat) (fun z => [(0, vs), (1, .int .i64 v_), (7, .int .i64 (s.length : Int)), (8, .int .i64 (z : Int))]) (fun z => [.fr F1]) (fun z => zal f2 kk2 (s.length - z) z () = r) (fun z => s.length - z) 0 ?_ ?_ ?_ ?_
    · exact hk
    · exact (.c (.c (.c (.c .nil))))
    · exact List.Sublist.refl _
    · rintro i_3 hk; refine T.sr ?_; refine TL.run 1 rfl ?_; refine TL.ns (T.seq ?_); refine T.cond rfl (fun h4 => ?_) (fun h4 => ?_)
      · have p4 := of_decide_eq_true h4; rw [zaD (by omega)] at hk; generalize hn2 : zal f2 kk2 (s.length - (i_3 + 1)) (i_3 + 1) = next2 at hk; rw [← hf2] at hk; (try dsimp only at hk); refine T.skip (K.seq (T.seq (T.block (T.sr ?_)))); refine TL.run 2 rfl ?_; refine TL.nx ?_; refine TL.run 3 rfl ?_; refine TL.y (Yv.ar (i := i_3) rfl rfl rfl hs (List.length_map _) rfl (by omega)) ?_; refine TL.y (Yv.aA 0 (i := i_3) (j := 0) rfl rfl rfl hs (by omega) rfl rfl) ?_; refine TL.run 1 rfl ?_; refine TL.ns ?_; refine T.cond rfl (fun h5 => ?_) (fun h5 => ?_)
        · have p5 := of_decide_eq_true h5; replace hk := zaa hk h5; refine T.sr ?_; refine TL.run 2 rfl ?_; refine TL.ns (T.ret (K.ag (K.then_ret (K.then_ret (K.ag (K.then_ret ?_)))))); subst hk; exact K.aj rfl rfl (fun w' hw => ⟨rfl, hw.isBelow⟩)
        · have p5 := of_decide_eq_false h5; replace hk := zab hk h5; refine T.skip (K.ac (K.seq (T.region ?_))); refine TL.y (Yv.aq rfl rfl rfl (by omega)) ?_; refine TL.run 1 rfl ?_; refine TL.nil ?_; rw [← hn2] at hk; exact K.next (i_3 + 1) hk (by omega) (.c (.c (.c (.c .nil)))) (List.Sublist.refl _)
      · have p4 := of_decide_eq_false h4; rw [zaE (by omega), ← hkk2] at hk; (try dsimp only at hk); refine T.exit (K.ab (K.ab (K.ad ?_))); exact K.ai () hk .nil (List.Sublist.refl _)
  · rintro _ hk; rw [← hk1] at hk; (try dsimp only at hk); refine T.sr ?_; refine TL.run 1 rfl ?_; refine TL.ns (T.ret ?_); subst hk; exact K.aj rfl rfl (fun w' hw => ⟨rfl, hw.isBelow⟩)
def za6 (s : List Int) (v_ : Int) : Bool :=
  (decide (0 ≤ (zbD s v_)))
theorem zcH (F0 : Frz) (w : World) (hF0 : F0.At w) (s : List Int) (vs : Value) (hs : SlC F0 vs 1 (s.map eI)) (v_ : Int) : Calls Tryz.prog 108 #[vs, .int .i64 v_] w fun e w' => e = .returned (.bool (za6 s v_)) ∧ Below w.heap.size w w' := by
  obtain ⟨r, hk⟩ : ∃ r, za6 s v_ = r := ⟨_, rfl⟩; rw [hk]; unfold za6 at hk; haveI := hs.oneC; obtain ⟨S0, F1, rfl, hS0, hp0⟩ := zap hF0; refine zao Tryz.func108 rfl rfl rfl hp0 ?_; refine T.sr ?_; refine TL.run 1 rfl ?_; refine TL.nx ?_; refine TL.run 2 rfl ?_; refine TL.e (Ew.af rfl rfl rfl (fun w hw => zdq _ w (hw.fr (i := 0) rfl) s vs hs v_)) ?_; rintro _ _ ⟨rfl, rfl⟩; refine TL.run 2 rfl ?_; refine TL.ns (T.ret ?_); subst hk; exact K.aj rfl rfl (fun w' hw => ⟨rfl, hw.isBelow⟩)
structure GViolation where
  Kind : Int
  At : Int
deriving DecidableEq, Inhabited
abbrev GViolation.enc (x : GViolation) : List Value := [.int .i64 x.Kind, .int .i64 x.At]
theorem GViolation.len (x : GViolation) : (GViolation.enc x).length = 2 := rfl
def za1 (x_ : GPair) (l : List GChoice) : Bool :=
  (((((decide (¬ (zbL l x_.A) = 0)) && (decide (¬ (zbL l x_.B) = 0))) && (decide (x_.Low ≤ (zbL l x_.A)))) && (decide ((zbL l x_.A) ≤ x_.High))) && (decide ((zbL l x_.B) = wI ((zbL l x_.A) + x_.Offset))))
def zeW (p : GProblem) (n : Int) (channel : Int) (l : List GChoice) : Int :=
  zaW (fun (sum_1 : Int) =>
    sum_1)
  (fun k2 =>
    zal (fun (i_5 : Nat) (next4 : Int → Int) (sum_3 : Int) =>
      (bif ((((decide ((nth p.Rules.Loads i_5).To = n)) && (decide ((zbL l ((nth p.Rules.Loads i_5).From)) = channel))) && (decide ((nth p.Rules.Loads i_5).Low ≤ channel))) && (decide (channel ≤ (nth p.Rules.Loads i_5).High))) then
        next4 (wI (sum_3 + ((nth p.Rules.Loads i_5).Weight)))
        else
        next4 sum_3))
    (fun (sum_3 : Int) =>
      k2 sum_3) (p.Rules.Loads.length - 0) 0 0)
def zbb (p : GProblem) (x_ : GCap) (l : List GChoice) : Bool :=
  ((((decide (¬ (zbL l x_.Station) = 0)) && (decide (x_.Low ≤ (zbL l x_.Station)))) && (decide ((zbL l x_.Station) ≤ x_.High))) && (decide (x_.Max < (zeW p x_.Station (zbL l x_.Station) l))))
def zbW (p : GProblem) (l : List GChoice) (all : Bool) : GViolation :=
  zaW (fun (s3 : Int × Int) =>
    zaW (fun (s16 : Int × Int) =>
      zaW (fun (s25 : Int × Int) =>
        zaW (fun (s34 : Int × Int) =>
          (GViolation.mk 0 0))
        (fun k34 =>
          zal (fun (i_38 : Nat) (next37 : (Int × Int) → GViolation) (s37 : Int × Int) =>
            (bif (zbb p (nth p.Rules.Caps i_38) l) then
              (GViolation.mk 4 (i_38 : Int))
              else
              next37 (s37.1, s37.2)))
          (fun (s37 : Int × Int) =>
            k34 (s37.1, s37.2)) (p.Rules.Caps.length - 0) 0 (s25.1, s25.2)))
      (fun k25 =>
        zal (fun (i_29 : Nat) (next28 : (Int × Int) → GViolation) (s28 : Int × Int) =>
          (bif (za1 (nth p.Rules.Pairs i_29) l) then
            (GViolation.mk 3 (i_29 : Int))
            else
            next28 (s28.1, s28.2)))
        (fun (s28 : Int × Int) =>
          k25 (s28.1, s28.2)) (p.Rules.Pairs.length - 0) 0 (s16.1, s16.2)))
    (fun k16 =>
      zal (fun (i_20 : Nat) (next19 : (Int × Int) → GViolation) (s19 : Int × Int) =>
        (bif decide ((zdQ p ((nth l i_20).Station)) < 0) then
          (GViolation.mk 2 (i_20 : Int))
          else
          next19 (s19.1, s19.2)))
      (fun (s19 : Int × Int) =>
        k16 (s19.1, s19.2)) (l.length - 0) 0 (s3.1, s3.2)))
  (fun k3 =>
    zal (fun (i_7 : Nat) (next6 : (Int × Int) → GViolation) (s6 : Int × Int) =>
      (bif (((decide ((zbL l ((nth p.Domains i_7).Station)) = 0)) && all) || ((decide (¬ (zbL l ((nth p.Domains i_7).Station)) = 0)) && (!(zak ((nth p.Domains i_7).Channels) (zbL l ((nth p.Domains i_7).Station)))))) then
        (GViolation.mk 1 (i_7 : Int))
        else
        next6 (s6.1, s6.2)))
    (fun (s6 : Int × Int) =>
      k3 (s6.1, s6.2)) (p.Domains.length - 0) 0 (0, 0))
section
variable {P : Program} {n : Nat} {B D : World} {M : Nat → Prop} {fs : SFs} {hs : HS} {o : Oper} {v : Value}
theorem Yv.bf {op : BinOp} {x y : Operand} {t u : TypeId} {a b : Value} (ho : o.op = .binOp op t x y u) (hx : ev fs x = some a) (hy : ev fs y = some b) (hr : ∀ w, (do eqGuard op t x y a b; binOp op t a b : Sem Value).run P w = .ok v w) : Yv P n B M fs hs o v := fun f w ha _ => by
  unfold execOp; simp only [ho, ha.ev hx, ha.ev hy]; rw [Sem.run_bind, hr w]
  rfl
end
theorem Fx.hp {F : Frz} {w w' : World} {es : HS} (hF : F.At w) (h : Hp w (fun _ => False) es w') : ∃ G : Frz, Fx F w G w' ∧ G.w = w' ∧ ∀ e ∈ es, ∀ g, e.fp g → Cb w' g → G.S g := by
  have hb := h.isBelow; have hF' := hF.below hb; refine ⟨⟨fun g => F.S g ∨ ((∃ e ∈ es, e.fp g) ∧ Cb w' g), w', fun g hg => hg.elim (fun h => hF'.cb h) (fun h => h.2)⟩, ⟨fun g hg => ⟨.inl hg, hF' g hg⟩, fun g _ => rfl, fun g hg => ?_, hb⟩, rfl, fun e he g hg hc => .inr ⟨⟨e, he, hg⟩, hc⟩⟩; rcases hg with h1 | ⟨⟨e, he, hg⟩, _⟩
  · exact .inl h1
  · exact .inr ((h.new e he g hg).elim (fun h => h.elim) id)
theorem SlK.ent {G : Frz} {w' : World} {v : Value} {e : TypeId} {size k : Nat} {l : List Value} (hok : (Ent.sl v e size k l).ok w') (hw : G.w = w') (hS : ∀ g, (Ent.sl v e size k l).fp g → Cb w' g → G.S g) : SlK G v size k l := by
  have ho := Ent.sl_ok.1 hok; rcases ho.2 with ⟨rfl, h0⟩ | ⟨g, cap, cur, rfl, hb, hg, hnc, hcm, hcs, htake⟩
  · subst h0; exact ⟨ho.1, none, 0, rfl, Nat.le_refl _, by omega, fun h => by omega⟩
  · refine ⟨ho.1, _, cap, rfl, hnc, by unfold maxLen at hcm; omega, fun _ => ⟨g, rfl, hS g (Ent.sl_fp.2 rfl) ⟨_, _, _, hg⟩, fun q hq => ?_⟩⟩; rw [hw, Nat.zero_add, World.ownsRow.cellAt ho q (by rw [← ho.1]; exact hq)]
theorem zfE (F0 : Frz) (w : World) (hF0 : F0.At w) (l : List Int) (vl : Value) (hl : SlC F0 vl 1 (l.map eI)) (hr : room l.length 8) : Calls Tryz.prog 50 #[vl] w fun e w' => ∃ (y : Value) (G : Frz), SlC G y 1 (l.map eI) ∧ e = .returned y ∧ Fx F0 w G w' := by
  haveI := hl.oneC; have hl0 := hl; obtain ⟨A, cap, hv, hlc, hcm, hcl, hcs⟩ := hl0; have hlen : (l.map eI).length = l.length := List.length_map _
  cases hA : A with
  | none =>
    have h0 : ¬ 0 < l.length := fun h => by
      obtain ⟨g, off, h1, _⟩ := hcs (by rw [hlen]; exact h); rw [hA] at h1; cases h1
    refine Calls.mono (R := fun e w' => e = .returned (.slice none 0 0) ∧ Below w.heap.size w w') ?_ ?_
    · obtain ⟨S0, F1, hF1, hS0, hp0⟩ := zap hF0; refine zao (M := fun _ => False) (hs := [.fr F1]) Tryz.func50 rfl rfl rfl hp0 ?_; refine T.sr ?_; refine TL.run 1 rfl ?_; refine TL.ns (T.seq (T.sr ?_)); refine TL.run 1 rfl ?_; refine TL.y (Yv.bf (v := .bool true) rfl rfl rfl (fun w => by rw [hv, hA]; kernel_rfl)) ?_; refine TL.ns ?_; refine T.bK rfl rfl ?_; refine T.sr ?_; refine TL.run 1 rfl ?_; refine TL.ns (T.ret (K.then_ret ?_)); exact K.aj rfl rfl (fun w' hw => ⟨rfl, hw.isBelow⟩)
    · rintro e w' ⟨rfl, hb⟩
      cases l with
      | nil => exact ⟨.slice none 0 0, F0, SlC.nil _ 1, rfl, Fx.refl hF0 hb⟩
      | cons x r => simp at h0
  | some a =>
    refine Calls.mono (R := fun e w' => ∃ v' : Value, e = .returned v' ∧ Hp w (fun _ => False) [.sl v' 3 1 l.length (l.flatMap eI)] w') ?_ ?_
    · obtain ⟨S0, F1, hF1, hS0, hp0⟩ := zap hF0; rw [← hF1] at hl; refine zao (M := fun _ => False) (hs := [.fr F1]) Tryz.func50 rfl rfl rfl hp0 ?_; refine T.sr ?_; refine TL.run 1 rfl ?_; refine TL.ns (T.seq (T.sr ?_)); refine TL.run 1 rfl ?_; refine TL.y (Yv.bf (v := .bool false) rfl rfl rfl (fun w => by rw [hv, hA]; kernel_rfl)) ?_; refine TL.ns ?_; refine T.bk rfl rfl ?_; refine T.skip (K.seq (T.sr ?_)); refine TL.e (Ew.aW rfl) ?_; rintro _ _ ⟨g, rfl, rfl⟩; refine TL.run 1 rfl ?_; refine TL.e (Ew.aY 0 1 (k' := l.length) (l' := l.flatMap eI) (zhz (enc := eI) (fun _ => inferInstance)) rfl rfl rfl rfl rfl hl (by rw [List.length_map]; omega) (by rw [List.nil_append, ← List.flatMap_def]) hr (by decide)) ?_; rintro v' _ ⟨hv', rfl⟩; refine TL.run 1 rfl ?_; refine TL.ns (T.ret ?_); exact K.aj rfl rfl (fun w' hw => ⟨v', rfl, hw.sub Sx⟩)
    · rintro e w' ⟨v', rfl, hw⟩; obtain ⟨G, h1, h2, h3⟩ := Fx.hp hF0 hw; have h4 := SlK.ent (G := G) (hw.own (.sl v' 3 1 l.length (l.flatMap eI)) (by simp)) h2 (h3 _ (by simp)); exact ⟨v', G, h4.toF rfl (fun _ => rfl), rfl, h1⟩
end Go.Proofs.YtipomhejoajjdaaGreat
