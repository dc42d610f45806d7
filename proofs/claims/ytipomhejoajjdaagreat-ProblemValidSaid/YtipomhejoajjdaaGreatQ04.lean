/- Yo: shortened and put together by squeeze.py. -/
import Derived.Test.YtipomhejoajjdaaGreatQ03
set_option maxRecDepth 100000
set_option maxHeartbeats 4000000
set_option linter.unusedVariables false
set_option linter.unusedSectionVars false
set_option linter.unusedSimpArgs false
namespace Go.Proofs.YtipomhejoajjdaaGreat
open Go.RowKit
structure GSet where
  words : Vec 8 (BitVec 64)
deriving DecidableEq, Inhabited
abbrev GSet.enc (x : GSet) : List Value := (x.words.1.map U)
theorem GSet.len (x : GSet) : (GSet.enc x).length = 8 := Vec.len
def za8 (i : Int) : Bool :=
  ((decide (0 ≤ i)) && (decide (i < 512)))
theorem zcV (F0 : Frz) (w : World) (hF0 : F0.At w) (i : Int) : Calls Tryz.prog 113 #[.int .i64 i] w fun e w' => e = .returned (.bool (za8 i)) ∧ Below w.heap.size w w' := by
  obtain ⟨r, hk⟩ : ∃ r, za8 i = r := ⟨_, rfl⟩; rw [hk]; unfold za8 at hk; obtain ⟨S0, F1, rfl, hS0, hp0⟩ := zah hF0; refine zan Tryz.func113 rfl rfl rfl hp0 ?_; refine T.sr ?_; refine TL.run 1 rfl ?_; refine TL.ns (T.seq ?_); refine T.ah (ι := Unit) (fun z => [(2, .bool ((decide (0 ≤ i)) && (decide (i < 512))))]) (fun z => [.fr F1]) (fun z => True) ?_ ?_
  · refine T.region ?_; refine TL.run 3 rfl ?_; refine TL.gs rfl rfl rfl (fun h1 => ?_) (fun h1 => ?_)
    · have p1 := of_decide_eq_true h1; refine TL.run 4 rfl ?_; refine TL.nil ?_; exact K.ag () trivial (.b (zcI h1) .nil) (List.Sublist.refl _)
    · have p1 := of_decide_eq_false h1; refine TL.run 4 rfl ?_; refine TL.nil ?_; exact K.ag () trivial (.b (zav h1).symm .nil) (List.Sublist.refl _)
  · rintro _ _; refine T.ret ?_; subst hk; exact K.aj rfl rfl (fun w' hw => ⟨rfl, hw.isBelow⟩)
def zcd (l : List Int) : Option (GSet × Int) :=
  zaM (fun (s3 : Vec 8 (BitVec 64) × Vec 8 (BitVec 64)) =>
    some ((GSet.mk s3.2), 0))
  (fun k3 =>
    zaj (fun (i_7 : Nat) (next6 : (Vec 8 (BitVec 64) × Vec 8 (BitVec 64)) → Option (GSet × Int)) (s6 : Vec 8 (BitVec 64) × Vec 8 (BitVec 64)) =>
      (bif !(za8 (nth l i_7)) then
        some ((GSet.mk (Vec.fill 8 (0#64))), 2)
        else
        grd (0 ≤ (nth l i_7) ∧ (nth l i_7) ≤ 9223372036854775807 ∧ 1 ≤ (64 : Int)) <|
        grd (0 ≤ ((nth l i_7) / 64) ∧ ((nth l i_7) / 64) < (8 : Int)) <|
        grd (0 ≤ (nth l i_7) ∧ 1 ≤ (64 : Int)) <|
        grd (0 ≤ ((nth l i_7) % 64) ∧ ((nth l i_7) % 64) < (64 : Int)) <|
        next6 (s6.1, (Vec.put s6.2 (((nth l i_7) / 64).toNat) ((Vec.get s6.2 (((nth l i_7) / 64).toNat)) ||| ((1#64) <<< (((nth l i_7) % 64).toNat)))))))
    (fun (s6 : Vec 8 (BitVec 64) × Vec 8 (BitVec 64)) =>
      k3 (s6.1, s6.2)) (l.length - 0) 0 ((Vec.fill 8 (0#64)), (Vec.fill 8 (0#64))))
theorem zen (F0 : Frz) (w : World) (hF0 : F0.At w) (l : List Int) (vl : Value) (hl : SlC F0 vl 1 (l.map eI)) (r : GSet × Int) (hr : zcd l = some r) : Calls Tryz.prog 46 #[vl] w fun e w' => e = .returned (.tuple #[.agg (r.1.words.1.map U).toArray, .int .i64 r.2]) ∧ Below w.heap.size w w' := by
  have hk := hr; unfold zcd at hk; haveI := hl.oneC; obtain ⟨S0, F1, rfl, hS0, hp0⟩ := zah hF0; refine zan Tryz.func46 rfl rfl rfl hp0 ?_; refine T.sr ?_; refine TL.e (Ew.aD (l := ((Vec.fill 8 (0#64)).1.map U)) rfl (by kernel_rfl)) ?_; rintro _ _ ⟨g2, rfl, rfl⟩; refine TL.run 1 rfl ?_; refine TL.nx ?_; refine TL.e (Ew.aD (l := ((Vec.fill 8 (0#64)).1.map U)) rfl (by kernel_rfl)) ?_; rintro _ _ ⟨g4, rfl, rfl⟩; refine TL.ns (T.seq (T.sr ?_)); refine TL.run 1 rfl ?_; refine TL.y (Yv.al rfl rfl hl (List.length_map _)) ?_; have hm8 : l.length ≤ 9223372036854775807 := (List.length_map _) ▸ hl.max; refine TL.run 1 rfl ?_; refine TL.ns ?_; have hq := zaf hk; clear hk; obtain ⟨k3, hk3, hk⟩ := hq; (try dsimp only at hk); refine T.ah (ι := Vec 8 (BitVec 64) × Vec 8 (BitVec 64)) (fun z => [(2, .pointer (some ⟨g2, 0, none⟩)), (4, .pointer (some ⟨g4, 0, none⟩))]) (fun z => [.row g2 91 (z.1.1.map U), .row g4 91 (z.2.1.map U), .fr F1]) (fun z => k3 (z.1, z.2) = some r) ?_ ?_
  · have hq := zak hk; clear hk; obtain ⟨f6, kk6, hf6, hkk6, hk⟩ := hq; refine T.block ?_; refine T.pick [1, 0, 2] rfl (by decide) ?_; refine T.loop (ι := Nat × Vec 8 (BitVec 64) × Vec 8 (BitVec 64)) (fun z => [(2, .pointer (some ⟨g2, 0, none⟩)), (4, .pointer (some ⟨g4, 0, none⟩)), (7, vl), (8, .int .i64 (l.length : Int)), (9, .int .i64 (z.1 : Int))]) (fun z => [.row g2 91 (z.2.1.1.map U), .row g4 91 (z.2.2.1.map U), .fr F1]) (fun z => zaj f6 kk6 (l.length - z.1) z.1 (z.2.1, z.2.2) = some r) (fun z => l.length - z.1) (0, (Vec.fill 8 (0#64)), (Vec.fill 8 (0#64))) ?_ ?_ ?_ ?_
    · exact hk
    · exact (.c (.c (.c (.c (.c .nil)))))
    · exact List.Sublist.refl _
    · rintro ⟨i_7, c_4, c_5⟩ hk; (try dsimp only at *); refine T.sr ?_; refine TL.run 1 rfl ?_; refine TL.ns (T.seq ?_); refine T.cond rfl (fun h8 => ?_) (fun h8 => ?_)
      · have p8 := of_decide_eq_true h8; rw [zat (by omega)] at hk; generalize hn6 : zaj f6 kk6 (l.length - (i_7 + 1)) (i_7 + 1) = next6 at hk; rw [← hf6] at hk; (try dsimp only at hk); refine T.skip (K.seq (T.seq (T.block (T.sr ?_)))); refine TL.y (Yv.am (i := i_7) rfl rfl rfl hl (List.length_map _) rfl (by omega)) ?_; refine TL.y (Yv.aq 2 (i := i_7) (j := 0) rfl rfl rfl hl (by omega) rfl rfl) ?_; refine TL.run 1 rfl ?_; refine TL.ns (T.seq (T.sr ?_)); refine TL.run 1 rfl ?_; refine TL.e (Ew.ae rfl rfl rfl (fun w hw => zcV _ w (hw.fr (i := 2) rfl) (nth l i_7))) ?_; rintro _ _ ⟨rfl, rfl⟩; refine TL.run 1 rfl ?_; refine TL.ns ?_; refine T.cond rfl (fun h9 => ?_) (fun h9 => ?_)
        · replace hk := zab hk h9; refine T.sr ?_; refine TL.y ((Yv.build rfl rfl).eq (v := .agg ((Vec.fill 8 (0#64)).1.map U).toArray) (by kernel_rfl)) ?_; refine TL.e0 (Ew.ai 0 rfl rfl rfl rfl Vec.len (Vec.len.trans Vec.len.symm)) ?_; rintro _ _ ⟨rfl, rfl⟩; refine TL.run 1 rfl ?_; refine TL.ns (T.ret (K.a (K.af (K.a (K.a (K.af (K.a ?_))))))); obtain rfl := Option.some.inj hk; exact K.aH 0 rfl rfl rfl rfl Vec.len (fun w' hw => ⟨rfl, hw.isBelow⟩)
        · replace hk := zaa hk h9; refine T.skip (K.seq ?_); have hq : (0 ≤ (nth l i_7) ∧ (nth l i_7) ≤ 9223372036854775807 ∧ 1 ≤ (64 : Int)) ∧ _ := zaK hk; clear hk; obtain ⟨g18, hk⟩ := hq; have hq : (0 ≤ ((nth l i_7) / 64) ∧ ((nth l i_7) / 64) < (8 : Int)) ∧ _ := zaK hk; clear hk; obtain ⟨g20, hk⟩ := hq; have hq : (0 ≤ (nth l i_7) ∧ 1 ≤ (64 : Int)) ∧ _ := zaK hk; clear hk; obtain ⟨g23, hk⟩ := hq; have hq : (0 ≤ ((nth l i_7) % 64) ∧ ((nth l i_7) % 64) < (64 : Int)) ∧ _ := zaK hk; clear hk; obtain ⟨g24, hk⟩ := hq; (try dsimp only at hk); refine T.av (.still 0 (.still 1 (.still 2 (.still 3 (.still 5 (.still 6 (.still 7 (.still 9 (.eff 4 (.still 8 (.still 10 (.eff 11 .done)))))))))))) [.row g2 91 (c_4.1.map U), .fr F1] (by kernel_rfl) Sx ?_; refine TS.run 1 rfl ?_; refine TS.y rfl (Yv.bp rfl rfl rfl g18) ?_; refine TS.y rfl (Yv.fieldAddr rfl rfl) ?_; refine TS.y rfl (Yv.aw (i := ((nth l i_7) / 64).toNat) rfl rfl rfl (by omega) (by omega)) ?_; refine TS.run 1 rfl ?_; refine TS.y rfl (Yv.bq rfl rfl rfl g23) ?_; refine TS.y rfl (Yv.bg (a := 1#64) (((nth l i_7) % 64).toNat) rfl rfl rfl (by omega) (by omega)) ?_; refine TS.y rfl (Yv.fieldAddr rfl rfl) ?_; refine TS.eff ?_; refine TSo.bi rfl (Wt.none rfl) rfl rfl (Yv.aa 1 rfl rfl rfl (zcX (by omega) (Vec.cell (i := ((nth l i_7) / 64).toNat) (by omega)))) (fun w hw => hw.sub Sx) ?_; refine TS.y rfl (Yv.bL (a := (Vec.get c_5 (((nth l i_7) / 64).toNat))) (b := ((1#64) <<< (((nth l i_7) % 64).toNat))) rfl rfl rfl) ?_; refine TS.y rfl (Yv.aw (i := ((nth l i_7) / 64).toNat) rfl rfl rfl (by omega) (by omega)) ?_; refine TS.eff ?_; refine TSo.aV rfl (Wt.none rfl) rfl (Ew.aS 1 ((Vec.put c_5 (((nth l i_7) / 64).toNat) ((Vec.get c_5 (((nth l i_7) / 64).toNat)) ||| ((1#64) <<< (((nth l i_7) % 64).toNat)))).1.map U) rfl rfl rfl rfl (by rw [Vec.len]; first | omega | (simp only [List.length_cons, List.length_nil]; omega)) (zgB (by omega) (Vec.upd (x := c_5) (f := U) (i := ((nth l i_7) / 64).toNat) (v := ((Vec.get c_5 (((nth l i_7) / 64).toNat)) ||| ((1#64) <<< (((nth l i_7) % 64).toNat)))) (by omega)))) ?_; rintro _ _ ⟨rfl, rfl⟩; refine ⟨(fun w hw => hw.sub Sx), ?_⟩; refine TS.done ?_; refine K.ac (K.seq (T.region ?_)); refine TL.y (Yv.ao rfl rfl rfl (by omega)) ?_; refine TL.run 1 rfl ?_; refine TL.nil ?_; rw [← hn6] at hk; exact K.next ((i_7 + 1), c_4, (Vec.put c_5 (((nth l i_7) / 64).toNat) ((Vec.get c_5 (((nth l i_7) / 64).toNat)) ||| ((1#64) <<< (((nth l i_7) % 64).toNat))))) hk (by dsimp only; omega) (.c (.c (.c (.c (.c .nil))))) (List.Sublist.refl _)
      · have p8 := of_decide_eq_false h8; rw [zau (by omega), ← hkk6] at hk; (try dsimp only at hk); refine T.exit (K.ab (K.ab (K.ad ?_))); exact K.ag (c_4, c_5) hk (.c (.c .nil)) (List.Sublist.refl _)
  · rintro ⟨c_1, c_2⟩ hk; (try dsimp only at *); rw [← hk3] at hk; (try dsimp only at hk); refine T.sr ?_; refine TL.y (Yv.ak 1 rfl rfl rfl Vec.len) ?_; refine TL.e0 (Ew.ai 0 rfl rfl rfl rfl Vec.len (Vec.len.trans Vec.len.symm)) ?_; rintro _ _ ⟨rfl, rfl⟩; refine TL.run 1 rfl ?_; refine TL.ns (T.ret ?_); obtain rfl := Option.some.inj hk; exact K.aH 0 rfl rfl rfl rfl Vec.len (fun w' hw => ⟨rfl, hw.isBelow⟩)
def zaY (s : GSet) (o : GSet) : Bool :=
  zaM (fun (_ : Unit) =>
    true)
  (fun k1 =>
    zaj (fun (i_3 : Nat) (next2 : Unit → Bool) (_ : Unit) =>
      (bif decide (¬ (((Vec.get s.words i_3) &&& ~~~(Vec.get o.words i_3)).toNat : Int) = ((0#64).toNat : Int)) then
        false
        else
        next2 ()))
    (fun (_ : Unit) =>
      k1 ()) (8 - 0) 0 ())
theorem zcj (F0 : Frz) (w : World) (hF0 : F0.At w) (s : GSet) (o : GSet) : Calls Tryz.prog 47 #[.agg (s.words.1.map U).toArray, .agg (o.words.1.map U).toArray] w fun e w' => e = .returned (.bool (zaY s o)) ∧ Below w.heap.size w w' := by
  obtain ⟨r, hk⟩ : ∃ r, zaY s o = r := ⟨_, rfl⟩; rw [hk]; unfold zaY at hk; obtain ⟨S0, F1, rfl, hS0, hp0⟩ := zah hF0; refine zan Tryz.func47 rfl rfl rfl hp0 ?_; refine T.sr ?_; refine TL.e (Ew.au rfl rfl) ?_; rintro _ _ ⟨g2, rfl, rfl⟩; refine TL.e (Ew.au rfl rfl) ?_; rintro _ _ ⟨g3, rfl, rfl⟩; refine TL.run 1 rfl ?_; refine TL.ns (T.seq (T.sr ?_)); refine TL.y (Yv.fieldAddr rfl rfl) ?_; refine TL.y (Yv.ak 1 rfl rfl rfl Vec.len) ?_; refine TL.run 1 rfl ?_; refine TL.ns ?_; have hq := zaf hk; clear hk; obtain ⟨k1, hk1, hk⟩ := hq; (try dsimp only at hk); refine T.ah (ι := Unit) (fun z => []) (fun z => [.fr F1]) (fun z => k1 () = r) ?_ ?_
  · have hq := zak hk; clear hk; obtain ⟨f2, kk2, hf2, hkk2, hk⟩ := hq; refine T.block ?_; refine T.pick [0, 2] rfl (by decide) ?_; refine T.loop (ι := Nat) (fun z => [(3, .pointer (some ⟨g3, 0, none⟩)), (8, .agg (s.words.1.map U).toArray), (9, .int .i64 (z : Int))]) (fun z => [.row g3 91 (o.words.1.map U), .fr F1]) (fun z => zaj f2 kk2 (8 - z) z () = r) (fun z => 8 - z) 0 ?_ ?_ ?_ ?_
    · exact hk
    · exact (.c (.c (.c .nil)))
    · exact List.Sublist.refl _
    · rintro i_3 hk; refine T.sr ?_; refine TL.run 1 rfl ?_; refine TL.ns (T.seq ?_); refine T.cond rfl (fun h4 => ?_) (fun h4 => ?_)
      · have p4 := of_decide_eq_true h4; rw [zat (by omega)] at hk; generalize hn2 : zaj f2 kk2 (8 - (i_3 + 1)) (i_3 + 1) = next2 at hk; rw [← hf2] at hk; (try dsimp only at hk); refine T.skip (K.seq (T.seq (T.block (T.sr ?_)))); refine TL.run 1 rfl ?_; refine TL.y (Yv.bm (i := i_3) rfl rfl rfl rfl (by omega) (Vec.cell (by omega))) ?_; refine TL.run 2 rfl ?_; refine TL.nx ?_; refine TL.run 2 rfl ?_; refine TL.y (Yv.fieldAddr rfl rfl) ?_; refine TL.y (Yv.aw (i := i_3) rfl rfl rfl rfl (by omega)) ?_; refine TL.y (Yv.aa 0 rfl rfl rfl (zcX (by omega) (Vec.cell (i := i_3) (by omega)))) ?_; refine TL.y (Yv.bf rfl rfl rfl) ?_; refine TL.run 1 rfl ?_; refine TL.ns ?_; refine T.cond rfl (fun h5 => ?_) (fun h5 => ?_)
        · replace hk := zab hk h5; refine T.sr ?_; refine TL.run 1 rfl ?_; refine TL.ns (T.ret (K.af (K.a (K.a (K.af (K.a ?_)))))); subst hk; exact K.aj rfl rfl (fun w' hw => ⟨rfl, hw.isBelow⟩)
        · replace hk := zaa hk h5; refine T.skip (K.ac (K.seq (T.region ?_))); refine TL.y (Yv.ao rfl rfl rfl (by omega)) ?_; refine TL.run 1 rfl ?_; refine TL.nil ?_; rw [← hn2] at hk; exact K.next (i_3 + 1) hk (by omega) (.c (.c (.c .nil))) (List.Sublist.refl _)
      · have p4 := of_decide_eq_false h4; rw [zau (by omega), ← hkk2] at hk; (try dsimp only at hk); refine T.exit (K.ab (K.ab (K.ad ?_))); refine K.pick [1] rfl (by decide) ?_; exact K.ag () hk .nil (List.Sublist.refl _)
  · rintro _ hk; rw [← hk1] at hk; (try dsimp only at hk); refine T.sr ?_; refine TL.run 1 rfl ?_; refine TL.ns (T.ret ?_); subst hk; exact K.aj rfl rfl (fun w' hw => ⟨rfl, hw.isBelow⟩)
def zai (s : GSet) (i : Int) : Option Bool :=
  zaM (fun (x_1 : Bool) =>
    some x_1)
  (fun k2 =>
    (bif (za8 i) then
      grd (0 ≤ i ∧ i ≤ 9223372036854775807 ∧ 1 ≤ (64 : Int)) <|
      grd (0 ≤ (i / 64) ∧ (i / 64) < (8 : Int)) <|
      grd (0 ≤ i ∧ 1 ≤ (64 : Int)) <|
      grd (0 ≤ (i % 64) ∧ (i % 64) < (64 : Int)) <|
      k2 (decide (((((Vec.get s.words ((i / 64).toNat)) >>> ((i % 64).toNat)) &&& (1#64)).toNat : Int) = ((1#64).toNat : Int)))
      else
      k2 false))
theorem zas (F0 : Frz) (w : World) (hF0 : F0.At w) (s : GSet) (i : Int) (r : Bool) (hr : zai s i = some r) : Calls Tryz.prog 49 #[.agg (s.words.1.map U).toArray, .int .i64 i] w fun e w' => e = .returned (.bool r) ∧ Below w.heap.size w w' := by
  have hk := hr; unfold zai at hk; obtain ⟨S0, F1, rfl, hS0, hp0⟩ := zah hF0; refine zan Tryz.func49 rfl rfl rfl hp0 ?_; refine T.sr ?_; refine TL.e (Ew.au rfl rfl) ?_; rintro _ _ ⟨g2, rfl, rfl⟩; refine TL.run 1 rfl ?_; refine TL.ns (T.seq ?_); (try dsimp only at hk); have hq := zaf hk; clear hk; obtain ⟨k2, hk2, hk⟩ := hq; (try dsimp only at hk); refine T.ah (ι := Bool) (fun z => [(4, .bool z)]) (fun z => [.fr F1]) (fun z => k2 z = some r) ?_ ?_
  · refine T.region ?_; refine TL.run 1 rfl ?_; refine TL.e (Ew.ae rfl rfl rfl (fun w hw => zcV _ w (hw.fr (i := 1) rfl) i)) ?_; rintro _ _ ⟨rfl, rfl⟩; refine TL.run 1 rfl ?_; refine TL.gs rfl rfl rfl (fun h3 => ?_) (fun h3 => ?_)
    · replace hk := zab hk h3; refine TL.run 1 rfl ?_; have hq : (0 ≤ i ∧ i ≤ 9223372036854775807 ∧ 1 ≤ (64 : Int)) ∧ _ := zaK hk; clear hk; obtain ⟨g9, hk⟩ := hq; refine TL.y (Yv.bp rfl rfl rfl g9) ?_; refine TL.y (Yv.fieldAddr rfl rfl) ?_; have hq : (0 ≤ (i / 64) ∧ (i / 64) < (8 : Int)) ∧ _ := zaK hk; clear hk; obtain ⟨g11, hk⟩ := hq; refine TL.y (Yv.aw (i := (i / 64).toNat) rfl rfl rfl (by omega) (by omega)) ?_; refine TL.y (Yv.aa 0 rfl rfl rfl (zcX (by omega) (Vec.cell (i := (i / 64).toNat) (by omega)))) ?_; refine TL.run 1 rfl ?_; have hq : (0 ≤ i ∧ 1 ≤ (64 : Int)) ∧ _ := zaK hk; clear hk; obtain ⟨g14, hk⟩ := hq; refine TL.y (Yv.bq rfl rfl rfl g14) ?_; have hq : (0 ≤ (i % 64) ∧ (i % 64) < (64 : Int)) ∧ _ := zaK hk; clear hk; obtain ⟨g15, hk⟩ := hq; refine TL.y (Yv.br (a := (Vec.get s.words ((i / 64).toNat))) ((i % 64).toNat) rfl rfl rfl (by omega) (by omega)) ?_; refine TL.y (Yv.bK (a := ((Vec.get s.words ((i / 64).toNat)) >>> ((i % 64).toNat))) (b := 1#64) rfl rfl rfl) ?_; refine TL.run 3 rfl ?_; refine TL.nil ?_; refine K.pick [1] rfl (by decide) ?_; exact K.ag (decide (((((Vec.get s.words ((i / 64).toNat)) >>> ((i % 64).toNat)) &&& (1#64)).toNat : Int) = ((1#64).toNat : Int))) hk (.c .nil) (List.Sublist.refl _)
    · replace hk := zaa hk h3; refine TL.run 12 rfl ?_; refine TL.nil ?_; refine K.pick [1] rfl (by decide) ?_; exact K.ag false hk (.c .nil) (List.Sublist.refl _)
  · rintro x_1 hk; rw [← hk2] at hk; (try dsimp only at hk); refine T.ret ?_; obtain rfl := Option.some.inj hk; exact K.aj rfl rfl (fun w' hw => ⟨rfl, hw.isBelow⟩)
def zbq (x_ : Int) : Bool :=
  (decide (¬ x_ = x_))
theorem zcY (F0 : Frz) (w : World) (hF0 : F0.At w) (x_ : Int) : Calls Tryz.prog 117 #[.int .i64 x_] w fun e w' => e = .returned (.bool (zbq x_)) ∧ Below w.heap.size w w' := by
  obtain ⟨r, hk⟩ : ∃ r, zbq x_ = r := ⟨_, rfl⟩; rw [hk]; unfold zbq at hk; obtain ⟨S0, F1, rfl, hS0, hp0⟩ := zah hF0; refine zan Tryz.func117 rfl rfl rfl hp0 ?_; refine T.sr ?_; refine TL.run 1 rfl ?_; refine TL.nx ?_; refine TL.run 4 rfl ?_; refine TL.ns (T.ret ?_); subst hk; exact K.aj rfl rfl (fun w' hw => ⟨rfl, hw.isBelow⟩)
def zac (x_ : Int) (y : Int) : Int :=
  (bif (zbq x_) then
    (bif (zbq y) then
      0
      else
      (-1))
    else
    (bif (zbq y) then
      1
      else
      (bif decide (x_ < y) then
        (-1)
        else
        (bif decide (y < x_) then
          1
          else
          0))))
theorem zaw (F0 : Frz) (w : World) (hF0 : F0.At w) (x_ : Int) (y : Int) : Calls Tryz.prog 75 #[.int .i64 x_, .int .i64 y] w fun e w' => e = .returned (.int .i64 (zac x_ y)) ∧ Below w.heap.size w w' := by
  obtain ⟨r, hk⟩ : ∃ r, zac x_ y = r := ⟨_, rfl⟩; rw [hk]; unfold zac at hk; obtain ⟨S0, F1, rfl, hS0, hp0⟩ := zah hF0; refine zan Tryz.func75 rfl rfl rfl hp0 ?_; refine T.sr ?_; refine TL.run 1 rfl ?_; refine TL.nx ?_; refine TL.run 1 rfl ?_; refine TL.e (Ew.ae rfl rfl rfl (fun w hw => zcY _ w (hw.fr (i := 0) rfl) x_)) ?_; rintro _ _ ⟨rfl, rfl⟩; refine TL.run 1 rfl ?_; refine TL.nx ?_; refine TL.run 1 rfl ?_; refine TL.e (Ew.ae rfl rfl rfl (fun w hw => zcY _ w (hw.fr (i := 0) rfl) y)) ?_; rintro _ _ ⟨rfl, rfl⟩; refine TL.run 1 rfl ?_; refine TL.ns (T.seq (T.sr ?_)); refine TL.run 1 rfl ?_; refine TL.ns ?_; refine T.cond rfl (fun h1 => ?_) (fun h1 => ?_)
  · replace hk := zab hk h1; refine T.seq (T.sr ?_); refine TL.run 1 rfl ?_; refine TL.ns ?_; refine T.cond rfl (fun h2 => ?_) (fun h2 => ?_)
    · replace hk := zab hk h2; refine T.sr ?_; refine TL.run 1 rfl ?_; refine TL.ns (T.ret (K.a (K.a ?_))); subst hk; exact K.aj rfl rfl (fun w' hw => ⟨rfl, hw.isBelow⟩)
    · replace hk := zaa hk h2; refine T.skip (K.seq (T.sr ?_)); refine TL.run 1 rfl ?_; refine TL.ns (T.ret (K.a ?_)); subst hk; exact K.aj rfl rfl (fun w' hw => ⟨rfl, hw.isBelow⟩)
  · replace hk := zaa hk h1; refine T.skip (K.seq (T.seq (T.sr ?_))); refine TL.run 1 rfl ?_; refine TL.ns ?_; refine T.cond rfl (fun h3 => ?_) (fun h3 => ?_)
    · replace hk := zab hk h3; refine T.sr ?_; refine TL.run 1 rfl ?_; refine TL.ns (T.ret (K.a ?_)); subst hk; exact K.aj rfl rfl (fun w' hw => ⟨rfl, hw.isBelow⟩)
    · replace hk := zaa hk h3; refine T.skip (K.seq (T.seq (T.sr ?_))); refine TL.run 3 rfl ?_; refine TL.ns ?_; refine T.cond rfl (fun h4 => ?_) (fun h4 => ?_)
      · have p4 := of_decide_eq_true h4; replace hk := zab hk h4; refine T.sr ?_; refine TL.run 1 rfl ?_; refine TL.ns (T.ret (K.a ?_)); subst hk; exact K.aj rfl rfl (fun w' hw => ⟨rfl, hw.isBelow⟩)
      · have p4 := of_decide_eq_false h4; replace hk := zaa hk h4; refine T.skip (K.seq (T.seq (T.sr ?_))); refine TL.run 3 rfl ?_; refine TL.ns ?_; refine T.cond rfl (fun h5 => ?_) (fun h5 => ?_)
        · have p5 := of_decide_eq_true h5; replace hk := zab hk h5; refine T.sr ?_; refine TL.run 1 rfl ?_; refine TL.ns (T.ret (K.a ?_)); subst hk; exact K.aj rfl rfl (fun w' hw => ⟨rfl, hw.isBelow⟩)
        · have p5 := of_decide_eq_false h5; replace hk := zaa hk h5; refine T.skip (K.seq (T.sr ?_)); refine TL.run 1 rfl ?_; refine TL.ns (T.ret ?_); subst hk; exact K.aj rfl rfl (fun w' hw => ⟨rfl, hw.isBelow⟩)
def zbY (vals : List Int) : Int :=
  zaM (fun (_ : Unit) =>
    0)
  (fun k1 =>
    zaj (fun (i_3 : Nat) (next2 : Unit → Int) (_ : Unit) =>
      (bif decide (¬ (nth vals i_3) = 0) then
        (nth vals i_3)
        else
        next2 ()))
    (fun (_ : Unit) =>
      k1 ()) (vals.length - 0) 0 ())
theorem zcS (F0 : Frz) (w : World) (hF0 : F0.At w) (vals : List Int) (vvals : Value) (hvals : SlC F0 vvals 1 (vals.map eI)) : Calls Tryz.prog 115 #[vvals] w fun e w' => e = .returned (.int .i64 (zbY vals)) ∧ Below w.heap.size w w' := by
  obtain ⟨r, hk⟩ : ∃ r, zbY vals = r := ⟨_, rfl⟩; rw [hk]; unfold zbY at hk; haveI := hvals.oneC; obtain ⟨S0, F1, rfl, hS0, hp0⟩ := zah hF0; refine zan Tryz.func115 rfl rfl rfl hp0 ?_; refine T.sr ?_; refine TL.run 1 rfl ?_; refine TL.nx ?_; refine TL.run 1 rfl ?_; refine TL.ns (T.seq (T.sr ?_)); refine TL.run 1 rfl ?_; refine TL.y (Yv.al rfl rfl hvals (List.length_map _)) ?_; have hm7 : vals.length ≤ 9223372036854775807 := (List.length_map _) ▸ hvals.max; refine TL.run 1 rfl ?_; refine TL.ns ?_; have hq := zaf hk; clear hk; obtain ⟨k1, hk1, hk⟩ := hq; (try dsimp only at hk); refine T.ah (ι := Unit) (fun z => [(3, .int .i64 0)]) (fun z => [.fr F1]) (fun z => k1 () = r) ?_ ?_
  · have hq := zak hk; clear hk; obtain ⟨f2, kk2, hf2, hkk2, hk⟩ := hq; refine T.block ?_; refine T.loop (ι := Nat) (fun z => [(3, .int .i64 0), (6, vvals), (7, .int .i64 (vals.length : Int)), (8, .int .i64 (z : Int))]) (fun z => [.fr F1]) (fun z => zaj f2 kk2 (vals.length - z) z () = r) (fun z => vals.length - z) 0 ?_ ?_ ?_ ?_
    · exact hk
    · exact (.c (.c (.c (.c .nil))))
    · exact List.Sublist.refl _
    · rintro i_3 hk; refine T.sr ?_; refine TL.run 1 rfl ?_; refine TL.ns (T.seq ?_); refine T.cond rfl (fun h4 => ?_) (fun h4 => ?_)
      · have p4 := of_decide_eq_true h4; rw [zat (by omega)] at hk; generalize hn2 : zaj f2 kk2 (vals.length - (i_3 + 1)) (i_3 + 1) = next2 at hk; rw [← hf2] at hk; (try dsimp only at hk); refine T.skip (K.seq (T.seq (T.block (T.sr ?_)))); refine TL.y (Yv.am (i := i_3) rfl rfl rfl hvals (List.length_map _) rfl (by omega)) ?_; refine TL.y (Yv.aq 0 (i := i_3) (j := 0) rfl rfl rfl hvals (by omega) rfl rfl) ?_; refine TL.run 1 rfl ?_; refine TL.nx ?_; refine TL.run 3 rfl ?_; refine TL.ns ?_; refine T.cond rfl (fun h5 => ?_) (fun h5 => ?_)
        · have p5 := of_decide_eq_true h5; replace hk := zab hk h5; refine T.sr ?_; refine TL.run 2 rfl ?_; refine TL.ns (T.ret (K.af (K.a (K.a (K.af (K.a ?_)))))); subst hk; exact K.aj rfl rfl (fun w' hw => ⟨rfl, hw.isBelow⟩)
        · have p5 := of_decide_eq_false h5; replace hk := zaa hk h5; refine T.skip (K.ac (K.seq (T.region ?_))); refine TL.y (Yv.ao rfl rfl rfl (by omega)) ?_; refine TL.run 1 rfl ?_; refine TL.nil ?_; rw [← hn2] at hk; exact K.next (i_3 + 1) hk (by omega) (.c (.c (.c (.c .nil)))) (List.Sublist.refl _)
      · have p4 := of_decide_eq_false h4; rw [zau (by omega), ← hkk2] at hk; (try dsimp only at hk); refine T.exit (K.ab (K.ab (K.ad ?_))); exact K.ag () hk (.c .nil) (List.Sublist.refl _)
  · rintro _ hk; rw [← hk1] at hk; (try dsimp only at hk); refine T.sr ?_; refine TL.run 2 rfl ?_; refine TL.ns (T.ret ?_); subst hk; exact K.aj rfl rfl (fun w' hw => ⟨rfl, hw.isBelow⟩)
def zam (n : Int) (low : Int) (high : Int) : Bool :=
  ((decide (low ≤ n)) && (decide (n ≤ high)))
theorem za3 (F0 : Frz) (w : World) (hF0 : F0.At w) (n : Int) (low : Int) (high : Int) : Calls Tryz.prog 54 #[.int .i64 n, .int .i64 low, .int .i64 high] w fun e w' => e = .returned (.bool (zam n low high)) ∧ Below w.heap.size w w' := by
  obtain ⟨r, hk⟩ : ∃ r, zam n low high = r := ⟨_, rfl⟩; rw [hk]; unfold zam at hk; obtain ⟨S0, F1, rfl, hS0, hp0⟩ := zah hF0; refine zan Tryz.func54 rfl rfl rfl hp0 ?_; refine T.sr ?_; refine TL.run 1 rfl ?_; refine TL.ns (T.seq ?_); refine T.ah (ι := Unit) (fun z => [(6, .bool ((decide (low ≤ n)) && (decide (n ≤ high))))]) (fun z => [.fr F1]) (fun z => True) ?_ ?_
  · refine T.region ?_; refine TL.run 4 rfl ?_; refine TL.gs rfl rfl rfl (fun h1 => ?_) (fun h1 => ?_)
    · have p1 := of_decide_eq_true h1; refine TL.run 5 rfl ?_; refine TL.nil ?_; exact K.ag () trivial (.b (zcI h1) .nil) (List.Sublist.refl _)
    · have p1 := of_decide_eq_false h1; refine TL.run 5 rfl ?_; refine TL.nil ?_; exact K.ag () trivial (.b (zav h1).symm .nil) (List.Sublist.refl _)
  · rintro _ _; refine T.ret ?_; subst hk; exact K.aj rfl rfl (fun w' hw => ⟨rfl, hw.isBelow⟩)
def zae (n : Int) : Bool :=
  (zam n 0 511)
theorem za1 (F0 : Frz) (w : World) (hF0 : F0.At w) (n : Int) : Calls Tryz.prog 53 #[.int .i64 n] w fun e w' => e = .returned (.bool (zae n)) ∧ Below w.heap.size w w' := by
  obtain ⟨r, hk⟩ : ∃ r, zae n = r := ⟨_, rfl⟩; rw [hk]; unfold zae at hk; obtain ⟨S0, F1, rfl, hS0, hp0⟩ := zah hF0; refine zan Tryz.func53 rfl rfl rfl hp0 ?_; refine T.sr ?_; refine TL.run 1 rfl ?_; refine TL.nx ?_; refine TL.run 1 rfl ?_; refine TL.e (Ew.ae rfl rfl rfl (fun w hw => za3 _ w (hw.fr (i := 0) rfl) n 0 511)) ?_; rintro _ _ ⟨rfl, rfl⟩; refine TL.run 1 rfl ?_; refine TL.ns (T.ret ?_); subst hk; exact K.aj rfl rfl (fun w' hw => ⟨rfl, hw.isBelow⟩)
def zaP (l : List GChoice) : Bool :=
  zaM (fun (_ : Unit) =>
    true)
  (fun k1 =>
    zaj (fun (i_3 : Nat) (next2 : Unit → Bool) (_ : Unit) =>
      (bif ((!(zae ((nth l i_3).Station))) || (!(zam ((nth l i_3).Channel) 2 51))) then
        false
        else
        (bif ((decide (0 < (i_3 : Int))) && (decide ((nth l i_3).Station ≤ (nth l (((i_3 : Int) - 1).toNat)).Station))) then
          false
          else
          next2 ())))
    (fun (_ : Unit) =>
      k1 ()) (l.length - 0) 0 ())
theorem zcc (F0 : Frz) (w : World) (hF0 : F0.At w) (l : List GChoice) (vl : Value) (hl : SlC F0 vl 2 (l.map GChoice.enc)) : Calls Tryz.prog 24 #[vl] w fun e w' => e = .returned (.bool (zaP l)) ∧ Below w.heap.size w w' := by
  obtain ⟨r, hk⟩ : ∃ r, zaP l = r := ⟨_, rfl⟩; rw [hk]; unfold zaP at hk; haveI := hl.oneC; obtain ⟨S0, F1, rfl, hS0, hp0⟩ := zah hF0; refine zan Tryz.func24 rfl rfl rfl hp0 ?_; refine T.sr ?_; refine TL.run 1 rfl ?_; refine TL.ns (T.seq (T.sr ?_)); refine TL.run 1 rfl ?_; refine TL.y (Yv.al rfl rfl hl (List.length_map _)) ?_; have hm6 : l.length ≤ 9223372036854775807 := (List.length_map _) ▸ hl.max; refine TL.run 1 rfl ?_; refine TL.ns ?_; have hq := zaf hk; clear hk; obtain ⟨k1, hk1, hk⟩ := hq; (try dsimp only at hk); refine T.ah (ι := Unit) (fun z => []) (fun z => [.fr F1]) (fun z => k1 () = r) ?_ ?_
  · have hq := zak hk; clear hk; obtain ⟨f2, kk2, hf2, hkk2, hk⟩ := hq; refine T.block ?_; refine T.loop (ι := Nat) (fun z => [(0, vl), (5, vl), (6, .int .i64 (l.length : Int)), (7, .int .i64 (z : Int))]) (fun z => [.fr F1]) (fun z => zaj f2 kk2 (l.length - z) z () = r) (fun z => l.length - z) 0 ?_ ?_ ?_ ?_
    · exact hk
    · exact (.c (.c (.c (.c .nil))))
    · exact List.Sublist.refl _
    · rintro i_3 hk; refine T.sr ?_; refine TL.run 1 rfl ?_; refine TL.ns (T.seq ?_); refine T.cond rfl (fun h4 => ?_) (fun h4 => ?_)
      · have p4 := of_decide_eq_true h4; rw [zat (by omega)] at hk; generalize hn2 : zaj f2 kk2 (l.length - (i_3 + 1)) (i_3 + 1) = next2 at hk; rw [← hf2] at hk; (try dsimp only at hk); refine T.skip (K.seq (T.seq (T.block (T.sr ?_)))); refine TL.run 1 rfl ?_; refine TL.y (Yv.am (i := i_3) rfl rfl rfl hl (List.length_map _) rfl (by omega)) ?_; refine TL.y (Yv.an 0 (i := i_3) rfl rfl rfl hl (by omega) rfl rfl rfl) ?_; refine TL.e (Ew.alloc rfl) ?_; rintro _ _ ⟨g4, rfl, rfl⟩; refine TL.run 1 rfl ?_; refine TL.e0 (Ew.ai 0 rfl rfl rfl rfl rfl rfl) ?_; rintro _ _ ⟨rfl, rfl⟩; refine TL.ns (T.seq (T.seq ?_)); refine T.ah (ι := Unit) (fun z => [(0, vl), (3, .int .i64 (i_3 : Int)), (4, .pointer (some ⟨g4, 0, none⟩)), (5, vl), (6, .int .i64 (l.length : Int)), (7, .int .i64 (i_3 : Int)), (21, .bool ((!(zae ((nth l i_3).Station))) || (!(zam ((nth l i_3).Channel) 2 51))))]) (fun z => [.row g4 79 [.int .i64 ((nth l i_3).Station), .int .i64 ((nth l i_3).Channel)], .fr F1]) (fun z => True) ?_ ?_
        · refine T.region ?_; refine TL.y (Yv.fieldAddr rfl rfl) ?_; refine TL.y (Yv.aa 0 rfl rfl rfl rfl) ?_; refine TL.e (Ew.ae rfl rfl rfl (fun w hw => za1 _ w (hw.fr (i := 1) rfl) ((nth l i_3).Station))) ?_; rintro _ _ ⟨rfl, rfl⟩; refine TL.run 2 rfl ?_; refine TL.gs rfl rfl rfl (fun h5 => ?_) (fun h5 => ?_)
          · refine TL.run 5 rfl ?_; refine TL.nil ?_; exact K.ag () trivial (.c (.c (.c (.c (.c (.c (.b (zbo h5).symm .nil))))))) (List.Sublist.refl _)
          · refine TL.y (Yv.fieldAddr rfl rfl) ?_; refine TL.y (Yv.aa 0 rfl rfl rfl rfl) ?_; refine TL.e (Ew.ae rfl rfl rfl (fun w hw => za3 _ w (hw.fr (i := 1) rfl) ((nth l i_3).Channel) 2 51)) ?_; rintro _ _ ⟨rfl, rfl⟩; refine TL.run 2 rfl ?_; refine TL.nil ?_; exact K.ag () trivial (.c (.c (.c (.c (.c (.c (.b (or_f h5) .nil))))))) (List.Sublist.refl _)
        · rintro _ _; refine T.cond rfl (fun h6 => ?_) (fun h6 => ?_)
          · replace hk := zab hk h6; refine T.sr ?_; refine TL.run 1 rfl ?_; refine TL.ns (T.ret (K.a (K.af (K.a (K.a (K.af (K.a ?_))))))); subst hk; exact K.aj rfl rfl (fun w' hw => ⟨rfl, hw.isBelow⟩)
          · replace hk := zaa hk h6; refine T.skip (K.seq (T.seq ?_)); refine T.ah (ι := Unit) (fun z => [(0, vl), (5, vl), (6, .int .i64 (l.length : Int)), (7, .int .i64 (i_3 : Int)), (34, .bool ((decide (0 < (i_3 : Int))) && (decide ((nth l i_3).Station ≤ (nth l (((i_3 : Int) - 1).toNat)).Station))))]) (fun z => [.row g4 79 [.int .i64 ((nth l i_3).Station), .int .i64 ((nth l i_3).Channel)], .fr F1]) (fun z => True) ?_ ?_
            · refine T.av (.still 0 (.still 1 (.still 2 (.still 3 (.still 4 (.still 5 (.still 6 (.still 7 (.still 8 (.still 9 (.still 10 (.still 11 (.still 12 .done))))))))))))) _ (by kernel_rfl) (List.Sublist.refl _) ?_; refine TS.run 3 rfl ?_; refine TS.gs rfl rfl rfl rfl (fun h7 => ?_) (fun h7 => ?_)
              · have p7 := of_decide_eq_true h7; refine TS.run 2 rfl ?_; refine TS.y rfl (Yv.aI rfl rfl rfl (by omega)) ?_; refine TS.y rfl (Yv.am (i := ((i_3 : Int) - 1).toNat) rfl rfl rfl hl (List.length_map _) (by omega) (by omega)) ?_; refine TS.y rfl (Yv.aE rfl rfl hl (List.length_map _) (by omega)) ?_; refine TS.y rfl (Yv.aq 1 (i := ((i_3 : Int) - 1).toNat) (j := 0) rfl rfl rfl hl (by omega) rfl rfl) ?_; refine TS.y rfl (Yv.fieldAddr rfl rfl) ?_; refine TS.y rfl (Yv.aa 0 rfl rfl rfl rfl) ?_; refine TS.run 2 rfl ?_; refine TS.done ?_; exact K.ag () trivial (.c (.c (.c (.c (.b (zcI h7) .nil))))) (List.Sublist.refl _)
              · have p7 := of_decide_eq_false h7; refine TS.run 10 rfl ?_; refine TS.done ?_; exact K.ag () trivial (.c (.c (.c (.c (.b (zav h7).symm .nil))))) (List.Sublist.refl _)
            · rintro _ _; refine T.cond rfl (fun h8 => ?_) (fun h8 => ?_)
              · have p8 := h8; (try simp only [nfB] at p8); replace hk := zab hk h8; refine T.sr ?_; refine TL.run 1 rfl ?_; refine TL.ns (T.ret (K.af (K.a (K.a (K.af (K.a ?_)))))); subst hk; exact K.aj rfl rfl (fun w' hw => ⟨rfl, hw.isBelow⟩)
              · replace hk := zaa hk h8; refine T.skip (K.ac (K.seq (T.region ?_))); refine TL.y (Yv.ao rfl rfl rfl (by omega)) ?_; refine TL.run 1 rfl ?_; refine TL.nil ?_; rw [← hn2] at hk; refine K.pick [1] rfl (by decide) ?_; exact K.next (i_3 + 1) hk (by omega) (.c (.c (.c (.c .nil)))) (List.Sublist.refl _)
      · have p4 := of_decide_eq_false h4; rw [zau (by omega), ← hkk2] at hk; (try dsimp only at hk); refine T.exit (K.ab (K.ab (K.ad ?_))); exact K.ag () hk .nil (List.Sublist.refl _)
  · rintro _ hk; rw [← hk1] at hk; (try dsimp only at hk); refine T.sr ?_; refine TL.run 1 rfl ?_; refine TL.ns (T.ret ?_); subst hk; exact K.aj rfl rfl (fun w' hw => ⟨rfl, hw.isBelow⟩)
def za4 (low : Int) (high : Int) : Bool :=
  (((decide (2 ≤ low)) && (decide (low ≤ high))) && (decide (high ≤ 51)))
theorem zcm (F0 : Frz) (w : World) (hF0 : F0.At w) (low : Int) (high : Int) : Calls Tryz.prog 114 #[.int .i64 low, .int .i64 high] w fun e w' => e = .returned (.bool (za4 low high)) ∧ Below w.heap.size w w' := by
  obtain ⟨r, hk⟩ : ∃ r, za4 low high = r := ⟨_, rfl⟩; rw [hk]; unfold za4 at hk; obtain ⟨S0, F1, rfl, hS0, hp0⟩ := zah hF0; refine zan Tryz.func114 rfl rfl rfl hp0 ?_; refine T.sr ?_; refine TL.run 1 rfl ?_; refine TL.ns (T.seq ?_); refine T.ah (ι := Unit) (fun z => [(4, .bool (((decide (2 ≤ low)) && (decide (low ≤ high))) && (decide (high ≤ 51))))]) (fun z => [.fr F1]) (fun z => True) ?_ ?_
  · refine T.region ?_; refine TL.run 3 rfl ?_; refine TL.gs rfl rfl rfl (fun h1 => ?_) (fun h1 => ?_)
    · have p1 := of_decide_eq_true h1; refine TL.run 5 rfl ?_; refine TL.gs rfl rfl rfl (fun h2 => ?_) (fun h2 => ?_)
      · have p2 := of_decide_eq_true h2; refine TL.run 4 rfl ?_; refine TL.nil ?_; exact K.ag () trivial (.b (zcI (zaD h1 h2)) .nil) (List.Sublist.refl _)
      · have p2 := of_decide_eq_false h2; refine TL.run 4 rfl ?_; refine TL.nil ?_; exact K.ag () trivial (.b (zav (zaD h1 h2)).symm .nil) (List.Sublist.refl _)
    · have p1 := of_decide_eq_false h1; refine TL.run 9 rfl ?_; refine TL.nil ?_; exact K.ag () trivial (.b (zav (zav h1)).symm .nil) (List.Sublist.refl _)
  · rintro _ _; refine T.ret ?_; subst hk; exact K.aj rfl rfl (fun w' hw => ⟨rfl, hw.isBelow⟩)
def zaL (c : GPair) : Bool :=
  (((((zae c.A) && (zae c.B)) && (decide (c.A < c.B))) && (zam c.Offset (-1) 1)) && (za4 c.Low c.High))
theorem zdp (F0 : Frz) (w : World) (hF0 : F0.At w) (c : GPair) : Calls Tryz.prog 56 #[.agg [.int .i64 c.A, .int .i64 c.B, .int .i64 c.Offset, .int .i64 c.Low, .int .i64 c.High].toArray] w fun e w' => e = .returned (.bool (zaL c)) ∧ Below w.heap.size w w' := by
  obtain ⟨r, hk⟩ : ∃ r, zaL c = r := ⟨_, rfl⟩; rw [hk]; unfold zaL at hk; obtain ⟨S0, F1, rfl, hS0, hp0⟩ := zah hF0; refine zan Tryz.func56 rfl rfl rfl hp0 ?_; refine T.sr ?_; refine TL.e (Ew.au rfl rfl) ?_; rintro _ _ ⟨g1, rfl, rfl⟩; refine TL.run 1 rfl ?_; refine TL.ns (T.seq ?_); refine T.ah (ι := Unit) (fun z => [(2, .bool (((((zae c.A) && (zae c.B)) && (decide (c.A < c.B))) && (zam c.Offset (-1) 1)) && (za4 c.Low c.High)))]) (fun z => [.row g1 68 [.int .i64 c.A, .int .i64 c.B, .int .i64 c.Offset, .int .i64 c.Low, .int .i64 c.High], .fr F1]) (fun z => True) ?_ ?_
  · refine T.region ?_; refine TL.y (Yv.fieldAddr rfl rfl) ?_; refine TL.y (Yv.aa 0 rfl rfl rfl rfl) ?_; refine TL.e (Ew.ae rfl rfl rfl (fun w hw => za1 _ w (hw.fr (i := 1) rfl) c.A)) ?_; rintro _ _ ⟨rfl, rfl⟩; refine TL.run 1 rfl ?_; refine TL.gs rfl rfl rfl (fun h1 => ?_) (fun h1 => ?_)
    · refine TL.y (Yv.fieldAddr rfl rfl) ?_; refine TL.y (Yv.aa 0 rfl rfl rfl rfl) ?_; refine TL.e (Ew.ae rfl rfl rfl (fun w hw => za1 _ w (hw.fr (i := 1) rfl) c.B)) ?_; rintro _ _ ⟨rfl, rfl⟩; refine TL.run 2 rfl ?_; refine TL.gs rfl rfl rfl (fun h2 => ?_) (fun h2 => ?_)
      · refine TL.y (Yv.fieldAddr rfl rfl) ?_; refine TL.y (Yv.aa 0 rfl rfl rfl rfl) ?_; refine TL.y (Yv.fieldAddr rfl rfl) ?_; refine TL.y (Yv.aa 0 rfl rfl rfl rfl) ?_; refine TL.run 3 rfl ?_; refine TL.gs rfl rfl rfl (fun h3 => ?_) (fun h3 => ?_)
        · have p3 := of_decide_eq_true h3; refine TL.y (Yv.fieldAddr rfl rfl) ?_; refine TL.y (Yv.aa 0 rfl rfl rfl rfl) ?_; refine TL.e (Ew.ae rfl rfl rfl (fun w hw => za3 _ w (hw.fr (i := 1) rfl) c.Offset (-1) 1)) ?_; rintro _ _ ⟨rfl, rfl⟩; refine TL.run 2 rfl ?_; refine TL.gs rfl rfl rfl (fun h4 => ?_) (fun h4 => ?_)
          · refine TL.y (Yv.fieldAddr rfl rfl) ?_; refine TL.y (Yv.aa 0 rfl rfl rfl rfl) ?_; refine TL.y (Yv.fieldAddr rfl rfl) ?_; refine TL.y (Yv.aa 0 rfl rfl rfl rfl) ?_; refine TL.e (Ew.ae rfl rfl rfl (fun w hw => zcm _ w (hw.fr (i := 1) rfl) c.Low c.High)) ?_; rintro _ _ ⟨rfl, rfl⟩; refine TL.run 2 rfl ?_; refine TL.nil ?_; exact K.ag () trivial (.b (zcI (zaD (zaD (zaD h1 h2) h3) h4)) .nil) (List.Sublist.refl _)
          · refine TL.run 7 rfl ?_; refine TL.nil ?_; exact K.ag () trivial (.b (zav (zaD (zaD (zaD h1 h2) h3) h4)).symm .nil) (List.Sublist.refl _)
        · have p3 := of_decide_eq_false h3; refine TL.run 12 rfl ?_; refine TL.nil ?_; exact K.ag () trivial (.b (zav (zav (zaD (zaD h1 h2) h3))).symm .nil) (List.Sublist.refl _)
      · refine TL.run 19 rfl ?_; refine TL.nil ?_; exact K.ag () trivial (.b (zav (zav (zav (zaD h1 h2)))).symm .nil) (List.Sublist.refl _)
    · refine TL.run 24 rfl ?_; refine TL.nil ?_; exact K.ag () trivial (.b (zav (zav (zav (zav h1)))).symm .nil) (List.Sublist.refl _)
  · rintro _ _; refine T.ret ?_; subst hk; exact K.aj rfl rfl (fun w' hw => ⟨rfl, hw.isBelow⟩)
def za6 (a : GPair) (b : GPair) : Int :=
  (zbY [(zac a.A b.A), (zac a.B b.B), (zac a.Offset b.Offset), (zac a.Low b.Low), (zac a.High b.High)])
theorem zc2 (F0 : Frz) (w : World) (hF0 : F0.At w) (a : GPair) (b : GPair) : Calls Tryz.prog 58 #[.agg [.int .i64 a.A, .int .i64 a.B, .int .i64 a.Offset, .int .i64 a.Low, .int .i64 a.High].toArray, .agg [.int .i64 b.A, .int .i64 b.B, .int .i64 b.Offset, .int .i64 b.Low, .int .i64 b.High].toArray] w fun e w' => e = .returned (.int .i64 (za6 a b)) ∧ Below w.heap.size w w' := by
  obtain ⟨r, hk⟩ : ∃ r, za6 a b = r := ⟨_, rfl⟩; rw [hk]; unfold za6 at hk; obtain ⟨S0, F1, rfl, hS0, hp0⟩ := zah hF0; refine zan Tryz.func58 rfl rfl rfl hp0 ?_; refine T.sr ?_; refine TL.e (Ew.au rfl rfl) ?_; rintro _ _ ⟨g2, rfl, rfl⟩; refine TL.e (Ew.au rfl rfl) ?_; rintro _ _ ⟨g3, rfl, rfl⟩; refine TL.run 1 rfl ?_; refine TL.ns (T.seq ?_); refine T.av (.still 0 (.still 1 (.still 2 (.still 3 (.still 5 (.still 6 (.still 7 (.still 8 (.still 10 (.still 11 (.still 12 (.still 13 (.still 15 (.still 16 (.still 17 (.still 18 (.still 20 (.still 21 (.still 22 (.still 23 (.eff 4 (.eff 9 (.eff 14 (.eff 19 (.eff 24 (.eff 25 (.eff 26 (.still 27 .done)))))))))))))))))))))))))))) _ (by kernel_rfl) (List.Sublist.refl _) ?_; refine TS.y rfl (Yv.fieldAddr rfl rfl) ?_; refine TS.y rfl (Yv.aa 1 rfl rfl rfl rfl) ?_; refine TS.y rfl (Yv.fieldAddr rfl rfl) ?_; refine TS.y rfl (Yv.aa 0 rfl rfl rfl rfl) ?_; refine TS.y rfl (Yv.fieldAddr rfl rfl) ?_; refine TS.y rfl (Yv.aa 1 rfl rfl rfl rfl) ?_; refine TS.y rfl (Yv.fieldAddr rfl rfl) ?_; refine TS.y rfl (Yv.aa 0 rfl rfl rfl rfl) ?_; refine TS.y rfl (Yv.fieldAddr rfl rfl) ?_; refine TS.y rfl (Yv.aa 1 rfl rfl rfl rfl) ?_; refine TS.y rfl (Yv.fieldAddr rfl rfl) ?_; refine TS.y rfl (Yv.aa 0 rfl rfl rfl rfl) ?_; refine TS.y rfl (Yv.fieldAddr rfl rfl) ?_; refine TS.y rfl (Yv.aa 1 rfl rfl rfl rfl) ?_; refine TS.y rfl (Yv.fieldAddr rfl rfl) ?_; refine TS.y rfl (Yv.aa 0 rfl rfl rfl rfl) ?_; refine TS.y rfl (Yv.fieldAddr rfl rfl) ?_; refine TS.y rfl (Yv.aa 1 rfl rfl rfl rfl) ?_; refine TS.y rfl (Yv.fieldAddr rfl rfl) ?_; refine TS.y rfl (Yv.aa 0 rfl rfl rfl rfl) ?_; refine TS.eff ?_; refine TSo.ar rfl (Wt.none rfl) rfl rfl (Ew.ae rfl rfl rfl (fun w hw => zaw _ w (hw.fr (i := 2) rfl) a.A b.A)) ?_; rintro _ _ ⟨rfl, rfl⟩; refine ⟨(fun w hw => hw.sub Sx), ?_⟩; refine TS.eff ?_; refine TSo.ar rfl (Wt.none rfl) rfl rfl (Ew.ae rfl rfl rfl (fun w hw => zaw _ w (hw.fr (i := 2) rfl) a.B b.B)) ?_; rintro _ _ ⟨rfl, rfl⟩; refine ⟨(fun w hw => hw.sub Sx), ?_⟩; refine TS.eff ?_; refine TSo.ar rfl (Wt.none rfl) rfl rfl (Ew.ae rfl rfl rfl (fun w hw => zaw _ w (hw.fr (i := 2) rfl) a.Offset b.Offset)) ?_; rintro _ _ ⟨rfl, rfl⟩; refine ⟨(fun w hw => hw.sub Sx), ?_⟩; refine TS.eff ?_; refine TSo.ar rfl (Wt.none rfl) rfl rfl (Ew.ae rfl rfl rfl (fun w hw => zaw _ w (hw.fr (i := 2) rfl) a.Low b.Low)) ?_; rintro _ _ ⟨rfl, rfl⟩; refine ⟨(fun w hw => hw.sub Sx), ?_⟩; refine TS.eff ?_; refine TSo.ar rfl (Wt.none rfl) rfl rfl (Ew.ae rfl rfl rfl (fun w hw => zaw _ w (hw.fr (i := 2) rfl) a.High b.High)) ?_; rintro _ _ ⟨rfl, rfl⟩; refine ⟨(fun w hw => hw.sub Sx), ?_⟩; refine TS.eff ?_; refine TSo.ar rfl (Wt.none rfl) rfl rfl (Ew.buildSlice rfl rfl rfl (by decide)) ?_; rintro _ _ ⟨g30, rfl, rfl⟩; refine ⟨(fun w hw => hw.sub Sx), ?_⟩; refine TS.ay (fun w hw => hw.freezeR (i := 3) (j := 0) (by decide) rfl rfl) ?_; rintro F2 ⟨le1_2, hz2⟩; dsimp only [List.set, List.eraseIdx]; have hf2 : SlC F2.toFrz (.slice (some ⟨g30, 0, none⟩) 5 5) 1 ([(zac a.A b.A), (zac a.B b.B), (zac a.Offset b.Offset), (zac a.Low b.Low), (zac a.High b.High)].map eI) := (SlK.lit hz2 rfl (Nat.le_refl _) (by decide)).toF (xs := [(zac a.A b.A), (zac a.B b.B), (zac a.Offset b.Offset), (zac a.Low b.Low), (zac a.High b.High)]) rfl (fun _ => rfl); refine TS.eff ?_; refine TSo.ar rfl (Wt.none rfl) rfl rfl (Ew.ae rfl rfl rfl (fun w hw => zcS _ w (hw.fr (i := 2) rfl) [(zac a.A b.A), (zac a.B b.B), (zac a.Offset b.Offset), (zac a.Low b.Low), (zac a.High b.High)] (.slice (some ⟨g30, 0, none⟩) 5 5) hf2)) ?_; rintro _ _ ⟨rfl, rfl⟩; refine ⟨(fun w hw => (hw.frLe (i := 2) rfl le1_2).sub Sx), ?_⟩; refine TS.run 1 rfl ?_; refine TS.done ?_; refine K.seq (T.ret ?_); subst hk; exact K.aj rfl rfl (fun w' hw => ⟨rfl, hw.isBelow⟩)
def zaJ (c : GLoad) : Bool :=
  (((((zae c.To) && (zae c.From)) && (decide (¬ c.To = c.From))) && (zam c.Weight 1 1073741824)) && (za4 c.Low c.High))
theorem zdq (F0 : Frz) (w : World) (hF0 : F0.At w) (c : GLoad) : Calls Tryz.prog 60 #[.agg [.int .i64 c.To, .int .i64 c.From, .int .i64 c.Weight, .int .i64 c.Low, .int .i64 c.High].toArray] w fun e w' => e = .returned (.bool (zaJ c)) ∧ Below w.heap.size w w' := by
  obtain ⟨r, hk⟩ : ∃ r, zaJ c = r := ⟨_, rfl⟩; rw [hk]; unfold zaJ at hk; obtain ⟨S0, F1, rfl, hS0, hp0⟩ := zah hF0; refine zan Tryz.func60 rfl rfl rfl hp0 ?_; refine T.sr ?_; refine TL.e (Ew.au rfl rfl) ?_; rintro _ _ ⟨g1, rfl, rfl⟩; refine TL.run 1 rfl ?_; refine TL.ns (T.seq ?_); refine T.ah (ι := Unit) (fun z => [(2, .bool (((((zae c.To) && (zae c.From)) && (decide (¬ c.To = c.From))) && (zam c.Weight 1 1073741824)) && (za4 c.Low c.High)))]) (fun z => [.row g1 70 [.int .i64 c.To, .int .i64 c.From, .int .i64 c.Weight, .int .i64 c.Low, .int .i64 c.High], .fr F1]) (fun z => True) ?_ ?_
  · refine T.region ?_; refine TL.y (Yv.fieldAddr rfl rfl) ?_; refine TL.y (Yv.aa 0 rfl rfl rfl rfl) ?_; refine TL.e (Ew.ae rfl rfl rfl (fun w hw => za1 _ w (hw.fr (i := 1) rfl) c.To)) ?_; rintro _ _ ⟨rfl, rfl⟩; refine TL.run 1 rfl ?_; refine TL.gs rfl rfl rfl (fun h1 => ?_) (fun h1 => ?_)
    · refine TL.y (Yv.fieldAddr rfl rfl) ?_; refine TL.y (Yv.aa 0 rfl rfl rfl rfl) ?_; refine TL.e (Ew.ae rfl rfl rfl (fun w hw => za1 _ w (hw.fr (i := 1) rfl) c.From)) ?_; rintro _ _ ⟨rfl, rfl⟩; refine TL.run 2 rfl ?_; refine TL.gs rfl rfl rfl (fun h2 => ?_) (fun h2 => ?_)
      · refine TL.y (Yv.fieldAddr rfl rfl) ?_; refine TL.y (Yv.aa 0 rfl rfl rfl rfl) ?_; refine TL.y (Yv.fieldAddr rfl rfl) ?_; refine TL.y (Yv.aa 0 rfl rfl rfl rfl) ?_; refine TL.run 3 rfl ?_; refine TL.gs rfl rfl rfl (fun h3 => ?_) (fun h3 => ?_)
        · have p3 := of_decide_eq_true h3; refine TL.y (Yv.fieldAddr rfl rfl) ?_; refine TL.y (Yv.aa 0 rfl rfl rfl rfl) ?_; refine TL.e (Ew.ae rfl rfl rfl (fun w hw => za3 _ w (hw.fr (i := 1) rfl) c.Weight 1 1073741824)) ?_; rintro _ _ ⟨rfl, rfl⟩; refine TL.run 2 rfl ?_; refine TL.gs rfl rfl rfl (fun h4 => ?_) (fun h4 => ?_)
          · refine TL.y (Yv.fieldAddr rfl rfl) ?_; refine TL.y (Yv.aa 0 rfl rfl rfl rfl) ?_; refine TL.y (Yv.fieldAddr rfl rfl) ?_; refine TL.y (Yv.aa 0 rfl rfl rfl rfl) ?_; refine TL.e (Ew.ae rfl rfl rfl (fun w hw => zcm _ w (hw.fr (i := 1) rfl) c.Low c.High)) ?_; rintro _ _ ⟨rfl, rfl⟩; refine TL.run 2 rfl ?_; refine TL.nil ?_; exact K.ag () trivial (.b (zcI (zaD (zaD (zaD h1 h2) h3) h4)) .nil) (List.Sublist.refl _)
          · refine TL.run 7 rfl ?_; refine TL.nil ?_; exact K.ag () trivial (.b (zav (zaD (zaD (zaD h1 h2) h3) h4)).symm .nil) (List.Sublist.refl _)
        · have p3 := of_decide_eq_false h3; refine TL.run 12 rfl ?_; refine TL.nil ?_; exact K.ag () trivial (.b (zav (zav (zaD (zaD h1 h2) h3))).symm .nil) (List.Sublist.refl _)
      · refine TL.run 19 rfl ?_; refine TL.nil ?_; exact K.ag () trivial (.b (zav (zav (zav (zaD h1 h2)))).symm .nil) (List.Sublist.refl _)
    · refine TL.run 24 rfl ?_; refine TL.nil ?_; exact K.ag () trivial (.b (zav (zav (zav (zav h1)))).symm .nil) (List.Sublist.refl _)
  · rintro _ _; refine T.ret ?_; subst hk; exact K.aj rfl rfl (fun w' hw => ⟨rfl, hw.isBelow⟩)
def za5 (a : GLoad) (b : GLoad) : Int :=
  (zbY [(zac a.To b.To), (zac a.From b.From), (zac a.Weight b.Weight), (zac a.Low b.Low), (zac a.High b.High)])
theorem zc3 (F0 : Frz) (w : World) (hF0 : F0.At w) (a : GLoad) (b : GLoad) : Calls Tryz.prog 62 #[.agg [.int .i64 a.To, .int .i64 a.From, .int .i64 a.Weight, .int .i64 a.Low, .int .i64 a.High].toArray, .agg [.int .i64 b.To, .int .i64 b.From, .int .i64 b.Weight, .int .i64 b.Low, .int .i64 b.High].toArray] w fun e w' => e = .returned (.int .i64 (za5 a b)) ∧ Below w.heap.size w w' := by
  obtain ⟨r, hk⟩ : ∃ r, za5 a b = r := ⟨_, rfl⟩; rw [hk]; unfold za5 at hk; obtain ⟨S0, F1, rfl, hS0, hp0⟩ := zah hF0; refine zan Tryz.func62 rfl rfl rfl hp0 ?_; refine T.sr ?_; refine TL.e (Ew.au rfl rfl) ?_; rintro _ _ ⟨g2, rfl, rfl⟩; refine TL.e (Ew.au rfl rfl) ?_; rintro _ _ ⟨g3, rfl, rfl⟩; refine TL.run 1 rfl ?_; refine TL.ns (T.seq ?_); refine T.av (.still 0 (.still 1 (.still 2 (.still 3 (.still 5 (.still 6 (.still 7 (.still 8 (.still 10 (.still 11 (.still 12 (.still 13 (.still 15 (.still 16 (.still 17 (.still 18 (.still 20 (.still 21 (.still 22 (.still 23 (.eff 4 (.eff 9 (.eff 14 (.eff 19 (.eff 24 (.eff 25 (.eff 26 (.still 27 .done)))))))))))))))))))))))))))) _ (by kernel_rfl) (List.Sublist.refl _) ?_; refine TS.y rfl (Yv.fieldAddr rfl rfl) ?_; refine TS.y rfl (Yv.aa 1 rfl rfl rfl rfl) ?_; refine TS.y rfl (Yv.fieldAddr rfl rfl) ?_; refine TS.y rfl (Yv.aa 0 rfl rfl rfl rfl) ?_; refine TS.y rfl (Yv.fieldAddr rfl rfl) ?_; refine TS.y rfl (Yv.aa 1 rfl rfl rfl rfl) ?_; refine TS.y rfl (Yv.fieldAddr rfl rfl) ?_; refine TS.y rfl (Yv.aa 0 rfl rfl rfl rfl) ?_; refine TS.y rfl (Yv.fieldAddr rfl rfl) ?_; refine TS.y rfl (Yv.aa 1 rfl rfl rfl rfl) ?_; refine TS.y rfl (Yv.fieldAddr rfl rfl) ?_; refine TS.y rfl (Yv.aa 0 rfl rfl rfl rfl) ?_; refine TS.y rfl (Yv.fieldAddr rfl rfl) ?_; refine TS.y rfl (Yv.aa 1 rfl rfl rfl rfl) ?_; refine TS.y rfl (Yv.fieldAddr rfl rfl) ?_; refine TS.y rfl (Yv.aa 0 rfl rfl rfl rfl) ?_; refine TS.y rfl (Yv.fieldAddr rfl rfl) ?_; refine TS.y rfl (Yv.aa 1 rfl rfl rfl rfl) ?_; refine TS.y rfl (Yv.fieldAddr rfl rfl) ?_; refine TS.y rfl (Yv.aa 0 rfl rfl rfl rfl) ?_; refine TS.eff ?_; refine TSo.ar rfl (Wt.none rfl) rfl rfl (Ew.ae rfl rfl rfl (fun w hw => zaw _ w (hw.fr (i := 2) rfl) a.To b.To)) ?_; rintro _ _ ⟨rfl, rfl⟩; refine ⟨(fun w hw => hw.sub Sx), ?_⟩; refine TS.eff ?_; refine TSo.ar rfl (Wt.none rfl) rfl rfl (Ew.ae rfl rfl rfl (fun w hw => zaw _ w (hw.fr (i := 2) rfl) a.From b.From)) ?_; rintro _ _ ⟨rfl, rfl⟩; refine ⟨(fun w hw => hw.sub Sx), ?_⟩; refine TS.eff ?_; refine TSo.ar rfl (Wt.none rfl) rfl rfl (Ew.ae rfl rfl rfl (fun w hw => zaw _ w (hw.fr (i := 2) rfl) a.Weight b.Weight)) ?_; rintro _ _ ⟨rfl, rfl⟩; refine ⟨(fun w hw => hw.sub Sx), ?_⟩; refine TS.eff ?_; refine TSo.ar rfl (Wt.none rfl) rfl rfl (Ew.ae rfl rfl rfl (fun w hw => zaw _ w (hw.fr (i := 2) rfl) a.Low b.Low)) ?_; rintro _ _ ⟨rfl, rfl⟩; refine ⟨(fun w hw => hw.sub Sx), ?_⟩; refine TS.eff ?_; refine TSo.ar rfl (Wt.none rfl) rfl rfl (Ew.ae rfl rfl rfl (fun w hw => zaw _ w (hw.fr (i := 2) rfl) a.High b.High)) ?_; rintro _ _ ⟨rfl, rfl⟩; refine ⟨(fun w hw => hw.sub Sx), ?_⟩; refine TS.eff ?_; refine TSo.ar rfl (Wt.none rfl) rfl rfl (Ew.buildSlice rfl rfl rfl (by decide)) ?_; rintro _ _ ⟨g30, rfl, rfl⟩; refine ⟨(fun w hw => hw.sub Sx), ?_⟩; refine TS.ay (fun w hw => hw.freezeR (i := 3) (j := 0) (by decide) rfl rfl) ?_; rintro F2 ⟨le1_2, hz2⟩; dsimp only [List.set, List.eraseIdx]; have hf2 : SlC F2.toFrz (.slice (some ⟨g30, 0, none⟩) 5 5) 1 ([(zac a.To b.To), (zac a.From b.From), (zac a.Weight b.Weight), (zac a.Low b.Low), (zac a.High b.High)].map eI) := (SlK.lit hz2 rfl (Nat.le_refl _) (by decide)).toF (xs := [(zac a.To b.To), (zac a.From b.From), (zac a.Weight b.Weight), (zac a.Low b.Low), (zac a.High b.High)]) rfl (fun _ => rfl); refine TS.eff ?_; refine TSo.ar rfl (Wt.none rfl) rfl rfl (Ew.ae rfl rfl rfl (fun w hw => zcS _ w (hw.fr (i := 2) rfl) [(zac a.To b.To), (zac a.From b.From), (zac a.Weight b.Weight), (zac a.Low b.Low), (zac a.High b.High)] (.slice (some ⟨g30, 0, none⟩) 5 5) hf2)) ?_; rintro _ _ ⟨rfl, rfl⟩; refine ⟨(fun w hw => (hw.frLe (i := 2) rfl le1_2).sub Sx), ?_⟩; refine TS.run 1 rfl ?_; refine TS.done ?_; refine K.seq (T.ret ?_); subst hk; exact K.aj rfl rfl (fun w' hw => ⟨rfl, hw.isBelow⟩)
def zaN (c : GCap) : Bool :=
  (((zae c.Station) && (zam c.Max 0 1099511627776)) && (za4 c.Low c.High))
theorem zdL (F0 : Frz) (w : World) (hF0 : F0.At w) (c : GCap) : Calls Tryz.prog 64 #[.agg [.int .i64 c.Station, .int .i64 c.Max, .int .i64 c.Low, .int .i64 c.High].toArray] w fun e w' => e = .returned (.bool (zaN c)) ∧ Below w.heap.size w w' := by
  obtain ⟨r, hk⟩ : ∃ r, zaN c = r := ⟨_, rfl⟩; rw [hk]; unfold zaN at hk; obtain ⟨S0, F1, rfl, hS0, hp0⟩ := zah hF0; refine zan Tryz.func64 rfl rfl rfl hp0 ?_; refine T.sr ?_; refine TL.e (Ew.au rfl rfl) ?_; rintro _ _ ⟨g1, rfl, rfl⟩; refine TL.run 1 rfl ?_; refine TL.ns (T.seq ?_); refine T.ah (ι := Unit) (fun z => [(2, .bool (((zae c.Station) && (zam c.Max 0 1099511627776)) && (za4 c.Low c.High)))]) (fun z => [.row g1 72 [.int .i64 c.Station, .int .i64 c.Max, .int .i64 c.Low, .int .i64 c.High], .fr F1]) (fun z => True) ?_ ?_
  · refine T.region ?_; refine TL.y (Yv.fieldAddr rfl rfl) ?_; refine TL.y (Yv.aa 0 rfl rfl rfl rfl) ?_; refine TL.e (Ew.ae rfl rfl rfl (fun w hw => za1 _ w (hw.fr (i := 1) rfl) c.Station)) ?_; rintro _ _ ⟨rfl, rfl⟩; refine TL.run 1 rfl ?_; refine TL.gs rfl rfl rfl (fun h1 => ?_) (fun h1 => ?_)
    · refine TL.y (Yv.fieldAddr rfl rfl) ?_; refine TL.y (Yv.aa 0 rfl rfl rfl rfl) ?_; refine TL.e (Ew.ae rfl rfl rfl (fun w hw => za3 _ w (hw.fr (i := 1) rfl) c.Max 0 1099511627776)) ?_; rintro _ _ ⟨rfl, rfl⟩; refine TL.run 2 rfl ?_; refine TL.gs rfl rfl rfl (fun h2 => ?_) (fun h2 => ?_)
      · refine TL.y (Yv.fieldAddr rfl rfl) ?_; refine TL.y (Yv.aa 0 rfl rfl rfl rfl) ?_; refine TL.y (Yv.fieldAddr rfl rfl) ?_; refine TL.y (Yv.aa 0 rfl rfl rfl rfl) ?_; refine TL.e (Ew.ae rfl rfl rfl (fun w hw => zcm _ w (hw.fr (i := 1) rfl) c.Low c.High)) ?_; rintro _ _ ⟨rfl, rfl⟩; refine TL.run 2 rfl ?_; refine TL.nil ?_; exact K.ag () trivial (.b (zcI (zaD h1 h2)) .nil) (List.Sublist.refl _)
      · refine TL.run 7 rfl ?_; refine TL.nil ?_; exact K.ag () trivial (.b (zav (zaD h1 h2)).symm .nil) (List.Sublist.refl _)
    · refine TL.run 12 rfl ?_; refine TL.nil ?_; exact K.ag () trivial (.b (zav (zav h1)).symm .nil) (List.Sublist.refl _)
  · rintro _ _; refine T.ret ?_; subst hk; exact K.aj rfl rfl (fun w' hw => ⟨rfl, hw.isBelow⟩)
def zba (a : GCap) (b : GCap) : Int :=
  (zbY [(zac a.Station b.Station), (zac a.Max b.Max), (zac a.Low b.Low), (zac a.High b.High)])
theorem zdb (F0 : Frz) (w : World) (hF0 : F0.At w) (a : GCap) (b : GCap) : Calls Tryz.prog 66 #[.agg [.int .i64 a.Station, .int .i64 a.Max, .int .i64 a.Low, .int .i64 a.High].toArray, .agg [.int .i64 b.Station, .int .i64 b.Max, .int .i64 b.Low, .int .i64 b.High].toArray] w fun e w' => e = .returned (.int .i64 (zba a b)) ∧ Below w.heap.size w w' := by
  obtain ⟨r, hk⟩ : ∃ r, zba a b = r := ⟨_, rfl⟩; rw [hk]; unfold zba at hk; obtain ⟨S0, F1, rfl, hS0, hp0⟩ := zah hF0; refine zan Tryz.func66 rfl rfl rfl hp0 ?_; refine T.sr ?_; refine TL.e (Ew.au rfl rfl) ?_; rintro _ _ ⟨g2, rfl, rfl⟩; refine TL.e (Ew.au rfl rfl) ?_; rintro _ _ ⟨g3, rfl, rfl⟩; refine TL.run 1 rfl ?_; refine TL.ns (T.seq ?_); refine T.av (.still 0 (.still 1 (.still 2 (.still 3 (.still 5 (.still 6 (.still 7 (.still 8 (.still 10 (.still 11 (.still 12 (.still 13 (.still 15 (.still 16 (.still 17 (.still 18 (.eff 4 (.eff 9 (.eff 14 (.eff 19 (.eff 20 (.eff 21 (.still 22 .done))))))))))))))))))))))) _ (by kernel_rfl) (List.Sublist.refl _) ?_; refine TS.y rfl (Yv.fieldAddr rfl rfl) ?_; refine TS.y rfl (Yv.aa 1 rfl rfl rfl rfl) ?_; refine TS.y rfl (Yv.fieldAddr rfl rfl) ?_; refine TS.y rfl (Yv.aa 0 rfl rfl rfl rfl) ?_; refine TS.y rfl (Yv.fieldAddr rfl rfl) ?_; refine TS.y rfl (Yv.aa 1 rfl rfl rfl rfl) ?_; refine TS.y rfl (Yv.fieldAddr rfl rfl) ?_; refine TS.y rfl (Yv.aa 0 rfl rfl rfl rfl) ?_; refine TS.y rfl (Yv.fieldAddr rfl rfl) ?_; refine TS.y rfl (Yv.aa 1 rfl rfl rfl rfl) ?_; refine TS.y rfl (Yv.fieldAddr rfl rfl) ?_; refine TS.y rfl (Yv.aa 0 rfl rfl rfl rfl) ?_; refine TS.y rfl (Yv.fieldAddr rfl rfl) ?_; refine TS.y rfl (Yv.aa 1 rfl rfl rfl rfl) ?_; refine TS.y rfl (Yv.fieldAddr rfl rfl) ?_; refine TS.y rfl (Yv.aa 0 rfl rfl rfl rfl) ?_; refine TS.eff ?_; refine TSo.ar rfl (Wt.none rfl) rfl rfl (Ew.ae rfl rfl rfl (fun w hw => zaw _ w (hw.fr (i := 2) rfl) a.Station b.Station)) ?_; rintro _ _ ⟨rfl, rfl⟩; refine ⟨(fun w hw => hw.sub Sx), ?_⟩; refine TS.eff ?_; refine TSo.ar rfl (Wt.none rfl) rfl rfl (Ew.ae rfl rfl rfl (fun w hw => zaw _ w (hw.fr (i := 2) rfl) a.Max b.Max)) ?_; rintro _ _ ⟨rfl, rfl⟩; refine ⟨(fun w hw => hw.sub Sx), ?_⟩; refine TS.eff ?_; refine TSo.ar rfl (Wt.none rfl) rfl rfl (Ew.ae rfl rfl rfl (fun w hw => zaw _ w (hw.fr (i := 2) rfl) a.Low b.Low)) ?_; rintro _ _ ⟨rfl, rfl⟩; refine ⟨(fun w hw => hw.sub Sx), ?_⟩; refine TS.eff ?_; refine TSo.ar rfl (Wt.none rfl) rfl rfl (Ew.ae rfl rfl rfl (fun w hw => zaw _ w (hw.fr (i := 2) rfl) a.High b.High)) ?_; rintro _ _ ⟨rfl, rfl⟩; refine ⟨(fun w hw => hw.sub Sx), ?_⟩; refine TS.eff ?_; refine TSo.ar rfl (Wt.none rfl) rfl rfl (Ew.buildSlice rfl rfl rfl (by decide)) ?_; rintro _ _ ⟨g25, rfl, rfl⟩; refine ⟨(fun w hw => hw.sub Sx), ?_⟩; refine TS.ay (fun w hw => hw.freezeR (i := 3) (j := 0) (by decide) rfl rfl) ?_; rintro F2 ⟨le1_2, hz2⟩; dsimp only [List.set, List.eraseIdx]; have hf2 : SlC F2.toFrz (.slice (some ⟨g25, 0, none⟩) 4 4) 1 ([(zac a.Station b.Station), (zac a.Max b.Max), (zac a.Low b.Low), (zac a.High b.High)].map eI) := (SlK.lit hz2 rfl (Nat.le_refl _) (by decide)).toF (xs := [(zac a.Station b.Station), (zac a.Max b.Max), (zac a.Low b.Low), (zac a.High b.High)]) rfl (fun _ => rfl); refine TS.eff ?_; refine TSo.ar rfl (Wt.none rfl) rfl rfl (Ew.ae rfl rfl rfl (fun w hw => zcS _ w (hw.fr (i := 2) rfl) [(zac a.Station b.Station), (zac a.Max b.Max), (zac a.Low b.Low), (zac a.High b.High)] (.slice (some ⟨g25, 0, none⟩) 4 4) hf2)) ?_; rintro _ _ ⟨rfl, rfl⟩; refine ⟨(fun w hw => (hw.frLe (i := 2) rfl le1_2).sub Sx), ?_⟩; refine TS.run 1 rfl ?_; refine TS.done ?_; refine K.seq (T.ret ?_); subst hk; exact K.aj rfl rfl (fun w' hw => ⟨rfl, hw.isBelow⟩)
def zaV (s1 : List Int) (s2 : List Int) : Bool :=
  (bif decide (¬ (s1.length : Int) = (s2.length : Int)) then
    false
    else
    zaM (fun (_ : Unit) =>
      true)
    (fun k2 =>
      zaj (fun (i_4 : Nat) (next3 : Unit → Bool) (_ : Unit) =>
        (bif decide (¬ (nth s1 i_4) = (nth s2 i_4)) then
          false
          else
          next3 ()))
      (fun (_ : Unit) =>
        k2 ()) (s1.length - 0) 0 ()))
theorem zcH (F0 : Frz) (w : World) (hF0 : F0.At w) (s1 : List Int) (vs1 : Value) (hs1 : SlC F0 vs1 1 (s1.map eI)) (s2 : List Int) (vs2 : Value) (hs2 : SlC F0 vs2 1 (s2.map eI)) : Calls Tryz.prog 81 #[vs1, vs2] w fun e w' => e = .returned (.bool (zaV s1 s2)) ∧ Below w.heap.size w w' := by
  obtain ⟨r, hk⟩ : ∃ r, zaV s1 s2 = r := ⟨_, rfl⟩; rw [hk]; unfold zaV at hk; haveI := hs1.oneC; haveI := hs2.oneC; obtain ⟨S0, F1, rfl, hS0, hp0⟩ := zah hF0; refine zan Tryz.func81 rfl rfl rfl hp0 ?_; refine T.sr ?_; refine TL.run 1 rfl ?_; refine TL.ns (T.seq (T.sr ?_)); refine TL.run 1 rfl ?_; refine TL.y (Yv.al rfl rfl hs1 (List.length_map _)) ?_; have hm7 : s1.length ≤ 9223372036854775807 := (List.length_map _) ▸ hs1.max; refine TL.run 1 rfl ?_; refine TL.y (Yv.al rfl rfl hs2 (List.length_map _)) ?_; have hm9 : s2.length ≤ 9223372036854775807 := (List.length_map _) ▸ hs2.max; refine TL.run 1 rfl ?_; refine TL.ns ?_; refine T.cond rfl (fun h1 => ?_) (fun h1 => ?_)
  · have p1 := of_decide_eq_true h1; replace hk := zab hk h1; refine T.sr ?_; refine TL.run 1 rfl ?_; refine TL.ns (T.ret (K.a ?_)); subst hk; exact K.aj rfl rfl (fun w' hw => ⟨rfl, hw.isBelow⟩)
  · have p1 := of_decide_eq_false h1; replace hk := zaa hk h1; refine T.skip (K.seq (T.seq (T.sr ?_))); refine TL.run 1 rfl ?_; refine TL.y (Yv.al rfl rfl hs1 (List.length_map _)) ?_; refine TL.run 1 rfl ?_; refine TL.ns ?_; have hq := zaf hk; clear hk; obtain ⟨k2, hk2, hk⟩ := hq; (try dsimp only at hk); refine T.ah (ι := Unit) (fun z => []) (fun z => [.fr F1]) (fun z => k2 () = r) ?_ ?_
    · have hq := zak hk; clear hk; obtain ⟨f3, kk3, hf3, hkk3, hk⟩ := hq; refine T.block ?_; refine T.loop (ι := Nat) (fun z => [(0, vs1), (1, vs2), (12, .int .i64 (s1.length : Int)), (13, .int .i64 (z : Int))]) (fun z => [.fr F1]) (fun z => zaj f3 kk3 (s1.length - z) z () = r) (fun z => s1.length - z) 0 ?_ ?_ ?_ ?_
      · exact hk
      · exact (.c (.c (.c (.c .nil))))
      · exact List.Sublist.refl _
      · rintro i_4 hk; refine T.sr ?_; refine TL.run 1 rfl ?_; refine TL.ns (T.seq ?_); refine T.cond rfl (fun h5 => ?_) (fun h5 => ?_)
        · have p5 := of_decide_eq_true h5; rw [zat (by omega)] at hk; generalize hn3 : zaj f3 kk3 (s1.length - (i_4 + 1)) (i_4 + 1) = next3 at hk; rw [← hf3] at hk; (try dsimp only at hk); refine T.skip (K.seq (T.seq (T.block (T.sr ?_)))); refine TL.run 2 rfl ?_; refine TL.ns (T.seq ?_); refine T.av (.still 0 (.still 1 (.still 2 (.still 3 (.still 4 (.still 5 (.still 6 (.still 7 (.still 8 .done))))))))) _ (by kernel_rfl) (List.Sublist.refl _) ?_; refine TS.run 2 rfl ?_; refine TS.y rfl (Yv.am (i := i_4) rfl rfl rfl hs1 (List.length_map _) rfl (by omega)) ?_; refine TS.y rfl (Yv.aq 0 (i := i_4) (j := 0) rfl rfl rfl hs1 (by omega) rfl rfl) ?_; refine TS.run 2 rfl ?_; refine TS.y rfl (Yv.am (i := i_4) rfl rfl rfl hs2 (List.length_map _) rfl (by omega)) ?_; refine TS.y rfl (Yv.aq 0 (i := i_4) (j := 0) rfl rfl rfl hs2 (by omega) rfl rfl) ?_; refine TS.run 1 rfl ?_; refine TS.done ?_; refine K.seq ?_; refine T.cond rfl (fun h6 => ?_) (fun h6 => ?_)
          · have p6 := of_decide_eq_true h6; replace hk := zab hk h6; refine T.sr ?_; refine TL.run 1 rfl ?_; refine TL.ns (T.ret (K.af (K.a (K.a (K.af (K.a ?_)))))); subst hk; exact K.aj rfl rfl (fun w' hw => ⟨rfl, hw.isBelow⟩)
          · have p6 := of_decide_eq_false h6; replace hk := zaa hk h6; refine T.skip (K.ac (K.seq (T.region ?_))); refine TL.y (Yv.ao rfl rfl rfl (by omega)) ?_; refine TL.run 1 rfl ?_; refine TL.nil ?_; rw [← hn3] at hk; exact K.next (i_4 + 1) hk (by omega) (.c (.c (.c (.c .nil)))) (List.Sublist.refl _)
        · have p5 := of_decide_eq_false h5; rw [zau (by omega), ← hkk3] at hk; (try dsimp only at hk); refine T.exit (K.ab (K.ab (K.ad ?_))); exact K.ag () hk .nil (List.Sublist.refl _)
    · rintro _ hk; rw [← hk2] at hk; (try dsimp only at hk); refine T.sr ?_; refine TL.run 1 rfl ?_; refine TL.ns (T.ret ?_); subst hk; exact K.aj rfl rfl (fun w' hw => ⟨rfl, hw.isBelow⟩)
def zao (s1 : List GPair) (s2 : List GPair) : Bool :=
  (bif decide (¬ (s1.length : Int) = (s2.length : Int)) then
    false
    else
    zaM (fun (_ : Unit) =>
      true)
    (fun k2 =>
      zaj (fun (i_4 : Nat) (next3 : Unit → Bool) (_ : Unit) =>
        (bif !(decide ((nth s1 i_4).A = (nth s2 i_4).A) && decide ((nth s1 i_4).B = (nth s2 i_4).B) && decide ((nth s1 i_4).Offset = (nth s2 i_4).Offset) && decide ((nth s1 i_4).Low = (nth s2 i_4).Low) && decide ((nth s1 i_4).High = (nth s2 i_4).High)) then
          false
          else
          next3 ()))
      (fun (_ : Unit) =>
        k2 ()) (s1.length - 0) 0 ()))
theorem zby (F0 : Frz) (w : World) (hF0 : F0.At w) (s1 : List GPair) (vs1 : Value) (hs1 : SlC F0 vs1 5 (s1.map GPair.enc)) (s2 : List GPair) (vs2 : Value) (hs2 : SlC F0 vs2 5 (s2.map GPair.enc)) : Calls Tryz.prog 83 #[vs1, vs2] w fun e w' => e = .returned (.bool (zao s1 s2)) ∧ Below w.heap.size w w' := by
  obtain ⟨r, hk⟩ : ∃ r, zao s1 s2 = r := ⟨_, rfl⟩; rw [hk]; unfold zao at hk; haveI := hs1.oneC; haveI := hs2.oneC; obtain ⟨S0, F1, rfl, hS0, hp0⟩ := zah hF0; refine zan Tryz.func83 rfl rfl rfl hp0 ?_; refine T.sr ?_; refine TL.run 1 rfl ?_; refine TL.ns (T.seq (T.sr ?_)); refine TL.run 1 rfl ?_; refine TL.y (Yv.al rfl rfl hs1 (List.length_map _)) ?_; have hm7 : s1.length ≤ 9223372036854775807 := (List.length_map _) ▸ hs1.max; refine TL.run 1 rfl ?_; refine TL.y (Yv.al rfl rfl hs2 (List.length_map _)) ?_; have hm9 : s2.length ≤ 9223372036854775807 := (List.length_map _) ▸ hs2.max; refine TL.run 1 rfl ?_; refine TL.ns ?_; refine T.cond rfl (fun h1 => ?_) (fun h1 => ?_)
  · have p1 := of_decide_eq_true h1; replace hk := zab hk h1; refine T.sr ?_; refine TL.run 1 rfl ?_; refine TL.ns (T.ret (K.a ?_)); subst hk; exact K.aj rfl rfl (fun w' hw => ⟨rfl, hw.isBelow⟩)
  · have p1 := of_decide_eq_false h1; replace hk := zaa hk h1; refine T.skip (K.seq (T.seq (T.sr ?_))); refine TL.run 1 rfl ?_; refine TL.y (Yv.al rfl rfl hs1 (List.length_map _)) ?_; refine TL.run 1 rfl ?_; refine TL.ns ?_; have hq := zaf hk; clear hk; obtain ⟨k2, hk2, hk⟩ := hq; (try dsimp only at hk); refine T.ah (ι := Unit) (fun z => []) (fun z => [.fr F1]) (fun z => k2 () = r) ?_ ?_
    · have hq := zak hk; clear hk; obtain ⟨f3, kk3, hf3, hkk3, hk⟩ := hq; refine T.block ?_; refine T.loop (ι := Nat) (fun z => [(0, vs1), (1, vs2), (12, .int .i64 (s1.length : Int)), (13, .int .i64 (z : Int))]) (fun z => [.fr F1]) (fun z => zaj f3 kk3 (s1.length - z) z () = r) (fun z => s1.length - z) 0 ?_ ?_ ?_ ?_
      · exact hk
      · exact (.c (.c (.c (.c .nil))))
      · exact List.Sublist.refl _
      · rintro i_4 hk; refine T.sr ?_; refine TL.run 1 rfl ?_; refine TL.ns (T.seq ?_); refine T.cond rfl (fun h5 => ?_) (fun h5 => ?_)
        · have p5 := of_decide_eq_true h5; rw [zat (by omega)] at hk; generalize hn3 : zaj f3 kk3 (s1.length - (i_4 + 1)) (i_4 + 1) = next3 at hk; rw [← hf3] at hk; (try dsimp only at hk); refine T.skip (K.seq (T.seq (T.block (T.sr ?_)))); refine TL.run 2 rfl ?_; refine TL.ns (T.seq ?_); refine T.av (.still 0 (.still 1 (.still 2 (.still 3 (.still 4 (.still 5 (.still 6 (.still 7 (.still 8 .done))))))))) _ (by kernel_rfl) (List.Sublist.refl _) ?_; refine TS.run 2 rfl ?_; refine TS.y rfl (Yv.am (i := i_4) rfl rfl rfl hs1 (List.length_map _) rfl (by omega)) ?_; refine TS.y rfl (Yv.an 0 (i := i_4) rfl rfl rfl hs1 (by omega) rfl rfl rfl) ?_; refine TS.run 2 rfl ?_; refine TS.y rfl (Yv.am (i := i_4) rfl rfl rfl hs2 (List.length_map _) rfl (by omega)) ?_; refine TS.y rfl (Yv.an 0 (i := i_4) rfl rfl rfl hs2 (by omega) rfl rfl rfl) ?_; refine TS.y rfl (Yv.ba (by kernel_rfl) rfl rfl rfl) ?_; refine TS.done ?_; refine K.seq ?_; refine T.cond rfl (fun h6 => ?_) (fun h6 => ?_)
          · replace hk := zab hk h6; refine T.sr ?_; refine TL.run 1 rfl ?_; refine TL.ns (T.ret (K.af (K.a (K.a (K.af (K.a ?_)))))); subst hk; exact K.aj rfl rfl (fun w' hw => ⟨rfl, hw.isBelow⟩)
          · have p6 := h6; (try simp only [nfB] at p6); replace hk := zaa hk h6; refine T.skip (K.ac (K.seq (T.region ?_))); refine TL.y (Yv.ao rfl rfl rfl (by omega)) ?_; refine TL.run 1 rfl ?_; refine TL.nil ?_; rw [← hn3] at hk; exact K.next (i_4 + 1) hk (by omega) (.c (.c (.c (.c .nil)))) (List.Sublist.refl _)
        · have p5 := of_decide_eq_false h5; rw [zau (by omega), ← hkk3] at hk; (try dsimp only at hk); refine T.exit (K.ab (K.ab (K.ad ?_))); exact K.ag () hk .nil (List.Sublist.refl _)
    · rintro _ hk; rw [← hk2] at hk; (try dsimp only at hk); refine T.sr ?_; refine TL.run 1 rfl ?_; refine TL.ns (T.ret ?_); subst hk; exact K.aj rfl rfl (fun w' hw => ⟨rfl, hw.isBelow⟩)
def zap (s1 : List GLoad) (s2 : List GLoad) : Bool :=
  (bif decide (¬ (s1.length : Int) = (s2.length : Int)) then
    false
    else
    zaM (fun (_ : Unit) =>
      true)
    (fun k2 =>
      zaj (fun (i_4 : Nat) (next3 : Unit → Bool) (_ : Unit) =>
        (bif !(decide ((nth s1 i_4).To = (nth s2 i_4).To) && decide ((nth s1 i_4).From = (nth s2 i_4).From) && decide ((nth s1 i_4).Weight = (nth s2 i_4).Weight) && decide ((nth s1 i_4).Low = (nth s2 i_4).Low) && decide ((nth s1 i_4).High = (nth s2 i_4).High)) then
          false
          else
          next3 ()))
      (fun (_ : Unit) =>
        k2 ()) (s1.length - 0) 0 ()))
theorem zbu (F0 : Frz) (w : World) (hF0 : F0.At w) (s1 : List GLoad) (vs1 : Value) (hs1 : SlC F0 vs1 5 (s1.map GLoad.enc)) (s2 : List GLoad) (vs2 : Value) (hs2 : SlC F0 vs2 5 (s2.map GLoad.enc)) : Calls Tryz.prog 84 #[vs1, vs2] w fun e w' => e = .returned (.bool (zap s1 s2)) ∧ Below w.heap.size w w' := by
  obtain ⟨r, hk⟩ : ∃ r, zap s1 s2 = r := ⟨_, rfl⟩; rw [hk]; unfold zap at hk; haveI := hs1.oneC; haveI := hs2.oneC; obtain ⟨S0, F1, rfl, hS0, hp0⟩ := zah hF0; refine zan Tryz.func84 rfl rfl rfl hp0 ?_; refine T.sr ?_; refine TL.run 1 rfl ?_; refine TL.ns (T.seq (T.sr ?_)); refine TL.run 1 rfl ?_; refine TL.y (Yv.al rfl rfl hs1 (List.length_map _)) ?_; have hm7 : s1.length ≤ 9223372036854775807 := (List.length_map _) ▸ hs1.max; refine TL.run 1 rfl ?_; refine TL.y (Yv.al rfl rfl hs2 (List.length_map _)) ?_; have hm9 : s2.length ≤ 9223372036854775807 := (List.length_map _) ▸ hs2.max; refine TL.run 1 rfl ?_; refine TL.ns ?_; refine T.cond rfl (fun h1 => ?_) (fun h1 => ?_)
  · have p1 := of_decide_eq_true h1; replace hk := zab hk h1; refine T.sr ?_; refine TL.run 1 rfl ?_; refine TL.ns (T.ret (K.a ?_)); subst hk; exact K.aj rfl rfl (fun w' hw => ⟨rfl, hw.isBelow⟩)
  · have p1 := of_decide_eq_false h1; replace hk := zaa hk h1; refine T.skip (K.seq (T.seq (T.sr ?_))); refine TL.run 1 rfl ?_; refine TL.y (Yv.al rfl rfl hs1 (List.length_map _)) ?_; refine TL.run 1 rfl ?_; refine TL.ns ?_; have hq := zaf hk; clear hk; obtain ⟨k2, hk2, hk⟩ := hq; (try dsimp only at hk); refine T.ah (ι := Unit) (fun z => []) (fun z => [.fr F1]) (fun z => k2 () = r) ?_ ?_
    · have hq := zak hk; clear hk; obtain ⟨f3, kk3, hf3, hkk3, hk⟩ := hq; refine T.block ?_; refine T.loop (ι := Nat) (fun z => [(0, vs1), (1, vs2), (12, .int .i64 (s1.length : Int)), (13, .int .i64 (z : Int))]) (fun z => [.fr F1]) (fun z => zaj f3 kk3 (s1.length - z) z () = r) (fun z => s1.length - z) 0 ?_ ?_ ?_ ?_
      · exact hk
      · exact (.c (.c (.c (.c .nil))))
      · exact List.Sublist.refl _
      · rintro i_4 hk; refine T.sr ?_; refine TL.run 1 rfl ?_; refine TL.ns (T.seq ?_); refine T.cond rfl (fun h5 => ?_) (fun h5 => ?_)
        · have p5 := of_decide_eq_true h5; rw [zat (by omega)] at hk; generalize hn3 : zaj f3 kk3 (s1.length - (i_4 + 1)) (i_4 + 1) = next3 at hk; rw [← hf3] at hk; (try dsimp only at hk); refine T.skip (K.seq (T.seq (T.block (T.sr ?_)))); refine TL.run 2 rfl ?_; refine TL.ns (T.seq ?_); refine T.av (.still 0 (.still 1 (.still 2 (.still 3 (.still 4 (.still 5 (.still 6 (.still 7 (.still 8 .done))))))))) _ (by kernel_rfl) (List.Sublist.refl _) ?_; refine TS.run 2 rfl ?_; refine TS.y rfl (Yv.am (i := i_4) rfl rfl rfl hs1 (List.length_map _) rfl (by omega)) ?_; refine TS.y rfl (Yv.an 0 (i := i_4) rfl rfl rfl hs1 (by omega) rfl rfl rfl) ?_; refine TS.run 2 rfl ?_; refine TS.y rfl (Yv.am (i := i_4) rfl rfl rfl hs2 (List.length_map _) rfl (by omega)) ?_; refine TS.y rfl (Yv.an 0 (i := i_4) rfl rfl rfl hs2 (by omega) rfl rfl rfl) ?_; refine TS.y rfl (Yv.ba (by kernel_rfl) rfl rfl rfl) ?_; refine TS.done ?_; refine K.seq ?_; refine T.cond rfl (fun h6 => ?_) (fun h6 => ?_)
          · replace hk := zab hk h6; refine T.sr ?_; refine TL.run 1 rfl ?_; refine TL.ns (T.ret (K.af (K.a (K.a (K.af (K.a ?_)))))); subst hk; exact K.aj rfl rfl (fun w' hw => ⟨rfl, hw.isBelow⟩)
          · have p6 := h6; (try simp only [nfB] at p6); replace hk := zaa hk h6; refine T.skip (K.ac (K.seq (T.region ?_))); refine TL.y (Yv.ao rfl rfl rfl (by omega)) ?_; refine TL.run 1 rfl ?_; refine TL.nil ?_; rw [← hn3] at hk; exact K.next (i_4 + 1) hk (by omega) (.c (.c (.c (.c .nil)))) (List.Sublist.refl _)
        · have p5 := of_decide_eq_false h5; rw [zau (by omega), ← hkk3] at hk; (try dsimp only at hk); refine T.exit (K.ab (K.ab (K.ad ?_))); exact K.ag () hk .nil (List.Sublist.refl _)
    · rintro _ hk; rw [← hk2] at hk; (try dsimp only at hk); refine T.sr ?_; refine TL.run 1 rfl ?_; refine TL.ns (T.ret ?_); subst hk; exact K.aj rfl rfl (fun w' hw => ⟨rfl, hw.isBelow⟩)
def zar (s1 : List GCap) (s2 : List GCap) : Bool :=
  (bif decide (¬ (s1.length : Int) = (s2.length : Int)) then
    false
    else
    zaM (fun (_ : Unit) =>
      true)
    (fun k2 =>
      zaj (fun (i_4 : Nat) (next3 : Unit → Bool) (_ : Unit) =>
        (bif !(decide ((nth s1 i_4).Station = (nth s2 i_4).Station) && decide ((nth s1 i_4).Max = (nth s2 i_4).Max) && decide ((nth s1 i_4).Low = (nth s2 i_4).Low) && decide ((nth s1 i_4).High = (nth s2 i_4).High)) then
          false
          else
          next3 ()))
      (fun (_ : Unit) =>
        k2 ()) (s1.length - 0) 0 ()))
theorem zbB (F0 : Frz) (w : World) (hF0 : F0.At w) (s1 : List GCap) (vs1 : Value) (hs1 : SlC F0 vs1 4 (s1.map GCap.enc)) (s2 : List GCap) (vs2 : Value) (hs2 : SlC F0 vs2 4 (s2.map GCap.enc)) : Calls Tryz.prog 85 #[vs1, vs2] w fun e w' => e = .returned (.bool (zar s1 s2)) ∧ Below w.heap.size w w' := by
  obtain ⟨r, hk⟩ : ∃ r, zar s1 s2 = r := ⟨_, rfl⟩; rw [hk]; unfold zar at hk; haveI := hs1.oneC; haveI := hs2.oneC; obtain ⟨S0, F1, rfl, hS0, hp0⟩ := zah hF0; refine zan Tryz.func85 rfl rfl rfl hp0 ?_; refine T.sr ?_; refine TL.run 1 rfl ?_; refine TL.ns (T.seq (T.sr ?_)); refine TL.run 1 rfl ?_; refine TL.y (Yv.al rfl rfl hs1 (List.length_map _)) ?_; have hm7 : s1.length ≤ 9223372036854775807 := (List.length_map _) ▸ hs1.max; refine TL.run 1 rfl ?_; refine TL.y (Yv.al rfl rfl hs2 (List.length_map _)) ?_; have hm9 : s2.length ≤ 9223372036854775807 := (List.length_map _) ▸ hs2.max; refine TL.run 1 rfl ?_; refine TL.ns ?_; refine T.cond rfl (fun h1 => ?_) (fun h1 => ?_)
  · have p1 := of_decide_eq_true h1; replace hk := zab hk h1; refine T.sr ?_; refine TL.run 1 rfl ?_; refine TL.ns (T.ret (K.a ?_)); subst hk; exact K.aj rfl rfl (fun w' hw => ⟨rfl, hw.isBelow⟩)
  · have p1 := of_decide_eq_false h1; replace hk := zaa hk h1; refine T.skip (K.seq (T.seq (T.sr ?_))); refine TL.run 1 rfl ?_; refine TL.y (Yv.al rfl rfl hs1 (List.length_map _)) ?_; refine TL.run 1 rfl ?_; refine TL.ns ?_; have hq := zaf hk; clear hk; obtain ⟨k2, hk2, hk⟩ := hq; (try dsimp only at hk); refine T.ah (ι := Unit) (fun z => []) (fun z => [.fr F1]) (fun z => k2 () = r) ?_ ?_
    · have hq := zak hk; clear hk; obtain ⟨f3, kk3, hf3, hkk3, hk⟩ := hq; refine T.block ?_; refine T.loop (ι := Nat) (fun z => [(0, vs1), (1, vs2), (12, .int .i64 (s1.length : Int)), (13, .int .i64 (z : Int))]) (fun z => [.fr F1]) (fun z => zaj f3 kk3 (s1.length - z) z () = r) (fun z => s1.length - z) 0 ?_ ?_ ?_ ?_
      · exact hk
      · exact (.c (.c (.c (.c .nil))))
      · exact List.Sublist.refl _
      · rintro i_4 hk; refine T.sr ?_; refine TL.run 1 rfl ?_; refine TL.ns (T.seq ?_); refine T.cond rfl (fun h5 => ?_) (fun h5 => ?_)
        · have p5 := of_decide_eq_true h5; rw [zat (by omega)] at hk; generalize hn3 : zaj f3 kk3 (s1.length - (i_4 + 1)) (i_4 + 1) = next3 at hk; rw [← hf3] at hk; (try dsimp only at hk); refine T.skip (K.seq (T.seq (T.block (T.sr ?_)))); refine TL.run 2 rfl ?_; refine TL.ns (T.seq ?_); refine T.av (.still 0 (.still 1 (.still 2 (.still 3 (.still 4 (.still 5 (.still 6 (.still 7 (.still 8 .done))))))))) _ (by kernel_rfl) (List.Sublist.refl _) ?_; refine TS.run 2 rfl ?_; refine TS.y rfl (Yv.am (i := i_4) rfl rfl rfl hs1 (List.length_map _) rfl (by omega)) ?_; refine TS.y rfl (Yv.an 0 (i := i_4) rfl rfl rfl hs1 (by omega) rfl rfl rfl) ?_; refine TS.run 2 rfl ?_; refine TS.y rfl (Yv.am (i := i_4) rfl rfl rfl hs2 (List.length_map _) rfl (by omega)) ?_; refine TS.y rfl (Yv.an 0 (i := i_4) rfl rfl rfl hs2 (by omega) rfl rfl rfl) ?_; refine TS.y rfl (Yv.bt (by kernel_rfl) rfl rfl rfl) ?_; refine TS.done ?_; refine K.seq ?_; refine T.cond rfl (fun h6 => ?_) (fun h6 => ?_)
          · replace hk := zab hk h6; refine T.sr ?_; refine TL.run 1 rfl ?_; refine TL.ns (T.ret (K.af (K.a (K.a (K.af (K.a ?_)))))); subst hk; exact K.aj rfl rfl (fun w' hw => ⟨rfl, hw.isBelow⟩)
          · have p6 := h6; (try simp only [nfB] at p6); replace hk := zaa hk h6; refine T.skip (K.ac (K.seq (T.region ?_))); refine TL.y (Yv.ao rfl rfl rfl (by omega)) ?_; refine TL.run 1 rfl ?_; refine TL.nil ?_; rw [← hn3] at hk; exact K.next (i_4 + 1) hk (by omega) (.c (.c (.c (.c .nil)))) (List.Sublist.refl _)
        · have p5 := of_decide_eq_false h5; rw [zau (by omega), ← hkk3] at hk; (try dsimp only at hk); refine T.exit (K.ab (K.ab (K.ad ?_))); exact K.ag () hk .nil (List.Sublist.refl _)
    · rintro _ hk; rw [← hk2] at hk; (try dsimp only at hk); refine T.sr ?_; refine TL.run 1 rfl ?_; refine TL.ns (T.ret ?_); subst hk; exact K.aj rfl rfl (fun w' hw => ⟨rfl, hw.isBelow⟩)
def zbk (s : List Int) (v_ : Int) : Int :=
  zaM (fun (_ : Unit) =>
    (-1))
  (fun k1 =>
    zaj (fun (i_3 : Nat) (next2 : Unit → Int) (_ : Unit) =>
      (bif decide (v_ = (nth s i_3)) then
        (i_3 : Int)
        else
        next2 ()))
    (fun (_ : Unit) =>
      k1 ()) (s.length - 0) 0 ())
theorem zcG (F0 : Frz) (w : World) (hF0 : F0.At w) (s : List Int) (vs : Value) (hs : SlC F0 vs 1 (s.map eI)) (v_ : Int) : Calls Tryz.prog 133 #[vs, .int .i64 v_] w fun e w' => e = .returned (.int .i64 (zbk s v_)) ∧ Below w.heap.size w w' := by
  obtain ⟨r, hk⟩ : ∃ r, zbk s v_ = r := ⟨_, rfl⟩; rw [hk]; unfold zbk at hk; haveI := hs.oneC; obtain ⟨S0, F1, rfl, hS0, hp0⟩ := zah hF0; refine zan Tryz.func133 rfl rfl rfl hp0 ?_; refine T.sr ?_; refine TL.run 1 rfl ?_; refine TL.ns (T.seq (T.sr ?_)); refine TL.run 1 rfl ?_; refine TL.y (Yv.al rfl rfl hs (List.length_map _)) ?_; have hm7 : s.length ≤ 9223372036854775807 := (List.length_map _) ▸ hs.max; refine TL.run 1 rfl ?_; refine TL.ns ?_; have hq := zaf hk; clear hk; obtain ⟨k1, hk1, hk⟩ := hq; (try dsimp only at hk); refine T.ah (ι := Unit) (fun z => []) (fun z => [.fr F1]) (fun z => k1 () = r) ?_ ?_
  · have hq := zak hk; clear hk; obtain ⟨f2, kk2, hf2, hkk2, hk⟩ := hq; refine T.block ?_; refine T.loop (ι := Nat) (fun z => [(0, vs), (1, .int .i64 v_), (7, .int .i64 (s.length : Int)), (8, .int .i64 (z : Int))]) (fun z => [.fr F1]) (fun z => zaj f2 kk2 (s.length - z) z () = r) (fun z => s.length - z) 0 ?_ ?_ ?_ ?_
    · exact hk
    · exact (.c (.c (.c (.c .nil))))
    · exact List.Sublist.refl _
    · rintro i_3 hk; refine T.sr ?_; refine TL.run 1 rfl ?_; refine TL.ns (T.seq ?_); refine T.cond rfl (fun h4 => ?_) (fun h4 => ?_)
      · have p4 := of_decide_eq_true h4; rw [zat (by omega)] at hk; generalize hn2 : zaj f2 kk2 (s.length - (i_3 + 1)) (i_3 + 1) = next2 at hk; rw [← hf2] at hk; (try dsimp only at hk); refine T.skip (K.seq (T.seq (T.block (T.sr ?_)))); refine TL.run 2 rfl ?_; refine TL.nx ?_; refine TL.run 3 rfl ?_; refine TL.y (Yv.am (i := i_3) rfl rfl rfl hs (List.length_map _) rfl (by omega)) ?_; refine TL.y (Yv.aq 0 (i := i_3) (j := 0) rfl rfl rfl hs (by omega) rfl rfl) ?_; refine TL.run 1 rfl ?_; refine TL.ns ?_; refine T.cond rfl (fun h5 => ?_) (fun h5 => ?_)
        · have p5 := of_decide_eq_true h5; replace hk := zab hk h5; refine T.sr ?_; refine TL.run 2 rfl ?_; refine TL.ns (T.ret (K.af (K.a (K.a (K.af (K.a ?_)))))); subst hk; exact K.aj rfl rfl (fun w' hw => ⟨rfl, hw.isBelow⟩)
        · have p5 := of_decide_eq_false h5; replace hk := zaa hk h5; refine T.skip (K.ac (K.seq (T.region ?_))); refine TL.y (Yv.ao rfl rfl rfl (by omega)) ?_; refine TL.run 1 rfl ?_; refine TL.nil ?_; rw [← hn2] at hk; exact K.next (i_3 + 1) hk (by omega) (.c (.c (.c (.c .nil)))) (List.Sublist.refl _)
      · have p4 := of_decide_eq_false h4; rw [zau (by omega), ← hkk2] at hk; (try dsimp only at hk); refine T.exit (K.ab (K.ab (K.ad ?_))); exact K.ag () hk .nil (List.Sublist.refl _)
  · rintro _ hk; rw [← hk1] at hk; (try dsimp only at hk); refine T.sr ?_; refine TL.run 1 rfl ?_; refine TL.ns (T.ret ?_); subst hk; exact K.aj rfl rfl (fun w' hw => ⟨rfl, hw.isBelow⟩)
def zaW (s : List Int) (v_ : Int) : Bool :=
  (decide (0 ≤ (zbk s v_)))
theorem zb1 (F0 : Frz) (w : World) (hF0 : F0.At w) (s : List Int) (vs : Value) (hs : SlC F0 vs 1 (s.map eI)) (v_ : Int) : Calls Tryz.prog 108 #[vs, .int .i64 v_] w fun e w' => e = .returned (.bool (zaW s v_)) ∧ Below w.heap.size w w' := by
  obtain ⟨r, hk⟩ : ∃ r, zaW s v_ = r := ⟨_, rfl⟩; rw [hk]; unfold zaW at hk; haveI := hs.oneC; obtain ⟨S0, F1, rfl, hS0, hp0⟩ := zah hF0; refine zan Tryz.func108 rfl rfl rfl hp0 ?_; refine T.sr ?_; refine TL.run 1 rfl ?_; refine TL.nx ?_; refine TL.run 2 rfl ?_; refine TL.e (Ew.ae rfl rfl rfl (fun w hw => zcG _ w (hw.fr (i := 0) rfl) s vs hs v_)) ?_; rintro _ _ ⟨rfl, rfl⟩; refine TL.run 2 rfl ?_; refine TL.ns (T.ret ?_); subst hk; exact K.aj rfl rfl (fun w' hw => ⟨rfl, hw.isBelow⟩)
end Go.Proofs.YtipomhejoajjdaaGreat
